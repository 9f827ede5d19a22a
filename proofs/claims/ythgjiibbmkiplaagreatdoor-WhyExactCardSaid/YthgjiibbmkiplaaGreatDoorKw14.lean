/-
  Lemmas and walks, put together: B2 C5 B3 B4 B5.
-/
import Derived.Test.YthgjiibbmkiplaaGreatDoorKw09
import Derived.Test.YthgjiibbmkiplaaGreatDoorKw11
import Derived.Test.YthgjiibbmkiplaaGreatDoorKw13
set_option linter.unusedSimpArgs false
set_option linter.unusedVariables false
set_option maxRecDepth 20000
set_option maxHeartbeats 16000000
namespace Go.SL
open Go Go.Proofs
attribute [local irreducible] W WL WQ WG WA WX WLI WR WT VOp thn blk bA scp aY bw FnAt FnIn
def Im:Option (Tk × Nat)→Value
 |some (t,n)=> .tuple #[.agg (fg t).toArray,.int .i64 (n:Int)]
 |none=> .tuple #[.agg (fg rk).toArray,.int .i64 0]
def atT (i:Nat) (o:Option (Tk × Nat)):Option (Tk × Nat):=o.map fun x=>({ x.1 with at_:=(i:Int) },x.2)
def qi (l:List Int):Option (Tk × Nat):=
 let w:=bO bX l;let p:=eM (l.drop w);let n:=if p=0 then w else w+1+p
 if w=0∨4<p then none
 else if (uV (l.take n)).2≠0 then none else some (⟨1,(uV (l.take n)).1,aS,bU,0⟩,n)
theorem oQ {c:Int} {r:List Int} (h:c=46):eM (c::r)=bO bX r:=by subst h;rfl
theorem yn {c:Int} {r:List Int} (h:c≠46):eM (c::r)=0:=by
 unfold eM;split
 ·rename_i heq;injection heq with h1 h2;exact absurd h1 h
 ·rfl
theorem L6 (a:ByteArray) (ha:a.size≤100000) (i:Nat) (hi:i≤a.size) (g:Nat) (w:World) (hr:Ro w g 0 [.string a]):
 aL Tryz.prog 229 [.pointer (some ⟨g,0,none⟩),.int .i64 (i:Int)] w (Im (atT i (qi ((aD a).drop i)))):=by
 refine aB Tryz.func229 rfl Tryz.ntmps229 rfl ?_;have hl:=aH a;have hL1:=uJ a (by omega) i hi 253 bX lM;have hwl:=fC bX ((aD a).drop i);rw [Ya] at hwl;generalize hw:bO bX ((aD a).drop i)=n at hL1 hwl;generalize hpd:eM ((aD a).drop (i+n))=p;have hN:qi ((aD a).drop i)=if n=0∨4<p then none else if (uV (((aD a).drop i).take (if p=0 then n else n+1+p))).2≠0 then none else some (⟨1,(uV (((aD a).drop i).take (if p=0 then n else n+1+p))).1,aS,bU,0⟩,if p=0 then n else n+1+p):=by
  simp only [qi,hw,Zy,hpd]
 rw [hN];have hL2:=fun h=>uJ a (by omega) (i+n+1) h 253 bX lM;have hcut: ∀ m,aD (sub a i (i+m))=((aD a).drop i).take m:=fun m=>by rw [kX,show i+m - i=m by omega]
 have hple:p≤a.size - (i+n) - 1:=by
  rw [← hpd];by_cases h:i+n<a.size
  ·rw [dD h];by_cases h46:bat a (i+n)=46
   ·rw [oQ h46];have:=fC bX ((aD a).drop (i+n+1));rw [Ya] at this;omega
   ·rw [yn h46];omega
  ·rw [Yf (by omega)];simp [eM]
 have hend: ∀ h:i+n+1<a.size,bat a (i+n)=46→(p=bO bX ((aD a).drop (i+n+1))):=fun h h46=>by
  rw [← hpd,dD (by omega),oQ h46]
 have hno: ¬ (i+n+1<a.size∧bat a (i+n)=46∧bX (bat a (i+n+1))=true)→p=0:=fun h=>by
  by_cases h1:i+n<a.size
  ·by_cases h46:bat a (i+n)=46
   ·by_cases h2:i+n+1<a.size
    ·rw [hend h2 h46,dD h2,bO,if_neg fun h3=>h ⟨h2,h46,h3⟩]
    ·rw [← hpd,dD h1,oQ h46,Yf (by omega)];rfl
   ·rw [← hpd,dD h1,yn h46]
  ·rw [← hpd,Yf (by omega)];rfl
 have hyes:i+n+1<a.size→bat a (i+n)=46→bX (bat a (i+n+1))=true→0<p:=fun h h46 h3=>by
  rw [hend h h46,dD h,bO,if_pos h3];omega
 repeat' first|apply ak;exact rfl;apply bu (o:=0) (off:=0);exact hr;exact rfl;exact rfl|apply aa;exact rfl;exact rfl;intro w hm;exact hL1 w|apply aa;exact rfl;exact rfl;intro w hm;exact lM _ w|refine J5 (id:=7) [0,1,4] rfl (ι:=Nat × Nat) (fun x=> [(7,.int .i64 (x.1:Int)),(5,.int .i64 (x.2:Int))]) (fun x=>x.1=p∧x.2=if p=0 then n else n+1+p) ?_ ?_|apply aa;exact rfl;exact rfl;intro w hm;exact hL2 (by omega) w|refine zZG ?_|refine sM fun _=>?_|refine sC ?_ ?_<;>intro hb<;>try omega|exact cT|fail
 ·(refine lB ?_);rw [if_pos (.inl (by omega))];rfl
 ·rename_i h1 h2 h3;refine fG ((bO bX ((aD a).drop (i+n+1)),n+(1+bO bX ((aD a).drop (i+n+1))))) ?_ sB mS;have h5:=hyes (by omega) h3 hb;have h6:=hend (by omega) h3;rw [← h6];exact ⟨rfl,by rw [if_neg (by omega)];omega⟩
 ·rename_i h1 h2 h3;refine fG ((0,n)) ?_ sB mS;have:=hno fun h=>by rw [hb] at h;cases h.2.2
  exact ⟨this.symm,by rw [if_pos this]⟩
 ·refine fG ((0,n)) ?_ sB mS;have:=hno fun h=>hb h.2.1;exact ⟨this.symm,by rw [if_pos this]⟩
 ·refine fG ((0,n)) ?_ sB mS;have:=hno fun h=>by omega
  exact ⟨this.symm,by rw [if_pos this]⟩
 rintro ⟨p',m⟩ ⟨rfl,hm⟩;have hn0:n≠0:=by omega
 dsimp only at hm ⊢;rw [← hm];by_cases h4:4<p'
 ·rw [if_pos (.inr h4)];repeat' (first|refine zZE ?_|refine sM fun _=>?_|refine sC ?_ ?_<;>intro hb<;>try omega|exact cT|fail)
  all_goals first|omega|(refine lB ?_);rfl
 ·rw [if_neg (by omega)];have him:i+m≤a.size:=by rw [hm];split<;>omega
  have hP:=vW (sub a i (i+m)) (by rw [ed _ him];omega);rw [hcut m] at hP;generalize uV (((aD a).drop i).take m)=q at hP;repeat' (first|apply ak;exact rfl;apply bu (o:=0) (off:=0);exact hr;exact rfl;exact rfl|apply aa;exact rfl;exact rfl;intro w hm;exact hP w|refine zZG ?_|refine sM fun _=>?_|refine sC ?_ ?_<;>intro hb<;>try omega|exact cT|fail)
  ·(refine lB ?_);rw [if_pos hb];rfl
  ·(refine lB ?_);rw [if_neg hb];rfl
theorem mI (a:ByteArray) (j:Nat):((aD a).drop j).headD 0=bat a j:=by
 rw [bat,List.headD_eq_head?_getD,List.head?_drop,Zf]
theorem C8 (a:ByteArray) (ha:a.size≤100000) (j:Nat) (g:Nat) (w:World) (hr:Ro w g 0 [.string a]):
 aL Tryz.prog 257 [.pointer (some ⟨g,0,none⟩),.int .i64 (j:Int)] w (.int .u8 (bat a j)):=by
 refine aB Tryz.func257 rfl Tryz.ntmps257 rfl ?_;have hl:=aH a;repeat' (first|apply ak;exact rfl;apply bu (o:=0) (off:=0);exact hr;exact rfl;exact rfl|refine zZG ?_|refine sM fun _=>?_|refine sC ?_ ?_<;>intro hb<;>try omega|exact cT|fail)
 ·(refine rT1 ?_)
  rfl
 ·(refine rT1 ?_);have e:bat a j=0:=by rw [bat,Zf,Yx (by omega)];rfl
  rw [e]
def upW (l:List Int):List Int:=(l.take (bO fk l)).map upC
theorem xP (l:List Int):(upW l).length=bO fk l:=by
 have:=fC fk l;simp [upW];omega
theorem NW {l:List Int} (h:jb l):jb (upW l):=by
 intro c hc;obtain ⟨d,hd,rfl⟩:=Xu.1 hc;have:=h d (Zd hd);unfold upC;split<;>omega
theorem FC (a:ByteArray) (ha:a.size≤100000) (i:Nat) (hi:i≤a.size) (g:Nat) (w:World) (hr:Ro w g 0 [.string a]):
 aL Tryz.prog 256 [.pointer (some ⟨g,0,none⟩),.int .i64 (i:Int)] w (.string (mkB (upW ((aD a).drop i)))):=by
 refine aB Tryz.func256 rfl Tryz.ntmps256 rfl ?_;have hl:=aH a;have hL:=uJ a (by omega) i hi 278 fk L9;have hwl:=fC fk ((aD a).drop i);rw [Ya] at hwl;unfold upW;generalize bO fk ((aD a).drop i)=n at hL hwl;have hU:=tV (sub a i (i+n)) (by rw [ed _ (by omega)];omega);have e:upB (sub a i (i+n))=mkB ((((aD a).drop i).take n).map upC):=by rw [upB,kX,show i+n - i=n by omega]
 rw [e] at hU;repeat' (first|apply ak;exact rfl;apply bu (o:=0) (off:=0);exact hr;exact rfl;exact rfl|apply aa;exact rfl;exact rfl;intro w hm;exact hL w|apply aa;exact rfl;exact rfl;intro w hm;exact hU w|refine zZG ?_|refine sM fun _=>?_|refine sC ?_ ?_<;>intro hb<;>try omega|exact cT|fail)
 (refine rT1 ?_)
 rfl
def fT:List Int→Option Nat
 | []=>none
 |c::r=>if c≠34 then (fT r).map (· +1) else match r with
  | []=>some 0
  |d::r' =>if d=34 then (fT r').map (· +2) else some 0
theorem vY {c:Int} {r:List Int} (h:c≠34):fT (c::r)=(fT r).map (· +1):=by rw [fT.eq_def];simp [h]
def E2 (l:List Int):Option (Tk × Nat):=
 if l.headD 0≠34 then none
 else match fT (l.drop 1) with
  |none=>none
  |some k=>if (jH (l.take (k+2))).2≠0 then none else some (⟨2,0,mkB (jH (l.take (k+2))).1,bU,0⟩,k+2)
theorem Rs (a:ByteArray) (ha:a.size≤100000) (i:Nat) (hi:i<a.size) (g:Nat) (w:World) (hr:Ro w g 0 [.string a]):
 aL Tryz.prog 230 [.pointer (some ⟨g,0,none⟩),.int .i64 (i:Int)] w (Im (atT i (E2 ((aD a).drop i)))):=by
 refine aB Tryz.func230 rfl Tryz.ntmps230 rfl ?_;have hl:=aH a;unfold E2;rw [mI,Zy];by_cases h34:bat a i=34
 ·rw [if_neg (by omega)];have hcut: ∀ m,aD (sub a i (i+m))=((aD a).drop i).take m:=fun m=>by rw [kX,show i+m - i=m by omega]
  repeat' first|apply ak;exact rfl;apply bu (o:=0) (off:=0);exact hr;exact rfl;exact rfl|refine zZG ?_|refine sM fun _=>?_|refine sC ?_ ?_<;>intro hb<;>try omega|exact cT|fail
  all_goals try omega
  rename_i g4;generalize hC:fT ((aD a).drop (i+1))=C;refine ax [0,1,4,5] rfl (fun j:Nat=> [(6,.int .i64 (j:Int))]) (fun _=> [.box g4 277 (fg rk)]) (fun j=>i+1≤j∧j≤a.size∧C=(fT ((aD a).drop j)).map (· +(j - (i+1)))) (fun j=>a.size - j) (i+1) ⟨by omega,by omega,by rw [hC];simp⟩ sB mS ?_;rintro j ⟨hj1,hj2,hj3⟩;by_cases hlt:j<a.size
  ·rw [dD hlt] at hj3;by_cases hq:bat a j=34
   ·by_cases hn:j+1<a.size∧bat a (j+1)=34
    ·rw [dD hn.1,hq,hn.2] at hj3;simp only [fT,ne_eq,not_true_eq_false,if_false,if_true,Zq] at hj3;have hn1:=hn.1;repeat' (first|apply ak;exact rfl;apply bu (o:=0) (off:=0);exact hr;exact rfl;exact rfl|refine zZG ?_|refine sM fun _=>?_|refine sC ?_ ?_<;>intro hb<;>try omega|exact cT|fail)
     all_goals try omega
     refine ⟨j+2,?_,(by first|omega|dsimp only;omega),sB,sB,mS⟩;refine ⟨by omega,by omega,?_⟩;rw [hj3,show j+1+1=j+2 by omega];congr 1;funext k;simp only [Function.comp];omega
    ·have hC0:C=some (j - (i+1)):=by
      rw [hj3,hq];by_cases h1:j+1<a.size
      ·rw [dD h1];have h2:bat a (j+1)≠34:=fun h=>hn ⟨h1,h⟩;simp [fT,h2]
      ·rw [Yf (i:=j+1) (by omega)];simp [fT]
     rw [hC0];dsimp only;have hm:j - (i+1)+2=j+1 - i:=by omega
     rw [hm];have hc:=hcut (j+1 - i);rw [show i+(j+1 - i)=j+1 by omega] at hc;have hP:=JJ (sub a i (j+1)) (by rw [ed _ (by omega)];omega);rw [hc] at hP;generalize jH (((aD a).drop i).take (j+1 - i))=q at hP;repeat' (first|apply ak;exact rfl;apply bu (o:=0) (off:=0);exact hr;exact rfl;exact rfl|apply aa;exact rfl;exact rfl;intro w hm;exact hP w|refine zZG ?_|refine sM fun _=>?_|refine sC ?_ ?_<;>intro hb<;>try omega|exact cT|fail)
     all_goals first|omega|((refine lB ?_);first|rw [if_pos hb];rfl|rw [if_neg hb];rfl)
   ·rw [vY hq,Zq] at hj3;repeat' (first|apply ak;exact rfl;apply bu (o:=0) (off:=0);exact hr;exact rfl;exact rfl|refine zZG ?_|refine sM fun _=>?_|refine sC ?_ ?_<;>intro hb<;>try omega|exact cT|fail)
    all_goals try omega
    refine ⟨j+1,?_,(by first|omega|dsimp only;omega),sB,sB,mS⟩;refine ⟨by omega,by omega,?_⟩;rw [hj3];congr 1;funext k;simp only [Function.comp];omega
  ·rw [Yf (by omega)] at hj3;rw [hj3];dsimp only [fT,Option.map];repeat' (first|apply ak;exact rfl;apply bu (o:=0) (off:=0);exact hr;exact rfl;exact rfl|refine zZG ?_|refine sM fun _=>?_|refine sC ?_ ?_<;>intro hb<;>try omega|exact cT|fail)
   all_goals try omega
   (refine lB ?_)
   rfl
 ·rw [if_pos (by omega)];repeat' (first|apply ak;exact rfl;apply bu (o:=0) (off:=0);exact hr;exact rfl;exact rfl|refine zZG ?_|refine sM fun _=>?_|refine sC ?_ ?_<;>intro hb<;>try omega|exact cT|fail)
  all_goals try omega
  (refine lB ?_)
  rfl
attribute [local irreducible] FnP aX
instance iN6:FldT Tryz.prog 277 0 5 0:=⟨_,_,Tryz.underlying277,rfl,rfl,rfl⟩
theorem BS {f:Nat} {fn:Int} {n:Nat} {fin:Int} {p p' :PS} {m:Nat} (h:MV f fn n fin p=some (.ok (m,p'))):p.out.length<p'.out.length:=by
 unfold MV at h;split at h
 ·obtain ⟨m',q,h1,h2⟩:=gR h;cases h2;exact (kw _ _ _ _ _ _ h1).some trivial
 ·split at h
  ·cases h
  ·cases h;simp [PS.put,PS.skip]
theorem Jj {fin:Int} {name:Tk} {fn:Int} {n:Nat} {p:PS} {x:Nd} (hx:p.out[p.out.length - 1]? =some x):eU fin name fn n p=
 if (hdT fin p.l).kind≠10 then some (.error ((hdT fin p.l).at_,4))
 else if (n:Int)<(iO fn).1∨(iO fn).2.1<(n:Int) then some (.error (name.at_,11))
 else if 46≤fn∧x.kind≠2∧x.kind≠3 then some (.error (name.at_,4))
 else some (.ok (0,p.skip.put ⟨7,cU,bU,0,fn,n⟩)):=by
 have hx' :p.out.getLast? =some x:=by rw [Zx];exact hx
 unfold eU;simp only [hx',Ys,Option.some.injEq,decide_eq_true_eq,ne_eq,not_or]
theorem MU {fn:Int} (h1:1≤fn) (h2:fn≤50):1≤(iO fn).1:=by
 unfold iO;repeat' split
 all_goals first
  |decide
  |rename_i h;simp [Dd,h1,h2] at h
theorem At.head' {toks:List Tk} {A:Option Nat} {cap:Nat} {fin:Int} {g:Nat} {p:PS} {lv:Value} (h:At toks A cap p lv) {u:Tk} (hu:hdT fin p.l=u) {B:Option Nat} {cb:Nat} {out:List Nd} {H:List Blk} {w0:World} (hH:MSub (pB g lv A cap fin toks B cb out) H) (w:World) (hm:Mem w0 w H):
 aL Tryz.prog 170 [.pointer (some ⟨g,0,none⟩)] w (.agg (fg u).toArray):=hu ▸ At.head h hH w hm
open Classical in
noncomputable def DD (f:Nat) (t:Tk) (GZ:Nat→Tk→Int→PS→Option Out) (fin:Int) (p:PS):Option Out:=if hdT fin p.l=t∧t.kind=7 then GZ f t fin p else none
def GZ (f:Nat) (t:Tk) (fin:Int) (p:PS):Option Out:=
 if (db t.text).2≠0 then some (.error (t.at_,10))
 else
  let u:=hdT fin p.skip.l
  if u.kind≠9 then some (.error (u.at_,4))
  else if (hdT fin p.skip.skip.l).kind=10 then eU fin t (db t.text).1 0 p.skip.skip
  else gG (cy fin f (.args (db t.text).1 0) p.skip.skip) fun n p=>eU fin t (db t.text).1 n p
theorem SF (f:Nat) (t:Tk) (ih: ∀ f' ≤f,POK f' (.level 1) 169 []):SS (DD f t GZ) 298 [.agg (fg t).toArray]:=by
 intro toks A cap fin g p lv B cb r R w0 hc hl hat hrun;refine yR Tryz.func298 rfl Tryz.ntmps298 rfl ?_;unfold DD at hrun;by_cases ht: ¬ (hdT fin p.l=t∧t.kind=7)
 ·rw [if_neg ht] at hrun;cases hrun
 have ht:=Classical.not_not.1 ht;rw [if_pos ht] at hrun;obtain ⟨ht,ht7⟩:=ht;have hF:=fun w=>HH t.text w;unfold GZ at hrun;obtain ⟨fn,fe,hfe⟩: ∃ fn fe,db t.text=(fn,fe):=⟨_,_,rfl⟩;have hfn:fe=0→1≤fn∧fn≤50:=by
  intro h;subst h;have hb1:=qP lU t.text 0 (by omega);rw [qL] at hb1;unfold db at hfe;split at hfe<;>cases hfe;omega
 rw [hfe] at hrun hF;dsimp only at hF;by_cases h0:fe≠0
 ·rw [if_pos h0] at hrun;cases hrun;repeat' (first|apply aa (f:=301);exact rfl;exact rfl;intro w' _;exact hF w'|refine bL (f:=171) rfl rfl (jK _ _ _ _ _ (fun _ _=>False)) ?_ ?_|exact fun _ _ h=>h.elim|rintro _ _ ⟨rfl,rfl⟩|refine zZC ?_|refine sM fun _=>?_|refine sC ?_ ?_<;>intro hb<;>try omega|exact cT|fail)
  all_goals first
   |omega
   | (refine cR rfl ?_
      simp only [XH,Xc,Xd,pB];exact mS)
 rw [if_neg h0] at hrun;dsimp only at hrun;obtain ⟨hfn1,hfn2⟩:=hfn (by omega);by_cases hw9:(hdT fin p.skip.l).kind≠9
 ·rw [if_pos hw9] at hrun;cases hrun;repeat' (first|apply aa (f:=301);exact rfl;exact rfl;intro w' _;exact hF w'|apply aj (f:=266);exact rfl;exact rfl;exact hat.skip hc (c:=7) (by rw [ht];exact ht7) (by decide) (MSub.pick pK (MSub.pick pK (MSub.pick pK (MSub.refl _))));rintro _ _ ⟨rfl,lv1,h1,rfl⟩|refine bL (f:=297) rfl rfl (FnP.msub (Cy 9 (by decide) toks A cap fin g p.skip lv1 B cb _ _ w0 hc hl (At1.at h1) (by unfold J1;rw [if_pos hw9])) (MSub.pick pK (MSub.pick pK (MSub.pick pK (MSub.refl _))))) ?_ ?_|(rintro _ _ ⟨rfl,n,p',lv',B',cb',h,h2,rfl⟩;cases h)|(rintro _ _ ⟨e,h,rfl,h3⟩;cases h)|refine zZC ?_|refine sM fun _=>?_|refine sC ?_ ?_<;>intro hb<;>try omega|exact cT|fail)
  all_goals first
   |omega
   | (refine cR rfl (MSub.trans ?_ h3)
      simp only [XH,Xc,Xd,pB];exact mS)
 rw [if_neg hw9] at hrun;repeat' (first|apply aa (f:=301);exact rfl;exact rfl;intro w' _;exact hF w'|apply aj (f:=266);exact rfl;exact rfl;exact hat.skip hc (c:=7) (by rw [ht];exact ht7) (by decide) (MSub.pick pK (MSub.pick pK (MSub.pick pK (MSub.refl _))));rintro _ _ ⟨rfl,lv1,h1,rfl⟩|refine bL (f:=297) rfl rfl (FnP.msub (Cy 9 (by decide) toks A cap fin g p.skip lv1 B cb _ _ w0 hc hl (At1.at h1) (by unfold J1;rw [if_neg hw9])) (MSub.pick pK (MSub.pick pK (MSub.pick pK (MSub.refl _))))) ?_ ?_|(rintro _ _ ⟨rfl,n,p',lv',B',cb',h,h2,rfl⟩;cases h)|(rintro _ _ ⟨e,h,rfl,h3⟩;cases h)|rename_i g3;refine QT (id:=7) (ι:=Nat × PS × Value × Option Nat × Nat) [0,3,4] rfl (fun x=> [(6,.int .i64 (x.1:Int))]) (fun x=> .box g3 277 (fg t)::(pB g x.2.2.1 A cap fin toks x.2.2.2.1 x.2.2.2.2 x.2.1.out++R)) (fun x=>x.1≤x.2.1.out.length∧At toks A cap x.2.1 x.2.2.1∧eU fin t fn x.1 x.2.1=some r) ?_ ?_|refine zZC ?_|refine sM fun _=>?_|refine sC ?_ ?_<;>intro hb<;>try omega|exact cT|fail)
 ·obtain ⟨u,hu⟩: ∃ u,hdT fin p.skip.skip.l=u:=⟨_,rfl⟩;rw [hu] at hrun;by_cases h10:u.kind=10
  ·rw [if_pos h10] at hrun;repeat' (first|apply ak;exact rfl;apply jW;exact rfl;exact rfl|apply aa (f:=170);exact rfl;exact rfl;intro w' hm';exact At.head' (B:=B') (cb:=cb') (out:=p.skip.skip.out) (g:=g) (fin:=fin) h2 hu (MSub.pick pK (MSub.pick pK (MSub.pick pK (MSub.nil _)))) w' hm'|refine fG ((0,p.skip.skip,lv',B',cb')) ?_ sB mS|refine zZC ?_|refine sM fun _=>?_|refine sC ?_ ?_<;>intro hb<;>try omega|exact cT|fail)
   all_goals first|omega|exact ⟨Xn _,h2,hrun⟩
  ·rw [if_neg h10] at hrun;obtain ⟨r1,hr1,hr2⟩:=d9 hrun;repeat' (first|apply ak;exact rfl;apply jW;exact rfl;exact rfl|apply aa (f:=170);exact rfl;exact rfl;intro w' hm';exact At.head' (B:=B') (cb:=cb') (out:=p.skip.skip.out) (g:=g) (fin:=fin) h2 hu (MSub.pick pK (MSub.pick pK (MSub.pick pK (MSub.nil _)))) w' hm'|refine zZC ?_|refine sM fun _=>?_|refine sC ?_ ?_<;>intro hb<;>try omega|exact cT|fail)
   all_goals first
    |omega
    |skip
   refine ax [0,3,4] rfl (fun x:Nat × Nat × PS × Value × Option Nat × Nat=> [(6,.int .i64 (x.2.1:Int))]) (fun x=> .box g3 277 (fg t)::(pB g x.2.2.2.1 A cap fin toks x.2.2.2.2.1 x.2.2.2.2.2 x.2.2.1.out++R)) (fun x=>x.1≤f∧x.2.1≤x.2.2.1.out.length∧At toks A cap x.2.2.1 x.2.2.2.1∧cy fin x.1 (.args fn x.2.1) x.2.2.1=some r1) (fun x=>x.1) (f,0,p.skip.skip,lv',B',cb') ⟨Xy _,Xn _,h2,hr1⟩ sB ?_ ?_
   ·simp only [XH,Xc,Xd,pB];exact mS
   rintro ⟨f',n',q,lq,Bq,cq⟩ ⟨hf',hn',hq1,hq2⟩;dsimp only at hf' hn' hq1 hq2 ⊢
   cases f' with
   |zero=>cases hq2
   |succ f' =>
     rw [SH] at hq2;have hn6:n' ≤1000000:=XU hn' (At.len hq1 hl);obtain ⟨r2,hr3,hr4⟩:=d9 hq2;repeat' (first|refine bL (f:=302) rfl rfl (FnP.msub (G7 f' fn n' (ih f' (by omega)) toks A cap fin g q lq Bq cq r2 _ w0 hc hl hq1 hr3) (MSub.pick pK (MSub.pick pK (MSub.pick pK (MSub.refl _))))) ?_ ?_|rintro _ _ ⟨rfl,n2,q2,lv2,B2,cb2,rfl,h6,rfl⟩;obtain ⟨u2,hu2⟩: ∃ u,hdT fin q2.l=u:=⟨_,rfl⟩|rintro _ _ ⟨e,rfl,rfl,h3⟩|apply ak;exact rfl;apply jW;exact rfl;exact rfl|apply aa (f:=170);exact rfl;exact rfl;intro w' hm';exact At.head' (B:=B2) (cb:=cb2) (out:=q2.out) (g:=g) (fin:=fin) h6 hu2 (MSub.pick pK (MSub.pick pK (MSub.pick pK (MSub.nil _)))) w' hm'|apply aj (f:=266);exact rfl;exact rfl;exact h6.skip hc (c:=11) (by rw [hu2];omega) (by decide) (MSub.pick pK (MSub.pick pK (MSub.pick pK (MSub.refl _))));rintro _ _ ⟨rfl,lv3,h7,rfl⟩|refine fG ((n' +1,q2,lv2,B2,cb2)) ?_ sB mS|refine sT ?_|refine sP ?_|refine sN ?_|refine sM fun _=>?_|refine sC ?_ ?_<;>intro hb<;>try omega|exact cT|fail)
     ·rcases hr4 with ⟨e,h,_⟩|⟨n3,p3,h,h7⟩
      ·cases h
      ·cases h;rw [hu2,if_neg (by omega)] at h7;rcases hr2 with ⟨e,h,_⟩|⟨n4,p4,h,h8⟩
       ·rw [h] at h7;cases h7
       ·rw [h] at h7;cases h7;have:=BS hr3;exact ⟨by dsimp only;omega,h6,h8⟩
     ·rcases hr4 with ⟨e,h,_⟩|⟨n3,p3,h,h7'⟩
      ·cases h
      ·cases h;rw [hu2,if_pos (by omega)] at h7';have:=BS hr3;refine ⟨(f',n' +1,q2.skip,lv3,B2,cb2),⟨by dsimp only;omega,by dsimp only [PS.skip];omega,At1.at h7,h7'⟩,Nat.lt_succ_self _,sB,sB,?_⟩;simp only [XH,Xc,Xd,pB];exact mS
     ·rcases hr4 with ⟨e',h,h7⟩|⟨n3,p3,h,h7⟩
      ·cases h;rcases hr2 with ⟨e4,h,h8⟩|⟨n4,p4,h,h8⟩
       ·rw [h] at h7;cases h7;exact cR h8 (MSub.trans (.drop .hd (.refl _)) h3)
       ·rw [h] at h7;cases h7
      ·cases h
 ·rintro ⟨n,q,lq,Bq,cq⟩ ⟨hn',hq1,hq2⟩;dsimp only at hn' hq1 hq2 ⊢;obtain ⟨u,hu⟩: ∃ u,hdT fin q.l=u:=⟨_,rfl⟩;have hap:=MU hfn1 hfn2;have hA:=fun w=>zl fn w;obtain ⟨least,most,ae,hae⟩: ∃ a b c,iO fn=(a,b,c):=⟨_,_,_,rfl⟩;rw [hae] at hA hap;dsimp only at hA hap;by_cases h10:u.kind≠10
  ·simp only [eU,hu,if_pos h10] at hq2;cases hq2;repeat' (first|apply ak;exact rfl;apply jW;exact rfl;exact rfl|apply aa (f:=170);exact rfl;exact rfl;intro w' hm';exact At.head' (B:=Bq) (cb:=cq) (out:=q.out) (g:=g) (fin:=fin) hq1 hu (MSub.pick pK (MSub.pick pK (MSub.pick pK (MSub.nil _)))) w' hm'|refine bL (f:=171) rfl rfl (jK _ _ _ _ _ (fun _ _=>False)) ?_ ?_|exact fun _ _ h=>h.elim|rintro _ _ ⟨rfl,rfl⟩|refine zZC ?_|refine sM fun _=>?_|refine sC ?_ ?_<;>intro hb<;>try omega|exact cT|fail)
   all_goals first
    |omega
    | (refine cR rfl ?_
       simp only [XH,Xc,Xd,pB];exact mS)
  by_cases hlm:(n:Int)<least∨most<(n:Int)
  ·simp only [eU,hu,if_neg h10,hae,if_pos hlm] at hq2;cases hq2;repeat' (first|apply ak;exact rfl;apply jW;exact rfl;exact rfl|apply aa (f:=170);exact rfl;exact rfl;intro w' hm';exact At.head' (B:=Bq) (cb:=cq) (out:=q.out) (g:=g) (fin:=fin) hq1 hu (MSub.pick pK (MSub.pick pK (MSub.pick pK (MSub.nil _)))) w' hm'|apply aa (f:=283);exact rfl;exact rfl;intro w' _;exact hA w'|refine bL (f:=171) rfl rfl (jK _ _ _ _ _ (fun _ _=>False)) ?_ ?_|exact fun _ _ h=>h.elim|rintro _ _ ⟨rfl,rfl⟩|refine zZC ?_|refine sM fun _=>?_|refine sC ?_ ?_<;>intro hb<;>try omega|exact cT|fail)
   all_goals first
    |omega
    | (refine cR rfl ?_
       simp only [XH,Xc,Xd,pB];exact mS)
  have hpos:0<q.out.length:=by omega
  have hol:q.out.length≤1000000:=At.len hq1 hl;obtain ⟨x,hx⟩: ∃ x,q.out[q.out.length - 1]? =some x:=⟨_,Xf (by omega)⟩;rw [Jj hx,hu,hae,if_neg h10] at hq2;dsimp only at hq2;rw [if_neg hlm] at hq2;refine aU (A:=Bq) (by simp only [XH,Xc,Xd,pB];exact pK) hpos fun gb hB=> ?_;subst hB;by_cases hkx:46≤fn∧x.kind≠2∧x.kind≠3
  ·rw [if_pos hkx] at hq2;cases hq2;repeat' (first|apply ak;exact rfl;apply jW;exact rfl;exact rfl|apply aa (f:=170);exact rfl;exact rfl;intro w' hm';exact At.head' (B:=some gb) (cb:=cq) (out:=q.out) (g:=g) (fin:=fin) hq1 hu (MSub.pick pK (MSub.pick pK (MSub.pick pK (MSub.nil _)))) w' hm'|apply aa (f:=283);exact rfl;exact rfl;intro w' _;exact hA w'|apply aQ;exact rfl;apply cQ;exact rfl;exact rfl;exact hpos;simp only [maxLen];omega|apply aQ;exact rfl;apply ai;exact rfl;exact rfl;omega|apply aQ;exact rfl;apply ve (k:=0);exact lu;exact rfl;exact pK;decide;exact hx;exact rfl|refine bL (f:=171) rfl rfl (jK _ _ _ _ _ (fun _ _=>False)) ?_ ?_|exact fun _ _ h=>h.elim|rintro _ _ ⟨rfl,rfl⟩|refine sT ?_|refine sP ?_|refine sQ ?_|refine sN ?_|refine sNQ ?_|refine sD ?_|refine sM fun _=>?_|refine sC ?_ ?_<;>intro hb<;>try omega|refine sCQ ?_ ?_<;>intro hb<;>try omega|exact cT|fail)
   all_goals first
    |omega
    | (refine cR rfl ?_
       simp only [XH,Xc,Xd,pB];exact mS)
  ·rw [if_neg hkx] at hq2;cases hq2;repeat' (first|apply ak;exact rfl;apply jW;exact rfl;exact rfl|apply aa (f:=170);exact rfl;exact rfl;intro w' hm';exact At.head' (B:=some gb) (cb:=cq) (out:=q.out) (g:=g) (fin:=fin) hq1 hu (MSub.pick pK (MSub.pick pK (MSub.pick pK (MSub.nil _)))) w' hm'|apply aa (f:=283);exact rfl;exact rfl;intro w' _;exact hA w'|apply aQ;exact rfl;apply cQ;exact rfl;exact rfl;exact hpos;simp only [maxLen];omega|apply aQ;exact rfl;apply ai;exact rfl;exact rfl;omega|apply aQ;exact rfl;apply ve (k:=0);exact lu;exact rfl;exact pK;decide;exact hx;exact rfl|apply aj (f:=266);exact rfl;exact rfl;exact hq1.skip hc (c:=10) (by rw [hu];omega) (by decide) (MSub.pick pK (MSub.pick pK (MSub.pick pK (MSub.refl _))));rintro _ _ ⟨rfl,lv1,h1',rfl⟩|apply aj (f:=267);exact rfl;exact rfl;exact FnIn.msub (lL ⟨7,cU,bU,0,fn,n⟩ _ _ _ _ _ _ _ _ _ (At.len hq1 hl) _ _) (MSub.pick pK (MSub.pick pK (MSub.pick pK (MSub.refl _))));rintro _ _ ⟨rfl,B3,cb3,rfl⟩|refine sT ?_|refine sP ?_|refine sQ ?_|refine sN ?_|refine sNQ ?_|refine sD ?_|refine sM fun _=>?_|refine sC ?_ ?_<;>intro hb<;>try omega|refine sCQ ?_ ?_<;>intro hb<;>try omega|exact cT|fail)
   all_goals first
    |omega
    | (refine eR (p' := q.skip.put ⟨7, cU, bU, 0, fn, n⟩) (B' := B3) (cb' := cb3) (by first | exact .inr rfl | exact .inl rfl) rfl rfl (h1'.put _) ?_
       simp only [XH,Xc,Xd,pB];exact mS)
end Go.SL
namespace Go.SL
open Go Go.Proofs
attribute [local irreducible] W WL WQ WG WA WX WLI WR WT VOp thn blk bA scp aY bw FnAt FnIn
theorem RQ {l m:List Int} (hl:jb l) (hm:jb m):mkB l=mkB m↔l=m:=⟨fun h=>by rw [← o3 hl,← o3 hm,h],fun h=>by rw [h]⟩
theorem qQ (a b:ByteArray) (w:World):aL Tryz.prog 220 [.string a,.string b] w (.bool (decide ((aD a).take b.size=aD b))):=by
 refine aB Tryz.func220 rfl Tryz.ntmps220 rfl ?_;have ha:=aH a;have hb' :=aH b;have e: ∀ h:b.size≤a.size,decide (sub a 0 b.size=b)=decide ((aD a).take b.size=aD b):=fun h=>by
  rw [decide_eq_decide,← De];exact ⟨fun h=>by rw [h],fun h=>F7 h⟩
 repeat' first|refine zZE ?_|refine sM fun _=>?_|refine sC ?_ ?_<;>intro hb<;>try omega|fail
 ·rw [e (by omega)];refine rT1 ?_
  rfl
 ·(refine rT1 ?_);rw [decide_eq_false];intro h;have:=congrArg List.length h;rw [XA] at this;omega
theorem Dh (a b:ByteArray) (w:World):aL Tryz.prog 262 [.string a,.string b] w (.bool (decide ((aD a).take b.size=aD b))):=by
 refine aB Tryz.func262 rfl Tryz.ntmps262 rfl ?_;repeat' (first|apply aa;exact rfl;exact rfl;intro w hm;exact qQ a b w|refine sT ?_|refine sM fun _=>?_|refine sC ?_ ?_<;>intro hb<;>try omega|fail)
 (refine rT1 ?_)
 rfl
theorem yC (c:Int) (w:World):aL Tryz.prog 259 [.int .i64 c] w (.bool (decide (1≤c) && decide (c≤5))):=by
 refine aB Tryz.func259 rfl Tryz.ntmps259 rfl ?_;repeat' (first|refine sT ?_|refine sM fun _=>?_|refine sC ?_ ?_<;>intro hb<;>try omega|fail)
 all_goals ((refine rT1 ?_);simp_all<;>omega)
theorem Dp {k:Nat} (h1:1≤k) (h2:k≤5): ∃ s,ll.drop (k - 1)=s::ll.drop k∧fo.getD k aS=mkB s∧jb s∧s.length≤10:=by
 rcases (by omega:k=1∨k=2∨k=3∨k=4∨k=5) with rfl|rfl|rfl|rfl|rfl<;>refine ⟨_,rfl,rfl,?_,by decide⟩<;>(intro c hc;simp at hc;omega)
theorem oU (l:List Int):(mkB l).size=l.length:=by simp [mkB,ByteArray.size]
def Gw (l:List Int):Option (Tk × Nat):=(vT l ll 1).map fun x=>(⟨4,x.1,aS,bU,0⟩,x.2)
theorem Si (a:ByteArray) (ha:a.size≤100000) (i:Nat) (hi:i≤a.size) (g:Nat) (w:World) (hr:Ro w g 0 [.string a]) (hW:Words w):
 aL Tryz.prog 232 [.pointer (some ⟨g,0,none⟩),.int .i64 (i:Int)] w (Im (atT i (Gw ((aD a).drop i)))):=by
 refine aB Tryz.func232 rfl Tryz.ntmps232 rfl ?_;have hl:=aH a;unfold Gw;generalize hF:vT ((aD a).drop i) ll 1=F;repeat' (first|refine zZE ?_|refine sM fun _=>?_|refine sC ?_ ?_<;>intro hb<;>try omega|fail)
 rename_i g4;refine ax [0,1,4,5] rfl (fun k:Nat=> [(6,.int .i64 (k:Int))]) (fun _=> [.box g4 277 (fg rk)]) (fun k=>1≤k∧k≤6∧F=vT ((aD a).drop i) (ll.drop (k - 1)) k) (fun k=>6 - k) 1 ⟨by omega,by omega,hF.symm⟩ sB mS ?_;rintro k ⟨hk1,hk2,hk3⟩;by_cases hk:k≤5
 ·obtain ⟨s,e1,e2,e3,e4⟩:=Dp hk1 hk;have e5:mL (k:Int)=⟨4,(k:Int),aS⟩:=by rw [mL,if_neg (by omega)]
  have hFa:=nW (k:Int);rw [e5] at hFa;have hSh:=fun w' h=>SP (k:Int) (by omega) (by omega) w' h;rw [Zh,e2] at hSh;rw [e1,vT] at hk3;have hlit:(decide (1≤(k:Int)) && decide ((k:Int)≤5))=true:=by simp;omega
  have hL:=yC (k:Int);rw [hlit] at hL;have hms:=oU s;have hcut:aD (sub a i (i+s.length))=((aD a).drop i).take s.length:=by rw [kX,show i+s.length - i=s.length by omega]
  have hU:=fun h=>tV (sub a i (i+s.length)) h;have hdec:upB (sub a i (i+s.length))=mkB s↔(((aD a).drop i).take s.length).map upC=s:=by
   rw [upB,hcut,RQ _ e3];rw [← hcut,← Pm];exact qo _
  rw [← hms] at hU hdec hk3;repeat' (first|apply ak;exact rfl;apply bu (o:=0) (off:=0);exact hr;exact rfl;exact rfl|apply aa;exact rfl;exact rfl;intro w hm;exact hL w|apply aa;exact rfl;exact rfl;intro w hm;exact hFa w|apply aa;exact rfl;exact rfl;intro w' hm;exact hSh w' (hW.next hm)|apply aa;exact rfl;exact rfl;intro w hm;exact hU (by rw [ed _ (by omega)];omega) w|refine zZG ?_|refine sM fun _=>?_|refine sC ?_ ?_<;>intro hb<;>try omega|fail)
  ·(refine lB ?_);rw [hk3,if_pos (hdec.1 hb)]
   rfl
  ·refine ⟨k+1,?_,(by first|omega|dsimp only;omega),sB,sB,mS⟩;refine ⟨by omega,by omega,?_⟩;rw [hk3,if_neg fun h=>hb (hdec.2 h)]
   rfl
  ·refine ⟨k+1,?_,(by first|omega|dsimp only;omega),sB,sB,mS⟩;refine ⟨by omega,by omega,?_⟩;rw [hk3,if_neg]
   ·rfl
   ·intro h;have:=congrArg List.length h;rw [Xq,XA,Ya] at this;omega
 ·have e:k=6:=by omega
  subst e;rw [show ll.drop (6 - 1)= [] from rfl,vT] at hk3;rw [hk3];have hL:=yC 6;rw [show (decide (1≤(6:Int)) && decide ((6:Int)≤5))=false from rfl] at hL;repeat' (first|apply aa;exact rfl;exact rfl;intro w hm;exact hL w|refine zZE ?_|refine sM fun _=>?_|refine sC ?_ ?_<;>intro hb<;>try omega|fail)
  all_goals try omega
  (refine lB ?_)
  rfl
def Ko:List Value:=j5.map fun x=> .string (mkB x.1)
def Kq:List Value:=j5.map fun x=> .int .i64 x.2
theorem CZ (w:World):FnAt Tryz.prog 261 [] w fun v H=> ∃ g g',v= .tuple #[sl (some g) 13 13,sl (some g') 13 13]∧H= [.own (some g) 9 1 13 13 Ko,.own (some g') 2 1 13 13 Kq]:=by
 refine aB Tryz.func261 rfl Tryz.ntmps261 rfl ?_;repeat' (first|refine sT ?_|refine sM fun _=>?_|refine sC ?_ ?_<;>intro hb<;>try omega|fail)
 rename_i g g';refine di (.inl rfl) rfl rfl rfl (H' := [.own (some g) 9 1 13 13 Ko,.own (some g') 2 1 13 13 Kq]) ?_ ⟨g,g',rfl,rfl⟩;exact mS
theorem Ux {k:Nat} (h:k<13): ∃ s n,j5.drop k=(s,n)::j5.drop (k+1)∧Ko[k]? =some (.string (mkB s))∧Kq[k]? =some (.int .i64 n)∧jb s∧s.length≤2:=by
 rcases (by omega:k=0∨k=1∨k=2∨k=3∨k=4∨k=5∨k=6∨k=7∨k=8∨k=9∨k=10∨k=11∨k=12) with rfl|rfl|rfl|rfl|rfl|rfl|rfl|rfl|rfl|rfl|rfl|rfl|rfl<;>refine ⟨_,_,rfl,rfl,rfl,?_,by decide⟩<;>(intro c hc;simp at hc;omega)
def E9 (l:List Int):Option (Tk × Nat):=
 match opL l j5 with
 |some (k,n)=>some (⟨8,k,aS,bU,0⟩,n)
 |none=>if l.headD 0=40 then some (⟨9,0,aS,bU,0⟩,1) else if l.headD 0=41 then some (⟨10,0,aS,bU,0⟩,1) else if l.headD 0=44 then some (⟨11,0,aS,bU,0⟩,1) else none
theorem Rw (a:ByteArray) (ha:a.size≤100000) (i:Nat) (hi:i<a.size) (g:Nat) (w:World) (hr:Ro w g 0 [.string a]):
 aL Tryz.prog 233 [.pointer (some ⟨g,0,none⟩),.int .i64 (i:Int)] w (Im (atT i (E9 ((aD a).drop i)))):=by
 refine aB Tryz.func233 rfl Tryz.ntmps233 rfl ?_;have hl:=aH a;unfold E9;rw [mI];generalize hF:opL ((aD a).drop i) j5=F;repeat' (first|apply aw;exact rfl;exact rfl;intro w' hm;exact CZ w';rintro v H' ⟨gs,gn,rfl,rfl⟩|refine zZE ?_|refine sM fun _=>?_|refine sC ?_ ?_<;>intro hb<;>try omega|fail)
 rename_i g4;refine ax [0,1,4,5,7,14,15] rfl (fun k:Nat=> [(16,.int .i64 (k:Int))]) (fun _=> [.box g4 277 (fg rk),.own (some gs) 9 1 13 13 Ko,.own (some gn) 2 1 13 13 Kq]) (fun k=>k≤13∧F=opL ((aD a).drop i) (j5.drop k)) (fun k=>13 - k) 0 ⟨by omega,hF.symm⟩ sB mS ?_;rintro k ⟨hk2,hk3⟩;by_cases hk:k<13
 ·obtain ⟨s,m,e1,e2,e3,e4,e5⟩:=Ux hk;rw [e1,opL] at hk3;have hms:=oU s;have hP:=Dh (sub a i a.size) (mkB s);rw [qp,o3 e4,hms] at hP;repeat' (first|apply ak;exact rfl;apply bu (o:=0) (off:=0);exact hr;exact rfl;exact rfl|apply aa;exact rfl;exact rfl;intro w hm;exact hP w|apply ak;exact rfl;apply ai (j:=k);exact rfl;exact rfl;exact hk|apply ak;exact rfl;apply bB;exact rfl;exact pK;(rw [show 0+k*1=k by omega];first|exact e2|exact e3)|refine zZG ?_|refine sM fun _=>?_|refine sC ?_ ?_<;>intro hb<;>try omega|fail)
  ·(refine lB ?_);rw [hk3,if_pos hb,hms]
   rfl
  ·refine ⟨k+1,?_,(by first|omega|dsimp only;omega),sB,sB,mS⟩;exact ⟨hk,by rw [hk3,if_neg hb]⟩
 ·have e:k=13:=by omega
  subst e;rw [show j5.drop 13= [] from rfl,opL] at hk3;subst hk3;repeat' (first|apply ak;exact rfl;apply bu (o:=0) (off:=0);exact hr;exact rfl;exact rfl|refine zZG ?_|refine sM fun _=>?_|refine sC ?_ ?_<;>intro hb<;>try omega|fail)
  all_goals try omega
  all_goals
   (refine lB ?_);simp_all;try rfl
def xm (l:List Int):Option (Tk × Nat):=
 if j8 (l.headD 0)=false then none
 else if (l.drop (bO fk l)).headD 0=40 then some (⟨7,0,mkB (upW l),bU,0⟩,bO fk l)
 else if mkB (upW l)=Kb then some (⟨3,1,aS,bU,0⟩,bO fk l)
 else if mkB (upW l)=Dn then some (⟨3,0,aS,bU,0⟩,bO fk l)
 else if (fV (upW l)).2.2≠0 then none
 else if (l.drop (bO fk l)).headD 0=58∧j8 ((l.drop (bO fk l+1)).headD 0)=true∧(fV (upW (l.drop (bO fk l+1)))).2.2=0∧(l.drop (bO fk l+1+bO fk (l.drop (bO fk l+1)))).headD 0≠40 then
  some (⟨if (fV (upW l)).1=(fV (upW (l.drop (bO fk l+1)))).1∧(fV (upW l)).2.1=(fV (upW (l.drop (bO fk l+1)))).2.1 then 5 else 6,0,aS,
   ⟨min (fV (upW l)).1 (fV (upW (l.drop (bO fk l+1)))).1,min (fV (upW l)).2.1 (fV (upW (l.drop (bO fk l+1)))).2.1,max (fV (upW l)).1 (fV (upW (l.drop (bO fk l+1)))).1,max (fV (upW l)).2.1 (fV (upW (l.drop (bO fk l+1)))).2.1⟩,0⟩,bO fk l+1+bO fk (l.drop (bO fk l+1)))
 else some (⟨5,0,aS,cE (fV (upW l)).1 (fV (upW l)).2.1,0⟩,bO fk l)
theorem O0 (a b:Int):(if b<a then b else a)=min a b:=by omega
theorem IY (a b:Int):(if a<b then b else a)=max a b:=by omega
theorem Hx (l:List Int) (hl:jb l) (hlen:l.length≤100000) (w:World):aL Tryz.prog 258 [.string (mkB l)] w (.tuple #[.agg (aq ⟨(fV l).1,(fV l).2.1⟩).toArray,.int .i64 (fV l).2.2]):=by
 have h:=DH (mkB l) (by rw [oU];exact hlen) w;rw [o3 hl,Qh] at h;exact h
theorem QI (a:ByteArray) (ha:a.size≤10000) (i:Nat) (hi:i<a.size) (g:Nat) (w:World) (hr:Ro w g 0 [.string a]):
 aL Tryz.prog 231 [.pointer (some ⟨g,0,none⟩),.int .i64 (i:Int)] w (Im (atT i (xm ((aD a).drop i)))):=by
 refine aB Tryz.func231 rfl Tryz.ntmps231 rfl ?_;have hl:=aH a;have hP1:=fun w' h=>FC a (by omega) i (by omega) g w' h;have hwl:=fC fk ((aD a).drop i);have hul:=xP ((aD a).drop i);have huk:jb (upW ((aD a).drop i)):=NW fun c hc=>qo a c (Z0 hc);rw [Ya] at hwl;have hW:xm ((aD a).drop i)=xm ((aD a).drop i):=rfl;unfold xm at hW ⊢;clear hW;rw [mI];simp only [Zy];generalize hn:bO fk ((aD a).drop i)=n at*;generalize hu:upW ((aD a).drop i)=u at*;rw [mI];have hus:(mkB u).size=n:=by rw [oU,hul]
 have hA1:=Hx u huk (by omega);generalize hau:fV u=A1 at hA1;obtain ⟨c1,r1,e1⟩:=A1;dsimp only at hA1 ⊢;have hN1:=fun w' h=>C8 a (by omega) (i+n) g w' h;have hN2:=fun w' h=>C8 a (by omega) (i+n+1) g w' h;have hb1l:bat a (i+n)≠0→i+n<a.size:=fun h=>by
  rcases Y1 (i+n) a.size with h1|h1
  ·exact h1
  ·exfalso;apply h;rw [bat,Zf,Yx (by omega)];rfl
 generalize hb1:bat a (i+n)=b1 at hN1 hb1l;rw [show i+(n+1)=i+n+1 by omega];have hvl:=xP ((aD a).drop (i+n+1));have hvk:jb (upW ((aD a).drop (i+n+1))):=NW fun c hc=>qo a c (Z0 hc);have hvr:=fC fk ((aD a).drop (i+n+1));rw [Ya] at hvr;have hP2:=fun w' hi h=>FC a (by omega) (i+n+1) hi g w' h;generalize hm:bO fk ((aD a).drop (i+n+1))=m at*;generalize hv:upW ((aD a).drop (i+n+1))=v at*;rw [mI,mI];have hvs:(mkB v).size=m:=by rw [oU,hvl]
 have hA2:=Hx v hvk (by omega);generalize hav:fV v=A2 at hA2;obtain ⟨c2,r2,e2⟩:=A2;dsimp only at hA2 ⊢;rw [show i+(n+1+m)=i+n+1+m by omega];have hN3:=fun w' h=>C8 a (by omega) (i+n+1+m) g w' h;generalize hb2:bat a (i+n+1)=b2 at hN2;generalize hb3:bat a (i+n+1+m)=b3 at hN3;repeat' (first|apply ak;exact rfl;apply bu (o:=0) (off:=0);exact hr;exact rfl;exact rfl|apply aa;exact rfl;exact rfl;intro w hm;exact tz _ w|apply ak (d:=28);exact rfl;apply uj;exact rfl;exact hus|apply ak (d:=90);exact rfl;apply uj;exact rfl;exact hvs|apply ak (d:=126);exact rfl;apply uj;exact rfl;exact hvs|apply aa (d:=26);exact rfl;exact rfl;intro w' hm;exact hP1 w' (hr.next hm)|apply aa (d:=77);exact rfl;exact rfl;intro w' hm;exact hP2 w' (hb1l (by omega)) (hr.next hm)|apply aa (d:=34);exact rfl;exact rfl;intro w' hm;exact hN1 w' (hr.next hm)|apply aa (d:=65);exact rfl;exact rfl;intro w' hm;exact hN1 w' (hr.next hm)|apply aa (d:=71);exact rfl;exact rfl;intro w' hm;exact hN2 w' (hr.next hm)|apply aa (d:=92);exact rfl;exact rfl;intro w' hm;exact hN3 w' (hr.next hm)|apply aa;exact rfl;exact rfl;intro w hm;exact hA1 w|apply aa;exact rfl;exact rfl;intro w hm;exact hA2 w|apply ak (d:=99);exact rfl;exact O0 _ _ ▸ Aj rfl rfl|apply ak (d:=104);exact rfl;exact O0 _ _ ▸ Aj rfl rfl|apply ak (d:=109);exact rfl;exact IY _ _ ▸ J7 rfl rfl|apply ak (d:=114);exact rfl;exact IY _ _ ▸ J7 rfl rfl|apply ak (d:=118);exact rfl;exact Ih (a:=⟨c1,r1⟩) (b:=⟨c2,r2⟩) rfl rfl|apply aa;exact rfl;exact rfl;intro w hm;exact pO ⟨c1,r1⟩ w|refine zZG ?_|refine sM fun _=>?_|refine sC ?_ ?_<;>intro hb<;>try omega|fail)
 all_goals
  (refine lB ?_);simp_all [Kb,Dn,Im,atT,fg,aq,bU,aS,cE,eqF,ay,rk]
def rC:List (List Int→Option (Tk × Nat)):= [qi,E2,xm,Gw,E9]
def rT (l:List Int):List (List Int→Option (Tk × Nat))→Option (Tk × Nat)
 | []=>none
 |r::rs=>match r l with
  |some x=>some x
  |none=>rT l rs
def eJ (l:List Int):Option (Tk × Nat):=rT l rC
def dF (tk:List Int→Option (Tk × Nat)) (l:List Int):Nat→Nat→Except Nat (List Tk)
 |0,_=> .ok []
 |f+1,i=>
  match l.drop i with
  | []=> .ok []
  |c::_=>
   if c=32 then dF tk l f (i+1)
   else match tk (l.drop i) with
    |none=> .error i
    |some (t,n)=>(dF tk l f (i+n)).map fun r=>{ t with at_:=(i:Int) }::r
def Fits (l:List Int) (o:Option (Tk × Nat)):Prop:= ∀ t n,o=some (t,n)→0<n∧n≤l.length
theorem Fits.none {l:List Int}:Fits l none:=fun _ _ h=>by cases h
theorem Fits.some {l:List Int} {t:Tk} {n:Nat} (h1:0<n) (h2:n≤l.length):Fits l (some (t,n)):=fun _ _ h=>by cases h;exact ⟨h1,h2⟩
theorem mH {l:List Int} {c:Int} (h:l.headD 0=c) (hc:c≠0):0<l.length:=by
 cases l with
 |nil=>exact absurd h.symm hc
 |cons=>simp
theorem IL (l:List Int):eM l=0∨eM l+1≤l.length:=by
 unfold eM;split
 ·right
  rename_i r;have:=fC bX r;simp;omega
 ·left;rfl
theorem FN (l:List Int):Fits l (qi l):=by
 unfold qi;dsimp only;have h1:=fC bX l;have h2:=IL (l.drop (bO bX l));rw [Ya] at h2;have h3:(if eM (l.drop (bO bX l))=0 then bO bX l else bO bX l+1+eM (l.drop (bO bX l)))≤l.length∧bO bX l≤(if eM (l.drop (bO bX l))=0 then bO bX l else bO bX l+1+eM (l.drop (bO bX l))):=by
  split<;>omega
 generalize (if eM (l.drop (bO bX l))=0 then bO bX l else bO bX l+1+eM (l.drop (bO bX l)))=m at h3 ⊢;split
 ·exact .none
 ·rename_i h;split
  ·exact .none
  ·exact .some (by omega) (by omega)
theorem uW: ∀ (n:Nat) (l:List Int) (k:Nat),l.length≤n→fT l=some k→k<l.length
 |_,[],_,_,h=>by simp [fT] at h
 |0,c::r,_,hn,_=>by simp at hn
 |n+1,c::r,k,hn,h=>by
  by_cases hc:c=34
  ·subst hc
   cases r with
   |nil=>simp [fT] at h;subst h;simp
   |cons d r' =>
    by_cases hd:d=34
    ·subst hd;simp only [fT,ne_eq,not_true_eq_false,if_false,if_true,YS] at h;obtain ⟨j,hj,rfl⟩:=h;have:=uW n r' j (by simp at hn;omega) hj;simp;omega
    ·simp [fT,hd] at h;subst h;simp
  ·rw [vY hc,YS] at h;obtain ⟨j,hj,rfl⟩:=h;have:=uW n r j (by simp at hn;omega) hj;simp;omega
theorem Lr (l:List Int):Fits l (E2 l):=by
 unfold E2;split
 ·exact .none
 ·rename_i h;have h0:=mH (c:=34) (Decidable.not_not.1 h) (by decide);split
  ·exact .none
  ·rename_i k hk;have:=uW _ _ k (Xy _) hk;rw [Ya] at this;split
   ·exact .none
   ·exact .some (by omega) (by omega)
theorem KW (l:List Int):Fits l (xm l):=by
 have h1:=fC fk l;have h2:=fC fk (l.drop (bO fk l+1));rw [Ya] at h2;have hpos:j8 (l.headD 0)≠false→0<bO fk l:=fun h=>by
  cases l with
  |nil=>exact absurd rfl h
  |cons c r=>
   have:j8 c=true:=by simpa using h
   simp [bO,fk,this]
 unfold xm;split
 ·exact .none
 ·rename_i h;have hp:=hpos h;split
  ·exact .some hp h1
  ·split
   ·exact .some hp h1
   ·split
    ·exact .some hp h1
    ·split
     ·exact .none
     ·split
      ·rename_i hq;have:=mH hq.1 (by decide);rw [Ya] at this;exact .some (by omega) (by omega)
      ·exact .some hp h1
theorem yU (l:List Int): ∀ (ns:List (List Int)) (c k:Int) (n:Nat),(∀ s∈ns,s≠ [])→vT l ns c=some (k,n)→0<n∧n≤l.length
 | [],_,_,_,_,h=>by cases h
 |s::r,c,k,n,hs,h=>by
  rw [vT] at h;split at h
  ·rename_i he;cases h;have:=congrArg List.length he;rw [Xq,XA] at this;have:=Yr.2 (hs s Xb);omega
  ·exact yU l r _ k n (fun s hs' =>hs s (Xp _ hs')) h
theorem Mv (l:List Int):Fits l (Gw l):=by
 intro t n h;unfold Gw at h;rw [YS] at h;obtain ⟨⟨c,m⟩,h1,h2⟩:=h;cases h2;exact yU l ll 1 c _ (by decide) h1
theorem FK (l:List Int): ∀ (ns:List (List Int × Int)) (k:Int) (n:Nat),(∀ s∈ns,s.1≠ [])→opL l ns=some (k,n)→0<n∧n≤l.length
 | [],_,_,_,h=>by cases h
 |(s,c)::r,k,n,hs,h=>by
  rw [opL] at h;split at h
  ·rename_i he;cases h;have:=congrArg List.length he;rw [XA] at this;have:=Yr.2 (hs _ Xb);dsimp only at this;omega
  ·exact FK l r k n (fun s hs' =>hs s (Xp _ hs')) h
theorem LF (l:List Int):Fits l (E9 l):=by
 unfold E9;split
 ·rename_i k n h;have:=FK l j5 k n (by decide) h;exact .some this.1 this.2
 ·split
  ·exact .some (by omega) (mH (by assumption) (by decide))
  ·split
   ·exact .some (by omega) (mH (by assumption) (by decide))
   ·split
    ·exact .some (by omega) (mH (by assumption) (by decide))
    ·exact .none
theorem yS (l:List Int): ∀ rs:List (List Int→Option (Tk × Nat)),(∀ r∈rs,Fits l (r l))→Fits l (rT l rs)
 | [],_=> .none
 |r::rs,h=>by
  unfold rT;split
  ·rename_i x hx;exact hx ▸ h r Xb
  ·exact yS l rs fun r hr=>h r (Xp _ hr)
theorem LM (l:List Int): ∀ r∈rC,Fits l (r l):=by
 intro r hr;simp only [rC,Xt,YQ,or_false] at hr;rcases hr with rfl|rfl|rfl|rfl|rfl
 ·exact FN l
 ·exact Lr l
 ·exact KW l
 ·exact Mv l
 ·exact LF l
theorem xQ (l:List Int):Fits l (eJ l):=yS l _ (LM l)
theorem CN {tk:List Int→Option (Tk × Nat)} {l:List Int} (ht: ∀ m,Fits m (tk m)): ∀ (b d f i:Nat),d≤b→l.length - i=d→d≤f→dF tk l f i=dF tk l d i:=by
 intro b
 induction b with
 |zero=>
  intro d f i hb hd hf;have:d=0:=by omega
  subst this
  cases f with
  |zero=>rfl
  |succ f=>
   simp only [dF];rw [Yf (by omega)]
 |succ b ih=>
  intro d f i hb hd hf
  cases d with
  |zero=>
   cases f with
   |zero=>rfl
   |succ f=>
    simp only [dF];rw [Yf (by omega)]
  |succ m=>
   obtain ⟨g,rfl⟩: ∃ g,f=g+1:=⟨f - 1,by omega⟩;simp only [dF];have hi:i<l.length:=by omega
   rw [XC hi];dsimp only;split
   ·exact ih m g (i+1) (by omega) (by omega) (by omega)
   ·split
    ·rfl
    ·rename_i t n hn;have:=ht _ t n hn;rw [ih (l.length - (i+n)) g (i+n) (by omega) rfl (by omega),ih (l.length - (i+n)) m (i+n) (by omega) rfl (by omega)]
def fB (tk:List Int→Option (Tk × Nat)) (l:List Int):List Tk × Int × Int:=
 if 256<l.length then ([],0,5)
 else match l.findIdx? (fun c=> !eL c) with
  |some i=>([],(i:Int),4)
  |none=>match dF tk l l.length 0 with
   | .ok r=>(r,0,0)
   | .error i=>([],(i:Int),4)
def Tp (A:Option Nat) (cap:Nat) (r:List Tk × Int × Int):Value:= .tuple #[sl A r.1.length cap,.int .i64 r.2.1,.int .i64 r.2.2]
def ID:List Nat:= [229,230,231,232,233]
theorem RD (a:ByteArray) (ha:a.size≤10000) (i:Nat) (hi:i<a.size) (g:Nat) (k:Nat) (hk:k<5):
 ∃ f r,rC.drop k=r::rC.drop (k+1)∧(ID.map fun f=>Value.func (.func f) #[.pointer (some ⟨g,0,none⟩)] #[])[k]? =some (.func (.func f) #[.pointer (some ⟨g,0,none⟩)] #[])∧Callable Tryz.prog f∧
  ∀ w,Ro w g 0 [.string a]→Words w→aL Tryz.prog f [.pointer (some ⟨g,0,none⟩),.int .i64 (i:Int)] w (Im (atT i (r ((aD a).drop i)))):=by
 rcases (by omega:k=0∨k=1∨k=2∨k=3∨k=4) with rfl|rfl|rfl|rfl|rfl
 ·exact ⟨_,_,rfl,rfl,inferInstance,fun w hr _=>L6 a (by omega) i (by omega) g w hr⟩
 ·exact ⟨_,_,rfl,rfl,inferInstance,fun w hr _=>Rs a (by omega) i hi g w hr⟩
 ·exact ⟨_,_,rfl,rfl,inferInstance,fun w hr _=>QI a ha i hi g w hr⟩
 ·exact ⟨_,_,rfl,rfl,inferInstance,fun w hr hW=>Si a (by omega) i (by omega) g w hr hW⟩
 ·exact ⟨_,_,rfl,rfl,inferInstance,fun w hr _=>Rw a (by omega) i hi g w hr⟩
theorem yT {a:ByteArray} {q:Int→Bool} {i:Nat} (h:i<a.size) (hq:q (bat a i)=true) (hno: ∀ j,j<i→q (bat a j)=false):(aD a).findIdx? q=some i:=by
 rw [YI];have hl:=aH a;have hg: ∀ j (hj:j<(aD a).length),(aD a)[j]=bat a j:=fun j hj=>by
  have:=qA (a:=a) (i:=j) (by omega);rw [Xf hj] at this;exact Option.some.inj this
 refine ⟨by omega,by rw [hg];exact hq,fun j hj=> ?_⟩;rw [hg,hno j hj];simp
theorem yt {a:ByteArray} {q:Int→Bool} (hno: ∀ j,j<a.size→q (bat a j)=false):(aD a).findIdx? q=none:=by
 rw [YZ];intro x hx;obtain ⟨j,hj,rfl⟩:=YN hx;have hl:=aH a;have:=qA (a:=a) (i:=j) (by omega);rw [Xf hj] at this;rw [Option.some.inj this];exact hno j (by omega)
theorem M3 (a:ByteArray) (w:World) (hW:Words w):
 FnAt Tryz.prog 167 [.string a] w fun v H=> ∃ A cap,v=Tp A cap (fB eJ (aD a))∧H= [.own A 277 8 (fB eJ (aD a)).1.length cap ((fB eJ (aD a)).1.flatMap fg)]:=by
 refine aB Tryz.func167 rfl Tryz.ntmps167 rfl ?_;have hl:=aH a;unfold fB;refine aF 277 8 ?_;by_cases hlen:256<(aD a).length
 ·rw [if_pos hlen];repeat' (first|refine zZJ ?_|refine sM fun _=>?_|refine sC ?_ ?_<;>intro hb<;>try omega|fail)
  all_goals try omega
  exact Fu (.inl rfl) rfl rfl rfl rfl (.refl _) ⟨none,0,rfl,rfl⟩
 ·rw [if_neg hlen];repeat' (first|refine zZJ ?_|refine sM fun _=>?_|refine sC ?_ ?_<;>intro hb<;>try omega|fail)
  all_goals try omega
  refine ax [0,2,17] rfl (fun i:Nat=> [(18,.int .i64 (i:Int))]) (fun _=> [.own none 277 8 0 0 []]) (fun i=>i≤a.size∧ ∀ j,j<i→eL (bat a j)=true) (fun i=>a.size - i) 0 ⟨by omega,fun j h=>by omega⟩ sB mS ?_;rintro i ⟨hi,hpl⟩;by_cases hlt:i<a.size
  ·repeat' first|refine zZD ?_|refine sM fun _=>?_|refine sC ?_ ?_<;>intro hb<;>try omega|fail
   ·have hf:(aD a).findIdx? (fun c=> !eL c)=some i:=by
     refine yT hlt ?_ fun j hj=>by rw [hpl j hj];rfl
     simp only [eL,Y4,ZH,decide_eq_false_iff_not];omega
    rw [hf];exact Fu (.inl rfl) rfl rfl rfl rfl (.refl _) ⟨none,0,rfl,rfl⟩
   ·have hf:(aD a).findIdx? (fun c=> !eL c)=some i:=by
     refine yT hlt ?_ fun j hj=>by rw [hpl j hj];rfl
     simp only [eL,Y4,ZH,decide_eq_false_iff_not];omega
    rw [hf];exact Fu (.inl rfl) rfl rfl rfl rfl (.refl _) ⟨none,0,rfl,rfl⟩
   ·refine ⟨i+1,?_,(by first|omega|dsimp only;omega),sB,sB,mS⟩;refine ⟨hlt,fun j hj=> ?_⟩;rcases (by omega:j<i∨j=i) with h|rfl
    ·exact hpl j h
    ·rename_i h1;simp only [eL,Xo,decide_eq_true_eq];omega
  ·have e:i=a.size:=by omega
   subst e;have hf:(aD a).findIdx? (fun c=> !eL c)=none:=yt fun j hj=>by rw [hpl j hj];rfl
   rw [hf];dsimp only;repeat' (first|apply ak;exact rfl;apply m5;exact rfl|apply HT;(iterate 6 exact rfl)|refine zZD ?_|refine sM fun _=>?_|refine sC ?_ ?_<;>intro hb<;>try omega|fail)
   all_goals try omega
   rename_i g6 g7;generalize hT:dF eJ (aD a) (aD a).length 0=T
   refine ax [0,6,7] rfl (fun x:Nat × List Tk × Option Nat × Nat=> [(2,sl x.2.2.1 x.2.1.length x.2.2.2),(8,.int .i64 (x.1:Int))]) (fun x=> [.own x.2.2.1 277 8 x.2.1.length x.2.2.2 (x.2.1.flatMap fg),.box g7 337 (ID.map fun f=>Value.func (.func f) #[.pointer (some ⟨g6,0,none⟩)] #[]),.box g6 335 [.string a]])
    (fun x=>x.1≤a.size∧x.2.1.length≤x.1∧T=(dF eJ (aD a) (a.size - x.1) x.1).map (x.2.1++ ·)) (fun x=>a.size - x.1) (0,[],none,0) ⟨by omega,by simp,by rw [← hT,hl];cases dF eJ (aD a) a.size 0<;>rfl⟩ sB mS ?_
   rintro ⟨i,toks,A,cap⟩ ⟨hi2,hi3,hi4⟩;dsimp only at hi2 hi3 hi4 ⊢;by_cases hlt2:i<a.size
   ·obtain ⟨f,hf1⟩: ∃ f,a.size - i=f+1:=⟨a.size - i - 1,by omega⟩;rw [hf1] at hi4;simp only [dF] at hi4;have hdr:=dD hlt2;generalize hld:(aD a).drop i=ld at hi4 hdr;rw [hdr] at hi4;dsimp only at hi4;by_cases h32:bat a i=32
    ·rw [if_pos h32] at hi4;repeat' (first|refine zZD ?_|refine sM fun _=>?_|refine sC ?_ ?_<;>intro hb<;>try omega|fail)
     all_goals try omega
     refine ⟨(i+1,toks,A,cap),?_,(by first|omega|dsimp only;omega),sB,sB,mS⟩;exact ⟨hlt2,by dsimp only;omega,by dsimp only;rw [show a.size - (i+1)=f by omega];exact hi4⟩
    ·rw [if_neg h32,← hdr] at hi4;repeat' (first|refine zZD ?_|refine sM fun _=>?_|refine sC ?_ ?_<;>intro hb<;>try omega|fail)
     all_goals try omega
     have hldl:ld.length=a.size - i:=by rw [← hld,Ya,hl]
     refine ax [0,2,6,7,8,57] rfl (fun k:Nat=> [(58,.int .i64 (k:Int))]) (fun _=> [.own A 277 8 toks.length cap (toks.flatMap fg),.box g7 337 (ID.map fun f=>Value.func (.func f) #[.pointer (some ⟨g6,0,none⟩)] #[]),.box g6 335 [.string a]]) (fun k=>k≤5∧eJ ld=rT ld (rC.drop k)) (fun k=>5 - k) 0 ⟨by omega,rfl⟩ sB mS ?_;rintro k ⟨hk,hkt⟩;by_cases hk5:k<5
     ·obtain ⟨f2,r,r1,r2,r3,r4⟩:=RD a (by omega) i hlt2 g6 k hk5;rw [hld] at r4;rw [r1,rT] at hkt
      cases ho:r ld with
      |none=>
       rw [ho] at hkt r4;dsimp only at hkt;repeat' (first|apply ak;exact rfl;apply oG;exact rfl;exact rfl;exact hk5;exact r2|apply ud;exact rfl;exact rfl;exact r3;exact rfl;intro w' hm;exact r4 w' (Ro.of_box hm pK) (hW.next hm)|refine zZD ?_|refine sM fun _=>?_|refine sC ?_ ?_<;>intro hb<;>try omega|fail)
       all_goals try omega
       refine ⟨k+1,?_,(by first|omega|dsimp only;omega),sB,sB,mS⟩;exact ⟨hk5,hkt⟩
      |some x=>
       obtain ⟨t,m⟩:=x;rw [ho] at hkt r4;dsimp only at hkt;have hfit:=xQ ld t m hkt;rw [hkt] at hi4;dsimp only at hi4;have hm0:0<m:=hfit.1;repeat' (first|apply ak;exact rfl;apply oG;exact rfl;exact rfl;exact hk5;exact r2|apply ud;exact rfl;exact rfl;exact r3;exact rfl;intro w' hm;exact r4 w' (Ro.of_box hm pK) (hW.next hm)|apply mY;(iterate 3 exact rfl);exact pK;exact pK;exact rfl;simp [fg,Value.oneCell'];omega;simp only [maxLen];omega;intro g8 c8|refine zZD ?_|refine sM fun _=>?_|refine sC ?_ ?_<;>intro hb<;>try omega|fail)
       all_goals try omega
       refine ⟨(i+m,toks++ [{ t with at_:=(i:Int) }],some g8,c8),⟨by dsimp only;omega,by simp;omega,?_⟩,(by dsimp only;omega),?_,sB,?_⟩
       ·dsimp only;rw [hi4,CN xQ f (a.size - (i+m)) f (i+m) (by omega) (by omega) (by omega)];cases dF eJ (aD a) (a.size - (i+m)) (i+m)<;>simp [Except.map]
       ·simp only [Xa,Xe];exact sB
       ·simp only [Xa,Xe,Xz,Xx,XP,Xm];exact mS
     ·have e:k=5:=by omega
      subst e;rw [show rT ld (rC.drop 5)=none from rfl] at hkt;rw [hkt] at hi4;dsimp only [Except.map] at hi4;rw [hi4];refine aF 277 8 ?_;repeat' (first|refine zZD ?_|refine sM fun _=>?_|refine sC ?_ ?_<;>intro hb<;>try omega|fail)
      all_goals try omega
      exact Fu (.inl rfl) rfl rfl rfl rfl (H' := [.own none 277 8 0 0 []]) mS ⟨none,0,rfl,rfl⟩
   ·have e:i=a.size:=by omega
    subst e;rw [show a.size - a.size=0 by omega] at hi4;simp only [dF,Except.map,Xm] at hi4;rw [hi4];repeat' (first|refine zZD ?_|refine sM fun _=>?_|refine sC ?_ ?_<;>intro hb<;>try omega|fail)
    all_goals try omega
    exact Fu (.inl rfl) rfl rfl rfl rfl (H' := [.own A 277 8 toks.length cap (toks.flatMap fg)]) mS ⟨A,cap,rfl,rfl⟩
end Go.SL

/-
  Lemmas and walks, put together: B2 C5 B3 Q1 C6 B4 D1 Lc.
-/
import Derived.Test.YtoanpdoacdpgeaaGreatDoorKq13
set_option linter.unusedSimpArgs false
set_option linter.unusedVariables false
set_option maxRecDepth 20000
namespace Go.SL
open Go Go.Proofs
attribute [local irreducible] W WL WQ WG WA WX WLI WR WT VOp thn blk bE scp aV bI aK FnIn
def DB:Option (Tk × Nat)→Value
 |some (t,n)=> .tuple #[.agg (bg t).toArray,.int .i64 (n:Int)]
 |none=> .tuple #[.agg (bg cY).toArray,.int .i64 0]
def atT (i:Nat) (o:Option (Tk × Nat)):Option (Tk × Nat):=o.map fun x=>({ x.1 with at_:=(i:Int) },x.2)
def fB (l:List Int):Option (Tk × Nat):=
 let w:=aC aF l
 let p:=bZ (l.drop w)
 let n:=if p=0 then w else w+1+p
 if w=0∨4<p then none
 else if (f4 (l.take n)).2≠0 then none else some (⟨1,(f4 (l.take n)).1,av,aL,0⟩,n)
theorem mW {c:Int} {r:List Int} (h:c=46):bZ (c::r)=aC aF r:=by subst h;rfl
theorem lU {c:Int} {r:List Int} (h:c≠46):bZ (c::r)=0:=by
 unfold bZ
 split
 ·
  rename_i heq;injection heq with h1 h2;exact absurd h1 h
 ·
  rfl
set_option maxHeartbeats 1000000 in
theorem HZ (a:ByteArray) (ha:a.size≤100000) (i:Nat) (hi:i≤a.size) (g:Nat) (w:World) (hr:Ro w g 0 [.string a]):
  ay Tryz.prog 221 [.pointer (some ⟨g,0,none⟩),.int .i64 (i:Int)] w (DB (atT i (fB ((ap a).drop i)))):=by
 refine aq Tryz.func221 rfl Tryz.ntmps221 rfl ?_
 have hl:=au a
 have hL1:=rM a (by omega) i hi 261 aF kv
 have hwl:=bY aF ((ap a).drop i)
 rw [Rk] at hwl
 generalize hw:aC aF ((ap a).drop i)=n at hL1 hwl
 generalize hpd:bZ ((ap a).drop (i+n))=p
 have hN:fB ((ap a).drop i)=if n=0∨4<p then none else if (f4 (((ap a).drop i).take (if p=0 then n else n+1+p))).2≠0 then none else some (⟨1,(f4 (((ap a).drop i).take (if p=0 then n else n+1+p))).1,av,aL,0⟩,if p=0 then n else n+1+p):=by
  simp only [fB,hw,Sw,hpd]
 rw [hN]
 have hL2:=fun h=>rM a (by omega) (i+n+1) h 261 aF kv
 have hcut: ∀ m,ap (sub a i (i+m))=((ap a).drop i).take m:=fun m=>by rw [dV,show i+m - i=m by omega]
 have hple:p≤a.size - (i+n) - 1:=by
  rw [← hpd]
  by_cases h:i+n<a.size
  ·
   rw [bi h]
   by_cases h46:bat a (i+n)=46
   ·
    rw [mW h46]
    have:=bY aF ((ap a).drop (i+n+1))
    rw [Rk] at this
    omega
   ·
    rw [lU h46];omega
  ·
   rw [Ry (by omega)];simp [bZ]
 have hend: ∀ h:i+n+1<a.size,bat a (i+n)=46→(p=aC aF ((ap a).drop (i+n+1))):=fun h h46=>by
  rw [← hpd,bi (by omega),mW h46]
 have hno: ¬ (i+n+1<a.size∧bat a (i+n)=46∧aF (bat a (i+n+1))=true)→p=0:=fun h=>by
  by_cases h1:i+n<a.size
  ·
   by_cases h46:bat a (i+n)=46
   ·
    by_cases h2:i+n+1<a.size
    ·
     rw [hend h2 h46,bi h2,aC,if_neg fun h3=>h ⟨h2,h46,h3⟩]
    ·
     rw [← hpd,bi h1,mW h46,Ry (by omega)];rfl
   ·
    rw [← hpd,bi h1,lU h46]
  ·
   rw [← hpd,Ry (by omega)];rfl
 have hyes:i+n+1<a.size→bat a (i+n)=46→aF (bat a (i+n+1))=true→0<p:=fun h h46 h3=>by
  rw [hend h h46,bi h,aC,if_pos h3];omega
 repeat' (first|(apply ak;exact rfl;apply aI (o:=0) (off:=0);exact hr;exact rfl;exact rfl)|(apply aa;exact rfl;exact rfl;(intro w hm;exact hL1 w))|(apply aa;exact rfl;exact rfl;(intro w hm;exact kv _ w))|(refine FE (id:=7) [0,1,4] rfl (ι:=Nat × Nat) (fun x=> [(7,.int .i64 (x.1:Int)),(5,.int .i64 (x.2:Int))]) (fun x=>x.1=p∧x.2=if p=0 then n else n+1+p) ?_ ?_)|(apply aa;exact rfl;exact rfl;(intro w hm;exact hL2 (by omega) w))|refine sT ?_|refine sT2 ?_|refine sN ?_|refine sM fun _=> ?_|(refine sC ?_ ?_<;>intro hb<;>try omega)|exact cT|fail)
 ·
  (refine eQ ?_)
  rw [if_pos (.inl (by omega))];rfl
 ·
  rename_i h1 h2 h3
  refine cC ((aC aF ((ap a).drop (i+n+1)),n+(aC aF ((ap a).drop (i+n+1))+1))) ?_ sB mS
  have h5:=hyes (by omega) h3 hb
  have h6:=hend (by omega) h3
  rw [← h6]
  exact ⟨rfl,by rw [if_neg (by omega)];omega⟩
 ·
  rename_i h1 h2 h3
  refine cC ((0,n)) ?_ sB mS
  have:=hno fun h=>by rw [hb] at h;cases h.2.2
  exact ⟨this.symm,by rw [if_pos this]⟩
 ·
  refine cC ((0,n)) ?_ sB mS
  have:=hno fun h=>hb h.2.1
  exact ⟨this.symm,by rw [if_pos this]⟩
 ·
  refine cC ((0,n)) ?_ sB mS
  have:=hno fun h=>by omega
  exact ⟨this.symm,by rw [if_pos this]⟩
 rintro ⟨p',m⟩ ⟨rfl,hm⟩
 have hn0:n≠0:=by omega
 dsimp only at hm ⊢
 rw [← hm]
 by_cases h4:4<p'
 ·
  rw [if_pos (.inr h4)]
  repeat' (first|refine sT ?_|refine sT2 ?_|refine sM fun _=> ?_|(refine sC ?_ ?_<;>intro hb<;>try omega)|exact cT|fail)
  all_goals first|(exfalso;omega)|((refine eQ ?_);rfl)
 ·
  rw [if_neg (by omega)]
  have him:i+m≤a.size:=by rw [hm];split<;>omega
  have hP:=tj (sub a i (i+m)) (by rw [ck _ him];omega)
  rw [hcut m] at hP
  generalize f4 (((ap a).drop i).take m)=q at hP
  repeat' (first|(apply ak;exact rfl;apply aI (o:=0) (off:=0);exact hr;exact rfl;exact rfl)|(apply aa;exact rfl;exact rfl;(intro w hm;exact hP w))|refine sT ?_|refine sT2 ?_|refine sN ?_|refine sM fun _=> ?_|(refine sC ?_ ?_<;>intro hb<;>try omega)|exact cT|fail)
  ·
   (refine eQ ?_)
   rw [if_pos hb];rfl
  ·
   (refine eQ ?_)
   rw [if_neg hb];rfl
theorem lC (a:ByteArray) (j:Nat):((ap a).drop j).headD 0=bat a j:=by
 rw [bat,List.headD_eq_head?_getD,List.head?_drop,Ru]
theorem ze (a:ByteArray) (ha:a.size≤100000) (j:Nat) (g:Nat) (w:World) (hr:Ro w g 0 [.string a]):
  ay Tryz.prog 265 [.pointer (some ⟨g,0,none⟩),.int .i64 (j:Int)] w (.int .u8 (bat a j)):=by
 refine aq Tryz.func265 rfl Tryz.ntmps265 rfl ?_
 have hl:=au a
 repeat' (first|(apply ak;exact rfl;apply aI (o:=0) (off:=0);exact hr;exact rfl;exact rfl)|refine sT ?_|refine sT2 ?_|refine sN ?_|refine sM fun _=> ?_|(refine sC ?_ ?_<;>intro hb<;>try omega)|exact cT|fail)
 ·
  (refine rT1 ?_)
  rfl
 ·
  (refine rT1 ?_)
  have e:bat a j=0:=by rw [bat,Ru,Sn (by omega)];rfl
  rw [e]
def upW (l:List Int):List Int:=(l.take (aC cN l)).map upC
theorem uH (l:List Int):(upW l).length=aC cN l:=by
 have:=bY cN l
 simp [upW];omega
theorem JN {l:List Int} (h:gS l):gS (upW l):=by
 intro c hc
 obtain ⟨d,hd,rfl⟩:=RD.1 hc
 have:=h d (Sj hd)
 unfold upC
 split<;>omega
theorem Bu (a:ByteArray) (ha:a.size≤100000) (i:Nat) (hi:i≤a.size) (g:Nat) (w:World) (hr:Ro w g 0 [.string a]):
  ay Tryz.prog 264 [.pointer (some ⟨g,0,none⟩),.int .i64 (i:Int)] w (.string (mkB (upW ((ap a).drop i)))):=by
 refine aq Tryz.func264 rfl Tryz.ntmps264 rfl ?_
 have hl:=au a
 have hL:=rM a (by omega) i hi 300 cN H6
 have hwl:=bY cN ((ap a).drop i)
 rw [Rk] at hwl
 unfold upW
 generalize aC cN ((ap a).drop i)=n at hL hwl
 have hU:=qM (sub a i (i+n)) (by rw [ck _ (by omega)];omega)
 have e:upB (sub a i (i+n))=mkB ((((ap a).drop i).take n).map upC):=by rw [upB,dV,show i+n - i=n by omega]
 rw [e] at hU
 repeat' (first|(apply ak;exact rfl;apply aI (o:=0) (off:=0);exact hr;exact rfl;exact rfl)|(apply aa;exact rfl;exact rfl;(intro w hm;exact hL w))|(apply aa;exact rfl;exact rfl;(intro w hm;exact hU w))|refine sT ?_|refine sT2 ?_|refine sN ?_|refine sM fun _=> ?_|(refine sC ?_ ?_<;>intro hb<;>try omega)|exact cT|fail)
 (refine rT1 ?_)
 rfl
def cF:List Int→Option Nat
 | []=>none
 |c::r=>if c≠34 then (cF r).map (· +1) else match r with
  | []=>some 0
  |d::r' =>if d=34 then (cF r').map (· +2) else some 0
theorem ky {c:Int} {r:List Int} (h:c≠34):cF (c::r)=(cF r).map (· +1):=by rw [cF.eq_def];simp [h]
def mK (l:List Int):Option (Tk × Nat):=
 if l.headD 0≠34 then none
 else match cF (l.drop 1) with
  |none=>none
  |some k=>if (fN (l.take (k+2))).2≠0 then none else some (⟨2,0,mkB (fN (l.take (k+2))).1,aL,0⟩,k+2)
set_option maxHeartbeats 1000000 in
theorem MR (a:ByteArray) (ha:a.size≤100000) (i:Nat) (hi:i<a.size) (g:Nat) (w:World) (hr:Ro w g 0 [.string a]):
  ay Tryz.prog 222 [.pointer (some ⟨g,0,none⟩),.int .i64 (i:Int)] w (DB (atT i (mK ((ap a).drop i)))):=by
 refine aq Tryz.func222 rfl Tryz.ntmps222 rfl ?_
 have hl:=au a
 unfold mK
 rw [lC,Sw]
 by_cases h34:bat a i=34
 ·
  rw [if_neg (by omega)]
  have hcut: ∀ m,ap (sub a i (i+m))=((ap a).drop i).take m:=fun m=>by rw [dV,show i+m - i=m by omega]
  repeat' (first|(apply ak;exact rfl;apply aI (o:=0) (off:=0);exact hr;exact rfl;exact rfl)|refine sT ?_|refine sT2 ?_|refine sN ?_|refine sM fun _=> ?_|(refine sC ?_ ?_<;>intro hb<;>try omega)|exact cT|fail)
  all_goals try (exfalso;omega)
  rename_i g4
  generalize hC:cF ((ap a).drop (i+1))=C
  refine ax [0,1,4,5] rfl (fun j:Nat=> [(6,.int .i64 (j:Int))]) (fun _=> [.box g4 228 (bg cY)]) (fun j=>i+1≤j∧j≤a.size∧C=(cF ((ap a).drop j)).map (· +(j - (i+1)))) (fun j=>a.size - j) (i+1) ⟨by omega,by omega,by rw [hC];simp⟩ sB mS ?_
  rintro j ⟨hj1,hj2,hj3⟩
  by_cases hlt:j<a.size
  ·
   rw [bi hlt] at hj3
   by_cases hq:bat a j=34
   ·
    by_cases hn:j+1<a.size∧bat a (j+1)=34
    ·
     rw [bi hn.1,hq,hn.2] at hj3
     simp only [cF,ne_eq,not_true_eq_false,if_false,if_true,TR] at hj3
     have hn1:=hn.1
     repeat' (first|(apply ak;exact rfl;apply aI (o:=0) (off:=0);exact hr;exact rfl;exact rfl)|refine sT ?_|refine sT2 ?_|refine sN ?_|refine sM fun _=> ?_|(refine sC ?_ ?_<;>intro hb<;>try omega)|exact cT|fail)
     all_goals try (exfalso;omega)
     refine ⟨j+2,?_,(by first|omega|(dsimp only;omega)),sB,sB,mS⟩
     refine ⟨by omega,by omega,?_⟩
     rw [hj3,show j+1+1=j+2 by omega]
     congr 1
     funext k
     simp only [Function.comp]
     omega
    ·
     have hC0:C=some (j - (i+1)):=by
      rw [hj3,hq]
      by_cases h1:j+1<a.size
      ·
       rw [bi h1]
       have h2:bat a (j+1)≠34:=fun h=>hn ⟨h1,h⟩
       simp [cF,h2]
      ·
       rw [Ry (i:=j+1) (by omega)]
       simp [cF]
     rw [hC0]
     dsimp only
     have hm:j - (i+1)+2=j+1 - i:=by omega
     rw [hm]
     have hc:=hcut (j+1 - i)
     rw [show i+(j+1 - i)=j+1 by omega] at hc
     have hP:=E7 (sub a i (j+1)) (by rw [ck _ (by omega)];omega)
     rw [hc] at hP
     generalize fN (((ap a).drop i).take (j+1 - i))=q at hP
     repeat' (first|(apply ak;exact rfl;apply aI (o:=0) (off:=0);exact hr;exact rfl;exact rfl)|(apply aa;exact rfl;exact rfl;(intro w hm;exact hP w))|refine sT ?_|refine sT2 ?_|refine sN ?_|refine sM fun _=> ?_|(refine sC ?_ ?_<;>intro hb<;>try omega)|exact cT|fail)
     all_goals first|(exfalso;omega)|((refine eQ ?_);first|(rw [if_pos hb];rfl)|(rw [if_neg hb];rfl))
   ·
    rw [ky hq,TR] at hj3
    repeat' (first|(apply ak;exact rfl;apply aI (o:=0) (off:=0);exact hr;exact rfl;exact rfl)|refine sT ?_|refine sT2 ?_|refine sN ?_|refine sM fun _=> ?_|(refine sC ?_ ?_<;>intro hb<;>try omega)|exact cT|fail)
    all_goals try (exfalso;omega)
    refine ⟨j+1,?_,(by first|omega|(dsimp only;omega)),sB,sB,mS⟩
    refine ⟨by omega,by omega,?_⟩
    rw [hj3]
    congr 1
    funext k
    simp only [Function.comp]
    omega
  ·
   rw [Ry (by omega)] at hj3
   rw [hj3]
   dsimp only [cF,Option.map]
   repeat' (first|(apply ak;exact rfl;apply aI (o:=0) (off:=0);exact hr;exact rfl;exact rfl)|refine sT ?_|refine sT2 ?_|refine sN ?_|refine sM fun _=> ?_|(refine sC ?_ ?_<;>intro hb<;>try omega)|exact cT|fail)
   all_goals try (exfalso;omega)
   (refine eQ ?_)
   rfl
 ·
  rw [if_pos (by omega)]
  repeat' (first|(apply ak;exact rfl;apply aI (o:=0) (off:=0);exact hr;exact rfl;exact rfl)|refine sT ?_|refine sT2 ?_|refine sN ?_|refine sM fun _=> ?_|(refine sC ?_ ?_<;>intro hb<;>try omega)|exact cT|fail)
  all_goals try (exfalso;omega)
  (refine eQ ?_)
  rfl
end Go.SL
namespace Go.SL
open Go Go.Proofs
attribute [local irreducible] W WL WQ WG WA WX WLI WR WT VOp thn blk bE scp aV bo bI aK FnIn FnP
instance:FldT Tryz.prog 228 0 5 0:=⟨_,_,Tryz.underlying228,rfl,rfl,rfl⟩
theorem rW {f:Nat} {fn:Int} {n:Nat} {fin:Int} {p p' :PS} {m:Nat} (h:zB f fn n fin p=some (.ok (m,p'))):p.out.length<p'.out.length:=by
 unfold zB at h
 split at h
 ·
  obtain ⟨m',q,h1,h2⟩:=cw h
  cases h2
  exact (jA _ _ _ _ _ _ h1).some trivial
 ·
  split at h
  ·
   cases h
  ·
   cases h
   simp [PS.put,PS.skip]
theorem wn {fin:Int} {name:Tk} {fn:Int} {n:Nat} {p:PS} {x:Nd} (hx:p.out[p.out.length - 1]? =some x):cV fin name fn n p=
  if (hdT fin p.l).kind≠10 then some (.error ((hdT fin p.l).at_,4))
  else if (n:Int)<(eE fn).1∨(eE fn).2.1<(n:Int) then some (.error (name.at_,11))
  else if 46≤fn∧x.kind≠2∧x.kind≠3 then some (.error (name.at_,4))
  else some (.ok (0,p.skip.put ⟨7,bD,aL,0,fn,n⟩)):=by
 have hx' :p.out.getLast? =some x:=by rw [Uf];exact hx
 unfold cV
 simp only [hx',Se,Option.some.injEq,decide_eq_true_eq,ne_eq,not_or]
theorem yo {fn:Int} (h1:1≤fn) (h2:fn≤50):1≤(eE fn).1:=by
 unfold eE
 repeat' split
 all_goals first
  |decide
  |(rename_i h;simp [cU,h1,h2] at h)
theorem At.head' {toks:List Tk} {A:Option Nat} {cap:Nat} {fin:Int} {g:Nat} {p:PS} {lv:Value} (h:At toks A cap p lv) {u:Tk} (hu:hdT fin p.l=u) {B:Option Nat} {cb:Nat} {out:List Nd} {H:List Blk} {w0:World} (hH:MSub (pB g lv A cap fin toks B cb out) H) (w:World) (hm:Mem w0 w H):
  ay Tryz.prog 177 [.pointer (some ⟨g,0,none⟩)] w (.agg (bg u).toArray):=hu ▸ At.head h hH w hm
open Classical in
noncomputable def zy (f:Nat) (t:Tk) (wB:Nat→Tk→Int→PS→Option Out) (fin:Int) (p:PS):Option Out:=if hdT fin p.l=t∧t.kind=7 then wB f t fin p else none
def wB (f:Nat) (t:Tk) (fin:Int) (p:PS):Option Out:=
 if (ba t.text).2≠0 then some (.error (t.at_,10))
 else
  let u:=hdT fin p.skip.l
  if u.kind≠9 then some (.error (u.at_,4))
  else if (hdT fin p.skip.skip.l).kind=10 then cV fin t (ba t.text).1 0 p.skip.skip
  else fD (bq fin f (.args (ba t.text).1 0) p.skip.skip) fun n p=>cV fin t (ba t.text).1 n p
set_option maxHeartbeats 4000000 in
theorem NS (f:Nat) (t:Tk) (ih: ∀ f' ≤f,POK f' (.level 1) 176 []):N9 (zy f t wB) 356 [.agg (bg t).toArray]:=by
  intro toks A cap fin g p lv B cb r R w0 hc hl hat hrun
  refine vY Tryz.func356 rfl Tryz.ntmps356 rfl ?_
  unfold zy at hrun
  by_cases ht: ¬ (hdT fin p.l=t∧t.kind=7)
  · rw [if_neg ht] at hrun;cases hrun
  have ht:=Classical.not_not.1 ht
  rw [if_pos ht] at hrun
  obtain ⟨ht,ht7⟩:=ht
  have hF:=fun w=>CV t.text w
  unfold wB at hrun
  obtain ⟨fn,fe,hfe⟩: ∃ fn fe,ba t.text=(fn,fe):=⟨_,_,rfl⟩
  have hfn:fe=0→1≤fn∧fn≤50:=by
    intro h
    subst h
    have hb1:=iQ cZ t.text 0 (by omega)
    rw [iO] at hb1
    unfold ba at hfe
    split at hfe<;>cases hfe
    omega
  rw [hfe] at hrun hF
  dsimp only at hF
  by_cases h0:fe≠0
  · rw [if_pos h0] at hrun
    cases hrun
    repeat' (first|(apply aa (f:=370);exact rfl;exact rfl;(intro w' _;exact hF w'))|(refine bF (f:=178) rfl rfl (iW _ _ _ _ _ (fun _ _=>False)) ?_ ?_)|(exact fun _ _ h=>h.elim)|(rintro _ _ ⟨rfl,rfl⟩)|refine sT ?_|refine sP ?_|refine sM fun _=> ?_|(refine sC ?_ ?_<;>intro hb<;>try omega)|exact cT|fail)
    all_goals first
      |(exfalso;omega)
      | (refine cP rfl ?_
         simp only [Re,QR,QU,pB]
         exact mS)
  rw [if_neg h0] at hrun
  dsimp only at hrun
  obtain ⟨hfn1,hfn2⟩:=hfn (by omega)
  by_cases hw9:(hdT fin p.skip.l).kind≠9
  · rw [if_pos hw9] at hrun
    cases hrun
    repeat' (first|(apply aa (f:=370);exact rfl;exact rfl;(intro w' _;exact hF w'))|(apply aw (f:=275);exact rfl;exact rfl;exact hat.skip hc (c:=7) (by rw [ht];exact ht7) (by decide) (MSub.pick pK (MSub.pick pK (MSub.pick pK (MSub.refl _))));rintro _ _ ⟨rfl,lv1,h1,rfl⟩)|(refine bF (f:=355) rfl rfl (FnP.msub (yH 9 (by decide) toks A cap fin g p.skip lv1 B cb _ _ w0 hc hl (At1.at h1) (by unfold FA;rw [if_pos hw9])) (MSub.pick pK (MSub.pick pK (MSub.pick pK (MSub.refl _))))) ?_ ?_)|(rintro _ _ ⟨rfl,n,p',lv',B',cb',h,h2,rfl⟩;cases h)|(rintro _ _ ⟨e,h,rfl,h3⟩;cases h)|refine sT ?_|refine sP ?_|refine sM fun _=> ?_|(refine sC ?_ ?_<;>intro hb<;>try omega)|exact cT|fail)
    all_goals first
      |(exfalso;omega)
      | (refine cP rfl (MSub.trans ?_ h3)
         simp only [Re,QR,QU,pB]
         exact mS)
  rw [if_neg hw9] at hrun
  repeat' (first|(apply aa (f:=370);exact rfl;exact rfl;(intro w' _;exact hF w'))|(apply aw (f:=275);exact rfl;exact rfl;exact hat.skip hc (c:=7) (by rw [ht];exact ht7) (by decide) (MSub.pick pK (MSub.pick pK (MSub.pick pK (MSub.refl _))));rintro _ _ ⟨rfl,lv1,h1,rfl⟩)|(refine bF (f:=355) rfl rfl (FnP.msub (yH 9 (by decide) toks A cap fin g p.skip lv1 B cb _ _ w0 hc hl (At1.at h1) (by unfold FA;rw [if_neg hw9])) (MSub.pick pK (MSub.pick pK (MSub.pick pK (MSub.refl _))))) ?_ ?_)|(rintro _ _ ⟨rfl,n,p',lv',B',cb',h,h2,rfl⟩;cases h)|(rintro _ _ ⟨e,h,rfl,h3⟩;cases h)|(rename_i g3;refine FD (id:=7) (ι:=Nat × PS × Value × Option Nat × Nat) [0,3,4] rfl (fun x=> [(6,.int .i64 (x.1:Int))]) (fun x=> .box g3 228 (bg t)::(pB g x.2.2.1 A cap fin toks x.2.2.2.1 x.2.2.2.2 x.2.1.out++R)) (fun x=>x.1≤x.2.1.out.length∧At toks A cap x.2.1 x.2.2.1∧cV fin t fn x.1 x.2.1=some r) ?_ ?_)|refine sT ?_|refine sP ?_|refine sM fun _=> ?_|(refine sC ?_ ?_<;>intro hb<;>try omega)|exact cT|fail)
  · obtain ⟨u,hu⟩: ∃ u,hdT fin p.skip.skip.l=u:=⟨_,rfl⟩
    rw [hu] at hrun
    by_cases h10:u.kind=10
    · rw [if_pos h10] at hrun
      repeat' (first|(apply ak;exact rfl;apply cO;exact rfl;exact rfl)|(apply aa (f:=177);exact rfl;exact rfl;(intro w' hm';exact At.head' (B:=B') (cb:=cb') (out:=p.skip.skip.out) (g:=g) (fin:=fin) h2 hu (MSub.pick pK (MSub.pick pK (MSub.pick pK (MSub.nil _)))) w' hm'))|refine cC ((0,p.skip.skip,lv',B',cb')) ?_ sB mS|refine sT ?_|refine sP ?_|refine sM fun _=> ?_|(refine sC ?_ ?_<;>intro hb<;>try omega)|exact cT|fail)
      all_goals first|(exfalso;omega)|exact ⟨QX _,h2,hrun⟩
    · rw [if_neg h10] at hrun
      obtain ⟨r1,hr1,hr2⟩:=bB hrun
      repeat' (first|(apply ak;exact rfl;apply cO;exact rfl;exact rfl)|(apply aa (f:=177);exact rfl;exact rfl;(intro w' hm';exact At.head' (B:=B') (cb:=cb') (out:=p.skip.skip.out) (g:=g) (fin:=fin) h2 hu (MSub.pick pK (MSub.pick pK (MSub.pick pK (MSub.nil _)))) w' hm'))|refine sT ?_|refine sP ?_|refine sM fun _=> ?_|(refine sC ?_ ?_<;>intro hb<;>try omega)|exact cT|fail)
      all_goals first
        |(exfalso;omega)
        |skip
      refine ax [0,3,4] rfl (fun x:Nat × Nat × PS × Value × Option Nat × Nat=> [(6,.int .i64 (x.2.1:Int))]) (fun x=> .box g3 228 (bg t)::(pB g x.2.2.2.1 A cap fin toks x.2.2.2.2.1 x.2.2.2.2.2 x.2.2.1.out++R)) (fun x=>x.1≤f∧x.2.1≤x.2.2.1.out.length∧At toks A cap x.2.2.1 x.2.2.2.1∧bq fin x.1 (.args fn x.2.1) x.2.2.1=some r1) (fun x=>x.1) (f,0,p.skip.skip,lv',B',cb') ⟨QV _,QX _,h2,hr1⟩ sB ?_ ?_
      · simp only [Re,QR,QU,pB]
        exact mS
      rintro ⟨f',n',q,lq,Bq,cq⟩ ⟨hf',hn',hq1,hq2⟩
      dsimp only at hf' hn' hq1 hq2 ⊢
      cases f' with
      |zero=>cases hq2
      |succ f' =>
        rw [zA] at hq2
        have hn6:n' ≤1000000:=Rt hn' (At.len hq1 hl)
        obtain ⟨r2,hr3,hr4⟩:=bB hq2
        repeat' (first|(refine bF (f:=371) rfl rfl (FnP.msub (CK f' fn n' (ih f' (by omega)) toks A cap fin g q lq Bq cq r2 _ w0 hc hl hq1 hr3) (MSub.pick pK (MSub.pick pK (MSub.pick pK (MSub.refl _))))) ?_ ?_)|(rintro _ _ ⟨rfl,n2,q2,lv2,B2,cb2,rfl,h6,rfl⟩;obtain ⟨u2,hu2⟩: ∃ u,hdT fin q2.l=u:=⟨_,rfl⟩)|(rintro _ _ ⟨e,rfl,rfl,h3⟩)|(apply ak;exact rfl;apply cO;exact rfl;exact rfl)|(apply aa (f:=177);exact rfl;exact rfl;(intro w' hm';exact At.head' (B:=B2) (cb:=cb2) (out:=q2.out) (g:=g) (fin:=fin) h6 hu2 (MSub.pick pK (MSub.pick pK (MSub.pick pK (MSub.nil _)))) w' hm'))|(apply aw (f:=275);exact rfl;exact rfl;exact h6.skip hc (c:=11) (by rw [hu2];omega) (by decide) (MSub.pick pK (MSub.pick pK (MSub.pick pK (MSub.refl _))));rintro _ _ ⟨rfl,lv3,h7,rfl⟩)|refine cC ((n' +1,q2,lv2,B2,cb2)) ?_ sB mS|refine sT ?_|refine sP ?_|refine sN ?_|refine sM fun _=> ?_|(refine sC ?_ ?_<;>intro hb<;>try omega)|exact cT|fail)
        · rcases hr4 with ⟨e,h,_⟩|⟨n3,p3,h,h7⟩
          · cases h
          · cases h
            rw [hu2,if_neg (by omega)] at h7
            rcases hr2 with ⟨e,h,_⟩|⟨n4,p4,h,h8⟩
            · rw [h] at h7;cases h7
            · rw [h] at h7
              cases h7
              have:=rW hr3
              exact ⟨by dsimp only;omega,h6,h8⟩
        · rcases hr4 with ⟨e,h,_⟩|⟨n3,p3,h,h7'⟩
          · cases h
          · cases h
            rw [hu2,if_pos (by omega)] at h7'
            have:=rW hr3
            refine ⟨(f',n' +1,q2.skip,lv3,B2,cb2),⟨by dsimp only;omega,by dsimp only [PS.skip];omega,At1.at h7,h7'⟩,Nat.lt_succ_self _,sB,sB,?_⟩
            simp only [Re,QR,QU,pB]
            exact mS
        · rcases hr4 with ⟨e',h,h7⟩|⟨n3,p3,h,h7⟩
          · cases h
            rcases hr2 with ⟨e4,h,h8⟩|⟨n4,p4,h,h8⟩
            · rw [h] at h7
              cases h7
              exact cP h8 (MSub.trans (.drop .hd (.refl _)) h3)
            · rw [h] at h7;cases h7
          · cases h
  · rintro ⟨n,q,lq,Bq,cq⟩ ⟨hn',hq1,hq2⟩
    dsimp only at hn' hq1 hq2 ⊢
    obtain ⟨u,hu⟩: ∃ u,hdT fin q.l=u:=⟨_,rfl⟩
    have hap:=yo hfn1 hfn2
    have hA:=fun w=>wE fn w
    obtain ⟨least,most,ae,hae⟩: ∃ a b c,eE fn=(a,b,c):=⟨_,_,_,rfl⟩
    rw [hae] at hA hap
    dsimp only at hA hap
    by_cases h10:u.kind≠10
    · simp only [cV,hu,if_pos h10] at hq2
      cases hq2
      repeat' (first|(apply ak;exact rfl;apply cO;exact rfl;exact rfl)|(apply aa (f:=177);exact rfl;exact rfl;(intro w' hm';exact At.head' (B:=Bq) (cb:=cq) (out:=q.out) (g:=g) (fin:=fin) hq1 hu (MSub.pick pK (MSub.pick pK (MSub.pick pK (MSub.nil _)))) w' hm'))|(refine bF (f:=178) rfl rfl (iW _ _ _ _ _ (fun _ _=>False)) ?_ ?_)|(exact fun _ _ h=>h.elim)|(rintro _ _ ⟨rfl,rfl⟩)|refine sT ?_|refine sP ?_|refine sM fun _=> ?_|(refine sC ?_ ?_<;>intro hb<;>try omega)|exact cT|fail)
      all_goals first
        |(exfalso;omega)
        | (refine cP rfl ?_
           simp only [Re,QR,QU,pB]
           exact mS)
    by_cases hlm:(n:Int)<least∨most<(n:Int)
    · simp only [cV,hu,if_neg h10,hae,if_pos hlm] at hq2
      cases hq2
      repeat' (first|(apply ak;exact rfl;apply cO;exact rfl;exact rfl)|(apply aa (f:=177);exact rfl;exact rfl;(intro w' hm';exact At.head' (B:=Bq) (cb:=cq) (out:=q.out) (g:=g) (fin:=fin) hq1 hu (MSub.pick pK (MSub.pick pK (MSub.pick pK (MSub.nil _)))) w' hm'))|(apply aa (f:=336);exact rfl;exact rfl;(intro w' _;exact hA w'))|(refine bF (f:=178) rfl rfl (iW _ _ _ _ _ (fun _ _=>False)) ?_ ?_)|(exact fun _ _ h=>h.elim)|(rintro _ _ ⟨rfl,rfl⟩)|refine sT ?_|refine sP ?_|refine sM fun _=> ?_|(refine sC ?_ ?_<;>intro hb<;>try omega)|exact cT|fail)
      all_goals first
        |(exfalso;omega)
        | (refine cP rfl ?_
           simp only [Re,QR,QU,pB]
           exact mS)
    have hpos:0<q.out.length:=by omega
    have hol:q.out.length≤1000000:=At.len hq1 hl
    obtain ⟨x,hx⟩: ∃ x,q.out[q.out.length - 1]? =some x:=⟨_,QQ (by omega)⟩
    rw [wn hx,hu,hae,if_neg h10] at hq2
    dsimp only at hq2
    rw [if_neg hlm] at hq2
    refine eH (A:=Bq) (by simp only [Re,QR,QU,pB];exact pK) hpos fun gb hB=> ?_
    subst hB
    by_cases hkx:46≤fn∧x.kind≠2∧x.kind≠3
    · rw [if_pos hkx] at hq2
      cases hq2
      repeat' (first|(apply ak;exact rfl;apply cO;exact rfl;exact rfl)|(apply aa (f:=177);exact rfl;exact rfl;(intro w' hm';exact At.head' (B:=some gb) (cb:=cq) (out:=q.out) (g:=g) (fin:=fin) hq1 hu (MSub.pick pK (MSub.pick pK (MSub.pick pK (MSub.nil _)))) w' hm'))|(apply aa (f:=336);exact rfl;exact rfl;(intro w' _;exact hA w'))|(apply aS;exact rfl;apply dM;exact rfl;exact rfl;exact hpos;(simp only [maxLen];omega))|(apply aS;exact rfl;apply aj;exact rfl;exact rfl;omega)|(apply aS;exact rfl;apply jY (k:=0);exact eC;exact rfl;exact pK;decide;exact hx;exact rfl)|(refine bF (f:=178) rfl rfl (iW _ _ _ _ _ (fun _ _=>False)) ?_ ?_)|(exact fun _ _ h=>h.elim)|(rintro _ _ ⟨rfl,rfl⟩)|refine sT ?_|refine sP ?_|refine sQ ?_|refine sN ?_|refine sNQ ?_|refine sD ?_|refine sM fun _=> ?_|(refine sC ?_ ?_<;>intro hb<;>try omega)|(refine sCQ ?_ ?_<;>intro hb<;>try omega)|exact cT|fail)
      all_goals first
        |(exfalso;omega)
        | (refine cP rfl ?_
           simp only [Re,QR,QU,pB]
           exact mS)
    · rw [if_neg hkx] at hq2
      cases hq2
      repeat' (first|(apply ak;exact rfl;apply cO;exact rfl;exact rfl)|(apply aa (f:=177);exact rfl;exact rfl;(intro w' hm';exact At.head' (B:=some gb) (cb:=cq) (out:=q.out) (g:=g) (fin:=fin) hq1 hu (MSub.pick pK (MSub.pick pK (MSub.pick pK (MSub.nil _)))) w' hm'))|(apply aa (f:=336);exact rfl;exact rfl;(intro w' _;exact hA w'))|(apply aS;exact rfl;apply dM;exact rfl;exact rfl;exact hpos;(simp only [maxLen];omega))|(apply aS;exact rfl;apply aj;exact rfl;exact rfl;omega)|(apply aS;exact rfl;apply jY (k:=0);exact eC;exact rfl;exact pK;decide;exact hx;exact rfl)|(apply aw (f:=275);exact rfl;exact rfl;exact hq1.skip hc (c:=10) (by rw [hu];omega) (by decide) (MSub.pick pK (MSub.pick pK (MSub.pick pK (MSub.refl _))));rintro _ _ ⟨rfl,lv1,h1',rfl⟩)|(apply aw (f:=276);exact rfl;exact rfl;exact FnIn.msub (kr ⟨7,bD,aL,0,fn,n⟩ _ _ _ _ _ _ _ _ _ (At.len hq1 hl) _ _) (MSub.pick pK (MSub.pick pK (MSub.pick pK (MSub.refl _))));rintro _ _ ⟨rfl,B3,cb3,rfl⟩)|refine sT ?_|refine sP ?_|refine sQ ?_|refine sN ?_|refine sNQ ?_|refine sD ?_|refine sM fun _=> ?_|(refine sC ?_ ?_<;>intro hb<;>try omega)|(refine sCQ ?_ ?_<;>intro hb<;>try omega)|exact cT|fail)
      all_goals first
        |(exfalso;omega)
        | (refine ed (p' := q.skip.put ⟨7, bD, aL, 0, fn, n⟩) (B' := B3) (cb' := cb3) (by first | exact .inr rfl | exact .inl rfl) rfl rfl (h1'.put _) ?_
           simp only [Re,QR,QU,pB]
           exact mS)
end Go.SL
namespace Go.SL
open Go Go.Proofs
attribute [local irreducible] W WL WQ WG WA WX WLI WR WT VOp thn blk bE scp aV bI aK FnIn
theorem Nj {l m:List Int} (hl:gS l) (hm:gS m):mkB l=mkB m↔l=m:=⟨fun h=>by rw [← ny hl,← ny hm,h],fun h=>by rw [h]⟩
theorem oU (a b:ByteArray) (w:World):ay Tryz.prog 212 [.string a,.string b] w (.bool (decide ((ap a).take b.size=ap b))):=by
 refine aq Tryz.func212 rfl Tryz.ntmps212 rfl ?_
 have ha:=au a
 have hb' :=au b
 have e: ∀ h:b.size≤a.size,decide (sub a 0 b.size=b)=decide ((ap a).take b.size=ap b):=fun h=>by
  rw [decide_eq_decide,← tU]
  exact ⟨fun h=>by rw [h],fun h=>vQ h⟩
 repeat' (first|refine sT ?_|refine sT2 ?_|refine sM fun _=> ?_|(refine sC ?_ ?_<;>intro hb<;>try omega)|fail)
 ·
  rw [e (by omega)]
  (refine rT1 ?_)
  rfl
 ·
  (refine rT1 ?_)
  rw [decide_eq_false]
  intro h
  have:=congrArg List.length h
  rw [Rq] at this
  omega
theorem zk (a b:ByteArray) (w:World):ay Tryz.prog 271 [.string a,.string b] w (.bool (decide ((ap a).take b.size=ap b))):=by
 refine aq Tryz.func271 rfl Tryz.ntmps271 rfl ?_
 repeat' (first|(apply aa;exact rfl;exact rfl;(intro w hm;exact oU a b w))|refine sT ?_|refine sM fun _=> ?_|(refine sC ?_ ?_<;>intro hb<;>try omega)|fail)
 (refine rT1 ?_)
 rfl
theorem vH (c:Int) (w:World):ay Tryz.prog 268 [.int .i64 c] w (.bool (decide (1≤c) && decide (c≤5))):=by
 refine aq Tryz.func268 rfl Tryz.ntmps268 rfl ?_
 repeat' (first|refine sT ?_|refine sM fun _=> ?_|(refine sC ?_ ?_<;>intro hb<;>try omega)|fail)
 all_goals ((refine rT1 ?_);simp_all<;>omega)
theorem zt {k:Nat} (h1:1≤k) (h2:k≤5): ∃ s,dI.drop (k - 1)=s::dI.drop k∧cD.getD k av=mkB s∧gS s∧s.length≤10:=by
 rcases (by omega:k=1∨k=2∨k=3∨k=4∨k=5) with rfl|rfl|rfl|rfl|rfl<;>refine ⟨_,rfl,rfl,?_,by decide⟩<;>(intro c hc;simp at hc;omega)
theorem m8 (l:List Int):(mkB l).size=l.length:=by simp [mkB,ByteArray.size]
def kw (l:List Int):Option (Tk × Nat):=(jU l dI 1).map fun x=>(⟨4,x.1,av,aL,0⟩,x.2)
set_option maxHeartbeats 1000000 in
theorem NC (a:ByteArray) (ha:a.size≤100000) (i:Nat) (hi:i≤a.size) (g:Nat) (w:World) (hr:Ro w g 0 [.string a]) (hW:Words w):
  ay Tryz.prog 224 [.pointer (some ⟨g,0,none⟩),.int .i64 (i:Int)] w (DB (atT i (kw ((ap a).drop i)))):=by
 refine aq Tryz.func224 rfl Tryz.ntmps224 rfl ?_
 have hl:=au a
 unfold kw
 generalize hF:jU ((ap a).drop i) dI 1=F
 repeat' (first|refine sT ?_|refine sT2 ?_|refine sM fun _=> ?_|(refine sC ?_ ?_<;>intro hb<;>try omega)|fail)
 rename_i g4
 refine ax [0,1,4,5] rfl (fun k:Nat=> [(6,.int .i64 (k:Int))]) (fun _=> [.box g4 228 (bg cY)]) (fun k=>1≤k∧k≤6∧F=jU ((ap a).drop i) (dI.drop (k - 1)) k) (fun k=>6 - k) 1 ⟨by omega,by omega,hF.symm⟩ sB mS ?_
 rintro k ⟨hk1,hk2,hk3⟩
 by_cases hk:k≤5
 ·
  obtain ⟨s,e1,e2,e3,e4⟩:=zt hk1 hk
  have e5:fR (k:Int)=⟨4,(k:Int),av⟩:=by rw [fR,if_neg (by omega)]
  have hFa:=mh (k:Int)
  rw [e5] at hFa
  have hSh:=fun w' h=>N0 (k:Int) (by omega) (by omega) w' h
  rw [SD,e2] at hSh
  rw [e1,jU] at hk3
  have hlit:(decide (1≤(k:Int)) && decide ((k:Int)≤5))=true:=by simp;omega
  have hL:=vH (k:Int)
  rw [hlit] at hL
  have hms:=m8 s
  have hcut:ap (sub a i (i+s.length))=((ap a).drop i).take s.length:=by rw [dV,show i+s.length - i=s.length by omega]
  have hU:=fun h=>qM (sub a i (i+s.length)) h
  have hdec:upB (sub a i (i+s.length))=mkB s↔(((ap a).drop i).take s.length).map upC=s:=by
   rw [upB,hcut,Nj _ e3]
   rw [← hcut,← qt]
   exact l5 _
  rw [← hms] at hU hdec hk3
  repeat' (first|(apply ak;exact rfl;apply aI (o:=0) (off:=0);exact hr;exact rfl;exact rfl)|(apply aa;exact rfl;exact rfl;(intro w hm;exact hL w))|(apply aa;exact rfl;exact rfl;(intro w hm;exact hFa w))|(apply aa;exact rfl;exact rfl;(intro w' hm;exact hSh w' (hW.next hm)))|(apply aa;exact rfl;exact rfl;(intro w hm;exact hU (by rw [ck _ (by omega)];omega) w))|refine sT ?_|refine sT2 ?_|refine sN ?_|refine sM fun _=> ?_|(refine sC ?_ ?_<;>intro hb<;>try omega)|fail)
  ·
   (refine eQ ?_)
   rw [hk3,if_pos (hdec.1 hb)]
   rfl
  ·
   refine ⟨k+1,?_,(by first|omega|(dsimp only;omega)),sB,sB,mS⟩
   refine ⟨by omega,by omega,?_⟩
   rw [hk3,if_neg fun h=>hb (hdec.2 h)]
   rfl
  ·
   refine ⟨k+1,?_,(by first|omega|(dsimp only;omega)),sB,sB,mS⟩
   refine ⟨by omega,by omega,?_⟩
   rw [hk3,if_neg]
   ·
    rfl
   ·
    intro h
    have:=congrArg List.length h
    rw [RN,Rq,Rk] at this
    omega
 ·
  have e:k=6:=by omega
  subst e
  rw [show dI.drop (6 - 1)= [] from rfl,jU] at hk3
  rw [hk3]
  have hL:=vH 6
  rw [show (decide (1≤(6:Int)) && decide ((6:Int)≤5))=false from rfl] at hL
  repeat' (first|(apply aa;exact rfl;exact rfl;(intro w hm;exact hL w))|refine sT ?_|refine sT2 ?_|refine sM fun _=> ?_|(refine sC ?_ ?_<;>intro hb<;>try omega)|fail)
  all_goals try (exfalso;omega)
  (refine eQ ?_)
  rfl
def FZ:List Value:=eO.map fun x=> .string (mkB x.1)
def F2:List Value:=eO.map fun x=> .int .i64 x.2
theorem za (w:World):aK Tryz.prog 270 [] w fun v H=> ∃ g g',v= .tuple #[sl (some g) 13 13,sl (some g') 13 13]∧H= [.own (some g) 9 1 13 13 FZ,.own (some g') 2 1 13 13 F2]:=by
 refine aq Tryz.func270 rfl Tryz.ntmps270 rfl ?_
 repeat' (first|refine sT ?_|refine sM fun _=> ?_|(refine sC ?_ ?_<;>intro hb<;>try omega)|fail)
 rename_i g g'
 refine eY (.inl rfl) rfl rfl rfl (H' := [.own (some g) 9 1 13 13 FZ,.own (some g') 2 1 13 13 F2]) ?_ ⟨g,g',rfl,rfl⟩
 exact mS
theorem Pk {k:Nat} (h:k<13): ∃ s n,eO.drop k=(s,n)::eO.drop (k+1)∧FZ[k]? =some (.string (mkB s))∧F2[k]? =some (.int .i64 n)∧gS s∧s.length≤2:=by
 rcases (by omega:k=0∨k=1∨k=2∨k=3∨k=4∨k=5∨k=6∨k=7∨k=8∨k=9∨k=10∨k=11∨k=12) with rfl|rfl|rfl|rfl|rfl|rfl|rfl|rfl|rfl|rfl|rfl|rfl|rfl<;>refine ⟨_,_,rfl,rfl,rfl,?_,by decide⟩<;>(intro c hc;simp at hc;omega)
def gU (l:List Int):Option (Tk × Nat):=
 match opL l eO with
 |some (k,n)=>some (⟨8,k,av,aL,0⟩,n)
 |none=>if l.headD 0=40 then some (⟨9,0,av,aL,0⟩,1) else if l.headD 0=41 then some (⟨10,0,av,aL,0⟩,1) else if l.headD 0=44 then some (⟨11,0,av,aL,0⟩,1) else none
set_option maxHeartbeats 1000000 in
theorem MU (a:ByteArray) (ha:a.size≤100000) (i:Nat) (hi:i<a.size) (g:Nat) (w:World) (hr:Ro w g 0 [.string a]):
  ay Tryz.prog 225 [.pointer (some ⟨g,0,none⟩),.int .i64 (i:Int)] w (DB (atT i (gU ((ap a).drop i)))):=by
 refine aq Tryz.func225 rfl Tryz.ntmps225 rfl ?_
 have hl:=au a
 unfold gU
 rw [lC]
 generalize hF:opL ((ap a).drop i) eO=F
 repeat' (first|(apply aA;exact rfl;exact rfl;(intro w' hm;exact za w');(rintro v H' ⟨gs,gn,rfl,rfl⟩))|refine sT ?_|refine sT2 ?_|refine sM fun _=> ?_|(refine sC ?_ ?_<;>intro hb<;>try omega)|fail)
 rename_i g4
 refine ax [0,1,4,5,7,14,15] rfl (fun k:Nat=> [(16,.int .i64 (k:Int))]) (fun _=> [.box g4 228 (bg cY),.own (some gs) 9 1 13 13 FZ,.own (some gn) 2 1 13 13 F2]) (fun k=>k≤13∧F=opL ((ap a).drop i) (eO.drop k)) (fun k=>13 - k) 0 ⟨by omega,hF.symm⟩ sB mS ?_
 rintro k ⟨hk2,hk3⟩
 by_cases hk:k<13
 ·
  obtain ⟨s,m,e1,e2,e3,e4,e5⟩:=Pk hk
  rw [e1,opL] at hk3
  have hms:=m8 s
  have hP:=zk (sub a i a.size) (mkB s)
  rw [oh,ny e4,hms] at hP
  repeat' (first|(apply ak;exact rfl;apply aI (o:=0) (off:=0);exact hr;exact rfl;exact rfl)|(apply aa;exact rfl;exact rfl;(intro w hm;exact hP w))|(apply ak;exact rfl;apply aj (j:=k);exact rfl;exact rfl;exact hk)|(apply ak;exact rfl;apply bQ;exact rfl;exact pK;(rw [show 0+k*1=k by omega];first|exact e2|exact e3))|refine sT ?_|refine sT2 ?_|refine sN ?_|refine sM fun _=> ?_|(refine sC ?_ ?_<;>intro hb<;>try omega)|fail)
  ·
   (refine eQ ?_)
   rw [hk3,if_pos hb,hms]
   rfl
  ·
   refine ⟨k+1,?_,(by first|omega|(dsimp only;omega)),sB,sB,mS⟩
   exact ⟨hk,by rw [hk3,if_neg hb]⟩
 ·
  have e:k=13:=by omega
  subst e
  rw [show eO.drop 13= [] from rfl,opL] at hk3
  subst hk3
  repeat' (first|(apply ak;exact rfl;apply aI (o:=0) (off:=0);exact hr;exact rfl;exact rfl)|refine sT ?_|refine sT2 ?_|refine sN ?_|refine sM fun _=> ?_|(refine sC ?_ ?_<;>intro hb<;>try omega)|fail)
  all_goals try (exfalso;omega)
  all_goals
   (refine eQ ?_)
   simp_all
   try rfl
end Go.SL
namespace Go.SL
open Go Go.Proofs
attribute [local irreducible] W WL WQ WG WA WX WLI WR WT WC VOp RW thn blk bE scp aV bo bI aK FnIn FnP ceP
instance fldTk1:FldT Tryz.prog 228 1 2 1:=⟨_,_,Tryz.underlying228,rfl,rfl,rfl⟩
instance fldTk4:FldT Tryz.prog 228 4 3 7:=⟨_,_,Tryz.underlying228,rfl,rfl,rfl⟩
def rC (sa:ByteArray) (A:Option Nat) (n cap k:Nat) (B:Option Nat) (m cb:Nat) (at_ e:Int):List Value:= [.string sa,sl A n cap,.int .i64 (k:Int),sl B m cb,.int .i64 at_,.int .i64 e]
def rB (g:Nat) (sa:ByteArray) (A:Option Nat) (cap:Nat) (toks:List Tk) (k:Nat) (B:Option Nat) (cb:Nat) (out:List Nd) (at_ e:Int):List Blk:=
 [.box g 245 (rC sa A toks.length cap k B out.length cb at_ e),.own A 228 8 toks.length cap (toks.flatMap bg),.own B 293 11 out.length cb (out.flatMap bX)]
theorem Qn {A:Option Nat} {cap:Nat} {toks:List Tk} {w0 w:World} {H:List Blk} (hm:Mem w0 w H) (hi:In (.own A 228 8 toks.length cap (toks.flatMap bg)) H) {k:Nat} (hk:k<toks.length): ∃ ga,A=some ga∧Ro w ga 0 (toks.flatMap bg):=by
 obtain ⟨_,_,_,h4⟩:=(hm.on _ hi.mem).1
 cases A with
 |none=>obtain ⟨h5,_⟩:=h4;omega
 |some ga=>exact ⟨ga,rfl,Ro.of_own hm hi⟩
theorem Br (g:Nat) (sa:ByteArray) (hsa:sa.size≤1000) (A:Option Nat) (cap:Nat) (toks:List Tk) (ht1:toks.length≤1000) (k:Nat) (B:Option Nat) (m cb:Nat) (at_ e:Int) (w:World) (hr:Ro w g 0 (rC sa A toks.length cap k B m cb at_ e))
  (ht:k<toks.length→ ∃ ga,A=some ga∧Ro w ga 0 (toks.flatMap bg)):ay Tryz.prog 197 [.pointer (some ⟨g,0,none⟩)] w (.agg (bg (hdT (sa.size:Int) (toks.drop k))).toArray):=by
 refine aq Tryz.func197 rfl Tryz.ntmps197 rfl ?_
 unfold rC at hr
 by_cases hlt:k<toks.length
 ·
  rw [Ge hlt]
  obtain ⟨ga,rfl,hra⟩:=ht hlt
  have hra' :=hra.elem x8 k hlt
  repeat' (first|(apply gH (id:=1);kernel_rfl;kernel_rfl)|(apply aS;exact rfl;apply aI (o:=0) (off:=1);exact hr;exact rfl;exact rfl)|(apply aS;exact rfl;apply aI (o:=0) (off:=2);exact hr;exact rfl;exact rfl)|refine sT ?_|refine sS ?_|refine sQ ?_|refine sM fun _=> ?_|(refine sC ?_ ?_<;>intro hb<;>try omega)|(refine sCQ ?_ ?_<;>intro hb<;>try omega)|fail)
  all_goals try (exfalso;omega)
  rename_i g2
  refine iL (id:=2) [10] [] [] (by kernel_rfl) (by kernel_rfl) (by kernel_rfl) mS ?_
  repeat' (first|(apply da;(iterate 3 exact rfl);apply aI (o:=0) (off:=1);exact hr;exact rfl;exact rfl)|(apply da;(iterate 3 exact rfl);apply aI (o:=0) (off:=2);exact hr;exact rfl;exact rfl)|(apply da;(iterate 3 exact rfl);apply aj (j:=k);exact rfl;exact rfl;exact hlt)|(apply da;(iterate 3 exact rfl);apply aB;exact rfl;exact hra';exact rfl)|refine sT ?_|refine sS ?_|refine sW ?_|refine sM fun _=> ?_|(refine sC ?_ ?_<;>intro hb<;>try omega)|(refine sCW ?_ ?_<;>intro hb<;>try omega)|fail)
  all_goals try (exfalso;omega)
  (refine eRC ?_)
  rfl
 ·
  rw [tW (by omega)]
  repeat' (first|(apply gH (id:=1);kernel_rfl;kernel_rfl)|(apply aS;exact rfl;apply aI (o:=0) (off:=1);exact hr;exact rfl;exact rfl)|(apply aS;exact rfl;apply aI (o:=0) (off:=2);exact hr;exact rfl;exact rfl)|(apply ak;exact rfl;apply aI (o:=0) (off:=0);exact hr;exact rfl;exact rfl)|refine sT ?_|refine sS ?_|refine sQ ?_|refine sM fun _=> ?_|(refine sC ?_ ?_<;>intro hb<;>try omega)|(refine sCQ ?_ ?_<;>intro hb<;>try omega)|fail)
  all_goals try (exfalso;omega)
  (refine eRC ?_)
  rfl
theorem u6 {g:Nat} {sa:ByteArray} (hsa:sa.size≤1000) {A:Option Nat} {cap:Nat} {toks:List Tk} (ht1:toks.length≤1000) {k:Nat} {B:Option Nat} {cb:Nat} {out:List Nd} {at_ e:Int} {t:Tk} (hd:hdT (sa.size:Int) (toks.drop k)=t) {H:List Blk} {w0:World} (hH:MSub (rB g sa A cap toks k B cb out at_ e) H) (w:World) (hm:Mem w0 w H):
  ay Tryz.prog 197 [.pointer (some ⟨g,0,none⟩)] w (.agg (bg t).toArray):=by
 have hm' :=hH.use hm
 rw [← hd]
 exact Br g sa hsa A cap toks ht1 k B out.length cb at_ e w (Ro.of_box hm' .hd) fun hlt=>Qn hm' (.tl .hd) hlt
theorem HK (op:Int) (w:World):ay Tryz.prog 288 [.int .i64 op] w (.tuple #[.int .i64 (f9 op),.bool (decide (op=5)),.int .i64 (if f9 op=0 then 2 else 0)]):=by
 refine aq Tryz.func288 rfl Tryz.ntmps288 rfl ?_
 repeat' (first|refine sT ?_|refine sM fun _=> ?_|(refine sC ?_ ?_<;>intro hb<;>try omega)|fail)
 all_goals ((refine rT3 ?_);simp_all [f9];try omega)
theorem Pa (q:Int) {g:Nat} {sa:ByteArray} (hsa:sa.size≤1000) {A:Option Nat} {cap:Nat} {toks:List Tk} (ht1:toks.length≤1000) {k:Nat} {B:Option Nat} {cb:Nat} {out:List Nd} {at_ e:Int} {t:Tk} (hd:hdT (sa.size:Int) (toks.drop k)=t) {H:List Blk} {w0:World} (hH:MSub (rB g sa A cap toks k B cb out at_ e) H) (w:World) (hm:Mem w0 w H):
  ay Tryz.prog 241 [.pointer (some ⟨g,0,none⟩),.int .i64 q] w (.bool (decide (t.kind=8∧f9 t.num=q))):=by
 have hm0:=hH.use hm
 refine aq Tryz.func241 rfl Tryz.ntmps241 rfl ?_
 have hh: ∀ w' H',Mem w w' H' →ay Tryz.prog 197 [.pointer (some ⟨g,0,none⟩)] w' (.agg (bg t).toArray):=fun w' H' hm' =>by
  rw [← hd]
  refine Br g sa hsa A cap toks ht1 k B out.length cb at_ e w' ((Ro.of_box hm0 .hd).next hm') fun hlt=> ?_
  obtain ⟨ga,h1,h2⟩:=Qn hm0 (.tl .hd) hlt
  exact ⟨ga,h1,h2.next hm'⟩
 repeat' (first|(apply aa (f:=197);exact rfl;exact rfl;(intro w' hm';exact hh w' _ hm'))|(apply aa (f:=288);exact rfl;exact rfl;(intro w' _;exact HK _ w'))|refine sT ?_|refine sS ?_|refine sM fun _=> ?_|(refine sC ?_ ?_<;>intro hb<;>try omega)|fail)
 all_goals ((refine rT1 ?_);simp_all)
theorem fA (g:Nat) (sa:ByteArray) (A:Option Nat) (n cap k:Nat) (B:Option Nat) (m cb:Nat) (at_ e a2 e2:Int) (R:List Blk) (w0:World):
  FnIn Tryz.prog 196 [.pointer (some ⟨g,0,none⟩),.int .i64 a2,.int .i64 e2] w0 (.box g 245 (rC sa A n cap k B m cb at_ e)::R) fun v H=>v= .tuple #[]∧H= .box g 245 (rC sa A n cap k B m cb (if e=0 then a2 else at_) (if e=0 then e2 else e))::R:=by
 refine dD Tryz.func196 rfl Tryz.ntmps196 rfl ?_
 unfold rC
 by_cases he:e=0
 ·
  subst he
  rw [if_pos rfl,if_pos rfl]
  repeat' (first|refine sT ?_|refine sS ?_|refine sM fun _=> ?_|(refine sC ?_ ?_<;>intro hb<;>try omega)|fail)
  all_goals first|(exfalso;omega)|exact fO eIO rfl mS ⟨rfl,rfl⟩
 ·
  rw [if_neg he,if_neg he]
  repeat' (first|refine sT ?_|refine sS ?_|refine sM fun _=> ?_|(refine sC ?_ ?_<;>intro hb<;>try omega)|fail)
  all_goals first|(exfalso;omega)|exact fO eIO rfl mS ⟨rfl,rfl⟩
theorem lg (c:Int) {g:Nat} {sa:ByteArray} (hsa:sa.size≤1000) {A:Option Nat} {cap:Nat} {toks:List Tk} (ht1:toks.length≤1000) {k:Nat} (hk1:k≤2000) {B:Option Nat} {cb:Nat} {out:List Nd} {at_ e:Int} {t:Tk} (hd:hdT (sa.size:Int) (toks.drop k)=t) (hc:t.kind=c) (R:List Blk) (w0:World):
  FnIn Tryz.prog 347 [.pointer (some ⟨g,0,none⟩),.int .u8 c] w0 (rB g sa A cap toks k B cb out at_ e++R) fun v H=>v= .tuple #[]∧H=rB g sa A cap toks (k+1) B cb out at_ e++R:=by
 refine dD Tryz.func347 rfl Tryz.ntmps347 rfl ?_
 have hh:=fun w hm=>u6 (g:=g) hsa ht1 hd (B:=B) (cb:=cb) (out:=out) (at_:=at_) (e:=e) (A:=A) (cap:=cap) (w0:=w0) (H:=rB g sa A cap toks k B cb out at_ e++R) ⟨R,.refl _⟩ w hm
 unfold rB rC at hh ⊢
 repeat' (first|(apply ak;exact rfl;apply cO;exact rfl;exact rfl)|(apply aa (f:=197);exact rfl;exact rfl;exact hh)|refine sT ?_|refine sS ?_|refine sN ?_|refine sM fun _=> ?_|(refine sC ?_ ?_<;>intro hb<;>try omega)|fail)
 all_goals first
  |(exfalso;omega)
  |exact fO eIO rfl (.refl _) ⟨rfl,rfl⟩
theorem u5 (c:Int) {g:Nat} {sa:ByteArray} (hsa:sa.size≤1000) {A:Option Nat} {cap:Nat} {toks:List Tk} (ht1:toks.length≤1000) {k:Nat} {B:Option Nat} {cb:Nat} {out:List Nd} {at_ e:Int} {t:Tk} (hd:hdT (sa.size:Int) (toks.drop k)=t) (hc:t.kind≠c) (R:List Blk) (w0:World):
  FnIn Tryz.prog 347 [.pointer (some ⟨g,0,none⟩),.int .u8 c] w0 (rB g sa A cap toks k B cb out at_ e++R) fun v H=>v= .tuple #[]∧H=rB g sa A cap toks k B cb out (if e=0 then t.at_ else at_) (if e=0 then 4 else e)++R:=by
 refine dD Tryz.func347 rfl Tryz.ntmps347 rfl ?_
 have hh:=fun w hm=>u6 (g:=g) hsa ht1 hd (B:=B) (cb:=cb) (out:=out) (at_:=at_) (e:=e) (A:=A) (cap:=cap) (w0:=w0) (H:=rB g sa A cap toks k B cb out at_ e++R) ⟨R,.refl _⟩ w hm
 unfold rB at hh ⊢
 repeat' (first|(apply ak;exact rfl;apply cO;exact rfl;exact rfl)|(apply aa (f:=197);exact rfl;exact rfl;exact hh)|(apply aw (f:=196);exact rfl;exact rfl;exact FnIn.msub (fA g sa A _ cap k B _ cb at_ e _ _ _ _) (MSub.pick .hd (.refl _));rintro _ _ ⟨rfl,rfl⟩)|refine sT ?_|refine sS ?_|refine sN ?_|refine sM fun _=> ?_|(refine sC ?_ ?_<;>intro hb<;>try omega)|fail)
 all_goals first
  |(exfalso;omega)
  |exact fO eIO rfl (.refl _) ⟨rfl,rfl⟩
end Go.SL
namespace Go.SL
open Go Go.Proofs
attribute [local irreducible] W WL WQ WG WA WX WLI WR WT VOp thn blk bE scp aV bo bI aK FnIn FnP
theorem xH (fin:Int) (f:Nat) (p:PS) (h:(hdT fin p.l).kind=7):bq fin (f+1) .prim p=wB f (hdT fin p.l) fin p:=by
 rw [bq]
 dsimp only
 rw [if_neg (by omega),if_neg (by omega),if_neg (by omega),if_pos h]
 rfl
set_option maxHeartbeats 4000000 in
theorem Ea (f:Nat) (ih: ∀ f' ≤f,POK f' (.level 1) 176 []):POK (f+1) .prim 335 []:=by
  intro toks A cap fin g p lv B cb r R w0 hc hl hat hrun
  refine vY Tryz.func335 rfl Tryz.ntmps335 rfl ?_
  obtain ⟨t,ht⟩: ∃ t,hdT fin p.l=t:=⟨_,rfl⟩
  have hh:=fun w hm=>At.head' (fin:=fin) (g:=g) (B:=B) (cb:=cb) (out:=p.out) (H:=pB g lv A cap fin toks B cb p.out++R) (w0:=w0) hat ht (MSub.pick .hd (.pick .hd (.pick .hd (.nil _)))) w hm
  by_cases h7:t.kind=7
  · rw [xH _ _ _ (by rw [ht];exact h7),ht] at hrun
    have hcl:=NS f t ih toks A cap fin g p lv B cb r
    unfold zy at hcl
    rw [if_pos ⟨ht,h7⟩] at hcl
    repeat' (first|(apply aa (f:=177);exact rfl;exact rfl;exact hh)|(refine bF (f:=356) rfl rfl (FnP.msub (hcl _ w0 hc hl hat hrun) (MSub.pick pK (MSub.pick pK (MSub.pick pK (MSub.refl _))))) ?_ ?_)|(rintro _ _ ⟨rfl,n,p',lv',B',cb',rfl,h2,rfl⟩)|(rintro _ _ ⟨e,rfl,rfl,h3⟩)|refine sT ?_|refine sP ?_|refine sM fun _=> ?_|(refine sC ?_ ?_<;>intro hb<;>try omega)|fail)
    · refine ed (B' :=B') (cb' :=cb') (by first|exact .inr rfl|exact .inl rfl) rfl rfl h2 ?_
      simp only [Re,QR,QU,pB]
      exact mS
    · exact cP rfl (MSub.trans (.drop .hd (.refl _)) h3)
  rw [bq] at hrun
  dsimp only at hrun
  rw [ht] at hrun
  by_cases h14:1≤t.kind∧t.kind≤4
  · rw [if_pos h14] at hrun
    cases hrun
    rcases (by omega:t.kind=1∨t.kind=2∨t.kind=3∨t.kind=4) with hk|hk|hk|hk
    · repeat' (first|(apply aa (f:=177);exact rfl;exact rfl;exact hh)|(refine bF (f:=354) rfl rfl (FnP.msub (pW ⟨1,t.num,av⟩ toks A cap fin g p _ B cb (.ok (0,p.skip.put (l3 t))) _ w0 hc hl hat (by dsimp only;rw [if_neg (by rw [ht];omega)];simp [l3,hk])) (MSub.pick pK (MSub.pick pK (MSub.pick pK (MSub.refl _))))) ?_ ?_)|(rintro _ _ ⟨rfl,n,p',lv',B',cb',h,h2,rfl⟩)|(rintro _ _ ⟨e,h,rfl,h3⟩;cases h)|refine sT ?_|refine sP ?_|refine sM fun _=> ?_|(refine sC ?_ ?_<;>intro hb<;>try omega)|fail)
      all_goals first
        |(exfalso;omega)
        | (refine ed (B' := B') (cb' := cb') (by first | exact .inr rfl | exact .inl rfl) rfl h h2 ?_
           simp only [Re,QR,QU,pB]
           exact mS)
    · repeat' (first|(apply aa (f:=177);exact rfl;exact rfl;exact hh)|(refine bF (f:=354) rfl rfl (FnP.msub (pW ⟨3,0,t.text⟩ toks A cap fin g p _ B cb (.ok (0,p.skip.put (l3 t))) _ w0 hc hl hat (by dsimp only;rw [if_neg (by rw [ht];omega)];simp [l3,hk])) (MSub.pick pK (MSub.pick pK (MSub.pick pK (MSub.refl _))))) ?_ ?_)|(rintro _ _ ⟨rfl,n,p',lv',B',cb',h,h2,rfl⟩)|(rintro _ _ ⟨e,h,rfl,h3⟩;cases h)|refine sT ?_|refine sP ?_|refine sM fun _=> ?_|(refine sC ?_ ?_<;>intro hb<;>try omega)|fail)
      all_goals first
        |(exfalso;omega)
        | (refine ed (B' := B') (cb' := cb') (by first | exact .inr rfl | exact .inl rfl) rfl h h2 ?_
           simp only [Re,QR,QU,pB]
           exact mS)
    · repeat' (first|(apply aa (f:=177);exact rfl;exact rfl;exact hh)|(refine bF (f:=354) rfl rfl (FnP.msub (pW ⟨2,t.num,av⟩ toks A cap fin g p _ B cb (.ok (0,p.skip.put (l3 t))) _ w0 hc hl hat (by dsimp only;rw [if_neg (by rw [ht];omega)];simp [l3,hk])) (MSub.pick pK (MSub.pick pK (MSub.pick pK (MSub.refl _))))) ?_ ?_)|(rintro _ _ ⟨rfl,n,p',lv',B',cb',h,h2,rfl⟩)|(rintro _ _ ⟨e,h,rfl,h3⟩;cases h)|refine sT ?_|refine sP ?_|refine sM fun _=> ?_|(refine sC ?_ ?_<;>intro hb<;>try omega)|fail)
      all_goals first
        |(exfalso;omega)
        | (refine ed (B' := B') (cb' := cb') (by first | exact .inr rfl | exact .inl rfl) rfl h h2 ?_
           simp only [Re,QR,QU,pB]
           exact mS)
    · repeat' (first|(apply aa (f:=177);exact rfl;exact rfl;exact hh)|(refine bF (f:=354) rfl rfl (FnP.msub (pW ⟨4,t.num,av⟩ toks A cap fin g p _ B cb (.ok (0,p.skip.put (l3 t))) _ w0 hc hl hat (by dsimp only;rw [if_neg (by rw [ht];omega)];simp [l3,hk])) (MSub.pick pK (MSub.pick pK (MSub.pick pK (MSub.refl _))))) ?_ ?_)|(rintro _ _ ⟨rfl,n,p',lv',B',cb',h,h2,rfl⟩)|(rintro _ _ ⟨e,h,rfl,h3⟩;cases h)|refine sT ?_|refine sP ?_|refine sM fun _=> ?_|(refine sC ?_ ?_<;>intro hb<;>try omega)|fail)
      all_goals first
        |(exfalso;omega)
        | (refine ed (B' := B') (cb' := cb') (by first | exact .inr rfl | exact .inl rfl) rfl h h2 ?_
           simp only [Re,QR,QU,pB]
           exact mS)
  rw [if_neg h14] at hrun
  by_cases h5:t.kind=5
  · rw [if_pos h5] at hrun
    cases hrun
    repeat' (first|(apply aa (f:=177);exact rfl;exact rfl;exact hh)|(apply aw (f:=275);exact rfl;exact rfl;exact hat.skip hc (c:=5) (by rw [ht];exact h5) (by decide) (MSub.pick pK (MSub.pick pK (MSub.pick pK (MSub.refl _))));rintro _ _ ⟨rfl,lv1,h1,rfl⟩)|(apply aw (f:=276);exact rfl;exact rfl;exact FnIn.msub (kr ⟨2,bD,t.rect,0,0,0⟩ _ _ _ _ _ _ _ _ _ (At.len hat hl) _ _) (MSub.pick pK (MSub.pick pK (MSub.pick pK (MSub.refl _))));rintro _ _ ⟨rfl,B3,cb3,rfl⟩)|refine sT ?_|refine sP ?_|refine sM fun _=> ?_|(refine sC ?_ ?_<;>intro hb<;>try omega)|fail)
    all_goals first
      |(exfalso;omega)
      | (refine ed (p' := p.skip.put ⟨2, bD, t.rect, 0, 0, 0⟩) (B' := B3) (cb' := cb3) (by first | exact .inr rfl | exact .inl rfl) rfl rfl (h1.put _) ?_
         simp only [Re,QR,QU,pB]
         exact mS)
  rw [if_neg h5] at hrun
  by_cases h9:t.kind=9
  · rw [if_pos h9] at hrun
    obtain ⟨r1,hr1,hr2⟩:=bB hrun
    repeat' (first|(apply aa (f:=177);exact rfl;exact rfl;exact hh)|(apply aw (f:=275);exact rfl;exact rfl;exact hat.skip hc (c:=9) (by rw [ht];exact h9) (by decide) (MSub.pick pK (MSub.pick pK (MSub.pick pK (MSub.refl _))));rintro _ _ ⟨rfl,lv1,h1,rfl⟩)|(refine bF (f:=176) rfl rfl (FnP.msub (ih f (QV _) toks A cap fin g p.skip _ B cb r1 _ w0 hc hl (At1.at h1) hr1) (MSub.pick pK (MSub.pick pK (MSub.pick pK (MSub.refl _))))) ?_ ?_)|(rintro _ _ ⟨rfl,n,p',lv',B',cb',rfl,h2,rfl⟩)|(rintro _ _ ⟨e,rfl,rfl,h3⟩)|(rcases hr2 with ⟨e,h,_⟩|⟨n1,p1,h,hw⟩;cases h;cases h;refine bF (f:=355) rfl rfl (FnP.msub (yH 10 (by decide) toks A cap fin g p' _ B' cb' r _ w0 hc hl h2 hw) (MSub.pick pK (MSub.pick pK (MSub.pick pK (MSub.refl _))))) ?_ ?_)|refine sT ?_|refine sP ?_|refine sM fun _=> ?_|(refine sC ?_ ?_<;>intro hb<;>try omega)|fail)
    · refine ed (B' :=B') (cb' :=cb') (by first|exact .inr rfl|exact .inl rfl) rfl rfl h2 ?_
      simp only [Re,QR,QU,pB]
      exact mS
    · exact cP rfl (MSub.trans (.drop .hd (.refl _)) h3)
    · rcases hr2 with ⟨e',h,h5⟩|⟨n1,p1,h,h5⟩
      · cases h
        exact cP h5 (MSub.trans (.drop .hd (.refl _)) h3)
      · cases h
  rw [if_neg h9,if_neg h7] at hrun
  cases hrun
  repeat' (first|(apply aa (f:=177);exact rfl;exact rfl;exact hh)|(refine bF (f:=178) rfl rfl (iW _ _ _ _ _ (fun _ _=>False)) ?_ ?_)|(exact fun _ _ h=>h.elim)|(rintro _ _ ⟨rfl,rfl⟩)|refine sT ?_|refine sP ?_|refine sM fun _=> ?_|(refine sC ?_ ?_<;>intro hb<;>try omega)|fail)
  all_goals first
    |(exfalso;omega)
    | (refine cP rfl ?_
       simp only [Re,QR,QU,pB]
       exact mS)
theorem HR (f:Nat):(∀ k:Int,1≤k→k≤4→POK f (.level k) 226 [.int .i64 k])∧POK f .sign 272 []∧POK f .pct 304 []∧POK f .prim 335 []∧POK f (.level 1) 176 []:=by
 induction f using Nat.strongRecOn with
 |_ f ih=>
  cases f with
  |zero=>
   refine ⟨fun k _ _=> ?_,?_,?_,?_,?_⟩
   all_goals exact fun toks A cap fin g p lv B cb r R w0 hc hl hat h=>by cases h
  |succ f=>
   have hL: ∀ k:Int,1≤k→k≤4→POK (f+1) (.level k) 226 [.int .i64 k]:=fun k h1 h4=>
    KP f k h1 h4 (fun h3 f' hf' =>(ih f' (by omega)).1 (k+1) (by omega) (by omega)) (fun f' hf' =>(ih f' (by omega)).2.1)
   refine ⟨hL,MT f (ih f (by omega)).2.1 (ih f (by omega)).2.2.1,Ed f (ih f (by omega)).2.2.2.1,Ea f (fun f' hf' =>(ih f' (by omega)).2.2.2.2),EC (f+1) (hL 1 (by omega) (by omega))⟩
end Go.SL
namespace Go.SL
open Go Go.Proofs
attribute [local irreducible] W WL WQ WG WA WX WLI WR WT VOp thn blk bE scp aV bI aK FnIn
def gD (l:List Int):Option (Tk × Nat):=
 if bV (l.headD 0)=false then none
 else if (l.drop (aC cN l)).headD 0=40 then some (⟨7,0,mkB (upW l),aL,0⟩,aC cN l)
 else if mkB (upW l)=mH then some (⟨3,1,av,aL,0⟩,aC cN l)
 else if mkB (upW l)=kL then some (⟨3,0,av,aL,0⟩,aC cN l)
 else if (cv (upW l)).2.2≠0 then none
 else if (l.drop (aC cN l)).headD 0=58∧bV ((l.drop (aC cN l+1)).headD 0)=true∧(cv (upW (l.drop (aC cN l+1)))).2.2=0∧(l.drop (aC cN l+1+aC cN (l.drop (aC cN l+1)))).headD 0≠40 then
  some (⟨if (cv (upW l)).1=(cv (upW (l.drop (aC cN l+1)))).1∧(cv (upW l)).2.1=(cv (upW (l.drop (aC cN l+1)))).2.1 then 5 else 6,0,av,
   ⟨min (cv (upW l)).1 (cv (upW (l.drop (aC cN l+1)))).1,min (cv (upW l)).2.1 (cv (upW (l.drop (aC cN l+1)))).2.1,max (cv (upW l)).1 (cv (upW (l.drop (aC cN l+1)))).1,max (cv (upW l)).2.1 (cv (upW (l.drop (aC cN l+1)))).2.1⟩,0⟩,aC cN l+1+aC cN (l.drop (aC cN l+1)))
 else some (⟨5,0,av,BF (cv (upW l)).1 (cv (upW l)).2.1,0⟩,aC cN l)
theorem fJ (a b:Int):(if b<a then b else a)=min a b:=by omega
theorem fK (a b:Int):(if a<b then b else a)=max a b:=by omega
theorem CN (l:List Int) (hl:gS l) (hlen:l.length≤100000) (w:World):ay Tryz.prog 266 [.string (mkB l)] w (.tuple #[.agg (bh ⟨(cv l).1,(cv l).2.1⟩).toArray,.int .i64 (cv l).2.2]):=by
 have h:=zD (mkB l) (by rw [m8];exact hlen) w
 rw [ny hl,LY] at h
 exact h
set_option maxHeartbeats 2000000 in
theorem Mi (a:ByteArray) (ha:a.size≤10000) (i:Nat) (hi:i<a.size) (g:Nat) (w:World) (hr:Ro w g 0 [.string a]):
  ay Tryz.prog 223 [.pointer (some ⟨g,0,none⟩),.int .i64 (i:Int)] w (DB (atT i (gD ((ap a).drop i)))):=by
 refine aq Tryz.func223 rfl Tryz.ntmps223 rfl ?_
 have hl:=au a
 have hP1:=fun w' h=>Bu a (by omega) i (by omega) g w' h
 have hwl:=bY cN ((ap a).drop i)
 have hul:=uH ((ap a).drop i)
 have huk:gS (upW ((ap a).drop i)):=JN fun c hc=>l5 a c (S5 hc)
 rw [Rk] at hwl
 have hW:gD ((ap a).drop i)=gD ((ap a).drop i):=rfl
 unfold gD at hW ⊢
 clear hW
 rw [lC]
 simp only [Sw]
 generalize hn:aC cN ((ap a).drop i)=n at*
 generalize hu:upW ((ap a).drop i)=u at*
 rw [lC]
 have hus:(mkB u).size=n:=by rw [m8,hul]
 have hA1:=CN u huk (by omega)
 generalize hau:cv u=A1 at hA1
 obtain ⟨c1,r1,e1⟩:=A1
 dsimp only at hA1 ⊢
 have hN1:=fun w' h=>ze a (by omega) (i+n) g w' h
 have hN2:=fun w' h=>ze a (by omega) (i+n+1) g w' h
 have hb1l:bat a (i+n)≠0→i+n<a.size:=fun h=>by
  rcases SR (i+n) a.size with h1|h1
  ·
   exact h1
  ·
   exfalso;apply h;rw [bat,Ru,Sn (by omega)];rfl
 generalize hb1:bat a (i+n)=b1 at hN1 hb1l
 rw [show i+(n+1)=i+n+1 by omega]
 have hvl:=uH ((ap a).drop (i+n+1))
 have hvk:gS (upW ((ap a).drop (i+n+1))):=JN fun c hc=>l5 a c (S5 hc)
 have hvr:=bY cN ((ap a).drop (i+n+1))
 rw [Rk] at hvr
 have hP2:=fun w' hi h=>Bu a (by omega) (i+n+1) hi g w' h
 generalize hm:aC cN ((ap a).drop (i+n+1))=m at*
 generalize hv:upW ((ap a).drop (i+n+1))=v at*
 rw [lC,lC]
 have hvs:(mkB v).size=m:=by rw [m8,hvl]
 have hA2:=CN v hvk (by omega)
 generalize hav:cv v=A2 at hA2
 obtain ⟨c2,r2,e2⟩:=A2
 dsimp only at hA2 ⊢
 rw [show i+(n+1+m)=i+n+1+m by omega]
 have hN3:=fun w' h=>ze a (by omega) (i+n+1+m) g w' h
 generalize hb2:bat a (i+n+1)=b2 at hN2
 generalize hb3:bat a (i+n+1+m)=b3 at hN3
 repeat' (first|(apply ak;exact rfl;apply aI (o:=0) (off:=0);exact hr;exact rfl;exact rfl)|(apply aa;exact rfl;exact rfl;(intro w hm;exact qq _ w))|(apply ak (d:=28);exact rfl;apply ra;exact rfl;exact hus)|(apply ak (d:=90);exact rfl;apply ra;exact rfl;exact hvs)|(apply ak (d:=126);exact rfl;apply ra;exact rfl;exact hvs)|(apply aa (d:=26);exact rfl;exact rfl;(intro w' hm;exact hP1 w' (hr.next hm)))|(apply aa (d:=77);exact rfl;exact rfl;(intro w' hm;exact hP2 w' (hb1l (by omega)) (hr.next hm)))|(apply aa (d:=34);exact rfl;exact rfl;(intro w' hm;exact hN1 w' (hr.next hm)))|(apply aa (d:=65);exact rfl;exact rfl;(intro w' hm;exact hN1 w' (hr.next hm)))|(apply aa (d:=71);exact rfl;exact rfl;(intro w' hm;exact hN2 w' (hr.next hm)))|(apply aa (d:=92);exact rfl;exact rfl;(intro w' hm;exact hN3 w' (hr.next hm)))|(apply aa;exact rfl;exact rfl;(intro w hm;exact hA1 w))|(apply aa;exact rfl;exact rfl;(intro w hm;exact hA2 w))|(apply ak (d:=99);exact rfl;exact fJ _ _ ▸ iU rfl rfl)|(apply ak (d:=104);exact rfl;exact fJ _ _ ▸ iU rfl rfl)|(apply ak (d:=109);exact rfl;exact fK _ _ ▸ gT rfl rfl)|(apply ak (d:=114);exact rfl;exact fK _ _ ▸ gT rfl rfl)|(apply ak (d:=118);exact rfl;exact OZ (a:=⟨c1,r1⟩) (b:=⟨c2,r2⟩) rfl rfl)|(apply aa;exact rfl;exact rfl;(intro w hm;exact PQ ⟨c1,r1⟩ w))|refine sT ?_|refine sT2 ?_|refine sN ?_|refine sM fun _=> ?_|(refine sC ?_ ?_<;>intro hb<;>try omega)|fail)
 all_goals
  (refine eQ ?_)
  simp_all [mH,kL,DB,atT,bg,bh,aL,av,BF,eqF,bK,cY]
end Go.SL
namespace Go.SL
open Go Go.Proofs
attribute [local irreducible] W WL WQ WG WA WX WLI WR WT VOp RW thn blk bE scp aV bo bI aK FnIn FnP
def jV (a b:ByteArray):ByteArray × Bool:=if (ap a).take b.size=ap b then (sub a b.size a.size,true) else (a,false)
theorem NM (a b:ByteArray) (ha:a.size≤1000000) (w:World):ay Tryz.prog 163 [.string a,.string b] w (.tuple #[.string (jV a b).1,.bool (jV a b).2]):=by
 refine aq Tryz.func163 rfl Tryz.ntmps163 rfl ?_
 have hp:=oU a b
 unfold jV
 by_cases h:(ap a).take b.size=ap b
 ·
  rw [if_pos h]
  rw [decide_eq_true h] at hp
  have hb:b.size≤a.size:=by
   have:=congrArg List.length h
   rw [Rq,au,au] at this
   omega
  repeat' (first|(apply aa;exact rfl;exact rfl;(intro w hm;exact hp w))|refine sT ?_|refine sT2 ?_|refine sM fun _=> ?_|(refine sC ?_ ?_<;>intro hb<;>try omega)|fail)
  all_goals exact eY eIO rfl rfl rfl (.refl _) rfl
 ·
  rw [if_neg h]
  rw [decide_eq_false h] at hp
  repeat' (first|(apply aa;exact rfl;exact rfl;(intro w hm;exact hp w))|refine sT ?_|refine sT2 ?_|refine sM fun _=> ?_|(refine sC ?_ ?_<;>intro hb<;>try omega)|fail)
  all_goals exact eY eIO rfl rfl rfl (.refl _) rfl
theorem LD (a b:ByteArray) (ha:a.size≤1000000) (w:World):ay Tryz.prog 137 [.string a,.string b] w (.tuple #[.string (jV a b).1,.bool (jV a b).2]):=by
 refine aq Tryz.func137 rfl Tryz.ntmps137 rfl ?_
 repeat' (first|(apply aa;exact rfl;exact rfl;(intro w hm;exact NM a b ha w))|refine sT ?_|refine sM fun _=> ?_|(refine sC ?_ ?_<;>intro hb<;>try omega)|fail)
 all_goals exact eY eIO rfl rfl rfl (.refl _) rfl
def MP (b:ByteArray):Vl × Bool:=(bD,decide (b=av))
def u7:ByteArray:=⟨#[39]⟩
def MN (b:ByteArray):Vl × Bool:=(⟨3,0,(jV b u7).1⟩,(jV b u7).2)
def JR (b:ByteArray):Vl × Bool:=(iI ⟨3,0,b⟩,decide ((iI ⟨3,0,b⟩).kind=2))
def Dv (b:ByteArray):Vl × Bool:=(fR (gW b).1,decide ((gW b).2=0) && decide ((gW b).1≤5))
def G0 (b:ByteArray):Vl × Bool:=if (f4 (ap b)).2=3 then (fR 3,true) else (vE (f4 (ap b)).1,decide ((f4 (ap b)).2=0))
def Aj (x:Vl × Bool):Value:= .tuple #[.agg (dA x.1).toArray,.bool x.2]
theorem MO (b:ByteArray) (g:Nat) (w:World) (hr:Ro w g 0 [.string b]):ay Tryz.prog 164 [.pointer (some ⟨g,0,none⟩)] w (Aj (MP b)):=by
 refine aq Tryz.func164 rfl Tryz.ntmps164 rfl ?_
 have hm:Mem w w []:=Mem.refl w
 repeat' (first|(rename_i g1;refine nW (id:=1) 3 [.box g1 127 (dA bD)] (by kernel_rfl) (by kernel_rfl) rfl ?_)|(apply De;exact rfl;(intro D ht;apply aI (o:=0) (off:=0);exact hr;exact rfl;exact rfl);exact fun _=>rfl)|(apply mD;exact rfl;exact rfl;exact pK;(iterate 3 exact rfl);decide;exact .refl _)|refine sT ?_|refine sG ?_|refine sM fun _=> ?_|(refine sC ?_ ?_<;>intro hb<;>try omega)|fail)
 all_goals ((refine eQ ?_);rfl)
theorem MM (b:ByteArray) (hb:b.size≤1000000) (g:Nat) (w:World) (hr:Ro w g 0 [.string b]):ay Tryz.prog 165 [.pointer (some ⟨g,0,none⟩)] w (Aj (MN b)):=by
 refine aq Tryz.func165 rfl Tryz.ntmps165 rfl ?_
 repeat' (first|(apply ak;exact rfl;apply aI (o:=0) (off:=0);exact hr;exact rfl;exact rfl)|(apply aa;exact rfl;exact rfl;(intro w hm;exact LD b u7 hb w))|refine sT ?_|refine sM fun _=> ?_|(refine sC ?_ ?_<;>intro hb<;>try omega)|fail)
 all_goals ((refine eQ ?_);rfl)
theorem ML (b:ByteArray) (hb:b.size≤1000000) (g:Nat) (w:World) (hr:Ro w g 0 [.string b]):ay Tryz.prog 166 [.pointer (some ⟨g,0,none⟩)] w (Aj (JR b)):=by
 refine aq Tryz.func166 rfl Tryz.ntmps166 rfl ?_
 have hT:=fun w' =>I8 ⟨3,0,b⟩ rfl hb w'
 unfold JR
 generalize iI ⟨3,0,b⟩=v at hT
 repeat' (first|(apply ak;exact rfl;apply aI (o:=0) (off:=0);exact hr;exact rfl;exact rfl)|(apply aa;exact rfl;exact rfl;(intro w hm;exact hT w))|(rename_i g1 g2;refine tP (id:=2) (g:=g1) (T:=127) (xs' :=dA v) (R:= [.box g2 127 (dA v)]) (fun D=> [if D 4 then .int .u8 v.kind else .int .u8 0,if D 4 then .int .i64 v.num else .int .i64 0,if D 4 then .string v.text else .string av]) (by kernel_rfl) (by kernel_rfl) pK rfl (by intro D hD;simp [hD 4 (by decide),dA]) ?_)|refine sT ?_|refine sG ?_|refine sM fun _=> ?_|(refine sC ?_ ?_<;>intro hb<;>try omega)|fail)
 all_goals ((refine eQ ?_);rfl)
theorem MK (b:ByteArray) (hb:b.size≤1000000) (g:Nat) (w:World) (hr:Ro w g 0 [.string b]) (hW:Words w):ay Tryz.prog 168 [.pointer (some ⟨g,0,none⟩)] w (Aj (Dv b)):=by
 refine aq Tryz.func168 rfl Tryz.ntmps168 rfl ?_
 unfold Dv
 have hC:=fun (w' :World) (h:Words w')=>Og b hb w' h
 generalize gW b=x at hC
 obtain ⟨c,e⟩:=x
 repeat' (first|(apply ak;exact rfl;apply aI (o:=0) (off:=0);exact hr;exact rfl;exact rfl)|(apply aa (f:=169);exact rfl;exact rfl;(intro w' hm';exact hC w' (hW.next hm')))|(apply aa (f:=170);exact rfl;exact rfl;(intro w' hm';exact mh c w'))|refine sT ?_|refine sM fun _=> ?_|(refine sC ?_ ?_<;>intro hb<;>try omega)|fail)
 all_goals ((refine eQ ?_);simp_all [Aj,dA])
theorem MJ (b:ByteArray) (hb:b.size≤1000000) (g:Nat) (w:World) (hr:Ro w g 0 [.string b]):ay Tryz.prog 171 [.pointer (some ⟨g,0,none⟩)] w (Aj (G0 b)):=by
 refine aq Tryz.func171 rfl Tryz.ntmps171 rfl ?_
 unfold G0
 have hC:=fun (w' :World)=>tj b hb w'
 generalize f4 (ap b)=x at hC
 obtain ⟨n,e⟩:=x
 repeat' (first|(apply ak;exact rfl;apply aI (o:=0) (off:=0);exact hr;exact rfl;exact rfl)|(apply aa;exact rfl;exact rfl;(intro w hm;exact hC w))|(apply aa (f:=170);exact rfl;exact rfl;(intro w' hm';exact mh 3 w'))|(apply aa (f:=173);exact rfl;exact rfl;(intro w' hm';exact Oe n w'))|refine sT ?_|refine sM fun _=> ?_|(refine sC ?_ ?_<;>intro hb<;>try omega)|fail)
 all_goals ((refine eQ ?_);simp_all [Aj,dA])
def Gt:List Nat:= [164,165,166,168,171]
def uJ:List (ByteArray→Vl × Bool):= [MP,MN,JR,Dv,G0]
def eF (b:ByteArray):List (ByteArray→Vl × Bool)→Vl
 | []=>⟨3,0,b⟩
 |t::r=>if (t b).2 then (t b).1 else eF b r
def rS (b:ByteArray):Vl:=eF b uJ
theorem JT (b:ByteArray) (hb:b.size≤1000000) (g k:Nat) (hk:k<5): ∃ f t,uJ.drop k=t::uJ.drop (k+1)∧(Gt.map fun f=>Value.func (.func f) #[] #[.pointer (some ⟨g,0,none⟩)])[k]? =some (.func (.func f) #[] #[.pointer (some ⟨g,0,none⟩)])∧Callable Tryz.prog f∧
  ∀ w,Ro w g 0 [.string b]→Words w→ay Tryz.prog f [.pointer (some ⟨g,0,none⟩)] w (Aj (t b)):=by
 rcases (by omega:k=0∨k=1∨k=2∨k=3∨k=4) with rfl|rfl|rfl|rfl|rfl
 ·
  exact ⟨_,_,rfl,rfl,inferInstance,fun w hr _=>MO b g w hr⟩
 ·
  exact ⟨_,_,rfl,rfl,inferInstance,fun w hr _=>MM b hb g w hr⟩
 ·
  exact ⟨_,_,rfl,rfl,inferInstance,fun w hr _=>ML b hb g w hr⟩
 ·
  exact ⟨_,_,rfl,rfl,inferInstance,fun w hr hW=>MK b hb g w hr hW⟩
 ·
  exact ⟨_,_,rfl,rfl,inferInstance,fun w hr _=>MJ b hb g w hr⟩
set_option maxHeartbeats 1000000 in
theorem CC (b:ByteArray) (hb:b.size≤1000000) (w:World) (hW:Words w):ay Tryz.prog 138 [.string b] w (.agg (dA (rS b)).toArray):=by
 refine aq Tryz.func138 rfl Tryz.ntmps138 rfl ?_
 repeat' (first|refine sT ?_|refine sS ?_|refine sM fun _=> ?_|(refine sC ?_ ?_<;>intro hb<;>try omega)|fail)
 rename_i g1 g2 g3
 refine ax [1,2,13,14] rfl (fun x:Nat × Vl=> [(4,.bool false),(15,.int .i64 (x.1:Int))]) (fun x=> [.own (some g3) 212 1 5 5 (Gt.map fun f=>Value.func (.func f) #[] #[.pointer (some ⟨g1,0,none⟩)]),.box g2 127 (dA x.2),.box g1 9 [.string b]]) (fun x=>x.1≤5∧rS b=eF b (uJ.drop x.1)) (fun x=>5 - x.1) (0,bD) ⟨by omega,rfl⟩ sB mS ?_
 rintro ⟨k,v⟩ ⟨hk,hkt⟩
 dsimp only at hk hkt ⊢
 by_cases hk5:k<5
 ·
  obtain ⟨f,t,r1,r2,r3,r4⟩:=JT b hb g1 k hk5
  rw [r1,eF] at hkt
  obtain ⟨⟨v',is⟩,ht⟩: ∃ x,t b=x:=⟨_,rfl⟩
  rw [ht] at hkt r4
  cases is with
  |true=>
   rw [if_pos rfl] at hkt
   repeat' (first|(apply ak;exact rfl;apply aj (j:=k);exact rfl;exact rfl;exact hk5)|(apply ak;exact rfl;apply bQ (off:=0+k*1);exact rfl;exact pK;(rw [RB,SZ];exact r2))|(apply bM;exact rfl;exact rfl;exact r3;exact rfl;(intro w' hm;exact r4 w' (Ro.of_box hm pK) (hW.next hm)))|refine sT ?_|refine sS ?_|refine sN ?_|refine sM fun _=> ?_|(refine sC ?_ ?_<;>intro hb<;>try omega)|fail)
   all_goals (rw [hkt];(refine eRC ?_);rfl)
  |false=>
   rw [if_neg (by simp)] at hkt
   repeat' (first|(apply ak;exact rfl;apply aj (j:=k);exact rfl;exact rfl;exact hk5)|(apply ak;exact rfl;apply bQ (off:=0+k*1);exact rfl;exact pK;(rw [RB,SZ];exact r2))|(apply bM;exact rfl;exact rfl;exact r3;exact rfl;(intro w' hm;exact r4 w' (Ro.of_box hm pK) (hW.next hm)))|refine sT ?_|refine sS ?_|refine sN ?_|refine sM fun _=> ?_|(refine sC ?_ ?_<;>intro hb<;>try omega)|fail)
   refine ⟨(k+1,v'),?_,(by first|omega|(dsimp only;omega)),sB,sB,mS⟩
   exact ⟨hk5,hkt⟩
 ·
  have e:k=5:=by omega
  subst e
  have hkt:rS b=⟨3,0,b⟩:=hkt
  rw [hkt]
  repeat' (first|refine sT ?_|refine sS ?_|refine sN ?_|refine sM fun _=> ?_|(refine sC ?_ ?_<;>intro hb<;>try omega)|fail)
  all_goals first|(exfalso;omega)|((refine eRC ?_);rfl)
end Go.SL
namespace Go.SL
open Go
def ww (b:ByteArray):Vl:=
 if b=av then bD
 else if (ap b).headD 0=39 then ⟨3,0,mkB (ap b).tail⟩
 else if upB b=mH∨upB b=kL then lL (decide (upB b=mH))
 else if (gW b).2=0∧(gW b).1<6 then fR (gW b).1
 else if (f4 (ap b)).2=0 then vE (f4 (ap b)).1
 else if (f4 (ap b)).2=3 then fR 3
 else ⟨3,0,b⟩
theorem IQ {b:ByteArray} (hg:gP b=0):rS b=ww b:=by
 have hT:mH≠kL:=by decide
 have h3:JR b=if upB b=mH then (lL true,true) else if upB b=kL then (lL false,true) else (fR 2,false):=by
  have hv:o8 ⟨3,0,b⟩=0:=by simp [o8,uq,hg]
  simp only [JR,iI,hv,if_true,zf]
  split
  ·
   rfl
  ·
   split<;>rfl
 have h2:MN b=if (ap b).headD 0=39 then (⟨3,0,mkB (ap b).tail⟩,true) else (⟨3,0,b⟩,false):=by
  have hq:ap u7= [39]:=rfl
  have hs:u7.size=1:=rfl
  simp only [MN,jV,hq,hs]
  cases hi:ap b with
  |nil=>simp
  |cons c r=>
   simp only [Sg,Su,List.cons.injEq,and_true,Sz,List.tail_cons]
   by_cases hc:c=39
   ·
    have hsz:b.size=(c::r).length:=by rw [← hi,au]
    have:sub b 1 b.size=mkB r:=by
     refine KH ?_
     rw [dV,hi,hsz]
     simp
    simp only [hc,if_true,this]
   ·
    simp only [hc,if_false]
 have hgen: ∀ (p:Prop) [Decidable p] (x y z:Vl),(if (if p then (x,true) else (y,false)).2=true then (if p then (x,true) else (y,false)).1 else z)=if p then x else z:=by
  intro p _ x y z
  split<;>simp
 unfold rS uJ eF eF eF eF eF eF ww
 have e1:(MP b).2=decide (b=av):=rfl
 rw [e1,h2,h3]
 by_cases c1:b=av
 ·
  simp [c1,MP]
 ·
  rw [if_neg (by simpa using c1),if_neg c1]
  by_cases c2:(ap b).headD 0=39
  ·
   simp only [c2,if_true]
  ·
   simp only [c2,if_false,RT]
   by_cases c3:upB b=mH
   ·
    simp [c3]
   ·
    by_cases c4:upB b=kL
    ·
     simp [c4,hT.symm]
    ·
     simp only [c3,c4,if_false,or_self,RT]
     by_cases c5:(gW b).2=0∧(gW b).1<6
     ·
      have:(Dv b).2=true:=by simp only [Dv,c5.1,decide_true,Sy,decide_eq_true_eq];omega
      rw [if_pos this,if_pos c5];rfl
     ·
      have:(Dv b).2=false:=by
       simp only [Dv,Sk,decide_eq_false_iff_not]
       by_cases h:(gW b).2=0
       ·
        right;intro h';exact c5 ⟨h,by omega⟩
       ·
        left;exact h
      rw [if_neg (by simp [this]),if_neg c5]
      by_cases c6:(f4 (ap b)).2=0
      ·
       simp [G0,c6]
      ·
       by_cases c7:(f4 (ap b)).2=3
       ·
        simp [G0,c7]
       ·
        simp [G0,c6,c7]
end Go.SL

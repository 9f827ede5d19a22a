/-
  Lemmas and walks, put together: B2 B3 A2p B4.
-/
import Derived.Test.YthefeclkaaocnaaGreatDoorKl12
set_option linter.unusedSimpArgs false
set_option linter.unusedVariables false
set_option maxRecDepth 20000
namespace Go.SL
open Go Go.Proofs
attribute [local irreducible] W WL WQ WG WA WX WLI WR WT VOp thn blk bS scp bq cj aS FnIn
def Ad:Option (Tk × Nat)→Value
 |some (t,n)=> .tuple #[.agg (aZ t).toArray,.int .i64 (n:Int)]
 |none=> .tuple #[.agg (aZ cM).toArray,.int .i64 0]
def atT (i:Nat) (o:Option (Tk × Nat)):Option (Tk × Nat):=o.map fun x=>({ x.1 with at_:=(i:Int) },x.2)
def eH (l:List Int):Option (Tk × Nat):=
 let w:=aB aC l
 let p:=bN (l.drop w)
 let n:=if p=0 then w else w+1+p
 if w=0∨4<p then none
 else if (fC (l.take n)).2≠0 then none else some (⟨1,(fC (l.take n)).1,av,aL,0⟩,n)
theorem lf {c:Int} {r:List Int} (h:c=46):bN (c::r)=aB aC r:=by subst h;rfl
theorem kv {c:Int} {r:List Int} (h:c≠46):bN (c::r)=0:=by
 unfold bN
 split
 ·
  rename_i heq;injection heq with h1 h2;exact absurd h1 h
 ·
  rfl
set_option maxHeartbeats 1000000 in
theorem DX (a:ByteArray) (ha:a.size≤100000) (i:Nat) (hi:i≤a.size) (g:Nat) (w:World) (hr:Ro w g 0 [.string a]):
  ay Tryz.prog 243 [.pointer (some ⟨g,0,none⟩),.int .i64 (i:Int)] w (Ad (atT i (eH ((ap a).drop i)))):=by
 refine aq Tryz.func243 rfl Tryz.ntmps243 rfl ?_
 have hl:=au a
 have hL1:=oZ a (by omega) i hi 279 aC ji
 have hwl:=bM aC ((ap a).drop i)
 rw [LL] at hwl
 generalize hw:aB aC ((ap a).drop i)=n at hL1 hwl
 generalize hpd:bN ((ap a).drop (i+n))=p
 have hN:eH ((ap a).drop i)=if n=0∨4<p then none else if (fC (((ap a).drop i).take (if p=0 then n else n+1+p))).2≠0 then none else some (⟨1,(fC (((ap a).drop i).take (if p=0 then n else n+1+p))).1,av,aL,0⟩,if p=0 then n else n+1+p):=by
  simp only [eH,hw,MK,hpd]
 rw [hN]
 have hL2:=fun h=>oZ a (by omega) (i+n+1) h 279 aC ji
 have hcut: ∀ m,ap (sub a i (i+m))=((ap a).drop i).take m:=fun m=>by rw [dD,show i+m - i=m by omega]
 have hple:p≤a.size - (i+n) - 1:=by
  rw [← hpd]
  by_cases h:i+n<a.size
  ·
   rw [ba h]
   by_cases h46:bat a (i+n)=46
   ·
    rw [lf h46]
    have:=bM aC ((ap a).drop (i+n+1))
    rw [LL] at this
    omega
   ·
    rw [kv h46];omega
  ·
   rw [L6 (by omega)];simp [bN]
 have hend: ∀ h:i+n+1<a.size,bat a (i+n)=46→(p=aB aC ((ap a).drop (i+n+1))):=fun h h46=>by
  rw [← hpd,ba (by omega),lf h46]
 have hno: ¬ (i+n+1<a.size∧bat a (i+n)=46∧aC (bat a (i+n+1))=true)→p=0:=fun h=>by
  by_cases h1:i+n<a.size
  ·
   by_cases h46:bat a (i+n)=46
   ·
    by_cases h2:i+n+1<a.size
    ·
     rw [hend h2 h46,ba h2,aB,if_neg fun h3=>h ⟨h2,h46,h3⟩]
    ·
     rw [← hpd,ba h1,lf h46,L6 (by omega)];rfl
   ·
    rw [← hpd,ba h1,kv h46]
  ·
   rw [← hpd,L6 (by omega)];rfl
 have hyes:i+n+1<a.size→bat a (i+n)=46→aC (bat a (i+n+1))=true→0<p:=fun h h46 h3=>by
  rw [hend h h46,ba h,aB,if_pos h3];omega
 repeat' (first|(apply ak;exact rfl;apply aI (o:=0) (off:=0);exact hr;exact rfl;exact rfl)|(apply aa;exact rfl;exact rfl;(intro w hm;exact hL1 w))|(apply aa;exact rfl;exact rfl;(intro w hm;exact ji _ w))|(refine Ci (id:=7) [0,1,4] rfl (ι:=Nat × Nat) (fun x=> [(7,.int .i64 (x.1:Int)),(5,.int .i64 (x.2:Int))]) (fun x=>x.1=p∧x.2=if p=0 then n else n+1+p) ?_ ?_)|(apply aa;exact rfl;exact rfl;(intro w hm;exact hL2 (by omega) w))|refine sT ?_|refine sT2 ?_|refine sN ?_|refine sM fun _=> ?_|(refine sC ?_ ?_<;>intro hb<;>try omega)|exact cT|fail)
 ·
  (refine eK ?_)
  rw [if_pos (.inl (by omega))];rfl
 ·
  rename_i h1 h2 h3
  refine cu ((aB aC ((ap a).drop (i+n+1)),n+(1+aB aC ((ap a).drop (i+n+1))))) ?_ sB mS
  have h5:=hyes (by omega) h3 hb
  have h6:=hend (by omega) h3
  rw [← h6]
  exact ⟨rfl,by rw [if_neg (by omega)];omega⟩
 ·
  rename_i h1 h2 h3
  refine cu ((0,n)) ?_ sB mS
  have:=hno fun h=>by rw [hb] at h;cases h.2.2
  exact ⟨this.symm,by rw [if_pos this]⟩
 ·
  refine cu ((0,n)) ?_ sB mS
  have:=hno fun h=>hb h.2.1
  exact ⟨this.symm,by rw [if_pos this]⟩
 ·
  refine cu ((0,n)) ?_ sB mS
  have:=hno fun h=>by omega
  exact ⟨this.symm,by rw [if_pos this]⟩
 rintro ⟨p',m⟩ ⟨rfl,hm⟩
 have hn0:n≠0:=by omega
 dsimp only at hm ⊢
 rw [← hm]
 by_cases h4:4<p'
 ·
  rw [if_pos (.inr h4)]
  repeat' (first|refine sT ?_|refine sT2 ?_|refine sM fun _=> ?_|(refine sC ?_ ?_<;>intro hb<;>try omega)|exact cT|fail)
  all_goals first|(exfalso;omega)|((refine eK ?_);rfl)
 ·
  rw [if_neg (by omega)]
  have him:i+m≤a.size:=by rw [hm];split<;>omega
  have hP:=pQ (sub a i (i+m)) (by rw [bQ _ him];omega)
  rw [hcut m] at hP
  generalize fC (((ap a).drop i).take m)=q at hP
  repeat' (first|(apply ak;exact rfl;apply aI (o:=0) (off:=0);exact hr;exact rfl;exact rfl)|(apply aa;exact rfl;exact rfl;(intro w hm;exact hP w))|refine sT ?_|refine sT2 ?_|refine sN ?_|refine sM fun _=> ?_|(refine sC ?_ ?_<;>intro hb<;>try omega)|exact cT|fail)
  ·
   (refine eK ?_)
   rw [if_pos hb];rfl
  ·
   (refine eK ?_)
   rw [if_neg hb];rfl
theorem jV (a:ByteArray) (j:Nat):((ap a).drop j).headD 0=bat a j:=by
 rw [bat,List.headD_eq_head?_getD,List.head?_drop,LW]
theorem wg (a:ByteArray) (ha:a.size≤100000) (j:Nat) (g:Nat) (w:World) (hr:Ro w g 0 [.string a]):
  ay Tryz.prog 283 [.pointer (some ⟨g,0,none⟩),.int .i64 (j:Int)] w (.int .u8 (bat a j)):=by
 refine aq Tryz.func283 rfl Tryz.ntmps283 rfl ?_
 have hl:=au a
 repeat' (first|(apply ak;exact rfl;apply aI (o:=0) (off:=0);exact hr;exact rfl;exact rfl)|refine sT ?_|refine sT2 ?_|refine sN ?_|refine sM fun _=> ?_|(refine sC ?_ ?_<;>intro hb<;>try omega)|exact cT|fail)
 ·
  (refine rT1 ?_)
  rfl
 ·
  (refine rT1 ?_)
  have e:bat a j=0:=by rw [bat,LW,ML (by omega)];rfl
  rw [e]
def upW (l:List Int):List Int:=(l.take (aB cC l)).map upC
theorem qR (l:List Int):(upW l).length=aB cC l:=by
 have:=bM cC l
 simp [upW];omega
theorem Fg {l:List Int} (h:fX l):fX (upW l):=by
 intro c hc
 obtain ⟨d,hd,rfl⟩:=Nk.1 hc
 have:=h d (MH hd)
 unfold upC
 split<;>omega
theorem ye (a:ByteArray) (ha:a.size≤100000) (i:Nat) (hi:i≤a.size) (g:Nat) (w:World) (hr:Ro w g 0 [.string a]):
  ay Tryz.prog 282 [.pointer (some ⟨g,0,none⟩),.int .i64 (i:Int)] w (.string (mkB (upW ((ap a).drop i)))):=by
 refine aq Tryz.func282 rfl Tryz.ntmps282 rfl ?_
 have hl:=au a
 have hL:=oZ a (by omega) i hi 312 cC DZ
 have hwl:=bM cC ((ap a).drop i)
 rw [LL] at hwl
 unfold upW
 generalize aB cC ((ap a).drop i)=n at hL hwl
 have hU:=oz (sub a i (i+n)) (by rw [bQ _ (by omega)];omega)
 have e:upB (sub a i (i+n))=mkB ((((ap a).drop i).take n).map upC):=by rw [upB,dD,show i+n - i=n by omega]
 rw [e] at hU
 repeat' (first|(apply ak;exact rfl;apply aI (o:=0) (off:=0);exact hr;exact rfl;exact rfl)|(apply aa;exact rfl;exact rfl;(intro w hm;exact hL w))|(apply aa;exact rfl;exact rfl;(intro w hm;exact hU w))|refine sT ?_|refine sT2 ?_|refine sN ?_|refine sM fun _=> ?_|(refine sC ?_ ?_<;>intro hb<;>try omega)|exact cT|fail)
 (refine rT1 ?_)
 rfl
def cd:List Int→Option Nat
 | []=>none
 |c::r=>if c≠34 then (cd r).map (· +1) else match r with
  | []=>some 0
  |d::r' =>if d=34 then (cd r').map (· +2) else some 0
theorem jm {c:Int} {r:List Int} (h:c≠34):cd (c::r)=(cd r).map (· +1):=by rw [cd.eq_def];simp [h]
def kU (l:List Int):Option (Tk × Nat):=
 if l.headD 0≠34 then none
 else match cd (l.drop 1) with
  |none=>none
  |some k=>if (eY (l.take (k+2))).2≠0 then none else some (⟨2,0,mkB (eY (l.take (k+2))).1,aL,0⟩,k+2)
set_option maxHeartbeats 1000000 in
theorem H7 (a:ByteArray) (ha:a.size≤100000) (i:Nat) (hi:i<a.size) (g:Nat) (w:World) (hr:Ro w g 0 [.string a]):
  ay Tryz.prog 244 [.pointer (some ⟨g,0,none⟩),.int .i64 (i:Int)] w (Ad (atT i (kU ((ap a).drop i)))):=by
 refine aq Tryz.func244 rfl Tryz.ntmps244 rfl ?_
 have hl:=au a
 unfold kU
 rw [jV,MK]
 by_cases h34:bat a i=34
 ·
  rw [if_neg (by omega)]
  have hcut: ∀ m,ap (sub a i (i+m))=((ap a).drop i).take m:=fun m=>by rw [dD,show i+m - i=m by omega]
  repeat' (first|(apply ak;exact rfl;apply aI (o:=0) (off:=0);exact hr;exact rfl;exact rfl)|refine sT ?_|refine sT2 ?_|refine sN ?_|refine sM fun _=> ?_|(refine sC ?_ ?_<;>intro hb<;>try omega)|exact cT|fail)
  all_goals try (exfalso;omega)
  rename_i g4
  generalize hC:cd ((ap a).drop (i+1))=C
  refine ax [0,1,4,5] rfl (fun j:Nat=> [(6,.int .i64 (j:Int))]) (fun _=> [.box g4 295 (aZ cM)]) (fun j=>i+1≤j∧j≤a.size∧C=(cd ((ap a).drop j)).map (· +(j - (i+1)))) (fun j=>a.size - j) (i+1) ⟨by omega,by omega,by rw [hC];simp⟩ sB mS ?_
  rintro j ⟨hj1,hj2,hj3⟩
  by_cases hlt:j<a.size
  ·
   rw [ba hlt] at hj3
   by_cases hq:bat a j=34
   ·
    by_cases hn:j+1<a.size∧bat a (j+1)=34
    ·
     rw [ba hn.1,hq,hn.2] at hj3
     simp only [cd,ne_eq,not_true_eq_false,if_false,if_true,NP] at hj3
     have hn1:=hn.1
     repeat' (first|(apply ak;exact rfl;apply aI (o:=0) (off:=0);exact hr;exact rfl;exact rfl)|refine sT ?_|refine sT2 ?_|refine sN ?_|refine sM fun _=> ?_|(refine sC ?_ ?_<;>intro hb<;>try omega)|exact cT|fail)
     all_goals try (exfalso;omega)
     refine ⟨j+2,?_,(by first|omega|(dsimp only;omega)),sB,sB,mS⟩
     refine ⟨by omega,by omega,?_⟩
     rw [hj3,show j+1+1=j+2 by omega]
     congr 1
     funext k
     simp only [Function.comp]
     omega
    ·
     have hC0:C=some (j - (i+1)):=by
      rw [hj3,hq]
      by_cases h1:j+1<a.size
      ·
       rw [ba h1]
       have h2:bat a (j+1)≠34:=fun h=>hn ⟨h1,h⟩
       simp [cd,h2]
      ·
       rw [L6 (i:=j+1) (by omega)]
       simp [cd]
     rw [hC0]
     dsimp only
     have hm:j - (i+1)+2=j+1 - i:=by omega
     rw [hm]
     have hc:=hcut (j+1 - i)
     rw [show i+(j+1 - i)=j+1 by omega] at hc
     have hP:=BL (sub a i (j+1)) (by rw [bQ _ (by omega)];omega)
     rw [hc] at hP
     generalize eY (((ap a).drop i).take (j+1 - i))=q at hP
     repeat' (first|(apply ak;exact rfl;apply aI (o:=0) (off:=0);exact hr;exact rfl;exact rfl)|(apply aa;exact rfl;exact rfl;(intro w hm;exact hP w))|refine sT ?_|refine sT2 ?_|refine sN ?_|refine sM fun _=> ?_|(refine sC ?_ ?_<;>intro hb<;>try omega)|exact cT|fail)
     all_goals first|(exfalso;omega)|((refine eK ?_);first|(rw [if_pos hb];rfl)|(rw [if_neg hb];rfl))
   ·
    rw [jm hq,NP] at hj3
    repeat' (first|(apply ak;exact rfl;apply aI (o:=0) (off:=0);exact hr;exact rfl;exact rfl)|refine sT ?_|refine sT2 ?_|refine sN ?_|refine sM fun _=> ?_|(refine sC ?_ ?_<;>intro hb<;>try omega)|exact cT|fail)
    all_goals try (exfalso;omega)
    refine ⟨j+1,?_,(by first|omega|(dsimp only;omega)),sB,sB,mS⟩
    refine ⟨by omega,by omega,?_⟩
    rw [hj3]
    congr 1
    funext k
    simp only [Function.comp]
    omega
  ·
   rw [L6 (by omega)] at hj3
   rw [hj3]
   dsimp only [cd,Option.map]
   repeat' (first|(apply ak;exact rfl;apply aI (o:=0) (off:=0);exact hr;exact rfl;exact rfl)|refine sT ?_|refine sT2 ?_|refine sN ?_|refine sM fun _=> ?_|(refine sC ?_ ?_<;>intro hb<;>try omega)|exact cT|fail)
   all_goals try (exfalso;omega)
   (refine eK ?_)
   rfl
 ·
  rw [if_pos (by omega)]
  repeat' (first|(apply ak;exact rfl;apply aI (o:=0) (off:=0);exact hr;exact rfl;exact rfl)|refine sT ?_|refine sT2 ?_|refine sN ?_|refine sM fun _=> ?_|(refine sC ?_ ?_<;>intro hb<;>try omega)|exact cT|fail)
  all_goals try (exfalso;omega)
  (refine eK ?_)
  rfl
theorem IJ {l m:List Int} (hl:fX l) (hm:fX m):mkB l=mkB m↔l=m:=⟨fun h=>by rw [← ll hl,← ll hm,h],fun h=>by rw [h]⟩
theorem mh (a b:ByteArray) (w:World):ay Tryz.prog 234 [.string a,.string b] w (.bool (decide ((ap a).take b.size=ap b))):=by
 refine aq Tryz.func234 rfl Tryz.ntmps234 rfl ?_
 have ha:=au a
 have hb' :=au b
 have e: ∀ h:b.size≤a.size,decide (sub a 0 b.size=b)=decide ((ap a).take b.size=ap b):=fun h=>by
  rw [decide_eq_decide,← qm]
  exact ⟨fun h=>by rw [h],fun h=>rP h⟩
 repeat' (first|refine sT ?_|refine sT2 ?_|refine sM fun _=> ?_|(refine sC ?_ ?_<;>intro hb<;>try omega)|fail)
 ·
  rw [e (by omega)]
  (refine rT1 ?_)
  rfl
 ·
  (refine rT1 ?_)
  rw [decide_eq_false]
  intro h
  have:=congrArg List.length h
  rw [LP] at this
  omega
theorem wt (a b:ByteArray) (w:World):ay Tryz.prog 288 [.string a,.string b] w (.bool (decide ((ap a).take b.size=ap b))):=by
 refine aq Tryz.func288 rfl Tryz.ntmps288 rfl ?_
 repeat' (first|(apply aa;exact rfl;exact rfl;(intro w hm;exact mh a b w))|refine sT ?_|refine sM fun _=> ?_|(refine sC ?_ ?_<;>intro hb<;>try omega)|fail)
 (refine rT1 ?_)
 rfl
theorem rL (c:Int) (w:World):ay Tryz.prog 285 [.int .i64 c] w (.bool (decide (1≤c) && decide (c≤5))):=by
 refine aq Tryz.func285 rfl Tryz.ntmps285 rfl ?_
 repeat' (first|refine sT ?_|refine sM fun _=> ?_|(refine sC ?_ ?_<;>intro hb<;>try omega)|fail)
 all_goals ((refine rT1 ?_);simp_all<;>omega)
theorem wA {k:Nat} (h1:1≤k) (h2:k≤5): ∃ s,dg.drop (k - 1)=s::dg.drop k∧bZ.getD k av=mkB s∧fX s∧s.length≤10:=by
 rcases (by omega:k=1∨k=2∨k=3∨k=4∨k=5) with rfl|rfl|rfl|rfl|rfl<;>refine ⟨_,rfl,rfl,?_,by decide⟩<;>(intro c hc;simp at hc;omega)
theorem lh (l:List Int):(mkB l).size=l.length:=by simp [mkB,ByteArray.size]
def jl (l:List Int):Option (Tk × Nat):=(iW l dg 1).map fun x=>(⟨4,x.1,av,aL,0⟩,x.2)
set_option maxHeartbeats 1000000 in
theorem IY (a:ByteArray) (ha:a.size≤100000) (i:Nat) (hi:i≤a.size) (g:Nat) (w:World) (hr:Ro w g 0 [.string a]) (hW:Words w):
  ay Tryz.prog 246 [.pointer (some ⟨g,0,none⟩),.int .i64 (i:Int)] w (Ad (atT i (jl ((ap a).drop i)))):=by
 refine aq Tryz.func246 rfl Tryz.ntmps246 rfl ?_
 have hl:=au a
 unfold jl
 generalize hF:iW ((ap a).drop i) dg 1=F
 repeat' (first|refine sT ?_|refine sT2 ?_|refine sM fun _=> ?_|(refine sC ?_ ?_<;>intro hb<;>try omega)|fail)
 rename_i g4
 refine ax [0,1,4,5] rfl (fun k:Nat=> [(6,.int .i64 (k:Int))]) (fun _=> [.box g4 295 (aZ cM)]) (fun k=>1≤k∧k≤6∧F=iW ((ap a).drop i) (dg.drop (k - 1)) k) (fun k=>6 - k) 1 ⟨by omega,by omega,hF.symm⟩ sB mS ?_
 rintro k ⟨hk1,hk2,hk3⟩
 by_cases hk:k≤5
 ·
  obtain ⟨s,e1,e2,e3,e4⟩:=wA hk1 hk
  have e5:fk (k:Int)=⟨4,(k:Int),av⟩:=by rw [fk,if_neg (by omega)]
  have hFa:=kG (k:Int)
  rw [e5] at hFa
  have hSh:=fun w' h=>Jg (k:Int) (by omega) (by omega) w' h
  rw [MY,e2] at hSh
  rw [e1,iW] at hk3
  have hlit:(decide (1≤(k:Int)) && decide ((k:Int)≤5))=true:=by simp;omega
  have hL:=rL (k:Int)
  rw [hlit] at hL
  have hms:=lh s
  have hcut:ap (sub a i (i+s.length))=((ap a).drop i).take s.length:=by rw [dD,show i+s.length - i=s.length by omega]
  have hU:=fun h=>oz (sub a i (i+s.length)) h
  have hdec:upB (sub a i (i+s.length))=mkB s↔(((ap a).drop i).take s.length).map upC=s:=by
   rw [upB,hcut,IJ _ e3]
   rw [← hcut,← nN]
   exact kC _
  rw [← hms] at hU hdec hk3
  repeat' (first|(apply ak;exact rfl;apply aI (o:=0) (off:=0);exact hr;exact rfl;exact rfl)|(apply aa;exact rfl;exact rfl;(intro w hm;exact hL w))|(apply aa;exact rfl;exact rfl;(intro w hm;exact hFa w))|(apply aa;exact rfl;exact rfl;(intro w' hm;exact hSh w' (hW.next hm)))|(apply aa;exact rfl;exact rfl;(intro w hm;exact hU (by rw [bQ _ (by omega)];omega) w))|refine sT ?_|refine sT2 ?_|refine sN ?_|refine sM fun _=> ?_|(refine sC ?_ ?_<;>intro hb<;>try omega)|fail)
  ·
   (refine eK ?_)
   rw [hk3,if_pos (hdec.1 hb)]
   rfl
  ·
   refine ⟨k+1,?_,(by first|omega|(dsimp only;omega)),sB,sB,mS⟩
   refine ⟨by omega,by omega,?_⟩
   rw [hk3,if_neg fun h=>hb (hdec.2 h)]
   rfl
  ·
   refine ⟨k+1,?_,(by first|omega|(dsimp only;omega)),sB,sB,mS⟩
   refine ⟨by omega,by omega,?_⟩
   rw [hk3,if_neg]
   ·
    rfl
   ·
    intro h
    have:=congrArg List.length h
    rw [MF,LP,LL] at this
    omega
 ·
  have e:k=6:=by omega
  subst e
  rw [show dg.drop (6 - 1)= [] from rfl,iW] at hk3
  rw [hk3]
  have hL:=rL 6
  rw [show (decide (1≤(6:Int)) && decide ((6:Int)≤5))=false from rfl] at hL
  repeat' (first|(apply aa;exact rfl;exact rfl;(intro w hm;exact hL w))|refine sT ?_|refine sT2 ?_|refine sM fun _=> ?_|(refine sC ?_ ?_<;>intro hb<;>try omega)|fail)
  all_goals try (exfalso;omega)
  (refine eK ?_)
  rfl
def CF:List Value:=dU.map fun x=> .string (mkB x.1)
def CG:List Value:=dU.map fun x=> .int .i64 x.2
theorem v7 (w:World):aS Tryz.prog 287 [] w fun v H=> ∃ g g',v= .tuple #[sl (some g) 13 13,sl (some g') 13 13]∧H= [.own (some g) 9 1 13 13 CF,.own (some g') 2 1 13 13 CG]:=by
 refine aq Tryz.func287 rfl Tryz.ntmps287 rfl ?_
 repeat' (first|refine sT ?_|refine sM fun _=> ?_|(refine sC ?_ ?_<;>intro hb<;>try omega)|fail)
 rename_i g g'
 refine ic (.inl rfl) rfl rfl rfl (H' := [.own (some g) 9 1 13 13 CF,.own (some g') 2 1 13 13 CG]) ?_ ⟨g,g',rfl,rfl⟩
 exact mS
theorem Kb {k:Nat} (h:k<13): ∃ s n,dU.drop k=(s,n)::dU.drop (k+1)∧CF[k]? =some (.string (mkB s))∧CG[k]? =some (.int .i64 n)∧fX s∧s.length≤2:=by
 rcases (by omega:k=0∨k=1∨k=2∨k=3∨k=4∨k=5∨k=6∨k=7∨k=8∨k=9∨k=10∨k=11∨k=12) with rfl|rfl|rfl|rfl|rfl|rfl|rfl|rfl|rfl|rfl|rfl|rfl|rfl<;>refine ⟨_,_,rfl,rfl,rfl,?_,by decide⟩<;>(intro c hc;simp at hc;omega)
def fZ (l:List Int):Option (Tk × Nat):=
 match opL l dU with
 |some (k,n)=>some (⟨8,k,av,aL,0⟩,n)
 |none=>if l.headD 0=40 then some (⟨9,0,av,aL,0⟩,1) else if l.headD 0=41 then some (⟨10,0,av,aL,0⟩,1) else if l.headD 0=44 then some (⟨11,0,av,aL,0⟩,1) else none
set_option maxHeartbeats 1000000 in
theorem H9 (a:ByteArray) (ha:a.size≤100000) (i:Nat) (hi:i<a.size) (g:Nat) (w:World) (hr:Ro w g 0 [.string a]):
  ay Tryz.prog 247 [.pointer (some ⟨g,0,none⟩),.int .i64 (i:Int)] w (Ad (atT i (fZ ((ap a).drop i)))):=by
 refine aq Tryz.func247 rfl Tryz.ntmps247 rfl ?_
 have hl:=au a
 unfold fZ
 rw [jV]
 generalize hF:opL ((ap a).drop i) dU=F
 repeat' (first|(apply aG;exact rfl;exact rfl;(intro w' hm;exact v7 w');(rintro v H' ⟨gs,gn,rfl,rfl⟩))|refine sT ?_|refine sT2 ?_|refine sM fun _=> ?_|(refine sC ?_ ?_<;>intro hb<;>try omega)|fail)
 rename_i g4
 refine ax [0,1,4,5,7,14,15] rfl (fun k:Nat=> [(16,.int .i64 (k:Int))]) (fun _=> [.box g4 295 (aZ cM),.own (some gs) 9 1 13 13 CF,.own (some gn) 2 1 13 13 CG]) (fun k=>k≤13∧F=opL ((ap a).drop i) (dU.drop k)) (fun k=>13 - k) 0 ⟨by omega,hF.symm⟩ sB mS ?_
 rintro k ⟨hk2,hk3⟩
 by_cases hk:k<13
 ·
  obtain ⟨s,m,e1,e2,e3,e4,e5⟩:=Kb hk
  rw [e1,opL] at hk3
  have hms:=lh s
  have hP:=wt (sub a i a.size) (mkB s)
  rw [lS,ll e4,hms] at hP
  repeat' (first|(apply ak;exact rfl;apply aI (o:=0) (off:=0);exact hr;exact rfl;exact rfl)|(apply aa;exact rfl;exact rfl;(intro w hm;exact hP w))|(apply ak;exact rfl;apply aj (j:=k);exact rfl;exact rfl;exact hk)|(apply ak;exact rfl;apply bU;exact rfl;exact pK;(rw [show 0+k*1=k by omega];first|exact e2|exact e3))|refine sT ?_|refine sT2 ?_|refine sN ?_|refine sM fun _=> ?_|(refine sC ?_ ?_<;>intro hb<;>try omega)|fail)
  ·
   (refine eK ?_)
   rw [hk3,if_pos hb,hms]
   rfl
  ·
   refine ⟨k+1,?_,(by first|omega|(dsimp only;omega)),sB,sB,mS⟩
   exact ⟨hk,by rw [hk3,if_neg hb]⟩
 ·
  have e:k=13:=by omega
  subst e
  rw [show dU.drop 13= [] from rfl,opL] at hk3
  subst hk3
  repeat' (first|(apply ak;exact rfl;apply aI (o:=0) (off:=0);exact hr;exact rfl;exact rfl)|refine sT ?_|refine sT2 ?_|refine sN ?_|refine sM fun _=> ?_|(refine sC ?_ ?_<;>intro hb<;>try omega)|fail)
  all_goals try (exfalso;omega)
  all_goals
   (refine eK ?_)
   simp_all
   try rfl
end Go.SL
namespace Go.SL
open Go
theorem ru {p:Pc} {c:Int} (h:bH c=true):bP p c=je p (upC c):=by
 simp only [bH,Nt,LM,decide_eq_true_eq] at h
 rw [bP,if_pos]
 unfold upC
 split<;>omega
theorem fG {p:Pc} {c:Int} (h:aC c=true):bP p c=fg p c:=by
 simp only [aC,LM,decide_eq_true_eq] at h
 exact ry h.1 h.2
theorem kw {p:Pc} {c:Int} (h:bH c=false) (h2:aC c=false):(bP p c).ok=false:=by
 simp only [bH,aC,NC,MB,decide_eq_false_iff_not] at h h2
 rw [uB (by omega) (by omega) (by omega)]
theorem AY {p:Pc} (h:p.ok=false) (c:Int):(bP p c).ok=false:=by
 unfold bP
 split
 ·
  simp [je,h]
 ·
  split
  ·
   simp [fg,h]
  ·
   rfl
theorem lw: ∀ (l:List Int) {p:Pc},p.ok=false→(l.foldl bP p).ok=false
 | [],_,h=>h
 |c::r,_,h=>lw r (AY h c)
theorem yK: ∀ (l:List Int) (p:Pc),(∀ c∈l,bH c=true)→p.m1=0→l.foldl bP p=⟨p.m0+l.length,0,bk l p.v0,p.v1,p.ok⟩
 | [],p,_,h=>by obtain ⟨a,b,c,d,e⟩:=p;simp only at h;subst h;simp [bk]
 |c::r,p,hl,h=>by
  rw [Ns,ru (hl c LI),yK r _ (fun d hd=>hl d (LX _ hd)) (by simp [je,h])]
  simp only [je,h,bk,decide_true,Ms,L9,Pc.mk.injEq,true_and,and_true]
  refine ⟨by push_cast;omega,?_⟩
  rw [show 26*p.v0+(upC c - 65)+1=26*p.v0+(upC c - 64) by omega]
theorem rT: ∀ (l:List Int) (p:Pc),(∀ c∈l,aC c=true)→0<p.m1→l.foldl bP p=⟨p.m0,p.m1+l.length,p.v0,kJ l p.v1,p.ok⟩
 | [],p,_,_=>by obtain ⟨a,b,c,d,e⟩:=p;simp [kJ]
 |c::r,p,hl,h=>by
  rw [Ns,fG (hl c LI),rT r _ (fun d hd=>hl d (LX _ hd)) (by simp [fg];omega)]
  simp only [fg,h,kJ,decide_true,Bool.or_true,Ms,L9,Pc.mk.injEq,true_and,and_true]
  push_cast;omega
theorem mP: ∀ (l:List Int) (p:Pc),(l.all aC=false)→0<p.m1→(l.foldl bP p).ok=false
 | [],_,h,_=>by simp at h
 |c::r,p,h,hm=>by
  rw [Ns]
  cases hd:aC c
  ·
   apply lw
   cases hl:bH c
   ·
    exact kw hl hd
   ·
    rw [ru hl]
    simp only [je]
    rw [decide_eq_false (by omega)]
    simp
  ·
   rw [NA,hd,Mi] at h
   apply mP r _ h
   rw [fG hd]
   simp only [fg];omega
theorem kB: ∀ (l:List Int) {v:Int},(∀ c∈l,bH c=true)→0≤v→(l≠ []∨1≤v)→1≤bk l v
 | [],v,_,_,h=>by rcases h with h|h;exact absurd rfl h;exact h
 |c::r,v,hl,h0,_=>by
  have hc:=hl c LI
  simp only [bH,Nt,LM,decide_eq_true_eq] at hc
  have hu:65≤upC c:=by unfold upC;split<;>omega
  simp only [bk]
  exact kB r (fun d hd=>hl d (LX _ hd)) (by omega) (.inr (by omega))
theorem xL: ∀ (l:List Int) {v:Int},(∀ c∈l,aC c=true)→1≤v→1≤kJ l v
 | [],_,_,h=>h
 |c::r,v,hl,h=>by
  have hc:=hl c LI
  simp only [aC,LM,decide_eq_true_eq] at hc
  simp only [kJ]
  exact xL r (fun d hd=>hl d (LX _ hd)) (by omega)
theorem mg {p:Int→Bool}: ∀ {l:List Int} {c:Int},c∈l.takeWhile p→p c=true
 |d::r,c,h=>by
  rw [NY] at h
  split at h
  ·
   rename_i hp
   rcases L7.1 h with rfl|h
   ·
    exact hp
   ·
    exact mg h
  ·
   cases h
theorem G6 (l:List Int):u6 l=bT l:=by
 unfold u6 bT
 dsimp only
 generalize ha:l.takeWhile bH=a
 generalize hd:l.dropWhile bH=d
 have hl:l=a++d:=by rw [← ha,← hd,List.takeWhile_append_dropWhile]
 have hal: ∀ c∈a,bH c=true:=fun c hc=>mg (ha ▸ hc)
 have hp:pX l=d.foldl bP ⟨a.length,0,bk a 0,0,true⟩:=by
  rw [pX,hl,Od,yK a pc0 hal rfl]
  simp [pc0]
 rw [hp]
 cases d with
 |nil=>simp
 |cons c r=>
  have hcl:bH c=false:=by
   cases hq:bH c
   ·
    rfl
   ·
    exfalso
    have hne:l.dropWhile bH≠ []:=by rw [hd];simp
    have:=List.head_dropWhile_not bH hne
    simp only [hd,List.head_cons] at this
    rw [hq] at this;cases this
  rw [Ns]
  by_cases ha0:a= []
  ·
   subst ha0
   have:(List.foldl bP (bP ⟨(([]:List Int).length:Int),0,bk [] 0,0,true⟩ c) r).ok=false∨(List.foldl bP (bP ⟨(([]:List Int).length:Int),0,bk [] 0,0,true⟩ c) r).m0=0∨(List.foldl bP (bP ⟨(([]:List Int).length:Int),0,bk [] 0,0,true⟩ c) r).m1=0:=by
    cases hdc:aC c
    ·
     exact .inl (lw r (kw hcl hdc))
    ·
     cases hr:r.all aC
     ·
      left
      apply mP r _ hr
      rw [fG hdc];simp [fg]
     ·
      right;left
      rw [rT r _ (by simpa using hr) (by rw [fG hdc];simp [fg])]
      rw [fG hdc];simp [fg]
   rw [if_pos this,if_pos (show (([]:List Int)= []∨_) from .inl rfl)]
  ·
   have hlen:0<(a.length:Int):=by
    have:=Nc.2 ha0
    omega
   cases hdc:aC c
   ·
    rw [if_pos (.inl (lw r (kw hcl hdc))),if_pos (.inr (.inr (.inr (by simp [hdc]))))]
   ·
    rw [fG hdc]
    by_cases h48:c=48
    ·
     rw [if_pos (.inl (lw r (by simp [fg,h48]))),if_pos (.inr (.inr (.inl (by simp [h48]))))]
    ·
     cases hr:r.all aC
     ·
      rw [if_pos (.inl (mP r _ hr (by simp [fg]))),if_pos (.inr (.inr (.inr (by simp [hr]))))]
     ·
      have hr' : ∀ x∈r,aC x=true:=by simpa using hr
      have hp2:List.foldl bP (fg ⟨a.length,0,bk a 0,0,true⟩ c) r=⟨a.length,1+r.length,bk a 0,kJ (c::r) 0,true⟩:=by
       rw [rT r _ hr' (by simp [fg])]
       simp [fg,h48,kJ]
      rw [hp2,if_neg (c:=(a= []∨_)) (by simp [ha0,h48,hdc,hr])]
      have hd2:=hdc
      simp only [aC,LM,decide_eq_true_eq] at hd2
      have h1:=kB a hal (M7 0) (.inl ha0)
      have h3:1≤kJ (c::r) 0:=xL r (v:=min (10*0+(c - 48)) 1025) hr' (by omega)
      generalize kJ (c::r) 0=u at h3 ⊢
      split
      ·
       rename_i h
       exfalso
       rcases h with h|h|h
       ·
        cases h
       ·
        exact absurd h (by show ¬ ((a.length:Int)=0);omega)
       ·
        exact absurd h (by show ¬ (1+(r.length:Int)=0);omega)
      ·
       by_cases hb:1024<bk a 0∨1024<u
       ·
        rw [if_pos hb,if_neg]
        simp only [valid,LM,decide_eq_true_eq]
        omega
       ·
        rw [if_neg hb,if_pos]
        simp only [valid,LM,decide_eq_true_eq]
        omega
end Go.SL
namespace Go.SL
open Go Go.Proofs
attribute [local irreducible] W WL WQ WG WA WX WLI WR WT VOp thn blk bS scp bq cj aS FnIn
def fK (l:List Int):Option (Tk × Nat):=
 if bH (l.headD 0)=false then none
 else if (l.drop (aB cC l)).headD 0=40 then some (⟨7,0,mkB (upW l),aL,0⟩,aB cC l)
 else if mkB (upW l)=kS then some (⟨3,1,av,aL,0⟩,aB cC l)
 else if mkB (upW l)=jy then some (⟨3,0,av,aL,0⟩,aB cC l)
 else if (bT (upW l)).2.2≠0 then none
 else if (l.drop (aB cC l)).headD 0=58∧bH ((l.drop (aB cC l+1)).headD 0)=true∧(bT (upW (l.drop (aB cC l+1)))).2.2=0∧(l.drop (aB cC l+1+aB cC (l.drop (aB cC l+1)))).headD 0≠40 then
  some (⟨if (bT (upW l)).1=(bT (upW (l.drop (aB cC l+1)))).1∧(bT (upW l)).2.1=(bT (upW (l.drop (aB cC l+1)))).2.1 then 5 else 6,0,av,
   ⟨min (bT (upW l)).1 (bT (upW (l.drop (aB cC l+1)))).1,min (bT (upW l)).2.1 (bT (upW (l.drop (aB cC l+1)))).2.1,max (bT (upW l)).1 (bT (upW (l.drop (aB cC l+1)))).1,max (bT (upW l)).2.1 (bT (upW (l.drop (aB cC l+1)))).2.1⟩,0⟩,aB cC l+1+aB cC (l.drop (aB cC l+1)))
 else some (⟨5,0,av,II (bT (upW l)).1 (bT (upW l)).2.1,0⟩,aB cC l)
theorem eU (a b:Int):(if b<a then b else a)=min a b:=by omega
theorem eV (a b:Int):(if a<b then b else a)=max a b:=by omega
theorem zu (l:List Int) (hl:fX l) (hlen:l.length≤100000) (w:World):ay Tryz.prog 284 [.string (mkB l)] w (.tuple #[.agg (cB ⟨(bT l).1,(bT l).2.1⟩).toArray,.int .i64 (bT l).2.2]):=by
 have h:=wI (mkB l) (by rw [lh];exact hlen) w
 rw [ll hl,G6] at h
 exact h
set_option maxHeartbeats 2000000 in
theorem Hy (a:ByteArray) (ha:a.size≤10000) (i:Nat) (hi:i<a.size) (g:Nat) (w:World) (hr:Ro w g 0 [.string a]):
  ay Tryz.prog 245 [.pointer (some ⟨g,0,none⟩),.int .i64 (i:Int)] w (Ad (atT i (fK ((ap a).drop i)))):=by
 refine aq Tryz.func245 rfl Tryz.ntmps245 rfl ?_
 have hl:=au a
 have hP1:=fun w' h=>ye a (by omega) i (by omega) g w' h
 have hwl:=bM cC ((ap a).drop i)
 have hul:=qR ((ap a).drop i)
 have huk:fX (upW ((ap a).drop i)):=Fg fun c hc=>kC a c (Nr hc)
 rw [LL] at hwl
 have hW:fK ((ap a).drop i)=fK ((ap a).drop i):=rfl
 unfold fK at hW ⊢
 clear hW
 rw [jV]
 simp only [MK]
 generalize hn:aB cC ((ap a).drop i)=n at*
 generalize hu:upW ((ap a).drop i)=u at*
 rw [jV]
 have hus:(mkB u).size=n:=by rw [lh,hul]
 have hA1:=zu u huk (by omega)
 generalize hau:bT u=A1 at hA1
 obtain ⟨c1,r1,e1⟩:=A1
 dsimp only at hA1 ⊢
 have hN1:=fun w' h=>wg a (by omega) (i+n) g w' h
 have hN2:=fun w' h=>wg a (by omega) (i+n+1) g w' h
 have hb1l:bat a (i+n)≠0→i+n<a.size:=fun h=>by
  rcases MV (i+n) a.size with h1|h1
  ·
   exact h1
  ·
   exfalso;apply h;rw [bat,LW,ML (by omega)];rfl
 generalize hb1:bat a (i+n)=b1 at hN1 hb1l
 rw [show i+(n+1)=i+n+1 by omega]
 have hvl:=qR ((ap a).drop (i+n+1))
 have hvk:fX (upW ((ap a).drop (i+n+1))):=Fg fun c hc=>kC a c (Nr hc)
 have hvr:=bM cC ((ap a).drop (i+n+1))
 rw [LL] at hvr
 have hP2:=fun w' hi h=>ye a (by omega) (i+n+1) hi g w' h
 generalize hm:aB cC ((ap a).drop (i+n+1))=m at*
 generalize hv:upW ((ap a).drop (i+n+1))=v at*
 rw [jV,jV]
 have hvs:(mkB v).size=m:=by rw [lh,hvl]
 have hA2:=zu v hvk (by omega)
 generalize hav:bT v=A2 at hA2
 obtain ⟨c2,r2,e2⟩:=A2
 dsimp only at hA2 ⊢
 rw [show i+(n+1+m)=i+n+1+m by omega]
 have hN3:=fun w' h=>wg a (by omega) (i+n+1+m) g w' h
 generalize hb2:bat a (i+n+1)=b2 at hN2
 generalize hb3:bat a (i+n+1+m)=b3 at hN3
 repeat' (first|(apply ak;exact rfl;apply aI (o:=0) (off:=0);exact hr;exact rfl;exact rfl)|(apply aa;exact rfl;exact rfl;(intro w hm;exact nI _ w))|(apply ak (d:=28);exact rfl;apply oO;exact rfl;exact hus)|(apply ak (d:=90);exact rfl;apply oO;exact rfl;exact hvs)|(apply ak (d:=126);exact rfl;apply oO;exact rfl;exact hvs)|(apply aa (d:=26);exact rfl;exact rfl;(intro w' hm;exact hP1 w' (hr.next hm)))|(apply aa (d:=77);exact rfl;exact rfl;(intro w' hm;exact hP2 w' (hb1l (by omega)) (hr.next hm)))|(apply aa (d:=34);exact rfl;exact rfl;(intro w' hm;exact hN1 w' (hr.next hm)))|(apply aa (d:=65);exact rfl;exact rfl;(intro w' hm;exact hN1 w' (hr.next hm)))|(apply aa (d:=71);exact rfl;exact rfl;(intro w' hm;exact hN2 w' (hr.next hm)))|(apply aa (d:=92);exact rfl;exact rfl;(intro w' hm;exact hN3 w' (hr.next hm)))|(apply aa;exact rfl;exact rfl;(intro w hm;exact hA1 w))|(apply aa;exact rfl;exact rfl;(intro w hm;exact hA2 w))|(apply ak (d:=99);exact rfl;exact eU _ _ ▸ gW rfl rfl)|(apply ak (d:=104);exact rfl;exact eU _ _ ▸ gW rfl rfl)|(apply ak (d:=109);exact rfl;exact eV _ _ ▸ fY rfl rfl)|(apply ak (d:=114);exact rfl;exact eV _ _ ▸ fY rfl rfl)|(apply ak (d:=118);exact rfl;exact Ff (a:=⟨c1,r1⟩) (b:=⟨c2,r2⟩) rfl rfl)|(apply aa;exact rfl;exact rfl;(intro w hm;exact Kv ⟨c1,r1⟩ w))|refine sT ?_|refine sT2 ?_|refine sN ?_|refine sM fun _=> ?_|(refine sC ?_ ?_<;>intro hb<;>try omega)|fail)
 all_goals
  (refine eK ?_)
  simp_all [kS,jy,Ad,atT,aZ,cB,aL,av,II,eqF,bO,cM]
end Go.SL

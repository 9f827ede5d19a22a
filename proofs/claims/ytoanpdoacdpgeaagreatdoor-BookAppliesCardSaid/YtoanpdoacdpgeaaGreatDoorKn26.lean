/-
  Lemmas and walks, put together: B2 B3 B4 D1 Lc.
-/
import Derived.Test.YtoanpdoacdpgeaaGreatDoorKn14
import Derived.Test.YtoanpdoacdpgeaaGreatDoorKn17
set_option linter.unusedSimpArgs false
set_option linter.unusedVariables false
set_option maxRecDepth 20000
namespace Go.SL
open Go Go.Proofs
attribute [local irreducible] W WL WQ WG WA WX WLI WR WT VOp thn blk bE scp ba bL aP FnIn
def BI:Option (Tk × Nat)→Value
 |some (t,n)=> .tuple #[.agg (bh t).toArray,.int .i64 (n:Int)]
 |none=> .tuple #[.agg (bh cU).toArray,.int .i64 0]
def atT (i:Nat) (o:Option (Tk × Nat)):Option (Tk × Nat):=o.map fun x=>({ x.1 with at_:=(i:Int) },x.2)
def fg (l:List Int):Option (Tk × Nat):=
 let w:=aF aH l
 let p:=bS (l.drop w)
 let n:=if p=0 then w else w+1+p
 if w=0∨4<p then none
 else if (fU (l.take n)).2≠0 then none else some (⟨1,(fU (l.take n)).1,au,aO,0⟩,n)
theorem lO {c:Int} {r:List Int} (h:c=46):bS (c::r)=aF aH r:=by subst h;rfl
theorem kO {c:Int} {r:List Int} (h:c≠46):bS (c::r)=0:=by
 unfold bS
 split
 ·
  rename_i heq;injection heq with h1 h2;exact absurd h1 h
 ·
  rfl
set_option maxHeartbeats 1000000 in
theorem E5 (a:ByteArray) (ha:a.size≤100000) (i:Nat) (hi:i≤a.size) (g:Nat) (w:World) (hr:Ro w g 0 [.string a]):
  ay Tryz.prog 221 [.pointer (some ⟨g,0,none⟩),.int .i64 (i:Int)] w (BI (atT i (fg ((ap a).drop i)))):=by
 refine aq Tryz.func221 rfl Tryz.ntmps221 rfl ?_
 have hl:=av a
 have hL1:=p6 a (by omega) i hi 261 aH jH
 have hwl:=bR aH ((ap a).drop i)
 rw [Nq] at hwl
 generalize hw:aF aH ((ap a).drop i)=n at hL1 hwl
 generalize hpd:bS ((ap a).drop (i+n))=p
 have hN:fg ((ap a).drop i)=if n=0∨4<p then none else if (fU (((ap a).drop i).take (if p=0 then n else n+1+p))).2≠0 then none else some (⟨1,(fU (((ap a).drop i).take (if p=0 then n else n+1+p))).1,au,aO,0⟩,if p=0 then n else n+1+p):=by
  simp only [fg,hw,Ow,hpd]
 rw [hN]
 have hL2:=fun h=>p6 a (by omega) (i+n+1) h 261 aH jH
 have hcut: ∀ m,ap (sub a i (i+m))=((ap a).drop i).take m:=fun m=>by rw [dO,show i+m - i=m by omega]
 have hple:p≤a.size - (i+n) - 1:=by
  rw [← hpd]
  by_cases h:i+n<a.size
  ·
   rw [bk h]
   by_cases h46:bat a (i+n)=46
   ·
    rw [lO h46]
    have:=bR aH ((ap a).drop (i+n+1))
    rw [Nq] at this
    omega
   ·
    rw [kO h46];omega
  ·
   rw [NC (by omega)];simp [bS]
 have hend: ∀ h:i+n+1<a.size,bat a (i+n)=46→(p=aF aH ((ap a).drop (i+n+1))):=fun h h46=>by
  rw [← hpd,bk (by omega),lO h46]
 have hno: ¬ (i+n+1<a.size∧bat a (i+n)=46∧aH (bat a (i+n+1))=true)→p=0:=fun h=>by
  by_cases h1:i+n<a.size
  ·
   by_cases h46:bat a (i+n)=46
   ·
    by_cases h2:i+n+1<a.size
    ·
     rw [hend h2 h46,bk h2,aF,if_neg fun h3=>h ⟨h2,h46,h3⟩]
    ·
     rw [← hpd,bk h1,lO h46,NC (by omega)];rfl
   ·
    rw [← hpd,bk h1,kO h46]
  ·
   rw [← hpd,NC (by omega)];rfl
 have hyes:i+n+1<a.size→bat a (i+n)=46→aH (bat a (i+n+1))=true→0<p:=fun h h46 h3=>by
  rw [hend h h46,bk h,aF,if_pos h3];omega
 repeat' (first|(apply ak;exact rfl;apply aL (o:=0) (off:=0);exact hr;exact rfl;exact rfl)|(apply aa;exact rfl;exact rfl;(intro w hm;exact hL1 w))|(apply aa;exact rfl;exact rfl;(intro w hm;exact jH _ w))|(refine Dn (id:=7) [0,1,4] rfl (ι:=Nat × Nat) (fun x=> [(7,.int .i64 (x.1:Int)),(5,.int .i64 (x.2:Int))]) (fun x=>x.1=p∧x.2=if p=0 then n else n+1+p) ?_ ?_)|(apply aa;exact rfl;exact rfl;(intro w hm;exact hL2 (by omega) w))|refine sT ?_|refine sT2 ?_|refine sN ?_|refine sM fun _=> ?_|(refine sC ?_ ?_<;>intro hb<;>try omega)|exact cT|fail)
 ·
  (refine du ?_)
  rw [if_pos (.inl (by omega))];rfl
 ·
  rename_i h1 h2 h3
  refine cu ((aF aH ((ap a).drop (i+n+1)),n+(1+aF aH ((ap a).drop (i+n+1))))) ?_ sB mS
  have h5:=hyes (by omega) h3 hb
  have h6:=hend (by omega) h3
  rw [← h6]
  exact ⟨rfl,by rw [if_neg (by omega)];omega⟩
 ·
  rename_i h1 h2 h3
  refine cu ((0,n)) ?_ sB mS
  have:=hno fun h=>by rw [hb] at h;cases h.2.2
  exact ⟨this.symm,by rw [if_pos this]⟩
 ·
  refine cu ((0,n)) ?_ sB mS
  have:=hno fun h=>hb h.2.1
  exact ⟨this.symm,by rw [if_pos this]⟩
 ·
  refine cu ((0,n)) ?_ sB mS
  have:=hno fun h=>by omega
  exact ⟨this.symm,by rw [if_pos this]⟩
 rintro ⟨p',m⟩ ⟨rfl,hm⟩
 have hn0:n≠0:=by omega
 dsimp only at hm ⊢
 rw [← hm]
 by_cases h4:4<p'
 ·
  rw [if_pos (.inr h4)]
  repeat' (first|refine sT ?_|refine sT2 ?_|refine sM fun _=> ?_|(refine sC ?_ ?_<;>intro hb<;>try omega)|exact cT|fail)
  all_goals first|(exfalso;omega)|((refine du ?_);rfl)
 ·
  rw [if_neg (by omega)]
  have him:i+m≤a.size:=by rw [hm];split<;>omega
  have hP:=qK (sub a i (i+m)) (by rw [bV _ him];omega)
  rw [hcut m] at hP
  generalize fU (((ap a).drop i).take m)=q at hP
  repeat' (first|(apply ak;exact rfl;apply aL (o:=0) (off:=0);exact hr;exact rfl;exact rfl)|(apply aa;exact rfl;exact rfl;(intro w hm;exact hP w))|refine sT ?_|refine sT2 ?_|refine sN ?_|refine sM fun _=> ?_|(refine sC ?_ ?_<;>intro hb<;>try omega)|exact cT|fail)
  ·
   (refine du ?_)
   rw [if_pos hb];rfl
  ·
   (refine du ?_)
   rw [if_neg hb];rfl
theorem kA (a:ByteArray) (j:Nat):((ap a).drop j).headD 0=bat a j:=by
 rw [bat,List.headD_eq_head?_getD,List.head?_drop,Nx]
theorem xy (a:ByteArray) (ha:a.size≤100000) (j:Nat) (g:Nat) (w:World) (hr:Ro w g 0 [.string a]):
  ay Tryz.prog 265 [.pointer (some ⟨g,0,none⟩),.int .i64 (j:Int)] w (.int .u8 (bat a j)):=by
 refine aq Tryz.func265 rfl Tryz.ntmps265 rfl ?_
 have hl:=av a
 repeat' (first|(apply ak;exact rfl;apply aL (o:=0) (off:=0);exact hr;exact rfl;exact rfl)|refine sT ?_|refine sT2 ?_|refine sN ?_|refine sM fun _=> ?_|(refine sC ?_ ?_<;>intro hb<;>try omega)|exact cT|fail)
 ·
  (refine rT1 ?_)
  rfl
 ·
  (refine rT1 ?_)
  have e:bat a j=0:=by rw [bat,Nx,Oy (by omega)];rfl
  rw [e]
def upW (l:List Int):List Int:=(l.take (aF cJ l)).map upC
theorem r9 (l:List Int):(upW l).length=aF cJ l:=by
 have:=bR cJ l
 simp [upW];omega
theorem Gz {l:List Int} (h:gH l):gH (upW l):=by
 intro c hc
 obtain ⟨d,hd,rfl⟩:=OQ.1 hc
 have:=h d (Ot hd)
 unfold upC
 split<;>omega
theorem zr (a:ByteArray) (ha:a.size≤100000) (i:Nat) (hi:i≤a.size) (g:Nat) (w:World) (hr:Ro w g 0 [.string a]):
  ay Tryz.prog 264 [.pointer (some ⟨g,0,none⟩),.int .i64 (i:Int)] w (.string (mkB (upW ((ap a).drop i)))):=by
 refine aq Tryz.func264 rfl Tryz.ntmps264 rfl ?_
 have hl:=av a
 have hL:=p6 a (by omega) i hi 300 cJ E7
 have hwl:=bR cJ ((ap a).drop i)
 rw [Nq] at hwl
 unfold upW
 generalize aF cJ ((ap a).drop i)=n at hL hwl
 have hU:=pF (sub a i (i+n)) (by rw [bV _ (by omega)];omega)
 have e:upB (sub a i (i+n))=mkB ((((ap a).drop i).take n).map upC):=by rw [upB,dO,show i+n - i=n by omega]
 rw [e] at hU
 repeat' (first|(apply ak;exact rfl;apply aL (o:=0) (off:=0);exact hr;exact rfl;exact rfl)|(apply aa;exact rfl;exact rfl;(intro w hm;exact hL w))|(apply aa;exact rfl;exact rfl;(intro w hm;exact hU w))|refine sT ?_|refine sT2 ?_|refine sN ?_|refine sM fun _=> ?_|(refine sC ?_ ?_<;>intro hb<;>try omega)|exact cT|fail)
 (refine rT1 ?_)
 rfl
def cA:List Int→Option Nat
 | []=>none
 |c::r=>if c≠34 then (cA r).map (· +1) else match r with
  | []=>some 0
  |d::r' =>if d=34 then (cA r').map (· +2) else some 0
theorem jM {c:Int} {r:List Int} (h:c≠34):cA (c::r)=(cA r).map (· +1):=by rw [cA.eq_def];simp [h]
def lF (l:List Int):Option (Tk × Nat):=
 if l.headD 0≠34 then none
 else match cA (l.drop 1) with
  |none=>none
  |some k=>if (fH (l.take (k+2))).2≠0 then none else some (⟨2,0,mkB (fH (l.take (k+2))).1,aO,0⟩,k+2)
set_option maxHeartbeats 1000000 in
theorem JU (a:ByteArray) (ha:a.size≤100000) (i:Nat) (hi:i<a.size) (g:Nat) (w:World) (hr:Ro w g 0 [.string a]):
  ay Tryz.prog 222 [.pointer (some ⟨g,0,none⟩),.int .i64 (i:Int)] w (BI (atT i (lF ((ap a).drop i)))):=by
 refine aq Tryz.func222 rfl Tryz.ntmps222 rfl ?_
 have hl:=av a
 unfold lF
 rw [kA,Ow]
 by_cases h34:bat a i=34
 ·
  rw [if_neg (by omega)]
  have hcut: ∀ m,ap (sub a i (i+m))=((ap a).drop i).take m:=fun m=>by rw [dO,show i+m - i=m by omega]
  repeat' (first|(apply ak;exact rfl;apply aL (o:=0) (off:=0);exact hr;exact rfl;exact rfl)|refine sT ?_|refine sT2 ?_|refine sN ?_|refine sM fun _=> ?_|(refine sC ?_ ?_<;>intro hb<;>try omega)|exact cT|fail)
  all_goals try (exfalso;omega)
  rename_i g4
  generalize hC:cA ((ap a).drop (i+1))=C
  refine ax [0,1,4,5] rfl (fun j:Nat=> [(6,.int .i64 (j:Int))]) (fun _=> [.box g4 228 (bh cU)]) (fun j=>i+1≤j∧j≤a.size∧C=(cA ((ap a).drop j)).map (· +(j - (i+1)))) (fun j=>a.size - j) (i+1) ⟨by omega,by omega,by rw [hC];simp⟩ sB mS ?_
  rintro j ⟨hj1,hj2,hj3⟩
  by_cases hlt:j<a.size
  ·
   rw [bk hlt] at hj3
   by_cases hq:bat a j=34
   ·
    by_cases hn:j+1<a.size∧bat a (j+1)=34
    ·
     rw [bk hn.1,hq,hn.2] at hj3
     simp only [cA,ne_eq,not_true_eq_false,if_false,if_true,PJ] at hj3
     have hn1:=hn.1
     repeat' (first|(apply ak;exact rfl;apply aL (o:=0) (off:=0);exact hr;exact rfl;exact rfl)|refine sT ?_|refine sT2 ?_|refine sN ?_|refine sM fun _=> ?_|(refine sC ?_ ?_<;>intro hb<;>try omega)|exact cT|fail)
     all_goals try (exfalso;omega)
     refine ⟨j+2,?_,(by first|omega|(dsimp only;omega)),sB,sB,mS⟩
     refine ⟨by omega,by omega,?_⟩
     rw [hj3,show j+1+1=j+2 by omega]
     congr 1
     funext k
     simp only [Function.comp]
     omega
    ·
     have hC0:C=some (j - (i+1)):=by
      rw [hj3,hq]
      by_cases h1:j+1<a.size
      ·
       rw [bk h1]
       have h2:bat a (j+1)≠34:=fun h=>hn ⟨h1,h⟩
       simp [cA,h2]
      ·
       rw [NC (i:=j+1) (by omega)]
       simp [cA]
     rw [hC0]
     dsimp only
     have hm:j - (i+1)+2=j+1 - i:=by omega
     rw [hm]
     have hc:=hcut (j+1 - i)
     rw [show i+(j+1 - i)=j+1 by omega] at hc
     have hP:=CY (sub a i (j+1)) (by rw [bV _ (by omega)];omega)
     rw [hc] at hP
     generalize fH (((ap a).drop i).take (j+1 - i))=q at hP
     repeat' (first|(apply ak;exact rfl;apply aL (o:=0) (off:=0);exact hr;exact rfl;exact rfl)|(apply aa;exact rfl;exact rfl;(intro w hm;exact hP w))|refine sT ?_|refine sT2 ?_|refine sN ?_|refine sM fun _=> ?_|(refine sC ?_ ?_<;>intro hb<;>try omega)|exact cT|fail)
     all_goals first|(exfalso;omega)|((refine du ?_);first|(rw [if_pos hb];rfl)|(rw [if_neg hb];rfl))
   ·
    rw [jM hq,PJ] at hj3
    repeat' (first|(apply ak;exact rfl;apply aL (o:=0) (off:=0);exact hr;exact rfl;exact rfl)|refine sT ?_|refine sT2 ?_|refine sN ?_|refine sM fun _=> ?_|(refine sC ?_ ?_<;>intro hb<;>try omega)|exact cT|fail)
    all_goals try (exfalso;omega)
    refine ⟨j+1,?_,(by first|omega|(dsimp only;omega)),sB,sB,mS⟩
    refine ⟨by omega,by omega,?_⟩
    rw [hj3]
    congr 1
    funext k
    simp only [Function.comp]
    omega
  ·
   rw [NC (by omega)] at hj3
   rw [hj3]
   dsimp only [cA,Option.map]
   repeat' (first|(apply ak;exact rfl;apply aL (o:=0) (off:=0);exact hr;exact rfl;exact rfl)|refine sT ?_|refine sT2 ?_|refine sN ?_|refine sM fun _=> ?_|(refine sC ?_ ?_<;>intro hb<;>try omega)|exact cT|fail)
   all_goals try (exfalso;omega)
   (refine du ?_)
   rfl
 ·
  rw [if_pos (by omega)]
  repeat' (first|(apply ak;exact rfl;apply aL (o:=0) (off:=0);exact hr;exact rfl;exact rfl)|refine sT ?_|refine sT2 ?_|refine sN ?_|refine sM fun _=> ?_|(refine sC ?_ ?_<;>intro hb<;>try omega)|exact cT|fail)
  all_goals try (exfalso;omega)
  (refine du ?_)
  rfl
theorem J7 {l m:List Int} (hl:gH l) (hm:gH m):mkB l=mkB m↔l=m:=⟨fun h=>by rw [← lZ hl,← lZ hm,h],fun h=>by rw [h]⟩
theorem ng (a b:ByteArray) (w:World):ay Tryz.prog 212 [.string a,.string b] w (.bool (decide ((ap a).take b.size=ap b))):=by
 refine aq Tryz.func212 rfl Tryz.ntmps212 rfl ?_
 have ha:=av a
 have hb' :=av b
 have e: ∀ h:b.size≤a.size,decide (sub a 0 b.size=b)=decide ((ap a).take b.size=ap b):=fun h=>by
  rw [decide_eq_decide,← ru]
  exact ⟨fun h=>by rw [h],fun h=>tL h⟩
 repeat' (first|refine sT ?_|refine sT2 ?_|refine sM fun _=> ?_|(refine sC ?_ ?_<;>intro hb<;>try omega)|fail)
 ·
  rw [e (by omega)]
  (refine rT1 ?_)
  rfl
 ·
  (refine rT1 ?_)
  rw [decide_eq_false]
  intro h
  have:=congrArg List.length h
  rw [Nu] at this
  omega
theorem xG (a b:ByteArray) (w:World):ay Tryz.prog 271 [.string a,.string b] w (.bool (decide ((ap a).take b.size=ap b))):=by
 refine aq Tryz.func271 rfl Tryz.ntmps271 rfl ?_
 repeat' (first|(apply aa;exact rfl;exact rfl;(intro w hm;exact ng a b w))|refine sT ?_|refine sM fun _=> ?_|(refine sC ?_ ?_<;>intro hb<;>try omega)|fail)
 (refine rT1 ?_)
 rfl
theorem tG (c:Int) (w:World):ay Tryz.prog 268 [.int .i64 c] w (.bool (decide (1≤c) && decide (c≤5))):=by
 refine aq Tryz.func268 rfl Tryz.ntmps268 rfl ?_
 repeat' (first|refine sT ?_|refine sM fun _=> ?_|(refine sC ?_ ?_<;>intro hb<;>try omega)|fail)
 all_goals ((refine rT1 ?_);simp_all<;>omega)
theorem xL {k:Nat} (h1:1≤k) (h2:k≤5): ∃ s,dz.drop (k - 1)=s::dz.drop k∧cy.getD k au=mkB s∧gH s∧s.length≤10:=by
 rcases (by omega:k=1∨k=2∨k=3∨k=4∨k=5) with rfl|rfl|rfl|rfl|rfl<;>refine ⟨_,rfl,rfl,?_,by decide⟩<;>(intro c hc;simp at hc;omega)
theorem lS (l:List Int):(mkB l).size=l.length:=by simp [mkB,ByteArray.size]
def jL (l:List Int):Option (Tk × Nat):=(ju l dz 1).map fun x=>(⟨4,x.1,au,aO,0⟩,x.2)
set_option maxHeartbeats 1000000 in
theorem Kl (a:ByteArray) (ha:a.size≤100000) (i:Nat) (hi:i≤a.size) (g:Nat) (w:World) (hr:Ro w g 0 [.string a]) (hW:Words w):
  ay Tryz.prog 224 [.pointer (some ⟨g,0,none⟩),.int .i64 (i:Int)] w (BI (atT i (jL ((ap a).drop i)))):=by
 refine aq Tryz.func224 rfl Tryz.ntmps224 rfl ?_
 have hl:=av a
 unfold jL
 generalize hF:ju ((ap a).drop i) dz 1=F
 repeat' (first|refine sT ?_|refine sT2 ?_|refine sM fun _=> ?_|(refine sC ?_ ?_<;>intro hb<;>try omega)|fail)
 rename_i g4
 refine ax [0,1,4,5] rfl (fun k:Nat=> [(6,.int .i64 (k:Int))]) (fun _=> [.box g4 228 (bh cU)]) (fun k=>1≤k∧k≤6∧F=ju ((ap a).drop i) (dz.drop (k - 1)) k) (fun k=>6 - k) 1 ⟨by omega,by omega,hF.symm⟩ sB mS ?_
 rintro k ⟨hk1,hk2,hk3⟩
 by_cases hk:k≤5
 ·
  obtain ⟨s,e1,e2,e3,e4⟩:=xL hk1 hk
  have e5:fM (k:Int)=⟨4,(k:Int),au⟩:=by rw [fM,if_neg (by omega)]
  have hFa:=kZ (k:Int)
  rw [e5] at hFa
  have hSh:=fun w' h=>KC (k:Int) (by omega) (by omega) w' h
  rw [Ov,e2] at hSh
  rw [e1,ju] at hk3
  have hlit:(decide (1≤(k:Int)) && decide ((k:Int)≤5))=true:=by simp;omega
  have hL:=tG (k:Int)
  rw [hlit] at hL
  have hms:=lS s
  have hcut:ap (sub a i (i+s.length))=((ap a).drop i).take s.length:=by rw [dO,show i+s.length - i=s.length by omega]
  have hU:=fun h=>pF (sub a i (i+s.length)) h
  have hdec:upB (sub a i (i+s.length))=mkB s↔(((ap a).drop i).take s.length).map upC=s:=by
   rw [upB,hcut,J7 _ e3]
   rw [← hcut,← oX]
   exact kU _
  rw [← hms] at hU hdec hk3
  repeat' (first|(apply ak;exact rfl;apply aL (o:=0) (off:=0);exact hr;exact rfl;exact rfl)|(apply aa;exact rfl;exact rfl;(intro w hm;exact hL w))|(apply aa;exact rfl;exact rfl;(intro w hm;exact hFa w))|(apply aa;exact rfl;exact rfl;(intro w' hm;exact hSh w' (hW.next hm)))|(apply aa;exact rfl;exact rfl;(intro w hm;exact hU (by rw [bV _ (by omega)];omega) w))|refine sT ?_|refine sT2 ?_|refine sN ?_|refine sM fun _=> ?_|(refine sC ?_ ?_<;>intro hb<;>try omega)|fail)
  ·
   (refine du ?_)
   rw [hk3,if_pos (hdec.1 hb)]
   rfl
  ·
   refine ⟨k+1,?_,(by first|omega|(dsimp only;omega)),sB,sB,mS⟩
   refine ⟨by omega,by omega,?_⟩
   rw [hk3,if_neg fun h=>hb (hdec.2 h)]
   rfl
  ·
   refine ⟨k+1,?_,(by first|omega|(dsimp only;omega)),sB,sB,mS⟩
   refine ⟨by omega,by omega,?_⟩
   rw [hk3,if_neg]
   ·
    rfl
   ·
    intro h
    have:=congrArg List.length h
    rw [Oi,Nu,Nq] at this
    omega
 ·
  have e:k=6:=by omega
  subst e
  rw [show dz.drop (6 - 1)= [] from rfl,ju] at hk3
  rw [hk3]
  have hL:=tG 6
  rw [show (decide (1≤(6:Int)) && decide ((6:Int)≤5))=false from rfl] at hL
  repeat' (first|(apply aa;exact rfl;exact rfl;(intro w hm;exact hL w))|refine sT ?_|refine sT2 ?_|refine sM fun _=> ?_|(refine sC ?_ ?_<;>intro hb<;>try omega)|fail)
  all_goals try (exfalso;omega)
  (refine du ?_)
  rfl
def DH:List Value:=eD.map fun x=> .string (mkB x.1)
def DI:List Value:=eD.map fun x=> .int .i64 x.2
theorem xw (w:World):aP Tryz.prog 270 [] w fun v H=> ∃ g g',v= .tuple #[sl (some g) 13 13,sl (some g') 13 13]∧H= [.own (some g) 9 1 13 13 DH,.own (some g') 2 1 13 13 DI]:=by
 refine aq Tryz.func270 rfl Tryz.ntmps270 rfl ?_
 repeat' (first|refine sT ?_|refine sM fun _=> ?_|(refine sC ?_ ?_<;>intro hb<;>try omega)|fail)
 rename_i g g'
 refine iJ (.inl rfl) rfl rfl rfl (H' := [.own (some g) 9 1 13 13 DH,.own (some g') 2 1 13 13 DI]) ?_ ⟨g,g',rfl,rfl⟩
 exact mS
theorem LG {k:Nat} (h:k<13): ∃ s n,eD.drop k=(s,n)::eD.drop (k+1)∧DH[k]? =some (.string (mkB s))∧DI[k]? =some (.int .i64 n)∧gH s∧s.length≤2:=by
 rcases (by omega:k=0∨k=1∨k=2∨k=3∨k=4∨k=5∨k=6∨k=7∨k=8∨k=9∨k=10∨k=11∨k=12) with rfl|rfl|rfl|rfl|rfl|rfl|rfl|rfl|rfl|rfl|rfl|rfl|rfl<;>refine ⟨_,_,rfl,rfl,rfl,?_,by decide⟩<;>(intro c hc;simp at hc;omega)
def gK (l:List Int):Option (Tk × Nat):=
 match opL l eD with
 |some (k,n)=>some (⟨8,k,au,aO,0⟩,n)
 |none=>if l.headD 0=40 then some (⟨9,0,au,aO,0⟩,1) else if l.headD 0=41 then some (⟨10,0,au,aO,0⟩,1) else if l.headD 0=44 then some (⟨11,0,au,aO,0⟩,1) else none
set_option maxHeartbeats 1000000 in
theorem JW (a:ByteArray) (ha:a.size≤100000) (i:Nat) (hi:i<a.size) (g:Nat) (w:World) (hr:Ro w g 0 [.string a]):
  ay Tryz.prog 225 [.pointer (some ⟨g,0,none⟩),.int .i64 (i:Int)] w (BI (atT i (gK ((ap a).drop i)))):=by
 refine aq Tryz.func225 rfl Tryz.ntmps225 rfl ?_
 have hl:=av a
 unfold gK
 rw [kA]
 generalize hF:opL ((ap a).drop i) eD=F
 repeat' (first|(apply aC;exact rfl;exact rfl;(intro w' hm;exact xw w');(rintro v H' ⟨gs,gn,rfl,rfl⟩))|refine sT ?_|refine sT2 ?_|refine sM fun _=> ?_|(refine sC ?_ ?_<;>intro hb<;>try omega)|fail)
 rename_i g4
 refine ax [0,1,4,5,7,14,15] rfl (fun k:Nat=> [(16,.int .i64 (k:Int))]) (fun _=> [.box g4 228 (bh cU),.own (some gs) 9 1 13 13 DH,.own (some gn) 2 1 13 13 DI]) (fun k=>k≤13∧F=opL ((ap a).drop i) (eD.drop k)) (fun k=>13 - k) 0 ⟨by omega,hF.symm⟩ sB mS ?_
 rintro k ⟨hk2,hk3⟩
 by_cases hk:k<13
 ·
  obtain ⟨s,m,e1,e2,e3,e4,e5⟩:=LG hk
  rw [e1,opL] at hk3
  have hms:=lS s
  have hP:=xG (sub a i a.size) (mkB s)
  rw [mG,lZ e4,hms] at hP
  repeat' (first|(apply ak;exact rfl;apply aL (o:=0) (off:=0);exact hr;exact rfl;exact rfl)|(apply aa;exact rfl;exact rfl;(intro w hm;exact hP w))|(apply ak;exact rfl;apply aj (j:=k);exact rfl;exact rfl;exact hk)|(apply ak;exact rfl;apply bN;exact rfl;exact pK;(rw [show 0+k*1=k by omega];first|exact e2|exact e3))|refine sT ?_|refine sT2 ?_|refine sN ?_|refine sM fun _=> ?_|(refine sC ?_ ?_<;>intro hb<;>try omega)|fail)
  ·
   (refine du ?_)
   rw [hk3,if_pos hb,hms]
   rfl
  ·
   refine ⟨k+1,?_,(by first|omega|(dsimp only;omega)),sB,sB,mS⟩
   exact ⟨hk,by rw [hk3,if_neg hb]⟩
 ·
  have e:k=13:=by omega
  subst e
  rw [show eD.drop 13= [] from rfl,opL] at hk3
  subst hk3
  repeat' (first|(apply ak;exact rfl;apply aL (o:=0) (off:=0);exact hr;exact rfl;exact rfl)|refine sT ?_|refine sT2 ?_|refine sN ?_|refine sM fun _=> ?_|(refine sC ?_ ?_<;>intro hb<;>try omega)|fail)
  all_goals try (exfalso;omega)
  all_goals
   (refine du ?_)
   simp_all
   try rfl
def f9 (l:List Int):Option (Tk × Nat):=
 if bO (l.headD 0)=false then none
 else if (l.drop (aF cJ l)).headD 0=40 then some (⟨7,0,mkB (upW l),aO,0⟩,aF cJ l)
 else if mkB (upW l)=lC then some (⟨3,1,au,aO,0⟩,aF cJ l)
 else if mkB (upW l)=jV then some (⟨3,0,au,aO,0⟩,aF cJ l)
 else if (bY (upW l)).2.2≠0 then none
 else if (l.drop (aF cJ l)).headD 0=58∧bO ((l.drop (aF cJ l+1)).headD 0)=true∧(bY (upW (l.drop (aF cJ l+1)))).2.2=0∧(l.drop (aF cJ l+1+aF cJ (l.drop (aF cJ l+1)))).headD 0≠40 then
  some (⟨if (bY (upW l)).1=(bY (upW (l.drop (aF cJ l+1)))).1∧(bY (upW l)).2.1=(bY (upW (l.drop (aF cJ l+1)))).2.1 then 5 else 6,0,au,
   ⟨min (bY (upW l)).1 (bY (upW (l.drop (aF cJ l+1)))).1,min (bY (upW l)).2.1 (bY (upW (l.drop (aF cJ l+1)))).2.1,max (bY (upW l)).1 (bY (upW (l.drop (aF cJ l+1)))).1,max (bY (upW l)).2.1 (bY (upW (l.drop (aF cJ l+1)))).2.1⟩,0⟩,aF cJ l+1+aF cJ (l.drop (aF cJ l+1)))
 else some (⟨5,0,au,oU (bY (upW l)).1 (bY (upW l)).2.1,0⟩,aF cJ l)
theorem fC (a b:Int):(if b<a then b else a)=min a b:=by omega
theorem fD (a b:Int):(if a<b then b else a)=max a b:=by omega
theorem AL (l:List Int) (hl:gH l) (hlen:l.length≤100000) (w:World):ay Tryz.prog 266 [.string (mkB l)] w (.tuple #[.agg (cw ⟨(bY l).1,(bY l).2.1⟩).toArray,.int .i64 (bY l).2.2]):=by
 have h:=xU (mkB l) (by rw [lS];exact hlen) w
 rw [lZ hl,I4] at h
 exact h
set_option maxHeartbeats 2000000 in
theorem Jl (a:ByteArray) (ha:a.size≤10000) (i:Nat) (hi:i<a.size) (g:Nat) (w:World) (hr:Ro w g 0 [.string a]):
  ay Tryz.prog 223 [.pointer (some ⟨g,0,none⟩),.int .i64 (i:Int)] w (BI (atT i (f9 ((ap a).drop i)))):=by
 refine aq Tryz.func223 rfl Tryz.ntmps223 rfl ?_
 have hl:=av a
 have hP1:=fun w' h=>zr a (by omega) i (by omega) g w' h
 have hwl:=bR cJ ((ap a).drop i)
 have hul:=r9 ((ap a).drop i)
 have huk:gH (upW ((ap a).drop i)):=Gz fun c hc=>kU a c (Pe hc)
 rw [Nq] at hwl
 have hW:f9 ((ap a).drop i)=f9 ((ap a).drop i):=rfl
 unfold f9 at hW ⊢
 clear hW
 rw [kA]
 simp only [Ow]
 generalize hn:aF cJ ((ap a).drop i)=n at*
 generalize hu:upW ((ap a).drop i)=u at*
 rw [kA]
 have hus:(mkB u).size=n:=by rw [lS,hul]
 have hA1:=AL u huk (by omega)
 generalize hau:bY u=A1 at hA1
 obtain ⟨c1,r1,e1⟩:=A1
 dsimp only at hA1 ⊢
 have hN1:=fun w' h=>xy a (by omega) (i+n) g w' h
 have hN2:=fun w' h=>xy a (by omega) (i+n+1) g w' h
 have hb1l:bat a (i+n)≠0→i+n<a.size:=fun h=>by
  rcases OO (i+n) a.size with h1|h1
  ·
   exact h1
  ·
   exfalso;apply h;rw [bat,Nx,Oy (by omega)];rfl
 generalize hb1:bat a (i+n)=b1 at hN1 hb1l
 rw [show i+(n+1)=i+n+1 by omega]
 have hvl:=r9 ((ap a).drop (i+n+1))
 have hvk:gH (upW ((ap a).drop (i+n+1))):=Gz fun c hc=>kU a c (Pe hc)
 have hvr:=bR cJ ((ap a).drop (i+n+1))
 rw [Nq] at hvr
 have hP2:=fun w' hi h=>zr a (by omega) (i+n+1) hi g w' h
 generalize hm:aF cJ ((ap a).drop (i+n+1))=m at*
 generalize hv:upW ((ap a).drop (i+n+1))=v at*
 rw [kA,kA]
 have hvs:(mkB v).size=m:=by rw [lS,hvl]
 have hA2:=AL v hvk (by omega)
 generalize hav:bY v=A2 at hA2
 obtain ⟨c2,r2,e2⟩:=A2
 dsimp only at hA2 ⊢
 rw [show i+(n+1+m)=i+n+1+m by omega]
 have hN3:=fun w' h=>xy a (by omega) (i+n+1+m) g w' h
 generalize hb2:bat a (i+n+1)=b2 at hN2
 generalize hb3:bat a (i+n+1+m)=b3 at hN3
 repeat' (first|(apply ak;exact rfl;apply aL (o:=0) (off:=0);exact hr;exact rfl;exact rfl)|(apply aa;exact rfl;exact rfl;(intro w hm;exact oW _ w))|(apply ak (d:=28);exact rfl;apply pP;exact rfl;exact hus)|(apply ak (d:=90);exact rfl;apply pP;exact rfl;exact hvs)|(apply ak (d:=126);exact rfl;apply pP;exact rfl;exact hvs)|(apply aa (d:=26);exact rfl;exact rfl;(intro w' hm;exact hP1 w' (hr.next hm)))|(apply aa (d:=77);exact rfl;exact rfl;(intro w' hm;exact hP2 w' (hb1l (by omega)) (hr.next hm)))|(apply aa (d:=34);exact rfl;exact rfl;(intro w' hm;exact hN1 w' (hr.next hm)))|(apply aa (d:=65);exact rfl;exact rfl;(intro w' hm;exact hN1 w' (hr.next hm)))|(apply aa (d:=71);exact rfl;exact rfl;(intro w' hm;exact hN2 w' (hr.next hm)))|(apply aa (d:=92);exact rfl;exact rfl;(intro w' hm;exact hN3 w' (hr.next hm)))|(apply aa;exact rfl;exact rfl;(intro w hm;exact hA1 w))|(apply aa;exact rfl;exact rfl;(intro w hm;exact hA2 w))|(apply ak (d:=99);exact rfl;exact fC _ _ ▸ iA rfl rfl)|(apply ak (d:=104);exact rfl;exact fC _ _ ▸ iA rfl rfl)|(apply ak (d:=109);exact rfl;exact fD _ _ ▸ gJ rfl rfl)|(apply ak (d:=114);exact rfl;exact fD _ _ ▸ gJ rfl rfl)|(apply ak (d:=118);exact rfl;exact Gy (a:=⟨c1,r1⟩) (b:=⟨c2,r2⟩) rfl rfl)|(apply aa;exact rfl;exact rfl;(intro w hm;exact L9 ⟨c1,r1⟩ w))|refine sT ?_|refine sT2 ?_|refine sN ?_|refine sM fun _=> ?_|(refine sC ?_ ?_<;>intro hb<;>try omega)|fail)
 all_goals
  (refine du ?_)
  simp_all [lC,jV,BI,atT,bh,cw,aO,au,oU,eqF,bH,cU]
end Go.SL
namespace Go.SL
open Go Go.Proofs
attribute [local irreducible] W WL WQ WG WA WX WLI WR WT VOp RW thn blk bE scp ba bo bL aP FnIn FnP
def ph (a b:ByteArray):ByteArray × Bool:=if (ap a).take b.size=ap b then (sub a b.size a.size,true) else (a,false)
theorem Kt (a b:ByteArray) (ha:a.size≤1000000) (w:World):ay Tryz.prog 163 [.string a,.string b] w (.tuple #[.string (ph a b).1,.bool (ph a b).2]):=by
 refine aq Tryz.func163 rfl Tryz.ntmps163 rfl ?_
 have hp:=ng a b
 unfold ph
 by_cases h:(ap a).take b.size=ap b
 ·
  rw [if_pos h]
  rw [decide_eq_true h] at hp
  have hb:b.size≤a.size:=by
   have:=congrArg List.length h
   rw [Nu,av,av] at this
   omega
  repeat' (first|(apply aa;exact rfl;exact rfl;(intro w hm;exact hp w))|refine sT ?_|refine sT2 ?_|refine sM fun _=> ?_|(refine sC ?_ ?_<;>intro hb<;>try omega)|fail)
  all_goals exact iJ eIO rfl rfl rfl (.refl _) rfl
 ·
  rw [if_neg h]
  rw [decide_eq_false h] at hp
  repeat' (first|(apply aa;exact rfl;exact rfl;(intro w hm;exact hp w))|refine sT ?_|refine sT2 ?_|refine sM fun _=> ?_|(refine sC ?_ ?_<;>intro hb<;>try omega)|fail)
  all_goals exact iJ eIO rfl rfl rfl (.refl _) rfl
theorem IG (a b:ByteArray) (ha:a.size≤1000000) (w:World):ay Tryz.prog 137 [.string a,.string b] w (.tuple #[.string (ph a b).1,.bool (ph a b).2]):=by
 refine aq Tryz.func137 rfl Tryz.ntmps137 rfl ?_
 repeat' (first|(apply aa;exact rfl;exact rfl;(intro w hm;exact Kt a b ha w))|refine sT ?_|refine sM fun _=> ?_|(refine sC ?_ ?_<;>intro hb<;>try omega)|fail)
 all_goals exact iJ eIO rfl rfl rfl (.refl _) rfl
def JS (b:ByteArray):Vl × Bool:=(bK,decide (b=au))
def s5:ByteArray:=⟨#[39]⟩
def JQ (b:ByteArray):Vl × Bool:=(⟨3,0,(ph b s5).1⟩,(ph b s5).2)
def GD (b:ByteArray):Vl × Bool:=(gZ ⟨3,0,b⟩,decide ((gZ ⟨3,0,b⟩).kind=2))
def BB (b:ByteArray):Vl × Bool:=(fM (gM b).1,decide ((gM b).2=0) && decide ((gM b).1≤5))
def EB (b:ByteArray):Vl × Bool:=if (fU (ap b)).2=3 then (fM 3,true) else (tE (fU (ap b)).1,decide ((fU (ap b)).2=0))
def yH (x:Vl × Bool):Value:= .tuple #[.agg (di x.1).toArray,.bool x.2]
theorem JR (b:ByteArray) (g:Nat) (w:World) (hr:Ro w g 0 [.string b]):ay Tryz.prog 164 [.pointer (some ⟨g,0,none⟩)] w (yH (JS b)):=by
 refine aq Tryz.func164 rfl Tryz.ntmps164 rfl ?_
 have hm:Mem w w []:=Mem.refl w
 repeat' (first|(rename_i g1;refine mz (id:=1) 3 [.box g1 127 (di bK)] (by kernel_rfl) (by kernel_rfl) rfl ?_)|(apply Ej;exact rfl;(intro D ht;apply aL (o:=0) (off:=0);exact hr;exact rfl;exact rfl);exact fun _=>rfl)|(apply lp;exact rfl;exact rfl;exact pK;(iterate 3 exact rfl);decide;exact .refl _)|refine sT ?_|refine sG ?_|refine sM fun _=> ?_|(refine sC ?_ ?_<;>intro hb<;>try omega)|fail)
 all_goals ((refine du ?_);rfl)
theorem JP (b:ByteArray) (hb:b.size≤1000000) (g:Nat) (w:World) (hr:Ro w g 0 [.string b]):ay Tryz.prog 165 [.pointer (some ⟨g,0,none⟩)] w (yH (JQ b)):=by
 refine aq Tryz.func165 rfl Tryz.ntmps165 rfl ?_
 repeat' (first|(apply ak;exact rfl;apply aL (o:=0) (off:=0);exact hr;exact rfl;exact rfl)|(apply aa;exact rfl;exact rfl;(intro w hm;exact IG b s5 hb w))|refine sT ?_|refine sM fun _=> ?_|(refine sC ?_ ?_<;>intro hb<;>try omega)|fail)
 all_goals ((refine du ?_);rfl)
theorem JO (b:ByteArray) (hb:b.size≤1000000) (g:Nat) (w:World) (hr:Ro w g 0 [.string b]):ay Tryz.prog 166 [.pointer (some ⟨g,0,none⟩)] w (yH (GD b)):=by
 refine aq Tryz.func166 rfl Tryz.ntmps166 rfl ?_
 have hT:=fun w' =>FQ ⟨3,0,b⟩ rfl hb w'
 unfold GD
 generalize gZ ⟨3,0,b⟩=v at hT
 repeat' (first|(apply ak;exact rfl;apply aL (o:=0) (off:=0);exact hr;exact rfl;exact rfl)|(apply aa;exact rfl;exact rfl;(intro w hm;exact hT w))|(rename_i g1 g2;refine wP (id:=2) (g:=g1) (T:=127) (xs' :=di v) (R:= [.box g2 127 (di v)]) (fun D=> [if D 4 then .int .u8 v.kind else .int .u8 0,if D 4 then .int .i64 v.num else .int .i64 0,if D 4 then .string v.text else .string au]) (by kernel_rfl) (by kernel_rfl) pK rfl (by intro D hD;simp [hD 4 (by decide),di]) ?_)|refine sT ?_|refine sG ?_|refine sM fun _=> ?_|(refine sC ?_ ?_<;>intro hb<;>try omega)|fail)
 all_goals ((refine du ?_);rfl)
theorem JN (b:ByteArray) (hb:b.size≤1000000) (g:Nat) (w:World) (hr:Ro w g 0 [.string b]) (hW:Words w):ay Tryz.prog 168 [.pointer (some ⟨g,0,none⟩)] w (yH (BB b)):=by
 refine aq Tryz.func168 rfl Tryz.ntmps168 rfl ?_
 unfold BB
 have hC:=fun (w' :World) (h:Words w')=>KG b hb w' h
 generalize gM b=x at hC
 obtain ⟨c,e⟩:=x
 repeat' (first|(apply ak;exact rfl;apply aL (o:=0) (off:=0);exact hr;exact rfl;exact rfl)|(apply aa (f:=169);exact rfl;exact rfl;(intro w' hm';exact hC w' (hW.next hm')))|(apply aa (f:=170);exact rfl;exact rfl;(intro w' hm';exact kZ c w'))|refine sT ?_|refine sM fun _=> ?_|(refine sC ?_ ?_<;>intro hb<;>try omega)|fail)
 all_goals ((refine du ?_);simp_all [yH,di])
theorem JM (b:ByteArray) (hb:b.size≤1000000) (g:Nat) (w:World) (hr:Ro w g 0 [.string b]):ay Tryz.prog 171 [.pointer (some ⟨g,0,none⟩)] w (yH (EB b)):=by
 refine aq Tryz.func171 rfl Tryz.ntmps171 rfl ?_
 unfold EB
 have hC:=fun (w' :World)=>qK b hb w'
 generalize fU (ap b)=x at hC
 obtain ⟨n,e⟩:=x
 repeat' (first|(apply ak;exact rfl;apply aL (o:=0) (off:=0);exact hr;exact rfl;exact rfl)|(apply aa;exact rfl;exact rfl;(intro w hm;exact hC w))|(apply aa (f:=170);exact rfl;exact rfl;(intro w' hm';exact kZ 3 w'))|(apply aa (f:=173);exact rfl;exact rfl;(intro w' hm';exact KF n w'))|refine sT ?_|refine sM fun _=> ?_|(refine sC ?_ ?_<;>intro hb<;>try omega)|fail)
 all_goals ((refine du ?_);simp_all [yH,di])
def DY:List Nat:= [164,165,166,168,171]
def si:List (ByteArray→Vl × Bool):= [JS,JQ,GD,BB,EB]
def ep (b:ByteArray):List (ByteArray→Vl × Bool)→Vl
 | []=>⟨3,0,b⟩
 |t::r=>if (t b).2 then (t b).1 else ep b r
def qa (b:ByteArray):Vl:=ep b si
theorem GG (b:ByteArray) (hb:b.size≤1000000) (g k:Nat) (hk:k<5): ∃ f t,si.drop k=t::si.drop (k+1)∧(DY.map fun f=>Value.func (.func f) #[] #[.pointer (some ⟨g,0,none⟩)])[k]? =some (.func (.func f) #[] #[.pointer (some ⟨g,0,none⟩)])∧Callable Tryz.prog f∧
  ∀ w,Ro w g 0 [.string b]→Words w→ay Tryz.prog f [.pointer (some ⟨g,0,none⟩)] w (yH (t b)):=by
 rcases (by omega:k=0∨k=1∨k=2∨k=3∨k=4) with rfl|rfl|rfl|rfl|rfl
 ·
  exact ⟨_,_,rfl,rfl,inferInstance,fun w hr _=>JR b g w hr⟩
 ·
  exact ⟨_,_,rfl,rfl,inferInstance,fun w hr _=>JP b hb g w hr⟩
 ·
  exact ⟨_,_,rfl,rfl,inferInstance,fun w hr _=>JO b hb g w hr⟩
 ·
  exact ⟨_,_,rfl,rfl,inferInstance,fun w hr hW=>JN b hb g w hr hW⟩
 ·
  exact ⟨_,_,rfl,rfl,inferInstance,fun w hr _=>JM b hb g w hr⟩
set_option maxHeartbeats 1000000 in
theorem Av (b:ByteArray) (hb:b.size≤1000000) (w:World) (hW:Words w):ay Tryz.prog 138 [.string b] w (.agg (di (qa b)).toArray):=by
 refine aq Tryz.func138 rfl Tryz.ntmps138 rfl ?_
 repeat' (first|refine sT ?_|refine sS ?_|refine sM fun _=> ?_|(refine sC ?_ ?_<;>intro hb<;>try omega)|fail)
 rename_i g1 g2 g3
 refine ax [1,2,13,14] rfl (fun x:Nat × Vl=> [(4,.bool false),(15,.int .i64 (x.1:Int))]) (fun x=> [.own (some g3) 212 1 5 5 (DY.map fun f=>Value.func (.func f) #[] #[.pointer (some ⟨g1,0,none⟩)]),.box g2 127 (di x.2),.box g1 9 [.string b]]) (fun x=>x.1≤5∧qa b=ep b (si.drop x.1)) (fun x=>5 - x.1) (0,bK) ⟨by omega,rfl⟩ sB mS ?_
 rintro ⟨k,v⟩ ⟨hk,hkt⟩
 dsimp only at hk hkt ⊢
 by_cases hk5:k<5
 ·
  obtain ⟨f,t,r1,r2,r3,r4⟩:=GG b hb g1 k hk5
  rw [r1,ep] at hkt
  obtain ⟨⟨v',is⟩,ht⟩: ∃ x,t b=x:=⟨_,rfl⟩
  rw [ht] at hkt r4
  cases is with
  |true=>
   rw [if_pos rfl] at hkt
   repeat' (first|(apply ak;exact rfl;apply aj (j:=k);exact rfl;exact rfl;exact hk5)|(apply ak;exact rfl;apply bN (off:=0+k*1);exact rfl;exact pK;(rw [Ny,O6];exact r2))|(apply bI;exact rfl;exact rfl;exact r3;exact rfl;(intro w' hm;exact r4 w' (Ro.of_box hm pK) (hW.next hm)))|refine sT ?_|refine sS ?_|refine sN ?_|refine sM fun _=> ?_|(refine sC ?_ ?_<;>intro hb<;>try omega)|fail)
   all_goals (rw [hkt];(refine eRC ?_);rfl)
  |false=>
   rw [if_neg (by simp)] at hkt
   repeat' (first|(apply ak;exact rfl;apply aj (j:=k);exact rfl;exact rfl;exact hk5)|(apply ak;exact rfl;apply bN (off:=0+k*1);exact rfl;exact pK;(rw [Ny,O6];exact r2))|(apply bI;exact rfl;exact rfl;exact r3;exact rfl;(intro w' hm;exact r4 w' (Ro.of_box hm pK) (hW.next hm)))|refine sT ?_|refine sS ?_|refine sN ?_|refine sM fun _=> ?_|(refine sC ?_ ?_<;>intro hb<;>try omega)|fail)
   refine ⟨(k+1,v'),?_,(by first|omega|(dsimp only;omega)),sB,sB,mS⟩
   exact ⟨hk5,hkt⟩
 ·
  have e:k=5:=by omega
  subst e
  have hkt:qa b=⟨3,0,b⟩:=hkt
  rw [hkt]
  repeat' (first|refine sT ?_|refine sS ?_|refine sN ?_|refine sM fun _=> ?_|(refine sC ?_ ?_<;>intro hb<;>try omega)|fail)
  all_goals first|(exfalso;omega)|((refine eRC ?_);rfl)
end Go.SL
namespace Go.SL
open Go
def uk (b:ByteArray):Vl:=
 if b=au then bK
 else if (ap b).headD 0=39 then ⟨3,0,mkB (ap b).tail⟩
 else if upB b=lC∨upB b=jV then kH (decide (upB b=lC))
 else if (gM b).2=0∧(gM b).1<6 then fM (gM b).1
 else if (fU (ap b)).2=0 then tE (fU (ap b)).1
 else if (fU (ap b)).2=3 then fM 3
 else ⟨3,0,b⟩
theorem Fz {b:ByteArray} (hg:eB b=0):qa b=uk b:=by
 have hT:lC≠jV:=by decide
 have h3:GD b=if upB b=lC then (kH true,true) else if upB b=jV then (kH false,true) else (fM 2,false):=by
  have hv:nB ⟨3,0,b⟩=0:=by simp [nB,rP,hg]
  simp only [GD,gZ,hv,if_true,xz]
  split
  ·
   rfl
  ·
   split<;>rfl
 have h2:JQ b=if (ap b).headD 0=39 then (⟨3,0,mkB (ap b).tail⟩,true) else (⟨3,0,b⟩,false):=by
  have hq:ap s5= [39]:=rfl
  have hs:s5.size=1:=rfl
  simp only [JQ,ph,hq,hs]
  cases hi:ap b with
  |nil=>simp
  |cons c r=>
   simp only [Oe,OA,List.cons.injEq,and_true,Oz,List.tail_cons]
   by_cases hc:c=39
   ·
    have hsz:b.size=(c::r).length:=by rw [← hi,av]
    have:sub b 1 b.size=mkB r:=by
     refine HF ?_
     rw [dO,hi,hsz]
     simp
    simp only [hc,if_true,this]
   ·
    simp only [hc,if_false]
 have hgen: ∀ (p:Prop) [Decidable p] (x y z:Vl),(if (if p then (x,true) else (y,false)).2=true then (if p then (x,true) else (y,false)).1 else z)=if p then x else z:=by
  intro p _ x y z
  split<;>simp
 unfold qa si ep ep ep ep ep ep uk
 have e1:(JS b).2=decide (b=au):=rfl
 rw [e1,h2,h3]
 by_cases c1:b=au
 ·
  simp [c1,JS]
 ·
  rw [if_neg (by simpa using c1),if_neg c1]
  by_cases c2:(ap b).headD 0=39
  ·
   simp only [c2,if_true]
  ·
   simp only [c2,if_false,Oo]
   by_cases c3:upB b=lC
   ·
    simp [c3]
   ·
    by_cases c4:upB b=jV
    ·
     simp [c4,hT.symm]
    ·
     simp only [c3,c4,if_false,or_self,Oo]
     by_cases c5:(gM b).2=0∧(gM b).1<6
     ·
      have:(BB b).2=true:=by simp only [BB,c5.1,decide_true,NI,decide_eq_true_eq];omega
      rw [if_pos this,if_pos c5];rfl
     ·
      have:(BB b).2=false:=by
       simp only [BB,Oj,decide_eq_false_iff_not]
       by_cases h:(gM b).2=0
       ·
        right;intro h';exact c5 ⟨h,by omega⟩
       ·
        left;exact h
      rw [if_neg (by simp [this]),if_neg c5]
      by_cases c6:(fU (ap b)).2=0
      ·
       simp [EB,c6]
      ·
       by_cases c7:(fU (ap b)).2=3
       ·
        simp [EB,c7]
       ·
        simp [EB,c6,c7]
end Go.SL

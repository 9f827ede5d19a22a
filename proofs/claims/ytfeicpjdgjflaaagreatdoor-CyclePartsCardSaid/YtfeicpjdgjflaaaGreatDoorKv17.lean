/-
  Lemmas and walks, put together: B3 B4 D1 Lc B5.
-/
import Derived.Test.YtfeicpjdgjflaaaGreatDoorKv16
set_option linter.unusedSimpArgs false
set_option linter.unusedVariables false
set_option maxRecDepth 20000
set_option maxHeartbeats 16000000
namespace Go.SL
open Go Go.Proofs
attribute [local irreducible] W WL WQ WG WA WX WLI WR WT VOp thn blk bg scp aS bi FnAt FnIn
theorem RI {l m:List Int} (hl:jA l) (hm:jA m):mkB l=mkB m↔l=m:=⟨fun h=>by rw [← qj hl,← qj hm,h],fun h=>by rw [h]⟩
theorem rI (a b:ByteArray) (w:World):aF Tryz.prog 286 [.string a,.string b] w (.bool (decide ((ap a).take b.size=ap b))):=by
 refine aA Tryz.func286 rfl Tryz.ntmps286 rfl ?_;have ha:=az a;have hb' :=az b;have e: ∀ h:b.size≤a.size,decide (sub a 0 b.size=b)=decide ((ap a).take b.size=ap b):=fun h=>by
  rw [decide_eq_decide,← xg];exact ⟨fun h=>by rw [h],fun h=>za h⟩
 repeat' first|refine zZE ?_|refine sM fun _=>?_|refine sC ?_ ?_<;>intro hb<;>try omega|fail
 ·rw [e (by omega)];refine rT1 ?_
  rfl
 ·(refine rT1 ?_);rw [decide_eq_false];intro h;have:=congrArg List.length h;rw [VQ] at this;omega
theorem DL (a b:ByteArray) (w:World):aF Tryz.prog 348 [.string a,.string b] w (.bool (decide ((ap a).take b.size=ap b))):=by
 refine aA Tryz.func348 rfl Tryz.ntmps348 rfl ?_;repeat' (first|apply ag;exact rfl;exact rfl;intro w hm;exact rI a b w|refine sT ?_|refine sM fun _=>?_|refine sC ?_ ?_<;>intro hb<;>try omega|fail)
 (refine rT1 ?_)
 rfl
theorem y6 (c:Int) (w:World):aF Tryz.prog 345 [.int .i64 c] w (.bool (decide (1≤c) && decide (c≤5))):=by
 refine aA Tryz.func345 rfl Tryz.ntmps345 rfl ?_;repeat' (first|refine sT ?_|refine sM fun _=>?_|refine sC ?_ ?_<;>intro hb<;>try omega|fail)
 all_goals ((refine rT1 ?_);simp_all<;>omega)
theorem DT {k:Nat} (h1:1≤k) (h2:k≤5): ∃ s,fw.drop (k - 1)=s::fw.drop k∧dq.getD k aB=mkB s∧jA s∧s.length≤10:=by
 rcases (by omega:k=1∨k=2∨k=3∨k=4∨k=5) with rfl|rfl|rfl|rfl|rfl<;>refine ⟨_,rfl,rfl,?_,by decide⟩<;>(intro c hc;simp at hc;omega)
theorem qd (l:List Int):(mkB l).size=l.length:=by simp [mkB,ByteArray.size]
def mR (l:List Int):Option (Tk × Nat):=(mg l fw 1).map fun x=>(⟨4,x.1,aB,aZ,0⟩,x.2)
theorem Sc (a:ByteArray) (ha:a.size≤100000) (i:Nat) (hi:i≤a.size) (g:Nat) (w:World) (hr:Ro w g 0 [.string a]) (hW:Words w):
 aF Tryz.prog 298 [.pointer (some ⟨g,0,none⟩),.int .i64 (i:Int)] w (Ij (atT i (mR ((ap a).drop i)))):=by
 refine aA Tryz.func298 rfl Tryz.ntmps298 rfl ?_;have hl:=az a;unfold mR;generalize hF:mg ((ap a).drop i) fw 1=F;repeat' (first|refine zZE ?_|refine sM fun _=>?_|refine sC ?_ ?_<;>intro hb<;>try omega|fail)
 rename_i g4;refine ay [0,1,4,5] rfl (fun k:Nat=> [(6,.int .i64 (k:Int))]) (fun _=> [.box g4 339 (bw dY)]) (fun k=>1≤k∧k≤6∧F=mg ((ap a).drop i) (fw.drop (k - 1)) k) (fun k=>6 - k) 1 ⟨by omega,by omega,hF.symm⟩ sB mS ?_;rintro k ⟨hk1,hk2,hk3⟩;by_cases hk:k≤5
 ·obtain ⟨s,e1,e2,e3,e4⟩:=DT hk1 hk;have e5:iV (k:Int)=⟨4,(k:Int),aB⟩:=by rw [iV,if_neg (by omega)]
  have hFa:=pz (k:Int);rw [e5] at hFa;have hSh:=fun w' h=>SC (k:Int) (by omega) (by omega) w' h;rw [Yc,e2] at hSh;rw [e1,mg] at hk3;have hlit:(decide (1≤(k:Int)) && decide ((k:Int)≤5))=true:=by simp;omega
  have hL:=y6 (k:Int);rw [hlit] at hL;have hms:=qd s;have hcut:ap (sub a i (i+s.length))=((ap a).drop i).take s.length:=by rw [fK,show i+s.length - i=s.length by omega]
  have hU:=fun h=>uH (sub a i (i+s.length)) h;have hdec:upB (sub a i (i+s.length))=mkB s↔(((ap a).drop i).take s.length).map upC=s:=by
   rw [upB,hcut,RI _ e3];rw [← hcut,← ud];exact o9 _
  rw [← hms] at hU hdec hk3;repeat' (first|apply ai;exact rfl;apply aR (o:=0) (off:=0);exact hr;exact rfl;exact rfl|apply ag;exact rfl;exact rfl;intro w hm;exact hL w|apply ag;exact rfl;exact rfl;intro w hm;exact hFa w|apply ag;exact rfl;exact rfl;intro w' hm;exact hSh w' (hW.next hm)|apply ag;exact rfl;exact rfl;intro w hm;exact hU (by rw [cP _ (by omega)];omega) w|refine zZH ?_|refine sM fun _=>?_|refine sC ?_ ?_<;>intro hb<;>try omega|fail)
  ·(refine nz ?_);rw [hk3,if_pos (hdec.1 hb)]
   rfl
  ·refine ⟨k+1,?_,(by first|omega|dsimp only;omega),sB,sB,mS⟩;refine ⟨by omega,by omega,?_⟩;rw [hk3,if_neg fun h=>hb (hdec.2 h)]
   rfl
  ·refine ⟨k+1,?_,(by first|omega|dsimp only;omega),sB,sB,mS⟩;refine ⟨by omega,by omega,?_⟩;rw [hk3,if_neg]
   ·rfl
   ·intro h;have:=congrArg List.length h;rw [VK,VQ,VS] at this;omega
 ·have e:k=6:=by omega
  subst e;rw [show fw.drop (6 - 1)= [] from rfl,mg] at hk3;rw [hk3];have hL:=y6 6;rw [show (decide (1≤(6:Int)) && decide ((6:Int)≤5))=false from rfl] at hL;repeat' (first|apply ag;exact rfl;exact rfl;intro w hm;exact hL w|refine zZE ?_|refine sM fun _=>?_|refine sC ?_ ?_<;>intro hb<;>try omega|fail)
  all_goals try omega
  (refine nz ?_)
  rfl
def Kv:List Value:=gI.map fun x=> .string (mkB x.1)
def Kw:List Value:=gI.map fun x=> .int .i64 x.2
theorem Dr (w:World):FnAt Tryz.prog 347 [] w fun v H=> ∃ g g',v= .tuple #[sl (some g) 13 13,sl (some g') 13 13]∧H= [.own (some g) 9 1 13 13 Kv,.own (some g') 2 1 13 13 Kw]:=by
 refine aA Tryz.func347 rfl Tryz.ntmps347 rfl ?_;repeat' (first|refine sT ?_|refine sM fun _=>?_|refine sC ?_ ?_<;>intro hb<;>try omega|fail)
 rename_i g g';refine dm (.inl rfl) rfl rfl rfl (H' := [.own (some g) 9 1 13 13 Kv,.own (some g') 2 1 13 13 Kw]) ?_ ⟨g,g',rfl,rfl⟩;exact mS
theorem TM {k:Nat} (h:k<13): ∃ s n,gI.drop k=(s,n)::gI.drop (k+1)∧Kv[k]? =some (.string (mkB s))∧Kw[k]? =some (.int .i64 n)∧jA s∧s.length≤2:=by
 rcases (by omega:k=0∨k=1∨k=2∨k=3∨k=4∨k=5∨k=6∨k=7∨k=8∨k=9∨k=10∨k=11∨k=12) with rfl|rfl|rfl|rfl|rfl|rfl|rfl|rfl|rfl|rfl|rfl|rfl|rfl<;>refine ⟨_,_,rfl,rfl,rfl,?_,by decide⟩<;>(intro c hc;simp at hc;omega)
def jG (l:List Int):Option (Tk × Nat):=
 match opL l gI with
 |some (k,n)=>some (⟨8,k,aB,aZ,0⟩,n)
 |none=>if l.headD 0=40 then some (⟨9,0,aB,aZ,0⟩,1) else if l.headD 0=41 then some (⟨10,0,aB,aZ,0⟩,1) else if l.headD 0=44 then some (⟨11,0,aB,aZ,0⟩,1) else none
theorem Rd (a:ByteArray) (ha:a.size≤100000) (i:Nat) (hi:i<a.size) (g:Nat) (w:World) (hr:Ro w g 0 [.string a]):
 aF Tryz.prog 299 [.pointer (some ⟨g,0,none⟩),.int .i64 (i:Int)] w (Ij (atT i (jG ((ap a).drop i)))):=by
 refine aA Tryz.func299 rfl Tryz.ntmps299 rfl ?_;have hl:=az a;unfold jG;rw [ow];generalize hF:opL ((ap a).drop i) gI=F;repeat' (first|apply aJ;exact rfl;exact rfl;intro w' hm;exact Dr w';rintro v H' ⟨gs,gn,rfl,rfl⟩|refine zZE ?_|refine sM fun _=>?_|refine sC ?_ ?_<;>intro hb<;>try omega|fail)
 rename_i g4;refine ay [0,1,4,5,7,14,15] rfl (fun k:Nat=> [(16,.int .i64 (k:Int))]) (fun _=> [.box g4 339 (bw dY),.own (some gs) 9 1 13 13 Kv,.own (some gn) 2 1 13 13 Kw]) (fun k=>k≤13∧F=opL ((ap a).drop i) (gI.drop k)) (fun k=>13 - k) 0 ⟨by omega,hF.symm⟩ sB mS ?_;rintro k ⟨hk2,hk3⟩;by_cases hk:k<13
 ·obtain ⟨s,m,e1,e2,e3,e4,e5⟩:=TM hk;rw [e1,opL] at hk3;have hms:=qd s;have hP:=DL (sub a i a.size) (mkB s);rw [qO,qj e4,hms] at hP;repeat' (first|apply ai;exact rfl;apply aR (o:=0) (off:=0);exact hr;exact rfl;exact rfl|apply ag;exact rfl;exact rfl;intro w hm;exact hP w|apply ai;exact rfl;apply aa (j:=k);exact rfl;exact rfl;exact hk|apply ai;exact rfl;apply aq;exact rfl;exact pK;(rw [show 0+k*1=k by omega];first|exact e2|exact e3)|refine zZH ?_|refine sM fun _=>?_|refine sC ?_ ?_<;>intro hb<;>try omega|fail)
  ·(refine nz ?_);rw [hk3,if_pos hb,hms]
   rfl
  ·refine ⟨k+1,?_,(by first|omega|dsimp only;omega),sB,sB,mS⟩;exact ⟨hk,by rw [hk3,if_neg hb]⟩
 ·have e:k=13:=by omega
  subst e;rw [show gI.drop 13= [] from rfl,opL] at hk3;subst hk3;repeat' (first|apply ai;exact rfl;apply aR (o:=0) (off:=0);exact hr;exact rfl;exact rfl|refine zZH ?_|refine sM fun _=>?_|refine sC ?_ ?_<;>intro hb<;>try omega|fail)
  all_goals try omega
  all_goals
   (refine nz ?_);simp_all;try rfl
def jm (l:List Int):Option (Tk × Nat):=
 if cz (l.headD 0)=false then none
 else if (l.drop (aK dI l)).headD 0=40 then some (⟨7,0,mkB (upW l),aZ,0⟩,aK dI l)
 else if mkB (upW l)=pQ then some (⟨3,1,aB,aZ,0⟩,aK dI l)
 else if mkB (upW l)=ny then some (⟨3,0,aB,aZ,0⟩,aK dI l)
 else if (cX (upW l)).2.2≠0 then none
 else if (l.drop (aK dI l)).headD 0=58∧cz ((l.drop (aK dI l+1)).headD 0)=true∧(cX (upW (l.drop (aK dI l+1)))).2.2=0∧(l.drop (aK dI l+1+aK dI (l.drop (aK dI l+1)))).headD 0≠40 then
  some (⟨if (cX (upW l)).1=(cX (upW (l.drop (aK dI l+1)))).1∧(cX (upW l)).2.1=(cX (upW (l.drop (aK dI l+1)))).2.1 then 5 else 6,0,aB,
   ⟨min (cX (upW l)).1 (cX (upW (l.drop (aK dI l+1)))).1,min (cX (upW l)).2.1 (cX (upW (l.drop (aK dI l+1)))).2.1,max (cX (upW l)).1 (cX (upW (l.drop (aK dI l+1)))).1,max (cX (upW l)).2.1 (cX (upW (l.drop (aK dI l+1)))).2.1⟩,0⟩,aK dI l+1+aK dI (l.drop (aK dI l+1)))
 else some (⟨5,0,aB,dU (cX (upW l)).1 (cX (upW l)).2.1,0⟩,aK dI l)
theorem iG (a b:Int):(if b<a then b else a)=min a b:=by omega
theorem iH (a b:Int):(if a<b then b else a)=max a b:=by omega
theorem HC (l:List Int) (hl:jA l) (hlen:l.length≤100000) (w:World):aF Tryz.prog 344 [.string (mkB l)] w (.tuple #[.agg (aw ⟨(cX l).1,(cX l).2.1⟩).toArray,.int .i64 (cX l).2.2]):=by
 have h:=Em (mkB l) (by rw [qd];exact hlen) w;rw [qj hl,P8] at h;exact h
theorem Qr (a:ByteArray) (ha:a.size≤10000) (i:Nat) (hi:i<a.size) (g:Nat) (w:World) (hr:Ro w g 0 [.string a]):
 aF Tryz.prog 297 [.pointer (some ⟨g,0,none⟩),.int .i64 (i:Int)] w (Ij (atT i (jm ((ap a).drop i)))):=by
 refine aA Tryz.func297 rfl Tryz.ntmps297 rfl ?_;have hl:=az a;have hP1:=fun w' h=>F4 a (by omega) i (by omega) g w' h;have hwl:=cH dI ((ap a).drop i);have hul:=xV ((ap a).drop i);have huk:jA (upW ((ap a).drop i)):=NZ fun c hc=>o9 a c (XK hc);rw [VS] at hwl;have hW:jm ((ap a).drop i)=jm ((ap a).drop i):=rfl;unfold jm at hW ⊢;clear hW;rw [ow];simp only [Xi];generalize hn:aK dI ((ap a).drop i)=n at*;generalize hu:upW ((ap a).drop i)=u at*;rw [ow];have hus:(mkB u).size=n:=by rw [qd,hul]
 have hA1:=HC u huk (by omega);generalize hau:cX u=A1 at hA1;obtain ⟨c1,r1,e1⟩:=A1;dsimp only at hA1 ⊢;have hN1:=fun w' h=>Dz a (by omega) (i+n) g w' h;have hN2:=fun w' h=>Dz a (by omega) (i+n+1) g w' h;have hb1l:bat a (i+n)≠0→i+n<a.size:=fun h=>by
  rcases WY (i+n) a.size with h1|h1
  ·exact h1
  ·exfalso;apply h;rw [bat,VX,VJ (by omega)];rfl
 generalize hb1:bat a (i+n)=b1 at hN1 hb1l;rw [show i+(n+1)=i+n+1 by omega];have hvl:=xV ((ap a).drop (i+n+1));have hvk:jA (upW ((ap a).drop (i+n+1))):=NZ fun c hc=>o9 a c (XK hc);have hvr:=cH dI ((ap a).drop (i+n+1));rw [VS] at hvr;have hP2:=fun w' hi h=>F4 a (by omega) (i+n+1) hi g w' h;generalize hm:aK dI ((ap a).drop (i+n+1))=m at*;generalize hv:upW ((ap a).drop (i+n+1))=v at*;rw [ow,ow];have hvs:(mkB v).size=m:=by rw [qd,hvl]
 have hA2:=HC v hvk (by omega);generalize hav:cX v=A2 at hA2;obtain ⟨c2,r2,e2⟩:=A2;dsimp only at hA2 ⊢;rw [show i+(n+1+m)=i+n+1+m by omega];have hN3:=fun w' h=>Dz a (by omega) (i+n+1+m) g w' h;generalize hb2:bat a (i+n+1)=b2 at hN2;generalize hb3:bat a (i+n+1+m)=b3 at hN3;repeat' (first|apply ai;exact rfl;apply aR (o:=0) (off:=0);exact hr;exact rfl;exact rfl|apply ag;exact rfl;exact rfl;intro w hm;exact tX _ w|apply ai (d:=28);exact rfl;apply uS;exact rfl;exact hus|apply ai (d:=90);exact rfl;apply uS;exact rfl;exact hvs|apply ai (d:=126);exact rfl;apply uS;exact rfl;exact hvs|apply ag (d:=26);exact rfl;exact rfl;intro w' hm;exact hP1 w' (hr.next hm)|apply ag (d:=77);exact rfl;exact rfl;intro w' hm;exact hP2 w' (hb1l (by omega)) (hr.next hm)|apply ag (d:=34);exact rfl;exact rfl;intro w' hm;exact hN1 w' (hr.next hm)|apply ag (d:=65);exact rfl;exact rfl;intro w' hm;exact hN1 w' (hr.next hm)|apply ag (d:=71);exact rfl;exact rfl;intro w' hm;exact hN2 w' (hr.next hm)|apply ag (d:=92);exact rfl;exact rfl;intro w' hm;exact hN3 w' (hr.next hm)|apply ag;exact rfl;exact rfl;intro w hm;exact hA1 w|apply ag;exact rfl;exact rfl;intro w hm;exact hA2 w|apply ai (d:=99);exact rfl;exact iG _ _ ▸ jD rfl rfl|apply ai (d:=104);exact rfl;exact iG _ _ ▸ jD rfl rfl|apply ai (d:=109);exact rfl;exact iH _ _ ▸ jE rfl rfl|apply ai (d:=114);exact rfl;exact iH _ _ ▸ jE rfl rfl|apply ai (d:=118);exact rfl;exact NU (a:=⟨c1,r1⟩) (b:=⟨c2,r2⟩) rfl rfl|apply ag;exact rfl;exact rfl;intro w hm;exact s5 ⟨c1,r1⟩ w|refine zZH ?_|refine sM fun _=>?_|refine sC ?_ ?_<;>intro hb<;>try omega|fail)
 all_goals
  (refine nz ?_);simp_all [pQ,ny,Ij,atT,bw,aw,aZ,aB,dU,eqF,bz,dY]
attribute [local irreducible] FnP RW aV
def mh (a b:ByteArray):ByteArray × Bool:=if (ap a).take b.size=ap b then (sub a b.size a.size,true) else (a,false)
theorem Sn (a b:ByteArray) (ha:a.size≤1000000) (w:World):aF Tryz.prog 214 [.string a,.string b] w (.tuple #[.string (mh a b).1,.bool (mh a b).2]):=by
 refine aA Tryz.func214 rfl Tryz.ntmps214 rfl ?_;have hp:=rI a b;unfold mh;by_cases h:(ap a).take b.size=ap b
 ·rw [if_pos h];rw [decide_eq_true h] at hp;have hb:b.size≤a.size:=by
   have:=congrArg List.length h;rw [VQ,az,az] at this;omega
  repeat' first|apply ag;exact rfl;exact rfl;intro w hm;exact hp w|refine zZE ?_|refine sM fun _=>?_|refine sC ?_ ?_<;>intro hb<;>try omega|fail
  all_goals exact dm eIO rfl rfl rfl (.refl _) rfl
 ·rw [if_neg h];rw [decide_eq_false h] at hp;repeat' (first|apply ag;exact rfl;exact rfl;intro w hm;exact hp w|refine zZE ?_|refine sM fun _=>?_|refine sC ?_ ?_<;>intro hb<;>try omega|fail)
  all_goals exact dm eIO rfl rfl rfl (.refl _) rfl
theorem PV (a b:ByteArray) (ha:a.size≤1000000) (w:World):aF Tryz.prog 159 [.string a,.string b] w (.tuple #[.string (mh a b).1,.bool (mh a b).2]):=by
 refine aA Tryz.func159 rfl Tryz.ntmps159 rfl ?_;repeat' (first|apply ag;exact rfl;exact rfl;intro w hm;exact Sn a b ha w|refine sT ?_|refine sM fun _=>?_|refine sC ?_ ?_<;>intro hb<;>try omega|fail)
 all_goals exact dm eIO rfl rfl rfl (.refl _) rfl
def QU (b:ByteArray):Vl × Bool:=(bX,decide (b=aB))
def yz:ByteArray:=⟨#[39]⟩
def QS (b:ByteArray):Vl × Bool:=(⟨3,0,(mh b yz).1⟩,(mh b yz).2)
def N7 (b:ByteArray):Vl × Bool:=(jW ⟨3,0,b⟩,decide ((jW ⟨3,0,b⟩).kind=2))
def Ie (b:ByteArray):Vl × Bool:=(iV (jI b).1,decide ((jI b).2=0) && decide ((jI b).1≤5))
def Lw (b:ByteArray):Vl × Bool:=if (jf (ap b)).2=3 then (iV 3,true) else (yY (jf (ap b)).1,decide ((jf (ap b)).2=0))
def E6 (x:Vl × Bool):Value:= .tuple #[.agg (eZ x.1).toArray,.bool x.2]
theorem QT (b:ByteArray) (g:Nat) (w:World) (hr:Ro w g 0 [.string b]):aF Tryz.prog 215 [.pointer (some ⟨g,0,none⟩)] w (E6 (QU b)):=by
 refine aA Tryz.func215 rfl Tryz.ntmps215 rfl ?_;have hm:Mem w w []:=Mem.refl w;repeat' (first|rename_i g1;refine kW (id:=1) 3 [.box g1 130 (eZ bX)] (by kernel_rfl) (by kernel_rfl) rfl ?_|apply EM;exact rfl;intro D ht;apply aR (o:=0) (off:=0);exact hr;exact rfl;exact rfl;exact fun _=>rfl|apply vY;exact rfl;exact rfl;exact pK;(iterate 3 exact rfl);decide;exact .refl _|refine sT ?_|refine sG ?_|refine sM fun _=>?_|refine sC ?_ ?_<;>intro hb<;>try omega|fail)
 all_goals ((refine nz ?_);rfl)
theorem QR (b:ByteArray) (hb:b.size≤1000000) (g:Nat) (w:World) (hr:Ro w g 0 [.string b]):aF Tryz.prog 216 [.pointer (some ⟨g,0,none⟩)] w (E6 (QS b)):=by
 refine aA Tryz.func216 rfl Tryz.ntmps216 rfl ?_;repeat' (first|apply ai;exact rfl;apply aR (o:=0) (off:=0);exact hr;exact rfl;exact rfl|apply ag;exact rfl;exact rfl;intro w hm;exact PV b yz hb w|refine sT ?_|refine sM fun _=>?_|refine sC ?_ ?_<;>intro hb<;>try omega|fail)
 all_goals ((refine nz ?_);rfl)
theorem QQ (b:ByteArray) (hb:b.size≤1000000) (g:Nat) (w:World) (hr:Ro w g 0 [.string b]):aF Tryz.prog 217 [.pointer (some ⟨g,0,none⟩)] w (E6 (N7 b)):=by
 refine aA Tryz.func217 rfl Tryz.ntmps217 rfl ?_;have hT:=fun w' =>Nj ⟨3,0,b⟩ rfl hb w';unfold N7;generalize jW ⟨3,0,b⟩=v at hT;repeat' (first|apply ai;exact rfl;apply aR (o:=0) (off:=0);exact hr;exact rfl;exact rfl|apply ag;exact rfl;exact rfl;intro w hm;exact hT w|rename_i g1 g2;refine tr (id:=2) (g:=g1) (T:=130) (xs' :=eZ v) (R:= [.box g2 130 (eZ v)]) (fun D=> [if D 4 then .int .u8 v.kind else .int .u8 0,if D 4 then .int .i64 v.num else .int .i64 0,if D 4 then .string v.text else .string aB]) (by kernel_rfl) (by kernel_rfl) pK rfl (by intro D hD;simp [hD 4 (by decide),eZ]) ?_|refine sT ?_|refine sG ?_|refine sM fun _=>?_|refine sC ?_ ?_<;>intro hb<;>try omega|fail)
 all_goals ((refine nz ?_);rfl)
theorem QP (b:ByteArray) (hb:b.size≤1000000) (g:Nat) (w:World) (hr:Ro w g 0 [.string b]) (hW:Words w):aF Tryz.prog 219 [.pointer (some ⟨g,0,none⟩)] w (E6 (Ie b)):=by
 refine aA Tryz.func219 rfl Tryz.ntmps219 rfl ?_;unfold Ie;have hC:=fun (w' :World) (h:Words w')=>SJ b hb w' h;generalize jI b=x at hC;obtain ⟨c,e⟩:=x;repeat' (first|apply ai;exact rfl;apply aR (o:=0) (off:=0);exact hr;exact rfl;exact rfl|apply ag (f:=220);exact rfl;exact rfl;intro w' hm';exact hC w' (hW.next hm')|apply ag (f:=221);exact rfl;exact rfl;intro w' hm';exact pz c w'|refine sT ?_|refine sM fun _=>?_|refine sC ?_ ?_<;>intro hb<;>try omega|fail)
 all_goals ((refine nz ?_);simp_all [E6,eZ])
theorem QO (b:ByteArray) (hb:b.size≤1000000) (g:Nat) (w:World) (hr:Ro w g 0 [.string b]):aF Tryz.prog 222 [.pointer (some ⟨g,0,none⟩)] w (E6 (Lw b)):=by
 refine aA Tryz.func222 rfl Tryz.ntmps222 rfl ?_;unfold Lw;have hC:=fun (w' :World)=>wI b hb w';generalize jf (ap b)=x at hC;obtain ⟨n,e⟩:=x;repeat' (first|apply ai;exact rfl;apply aR (o:=0) (off:=0);exact hr;exact rfl;exact rfl|apply ag;exact rfl;exact rfl;intro w hm;exact hC w|apply ag (f:=221);exact rfl;exact rfl;intro w' hm';exact pz 3 w'|apply ag (f:=224);exact rfl;exact rfl;intro w' hm';exact SH n w'|refine sT ?_|refine sM fun _=>?_|refine sC ?_ ?_<;>intro hb<;>try omega|fail)
 all_goals ((refine nz ?_);simp_all [E6,eZ])
def KT:List Nat:= [215,216,217,219,222]
def xW:List (ByteArray→Vl × Bool):= [QU,QS,N7,Ie,Lw]
def gh (b:ByteArray):List (ByteArray→Vl × Bool)→Vl
 | []=>⟨3,0,b⟩
 |t::r=>if (t b).2 then (t b).1 else gh b r
def vN (b:ByteArray):Vl:=gh b xW
theorem Oa (b:ByteArray) (hb:b.size≤1000000) (g k:Nat) (hk:k<5): ∃ f t,xW.drop k=t::xW.drop (k+1)∧(KT.map fun f=>Value.func (.func f) #[] #[.pointer (some ⟨g,0,none⟩)])[k]? =some (.func (.func f) #[] #[.pointer (some ⟨g,0,none⟩)])∧Callable Tryz.prog f∧
 ∀ w,Ro w g 0 [.string b]→Words w→aF Tryz.prog f [.pointer (some ⟨g,0,none⟩)] w (E6 (t b)):=by
 rcases (by omega:k=0∨k=1∨k=2∨k=3∨k=4) with rfl|rfl|rfl|rfl|rfl
 ·exact ⟨_,_,rfl,rfl,inferInstance,fun w hr _=>QT b g w hr⟩
 ·exact ⟨_,_,rfl,rfl,inferInstance,fun w hr _=>QR b hb g w hr⟩
 ·exact ⟨_,_,rfl,rfl,inferInstance,fun w hr _=>QQ b hb g w hr⟩
 ·exact ⟨_,_,rfl,rfl,inferInstance,fun w hr hW=>QP b hb g w hr hW⟩
 ·exact ⟨_,_,rfl,rfl,inferInstance,fun w hr _=>QO b hb g w hr⟩
theorem Hl (b:ByteArray) (hb:b.size≤1000000) (w:World) (hW:Words w):aF Tryz.prog 160 [.string b] w (.agg (eZ (vN b)).toArray):=by
 refine aA Tryz.func160 rfl Tryz.ntmps160 rfl ?_;repeat' (first|refine zZB ?_|refine sM fun _=>?_|refine sC ?_ ?_<;>intro hb<;>try omega|fail)
 rename_i g1 g2 g3;refine ay [1,2,13,14] rfl (fun x:Nat × Vl=> [(4,.bool false),(15,.int .i64 (x.1:Int))]) (fun x=> [.own (some g3) 323 1 5 5 (KT.map fun f=>Value.func (.func f) #[] #[.pointer (some ⟨g1,0,none⟩)]),.box g2 130 (eZ x.2),.box g1 9 [.string b]]) (fun x=>x.1≤5∧vN b=gh b (xW.drop x.1)) (fun x=>5 - x.1) (0,bX) ⟨by omega,rfl⟩ sB mS ?_;rintro ⟨k,v⟩ ⟨hk,hkt⟩;dsimp only at hk hkt ⊢;by_cases hk5:k<5
 ·obtain ⟨f,t,r1,r2,r3,r4⟩:=Oa b hb g1 k hk5;rw [r1,gh] at hkt;obtain ⟨⟨v',is⟩,ht⟩: ∃ x,t b=x:=⟨_,rfl⟩;rw [ht] at hkt r4
  cases is with
  |true=>
   rw [if_pos rfl] at hkt;repeat' (first|apply ai;exact rfl;apply aa (j:=k);exact rfl;exact rfl;exact hk5|apply ai;exact rfl;apply aq (off:=0+k*1);exact rfl;exact pK;rw [VD,Wd];exact r2|apply jJ;exact rfl;exact rfl;exact r3;exact rfl;intro w' hm;exact r4 w' (Ro.of_box hm pK) (hW.next hm)|refine zZA ?_|refine sM fun _=>?_|refine sC ?_ ?_<;>intro hb<;>try omega|fail)
   all_goals (rw [hkt];refine eRC ?_;rfl)
  |false=>
   rw [if_neg (by simp)] at hkt;repeat' (first|apply ai;exact rfl;apply aa (j:=k);exact rfl;exact rfl;exact hk5|apply ai;exact rfl;apply aq (off:=0+k*1);exact rfl;exact pK;rw [VD,Wd];exact r2|apply jJ;exact rfl;exact rfl;exact r3;exact rfl;intro w' hm;exact r4 w' (Ro.of_box hm pK) (hW.next hm)|refine zZA ?_|refine sM fun _=>?_|refine sC ?_ ?_<;>intro hb<;>try omega|fail)
   refine ⟨(k+1,v'),?_,(by first|omega|dsimp only;omega),sB,sB,mS⟩;exact ⟨hk5,hkt⟩
 ·have e:k=5:=by omega
  subst e;have hkt:vN b=⟨3,0,b⟩:=hkt;rw [hkt];repeat' (first|refine zZA ?_|refine sM fun _=>?_|refine sC ?_ ?_<;>intro hb<;>try omega|fail)
  all_goals first|omega|(refine eRC ?_);rfl
def zN (b:ByteArray):Vl:=
 if b=aB then bX
 else if (ap b).headD 0=39 then ⟨3,0,mkB (ap b).tail⟩
 else if upB b=pQ∨upB b=ny then oM (decide (upB b=pQ))
 else if (jI b).2=0∧(jI b).1<6 then iV (jI b).1
 else if (jf (ap b)).2=0 then yY (jf (ap b)).1
 else if (jf (ap b)).2=3 then iV 3
 else ⟨3,0,b⟩
theorem MX {b:ByteArray} (hg:kL b=0):vN b=zN b:=by
 have hT:pQ≠ny:=by decide
 have h3:N7 b=if upB b=pQ then (oM true,true) else if upB b=ny then (oM false,true) else (iV 2,false):=by
  have hv:rT ⟨3,0,b⟩=0:=by simp [rT,xL,hg]
  simp only [N7,jW,hv,if_true,DA];split
  ·rfl
  ·split<;>rfl
 have h2:QS b=if (ap b).headD 0=39 then (⟨3,0,mkB (ap b).tail⟩,true) else (⟨3,0,b⟩,false):=by
  have hq:ap yz= [39]:=rfl;have hs:yz.size=1:=rfl;simp only [QS,mh,hq,hs]
  cases hi:ap b with
  |nil=>simp
  |cons c r=>
   simp only [WS,WP,List.cons.injEq,and_true,Xf,List.tail_cons];by_cases hc:c=39
   ·have hsz:b.size=(c::r).length:=by rw [← hi,az]
    have:sub b 1 b.size=mkB r:=by
     refine O2 ?_;rw [fK,hi,hsz];simp
    simp only [hc,if_true,this]
   ·simp only [hc,if_false]
 have hgen: ∀ (p:Prop) [Decidable p] (x y z:Vl),(if (if p then (x,true) else (y,false)).2=true then (if p then (x,true) else (y,false)).1 else z)=if p then x else z:=by
  intro p _ x y z;split<;>simp
 unfold vN xW gh gh gh gh gh gh zN;have e1:(QU b).2=decide (b=aB):=rfl;rw [e1,h2,h3];by_cases c1:b=aB
 ·simp [c1,QU]
 ·rw [if_neg (by simpa using c1),if_neg c1];by_cases c2:(ap b).headD 0=39
  ·simp only [c2,if_true]
  ·simp only [c2,if_false,V2];by_cases c3:upB b=pQ
   ·simp [c3]
   ·by_cases c4:upB b=ny
    ·simp [c4,hT.symm]
    ·simp only [c3,c4,if_false,or_self,V2];by_cases c5:(jI b).2=0∧(jI b).1<6
     ·have:(Ie b).2=true:=by simp only [Ie,c5.1,decide_true,Wp,decide_eq_true_eq];omega
      rw [if_pos this,if_pos c5];rfl
     ·have:(Ie b).2=false:=by
       simp only [Ie,Xp,decide_eq_false_iff_not];by_cases h:(jI b).2=0
       ·right;intro h';exact c5 ⟨h,by omega⟩
       ·left;exact h
      rw [if_neg (by simp [this]),if_neg c5];by_cases c6:(jf (ap b)).2=0
      ·simp [Lw,c6]
      ·by_cases c7:(jf (ap b)).2=3
       ·simp [Lw,c7]
       ·simp [Lw,c6,c7]
end Go.SL
namespace Go.SL
open Go Go.Proofs
attribute [local irreducible] W WL WQ WG WA WX WLI WR WT VOp thn blk bg scp aS bi FnAt FnIn
def pY:List (List Int→Option (Tk × Nat)):= [iw,pT,jm,mR,jG]
def pu (l:List Int):List (List Int→Option (Tk × Nat))→Option (Tk × Nat)
 | []=>none
 |r::rs=>match r l with
  |some x=>some x
  |none=>pu l rs
def eB (l:List Int):Option (Tk × Nat):=pu l pY
def bB (tk:List Int→Option (Tk × Nat)) (l:List Int):Nat→Nat→Except Nat (List Tk)
 |0,_=> .ok []
 |f+1,i=>
  match l.drop i with
  | []=> .ok []
  |c::_=>
   if c=32 then bB tk l f (i+1)
   else match tk (l.drop i) with
    |none=> .error i
    |some (t,n)=>(bB tk l f (i+n)).map fun r=>{ t with at_:=(i:Int) }::r
def Fits (l:List Int) (o:Option (Tk × Nat)):Prop:= ∀ t n,o=some (t,n)→0<n∧n≤l.length
theorem Fits.none {l:List Int}:Fits l none:=fun _ _ h=>by cases h
theorem Fits.some {l:List Int} {t:Tk} {n:Nat} (h1:0<n) (h2:n≤l.length):Fits l (some (t,n)):=fun _ _ h=>by cases h;exact ⟨h1,h2⟩
theorem oq {l:List Int} {c:Int} (h:l.headD 0=c) (hc:c≠0):0<l.length:=by
 cases l with
 |nil=>exact absurd h.symm hc
 |cons=>simp
theorem I1 (l:List Int):cI l=0∨cI l+1≤l.length:=by
 unfold cI;split
 ·right
  rename_i r;have:=cH aL r;simp;omega
 ·left;rfl
theorem wu (l:List Int):Fits l (iw l):=by
 unfold iw;dsimp only;have h1:=cH aL l;have h2:=I1 (l.drop (aK aL l));rw [VS] at h2;have h3:(if cI (l.drop (aK aL l))=0 then aK aL l else aK aL l+1+cI (l.drop (aK aL l)))≤l.length∧aK aL l≤(if cI (l.drop (aK aL l))=0 then aK aL l else aK aL l+1+cI (l.drop (aK aL l))):=by
  split<;>omega
 generalize (if cI (l.drop (aK aL l))=0 then aK aL l else aK aL l+1+cI (l.drop (aK aL l)))=m at h3 ⊢;split
 ·exact .none
 ·rename_i h;split
  ·exact .none
  ·exact .some (by omega) (by omega)
theorem rf: ∀ (n:Nat) (l:List Int) (k:Nat),l.length≤n→du l=some k→k<l.length
 |_,[],_,_,h=>by simp [du] at h
 |0,c::r,_,hn,_=>by simp at hn
 |n+1,c::r,k,hn,h=>by
  by_cases hc:c=34
  ·subst hc
   cases r with
   |nil=>simp [du] at h;subst h;simp
   |cons d r' =>
    by_cases hd:d=34
    ·subst hd;simp only [du,ne_eq,not_true_eq_false,if_false,if_true,Ws] at h;obtain ⟨j,hj,rfl⟩:=h;have:=rf n r' j (by simp at hn;omega) hj;simp;omega
    ·simp [du,hd] at h;subst h;simp
  ·rw [mV hc,Ws] at h;obtain ⟨j,hj,rfl⟩:=h;have:=rf n r j (by simp at hn;omega) hj;simp;omega
theorem LD (l:List Int):Fits l (pT l):=by
 unfold pT;split
 ·exact .none
 ·rename_i h;have h0:=oq (c:=34) (Decidable.not_not.1 h) (by decide);split
  ·exact .none
  ·rename_i k hk;have:=rf _ _ k (VA _) hk;rw [VS] at this;split
   ·exact .none
   ·exact .some (by omega) (by omega)
theorem Be (l:List Int):Fits l (jm l):=by
 have h1:=cH dI l;have h2:=cH dI (l.drop (aK dI l+1));rw [VS] at h2;have hpos:cz (l.headD 0)≠false→0<aK dI l:=fun h=>by
  cases l with
  |nil=>exact absurd rfl h
  |cons c r=>
   have:cz c=true:=by simpa using h
   simp [aK,dI,this]
 unfold jm;split
 ·exact .none
 ·rename_i h;have hp:=hpos h;split
  ·exact .some hp h1
  ·split
   ·exact .some hp h1
   ·split
    ·exact .some hp h1
    ·split
     ·exact .none
     ·split
      ·rename_i hq;have:=oq hq.1 (by decide);rw [VS] at this;exact .some (by omega) (by omega)
      ·exact .some hp h1
theorem zu (l:List Int): ∀ (ns:List (List Int)) (c k:Int) (n:Nat),(∀ s∈ns,s≠ [])→mg l ns c=some (k,n)→0<n∧n≤l.length
 | [],_,_,_,_,h=>by cases h
 |s::r,c,k,n,hs,h=>by
  rw [mg] at h;split at h
  ·rename_i he;cases h;have:=congrArg List.length he;rw [VK,VQ] at this;have:=XR.2 (hs s Vr);omega
  ·exact zu l r _ k n (fun s hs' =>hs s (Vv _ hs')) h
theorem Co (l:List Int):Fits l (mR l):=by
 intro t n h;unfold mR at h;rw [Ws] at h;obtain ⟨⟨c,m⟩,h1,h2⟩:=h;cases h2;exact zu l fw 1 c _ (by decide) h1
theorem Gd (l:List Int): ∀ (ns:List (List Int × Int)) (k:Int) (n:Nat),(∀ s∈ns,s.1≠ [])→opL l ns=some (k,n)→0<n∧n≤l.length
 | [],_,_,_,h=>by cases h
 |(s,c)::r,k,n,hs,h=>by
  rw [opL] at h;split at h
  ·rename_i he;cases h;have:=congrArg List.length he;rw [VQ] at this;have:=XR.2 (hs _ Vr);dsimp only at this;omega
  ·exact Gd l r k n (fun s hs' =>hs s (Vv _ hs')) h
theorem BC (l:List Int):Fits l (jG l):=by
 unfold jG;split
 ·rename_i k n h;have:=Gd l gI k n (by decide) h;exact .some this.1 this.2
 ·split
  ·exact .some (by omega) (oq (by assumption) (by decide))
  ·split
   ·exact .some (by omega) (oq (by assumption) (by decide))
   ·split
    ·exact .some (by omega) (oq (by assumption) (by decide))
    ·exact .none
theorem zq (l:List Int): ∀ rs:List (List Int→Option (Tk × Nat)),(∀ r∈rs,Fits l (r l))→Fits l (pu l rs)
 | [],_=> .none
 |r::rs,h=>by
  unfold pu;split
  ·rename_i x hx;exact hx ▸ h r Vr
  ·exact zq l rs fun r hr=>h r (Vv _ hr)
theorem LO (l:List Int): ∀ r∈pY,Fits l (r l):=by
 intro r hr;simp only [pY,VN,XJ,or_false] at hr;rcases hr with rfl|rfl|rfl|rfl|rfl
 ·exact wu l
 ·exact LD l
 ·exact Be l
 ·exact Co l
 ·exact BC l
theorem xY (l:List Int):Fits l (eB l):=zq l _ (LO l)
theorem tA {tk:List Int→Option (Tk × Nat)} {l:List Int} (ht: ∀ m,Fits m (tk m)): ∀ (b d f i:Nat),d≤b→l.length - i=d→d≤f→bB tk l f i=bB tk l d i:=by
 intro b
 induction b with
 |zero=>
  intro d f i hb hd hf;have:d=0:=by omega
  subst this
  cases f with
  |zero=>rfl
  |succ f=>
   simp only [bB];rw [VY (by omega)]
 |succ b ih=>
  intro d f i hb hd hf
  cases d with
  |zero=>
   cases f with
   |zero=>rfl
   |succ f=>
    simp only [bB];rw [VY (by omega)]
  |succ m=>
   obtain ⟨g,rfl⟩: ∃ g,f=g+1:=⟨f - 1,by omega⟩;simp only [bB];have hi:i<l.length:=by omega
   rw [Vy hi];dsimp only;split
   ·exact ih m g (i+1) (by omega) (by omega) (by omega)
   ·split
    ·rfl
    ·rename_i t n hn;have:=ht _ t n hn;rw [ih (l.length - (i+n)) g (i+n) (by omega) rfl (by omega),ih (l.length - (i+n)) m (i+n) (by omega) rfl (by omega)]
def bG (tk:List Int→Option (Tk × Nat)) (l:List Int):List Tk × Int × Int:=
 if 256<l.length then ([],0,5)
 else match l.findIdx? (fun c=> !bR c) with
  |some i=>([],(i:Int),4)
  |none=>match bB tk l l.length 0 with
   | .ok r=>(r,0,0)
   | .error i=>([],(i:Int),4)
def Ki (A:Option Nat) (cap:Nat) (r:List Tk × Int × Int):Value:= .tuple #[sl A r.1.length cap,.int .i64 r.2.1,.int .i64 r.2.2]
def Iy:List Nat:= [295,296,297,298,299]
theorem Rp (a:ByteArray) (ha:a.size≤10000) (i:Nat) (hi:i<a.size) (g:Nat) (k:Nat) (hk:k<5):
 ∃ f r,pY.drop k=r::pY.drop (k+1)∧(Iy.map fun f=>Value.func (.func f) #[.pointer (some ⟨g,0,none⟩)] #[])[k]? =some (.func (.func f) #[.pointer (some ⟨g,0,none⟩)] #[])∧Callable Tryz.prog f∧
  ∀ w,Ro w g 0 [.string a]→Words w→aF Tryz.prog f [.pointer (some ⟨g,0,none⟩),.int .i64 (i:Int)] w (Ij (atT i (r ((ap a).drop i)))):=by
 rcases (by omega:k=0∨k=1∨k=2∨k=3∨k=4) with rfl|rfl|rfl|rfl|rfl
 ·exact ⟨_,_,rfl,rfl,inferInstance,fun w hr _=>Mp a (by omega) i (by omega) g w hr⟩
 ·exact ⟨_,_,rfl,rfl,inferInstance,fun w hr _=>QV a (by omega) i hi g w hr⟩
 ·exact ⟨_,_,rfl,rfl,inferInstance,fun w hr _=>Qr a ha i hi g w hr⟩
 ·exact ⟨_,_,rfl,rfl,inferInstance,fun w hr hW=>Sc a (by omega) i (by omega) g w hr hW⟩
 ·exact ⟨_,_,rfl,rfl,inferInstance,fun w hr _=>Rd a (by omega) i hi g w hr⟩
theorem qu {a:ByteArray} {q:Int→Bool} {i:Nat} (h:i<a.size) (hq:q (bat a i)=true) (hno: ∀ j,j<i→q (bat a j)=false):(ap a).findIdx? q=some i:=by
 rw [V4];have hl:=az a;have hg: ∀ j (hj:j<(ap a).length),(ap a)[j]=bat a j:=fun j hj=>by
  have:=iZ (a:=a) (i:=j) (by omega);rw [Vo hj] at this;exact Option.some.inj this
 refine ⟨by omega,by rw [hg];exact hq,fun j hj=> ?_⟩;rw [hg,hno j hj];simp
theorem oZ {a:ByteArray} {q:Int→Bool} (hno: ∀ j,j<a.size→q (bat a j)=false):(ap a).findIdx? q=none:=by
 rw [Wm];intro x hx;obtain ⟨j,hj,rfl⟩:=WJ hx;have hl:=az a;have:=iZ (a:=a) (i:=j) (by omega);rw [Vo hj] at this;rw [Option.some.inj this];exact hno j (by omega)
theorem Ni (a:ByteArray) (w:World) (hW:Words w):
 FnAt Tryz.prog 225 [.string a] w fun v H=> ∃ A cap,v=Ki A cap (bG eB (ap a))∧H= [.own A 339 8 (bG eB (ap a)).1.length cap ((bG eB (ap a)).1.flatMap bw)]:=by
 refine aA Tryz.func225 rfl Tryz.ntmps225 rfl ?_;have hl:=az a;unfold bG;refine aI 339 8 ?_;by_cases hlen:256<(ap a).length
 ·rw [if_pos hlen];repeat' (first|refine zZF ?_|refine sM fun _=>?_|refine sC ?_ ?_<;>intro hb<;>try omega|fail)
  all_goals try omega
  exact sj (.inl rfl) rfl rfl rfl rfl (.refl _) ⟨none,0,rfl,rfl⟩
 ·rw [if_neg hlen];repeat' (first|refine zZF ?_|refine sM fun _=>?_|refine sC ?_ ?_<;>intro hb<;>try omega|fail)
  all_goals try omega
  refine ay [0,2,17] rfl (fun i:Nat=> [(18,.int .i64 (i:Int))]) (fun _=> [.own none 339 8 0 0 []]) (fun i=>i≤a.size∧ ∀ j,j<i→bR (bat a j)=true) (fun i=>a.size - i) 0 ⟨by omega,fun j h=>by omega⟩ sB mS ?_;rintro i ⟨hi,hpl⟩;by_cases hlt:i<a.size
  ·repeat' first|refine zZC ?_|refine sM fun _=>?_|refine sC ?_ ?_<;>intro hb<;>try omega|fail
   ·have hf:(ap a).findIdx? (fun c=> !bR c)=some i:=by
     refine qu hlt ?_ fun j hj=>by rw [hpl j hj];rfl
     simp only [bR,XO,Xp,decide_eq_false_iff_not];omega
    rw [hf];exact sj (.inl rfl) rfl rfl rfl rfl (.refl _) ⟨none,0,rfl,rfl⟩
   ·have hf:(ap a).findIdx? (fun c=> !bR c)=some i:=by
     refine qu hlt ?_ fun j hj=>by rw [hpl j hj];rfl
     simp only [bR,XO,Xp,decide_eq_false_iff_not];omega
    rw [hf];exact sj (.inl rfl) rfl rfl rfl rfl (.refl _) ⟨none,0,rfl,rfl⟩
   ·refine ⟨i+1,?_,(by first|omega|dsimp only;omega),sB,sB,mS⟩;refine ⟨hlt,fun j hj=> ?_⟩;rcases (by omega:j<i∨j=i) with h|rfl
    ·exact hpl j h
    ·rename_i h1;simp only [bR,VP,decide_eq_true_eq];omega
  ·have e:i=a.size:=by omega
   subst e;have hf:(ap a).findIdx? (fun c=> !bR c)=none:=oZ fun j hj=>by rw [hpl j hj];rfl
   rw [hf];dsimp only;repeat' (first|apply ai;exact rfl;apply oK;exact rfl|apply xC;(iterate 6 exact rfl)|refine zZC ?_|refine sM fun _=>?_|refine sC ?_ ?_<;>intro hb<;>try omega|fail)
   all_goals try omega
   rename_i g6 g7;generalize hT:bB eB (ap a) (ap a).length 0=T
   refine ay [0,6,7] rfl (fun x:Nat × List Tk × Option Nat × Nat=> [(2,sl x.2.2.1 x.2.1.length x.2.2.2),(8,.int .i64 (x.1:Int))]) (fun x=> [.own x.2.2.1 339 8 x.2.1.length x.2.2.2 (x.2.1.flatMap bw),.box g7 405 (Iy.map fun f=>Value.func (.func f) #[.pointer (some ⟨g6,0,none⟩)] #[]),.box g6 403 [.string a]])
    (fun x=>x.1≤a.size∧x.2.1.length≤x.1∧T=(bB eB (ap a) (a.size - x.1) x.1).map (x.2.1++ ·)) (fun x=>a.size - x.1) (0,[],none,0) ⟨by omega,by simp,by rw [← hT,hl];cases bB eB (ap a) a.size 0<;>rfl⟩ sB mS ?_
   rintro ⟨i,toks,A,cap⟩ ⟨hi2,hi3,hi4⟩;dsimp only at hi2 hi3 hi4 ⊢;by_cases hlt2:i<a.size
   ·obtain ⟨f,hf1⟩: ∃ f,a.size - i=f+1:=⟨a.size - i - 1,by omega⟩;rw [hf1] at hi4;simp only [bB] at hi4;have hdr:=bA hlt2;generalize hld:(ap a).drop i=ld at hi4 hdr;rw [hdr] at hi4;dsimp only at hi4;by_cases h32:bat a i=32
    ·rw [if_pos h32] at hi4;repeat' (first|refine zZC ?_|refine sM fun _=>?_|refine sC ?_ ?_<;>intro hb<;>try omega|fail)
     all_goals try omega
     refine ⟨(i+1,toks,A,cap),?_,(by first|omega|dsimp only;omega),sB,sB,mS⟩;exact ⟨hlt2,by dsimp only;omega,by dsimp only;rw [show a.size - (i+1)=f by omega];exact hi4⟩
    ·rw [if_neg h32,← hdr] at hi4;repeat' (first|refine zZC ?_|refine sM fun _=>?_|refine sC ?_ ?_<;>intro hb<;>try omega|fail)
     all_goals try omega
     have hldl:ld.length=a.size - i:=by rw [← hld,VS,hl]
     refine ay [0,2,6,7,8,57] rfl (fun k:Nat=> [(58,.int .i64 (k:Int))]) (fun _=> [.own A 339 8 toks.length cap (toks.flatMap bw),.box g7 405 (Iy.map fun f=>Value.func (.func f) #[.pointer (some ⟨g6,0,none⟩)] #[]),.box g6 403 [.string a]]) (fun k=>k≤5∧eB ld=pu ld (pY.drop k)) (fun k=>5 - k) 0 ⟨by omega,rfl⟩ sB mS ?_;rintro k ⟨hk,hkt⟩;by_cases hk5:k<5
     ·obtain ⟨f2,r,r1,r2,r3,r4⟩:=Rp a (by omega) i hlt2 g6 k hk5;rw [hld] at r4;rw [r1,pu] at hkt
      cases ho:r ld with
      |none=>
       rw [ho] at hkt r4;dsimp only at hkt;repeat' (first|apply ai;exact rfl;apply pN;exact rfl;exact rfl;exact hk5;exact r2|apply uM;exact rfl;exact rfl;exact r3;exact rfl;intro w' hm;exact r4 w' (Ro.of_box hm pK) (hW.next hm)|refine zZC ?_|refine sM fun _=>?_|refine sC ?_ ?_<;>intro hb<;>try omega|fail)
       all_goals try omega
       refine ⟨k+1,?_,(by first|omega|dsimp only;omega),sB,sB,mS⟩;exact ⟨hk5,hkt⟩
      |some x=>
       obtain ⟨t,m⟩:=x;rw [ho] at hkt r4;dsimp only at hkt;have hfit:=xY ld t m hkt;rw [hkt] at hi4;dsimp only at hi4;have hm0:0<m:=hfit.1;repeat' (first|apply ai;exact rfl;apply pN;exact rfl;exact rfl;exact hk5;exact r2|apply uM;exact rfl;exact rfl;exact r3;exact rfl;intro w' hm;exact r4 w' (Ro.of_box hm pK) (hW.next hm)|apply aG;(iterate 3 exact rfl);exact pK;exact pK;exact rfl;simp [bw,Value.oneCell'];omega;simp only [maxLen];omega;intro g8 c8|refine zZC ?_|refine sM fun _=>?_|refine sC ?_ ?_<;>intro hb<;>try omega|fail)
       all_goals try omega
       refine ⟨(i+m,toks++ [{ t with at_:=(i:Int) }],some g8,c8),⟨by dsimp only;omega,by simp;omega,?_⟩,(by dsimp only;omega),?_,sB,?_⟩
       ·dsimp only;rw [hi4,tA xY f (a.size - (i+m)) f (i+m) (by omega) (by omega) (by omega)];cases bB eB (ap a) (a.size - (i+m)) (i+m)<;>simp [Except.map]
       ·simp only [Vn,Vs];exact sB
       ·simp only [Vn,Vs,VF,VE,VZ,VB];exact mS
     ·have e:k=5:=by omega
      subst e;rw [show pu ld (pY.drop 5)=none from rfl] at hkt;rw [hkt] at hi4;dsimp only [Except.map] at hi4;rw [hi4];refine aI 339 8 ?_;repeat' (first|refine zZC ?_|refine sM fun _=>?_|refine sC ?_ ?_<;>intro hb<;>try omega|fail)
      all_goals try omega
      exact sj (.inl rfl) rfl rfl rfl rfl (H' := [.own none 339 8 0 0 []]) mS ⟨none,0,rfl,rfl⟩
   ·have e:i=a.size:=by omega
    subst e;rw [show a.size - a.size=0 by omega] at hi4;simp only [bB,Except.map,VB] at hi4;rw [hi4];repeat' (first|refine zZC ?_|refine sM fun _=>?_|refine sC ?_ ?_<;>intro hb<;>try omega|fail)
    all_goals try omega
    exact sj (.inl rfl) rfl rfl rfl rfl (H' := [.own A 339 8 toks.length cap (toks.flatMap bw)]) mS ⟨A,cap,rfl,rfl⟩
end Go.SL

/-
  Lemmas and walks, put together: B3 B4 D1 Lc B5 C7 Lq D2 Oq.
-/
import Derived.Test.YtoanpdoacdpgeaaGreatDoorKo13
import Derived.Test.YtoanpdoacdpgeaaGreatDoorKo14
set_option linter.unusedSimpArgs false
set_option linter.unusedVariables false
set_option maxRecDepth 20000
namespace Go.SL
open Go Go.Proofs
attribute [local irreducible] W WL WQ WG WA WX WLI WR WT VOp thn blk bp scp aR bE aF FnIn
theorem NG {l m:List Int} (hl:iC l) (hm:iC m):mkB l=mkB m↔l=m:=⟨fun h=>by rw [← oh hl,← oh hm,h],fun h=>by rw [h]⟩
theorem pU (a b:ByteArray) (w:World):aA Tryz.prog 212 [.string a,.string b] w (.bool (decide ((ap a).take b.size=ap b))):=by
 refine aq Tryz.func212 rfl Tryz.ntmps212 rfl ?_
 have ha:=au a
 have hb' :=au b
 have e: ∀ h:b.size≤a.size,decide (sub a 0 b.size=b)=decide ((ap a).take b.size=ap b):=fun h=>by
  rw [decide_eq_decide,← uU]
  exact ⟨fun h=>by rw [h],fun h=>wU h⟩
 repeat' (first|refine sT ?_|refine sT2 ?_|refine sM fun _=> ?_|(refine sC ?_ ?_<;>intro hb<;>try omega)|fail)
 ·
  rw [e (by omega)]
  (refine rT1 ?_)
  rfl
 ·
  (refine rT1 ?_)
  rw [decide_eq_false]
  intro h
  have:=congrArg List.length h
  rw [RF] at this
  omega
theorem AO (a b:ByteArray) (w:World):aA Tryz.prog 271 [.string a,.string b] w (.bool (decide ((ap a).take b.size=ap b))):=by
 refine aq Tryz.func271 rfl Tryz.ntmps271 rfl ?_
 repeat' (first|(apply aa;exact rfl;exact rfl;(intro w hm;exact pU a b w))|refine sT ?_|refine sM fun _=> ?_|(refine sC ?_ ?_<;>intro hb<;>try omega)|fail)
 (refine rT1 ?_)
 rfl
theorem wP (c:Int) (w:World):aA Tryz.prog 268 [.int .i64 c] w (.bool (decide (1≤c) && decide (c≤5))):=by
 refine aq Tryz.func268 rfl Tryz.ntmps268 rfl ?_
 repeat' (first|refine sT ?_|refine sM fun _=> ?_|(refine sC ?_ ?_<;>intro hb<;>try omega)|fail)
 all_goals ((refine rT1 ?_);simp_all<;>omega)
theorem AW {k:Nat} (h1:1≤k) (h2:k≤5): ∃ s,dV.drop (k - 1)=s::dV.drop k∧cH.getD k av=mkB s∧iC s∧s.length≤10:=by
 rcases (by omega:k=1∨k=2∨k=3∨k=4∨k=5) with rfl|rfl|rfl|rfl|rfl<;>refine ⟨_,rfl,rfl,?_,by decide⟩<;>(intro c hc;simp at hc;omega)
theorem nU (l:List Int):(mkB l).size=l.length:=by simp [mkB,ByteArray.size]
def kW (l:List Int):Option (Tk × Nat):=(kA l dV 1).map fun x=>(⟨4,x.1,av,aN,0⟩,x.2)
set_option maxHeartbeats 1000000 in
theorem NW (a:ByteArray) (ha:a.size≤100000) (i:Nat) (hi:i≤a.size) (g:Nat) (w:World) (hr:Ro w g 0 [.string a]) (hW:Words w):
  aA Tryz.prog 224 [.pointer (some ⟨g,0,none⟩),.int .i64 (i:Int)] w (EY (atT i (kW ((ap a).drop i)))):=by
 refine aq Tryz.func224 rfl Tryz.ntmps224 rfl ?_
 have hl:=au a
 unfold kW
 generalize hF:kA ((ap a).drop i) dV 1=F
 repeat' (first|refine sT ?_|refine sT2 ?_|refine sM fun _=> ?_|(refine sC ?_ ?_<;>intro hb<;>try omega)|fail)
 rename_i g4
 refine aw [0,1,4,5] rfl (fun k:Nat=> [(6,.int .i64 (k:Int))]) (fun _=> [.box g4 228 (bi dl)]) (fun k=>1≤k∧k≤6∧F=kA ((ap a).drop i) (dV.drop (k - 1)) k) (fun k=>6 - k) 1 ⟨by omega,by omega,hF.symm⟩ sB mS ?_
 rintro k ⟨hk1,hk2,hk3⟩
 by_cases hk:k≤5
 ·
  obtain ⟨s,e1,e2,e3,e4⟩:=AW hk1 hk
  have e5:gH (k:Int)=⟨4,(k:Int),av⟩:=by rw [gH,if_neg (by omega)]
  have hFa:=mT (k:Int)
  rw [e5] at hFa
  have hSh:=fun w' h=>Ot (k:Int) (by omega) (by omega) w' h
  rw [TB,e2] at hSh
  rw [e1,kA] at hk3
  have hlit:(decide (1≤(k:Int)) && decide ((k:Int)≤5))=true:=by simp;omega
  have hL:=wP (k:Int)
  rw [hlit] at hL
  have hms:=nU s
  have hcut:ap (sub a i (i+s.length))=((ap a).drop i).take s.length:=by rw [eM,show i+s.length - i=s.length by omega]
  have hU:=fun h=>si (sub a i (i+s.length)) h
  have hdec:upB (sub a i (i+s.length))=mkB s↔(((ap a).drop i).take s.length).map upC=s:=by
   rw [upB,hcut,NG _ e3]
   rw [← hcut,← rG]
   exact mM _
  rw [← hms] at hU hdec hk3
  repeat' (first|(apply ak;exact rfl;apply aL (o:=0) (off:=0);exact hr;exact rfl;exact rfl)|(apply aa;exact rfl;exact rfl;(intro w hm;exact hL w))|(apply aa;exact rfl;exact rfl;(intro w hm;exact hFa w))|(apply aa;exact rfl;exact rfl;(intro w' hm;exact hSh w' (hW.next hm)))|(apply aa;exact rfl;exact rfl;(intro w hm;exact hU (by rw [cw _ (by omega)];omega) w))|refine sT ?_|refine sT2 ?_|refine sN ?_|refine sM fun _=> ?_|(refine sC ?_ ?_<;>intro hb<;>try omega)|fail)
  ·
   (refine jb ?_)
   rw [hk3,if_pos (hdec.1 hb)]
   rfl
  ·
   refine ⟨k+1,?_,(by first|omega|(dsimp only;omega)),sB,sB,mS⟩
   refine ⟨by omega,by omega,?_⟩
   rw [hk3,if_neg fun h=>hb (hdec.2 h)]
   rfl
  ·
   refine ⟨k+1,?_,(by first|omega|(dsimp only;omega)),sB,sB,mS⟩
   refine ⟨by omega,by omega,?_⟩
   rw [hk3,if_neg]
   ·
    rfl
   ·
    intro h
    have:=congrArg List.length h
    rw [RP,RF,RC] at this
    omega
 ·
  have e:k=6:=by omega
  subst e
  rw [show dV.drop (6 - 1)= [] from rfl,kA] at hk3
  rw [hk3]
  have hL:=wP 6
  rw [show (decide (1≤(6:Int)) && decide ((6:Int)≤5))=false from rfl] at hL
  repeat' (first|(apply aa;exact rfl;exact rfl;(intro w hm;exact hL w))|refine sT ?_|refine sT2 ?_|refine sM fun _=> ?_|(refine sC ?_ ?_<;>intro hb<;>try omega)|fail)
  all_goals try (exfalso;omega)
  (refine jb ?_)
  rfl
def Hx:List Value:=fu.map fun x=> .string (mkB x.1)
def Hy:List Value:=fu.map fun x=> .int .i64 x.2
theorem Aw (w:World):aF Tryz.prog 270 [] w fun v H=> ∃ g g',v= .tuple #[sl (some g) 13 13,sl (some g') 13 13]∧H= [.own (some g) 9 1 13 13 Hx,.own (some g') 2 1 13 13 Hy]:=by
 refine aq Tryz.func270 rfl Tryz.ntmps270 rfl ?_
 repeat' (first|refine sT ?_|refine sM fun _=> ?_|(refine sC ?_ ?_<;>intro hb<;>try omega)|fail)
 rename_i g g'
 refine dS (.inl rfl) rfl rfl rfl (H' := [.own (some g) 9 1 13 13 Hx,.own (some g') 2 1 13 13 Hy]) ?_ ⟨g,g',rfl,rfl⟩
 exact mS
theorem PA {k:Nat} (h:k<13): ∃ s n,fu.drop k=(s,n)::fu.drop (k+1)∧Hx[k]? =some (.string (mkB s))∧Hy[k]? =some (.int .i64 n)∧iC s∧s.length≤2:=by
 rcases (by omega:k=0∨k=1∨k=2∨k=3∨k=4∨k=5∨k=6∨k=7∨k=8∨k=9∨k=10∨k=11∨k=12) with rfl|rfl|rfl|rfl|rfl|rfl|rfl|rfl|rfl|rfl|rfl|rfl|rfl<;>refine ⟨_,_,rfl,rfl,rfl,?_,by decide⟩<;>(intro c hc;simp at hc;omega)
def iI (l:List Int):Option (Tk × Nat):=
 match opL l fu with
 |some (k,n)=>some (⟨8,k,av,aN,0⟩,n)
 |none=>if l.headD 0=40 then some (⟨9,0,av,aN,0⟩,1) else if l.headD 0=41 then some (⟨10,0,av,aN,0⟩,1) else if l.headD 0=44 then some (⟨11,0,av,aN,0⟩,1) else none
set_option maxHeartbeats 1000000 in
theorem Ns (a:ByteArray) (ha:a.size≤100000) (i:Nat) (hi:i<a.size) (g:Nat) (w:World) (hr:Ro w g 0 [.string a]):
  aA Tryz.prog 225 [.pointer (some ⟨g,0,none⟩),.int .i64 (i:Int)] w (EY (atT i (iI ((ap a).drop i)))):=by
 refine aq Tryz.func225 rfl Tryz.ntmps225 rfl ?_
 have hl:=au a
 unfold iI
 rw [l4]
 generalize hF:opL ((ap a).drop i) fu=F
 repeat' (first|(apply ay;exact rfl;exact rfl;(intro w' hm;exact Aw w');(rintro v H' ⟨gs,gn,rfl,rfl⟩))|refine sT ?_|refine sT2 ?_|refine sM fun _=> ?_|(refine sC ?_ ?_<;>intro hb<;>try omega)|fail)
 rename_i g4
 refine aw [0,1,4,5,7,14,15] rfl (fun k:Nat=> [(16,.int .i64 (k:Int))]) (fun _=> [.box g4 228 (bi dl),.own (some gs) 9 1 13 13 Hx,.own (some gn) 2 1 13 13 Hy]) (fun k=>k≤13∧F=opL ((ap a).drop i) (fu.drop k)) (fun k=>13 - k) 0 ⟨by omega,hF.symm⟩ sB mS ?_
 rintro k ⟨hk2,hk3⟩
 by_cases hk:k<13
 ·
  obtain ⟨s,m,e1,e2,e3,e4,e5⟩:=PA hk
  rw [e1,opL] at hk3
  have hms:=nU s
  have hP:=AO (sub a i a.size) (mkB s)
  rw [o7,oh e4,hms] at hP
  repeat' (first|(apply ak;exact rfl;apply aL (o:=0) (off:=0);exact hr;exact rfl;exact rfl)|(apply aa;exact rfl;exact rfl;(intro w hm;exact hP w))|(apply ak;exact rfl;apply aj (j:=k);exact rfl;exact rfl;exact hk)|(apply ak;exact rfl;apply aV;exact rfl;exact pK;(rw [show 0+k*1=k by omega];first|exact e2|exact e3))|refine sT ?_|refine sT2 ?_|refine sN ?_|refine sM fun _=> ?_|(refine sC ?_ ?_<;>intro hb<;>try omega)|fail)
  ·
   (refine jb ?_)
   rw [hk3,if_pos hb,hms]
   rfl
  ·
   refine ⟨k+1,?_,(by first|omega|(dsimp only;omega)),sB,sB,mS⟩
   exact ⟨hk,by rw [hk3,if_neg hb]⟩
 ·
  have e:k=13:=by omega
  subst e
  rw [show fu.drop 13= [] from rfl,opL] at hk3
  subst hk3
  repeat' (first|(apply ak;exact rfl;apply aL (o:=0) (off:=0);exact hr;exact rfl;exact rfl)|refine sT ?_|refine sT2 ?_|refine sN ?_|refine sM fun _=> ?_|(refine sC ?_ ?_<;>intro hb<;>try omega)|fail)
  all_goals try (exfalso;omega)
  all_goals
   (refine jb ?_)
   simp_all
   try rfl
def gZ (l:List Int):Option (Tk × Nat):=
 if bT (l.headD 0)=false then none
 else if (l.drop (aD cV l)).headD 0=40 then some (⟨7,0,mkB (upW l),aN,0⟩,aD cV l)
 else if mkB (upW l)=nn then some (⟨3,1,av,aN,0⟩,aD cV l)
 else if mkB (upW l)=lu then some (⟨3,0,av,aN,0⟩,aD cV l)
 else if (cy (upW l)).2.2≠0 then none
 else if (l.drop (aD cV l)).headD 0=58∧bT ((l.drop (aD cV l+1)).headD 0)=true∧(cy (upW (l.drop (aD cV l+1)))).2.2=0∧(l.drop (aD cV l+1+aD cV (l.drop (aD cV l+1)))).headD 0≠40 then
  some (⟨if (cy (upW l)).1=(cy (upW (l.drop (aD cV l+1)))).1∧(cy (upW l)).2.1=(cy (upW (l.drop (aD cV l+1)))).2.1 then 5 else 6,0,av,
   ⟨min (cy (upW l)).1 (cy (upW (l.drop (aD cV l+1)))).1,min (cy (upW l)).2.1 (cy (upW (l.drop (aD cV l+1)))).2.1,max (cy (upW l)).1 (cy (upW (l.drop (aD cV l+1)))).1,max (cy (upW l)).2.1 (cy (upW (l.drop (aD cV l+1)))).2.1⟩,0⟩,aD cV l+1+aD cV (l.drop (aD cV l+1)))
 else some (⟨5,0,av,CZ (cy (upW l)).1 (cy (upW l)).2.1,0⟩,aD cV l)
theorem fZ (a b:Int):(if b<a then b else a)=min a b:=by omega
theorem f4 (a b:Int):(if a<b then b else a)=max a b:=by omega
theorem Eb (l:List Int) (hl:iC l) (hlen:l.length≤100000) (w:World):aA Tryz.prog 266 [.string (mkB l)] w (.tuple #[.agg (aS ⟨(cy l).1,(cy l).2.1⟩).toArray,.int .i64 (cy l).2.2]):=by
 have h:=Bf (mkB l) (by rw [nU];exact hlen) w
 rw [oh hl,Mv] at h
 exact h
set_option maxHeartbeats 2000000 in
theorem MK (a:ByteArray) (ha:a.size≤10000) (i:Nat) (hi:i<a.size) (g:Nat) (w:World) (hr:Ro w g 0 [.string a]):
  aA Tryz.prog 223 [.pointer (some ⟨g,0,none⟩),.int .i64 (i:Int)] w (EY (atT i (gZ ((ap a).drop i)))):=by
 refine aq Tryz.func223 rfl Tryz.ntmps223 rfl ?_
 have hl:=au a
 have hP1:=fun w' h=>CQ a (by omega) i (by omega) g w' h
 have hwl:=bY cV ((ap a).drop i)
 have hul:=vM ((ap a).drop i)
 have huk:iC (upW ((ap a).drop i)):=KF fun c hc=>mM a c (Th hc)
 rw [RC] at hwl
 have hW:gZ ((ap a).drop i)=gZ ((ap a).drop i):=rfl
 unfold gZ at hW ⊢
 clear hW
 rw [l4]
 simp only [SH]
 generalize hn:aD cV ((ap a).drop i)=n at*
 generalize hu:upW ((ap a).drop i)=u at*
 rw [l4]
 have hus:(mkB u).size=n:=by rw [nU,hul]
 have hA1:=Eb u huk (by omega)
 generalize hau:cy u=A1 at hA1
 obtain ⟨c1,r1,e1⟩:=A1
 dsimp only at hA1 ⊢
 have hN1:=fun w' h=>AB a (by omega) (i+n) g w' h
 have hN2:=fun w' h=>AB a (by omega) (i+n+1) g w' h
 have hb1l:bat a (i+n)≠0→i+n<a.size:=fun h=>by
  rcases SY (i+n) a.size with h1|h1
  ·
   exact h1
  ·
   exfalso;apply h;rw [bat,RD,SB (by omega)];rfl
 generalize hb1:bat a (i+n)=b1 at hN1 hb1l
 rw [show i+(n+1)=i+n+1 by omega]
 have hvl:=vM ((ap a).drop (i+n+1))
 have hvk:iC (upW ((ap a).drop (i+n+1))):=KF fun c hc=>mM a c (Th hc)
 have hvr:=bY cV ((ap a).drop (i+n+1))
 rw [RC] at hvr
 have hP2:=fun w' hi h=>CQ a (by omega) (i+n+1) hi g w' h
 generalize hm:aD cV ((ap a).drop (i+n+1))=m at*
 generalize hv:upW ((ap a).drop (i+n+1))=v at*
 rw [l4,l4]
 have hvs:(mkB v).size=m:=by rw [nU,hvl]
 have hA2:=Eb v hvk (by omega)
 generalize hav:cy v=A2 at hA2
 obtain ⟨c2,r2,e2⟩:=A2
 dsimp only at hA2 ⊢
 rw [show i+(n+1+m)=i+n+1+m by omega]
 have hN3:=fun w' h=>AB a (by omega) (i+n+1+m) g w' h
 generalize hb2:bat a (i+n+1)=b2 at hN2
 generalize hb3:bat a (i+n+1+m)=b3 at hN3
 repeat' (first|(apply ak;exact rfl;apply aL (o:=0) (off:=0);exact hr;exact rfl;exact rfl)|(apply aa;exact rfl;exact rfl;(intro w hm;exact rF _ w))|(apply ak (d:=28);exact rfl;apply sx;exact rfl;exact hus)|(apply ak (d:=90);exact rfl;apply sx;exact rfl;exact hvs)|(apply ak (d:=126);exact rfl;apply sx;exact rfl;exact hvs)|(apply aa (d:=26);exact rfl;exact rfl;(intro w' hm;exact hP1 w' (hr.next hm)))|(apply aa (d:=77);exact rfl;exact rfl;(intro w' hm;exact hP2 w' (hb1l (by omega)) (hr.next hm)))|(apply aa (d:=34);exact rfl;exact rfl;(intro w' hm;exact hN1 w' (hr.next hm)))|(apply aa (d:=65);exact rfl;exact rfl;(intro w' hm;exact hN1 w' (hr.next hm)))|(apply aa (d:=71);exact rfl;exact rfl;(intro w' hm;exact hN2 w' (hr.next hm)))|(apply aa (d:=92);exact rfl;exact rfl;(intro w' hm;exact hN3 w' (hr.next hm)))|(apply aa;exact rfl;exact rfl;(intro w hm;exact hA1 w))|(apply aa;exact rfl;exact rfl;(intro w hm;exact hA2 w))|(apply ak (d:=99);exact rfl;exact fZ _ _ ▸ jo rfl rfl)|(apply ak (d:=104);exact rfl;exact fZ _ _ ▸ jo rfl rfl)|(apply ak (d:=109);exact rfl;exact f4 _ _ ▸ iG rfl rfl)|(apply ak (d:=114);exact rfl;exact f4 _ _ ▸ iG rfl rfl)|(apply ak (d:=118);exact rfl;exact Pk (a:=⟨c1,r1⟩) (b:=⟨c2,r2⟩) rfl rfl)|(apply aa;exact rfl;exact rfl;(intro w hm;exact P1 ⟨c1,r1⟩ w))|refine sT ?_|refine sT2 ?_|refine sN ?_|refine sM fun _=> ?_|(refine sC ?_ ?_<;>intro hb<;>try omega)|fail)
 all_goals
  (refine jb ?_)
  simp_all [nn,lu,EY,atT,bi,aS,aN,av,CZ,eqF,bL,dl]
end Go.SL
namespace Go.SL
open Go Go.Proofs
attribute [local irreducible] W WL WQ WG WA WX WLI WR WT VOp RW thn blk bp scp aR ba bE aF FnIn FnP
def kC (a b:ByteArray):ByteArray × Bool:=if (ap a).take b.size=ap b then (sub a b.size a.size,true) else (a,false)
theorem Oe (a b:ByteArray) (ha:a.size≤1000000) (w:World):aA Tryz.prog 163 [.string a,.string b] w (.tuple #[.string (kC a b).1,.bool (kC a b).2]):=by
 refine aq Tryz.func163 rfl Tryz.ntmps163 rfl ?_
 have hp:=pU a b
 unfold kC
 by_cases h:(ap a).take b.size=ap b
 ·
  rw [if_pos h]
  rw [decide_eq_true h] at hp
  have hb:b.size≤a.size:=by
   have:=congrArg List.length h
   rw [RF,au,au] at this
   omega
  repeat' (first|(apply aa;exact rfl;exact rfl;(intro w hm;exact hp w))|refine sT ?_|refine sT2 ?_|refine sM fun _=> ?_|(refine sC ?_ ?_<;>intro hb<;>try omega)|fail)
  all_goals exact dS eIO rfl rfl rfl (.refl _) rfl
 ·
  rw [if_neg h]
  rw [decide_eq_false h] at hp
  repeat' (first|(apply aa;exact rfl;exact rfl;(intro w hm;exact hp w))|refine sT ?_|refine sT2 ?_|refine sM fun _=> ?_|(refine sC ?_ ?_<;>intro hb<;>try omega)|fail)
  all_goals exact dS eIO rfl rfl rfl (.refl _) rfl
theorem Mm (a b:ByteArray) (ha:a.size≤1000000) (w:World):aA Tryz.prog 137 [.string a,.string b] w (.tuple #[.string (kC a b).1,.bool (kC a b).2]):=by
 refine aq Tryz.func137 rfl Tryz.ntmps137 rfl ?_
 repeat' (first|(apply aa;exact rfl;exact rfl;(intro w hm;exact Oe a b ha w))|refine sT ?_|refine sM fun _=> ?_|(refine sC ?_ ?_<;>intro hb<;>try omega)|fail)
 all_goals exact dS eIO rfl rfl rfl (.refl _) rfl
def Np (b:ByteArray):Vl × Bool:=(bI,decide (b=av))
def wt:ByteArray:=⟨#[39]⟩
def Nm (b:ByteArray):Vl × Bool:=(⟨3,0,(kC b wt).1⟩,(kC b wt).2)
def KH (b:ByteArray):Vl × Bool:=(jc ⟨3,0,b⟩,decide ((jc ⟨3,0,b⟩).kind=2))
def ES (b:ByteArray):Vl × Bool:=(gH (iL b).1,decide ((iL b).2=0) && decide ((iL b).1≤5))
def IE (b:ByteArray):Vl × Bool:=if (gQ (ap b)).2=3 then (gH 3,true) else (wM (gQ (ap b)).1,decide ((gQ (ap b)).2=0))
def BV (x:Vl × Bool):Value:= .tuple #[.agg (dH x.1).toArray,.bool x.2]
theorem Nn (b:ByteArray) (g:Nat) (w:World) (hr:Ro w g 0 [.string b]):aA Tryz.prog 164 [.pointer (some ⟨g,0,none⟩)] w (BV (Np b)):=by
 refine aq Tryz.func164 rfl Tryz.ntmps164 rfl ?_
 have hm:Mem w w []:=Mem.refl w
 repeat' (first|(rename_i g1;refine oO (id:=1) 3 [.box g1 127 (dH bI)] (by kernel_rfl) (by kernel_rfl) rfl ?_)|(apply BB;exact rfl;(intro D ht;apply aL (o:=0) (off:=0);exact hr;exact rfl;exact rfl);exact fun _=>rfl)|(apply m9;exact rfl;exact rfl;exact pK;(iterate 3 exact rfl);decide;exact .refl _)|refine sT ?_|refine sG ?_|refine sM fun _=> ?_|(refine sC ?_ ?_<;>intro hb<;>try omega)|fail)
 all_goals ((refine jb ?_);rfl)
theorem Nl (b:ByteArray) (hb:b.size≤1000000) (g:Nat) (w:World) (hr:Ro w g 0 [.string b]):aA Tryz.prog 165 [.pointer (some ⟨g,0,none⟩)] w (BV (Nm b)):=by
 refine aq Tryz.func165 rfl Tryz.ntmps165 rfl ?_
 repeat' (first|(apply ak;exact rfl;apply aL (o:=0) (off:=0);exact hr;exact rfl;exact rfl)|(apply aa;exact rfl;exact rfl;(intro w hm;exact Mm b wt hb w))|refine sT ?_|refine sM fun _=> ?_|(refine sC ?_ ?_<;>intro hb<;>try omega)|fail)
 all_goals ((refine jb ?_);rfl)
theorem Nk (b:ByteArray) (hb:b.size≤1000000) (g:Nat) (w:World) (hr:Ro w g 0 [.string b]):aA Tryz.prog 166 [.pointer (some ⟨g,0,none⟩)] w (BV (KH b)):=by
 refine aq Tryz.func166 rfl Tryz.ntmps166 rfl ?_
 have hT:=fun w' =>JX ⟨3,0,b⟩ rfl hb w'
 unfold KH
 generalize jc ⟨3,0,b⟩=v at hT
 repeat' (first|(apply ak;exact rfl;apply aL (o:=0) (off:=0);exact hr;exact rfl;exact rfl)|(apply aa;exact rfl;exact rfl;(intro w hm;exact hT w))|(rename_i g1 g2;refine qJ (id:=2) (g:=g1) (T:=127) (xs' :=dH v) (R:= [.box g2 127 (dH v)]) (fun D=> [if D 4 then .int .u8 v.kind else .int .u8 0,if D 4 then .int .i64 v.num else .int .i64 0,if D 4 then .string v.text else .string av]) (by kernel_rfl) (by kernel_rfl) pK rfl (by intro D hD;simp [hD 4 (by decide),dH]) ?_)|refine sT ?_|refine sG ?_|refine sM fun _=> ?_|(refine sC ?_ ?_<;>intro hb<;>try omega)|fail)
 all_goals ((refine jb ?_);rfl)
theorem Nj (b:ByteArray) (hb:b.size≤1000000) (g:Nat) (w:World) (hr:Ro w g 0 [.string b]) (hW:Words w):aA Tryz.prog 168 [.pointer (some ⟨g,0,none⟩)] w (BV (ES b)):=by
 refine aq Tryz.func168 rfl Tryz.ntmps168 rfl ?_
 unfold ES
 have hC:=fun (w' :World) (h:Words w')=>OB b hb w' h
 generalize iL b=x at hC
 obtain ⟨c,e⟩:=x
 repeat' (first|(apply ak;exact rfl;apply aL (o:=0) (off:=0);exact hr;exact rfl;exact rfl)|(apply aa (f:=169);exact rfl;exact rfl;(intro w' hm';exact hC w' (hW.next hm')))|(apply aa (f:=170);exact rfl;exact rfl;(intro w' hm';exact mT c w'))|refine sT ?_|refine sM fun _=> ?_|(refine sC ?_ ?_<;>intro hb<;>try omega)|fail)
 all_goals ((refine jb ?_);simp_all [BV,dH])
theorem Ni (b:ByteArray) (hb:b.size≤1000000) (g:Nat) (w:World) (hr:Ro w g 0 [.string b]):aA Tryz.prog 171 [.pointer (some ⟨g,0,none⟩)] w (BV (IE b)):=by
 refine aq Tryz.func171 rfl Tryz.ntmps171 rfl ?_
 unfold IE
 have hC:=fun (w' :World)=>uu b hb w'
 generalize gQ (ap b)=x at hC
 obtain ⟨n,e⟩:=x
 repeat' (first|(apply ak;exact rfl;apply aL (o:=0) (off:=0);exact hr;exact rfl;exact rfl)|(apply aa;exact rfl;exact rfl;(intro w hm;exact hC w))|(apply aa (f:=170);exact rfl;exact rfl;(intro w' hm';exact mT 3 w'))|(apply aa (f:=173);exact rfl;exact rfl;(intro w' hm';exact Oz n w'))|refine sT ?_|refine sM fun _=> ?_|(refine sC ?_ ?_<;>intro hb<;>try omega)|fail)
 all_goals ((refine jb ?_);simp_all [BV,dH])
def HV:List Nat:= [164,165,166,168,171]
def vN:List (ByteArray→Vl × Bool):= [Np,Nm,KH,ES,IE]
def fj (b:ByteArray):List (ByteArray→Vl × Bool)→Vl
 | []=>⟨3,0,b⟩
 |t::r=>if (t b).2 then (t b).1 else fj b r
def tG (b:ByteArray):Vl:=fj b vN
theorem KJ (b:ByteArray) (hb:b.size≤1000000) (g k:Nat) (hk:k<5): ∃ f t,vN.drop k=t::vN.drop (k+1)∧(HV.map fun f=>Value.func (.func f) #[] #[.pointer (some ⟨g,0,none⟩)])[k]? =some (.func (.func f) #[] #[.pointer (some ⟨g,0,none⟩)])∧Callable Tryz.prog f∧
  ∀ w,Ro w g 0 [.string b]→Words w→aA Tryz.prog f [.pointer (some ⟨g,0,none⟩)] w (BV (t b)):=by
 rcases (by omega:k=0∨k=1∨k=2∨k=3∨k=4) with rfl|rfl|rfl|rfl|rfl
 ·
  exact ⟨_,_,rfl,rfl,inferInstance,fun w hr _=>Nn b g w hr⟩
 ·
  exact ⟨_,_,rfl,rfl,inferInstance,fun w hr _=>Nl b hb g w hr⟩
 ·
  exact ⟨_,_,rfl,rfl,inferInstance,fun w hr _=>Nk b hb g w hr⟩
 ·
  exact ⟨_,_,rfl,rfl,inferInstance,fun w hr hW=>Nj b hb g w hr hW⟩
 ·
  exact ⟨_,_,rfl,rfl,inferInstance,fun w hr _=>Ni b hb g w hr⟩
set_option maxHeartbeats 1000000 in
theorem DT (b:ByteArray) (hb:b.size≤1000000) (w:World) (hW:Words w):aA Tryz.prog 138 [.string b] w (.agg (dH (tG b)).toArray):=by
 refine aq Tryz.func138 rfl Tryz.ntmps138 rfl ?_
 repeat' (first|refine sT ?_|refine sS ?_|refine sM fun _=> ?_|(refine sC ?_ ?_<;>intro hb<;>try omega)|fail)
 rename_i g1 g2 g3
 refine aw [1,2,13,14] rfl (fun x:Nat × Vl=> [(4,.bool false),(15,.int .i64 (x.1:Int))]) (fun x=> [.own (some g3) 212 1 5 5 (HV.map fun f=>Value.func (.func f) #[] #[.pointer (some ⟨g1,0,none⟩)]),.box g2 127 (dH x.2),.box g1 9 [.string b]]) (fun x=>x.1≤5∧tG b=fj b (vN.drop x.1)) (fun x=>5 - x.1) (0,bI) ⟨by omega,rfl⟩ sB mS ?_
 rintro ⟨k,v⟩ ⟨hk,hkt⟩
 dsimp only at hk hkt ⊢
 by_cases hk5:k<5
 ·
  obtain ⟨f,t,r1,r2,r3,r4⟩:=KJ b hb g1 k hk5
  rw [r1,fj] at hkt
  obtain ⟨⟨v',is⟩,ht⟩: ∃ x,t b=x:=⟨_,rfl⟩
  rw [ht] at hkt r4
  cases is with
  |true=>
   rw [if_pos rfl] at hkt
   repeat' (first|(apply ak;exact rfl;apply aj (j:=k);exact rfl;exact rfl;exact hk5)|(apply ak;exact rfl;apply aV (off:=0+k*1);exact rfl;exact pK;(rw [Rt,SN];exact r2))|(apply lC;exact rfl;exact rfl;exact r3;exact rfl;(intro w' hm;exact r4 w' (Ro.of_box hm pK) (hW.next hm)))|refine sT ?_|refine sS ?_|refine sN ?_|refine sM fun _=> ?_|(refine sC ?_ ?_<;>intro hb<;>try omega)|fail)
   all_goals (rw [hkt];(refine eRC ?_);rfl)
  |false=>
   rw [if_neg (by simp)] at hkt
   repeat' (first|(apply ak;exact rfl;apply aj (j:=k);exact rfl;exact rfl;exact hk5)|(apply ak;exact rfl;apply aV (off:=0+k*1);exact rfl;exact pK;(rw [Rt,SN];exact r2))|(apply lC;exact rfl;exact rfl;exact r3;exact rfl;(intro w' hm;exact r4 w' (Ro.of_box hm pK) (hW.next hm)))|refine sT ?_|refine sS ?_|refine sN ?_|refine sM fun _=> ?_|(refine sC ?_ ?_<;>intro hb<;>try omega)|fail)
   refine ⟨(k+1,v'),?_,(by first|omega|(dsimp only;omega)),sB,sB,mS⟩
   exact ⟨hk5,hkt⟩
 ·
  have e:k=5:=by omega
  subst e
  have hkt:tG b=⟨3,0,b⟩:=hkt
  rw [hkt]
  repeat' (first|refine sT ?_|refine sS ?_|refine sN ?_|refine sM fun _=> ?_|(refine sC ?_ ?_<;>intro hb<;>try omega)|fail)
  all_goals first|(exfalso;omega)|((refine eRC ?_);rfl)
end Go.SL
namespace Go.SL
open Go
def xw (b:ByteArray):Vl:=
 if b=av then bI
 else if (ap b).headD 0=39 then ⟨3,0,mkB (ap b).tail⟩
 else if upB b=nn∨upB b=lu then mi (decide (upB b=nn))
 else if (iL b).2=0∧(iL b).1<6 then gH (iL b).1
 else if (gQ (ap b)).2=0 then wM (gQ (ap b)).1
 else if (gQ (ap b)).2=3 then gH 3
 else ⟨3,0,b⟩
theorem JK {b:ByteArray} (hg:jA b=0):tG b=xw b:=by
 have hT:nn≠lu:=by decide
 have h3:KH b=if upB b=nn then (mi true,true) else if upB b=lu then (mi false,true) else (gH 2,false):=by
  have hv:qc ⟨3,0,b⟩=0:=by simp [qc,vv,hg]
  simp only [KH,jc,hv,if_true,AE]
  split
  ·
   rfl
  ·
   split<;>rfl
 have h2:Nm b=if (ap b).headD 0=39 then (⟨3,0,mkB (ap b).tail⟩,true) else (⟨3,0,b⟩,false):=by
  have hq:ap wt= [39]:=rfl
  have hs:wt.size=1:=rfl
  simp only [Nm,kC,hq,hs]
  cases hi:ap b with
  |nil=>simp
  |cons c r=>
   simp only [Sl,Sj,List.cons.injEq,and_true,SM,List.tail_cons]
   by_cases hc:c=39
   ·
    have hsz:b.size=(c::r).length:=by rw [← hi,au]
    have:sub b 1 b.size=mkB r:=by
     refine LG ?_
     rw [eM,hi,hsz]
     simp
    simp only [hc,if_true,this]
   ·
    simp only [hc,if_false]
 have hgen: ∀ (p:Prop) [Decidable p] (x y z:Vl),(if (if p then (x,true) else (y,false)).2=true then (if p then (x,true) else (y,false)).1 else z)=if p then x else z:=by
  intro p _ x y z
  split<;>simp
 unfold tG vN fj fj fj fj fj fj xw
 have e1:(Np b).2=decide (b=av):=rfl
 rw [e1,h2,h3]
 by_cases c1:b=av
 ·
  simp [c1,Np]
 ·
  rw [if_neg (by simpa using c1),if_neg c1]
  by_cases c2:(ap b).headD 0=39
  ·
   simp only [c2,if_true]
  ·
   simp only [c2,if_false,Sa]
   by_cases c3:upB b=nn
   ·
    simp [c3]
   ·
    by_cases c4:upB b=lu
    ·
     simp [c4,hT.symm]
    ·
     simp only [c3,c4,if_false,or_self,Sa]
     by_cases c5:(iL b).2=0∧(iL b).1<6
     ·
      have:(ES b).2=true:=by simp only [ES,c5.1,decide_true,RX,decide_eq_true_eq];omega
      rw [if_pos this,if_pos c5];rfl
     ·
      have:(ES b).2=false:=by
       simp only [ES,Sw,decide_eq_false_iff_not]
       by_cases h:(iL b).2=0
       ·
        right;intro h';exact c5 ⟨h,by omega⟩
       ·
        left;exact h
      rw [if_neg (by simp [this]),if_neg c5]
      by_cases c6:(gQ (ap b)).2=0
      ·
       simp [IE,c6]
      ·
       by_cases c7:(gQ (ap b)).2=3
       ·
        simp [IE,c7]
       ·
        simp [IE,c6,c7]
end Go.SL
namespace Go.SL
open Go Go.Proofs
attribute [local irreducible] W WL WQ WG WA WX WLI WR WT VOp thn blk bp scp aR bE aF FnIn
def nB:List (List Int→Option (Tk × Nat)):= [fR,ny,gZ,kW,iI]
def mN (l:List Int):List (List Int→Option (Tk × Nat))→Option (Tk × Nat)
 | []=>none
 |r::rs=>match r l with
  |some x=>some x
  |none=>mN l rs
def dx (l:List Int):Option (Tk × Nat):=mN l nB
def bn (tk:List Int→Option (Tk × Nat)) (l:List Int):Nat→Nat→Except Nat (List Tk)
 |0,_=> .ok []
 |f+1,i=>
  match l.drop i with
  | []=> .ok []
  |c::_=>
   if c=32 then bn tk l f (i+1)
   else match tk (l.drop i) with
    |none=> .error i
    |some (t,n)=>(bn tk l f (i+n)).map fun r=>{ t with at_:=(i:Int) }::r
def Fits (l:List Int) (o:Option (Tk × Nat)):Prop:= ∀ t n,o=some (t,n)→0<n∧n≤l.length
theorem Fits.none {l:List Int}:Fits l none:=fun _ _ h=>by cases h
theorem Fits.some {l:List Int} {t:Tk} {n:Nat} (h1:0<n) (h2:n≤l.length):Fits l (some (t,n)):=fun _ _ h=>by cases h;exact ⟨h1,h2⟩
theorem l3 {l:List Int} {c:Int} (h:l.headD 0=c) (hc:c≠0):0<l.length:=by
 cases l with
 |nil=>exact absurd h.symm hc
 |cons=>simp
theorem Fz (l:List Int):bZ l=0∨bZ l+1≤l.length:=by
 unfold bZ
 split
 ·
  right
  rename_i r
  have:=bY aG r
  simp;omega
 ·
  left;rfl
theorem ud (l:List Int):Fits l (fR l):=by
 unfold fR
 dsimp only
 have h1:=bY aG l
 have h2:=Fz (l.drop (aD aG l))
 rw [RC] at h2
 have h3:(if bZ (l.drop (aD aG l))=0 then aD aG l else aD aG l+1+bZ (l.drop (aD aG l)))≤l.length∧aD aG l≤(if bZ (l.drop (aD aG l))=0 then aD aG l else aD aG l+1+bZ (l.drop (aD aG l))):=by
  split<;>omega
 generalize (if bZ (l.drop (aD aG l))=0 then aD aG l else aD aG l+1+bZ (l.drop (aD aG l)))=m at h3 ⊢
 split
 ·
  exact .none
 ·
  rename_i h
  split
  ·
   exact .none
  ·
   exact .some (by omega) (by omega)
theorem pu: ∀ (n:Nat) (l:List Int) (k:Nat),l.length≤n→cI l=some k→k<l.length
 |_,[],_,_,h=>by simp [cI] at h
 |0,c::r,_,hn,_=>by simp at hn
 |n+1,c::r,k,hn,h=>by
  by_cases hc:c=34
  ·
   subst hc
   cases r with
   |nil=>simp [cI] at h;subst h;simp
   |cons d r' =>
    by_cases hd:d=34
    ·
     subst hd
     simp only [cI,ne_eq,not_true_eq_false,if_false,if_true,Sn] at h
     obtain ⟨j,hj,rfl⟩:=h
     have:=pu n r' j (by simp at hn;omega) hj
     simp;omega
    ·
     simp [cI,hd] at h
     subst h;simp
  ·
   rw [kY hc,Sn] at h
   obtain ⟨j,hj,rfl⟩:=h
   have:=pu n r j (by simp at hn;omega) hj
   simp;omega
theorem IL (l:List Int):Fits l (ny l):=by
 unfold ny
 split
 ·
  exact .none
 ·
  rename_i h
  have h0:=l3 (c:=34) (Decidable.not_not.1 h) (by decide)
  split
  ·
   exact .none
  ·
   rename_i k hk
   have:=pu _ _ k (Re _) hk
   rw [RC] at this
   split
   ·
    exact .none
   ·
    exact .some (by omega) (by omega)
theorem yn (l:List Int):Fits l (gZ l):=by
 have h1:=bY cV l
 have h2:=bY cV (l.drop (aD cV l+1))
 rw [RC] at h2
 have hpos:bT (l.headD 0)≠false→0<aD cV l:=fun h=>by
  cases l with
  |nil=>exact absurd rfl h
  |cons c r=>
   have:bT c=true:=by simpa using h
   simp [aD,cV,this]
 unfold gZ
 split
 ·
  exact .none
 ·
  rename_i h
  have hp:=hpos h
  split
  ·
   exact .some hp h1
  ·
   split
   ·
    exact .some hp h1
   ·
    split
    ·
     exact .some hp h1
    ·
     split
     ·
      exact .none
     ·
      split
      ·
       rename_i hq
       have:=l3 hq.1 (by decide)
       rw [RC] at this
       exact .some (by omega) (by omega)
      ·
       exact .some hp h1
theorem xc (l:List Int): ∀ (ns:List (List Int)) (c k:Int) (n:Nat),(∀ s∈ns,s≠ [])→kA l ns c=some (k,n)→0<n∧n≤l.length
 | [],_,_,_,_,h=>by cases h
 |s::r,c,k,n,hs,h=>by
  rw [kA] at h
  split at h
  ·
   rename_i he
   cases h
   have:=congrArg List.length he
   rw [RP,RF] at this
   have:=SJ.2 (hs s QY)
   omega
  ·
   exact xc l r _ k n (fun s hs' =>hs s (Rq _ hs')) h
theorem zg (l:List Int):Fits l (kW l):=by
 intro t n h
 unfold kW at h
 rw [Sn] at h
 obtain ⟨⟨c,m⟩,h1,h2⟩:=h
 cases h2
 exact xc l dV 1 c _ (by decide) h1
theorem CY (l:List Int): ∀ (ns:List (List Int × Int)) (k:Int) (n:Nat),(∀ s∈ns,s.1≠ [])→opL l ns=some (k,n)→0<n∧n≤l.length
 | [],_,_,_,h=>by cases h
 |(s,c)::r,k,n,hs,h=>by
  rw [opL] at h
  split at h
  ·
   rename_i he
   cases h
   have:=congrArg List.length he
   rw [RF] at this
   have:=SJ.2 (hs _ QY)
   dsimp only at this
   omega
  ·
   exact CY l r k n (fun s hs' =>hs s (Rq _ hs')) h
theorem yM (l:List Int):Fits l (iI l):=by
 unfold iI
 split
 ·
  rename_i k n h
  have:=CY l fu k n (by decide) h
  exact .some this.1 this.2
 ·
  split
  ·
   exact .some (by omega) (l3 (by assumption) (by decide))
  ·
   split
   ·
    exact .some (by omega) (l3 (by assumption) (by decide))
   ·
    split
    ·
     exact .some (by omega) (l3 (by assumption) (by decide))
    ·
     exact .none
theorem w9 (l:List Int): ∀ rs:List (List Int→Option (Tk × Nat)),(∀ r∈rs,Fits l (r l))→Fits l (mN l rs)
 | [],_=> .none
 |r::rs,h=>by
  unfold mN
  split
  ·
   rename_i x hx
   exact hx ▸ h r QY
  ·
   exact w9 l rs fun r hr=>h r (Rq _ hr)
theorem IX (l:List Int): ∀ r∈nB,Fits l (r l):=by
 intro r hr
 simp only [nB,Rs,SK,or_false] at hr
 rcases hr with rfl|rfl|rfl|rfl|rfl
 ·
  exact ud l
 ·
  exact IL l
 ·
  exact yn l
 ·
  exact zg l
 ·
  exact yM l
theorem vO (l:List Int):Fits l (dx l):=w9 l _ (IX l)
theorem qN {tk:List Int→Option (Tk × Nat)} {l:List Int} (ht: ∀ m,Fits m (tk m)): ∀ (b d f i:Nat),d≤b→l.length - i=d→d≤f→bn tk l f i=bn tk l d i:=by
 intro b
 induction b with
 |zero=>
  intro d f i hb hd hf
  have:d=0:=by omega
  subst this
  cases f with
  |zero=>rfl
  |succ f=>
   simp only [bn]
   rw [RE (by omega)]
 |succ b ih=>
  intro d f i hb hd hf
  cases d with
  |zero=>
   cases f with
   |zero=>rfl
   |succ f=>
    simp only [bn]
    rw [RE (by omega)]
  |succ m=>
   obtain ⟨g,rfl⟩: ∃ g,f=g+1:=⟨f - 1,by omega⟩
   simp only [bn]
   have hi:i<l.length:=by omega
   rw [Rc hi]
   dsimp only
   split
   ·
    exact ih m g (i+1) (by omega) (by omega) (by omega)
   ·
    split
    ·
     rfl
    ·
     rename_i t n hn
     have:=ht _ t n hn
     rw [ih (l.length - (i+n)) g (i+n) (by omega) rfl (by omega),ih (l.length - (i+n)) m (i+n) (by omega) rfl (by omega)]
def bq (tk:List Int→Option (Tk × Nat)) (l:List Int):List Tk × Int × Int:=
 if 256<l.length then ([],0,5)
 else match l.findIdx? (fun c=> !bF c) with
  |some i=>([],(i:Int),4)
  |none=>match bn tk l l.length 0 with
   | .ok r=>(r,0,0)
   | .error i=>([],(i:Int),4)
def G6 (A:Option Nat) (cap:Nat) (r:List Tk × Int × Int):Value:= .tuple #[sl A r.1.length cap,.int .i64 r.2.1,.int .i64 r.2.2]
def Fa:List Nat:= [221,222,223,224,225]
theorem Nw (a:ByteArray) (ha:a.size≤10000) (i:Nat) (hi:i<a.size) (g:Nat) (k:Nat) (hk:k<5):
  ∃ f r,nB.drop k=r::nB.drop (k+1)∧(Fa.map fun f=>Value.func (.func f) #[.pointer (some ⟨g,0,none⟩)] #[])[k]? =some (.func (.func f) #[.pointer (some ⟨g,0,none⟩)] #[])∧Callable Tryz.prog f∧
   ∀ w,Ro w g 0 [.string a]→Words w→aA Tryz.prog f [.pointer (some ⟨g,0,none⟩),.int .i64 (i:Int)] w (EY (atT i (r ((ap a).drop i)))):=by
 rcases (by omega:k=0∨k=1∨k=2∨k=3∨k=4) with rfl|rfl|rfl|rfl|rfl
 ·
  exact ⟨_,_,rfl,rfl,inferInstance,fun w hr _=>Je a (by omega) i (by omega) g w hr⟩
 ·
  exact ⟨_,_,rfl,rfl,inferInstance,fun w hr _=>Nq a (by omega) i hi g w hr⟩
 ·
  exact ⟨_,_,rfl,rfl,inferInstance,fun w hr _=>MK a ha i hi g w hr⟩
 ·
  exact ⟨_,_,rfl,rfl,inferInstance,fun w hr hW=>NW a (by omega) i (by omega) g w hr hW⟩
 ·
  exact ⟨_,_,rfl,rfl,inferInstance,fun w hr _=>Ns a (by omega) i hi g w hr⟩
theorem oD {a:ByteArray} {q:Int→Bool} {i:Nat} (h:i<a.size) (hq:q (bat a i)=true) (hno: ∀ j,j<i→q (bat a j)=false):(ap a).findIdx? q=some i:=by
 rw [TM]
 have hl:=au a
 have hg: ∀ j (hj:j<(ap a).length),(ap a)[j]=bat a j:=fun j hj=>by
  have:=gL (a:=a) (i:=j) (by omega)
  rw [QV hj] at this
  exact Option.some.inj this
 refine ⟨by omega,by rw [hg];exact hq,fun j hj=> ?_⟩
 rw [hg,hno j hj];simp
theorem mI {a:ByteArray} {q:Int→Bool} (hno: ∀ j,j<a.size→q (bat a j)=false):(ap a).findIdx? q=none:=by
 rw [Tq]
 intro x hx
 obtain ⟨j,hj,rfl⟩:=SW hx
 have hl:=au a
 have:=gL (a:=a) (i:=j) (by omega)
 rw [QV hj] at this
 rw [Option.some.inj this]
 exact hno j (by omega)
set_option maxHeartbeats 2000000 in
theorem JW (a:ByteArray) (w:World) (hW:Words w):
  aF Tryz.prog 174 [.string a] w fun v H=> ∃ A cap,v=G6 A cap (bq dx (ap a))∧H= [.own A 228 8 (bq dx (ap a)).1.length cap ((bq dx (ap a)).1.flatMap bi)]:=by
 refine aq Tryz.func174 rfl Tryz.ntmps174 rfl ?_
 have hl:=au a
 unfold bq
 refine aB 228 8 ?_
 by_cases hlen:256<(ap a).length
 ·
  rw [if_pos hlen]
  repeat' (first|refine sT ?_|refine sS ?_|refine sT2 ?_|refine sM fun _=> ?_|(refine sC ?_ ?_<;>intro hb<;>try omega)|fail)
  all_goals try (exfalso;omega)
  exact li (.inl rfl) rfl rfl rfl rfl (.refl _) ⟨none,0,rfl,rfl⟩
 ·
  rw [if_neg hlen]
  repeat' (first|refine sT ?_|refine sS ?_|refine sT2 ?_|refine sM fun _=> ?_|(refine sC ?_ ?_<;>intro hb<;>try omega)|fail)
  all_goals try (exfalso;omega)
  refine aw [0,2,17] rfl (fun i:Nat=> [(18,.int .i64 (i:Int))]) (fun _=> [.own none 228 8 0 0 []]) (fun i=>i≤a.size∧ ∀ j,j<i→bF (bat a j)=true) (fun i=>a.size - i) 0 ⟨by omega,fun j h=>by omega⟩ sB mS ?_
  rintro i ⟨hi,hpl⟩
  by_cases hlt:i<a.size
  ·
   repeat' (first|refine sT ?_|refine sS ?_|refine sT2 ?_|refine sN ?_|refine sM fun _=> ?_|(refine sC ?_ ?_<;>intro hb<;>try omega)|fail)
   ·
    have hf:(ap a).findIdx? (fun c=> !bF c)=some i:=by
     refine oD hlt ?_ fun j hj=>by rw [hpl j hj];rfl
     simp only [bF,Bool.not_eq_true',Sw,decide_eq_false_iff_not]
     omega
    rw [hf]
    exact li (.inl rfl) rfl rfl rfl rfl (.refl _) ⟨none,0,rfl,rfl⟩
   ·
    have hf:(ap a).findIdx? (fun c=> !bF c)=some i:=by
     refine oD hlt ?_ fun j hj=>by rw [hpl j hj];rfl
     simp only [bF,Bool.not_eq_true',Sw,decide_eq_false_iff_not]
     omega
    rw [hf]
    exact li (.inl rfl) rfl rfl rfl rfl (.refl _) ⟨none,0,rfl,rfl⟩
   ·
    refine ⟨i+1,?_,(by first|omega|(dsimp only;omega)),sB,sB,mS⟩
    refine ⟨hlt,fun j hj=> ?_⟩
    rcases (by omega:j<i∨j=i) with h|rfl
    ·
     exact hpl j h
    ·
     rename_i h1
     simp only [bF,Rk,decide_eq_true_eq]
     omega
  ·
   have e:i=a.size:=by omega
   subst e
   have hf:(ap a).findIdx? (fun c=> !bF c)=none:=mI fun j hj=>by rw [hpl j hj];rfl
   rw [hf]
   dsimp only
   repeat' (first|(apply ak;exact rfl;apply mh;exact rfl)|(apply EC;(iterate 6 exact rfl))|refine sT ?_|refine sS ?_|refine sT2 ?_|refine sN ?_|refine sM fun _=> ?_|(refine sC ?_ ?_<;>intro hb<;>try omega)|fail)
   all_goals try (exfalso;omega)
   rename_i g6 g7
   generalize hT:bn dx (ap a) (ap a).length 0=T
   refine aw [0,6,7] rfl (fun x:Nat × List Tk × Option Nat × Nat=> [(2,sl x.2.2.1 x.2.1.length x.2.2.2),(8,.int .i64 (x.1:Int))]) (fun x=> [.own x.2.2.1 228 8 x.2.1.length x.2.2.2 (x.2.1.flatMap bi),.box g7 274 (Fa.map fun f=>Value.func (.func f) #[.pointer (some ⟨g6,0,none⟩)] #[]),.box g6 272 [.string a]])
    (fun x=>x.1≤a.size∧x.2.1.length≤x.1∧T=(bn dx (ap a) (a.size - x.1) x.1).map (x.2.1++ ·)) (fun x=>a.size - x.1) (0,[],none,0) ⟨by omega,by simp,by rw [← hT,hl];cases bn dx (ap a) a.size 0<;>rfl⟩ sB mS ?_
   rintro ⟨i,toks,A,cap⟩ ⟨hi2,hi3,hi4⟩
   dsimp only at hi2 hi3 hi4 ⊢
   by_cases hlt2:i<a.size
   ·
    obtain ⟨f,hf1⟩: ∃ f,a.size - i=f+1:=⟨a.size - i - 1,by omega⟩
    rw [hf1] at hi4
    simp only [bn] at hi4
    have hdr:=bk hlt2
    generalize hld:(ap a).drop i=ld at hi4 hdr
    rw [hdr] at hi4
    dsimp only at hi4
    by_cases h32:bat a i=32
    ·
     rw [if_pos h32] at hi4
     repeat' (first|refine sT ?_|refine sS ?_|refine sT2 ?_|refine sN ?_|refine sM fun _=> ?_|(refine sC ?_ ?_<;>intro hb<;>try omega)|fail)
     all_goals try (exfalso;omega)
     refine ⟨(i+1,toks,A,cap),?_,(by first|omega|(dsimp only;omega)),sB,sB,mS⟩
     exact ⟨hlt2,by dsimp only;omega,by dsimp only;rw [show a.size - (i+1)=f by omega];exact hi4⟩
    ·
     rw [if_neg h32,← hdr] at hi4
     repeat' (first|refine sT ?_|refine sS ?_|refine sT2 ?_|refine sN ?_|refine sM fun _=> ?_|(refine sC ?_ ?_<;>intro hb<;>try omega)|fail)
     all_goals try (exfalso;omega)
     have hldl:ld.length=a.size - i:=by rw [← hld,RC,hl]
     refine aw [0,2,6,7,8,57] rfl (fun k:Nat=> [(58,.int .i64 (k:Int))]) (fun _=> [.own A 228 8 toks.length cap (toks.flatMap bi),.box g7 274 (Fa.map fun f=>Value.func (.func f) #[.pointer (some ⟨g6,0,none⟩)] #[]),.box g6 272 [.string a]]) (fun k=>k≤5∧dx ld=mN ld (nB.drop k)) (fun k=>5 - k) 0 ⟨by omega,rfl⟩ sB mS ?_
     rintro k ⟨hk,hkt⟩
     by_cases hk5:k<5
     ·
      obtain ⟨f2,r,r1,r2,r3,r4⟩:=Nw a (by omega) i hlt2 g6 k hk5
      rw [hld] at r4
      rw [r1,mN] at hkt
      cases ho:r ld with
      |none=>
       rw [ho] at hkt r4
       dsimp only at hkt
       repeat' (first|(apply ak;exact rfl;apply nj;exact rfl;exact rfl;exact hk5;exact r2)|(apply su;exact rfl;exact rfl;exact r3;exact rfl;(intro w' hm;exact r4 w' (Ro.of_box hm pK) (hW.next hm)))|refine sT ?_|refine sS ?_|refine sT2 ?_|refine sN ?_|refine sM fun _=> ?_|(refine sC ?_ ?_<;>intro hb<;>try omega)|fail)
       all_goals try (exfalso;omega)
       refine ⟨k+1,?_,(by first|omega|(dsimp only;omega)),sB,sB,mS⟩
       exact ⟨hk5,hkt⟩
      |some x=>
       obtain ⟨t,m⟩:=x
       rw [ho] at hkt r4
       dsimp only at hkt
       have hfit:=vO ld t m hkt
       rw [hkt] at hi4
       dsimp only at hi4
       have hm0:0<m:=hfit.1
       repeat' (first|(apply ak;exact rfl;apply nj;exact rfl;exact rfl;exact hk5;exact r2)|(apply su;exact rfl;exact rfl;exact r3;exact rfl;(intro w' hm;exact r4 w' (Ro.of_box hm pK) (hW.next hm)))|(apply aU;(iterate 3 exact rfl);exact pK;exact pK;exact rfl;(simp [bi,Value.oneCell']);omega;(simp only [maxLen];omega);intro g8 c8)|refine sT ?_|refine sS ?_|refine sT2 ?_|refine sN ?_|refine sM fun _=> ?_|(refine sC ?_ ?_<;>intro hb<;>try omega)|fail)
       all_goals try (exfalso;omega)
       refine ⟨(i+m,toks++ [{ t with at_:=(i:Int) }],some g8,c8),⟨by dsimp only;omega,by simp;omega,?_⟩,(by dsimp only;omega),?_,sB,?_⟩
       ·
        dsimp only
        rw [hi4,qN vO f (a.size - (i+m)) f (i+m) (by omega) (by omega) (by omega)]
        cases bn dx (ap a) (a.size - (i+m)) (i+m)<;>simp [Except.map]
       ·
        simp only [QT,QX]
        exact sB
       ·
        simp only [QT,QX,Rn,Rm,Ry,QZ]
        exact mS
     ·
      have e:k=5:=by omega
      subst e
      rw [show mN ld (nB.drop 5)=none from rfl] at hkt
      rw [hkt] at hi4
      dsimp only [Except.map] at hi4
      rw [hi4]
      refine aB 228 8 ?_
      repeat' (first|refine sT ?_|refine sS ?_|refine sT2 ?_|refine sN ?_|refine sM fun _=> ?_|(refine sC ?_ ?_<;>intro hb<;>try omega)|fail)
      all_goals try (exfalso;omega)
      exact li (.inl rfl) rfl rfl rfl rfl (H' := [.own none 228 8 0 0 []]) mS ⟨none,0,rfl,rfl⟩
   ·
    have e:i=a.size:=by omega
    subst e
    rw [show a.size - a.size=0 by omega] at hi4
    simp only [bn,Except.map,QZ] at hi4
    rw [hi4]
    repeat' (first|refine sT ?_|refine sS ?_|refine sT2 ?_|refine sN ?_|refine sM fun _=> ?_|(refine sC ?_ ?_<;>intro hb<;>try omega)|fail)
    all_goals try (exfalso;omega)
    exact li (.inl rfl) rfl rfl rfl rfl (H' := [.own A 228 8 toks.length cap (toks.flatMap bi)]) mS ⟨A,cap,rfl,rfl⟩
end Go.SL
namespace Go.SL
open Go Go.Proofs
attribute [local irreducible] W WL WQ WG WA WX WLI WR WT VOp RW thn blk bp scp aR ba bE aF FnIn FnP
theorem Hs (p2 p3 p4:Value) (w0:World) (H:List Blk):FnD Tryz.prog 175 [p2,p3,p4] .returning w0 H H:=by
 refine Qx Tryz.func175 rfl rfl Tryz.ntmps175 rfl rfl (.inl ⟨rfl,rfl⟩) ?_
 repeat' (first|(apply ak;exact rfl;apply M8;exact rfl)|refine sT ?_|refine sM fun _=> ?_|(refine sC ?_ ?_<;>intro hb<;>try omega)|fail)
 all_goals exact ⟨by first|exact .inl rfl|exact .inr rfl,.refl _⟩
theorem Ht (g2 g3 g4:Nat) (x2 x3 x4:Value) (e:Int × Int) (w0:World) (R:List Blk):
  FnD Tryz.prog 175 [.pointer (some ⟨g2,0,none⟩),.pointer (some ⟨g3,0,none⟩),.pointer (some ⟨g4,0,none⟩)] (.panicking (jB (AU e))) w0
   (.box g2 128 [x2]:: .box g3 3 [x3]:: .box g4 39 [x4]::R)
   (.box g2 128 [.slice none 0 0]:: .box g3 3 [.int .i64 e.1]:: .box g4 39 [.int .i64 e.2]::R):=by
 refine Qx Tryz.func175 rfl rfl Tryz.ntmps175 rfl rfl (.inr rfl) ?_
 repeat' (first|(apply ak;exact rfl;apply M7;exact rfl)|(apply ak;exact rfl;apply zM;exact rfl;exact rfl)|(rename_i g;refine vq (id:=7) [⟨4,g2,128,x2,.slice none 0 0⟩,⟨5,g3,3,x3,.int .i64 e.1⟩,⟨6,g4,39,x4,.int .i64 e.2⟩] (.box g 223 [.int .i64 e.1,.int .i64 e.2]::R) (by kernel_rfl) (by kernel_rfl) rfl mS ?_)|(apply GK;exact rfl;exact rfl;(exact vC))|(refine kF [] [⟨5,g3,3,x3,.int .i64 e.1⟩,⟨6,g4,39,x4,.int .i64 e.2⟩] ⟨4,g2,128,x2,.slice none 0 0⟩ rfl rfl rfl rfl rfl rfl ?_)|(refine kF [⟨4,g2,128,x2,.slice none 0 0⟩] [⟨6,g4,39,x4,.int .i64 e.2⟩] ⟨5,g3,3,x3,.int .i64 e.1⟩ rfl rfl rfl rfl rfl rfl ?_)|(refine kF [⟨4,g2,128,x2,.slice none 0 0⟩,⟨5,g3,3,x3,.int .i64 e.1⟩] [] ⟨6,g4,39,x4,.int .i64 e.2⟩ rfl rfl rfl rfl rfl rfl ?_)|apply zH|refine sT ?_|refine sG ?_|refine sM fun _=> ?_|(refine sC ?_ ?_<;>intro hb<;>try omega)|fail)
 refine ⟨.inr rfl,?_⟩
 simp only [RA,Sq,BoxT.post,QU,QW]
 exact mS
def bK (x:List Tk × Int × Int) (fin:Int):List Nd × Int × Int:=
 if x.2.2≠0 then ([],x.2.1,x.2.2)
 else match bz fin (20*x.1.length+40) (.level 1) ⟨x.1,[]⟩ with
  |none=>([],0,0)
  |some (.error (a,e))=>([],a,e)
  |some (.ok (_,p))=>
   if (hdT fin p.l).kind≠0 then ([],(hdT fin p.l).at_,4)
   else if d9 p.out≠0 then ([],0,d9 p.out)
   else (p.out,0,0)
theorem Cb {tk:List Int→Option (Tk × Nat)} {l:List Int} (f:Nat): ∀ (i:Nat) (r:List Tk),bn tk l f i= .ok r→r.length≤f:=by
 induction f with
 |zero=>intro i r h;simp only [bn,Except.ok.injEq] at h;subst h;exact Re _
 |succ f ih=>
  intro i r h
  simp only [bn] at h
  split at h
  ·
   cases h;exact Rd _
  ·
   split at h
   ·
    exact TR (ih _ _ h)
   ·
    split at h
    ·
     cases h
    ·
     rename_i t n _
     cases hr:bn tk l f (i+n) with
     |error e=>rw [hr] at h;cases h
     |ok r' =>
      rw [hr] at h
      cases h
      exact Nat.succ_le_succ (ih _ _ hr)
theorem nr (tk:List Int→Option (Tk × Nat)) (l:List Int):(bq tk l).1.length≤256:=by
 unfold bq
 split
 ·
  exact Rd _
 ·
  split
  ·
   exact Rd _
  ·
   split
   ·
    rename_i h
    have:=Cb _ _ _ h
    dsimp only
    omega
   ·
    exact Rd _
theorem At.start (toks:List Tk) (A:Option Nat) (cap:Nat):At toks A cap ⟨toks,[]⟩ (sl A toks.length cap):=
 ⟨0,Rd _,rfl,Re _,A.map fun g=>⟨g,0,none⟩,by simp [sl],fun _=>by simp⟩
def G5 (A:Option Nat) (cap:Nat) (r:List Nd × Int × Int):Value:= .tuple #[sl A r.1.length cap,.int .i64 r.2.1,.int .i64 r.2.2]
set_option maxHeartbeats 4000000 in
theorem Gw (a:ByteArray) (w:World) (hW:Words w) (r:List Nd × Int × Int) (hr:r=bK (bq dx (ap a)) (a.size:Int)):
  aF Tryz.prog 139 [.string a] w fun v H=> ∃ A cap,v=G5 A cap r∧H= [.own A 293 11 r.1.length cap (r.1.flatMap bN)]:=by
 refine NU Tryz.func139 rfl Tryz.ntmps139 rfl ?_
 have htl:=nr dx (ap a)
 have hT:=fun w' (hm:Σ' H,Mem w w' H)=>JW a w' (hW.next hm.2)
 obtain ⟨⟨toks,at0,e0⟩,hx⟩: ∃ x,bq dx (ap a)=x:=⟨_,rfl⟩
 rw [hx] at hr htl
 simp only [hx,G6] at hT
 dsimp only at htl
 refine yN 293 11 ?_
 refine yN 293 11 ?_
 refine KR (fun e a w _ h=>Ml h) ?_
 obtain ⟨r1,hr1,_⟩:=sV (a.size:Int) (20*toks.length+40) (.level 1) ⟨toks,[]⟩ ⟨by omega,by omega⟩ (by simp [Job.c])
 have hP: ∀ (A:Option Nat) (cap g:Nat) (R:List Blk),toks.length≤cap→FnP Tryz.prog 176 [.pointer (some ⟨g,0,none⟩)] w (pB g (sl A toks.length cap) A cap (a.size:Int) toks none 0 []++R) (PR toks A cap (a.size:Int) g R r1) (PD R r1):=fun A cap g R hc=>
  (I9 (20*toks.length+40)).2.2.2.2 toks A cap (a.size:Int) g ⟨toks,[]⟩ (sl A toks.length cap) none 0 r1 R w hc (by omega) (At.start toks A cap) hr1
 obtain ⟨ff,hff⟩: ∃ ff,20*toks.length+40=ff:=⟨_,rfl⟩
 rw [hff] at hr1
 repeat' (first|(apply ay (f:=174);exact rfl;exact rfl;exact fun w' hm=>hT w' ⟨_,hm⟩;rintro _ _ ⟨A,cap,rfl,rfl⟩)|(rename_i g2 g3 g4;refine KS (cs:= [_,_,_]) rfl rfl ?_)|(refine KR (fun e a w _ h=>Ml h) ?_)|(refine Pp (fun e a w h=>PT h) ?_)|(rename_i g2 g3 g4;refine vq (id:=3) [⟨2,g2,128,.slice none 0 0,.slice none 0 0⟩,⟨3,g3,3,.int .i64 at0,.int .i64 at0⟩,⟨4,g4,39,.int .i64 e0,.int .i64 e0⟩] [.own none 293 11 0 0 []] (by kernel_rfl) (by kernel_rfl) rfl mS ?_)|(refine kF [] [⟨3,g3,3,.int .i64 at0,.int .i64 at0⟩,⟨4,g4,39,.int .i64 e0,.int .i64 e0⟩] ⟨2,g2,128,.slice none 0 0,.slice none 0 0⟩ rfl rfl rfl rfl rfl rfl ?_)|(refine kF [⟨2,g2,128,.slice none 0 0,.slice none 0 0⟩] [⟨4,g4,39,.int .i64 e0,.int .i64 e0⟩] ⟨3,g3,3,.int .i64 at0,.int .i64 at0⟩ rfl rfl rfl rfl rfl rfl ?_)|(refine kF [⟨2,g2,128,.slice none 0 0,.slice none 0 0⟩,⟨3,g3,3,.int .i64 at0,.int .i64 at0⟩] [] ⟨4,g4,39,.int .i64 e0,.int .i64 e0⟩ rfl rfl rfl rfl rfl rfl ?_)|(refine uQ ⟨3,g3,3,.int .i64 at0,.int .i64 at0⟩ (.tail _ (.head _)) (f:=60) (j:=3) rfl (by decide+kernel) rfl rfl rfl ?_)|(refine uQ ⟨4,g4,39,.int .i64 e0,.int .i64 e0⟩ (.tail _ (.tail _ (.head _))) (f:=60) (j:=4) rfl (by decide+kernel) rfl rfl rfl ?_)|apply zH|(apply ak;exact rfl;apply mh;exact rfl)|(apply ak;exact rfl;apply iO;exact rfl)|(apply Il (f:=176);exact rfl;exact rfl;infer_instance;exact rfl;rename_i gp;exact FnP.own (A:=A) pK (fun hcap=>FnP.msub (hP A cap _ _ hcap) (MSub.pick pK (MSub.pick pK (MSub.pick pK (MSub.refl _))))))|(rintro _ _ ⟨rfl,n,p',lv',B',cb',rfl,h2,rfl⟩;obtain ⟨u,hu⟩: ∃ u,hdT (a.size:Int) p'.l=u:=⟨_,rfl⟩)|(rintro _ _ ⟨e,rfl,rfl,h3⟩)|(apply aa (f:=177);exact rfl;exact rfl;(intro w' hm';exact At.head' (B:=B') (cb:=cb') (out:=p'.out) (fin:=(a.size:Int)) h2 hu (MSub.pick pK (MSub.pick pK (MSub.pick pK (MSub.nil _)))) w' hm'))|(apply aa (f:=179);exact rfl;exact rfl;(intro w' hm';exact Eo p'.out _ w' (Reads.of_own (A:=B') hm' pK)))|(refine bJ (f:=178) rfl rfl (jr _ _ _ _ _ (fun _ _=>False)) ?_ ?_)|(exact fun _ _ h=>h.elim)|(rintro _ _ ⟨rfl,rfl⟩)|refine sT ?_|refine sP ?_|refine sG ?_|refine sM fun _=> ?_|(refine sC ?_ ?_<;>intro hb<;>try omega)|fail)
 ·
  have hr' :r=([],at0,e0):=by rw [hr];simp [bK,hb]
  subst hr'
  simp only [RA,Sq,BoxT.post,QU,QW]
  exact qY (.inl rfl) rfl rfl pK rfl pK rfl pK (H' := [.own none 293 11 0 0 []]) mS ⟨none,0,rfl,rfl⟩
 ·
  rename_i he0 gp _ u0 hu0 g1
  have hr' :r=([],u0.at_,4):=by rw [hr];simp [bK,hff,hr1,hu0,hb,Classical.not_not.1 he0]
  subst hr'
  refine ⟨_,.box g2 128 [.slice none 0 0]:: .box g3 3 [.int .i64 at0]:: .box g4 39 [.int .i64 e0]:: [.own none 293 11 0 0 []],_,rfl,?_,Ht g2 g3 g4 _ _ _ (u0.at_,4) w _,qY (.inl rfl) rfl rfl pK rfl pK rfl pK (H' := [.own none 293 11 0 0 []]) mS ⟨none,0,rfl,rfl⟩⟩
  simp only [Rj,QU,QW,pB]
  exact mS
 ·
  rename_i he0 gp _ g1 hb1
  have hr' :r=([],0,d9 p'.out):=by rw [hr];simp [bK,hff,hr1,hu,Classical.not_not.1 hb1,hb,Classical.not_not.1 he0]
  subst hr'
  exact ⟨.returning,_,_,rfl,.refl _,Hs _ _ _ _ _,qY (.inl rfl) rfl rfl pK rfl pK rfl pK (H' := [.own none 293 11 0 0 []]) mS ⟨none,0,rfl,rfl⟩⟩
 ·
  rename_i he0 gp _ g1 hb1
  have hr' :r=(p'.out,0,0):=by rw [hr];simp [bK,hff,hr1,hu,Classical.not_not.1 hb1,Classical.not_not.1 hb,Classical.not_not.1 he0]
  subst hr'
  exact ⟨.returning,_,_,rfl,.refl _,Hs _ _ _ _ _,qY (.inl rfl) rfl rfl pK rfl pK rfl pK (H' := [.own B' 293 11 p'.out.length cb' (p'.out.flatMap bN)]) mS ⟨B',cb',rfl,rfl⟩⟩
 ·
  have hr' :r=([],e.1,e.2):=by rw [hr];simp [bK,hff,hr1,Classical.not_not.1 hb]
  subst hr'
  refine ⟨_,.box g2 128 [.slice none 0 0]:: .box g3 3 [.int .i64 at0]:: .box g4 39 [.int .i64 e0]:: [.own none 293 11 0 0 []],_,rfl,MSub.trans ?_ h3,Ht g2 g3 g4 _ _ _ e w _,qY (.inl rfl) rfl rfl pK rfl pK rfl pK (H' := [.own none 293 11 0 0 []]) mS ⟨none,0,rfl,rfl⟩⟩
  exact mS
end Go.SL
namespace Go.SL
open Go
theorem fg (c:Int):aG c=true↔48≤c∧c≤57:=by simp [aG]
theorem iA (c:Int):bT c=true↔(65≤c∧c≤90)∨(97≤c∧c≤122):=by simp [bT]
theorem NK (c:Int):bT c=false↔ ¬ ((65≤c∧c≤90)∨(97≤c∧c≤122)):=by rw [← iA];simp
theorem Df (c:Int):bT (upC c)=bT c:=by
 rw [RQ,iA,iA,upC]
 by_cases h:97≤c∧c≤122
 ·
  rw [if_pos h];omega
 ·
  rw [if_neg h]
theorem Mk (c:Int):aG (upC c)=aG c:=by
 rw [RQ,fg,fg,upC]
 by_cases h:97≤c∧c≤122
 ·
  rw [if_pos h];omega
 ·
  rw [if_neg h]
theorem Nf (c:Int):upC (upC c)=upC c:=by
 simp only [upC]
 split
 ·
  rw [if_neg (by omega)]
 ·
  rfl
theorem Nh {c:Int} (h:aG c=true):upC c=c:=by
 simp only [aG,Rk,decide_eq_true_eq] at h
 rw [upC,if_neg (by omega)]
theorem qP: ∀ l:List Int,(l.map upC).takeWhile bT=(l.takeWhile bT).map upC
 | []=>rfl
 |c::r=>by
  simp only [RA,List.takeWhile_cons,Df]
  split
  ·
   rw [qP r];rfl
  ·
   rfl
theorem rS: ∀ l:List Int,(l.map upC).dropWhile bT=(l.dropWhile bT).map upC
 | []=>rfl
 |c::r=>by
  simp only [RA,List.dropWhile_cons,Df]
  split
  ·
   rw [rS r]
  ·
   rfl
theorem ug: ∀ (l:List Int) (v:Int),bu (l.map upC) v=bu l v
 | [],_=>rfl
 |c::r,v=>by simp only [RA,bu,Nf,ug r]
theorem Mt: ∀ l:List Int,(l.map upC).all aG=l.all aG
 | []=>rfl
 |c::r=>by simp only [RA,Tw,Mk,Mt r]
theorem wL: ∀ {l:List Int},l.all aG=true→l.map upC=l
 | [],_=>rfl
 |c::r,h=>by
  simp only [Tw,Rk] at h
  simp only [RA,Nh h.1,wL h.2]
theorem NP (l:List Int):((l.map upC).head? =some 48)↔(l.head? =some 48):=by
 cases l with
 |nil=>simp
 |cons c r=>
  simp only [RA,List.head?_cons,Option.some.injEq,upC]
  split<;>omega
theorem Mw (l:List Int):cy (l.map upC)=cy l:=by
 unfold cy
 simp only [qP,rS,List.map_eq_nil_iff,NP,Mt,ug]
 split
 ·
  rfl
 ·
  rename_i h
  have hd:(l.dropWhile bT).all aG=true:=by
   cases hh:(l.dropWhile bT).all aG with
   |true=>rfl
   |false=>exact absurd (.inr (.inr (.inr hh))) h
  rw [wL hd]
theorem sY {p:Int→Bool}: ∀ {l:List Int} {n:Nat},n≤aD p l→aD p (l.take n)=n
 | [],n,h=>by simp [aD] at h;subst h;rfl
 |c::r,0,_=>rfl
 |c::r,n+1,h=>by
  simp only [aD] at h
  split at h
  ·
   rename_i hc
   simp only [Sl,aD,hc,if_true]
   rw [sY (by omega)]
  ·
   omega
theorem qV {p:Int→Bool}: ∀ {l:List Int} {n:Nat},aD p l≤n→aD p (l.take n)=aD p l
 | [],n,_=>by simp
 |c::r,0,h=>by
  simp only [aD] at h
  split at h
  ·
   omega
  ·
   rename_i hc;simp [aD,hc]
 |c::r,n+1,h=>by
  simp only [aD] at h ⊢
  simp only [Sl,aD]
  split at h
  ·
   rename_i hc;simp only [hc,if_true];rw [qV (by omega)]
  ·
   rename_i hc;simp [hc]
theorem nS {l:List Int} (h:bZ l≠0): ∃ r,l=46::r∧bZ l=aD aG r:=by
 cases l with
 |nil=>exact absurd rfl h
 |cons c r=>
  by_cases hc:c=46
  ·
   subst hc;exact ⟨r,rfl,rfl⟩
  ·
   exact absurd (mF hc) h
theorem DP {l:List Int} {w p:Nat} (hw:aD aG l=w) (hp:bZ (l.drop w)=p) (h0:w≠0) (h4:p≤4):
  gQ (l.take (if p=0 then w else w+1+p))=if cK<bD (l.take w++(l.drop (w+1)).take p++List.replicate (4 - p) 48) 0 then (0,3) else (bD (l.take w++(l.drop (w+1)).take p++List.replicate (4 - p) 48) 0,0):=by
 have hwl:w≤l.length:=hw ▸ bY aG l
 obtain ⟨c,r,rfl⟩: ∃ c r,l=c::r:=by
  cases l with
  |nil=>simp [aD] at hw;omega
  |cons c r=>exact ⟨c,r,rfl⟩
 have hc:aG c=true:=j9 (c::r) 0 c (by omega) rfl
 have hc45:c≠45:=by simp only [aG,Rk,decide_eq_true_eq] at hc;omega
 have hneg: ∀ n,0<n→decide (((c::r).take n).head? =some 45)=false:=by
  intro n hn
  cases n with
  |zero=>omega
  |succ n=>simp [hc45]
 by_cases hp0:p=0
 ·
  subst hp0
  rw [if_pos rfl]
  unfold gQ
  have hrun:aD aG ((c::r).take w)=w:=sY (by omega)
  have hdrop:((c::r).take w).drop w= []:=by rw [List.drop_eq_nil_iff,RF];omega
  have htt:((c::r).take w).take w=(c::r).take w:=by rw [List.take_take,Nat.min_self]
  simp only [hneg w (by omega),Sa,if_false,hrun,hdrop,htt]
  simp [h0]
 ·
  rw [if_neg hp0]
  obtain ⟨q,hq,hq2⟩:=nS (l:=(c::r).drop w) (by omega)
  have hpq:aD aG q=p:=by omega
  have hpl:p≤q.length:=hpq ▸ bY aG q
  have hlen:(c::r).length=w+1+q.length:=by
   have:=congrArg List.length hq
   rw [RC] at this
   simp only [Rx] at this ⊢
   omega
  have hd1:(c::r).drop (w+1)=q:=by
   rw [← SH,hq];rfl
  have hrun:aD aG ((c::r).take (w+1+p))=w:=by rw [qV (by omega)];exact hw
  have hdrop:((c::r).take (w+1+p)).drop w=46::q.take p:=by
   rw [List.drop_take,hq,show w+1+p - w=p+1 by omega];rfl
  have htt:((c::r).take (w+1+p)).take w=(c::r).take w:=by rw [List.take_take,Tb (by omega)]
  have hrp:aD aG (q.take p)=p:=sY (by omega)
  have hlp:(q.take p).length=p:=by rw [RF];omega
  unfold gQ
  simp only [hneg (w+1+p) (by omega),Sa,if_false,hrun,hdrop,htt,List.tail_cons,hrp,hd1]
  have hfrac:(decide (1<(46::q.take p).length) && (decide ((46::q.take p).head? =some 46) && decide (p+1=(46::q.take p).length)))=true:=by
   simp only [Rx,hlp,List.head?_cons,decide_true,RX,Si]
   simp;omega
  simp only [hfrac,if_true]
  have h5:(q.take p++ [48,48,48,48,48]).getD 4 0=48:=by
   rw [RD,R0 (by omega),hlp]
   rcases (by omega:p=1∨p=2∨p=3∨p=4) with rfl|rfl|rfl|rfl<;>rfl
  have h6:(q.take p++ [48,48,48,48,48]).take 4=q.take p++List.replicate (4 - p) 48:=by
   rw [List.take_append,hlp,Sg (by omega)]
   rcases (by omega:p=1∨p=2∨p=3∨p=4) with rfl|rfl|rfl|rfl<;>rfl
  rw [if_neg (by simp [h0])]
  simp only [h5,h6]
  rw [if_neg (show ¬ (53:Int)≤48 by decide),Up,Rz]
theorem wD (l:List Int):fR l=(kS l).map fun x=>(⟨1,x.1,av,aN,0⟩,x.2):=by
 unfold fR kS
 dsimp only
 split
 ·
  rfl
 ·
  rename_i h
  have h0:aD aG l≠0:=fun e=>h (.inl e)
  have h4:bZ (l.drop (aD aG l))≤4:=by
   rcases SY 4 (bZ (l.drop (aD aG l))) with h4|h4
   ·
    exact absurd (.inr h4) h
   ·
    exact h4
  rw [DP rfl rfl h0 h4]
  split
  ·
   rfl
  ·
   rfl
theorem BU (m:List Int):lh (34::34::m)=(lh m).map (34:: ·):=by
 rw [lh.eq_def]
 simp
theorem Cf: ∀ (n:Nat) (l:List Int),l.length≤n→kH l=(cI l).bind fun k=>(lh (l.take k)).map fun t=>(t,k+1):=by
 intro n
 induction n with
 |zero=>intro l h;have:l= []:=Sf (by omega);subst this;rfl
 |succ n ih=>
  intro l h
  cases l with
  |nil=>rfl
  |cons c r=>
   simp only [Rx] at h
   by_cases hc:c=34
   ·
    subst hc
    cases r with
    |nil=>rfl
    |cons d r' =>
     simp only [Rx] at h
     by_cases hd:d=34
     ·
      subst hd
      rw [kH.eq_def,cI.eq_def]
      simp only [ne_eq,not_true,if_false,if_true]
      rw [ih r' (by omega)]
      cases hk:cI r' with
      |none=>rfl
      |some k=>
       simp only [Sm,Option.bind_some]
       rw [Sl,Sl,BU]
       cases lh (r'.take k)<;>rfl
     ·
      rw [kH.eq_def,cI.eq_def]
      simp [hd,lh]
   ·
    rw [kH.eq_def,kY hc]
    simp only [ne_eq,hc,not_false_eq_true,if_true]
    rw [ih r (by omega)]
    cases hk:cI r with
    |none=>rfl
    |some k=>
     simp only [Sm,Option.bind_some]
     rw [Sl,sF hc]
     cases lh (r.take k)<;>rfl
theorem JN: ∀ (n:Nat) (l:List Int) (k:Nat),l.length≤n→cI l=some k→l[k]? =some 34∧ ∃ t,lh (l.take k)=some t∧t.length≤k:=by
 intro n
 induction n with
 |zero=>intro l k h hk;have:l= []:=Sf (by omega);subst this;cases hk
 |succ n ih=>
  intro l k h hk
  cases l with
  |nil=>cases hk
  |cons c r=>
   simp only [Rx] at h
   by_cases hc:c=34
   ·
    subst hc
    cases r with
    |nil=>cases hk;exact ⟨rfl,[],rfl,Re _⟩
    |cons d r' =>
     simp only [Rx] at h
     by_cases hd:d=34
     ·
      subst hd
      rw [cI.eq_def] at hk
      simp only [ne_eq,not_true,if_false,if_true] at hk
      cases hk' :cI r' with
      |none=>rw [hk'] at hk;cases hk
      |some j=>
       rw [hk'] at hk
       cases hk
       obtain ⟨h1,t,h2,h3⟩:=ih r' j (by omega) hk'
       refine ⟨h1,34::t,?_,by simp only [Rx];omega⟩
       rw [Sl,Sl,BU,h2];rfl
     ·
      rw [cI.eq_def] at hk
      simp [hd] at hk
      subst hk
      exact ⟨rfl,[],rfl,Re _⟩
   ·
    rw [kY hc] at hk
    cases hk' :cI r with
    |none=>rw [hk'] at hk;cases hk
    |some j=>
     rw [hk'] at hk
     cases hk
     obtain ⟨h1,t,h2,h3⟩:=ih r j (by omega) hk'
     refine ⟨h1,c::t,?_,by simp only [Rx];omega⟩
     rw [Sl,sF hc,h2];rfl
theorem KK {r:List Int} (hp:(34::r).all (fun c=>bF c)=true) (hl:r.length≤256):ny (34::r)=(kH r).map fun x=>(⟨2,0,mkB x.1,aN,0⟩,x.2+1):=by
 unfold ny
 rw [Cf r.length r (Re _)]
 simp only [SM,ne_eq,not_true,if_false,TJ,SG]
 cases hk:cI r with
 |none=>rfl
 |some k=>
  obtain ⟨h1,t,h2,h3⟩:=JN r.length r k (Re _) hk
  obtain ⟨hkl,h1⟩:=Rg.1 h1
  have e1:(34::r).take (k+2)=34::r.take (k+1):=rfl
  have e2:r.take (k+1)=r.take k++ [34]:=by rw [Ra hkl,h1]
  have hall:(34::r.take (k+1)).all (fun c=>bF c)=true:=by
   rw [← e1]
   rw [SE] at hp ⊢
   exact fun x hx=>hp x (Sy hx)
  have e3:gy (34::r.take (k+1))=(t,0):=by
   unfold gy
   rw [hall]
   rw [if_neg (by rw [e2];simp [List.getLast?_cons])]
   have:((34::r.take (k+1)).drop 1).dropLast=r.take k:=by rw [TJ,SG,e2,Ue]
   rw [this,h2]
   simp only
   rw [if_neg (by omega)]
  simp only [e1,e3,Option.bind_some,h2,Sm]
  simp
theorem KG (l:List Int):upW l=(l.take (aD cV l)).map upC:=rfl
theorem QI (l:List Int):cy (upW l)=cy (l.take (aD cV l)):=by rw [KG,Mw]
def jD (l:List Int):Option (Tk × Nat):=match kW l with
 |some x=>some x
 |none=>iI l
theorem xb {l:List Int} (h:l.headD 0≠35): ∀ (ns:List (List Int)) (k:Int),(∀ s∈ns,s.head? =some 35)→kA l ns k=none
 | [],_,_=>rfl
 |s::r,k,hs=>by
  have h1:=hs s QY
  rw [kA,if_neg,xb h r _ fun s hs' =>hs s (Rq _ hs')]
  intro e
  cases s with
  |nil=>cases h1
  |cons a s=>
   cases h1
   cases l with
   |nil=>cases e
   |cons c l=>
    simp only [Rx,Sl,RA,List.cons.injEq] at e
    simp only [SM] at h
    have:=e.1
    simp only [upC] at this
    split at this<;>omega
theorem mO {l:List Int} (h:l.headD 0≠35):kW l=none:=by
 unfold kW
 rw [xb h dV 1 (by decide)]
 rfl
def rz:List Int:= [60,62,43,45,42,47,94,38,61,37]
theorem wB {l:List Int} (h:l.headD 0∉rz): ∀ ns:List (List Int × Int),(∀ s∈ns,∃ c,s.1.head? =some c∧c∈rz)→opL l ns=none
 | [],_=>rfl
 |(s,k)::r,hs=>by
  obtain ⟨a,h1,h2⟩:=hs (s,k) QY
  rw [opL,if_neg,wB h r fun s hs' =>hs s (Rq _ hs')]
  intro e
  cases s with
  |nil=>cases h1
  |cons b s=>
   cases h1
   cases l with
   |nil=>cases e
   |cons c l=>
    simp only [Rx,Sl,List.cons.injEq] at e
    simp only [SM] at h
    exact h (e.1 ▸ h2)
theorem qe {l:List Int} (h:l.headD 0∉rz) (h1:l.headD 0≠40) (h2:l.headD 0≠41) (h3:l.headD 0≠44):iI l=none:=by
 unfold iI
 rw [wB h fu (by decide)]
 simp only [h1,h2,h3,if_false]
theorem AA {l:List Int} (h:aG (l.headD 0)=false):fR l=none:=by
 unfold fR
 have:aD aG l=0:=by
  cases l with
  |nil=>rfl
  |cons c r=>simp only [SM] at h;simp [aD,h]
 simp [this]
theorem vQ {l:List Int} (h:l.headD 0≠34):ny l=none:=by
 unfold ny
 rw [if_pos h]
theorem p7 {l:List Int} (h:bT (l.headD 0)=false):gZ l=none:=by
 unfold gZ
 rw [if_pos h]
def bB (l:List Int):Option (Tk × Nat):=
 if aG (l.headD 0) then (kS l).map fun x=>(⟨1,x.1,av,aN,0⟩,x.2)
 else if l.headD 0=34 then (kH l.tail).map fun x=>(⟨2,0,mkB x.1,aN,0⟩,x.2+1)
 else if bT (l.headD 0) then gZ l
 else jD l
theorem ub (c:Int):c∈rz↔c=60∨c=62∨c=43∨c=45∨c=42∨c=47∨c=94∨c=38∨c=61∨c=37:=by simp [rz]
theorem IK {l:List Int} (hp:l.all (fun c=>bF c)=true) (hl:l.length≤256):dx l=bB l:=by
 have hF:dx l=match fR l with
  |some x=>some x
  |none=>match ny l with
   |some x=>some x
   |none=>match gZ l with
    |some x=>some x
    |none=>jD l:=by
  unfold dx nB mN jD
  cases fR l<;>simp only [mN]
  cases ny l<;>simp only
  cases gZ l<;>simp only
  cases kW l<;>simp only
  cases iI l<;>rfl
 rw [hF]
 unfold bB
 by_cases h1:aG (l.headD 0)=true
 ·
  have h1' :=(fg _).1 h1
  rw [if_pos h1,← wD,vQ (by omega),p7 ((NK _).2 (by omega)),jD,mO (by omega),qe (by rw [ub];omega) (by omega) (by omega) (by omega)]
  cases fR l<;>rfl
 ·
  rw [if_neg h1]
  have h1' :aG (l.headD 0)=false:=by simpa using h1
  rw [AA h1']
  by_cases h2:l.headD 0=34
  ·
   rw [if_pos h2]
   cases l with
   |nil=>cases h2
   |cons c r=>
    simp only [SM] at h2
    subst h2
    rw [KK hp (by simp only [Rx] at hl;omega),List.tail_cons,p7 (by rw [SM];decide),jD,mO (by rw [SM];decide),qe (by rw [SM];decide) (by rw [SM];decide) (by rw [SM];decide) (by rw [SM];decide)]
    cases kH r<;>rfl
  ·
   rw [if_neg h2,vQ h2]
   by_cases h3:bT (l.headD 0)=true
   ·
    have h3' :=(iA _).1 h3
    rw [if_pos h3,jD,mO (by omega),qe (by rw [ub];omega) (by omega) (by omega) (by omega)]
    cases gZ l<;>rfl
   ·
    rw [if_neg h3,p7 (by simpa using h3)]
theorem EW {l:List Int} (hp:l.all (fun c=>bF c)=true) (hl:l.length≤256): ∀ f i,bn dx l f i=bn bB l f i:=by
 intro f
 induction f with
 |zero=>intro i;rfl
 |succ f ih=>
  intro i
  simp only [bn]
  have h1:(l.drop i).all (fun c=>bF c)=true:=by
   rw [SE] at hp ⊢
   exact fun x hx=>hp x (Th hx)
  rw [IK h1 (by rw [RC];omega)]
  simp only [ih]
theorem EV (l:List Int):bq dx l=bq bB l:=by
 unfold bq
 split
 ·
  rfl
 ·
  rename_i hl
  cases h:l.findIdx? (fun c=> !bF c) with
  |some i=>rfl
  |none=>
   simp only
   rw [EW _ (by omega)]
   rw [Tq] at h
   rw [SE]
   intro x hx
   have:=h x hx
   simpa using this
end Go.SL
namespace Go.SL
open Go Go.Proofs
attribute [local irreducible] W WL WQ WG WA WX WLI WR WT VOp RW thn blk bp scp aR ba bE aF FnIn FnP
theorem PQ {a:ByteArray} {i:Nat} (h:i<a.size):jA (sub a i (i+1))=if bF (bat a i) then 0 else 4:=by
 have h1:ap (sub a i (i+1))= [bat a i]:=by
  rw [eM,bk h,Ul]
  rfl
 have h2:(sub a i (i+1)).size=1:=by rw [cw a (by omega)];omega
 simp only [jA,h2,nN,h1]
 cases h:bF (bat a i)<;>simp [h]
structure Mn where
 formula:Bool
 v:Vl
 tree:List Nd
def eqB:ByteArray:=⟨#[61]⟩
def sq:Mn:=⟨false,bI,[]⟩
def ofP (b:ByteArray):Mn × Int × Int:=
 if 256<b.size then (sq,0,5)
 else match (ap b).findIdx? (fun c=> !bF c) with
  |some i=>(sq,(i:Int),4)
  |none=>
   if (kC b eqB).2=false then (⟨false,tG b,[]⟩,0,0)
   else match bK (bq dx (ap (kC b eqB).1)) ((kC b eqB).1.size:Int) with
    |(t,at_,e)=>if e≠0 then (sq,IntKind.i64.wrap (at_+1),e) else (⟨true,bI,t⟩,0,0)
def AY (m:Mn) (tv:Value):List Value:= [.bool m.formula,.int .u8 m.v.kind,.int .i64 m.v.num,.string m.v.text,tv]
def ofV (A:Option Nat) (cap:Nat) (r:Mn × Int × Int):Value:= .tuple #[.agg (AY r.1 (sl A r.1.tree.length cap)).toArray,.int .i64 r.2.1,.int .i64 r.2.2]
set_option maxHeartbeats 2000000 in
theorem OQ (b:ByteArray) (w:World) (hW:Words w):aF Tryz.prog 99 [.string b] w fun v H=> ∃ A cap,v=ofV A cap (ofP b)∧H= [.own A 293 11 (ofP b).1.tree.length cap ((ofP b).1.tree.flatMap bN)]:=by
 refine aq Tryz.func99 rfl Tryz.ntmps99 rfl ?_
 refine aB 293 11 ?_
 unfold ofP
 by_cases hlen:256<b.size
 ·
  rw [if_pos hlen]
  repeat' (first|refine sT ?_|refine sS ?_|refine sT2 ?_|refine sM fun _=> ?_|(refine sC ?_ ?_<;>intro hb<;>try omega)|fail)
  all_goals first
   |(exfalso;omega)
   |exact fY (.inl rfl) rfl rfl pK rfl rfl rfl (H' := [.own none 293 11 0 0 []]) mS ⟨none,0,rfl,rfl⟩
 rw [if_neg hlen]
 repeat' (first|refine sT ?_|refine sS ?_|refine sT2 ?_|refine sM fun _=> ?_|(refine sC ?_ ?_<;>intro hb<;>try omega)|fail)
 all_goals try (exfalso;omega)
 rename_i g2
 refine aw [0,2,14] rfl (fun i:Nat=> [(15,.int .i64 (i:Int))]) (fun _=> [.box g2 130 [.bool false,.int .u8 0,.int .i64 0,.string av,.slice none 0 0],.own none 293 11 0 0 []]) (fun i=>i≤b.size∧ ∀ j,j<i→bF (bat b j)=true) (fun i=>b.size - i) 0 ⟨by omega,fun j h=>by omega⟩ sB mS ?_
 rintro i ⟨hi,hpl⟩
 by_cases hlt:i<b.size
 ·
  have hg:=PQ hlt
  have hG:=fun w=>Dq (sub b i (i+1)) w
  rw [hg] at hG
  by_cases hc:bF (bat b i)=true
  ·
   rw [if_pos hc] at hG
   repeat' (first|(apply ak;exact rfl;apply fV;(iterate 3 exact rfl);exact ⟨by omega,by omega⟩)|(apply aa;exact rfl;exact rfl;(intro w hm;exact hG w))|refine sT ?_|refine sS ?_|refine sT2 ?_|refine sN ?_|refine sM fun _=> ?_|(refine sC ?_ ?_<;>intro hb<;>try omega)|fail)
   all_goals try (exfalso;omega)
   refine ⟨i+1,?_,(by first|omega|(dsimp only;omega)),sB,sB,mS⟩
   refine ⟨hlt,fun j hj=> ?_⟩
   rcases (by omega:j<i∨j=i) with h|rfl
   ·
    exact hpl j h
   ·
    exact hc
  ·
   rw [if_neg hc] at hG
   repeat' (first|(apply ak;exact rfl;apply fV;(iterate 3 exact rfl);exact ⟨by omega,by omega⟩)|(apply aa;exact rfl;exact rfl;(intro w hm;exact hG w))|refine sT ?_|refine sS ?_|refine sT2 ?_|refine sN ?_|refine sM fun _=> ?_|(refine sC ?_ ?_<;>intro hb<;>try omega)|fail)
   all_goals try (exfalso;omega)
   have hf:(ap b).findIdx? (fun c=> !bF c)=some i:=oD hlt (by simp [hc]) fun j hj=>by rw [hpl j hj];rfl
   rw [hf]
   exact fY (.inl rfl) rfl rfl pK rfl rfl rfl (H' := [.own none 293 11 0 0 []]) mS ⟨none,0,rfl,rfl⟩
 ·
  have e:i=b.size:=by omega
  subst e
  have hf:(ap b).findIdx? (fun c=> !bF c)=none:=mI fun j hj=>by rw [hpl j hj];rfl
  rw [hf]
  dsimp only
  have hcut:=fun w=>Mm b eqB (by omega) w
  obtain ⟨⟨rest,is⟩,hx⟩: ∃ x,kC b eqB=x:=⟨_,rfl⟩
  rw [hx] at hcut ⊢
  cases is with
  |false=>
   rw [if_pos rfl]
   repeat' (first|(apply aa;exact rfl;exact rfl;(intro w hm;exact hcut w))|(apply aa (f:=138);exact rfl;exact rfl;(intro w' hm';exact DT b (by omega) w' (hW.next hm')))|refine sT ?_|refine sS ?_|refine sT2 ?_|refine sN ?_|refine sM fun _=> ?_|(refine sC ?_ ?_<;>intro hb<;>try omega)|fail)
   all_goals try (exfalso;omega)
   exact fY (.inl rfl) rfl rfl pK rfl rfl rfl (H' := [.own none 293 11 0 0 []]) mS ⟨none,0,rfl,rfl⟩
  |true=>
   rw [if_neg (by simp)]
   dsimp only
   have hF:=fun (w' :World) (h:Words w')=>Gw rest w' h _ rfl
   obtain ⟨⟨t,at0,e0⟩,hr⟩: ∃ x,bK (bq dx (ap rest)) (rest.size:Int)=x:=⟨_,rfl⟩
   simp only [hr,G5] at hF
   rw [hr]
   dsimp only
   by_cases he:e0≠0
   ·
    rw [if_pos he]
    repeat' (first|(apply aa;exact rfl;exact rfl;(intro w hm;exact hcut w))|(apply ay (f:=139);exact rfl;exact rfl;(intro w' hm';exact hF w' (hW.next hm'));rintro _ _ ⟨A,cap,rfl,rfl⟩)|(apply ak;exact rfl;apply vK;exact rfl;exact rfl)|refine sT ?_|refine sS ?_|refine sT2 ?_|refine sN ?_|refine sM fun _=> ?_|(refine sC ?_ ?_<;>intro hb<;>try omega)|fail)
    all_goals try (exfalso;omega)
    exact fY (.inl rfl) rfl rfl pK rfl rfl rfl (H' := [.own none 293 11 0 0 []]) mS ⟨none,0,rfl,rfl⟩
   ·
    rw [if_neg he]
    repeat' (first|(apply aa;exact rfl;exact rfl;(intro w hm;exact hcut w))|(apply ay (f:=139);exact rfl;exact rfl;(intro w' hm';exact hF w' (hW.next hm'));rintro _ _ ⟨A,cap,rfl,rfl⟩)|(apply ak;exact rfl;apply vK;exact rfl;exact rfl)|refine sT ?_|refine sS ?_|refine sT2 ?_|refine sN ?_|refine sM fun _=> ?_|(refine sC ?_ ?_<;>intro hb<;>try omega)|fail)
    all_goals try (exfalso;omega)
    exact fY (.inl rfl) rfl rfl pK rfl rfl rfl (H' := [.own A 293 11 t.length cap (t.flatMap bN)]) mS ⟨A,cap,rfl,rfl⟩
end Go.SL
namespace Go.SL
open Go
def ofR (b:ByteArray):Mn × Int × Int:=
 if 256<b.size then (sq,0,5)
 else match (ap b).findIdx? (fun c=> !bF c) with
  |some i=>(sq,(i:Int),4)
  |none=>
   if (ap b).headD 0≠61 then (⟨false,xw b,[]⟩,0,0)
   else match bK (bq bB (ap (sub b 1 b.size))) ((sub b 1 b.size).size:Int) with
    |(t,at_,e)=>if e≠0 then (sq,IntKind.i64.wrap (at_+1),e) else (⟨true,bI,t⟩,0,0)
theorem AQ {b:ByteArray} (h: ¬ 256<b.size) (hp:(ap b).findIdx? (fun c=> !bF c)=none):jA b=0:=by
 rw [Tq] at hp
 unfold jA
 rw [nN]
 have:(ap b).all bF=true:=by
  rw [SE]
  intro c hc
  simpa using hp c hc
 simp [h,this]
theorem Ly (b:ByteArray):ofP b=ofR b:=by
 unfold ofP ofR
 by_cases h1:256<b.size
 ·
  rw [if_pos h1,if_pos h1]
 rw [if_neg h1,if_neg h1]
 cases hf:(ap b).findIdx? (fun c=> !bF c) with
 |some i=>rfl
 |none=>
  dsimp only
  have hq:ap eqB= [61]:=rfl
  have hs:eqB.size=1:=rfl
  have h61:(ap b).take 1= [61]↔(ap b).headD 0=61:=by cases ap b<;>simp
  have hcut:kC b eqB=if (ap b).headD 0=61 then (sub b 1 b.size,true) else (b,false):=by
   unfold kC
   rw [hq,hs]
   by_cases h:(ap b).headD 0=61
   ·
    rw [if_pos (h61.2 h),if_pos h]
   ·
    rw [if_neg (fun h' =>h (h61.1 h')),if_neg h]
  rw [hcut]
  by_cases h2:(ap b).headD 0=61
  ·
   rw [if_pos h2,if_neg (by simp),if_neg (show ¬ ((ap b).headD 0≠61) from fun h=>h h2),EV]
  ·
   rw [if_neg h2,if_pos rfl,if_pos h2,JK (AQ h1 hf)]
end Go.SL

/-
  Lemmas and walks, put together: B4 D1 B5 C7 D2 Gp G1 Ex Sl29 Rh Rf Ic Ri Sl33 Jn He.
-/
import Derived.Test.YtoanpdoacdpgeaaGreatDoorKr11
import Derived.Test.YtoanpdoacdpgeaaGreatDoorKr12
set_option linter.unusedSimpArgs false
set_option linter.unusedVariables false
set_option maxRecDepth 20000
namespace Go.SL
open Go Go.Proofs
attribute [local irreducible] W WL WQ WG WA WX WLI WR WT VOp thn blk bo scp aN bi aF FnIn
def n9 (l:List Int):Option (Tk × Nat):=
 if fw (l.headD 0)=false then none
 else if (l.drop (aO cJ l)).headD 0=40 then some (⟨7,0,mkB (upW l),aZ,0⟩,aO cJ l)
 else if mkB (upW l)=x7 then some (⟨3,1,az,aZ,0⟩,aO cJ l)
 else if mkB (upW l)=s9 then some (⟨3,0,az,aZ,0⟩,aO cJ l)
 else if (cY (upW l)).2.2≠0 then none
 else if (l.drop (aO cJ l)).headD 0=58∧fw ((l.drop (aO cJ l+1)).headD 0)=true∧(cY (upW (l.drop (aO cJ l+1)))).2.2=0∧(l.drop (aO cJ l+1+aO cJ (l.drop (aO cJ l+1)))).headD 0≠40 then
  some (⟨if (cY (upW l)).1=(cY (upW (l.drop (aO cJ l+1)))).1∧(cY (upW l)).2.1=(cY (upW (l.drop (aO cJ l+1)))).2.1 then 5 else 6,0,az,
   ⟨min (cY (upW l)).1 (cY (upW (l.drop (aO cJ l+1)))).1,min (cY (upW l)).2.1 (cY (upW (l.drop (aO cJ l+1)))).2.1,max (cY (upW l)).1 (cY (upW (l.drop (aO cJ l+1)))).1,max (cY (upW l)).2.1 (cY (upW (l.drop (aO cJ l+1)))).2.1⟩,0⟩,aO cJ l+1+aO cJ (l.drop (aO cJ l+1)))
 else some (⟨5,0,az,wY (cY (upW l)).1 (cY (upW l)).2.1,0⟩,aO cJ l)
theorem Ca (a b:Int):(if b<a then b else a)=min a b:=by omega
theorem Cb (a b:Int):(if a<b then b else a)=max a b:=by omega
theorem vO (l:List Int) (hl:ek l) (hlen:l.length≤100000) (w:World):ay Tryz.prog 266 [.string (mkB l)] w (.tuple #[.agg (aQ ⟨(cY l).1,(cY l).2.1⟩).toArray,.int .i64 (cY l).2.2]):=by
 have h:=tB (mkB l) (by rw [jl];exact hlen) w
 rw [jq hl,CV] at h
 exact h
set_option maxHeartbeats 2000000 in
theorem De (a:ByteArray) (ha:a.size≤10000) (i:Nat) (hi:i<a.size) (g:Nat) (w:World) (hr:Ro w g 0 [.string a]):
  ay Tryz.prog 223 [.pointer (some ⟨g,0,none⟩),.int .i64 (i:Int)] w (wE (atT i (n9 ((ak a).drop i)))):=by
 refine aq Tryz.func223 rfl Tryz.ntmps223 rfl ?_
 have hl:=au a
 have hP1:=fun w' h=>uF a (by omega) i (by omega) g w' h
 have hwl:=cN cJ ((ak a).drop i)
 have hul:=oI ((ak a).drop i)
 have huk:ek (upW ((ak a).drop i)):=Br fun c hc=>jM a c (J7 hc)
 rw [IY] at hwl
 have hW:n9 ((ak a).drop i)=n9 ((ak a).drop i):=rfl
 unfold n9 at hW ⊢
 clear hW
 rw [ic]
 simp only [JG]
 generalize hn:aO cJ ((ak a).drop i)=n at*
 generalize hu:upW ((ak a).drop i)=u at*
 rw [ic]
 have hus:(mkB u).size=n:=by rw [jl,hul]
 have hA1:=vO u huk (by omega)
 generalize hau:cY u=A1 at hA1
 obtain ⟨c1,r1,e1⟩:=A1
 dsimp only at hA1 ⊢
 have hN1:=fun w' h=>sx a (by omega) (i+n) g w' h
 have hN2:=fun w' h=>sx a (by omega) (i+n+1) g w' h
 have hb1l:bat a (i+n)≠0→i+n<a.size:=fun h=>by
  rcases J3 (i+n) a.size with h1|h1
  ·
   exact h1
  ·
   exfalso;apply h;rw [bat,JD,List.getElem?_eq_none (by omega)];rfl
 generalize hb1:bat a (i+n)=b1 at hN1 hb1l
 rw [show i+(n+1)=i+n+1 by omega]
 have hvl:=oI ((ak a).drop (i+n+1))
 have hvk:ek (upW ((ak a).drop (i+n+1))):=Br fun c hc=>jM a c (J7 hc)
 have hvr:=cN cJ ((ak a).drop (i+n+1))
 rw [IY] at hvr
 have hP2:=fun w' hi h=>uF a (by omega) (i+n+1) hi g w' h
 generalize hm:aO cJ ((ak a).drop (i+n+1))=m at*
 generalize hv:upW ((ak a).drop (i+n+1))=v at*
 rw [ic,ic]
 have hvs:(mkB v).size=m:=by rw [jl,hvl]
 have hA2:=vO v hvk (by omega)
 generalize hav:cY v=A2 at hA2
 obtain ⟨c2,r2,e2⟩:=A2
 dsimp only at hA2 ⊢
 rw [show i+(n+1+m)=i+n+1+m by omega]
 have hN3:=fun w' h=>sx a (by omega) (i+n+1+m) g w' h
 generalize hb2:bat a (i+n+1)=b2 at hN2
 generalize hb3:bat a (i+n+1+m)=b3 at hN3
 repeat' (first|(apply aj;exact rfl;apply aD (o:=0) (off:=0);exact hr;exact rfl;exact rfl)|(apply ah;exact rfl;exact rfl;(intro w hm;exact lw _ w))|(apply aj (d:=28);exact rfl;apply lZ;exact rfl;exact hus)|(apply aj (d:=90);exact rfl;apply lZ;exact rfl;exact hvs)|(apply aj (d:=126);exact rfl;apply lZ;exact rfl;exact hvs)|(apply ah (d:=26);exact rfl;exact rfl;(intro w' hm;exact hP1 w' (hr.next hm)))|(apply ah (d:=77);exact rfl;exact rfl;(intro w' hm;exact hP2 w' (hb1l (by omega)) (hr.next hm)))|(apply ah (d:=34);exact rfl;exact rfl;(intro w' hm;exact hN1 w' (hr.next hm)))|(apply ah (d:=65);exact rfl;exact rfl;(intro w' hm;exact hN1 w' (hr.next hm)))|(apply ah (d:=71);exact rfl;exact rfl;(intro w' hm;exact hN2 w' (hr.next hm)))|(apply ah (d:=92);exact rfl;exact rfl;(intro w' hm;exact hN3 w' (hr.next hm)))|(apply ah;exact rfl;exact rfl;(intro w hm;exact hA1 w))|(apply ah;exact rfl;exact rfl;(intro w hm;exact hA2 w))|(apply aj (d:=99);exact rfl;exact Ca _ _ ▸ Bh rfl rfl)|(apply aj (d:=104);exact rfl;exact Ca _ _ ▸ Bh rfl rfl)|(apply aj (d:=109);exact rfl;exact Cb _ _ ▸ xY rfl rfl)|(apply aj (d:=114);exact rfl;exact Cb _ _ ▸ xY rfl rfl)|(apply aj (d:=118);exact rfl;exact FH (a:=⟨c1,r1⟩) (b:=⟨c2,r2⟩) rfl rfl)|(apply ah;exact rfl;exact rfl;(intro w hm;exact Gk ⟨c1,r1⟩ w))|refine sT ?_|refine sT2 ?_|refine sN ?_|refine sM fun _=> ?_|(refine sC ?_ ?_<;>intro hb<;>try omega)|fail)
 all_goals
  (refine fW ?_)
  simp_all [x7,s9,wE,atT,cG,aQ,aZ,az,wY,eqF,bu,kg]
end Go.SL
namespace Go.SL
open Go Go.Proofs
attribute [local irreducible] W WL WQ WG WA WX WLI WR WT VOp RW thn blk bo scp aN bf bi aF FnIn FnP
def iy (a b:ByteArray):ByteArray × Bool:=if (ak a).take b.size=ak b then (sub a b.size a.size,true) else (a,false)
theorem EC (a b:ByteArray) (ha:a.size≤1000000) (w:World):ay Tryz.prog 163 [.string a,.string b] w (.tuple #[.string (iy a b).1,.bool (iy a b).2]):=by
 refine aq Tryz.func163 rfl Tryz.ntmps163 rfl ?_
 have hp:=j4 a b
 unfold iy
 by_cases h:(ak a).take b.size=ak b
 ·
  rw [if_pos h]
  rw [decide_eq_true h] at hp
  have hb:b.size≤a.size:=by
   have:=congrArg List.length h
   rw [IU,au,au] at this
   omega
  repeat' (first|(apply ah;exact rfl;exact rfl;(intro w hm;exact hp w))|refine sT ?_|refine sT2 ?_|refine sM fun _=> ?_|(refine sC ?_ ?_<;>intro hb<;>try omega)|fail)
  all_goals exact gU eIO rfl rfl rfl (.refl _) rfl
 ·
  rw [if_neg h]
  rw [decide_eq_false h] at hp
  repeat' (first|(apply ah;exact rfl;exact rfl;(intro w hm;exact hp w))|refine sT ?_|refine sT2 ?_|refine sM fun _=> ?_|(refine sC ?_ ?_<;>intro hb<;>try omega)|fail)
  all_goals exact gU eIO rfl rfl rfl (.refl _) rfl
theorem CP (a b:ByteArray) (ha:a.size≤1000000) (w:World):ay Tryz.prog 137 [.string a,.string b] w (.tuple #[.string (iy a b).1,.bool (iy a b).2]):=by
 refine aq Tryz.func137 rfl Tryz.ntmps137 rfl ?_
 repeat' (first|(apply ah;exact rfl;exact rfl;(intro w hm;exact EC a b ha w))|refine sT ?_|refine sM fun _=> ?_|(refine sC ?_ ?_<;>intro hb<;>try omega)|fail)
 all_goals exact gU eIO rfl rfl rfl (.refl _) rfl
def GP (b:ByteArray):Vl × Bool:=(bD,decide (b=az))
def wN:ByteArray:=⟨#[39]⟩
def GN (b:ByteArray):Vl × Bool:=(⟨3,0,(iy b wN).1⟩,(iy b wN).2)
def FM (b:ByteArray):Vl × Bool:=(fE ⟨3,0,b⟩,decide ((fE ⟨3,0,b⟩).kind=2))
def FL (b:ByteArray):Vl × Bool:=(ig (m8 b).1,decide ((m8 b).2=0) && decide ((m8 b).1≤5))
def FK (b:ByteArray):Vl × Bool:=if (mG (ak b)).2=3 then (ig 3,true) else (Cc (mG (ak b)).1,decide ((mG (ak b)).2=0))
def ui (x:Vl × Bool):Value:= .tuple #[.agg (cL x.1).toArray,.bool x.2]
theorem DH (b:ByteArray) (g:Nat) (w:World) (hr:Ro w g 0 [.string b]):ay Tryz.prog 164 [.pointer (some ⟨g,0,none⟩)] w (ui (GP b)):=by
 refine aq Tryz.func164 rfl Tryz.ntmps164 rfl ?_
 have hm:Mem w w []:=Mem.refl w
 repeat' (first|(rename_i g1;refine jD (id:=1) 3 [.box g1 127 (cL bD)] (by kernel_rfl) (by kernel_rfl) rfl ?_)|(apply wq;exact rfl;(intro D ht;apply aD (o:=0) (off:=0);exact hr;exact rfl;exact rfl);exact fun _=>rfl)|(apply ja;exact rfl;exact rfl;exact pK;(iterate 3 exact rfl);decide;exact .refl _)|refine sT ?_|refine sG ?_|refine sM fun _=> ?_|(refine sC ?_ ?_<;>intro hb<;>try omega)|fail)
 all_goals ((refine fW ?_);rfl)
theorem DG (b:ByteArray) (hb:b.size≤1000000) (g:Nat) (w:World) (hr:Ro w g 0 [.string b]):ay Tryz.prog 165 [.pointer (some ⟨g,0,none⟩)] w (ui (GN b)):=by
 refine aq Tryz.func165 rfl Tryz.ntmps165 rfl ?_
 repeat' (first|(apply aj;exact rfl;apply aD (o:=0) (off:=0);exact hr;exact rfl;exact rfl)|(apply ah;exact rfl;exact rfl;(intro w hm;exact CP b wN hb w))|refine sT ?_|refine sM fun _=> ?_|(refine sC ?_ ?_<;>intro hb<;>try omega)|fail)
 all_goals ((refine fW ?_);rfl)
theorem DF (b:ByteArray) (hb:b.size≤1000000) (g:Nat) (w:World) (hr:Ro w g 0 [.string b]):ay Tryz.prog 166 [.pointer (some ⟨g,0,none⟩)] w (ui (FM b)):=by
 refine aq Tryz.func166 rfl Tryz.ntmps166 rfl ?_
 have hT:=fun w' =>Af ⟨3,0,b⟩ rfl hb w'
 unfold FM
 generalize fE ⟨3,0,b⟩=v at hT
 repeat' (first|(apply aj;exact rfl;apply aD (o:=0) (off:=0);exact hr;exact rfl;exact rfl)|(apply ah;exact rfl;exact rfl;(intro w hm;exact hT w))|(rename_i g1 g2;refine rR (id:=2) (g:=g1) (T:=127) (xs' :=cL v) (R:= [.box g2 127 (cL v)]) (fun D=> [if D 4 then .int .u8 v.kind else .int .u8 0,if D 4 then .int .i64 v.num else .int .i64 0,if D 4 then .string v.text else .string az]) (by kernel_rfl) (by kernel_rfl) pK rfl (by intro D hD;simp [hD 4 (by decide),cL]) ?_)|refine sT ?_|refine sG ?_|refine sM fun _=> ?_|(refine sC ?_ ?_<;>intro hb<;>try omega)|fail)
 all_goals ((refine fW ?_);rfl)
theorem DE (b:ByteArray) (hb:b.size≤1000000) (g:Nat) (w:World) (hr:Ro w g 0 [.string b]) (hW:Words w):ay Tryz.prog 168 [.pointer (some ⟨g,0,none⟩)] w (ui (FL b)):=by
 refine aq Tryz.func168 rfl Tryz.ntmps168 rfl ?_
 unfold FL
 have hC:=fun (w' :World) (h:Words w')=>ES b hb w' h
 generalize m8 b=x at hC
 obtain ⟨c,e⟩:=x
 repeat' (first|(apply aj;exact rfl;apply aD (o:=0) (off:=0);exact hr;exact rfl;exact rfl)|(apply ah (f:=169);exact rfl;exact rfl;(intro w' hm';exact hC w' (hW.next hm')))|(apply ah (f:=170);exact rfl;exact rfl;(intro w' hm';exact iS c w'))|refine sT ?_|refine sM fun _=> ?_|(refine sC ?_ ?_<;>intro hb<;>try omega)|fail)
 all_goals ((refine fW ?_);simp_all [ui,cL])
theorem DD (b:ByteArray) (hb:b.size≤1000000) (g:Nat) (w:World) (hr:Ro w g 0 [.string b]):ay Tryz.prog 171 [.pointer (some ⟨g,0,none⟩)] w (ui (FK b)):=by
 refine aq Tryz.func171 rfl Tryz.ntmps171 rfl ?_
 unfold FK
 have hC:=fun (w' :World)=>m7 b hb w'
 generalize mG (ak b)=x at hC
 obtain ⟨n,e⟩:=x
 repeat' (first|(apply aj;exact rfl;apply aD (o:=0) (off:=0);exact hr;exact rfl;exact rfl)|(apply ah;exact rfl;exact rfl;(intro w hm;exact hC w))|(apply ah (f:=170);exact rfl;exact rfl;(intro w' hm';exact iS 3 w'))|(apply ah (f:=173);exact rfl;exact rfl;(intro w' hm';exact EQ n w'))|refine sT ?_|refine sM fun _=> ?_|(refine sC ?_ ?_<;>intro hb<;>try omega)|fail)
 all_goals ((refine fW ?_);simp_all [ui,cL])
def yC:List Nat:= [164,165,166,168,171]
def rY:List (ByteArray→Vl × Bool):= [GP,GN,FM,FL,FK]
def jS (b:ByteArray):List (ByteArray→Vl × Bool)→Vl
 | []=>⟨3,0,b⟩
 |t::r=>if (t b).2 then (t b).1 else jS b r
def tr (b:ByteArray):Vl:=jS b rY
theorem Bs (b:ByteArray) (hb:b.size≤1000000) (g k:Nat) (hk:k<5): ∃ f t,rY.drop k=t::rY.drop (k+1)∧(yC.map fun f=>Value.func (.func f) #[] #[.pointer (some ⟨g,0,none⟩)])[k]? =some (.func (.func f) #[] #[.pointer (some ⟨g,0,none⟩)])∧Callable Tryz.prog f∧
  ∀ w,Ro w g 0 [.string b]→Words w→ay Tryz.prog f [.pointer (some ⟨g,0,none⟩)] w (ui (t b)):=by
 rcases (by omega:k=0∨k=1∨k=2∨k=3∨k=4) with rfl|rfl|rfl|rfl|rfl
 ·
  exact ⟨_,_,rfl,rfl,inferInstance,fun w hr _=>DH b g w hr⟩
 ·
  exact ⟨_,_,rfl,rfl,inferInstance,fun w hr _=>DG b hb g w hr⟩
 ·
  exact ⟨_,_,rfl,rfl,inferInstance,fun w hr _=>DF b hb g w hr⟩
 ·
  exact ⟨_,_,rfl,rfl,inferInstance,fun w hr hW=>DE b hb g w hr hW⟩
 ·
  exact ⟨_,_,rfl,rfl,inferInstance,fun w hr _=>DD b hb g w hr⟩
set_option maxHeartbeats 1000000 in
theorem vB (b:ByteArray) (hb:b.size≤1000000) (w:World) (hW:Words w):ay Tryz.prog 138 [.string b] w (.agg (cL (tr b)).toArray):=by
 refine aq Tryz.func138 rfl Tryz.ntmps138 rfl ?_
 repeat' (first|refine sT ?_|refine sS ?_|refine sM fun _=> ?_|(refine sC ?_ ?_<;>intro hb<;>try omega)|fail)
 rename_i g1 g2 g3
 refine ax [1,2,13,14] rfl (fun x:Nat × Vl=> [(4,.bool false),(15,.int .i64 (x.1:Int))]) (fun x=> [.own (some g3) 212 1 5 5 (yC.map fun f=>Value.func (.func f) #[] #[.pointer (some ⟨g1,0,none⟩)]),.box g2 127 (cL x.2),.box g1 9 [.string b]]) (fun x=>x.1≤5∧tr b=jS b (rY.drop x.1)) (fun x=>5 - x.1) (0,bD) ⟨by omega,rfl⟩ sB mS ?_
 rintro ⟨k,v⟩ ⟨hk,hkt⟩
 dsimp only at hk hkt ⊢
 by_cases hk5:k<5
 ·
  obtain ⟨f,t,r1,r2,r3,r4⟩:=Bs b hb g1 k hk5
  rw [r1,jS] at hkt
  obtain ⟨⟨v',is⟩,ht⟩: ∃ x,t b=x:=⟨_,rfl⟩
  rw [ht] at hkt r4
  cases is with
  |true=>
   rw [if_pos rfl] at hkt
   repeat' (first|(apply aj;exact rfl;apply ai (j:=k);exact rfl;exact rfl;exact hk5)|(apply aj;exact rfl;apply aP (off:=0+k*1);exact rfl;exact pK;(rw [H8,Jt];exact r2))|(apply gN;exact rfl;exact rfl;exact r3;exact rfl;(intro w' hm;exact r4 w' (Ro.of_box hm pK) (hW.next hm)))|refine sT ?_|refine sS ?_|refine sN ?_|refine sM fun _=> ?_|(refine sC ?_ ?_<;>intro hb<;>try omega)|fail)
   all_goals (rw [hkt];(refine eRC ?_);rfl)
  |false=>
   rw [if_neg (by simp)] at hkt
   repeat' (first|(apply aj;exact rfl;apply ai (j:=k);exact rfl;exact rfl;exact hk5)|(apply aj;exact rfl;apply aP (off:=0+k*1);exact rfl;exact pK;(rw [H8,Jt];exact r2))|(apply gN;exact rfl;exact rfl;exact r3;exact rfl;(intro w' hm;exact r4 w' (Ro.of_box hm pK) (hW.next hm)))|refine sT ?_|refine sS ?_|refine sN ?_|refine sM fun _=> ?_|(refine sC ?_ ?_<;>intro hb<;>try omega)|fail)
   refine ⟨(k+1,v'),?_,(by first|omega|(dsimp only;omega)),sB,sB,mS⟩
   exact ⟨hk5,hkt⟩
 ·
  have e:k=5:=by omega
  subst e
  have hkt:tr b=⟨3,0,b⟩:=hkt
  rw [hkt]
  repeat' (first|refine sT ?_|refine sS ?_|refine sN ?_|refine sM fun _=> ?_|(refine sC ?_ ?_<;>intro hb<;>try omega)|fail)
  all_goals first|(exfalso;omega)|((refine eRC ?_);rfl)
end Go.SL
namespace Go.SL
open Go Go.Proofs
attribute [local irreducible] W WL WQ WG WA WX WLI WR WT VOp thn blk bo scp aN bi aF FnIn
def ku:List (List Int→Option (Tk × Nat)):= [jL,um,n9,vp,ut]
def kN (l:List Int):List (List Int→Option (Tk × Nat))→Option (Tk × Nat)
 | []=>none
 |r::rs=>match r l with
  |some x=>some x
  |none=>kN l rs
def cj (l:List Int):Option (Tk × Nat):=kN l ku
def bP (tk:List Int→Option (Tk × Nat)) (l:List Int):Nat→Nat→Except Nat (List Tk)
 |0,_=> .ok []
 |f+1,i=>
  match l.drop i with
  | []=> .ok []
  |c::_=>
   if c=32 then bP tk l f (i+1)
   else match tk (l.drop i) with
    |none=> .error i
    |some (t,n)=>(bP tk l f (i+n)).map fun r=>{ t with at_:=(i:Int) }::r
def Fits (l:List Int) (o:Option (Tk × Nat)):Prop:= ∀ t n,o=some (t,n)→0<n∧n≤l.length
theorem Fits.none {l:List Int}:Fits l none:=fun _ _ h=>by cases h
theorem Fits.some {l:List Int} {t:Tk} {n:Nat} (h1:0<n) (h2:n≤l.length):Fits l (some (t,n)):=fun _ _ h=>by cases h;exact ⟨h1,h2⟩
theorem ib {l:List Int} {c:Int} (h:l.headD 0=c) (hc:c≠0):0<l.length:=by
 cases l with
 |nil=>exact absurd h.symm hc
 |cons=>simp
theorem wR (l:List Int):cy l=0∨cy l+1≤l.length:=by
 unfold cy
 split
 ·
  right
  rename_i r
  have:=cN aS r
  simp;omega
 ·
  left;rfl
theorem uP (l:List Int):Fits l (jL l):=by
 unfold jL
 dsimp only
 have h1:=cN aS l
 have h2:=wR (l.drop (aO aS l))
 rw [IY] at h2
 have h3:(if cy (l.drop (aO aS l))=0 then aO aS l else aO aS l+1+cy (l.drop (aO aS l)))≤l.length∧aO aS l≤(if cy (l.drop (aO aS l))=0 then aO aS l else aO aS l+1+cy (l.drop (aO aS l))):=by
  split<;>omega
 generalize (if cy (l.drop (aO aS l))=0 then aO aS l else aO aS l+1+cy (l.drop (aO aS l)))=m at h3 ⊢
 split
 ·
  exact .none
 ·
  rename_i h
  split
  ·
   exact .none
  ·
   exact .some (by omega) (by omega)
theorem mH: ∀ (n:Nat) (l:List Int) (k:Nat),l.length≤n→cX l=some k→k<l.length
 |_,[],_,_,h=>by simp [cX] at h
 |0,c::r,_,hn,_=>by simp at hn
 |n+1,c::r,k,hn,h=>by
  by_cases hc:c=34
  ·
   subst hc
   cases r with
   |nil=>simp [cX] at h;subst h;simp
   |cons d r' =>
    by_cases hd:d=34
    ·
     subst hd
     simp only [cX,ne_eq,not_true_eq_false,if_false,if_true,JB] at h
     obtain ⟨j,hj,rfl⟩:=h
     have:=mH n r' j (by simp at hn;omega) hj
     simp;omega
    ·
     simp [cX,hd] at h
     subst h;simp
  ·
   rw [ni hc,JB] at h
   obtain ⟨j,hj,rfl⟩:=h
   have:=mH n r j (by simp at hn;omega) hj
   simp;omega
theorem zb (l:List Int):Fits l (um l):=by
 unfold um
 split
 ·
  exact .none
 ·
  rename_i h
  have h0:=ib (c:=34) (Decidable.not_not.1 h) (by decide)
  split
  ·
   exact .none
  ·
   rename_i k hk
   have:=mH _ _ k (Ih _) hk
   rw [IY] at this
   split
   ·
    exact .none
   ·
    exact .some (by omega) (by omega)
theorem yM (l:List Int):Fits l (n9 l):=by
 have h1:=cN cJ l
 have h2:=cN cJ (l.drop (aO cJ l+1))
 rw [IY] at h2
 have hpos:fw (l.headD 0)≠false→0<aO cJ l:=fun h=>by
  cases l with
  |nil=>exact absurd rfl h
  |cons c r=>
   have:fw c=true:=by simpa using h
   simp [aO,cJ,this]
 unfold n9
 split
 ·
  exact .none
 ·
  rename_i h
  have hp:=hpos h
  split
  ·
   exact .some hp h1
  ·
   split
   ·
    exact .some hp h1
   ·
    split
    ·
     exact .some hp h1
    ·
     split
     ·
      exact .none
     ·
      split
      ·
       rename_i hq
       have:=ib hq.1 (by decide)
       rw [IY] at this
       exact .some (by omega) (by omega)
      ·
       exact .some hp h1
theorem pJ (l:List Int): ∀ (ns:List (List Int)) (c k:Int) (n:Nat),(∀ s∈ns,s≠ [])→m5 l ns c=some (k,n)→0<n∧n≤l.length
 | [],_,_,_,_,h=>by cases h
 |s::r,c,k,n,hs,h=>by
  rw [m5] at h
  split at h
  ·
   rename_i he
   cases h
   have:=congrArg List.length he
   rw [IJ,IU] at this
   have:=Jc.2 (hs s H4)
   omega
  ·
   exact pJ l r _ k n (fun s hs' =>hs s (H9 _ hs')) h
theorem zN (l:List Int):Fits l (vp l):=by
 intro t n h
 unfold vp at h
 rw [JB] at h
 obtain ⟨⟨c,m⟩,h1,h2⟩:=h
 cases h2
 exact pJ l fT 1 c _ (by decide) h1
theorem uN (l:List Int): ∀ (ns:List (List Int × Int)) (k:Int) (n:Nat),(∀ s∈ns,s.1≠ [])→opL l ns=some (k,n)→0<n∧n≤l.length
 | [],_,_,_,h=>by cases h
 |(s,c)::r,k,n,hs,h=>by
  rw [opL] at h
  split at h
  ·
   rename_i he
   cases h
   have:=congrArg List.length he
   rw [IU] at this
   have:=Jc.2 (hs _ H4)
   dsimp only at this
   omega
  ·
   exact uN l r k n (fun s hs' =>hs s (H9 _ hs')) h
theorem zh (l:List Int):Fits l (ut l):=by
 unfold ut
 split
 ·
  rename_i k n h
  have:=uN l fq k n (by decide) h
  exact .some this.1 this.2
 ·
  split
  ·
   exact .some (by omega) (ib (by assumption) (by decide))
  ·
   split
   ·
    exact .some (by omega) (ib (by assumption) (by decide))
   ·
    split
    ·
     exact .some (by omega) (ib (by assumption) (by decide))
    ·
     exact .none
theorem pH (l:List Int): ∀ rs:List (List Int→Option (Tk × Nat)),(∀ r∈rs,Fits l (r l))→Fits l (kN l rs)
 | [],_=> .none
 |r::rs,h=>by
  unfold kN
  split
  ·
   rename_i x hx
   exact hx ▸ h r H4
  ·
   exact pH l rs fun r hr=>h r (H9 _ hr)
theorem zj (l:List Int): ∀ r∈ku,Fits l (r l):=by
 intro r hr
 simp only [ku,Ie,JM,or_false] at hr
 rcases hr with rfl|rfl|rfl|rfl|rfl
 ·
  exact uP l
 ·
  exact zb l
 ·
  exact yM l
 ·
  exact zN l
 ·
  exact zh l
theorem oJ (l:List Int):Fits l (cj l):=pH l _ (zj l)
theorem rZ {tk:List Int→Option (Tk × Nat)} {l:List Int} (ht: ∀ m,Fits m (tk m)): ∀ (b d f i:Nat),d≤b→l.length - i=d→d≤f→bP tk l f i=bP tk l d i:=by
 intro b
 induction b with
 |zero=>
  intro d f i hb hd hf
  have:d=0:=by omega
  subst this
  cases f with
  |zero=>rfl
  |succ f=>
   simp only [bP]
   rw [IG (by omega)]
 |succ b ih=>
  intro d f i hb hd hf
  cases d with
  |zero=>
   cases f with
   |zero=>rfl
   |succ f=>
    simp only [bP]
    rw [IG (by omega)]
  |succ m=>
   obtain ⟨g,rfl⟩: ∃ g,f=g+1:=⟨f - 1,by omega⟩
   simp only [bP]
   have hi:i<l.length:=by omega
   rw [H6 hi]
   dsimp only
   split
   ·
    exact ih m g (i+1) (by omega) (by omega) (by omega)
   ·
    split
    ·
     rfl
    ·
     rename_i t n hn
     have:=ht _ t n hn
     rw [ih (l.length - (i+n)) g (i+n) (by omega) rfl (by omega),ih (l.length - (i+n)) m (i+n) (by omega) rfl (by omega)]
def cM (tk:List Int→Option (Tk × Nat)) (l:List Int):List Tk × Int × Int:=
 if 256<l.length then ([],0,5)
 else match l.findIdx? (fun c=> !cw c) with
  |some i=>([],(i:Int),4)
  |none=>match bP tk l l.length 0 with
   | .ok r=>(r,0,0)
   | .error i=>([],(i:Int),4)
def E3 (A:Option Nat) (cap:Nat) (r:List Tk × Int × Int):Value:= .tuple #[sl A r.1.length cap,.int .i64 r.2.1,.int .i64 r.2.2]
def wL:List Nat:= [221,222,223,224,225]
theorem DR (a:ByteArray) (ha:a.size≤10000) (i:Nat) (hi:i<a.size) (g:Nat) (k:Nat) (hk:k<5):
  ∃ f r,ku.drop k=r::ku.drop (k+1)∧(wL.map fun f=>Value.func (.func f) #[.pointer (some ⟨g,0,none⟩)] #[])[k]? =some (.func (.func f) #[.pointer (some ⟨g,0,none⟩)] #[])∧Callable Tryz.prog f∧
   ∀ w,Ro w g 0 [.string a]→Words w→ay Tryz.prog f [.pointer (some ⟨g,0,none⟩),.int .i64 (i:Int)] w (wE (atT i (r ((ak a).drop i)))):=by
 rcases (by omega:k=0∨k=1∨k=2∨k=3∨k=4) with rfl|rfl|rfl|rfl|rfl
 ·
  exact ⟨_,_,rfl,rfl,inferInstance,fun w hr _=>zw a (by omega) i (by omega) g w hr⟩
 ·
  exact ⟨_,_,rfl,rfl,inferInstance,fun w hr _=>DI a (by omega) i hi g w hr⟩
 ·
  exact ⟨_,_,rfl,rfl,inferInstance,fun w hr _=>De a ha i hi g w hr⟩
 ·
  exact ⟨_,_,rfl,rfl,inferInstance,fun w hr hW=>Em a (by omega) i (by omega) g w hr hW⟩
 ·
  exact ⟨_,_,rfl,rfl,inferInstance,fun w hr _=>DL a (by omega) i hi g w hr⟩
theorem pI {a:ByteArray} {q:Int→Bool} {i:Nat} (h:i<a.size) (hq:q (bat a i)=true) (hno: ∀ j,j<i→q (bat a j)=false):(ak a).findIdx? q=some i:=by
 rw [J0]
 have hl:=au a
 have hg: ∀ j (hj:j<(ak a).length),(ak a)[j]=bat a j:=fun j hj=>by
  have:=jU (a:=a) (i:=j) (by omega)
  rw [HY hj] at this
  exact Option.some.inj this
 refine ⟨by omega,by rw [hg];exact hq,fun j hj=> ?_⟩
 rw [hg,hno j hj];simp
theorem oV {a:ByteArray} {q:Int→Bool} (hno: ∀ j,j<a.size→q (bat a j)=false):(ak a).findIdx? q=none:=by
 rw [Kh]
 intro x hx
 obtain ⟨j,hj,rfl⟩:=JU hx
 have hl:=au a
 have:=jU (a:=a) (i:=j) (by omega)
 rw [HY hj] at this
 rw [Option.some.inj this]
 exact hno j (by omega)
set_option maxHeartbeats 2000000 in
theorem Ae (a:ByteArray) (w:World) (hW:Words w):
  aF Tryz.prog 174 [.string a] w fun v H=> ∃ A cap,v=E3 A cap (cM cj (ak a))∧H= [.own A 228 8 (cM cj (ak a)).1.length cap ((cM cj (ak a)).1.flatMap cG)]:=by
 refine aq Tryz.func174 rfl Tryz.ntmps174 rfl ?_
 have hl:=au a
 unfold cM
 refine aw 228 8 ?_
 by_cases hlen:256<(ak a).length
 ·
  rw [if_pos hlen]
  repeat' (first|refine sT ?_|refine sS ?_|refine sT2 ?_|refine sM fun _=> ?_|(refine sC ?_ ?_<;>intro hb<;>try omega)|fail)
  all_goals try (exfalso;omega)
  exact wM (.inl rfl) rfl rfl rfl rfl (.refl _) ⟨none,0,rfl,rfl⟩
 ·
  rw [if_neg hlen]
  repeat' (first|refine sT ?_|refine sS ?_|refine sT2 ?_|refine sM fun _=> ?_|(refine sC ?_ ?_<;>intro hb<;>try omega)|fail)
  all_goals try (exfalso;omega)
  refine ax [0,2,17] rfl (fun i:Nat=> [(18,.int .i64 (i:Int))]) (fun _=> [.own none 228 8 0 0 []]) (fun i=>i≤a.size∧ ∀ j,j<i→cw (bat a j)=true) (fun i=>a.size - i) 0 ⟨by omega,fun j h=>by omega⟩ sB mS ?_
  rintro i ⟨hi,hpl⟩
  by_cases hlt:i<a.size
  ·
   repeat' (first|refine sT ?_|refine sS ?_|refine sT2 ?_|refine sN ?_|refine sM fun _=> ?_|(refine sC ?_ ?_<;>intro hb<;>try omega)|fail)
   ·
    have hf:(ak a).findIdx? (fun c=> !cw c)=some i:=by
     refine pI hlt ?_ fun j hj=>by rw [hpl j hj];rfl
     simp only [cw,Bool.not_eq_true',JO,decide_eq_false_iff_not]
     omega
    rw [hf]
    exact wM (.inl rfl) rfl rfl rfl rfl (.refl _) ⟨none,0,rfl,rfl⟩
   ·
    have hf:(ak a).findIdx? (fun c=> !cw c)=some i:=by
     refine pI hlt ?_ fun j hj=>by rw [hpl j hj];rfl
     simp only [cw,Bool.not_eq_true',JO,decide_eq_false_iff_not]
     omega
    rw [hf]
    exact wM (.inl rfl) rfl rfl rfl rfl (.refl _) ⟨none,0,rfl,rfl⟩
   ·
    refine ⟨i+1,?_,(by first|omega|(dsimp only;omega)),sB,sB,mS⟩
    refine ⟨hlt,fun j hj=> ?_⟩
    rcases (by omega:j<i∨j=i) with h|rfl
    ·
     exact hpl j h
    ·
     rename_i h1
     simp only [cw,IB,decide_eq_true_eq]
     omega
  ·
   have e:i=a.size:=by omega
   subst e
   have hf:(ak a).findIdx? (fun c=> !cw c)=none:=oV fun j hj=>by rw [hpl j hj];rfl
   rw [hf]
   dsimp only
   repeat' (first|(apply aj;exact rfl;apply iB;exact rfl)|(apply wo;(iterate 6 exact rfl))|refine sT ?_|refine sS ?_|refine sT2 ?_|refine sN ?_|refine sM fun _=> ?_|(refine sC ?_ ?_<;>intro hb<;>try omega)|fail)
   all_goals try (exfalso;omega)
   rename_i g6 g7
   generalize hT:bP cj (ak a) (ak a).length 0=T
   refine ax [0,6,7] rfl (fun x:Nat × List Tk × Option Nat × Nat=> [(2,sl x.2.2.1 x.2.1.length x.2.2.2),(8,.int .i64 (x.1:Int))]) (fun x=> [.own x.2.2.1 228 8 x.2.1.length x.2.2.2 (x.2.1.flatMap cG),.box g7 274 (wL.map fun f=>Value.func (.func f) #[.pointer (some ⟨g6,0,none⟩)] #[]),.box g6 272 [.string a]])
    (fun x=>x.1≤a.size∧x.2.1.length≤x.1∧T=(bP cj (ak a) (a.size - x.1) x.1).map (x.2.1++ ·)) (fun x=>a.size - x.1) (0,[],none,0) ⟨by omega,by simp,by rw [← hT,hl];cases bP cj (ak a) a.size 0<;>rfl⟩ sB mS ?_
   rintro ⟨i,toks,A,cap⟩ ⟨hi2,hi3,hi4⟩
   dsimp only at hi2 hi3 hi4 ⊢
   by_cases hlt2:i<a.size
   ·
    obtain ⟨f,hf1⟩: ∃ f,a.size - i=f+1:=⟨a.size - i - 1,by omega⟩
    rw [hf1] at hi4
    simp only [bP] at hi4
    have hdr:=bO hlt2
    generalize hld:(ak a).drop i=ld at hi4 hdr
    rw [hdr] at hi4
    dsimp only at hi4
    by_cases h32:bat a i=32
    ·
     rw [if_pos h32] at hi4
     repeat' (first|refine sT ?_|refine sS ?_|refine sT2 ?_|refine sN ?_|refine sM fun _=> ?_|(refine sC ?_ ?_<;>intro hb<;>try omega)|fail)
     all_goals try (exfalso;omega)
     refine ⟨(i+1,toks,A,cap),?_,(by first|omega|(dsimp only;omega)),sB,sB,mS⟩
     exact ⟨hlt2,by dsimp only;omega,by dsimp only;rw [show a.size - (i+1)=f by omega];exact hi4⟩
    ·
     rw [if_neg h32,← hdr] at hi4
     repeat' (first|refine sT ?_|refine sS ?_|refine sT2 ?_|refine sN ?_|refine sM fun _=> ?_|(refine sC ?_ ?_<;>intro hb<;>try omega)|fail)
     all_goals try (exfalso;omega)
     have hldl:ld.length=a.size - i:=by rw [← hld,IY,hl]
     refine ax [0,2,6,7,8,57] rfl (fun k:Nat=> [(58,.int .i64 (k:Int))]) (fun _=> [.own A 228 8 toks.length cap (toks.flatMap cG),.box g7 274 (wL.map fun f=>Value.func (.func f) #[.pointer (some ⟨g6,0,none⟩)] #[]),.box g6 272 [.string a]]) (fun k=>k≤5∧cj ld=kN ld (ku.drop k)) (fun k=>5 - k) 0 ⟨by omega,rfl⟩ sB mS ?_
     rintro k ⟨hk,hkt⟩
     by_cases hk5:k<5
     ·
      obtain ⟨f2,r,r1,r2,r3,r4⟩:=DR a (by omega) i hlt2 g6 k hk5
      rw [hld] at r4
      rw [r1,kN] at hkt
      cases ho:r ld with
      |none=>
       rw [ho] at hkt r4
       dsimp only at hkt
       repeat' (first|(apply aj;exact rfl;apply jd;exact rfl;exact rfl;exact hk5;exact r2)|(apply lV;exact rfl;exact rfl;exact r3;exact rfl;(intro w' hm;exact r4 w' (Ro.of_box hm pK) (hW.next hm)))|refine sT ?_|refine sS ?_|refine sT2 ?_|refine sN ?_|refine sM fun _=> ?_|(refine sC ?_ ?_<;>intro hb<;>try omega)|fail)
       all_goals try (exfalso;omega)
       refine ⟨k+1,?_,(by first|omega|(dsimp only;omega)),sB,sB,mS⟩
       exact ⟨hk5,hkt⟩
      |some x=>
       obtain ⟨t,m⟩:=x
       rw [ho] at hkt r4
       dsimp only at hkt
       have hfit:=oJ ld t m hkt
       rw [hkt] at hi4
       dsimp only at hi4
       have hm0:0<m:=hfit.1
       repeat' (first|(apply aj;exact rfl;apply jd;exact rfl;exact rfl;exact hk5;exact r2)|(apply lV;exact rfl;exact rfl;exact r3;exact rfl;(intro w' hm;exact r4 w' (Ro.of_box hm pK) (hW.next hm)))|(apply fH;(iterate 3 exact rfl);exact pK;exact pK;exact rfl;(simp [cG,Value.oneCell']);omega;(simp only [maxLen];omega);intro g8 c8)|refine sT ?_|refine sS ?_|refine sT2 ?_|refine sN ?_|refine sM fun _=> ?_|(refine sC ?_ ?_<;>intro hb<;>try omega)|fail)
       all_goals try (exfalso;omega)
       refine ⟨(i+m,toks++ [{ t with at_:=(i:Int) }],some g8,c8),⟨by dsimp only;omega,by simp;omega,?_⟩,(by dsimp only;omega),?_,sB,?_⟩
       ·
        dsimp only
        rw [hi4,rZ oJ f (a.size - (i+m)) f (i+m) (by omega) (by omega) (by omega)]
        cases bP cj (ak a) (a.size - (i+m)) (i+m)<;>simp [Except.map]
       ·
        simp only [HV,Ii]
        exact sB
       ·
        simp only [HV,Ii,I2,IP,Jd,Ig]
        exact mS
     ·
      have e:k=5:=by omega
      subst e
      rw [show kN ld (ku.drop 5)=none from rfl] at hkt
      rw [hkt] at hi4
      dsimp only [Except.map] at hi4
      rw [hi4]
      refine aw 228 8 ?_
      repeat' (first|refine sT ?_|refine sS ?_|refine sT2 ?_|refine sN ?_|refine sM fun _=> ?_|(refine sC ?_ ?_<;>intro hb<;>try omega)|fail)
      all_goals try (exfalso;omega)
      exact wM (.inl rfl) rfl rfl rfl rfl (H' := [.own none 228 8 0 0 []]) mS ⟨none,0,rfl,rfl⟩
   ·
    have e:i=a.size:=by omega
    subst e
    rw [show a.size - a.size=0 by omega] at hi4
    simp only [bP,Except.map,Ig] at hi4
    rw [hi4]
    repeat' (first|refine sT ?_|refine sS ?_|refine sT2 ?_|refine sN ?_|refine sM fun _=> ?_|(refine sC ?_ ?_<;>intro hb<;>try omega)|fail)
    all_goals try (exfalso;omega)
    exact wM (.inl rfl) rfl rfl rfl rfl (H' := [.own A 228 8 toks.length cap (toks.flatMap cG)]) mS ⟨A,cap,rfl,rfl⟩
end Go.SL
namespace Go.SL
open Go Go.Proofs
attribute [local irreducible] W WL WQ WG WA WX WLI WR WT VOp RW thn blk bo scp aN bf bi aF FnIn FnP
theorem yd (p2 p3 p4:Value) (w0:World) (H:List Blk):FnD Tryz.prog 175 [p2,p3,p4] .returning w0 H H:=by
 refine G7 Tryz.func175 rfl rfl Tryz.ntmps175 rfl rfl (.inl ⟨rfl,rfl⟩) ?_
 repeat' (first|(apply aj;exact rfl;apply Dz;exact rfl)|refine sT ?_|refine sM fun _=> ?_|(refine sC ?_ ?_<;>intro hb<;>try omega)|fail)
 all_goals exact ⟨by first|exact .inl rfl|exact .inr rfl,.refl _⟩
theorem ye (g2 g3 g4:Nat) (x2 x3 x4:Value) (e:Int × Int) (w0:World) (R:List Blk):
  FnD Tryz.prog 175 [.pointer (some ⟨g2,0,none⟩),.pointer (some ⟨g3,0,none⟩),.pointer (some ⟨g4,0,none⟩)] (.panicking (eW (s8 e))) w0
   (.box g2 128 [x2]:: .box g3 3 [x3]:: .box g4 39 [x4]::R)
   (.box g2 128 [.slice none 0 0]:: .box g3 3 [.int .i64 e.1]:: .box g4 39 [.int .i64 e.2]::R):=by
 refine G7 Tryz.func175 rfl rfl Tryz.ntmps175 rfl rfl (.inr rfl) ?_
 repeat' (first|(apply aj;exact rfl;apply Dy;exact rfl)|(apply aj;exact rfl;apply rU;exact rfl;exact rfl)|(rename_i g;refine oo (id:=7) [⟨4,g2,128,x2,.slice none 0 0⟩,⟨5,g3,3,x3,.int .i64 e.1⟩,⟨6,g4,39,x4,.int .i64 e.2⟩] (.box g 223 [.int .i64 e.1,.int .i64 e.2]::R) (by kernel_rfl) (by kernel_rfl) rfl mS ?_)|(apply xR;exact rfl;exact rfl;(exact vC))|(refine fY [] [⟨5,g3,3,x3,.int .i64 e.1⟩,⟨6,g4,39,x4,.int .i64 e.2⟩] ⟨4,g2,128,x2,.slice none 0 0⟩ rfl rfl rfl rfl rfl rfl ?_)|(refine fY [⟨4,g2,128,x2,.slice none 0 0⟩] [⟨6,g4,39,x4,.int .i64 e.2⟩] ⟨5,g3,3,x3,.int .i64 e.1⟩ rfl rfl rfl rfl rfl rfl ?_)|(refine fY [⟨4,g2,128,x2,.slice none 0 0⟩,⟨5,g3,3,x3,.int .i64 e.1⟩] [] ⟨6,g4,39,x4,.int .i64 e.2⟩ rfl rfl rfl rfl rfl rfl ?_)|apply rN|refine sT ?_|refine sG ?_|refine sM fun _=> ?_|(refine sC ?_ ?_<;>intro hb<;>try omega)|fail)
 refine ⟨.inr rfl,?_⟩
 simp only [Iv,I5,BoxT.post,HW,HZ]
 exact mS
def bV (x:List Tk × Int × Int) (fin:Int):List Nd × Int × Int:=
 if x.2.2≠0 then ([],x.2.1,x.2.2)
 else match aX fin (20*x.1.length+40) (.level 1) ⟨x.1,[]⟩ with
  |none=>([],0,0)
  |some (.error (a,e))=>([],a,e)
  |some (.ok (_,p))=>
   if (hdT fin p.l).kind≠0 then ([],(hdT fin p.l).at_,4)
   else if gL p.out≠0 then ([],0,gL p.out)
   else (p.out,0,0)
theorem uj {tk:List Int→Option (Tk × Nat)} {l:List Int} (f:Nat): ∀ (i:Nat) (r:List Tk),bP tk l f i= .ok r→r.length≤f:=by
 induction f with
 |zero=>intro i r h;simp only [bP,Except.ok.injEq] at h;subst h;exact Ih _
 |succ f ih=>
  intro i r h
  simp only [bP] at h
  split at h
  ·
   cases h;exact H5 _
  ·
   split at h
   ·
    exact Nat.le_succ_of_le (ih _ _ h)
   ·
    split at h
    ·
     cases h
    ·
     rename_i t n _
     cases hr:bP tk l f (i+n) with
     |error e=>rw [hr] at h;cases h
     |ok r' =>
      rw [hr] at h
      cases h
      exact Nat.succ_le_succ (ih _ _ hr)
theorem mP (tk:List Int→Option (Tk × Nat)) (l:List Int):(cM tk l).1.length≤256:=by
 unfold cM
 split
 ·
  exact H5 _
 ·
  split
  ·
   exact H5 _
  ·
   split
   ·
    rename_i h
    have:=uj _ _ _ h
    dsimp only
    omega
   ·
    exact H5 _
theorem At.start (toks:List Tk) (A:Option Nat) (cap:Nat):At toks A cap ⟨toks,[]⟩ (sl A toks.length cap):=
 ⟨0,H5 _,rfl,Ih _,A.map fun g=>⟨g,0,none⟩,by simp [sl],fun _=>by simp⟩
def E0 (A:Option Nat) (cap:Nat) (r:List Nd × Int × Int):Value:= .tuple #[sl A r.1.length cap,.int .i64 r.2.1,.int .i64 r.2.2]
set_option maxHeartbeats 4000000 in
theorem xG (a:ByteArray) (w:World) (hW:Words w) (r:List Nd × Int × Int) (hr:r=bV (cM cj (ak a)) (a.size:Int)):
  aF Tryz.prog 139 [.string a] w fun v H=> ∃ A cap,v=E0 A cap r∧H= [.own A 293 11 r.1.length cap (r.1.flatMap dD)]:=by
 refine Ek Tryz.func139 rfl Tryz.ntmps139 rfl ?_
 have htl:=mP cj (ak a)
 have hT:=fun w' (hm:Σ' H,Mem w w' H)=>Ae a w' (hW.next hm.2)
 obtain ⟨⟨toks,at0,e0⟩,hx⟩: ∃ x,cM cj (ak a)=x:=⟨_,rfl⟩
 rw [hx] at hr htl
 simp only [hx,E3] at hT
 dsimp only at htl
 refine qO 293 11 ?_
 refine qO 293 11 ?_
 refine Bz (fun e a w _ h=>CN h) ?_
 obtain ⟨r1,hr1,_⟩:=qQ (a.size:Int) (20*toks.length+40) (.level 1) ⟨toks,[]⟩ ⟨by omega,by omega⟩ (by simp [Job.c])
 have hP: ∀ (A:Option Nat) (cap g:Nat) (R:List Blk),toks.length≤cap→FnP Tryz.prog 176 [.pointer (some ⟨g,0,none⟩)] w (pB g (sl A toks.length cap) A cap (a.size:Int) toks none 0 []++R) (PR toks A cap (a.size:Int) g R r1) (PD R r1):=fun A cap g R hc=>
  (zr (20*toks.length+40)).2.2.2.2 toks A cap (a.size:Int) g ⟨toks,[]⟩ (sl A toks.length cap) none 0 r1 R w hc (by omega) (At.start toks A cap) hr1
 obtain ⟨ff,hff⟩: ∃ ff,20*toks.length+40=ff:=⟨_,rfl⟩
 rw [hff] at hr1
 repeat' (first|(apply av (f:=174);exact rfl;exact rfl;exact fun w' hm=>hT w' ⟨_,hm⟩;rintro _ _ ⟨A,cap,rfl,rfl⟩)|(rename_i g2 g3 g4;refine BA (cs:= [_,_,_]) rfl rfl ?_)|(refine Bz (fun e a w _ h=>CN h) ?_)|(refine FP (fun e a w h=>Gb h) ?_)|(rename_i g2 g3 g4;refine oo (id:=3) [⟨2,g2,128,.slice none 0 0,.slice none 0 0⟩,⟨3,g3,3,.int .i64 at0,.int .i64 at0⟩,⟨4,g4,39,.int .i64 e0,.int .i64 e0⟩] [.own none 293 11 0 0 []] (by kernel_rfl) (by kernel_rfl) rfl mS ?_)|(refine fY [] [⟨3,g3,3,.int .i64 at0,.int .i64 at0⟩,⟨4,g4,39,.int .i64 e0,.int .i64 e0⟩] ⟨2,g2,128,.slice none 0 0,.slice none 0 0⟩ rfl rfl rfl rfl rfl rfl ?_)|(refine fY [⟨2,g2,128,.slice none 0 0,.slice none 0 0⟩] [⟨4,g4,39,.int .i64 e0,.int .i64 e0⟩] ⟨3,g3,3,.int .i64 at0,.int .i64 at0⟩ rfl rfl rfl rfl rfl rfl ?_)|(refine fY [⟨2,g2,128,.slice none 0 0,.slice none 0 0⟩,⟨3,g3,3,.int .i64 at0,.int .i64 at0⟩] [] ⟨4,g4,39,.int .i64 e0,.int .i64 e0⟩ rfl rfl rfl rfl rfl rfl ?_)|(refine nJ ⟨3,g3,3,.int .i64 at0,.int .i64 at0⟩ (.tail _ (.head _)) (f:=60) (j:=3) rfl (by decide+kernel) rfl rfl rfl ?_)|(refine nJ ⟨4,g4,39,.int .i64 e0,.int .i64 e0⟩ (.tail _ (.tail _ (.head _))) (f:=60) (j:=4) rfl (by decide+kernel) rfl rfl rfl ?_)|apply rN|(apply aj;exact rfl;apply iB;exact rfl)|(apply aj;exact rfl;apply eB;exact rfl)|(apply yR (f:=176);exact rfl;exact rfl;infer_instance;exact rfl;rename_i gp;exact FnP.own (A:=A) pK (fun hcap=>FnP.msub (hP A cap _ _ hcap) (MSub.pick pK (MSub.pick pK (MSub.pick pK (MSub.refl _))))))|(rintro _ _ ⟨rfl,n,p',lv',B',cb',rfl,h2,rfl⟩;obtain ⟨u,hu⟩: ∃ u,hdT (a.size:Int) p'.l=u:=⟨_,rfl⟩)|(rintro _ _ ⟨e,rfl,rfl,h3⟩)|(apply ah (f:=177);exact rfl;exact rfl;(intro w' hm';exact At.head' (B:=B') (cb:=cb') (out:=p'.out) (fin:=(a.size:Int)) h2 hu (MSub.pick pK (MSub.pick pK (MSub.pick pK (MSub.nil _)))) w' hm'))|(apply ah (f:=179);exact rfl;exact rfl;(intro w' hm';exact v7 p'.out _ w' (Reads.of_own (A:=B') hm' pK)))|(refine aL (f:=178) rfl rfl (eO _ _ _ _ _ (fun _ _=>False)) ?_ ?_)|(exact fun _ _ h=>h.elim)|(rintro _ _ ⟨rfl,rfl⟩)|refine sT ?_|refine sP ?_|refine sG ?_|refine sM fun _=> ?_|(refine sC ?_ ?_<;>intro hb<;>try omega)|fail)
 ·
  have hr' :r=([],at0,e0):=by rw [hr];simp [bV,hb]
  subst hr'
  simp only [Iv,I5,BoxT.post,HW,HZ]
  exact li (.inl rfl) rfl rfl pK rfl pK rfl pK (H' := [.own none 293 11 0 0 []]) mS ⟨none,0,rfl,rfl⟩
 ·
  rename_i he0 gp _ u0 hu0 g1
  have hr' :r=([],u0.at_,4):=by rw [hr];simp [bV,hff,hr1,hu0,hb,Classical.not_not.1 he0]
  subst hr'
  refine ⟨_,.box g2 128 [.slice none 0 0]:: .box g3 3 [.int .i64 at0]:: .box g4 39 [.int .i64 e0]:: [.own none 293 11 0 0 []],_,rfl,?_,ye g2 g3 g4 _ _ _ (u0.at_,4) w _,li (.inl rfl) rfl rfl pK rfl pK rfl pK (H' := [.own none 293 11 0 0 []]) mS ⟨none,0,rfl,rfl⟩⟩
  simp only [Ij,HW,HZ,pB]
  exact mS
 ·
  rename_i he0 gp _ g1 hb1
  have hr' :r=([],0,gL p'.out):=by rw [hr];simp [bV,hff,hr1,hu,Classical.not_not.1 hb1,hb,Classical.not_not.1 he0]
  subst hr'
  exact ⟨.returning,_,_,rfl,.refl _,yd _ _ _ _ _,li (.inl rfl) rfl rfl pK rfl pK rfl pK (H' := [.own none 293 11 0 0 []]) mS ⟨none,0,rfl,rfl⟩⟩
 ·
  rename_i he0 gp _ g1 hb1
  have hr' :r=(p'.out,0,0):=by rw [hr];simp [bV,hff,hr1,hu,Classical.not_not.1 hb1,Classical.not_not.1 hb,Classical.not_not.1 he0]
  subst hr'
  exact ⟨.returning,_,_,rfl,.refl _,yd _ _ _ _ _,li (.inl rfl) rfl rfl pK rfl pK rfl pK (H' := [.own B' 293 11 p'.out.length cb' (p'.out.flatMap dD)]) mS ⟨B',cb',rfl,rfl⟩⟩
 ·
  have hr' :r=([],e.1,e.2):=by rw [hr];simp [bV,hff,hr1,Classical.not_not.1 hb]
  subst hr'
  refine ⟨_,.box g2 128 [.slice none 0 0]:: .box g3 3 [.int .i64 at0]:: .box g4 39 [.int .i64 e0]:: [.own none 293 11 0 0 []],_,rfl,MSub.trans ?_ h3,ye g2 g3 g4 _ _ _ e w _,li (.inl rfl) rfl rfl pK rfl pK rfl pK (H' := [.own none 293 11 0 0 []]) mS ⟨none,0,rfl,rfl⟩⟩
  exact mS
theorem Ga {a:ByteArray} {i:Nat} (h:i<a.size):mC (sub a i (i+1))=if cw (bat a i) then 0 else 4:=by
 have h1:ak (sub a i (i+1))= [bat a i]:=by
  rw [fO,bO h,Nat.add_sub_cancel_left]
  rfl
 have h2:(sub a i (i+1)).size=1:=by rw [bY a (by omega)];omega
 simp only [mC,h2,mT,h1]
 cases h:cw (bat a i)<;>simp [h]
structure Mn where
 formula:Bool
 v:Vl
 tree:List Nd
def eqB:ByteArray:=⟨#[61]⟩
def wk:Mn:=⟨false,bD,[]⟩
def ofP (b:ByteArray):Mn × Int × Int:=
 if 256<b.size then (wk,0,5)
 else match (ak b).findIdx? (fun c=> !cw c) with
  |some i=>(wk,(i:Int),4)
  |none=>
   if (iy b eqB).2=false then (⟨false,tr b,[]⟩,0,0)
   else match bV (cM cj (ak (iy b eqB).1)) ((iy b eqB).1.size:Int) with
    |(t,at_,e)=>if e≠0 then (wk,IntKind.i64.wrap (at_+1),e) else (⟨true,bD,t⟩,0,0)
def zT (m:Mn) (tv:Value):List Value:= [.bool m.formula,.int .u8 m.v.kind,.int .i64 m.v.num,.string m.v.text,tv]
def ofV (A:Option Nat) (cap:Nat) (r:Mn × Int × Int):Value:= .tuple #[.agg (zT r.1 (sl A r.1.tree.length cap)).toArray,.int .i64 r.2.1,.int .i64 r.2.2]
set_option maxHeartbeats 2000000 in
theorem Ff (b:ByteArray) (w:World) (hW:Words w):aF Tryz.prog 99 [.string b] w fun v H=> ∃ A cap,v=ofV A cap (ofP b)∧H= [.own A 293 11 (ofP b).1.tree.length cap ((ofP b).1.tree.flatMap dD)]:=by
 refine aq Tryz.func99 rfl Tryz.ntmps99 rfl ?_
 refine aw 293 11 ?_
 unfold ofP
 by_cases hlen:256<b.size
 ·
  rw [if_pos hlen]
  repeat' (first|refine sT ?_|refine sS ?_|refine sT2 ?_|refine sM fun _=> ?_|(refine sC ?_ ?_<;>intro hb<;>try omega)|fail)
  all_goals first
   |(exfalso;omega)
   |exact kw (.inl rfl) rfl rfl pK rfl rfl rfl (H' := [.own none 293 11 0 0 []]) mS ⟨none,0,rfl,rfl⟩
 rw [if_neg hlen]
 repeat' (first|refine sT ?_|refine sS ?_|refine sT2 ?_|refine sM fun _=> ?_|(refine sC ?_ ?_<;>intro hb<;>try omega)|fail)
 all_goals try (exfalso;omega)
 rename_i g2
 refine ax [0,2,14] rfl (fun i:Nat=> [(15,.int .i64 (i:Int))]) (fun _=> [.box g2 130 [.bool false,.int .u8 0,.int .i64 0,.string az,.slice none 0 0],.own none 293 11 0 0 []]) (fun i=>i≤b.size∧ ∀ j,j<i→cw (bat b j)=true) (fun i=>b.size - i) 0 ⟨by omega,fun j h=>by omega⟩ sB mS ?_
 rintro i ⟨hi,hpl⟩
 by_cases hlt:i<b.size
 ·
  have hg:=Ga hlt
  have hG:=fun w=>u7 (sub b i (i+1)) w
  rw [hg] at hG
  by_cases hc:cw (bat b i)=true
  ·
   rw [if_pos hc] at hG
   repeat' (first|(apply aj;exact rfl;apply wy;(iterate 3 exact rfl);exact ⟨by omega,by omega⟩)|(apply ah;exact rfl;exact rfl;(intro w hm;exact hG w))|refine sT ?_|refine sS ?_|refine sT2 ?_|refine sN ?_|refine sM fun _=> ?_|(refine sC ?_ ?_<;>intro hb<;>try omega)|fail)
   all_goals try (exfalso;omega)
   refine ⟨i+1,?_,(by first|omega|(dsimp only;omega)),sB,sB,mS⟩
   refine ⟨hlt,fun j hj=> ?_⟩
   rcases (by omega:j<i∨j=i) with h|rfl
   ·
    exact hpl j h
   ·
    exact hc
  ·
   rw [if_neg hc] at hG
   repeat' (first|(apply aj;exact rfl;apply wy;(iterate 3 exact rfl);exact ⟨by omega,by omega⟩)|(apply ah;exact rfl;exact rfl;(intro w hm;exact hG w))|refine sT ?_|refine sS ?_|refine sT2 ?_|refine sN ?_|refine sM fun _=> ?_|(refine sC ?_ ?_<;>intro hb<;>try omega)|fail)
   all_goals try (exfalso;omega)
   have hf:(ak b).findIdx? (fun c=> !cw c)=some i:=pI hlt (by simp [hc]) fun j hj=>by rw [hpl j hj];rfl
   rw [hf]
   exact kw (.inl rfl) rfl rfl pK rfl rfl rfl (H' := [.own none 293 11 0 0 []]) mS ⟨none,0,rfl,rfl⟩
 ·
  have e:i=b.size:=by omega
  subst e
  have hf:(ak b).findIdx? (fun c=> !cw c)=none:=oV fun j hj=>by rw [hpl j hj];rfl
  rw [hf]
  dsimp only
  have hcut:=fun w=>CP b eqB (by omega) w
  obtain ⟨⟨rest,is⟩,hx⟩: ∃ x,iy b eqB=x:=⟨_,rfl⟩
  rw [hx] at hcut ⊢
  cases is with
  |false=>
   rw [if_pos rfl]
   repeat' (first|(apply ah;exact rfl;exact rfl;(intro w hm;exact hcut w))|(apply ah (f:=138);exact rfl;exact rfl;(intro w' hm';exact vB b (by omega) w' (hW.next hm')))|refine sT ?_|refine sS ?_|refine sT2 ?_|refine sN ?_|refine sM fun _=> ?_|(refine sC ?_ ?_<;>intro hb<;>try omega)|fail)
   all_goals try (exfalso;omega)
   exact kw (.inl rfl) rfl rfl pK rfl rfl rfl (H' := [.own none 293 11 0 0 []]) mS ⟨none,0,rfl,rfl⟩
  |true=>
   rw [if_neg (by simp)]
   dsimp only
   have hF:=fun (w' :World) (h:Words w')=>xG rest w' h _ rfl
   obtain ⟨⟨t,at0,e0⟩,hr⟩: ∃ x,bV (cM cj (ak rest)) (rest.size:Int)=x:=⟨_,rfl⟩
   simp only [hr,E0] at hF
   rw [hr]
   dsimp only
   by_cases he:e0≠0
   ·
    rw [if_pos he]
    repeat' (first|(apply ah;exact rfl;exact rfl;(intro w hm;exact hcut w))|(apply av (f:=139);exact rfl;exact rfl;(intro w' hm';exact hF w' (hW.next hm'));rintro _ _ ⟨A,cap,rfl,rfl⟩)|(apply aj;exact rfl;apply wD;exact rfl;exact rfl)|refine sT ?_|refine sS ?_|refine sT2 ?_|refine sN ?_|refine sM fun _=> ?_|(refine sC ?_ ?_<;>intro hb<;>try omega)|fail)
    all_goals try (exfalso;omega)
    exact kw (.inl rfl) rfl rfl pK rfl rfl rfl (H' := [.own none 293 11 0 0 []]) mS ⟨none,0,rfl,rfl⟩
   ·
    rw [if_neg he]
    repeat' (first|(apply ah;exact rfl;exact rfl;(intro w hm;exact hcut w))|(apply av (f:=139);exact rfl;exact rfl;(intro w' hm';exact hF w' (hW.next hm'));rintro _ _ ⟨A,cap,rfl,rfl⟩)|(apply aj;exact rfl;apply wD;exact rfl;exact rfl)|refine sT ?_|refine sS ?_|refine sT2 ?_|refine sN ?_|refine sM fun _=> ?_|(refine sC ?_ ?_<;>intro hb<;>try omega)|fail)
    all_goals try (exfalso;omega)
    exact kw (.inl rfl) rfl rfl pK rfl rfl rfl (H' := [.own A 293 11 t.length cap (t.flatMap dD)]) mS ⟨A,cap,rfl,rfl⟩
end Go.SL
namespace Go.SL
open Go
abbrev Gr:=List (Rf × List Nd × List Us)
def ba (G:Gr):List Rf:=G.map fun e=>e.1
def SortG (G:Gr):Prop:=G.Pairwise fun x y=>aW x.1 y.1=true
def o5 (G:Gr) (a:Rf):Option (List Nd × List Us):=(G.find? fun e=>decide (e.1=a)).map fun e=>e.2
def CM (G:Gr) (a:Rf):Gr:=G.filter fun e=>decide (e.1≠a)
def xd (G:Gr) (a:Rf) (x:List Nd × List Us):Gr:=G.filter (fun e=>aW e.1 a)++(a,x)::G.filter fun e=>aW a e.1
def eL (G:Gr) (a:Rf):List Us:=((o5 G a).map fun x=>x.2).getD []
def iJ (G:Gr) (a:Rf) (b:ByteArray):Gr × Int:=
 if a.valid=false then (G,3)
 else if (ofP b).2.2≠0 then (G,(ofP b).2.2)
 else if (ofP b).1.formula=false then (CM G a,0)
 else (xd G a ((ofP b).1.tree,cQ (ofP b).1.tree),0)
theorem gZ {a b:Rf}:aW a b=true↔a.row<b.row∨(a.row=b.row∧a.col<b.col):=by simp [aW]
theorem zC (a:Rf):aW a a=false:=by simp [aW]
theorem uX {a b c:Rf} (h:aW a b=true) (k:aW b c=true):aW a c=true:=by
 rw [gZ] at*
 omega
theorem mW {a b:Rf} (h:aW a b=true):aW b a=false:=by
 rw [← Bool.not_eq_true,gZ]
 rw [gZ] at h
 omega
theorem Ci {a b:Rf} (h:a≠b):aW a b=true∨aW b a=true:=by
 rw [gZ,gZ]
 rcases Int.lt_trichotomy a.row b.row with h1|h1|h1
 ·
  exact .inl (.inl h1)
 ·
  rcases Int.lt_trichotomy a.col b.col with h2|h2|h2
  ·
   exact .inl (.inr ⟨h1,h2⟩)
  ·
   refine absurd ?_ h
   obtain ⟨a1,a2⟩:=a
   obtain ⟨b1,b2⟩:=b
   simp only at h1 h2
   subst h1 h2;rfl
  ·
   exact .inr (.inr ⟨h1.symm,h2⟩)
 ·
  exact .inr (.inl h1)
theorem o8 {a b:Rf} (h:aW a b=true):a≠b:=by
 rintro rfl
 rw [zC] at h
 cases h
theorem SortG.nodup {G:Gr} (h:SortG G):(ba G).Nodup:=by
 rw [ba,List.Nodup,List.pairwise_map]
 exact h.imp fun h=>o8 h
theorem qM:SortG []:=List.Pairwise.nil
theorem l6 {G:Gr} (h:SortG G) (a:Rf):SortG (CM G a):=h.filter _
theorem l5 {G:Gr} (h:SortG G) (a:Rf) (x:List Nd × List Us):SortG (xd G a x):=by
 refine Je.2 ⟨h.filter _,Iy.2 ⟨fun e he=> ?_,h.filter _⟩,fun e he f hf=> ?_⟩
 ·
  exact (Kc.1 he).2
 ·
  have h1:=(Kc.1 he).2
  rcases Ie.1 hf with rfl|hf
  ·
   exact h1
  ·
   exact uX h1 (Kc.1 hf).2
theorem zf {G:Gr} (h:SortG G) (a:Rf) (b:ByteArray):SortG (iJ G a b).1:=by
 unfold iJ
 split
 ·
  exact h
 ·
  split
  ·
   exact h
  ·
   split
   ·
    exact l6 h a
   ·
    exact l5 h a _
theorem oY {G:Gr} {a:Rf} {x:List Nd × List Us} {e:Rf × List Nd × List Us}:e∈xd G a x↔e=(a,x)∨(e∈G∧e.1≠a):=by
 simp only [xd,ID,Ie,Kc]
 constructor
 ·
  rintro (⟨h1,h2⟩|rfl|⟨h1,h2⟩)
  ·
   exact .inr ⟨h1,o8 h2⟩
  ·
   exact .inl rfl
  ·
   exact .inr ⟨h1,(o8 h2).symm⟩
 ·
  rintro (rfl|⟨h1,h2⟩)
  ·
   exact .inr (.inl rfl)
  ·
   rcases Ci h2 with h|h
   ·
    exact .inl ⟨h1,h⟩
   ·
    exact .inr (.inr ⟨h1,h⟩)
theorem oZ {G:Gr} {a:Rf} {e:Rf × List Nd × List Us}:e∈CM G a↔e∈G∧e.1≠a:=by simp [CM]
theorem o4 {G:Gr} (h:SortG G) {a:Rf} {x:List Nd × List Us}:o5 G a=some x↔(a,x)∈G:=by
 constructor
 ·
  intro hl
  obtain ⟨e,he,rfl⟩:=JB.1 hl
  have h1:=List.find?_some he
  have h2:=JR he
  simp only [decide_eq_true_eq] at h1
  subst h1
  exact h2
 ·
  intro hm
  have hn:=h.nodup
  cases hf:G.find? fun e=>decide (e.1=a) with
  |none=>
   rw [List.find?_eq_none] at hf
   exact absurd (hf _ hm) (by simp)
  |some e=>
   have h1:=List.find?_some hf
   have h2:=JR hf
   simp only [decide_eq_true_eq] at h1
   have:=kJ (fun e:Rf × List Nd × List Us=>e.1) hn h2 hm h1
   rw [o5,hf,this];rfl
theorem w8 {G:Gr} {a:Rf}:o5 G a=none↔ ∀ e∈G,e.1≠a:=by
 rw [o5,Option.map_eq_none_iff,List.find?_eq_none]
 simp
theorem uZ {G:Gr} (h:SortG G):(ba G).Pairwise fun x y=>aW x y=true:=by
 rw [ba,List.pairwise_map];exact h
theorem qj {L:List Rf} (h:L.Pairwise fun x y=>aW x y=true):sortRf L=L:=by
 refine List.mergeSort_of_pairwise ?_
 exact h.imp fun h=>by rw [mW h];rfl
end Go.SL
namespace Go.SL
open Go Go.Proofs
attribute [local irreducible] W WL WQ WG WA WX WLI WR WT WC VOp RW thn blk bo scp aN bf bi aF FnP ceP
structure Gs where
 gg:Nat
 gm:Nat
 E:List En
 clock:Nat
 R1:List Blk
 gr:Nat
 A:Option Nat
 cap:Nat
 Q:List En
 R2:List Blk
end Go.SL
namespace Go.SL
open Go
def inB:ByteArray:=⟨#[61,65,49,43,66,49]⟩
def inC:ByteArray:=⟨#[61,68,83,85,77,40,66,49,58,66,51,41]⟩
def inD:ByteArray:=⟨#[61,73,70,69,82,82,79,82,40,65,51,44,48,41,43,49]⟩
def FT (c r:Int):Nd:=⟨2,bD,wY c r,0,0,0⟩
def exG:Gr:= [
 (⟨1,2⟩,[FT 1 1,FT 2 1,dw 6 1],[⟨wY 1 1, -1,0⟩,⟨wY 2 1, -1,0⟩]),
 (⟨1,3⟩,[⟨3,bD,⟨2,1,2,3⟩,0,0,0⟩,⟨7,bD,aZ,0,46,1⟩],[⟨⟨2,1,2,3⟩,1,46⟩]),
 (⟨1,4⟩,[FT 1 3,⟨1,⟨1,0,az⟩,aZ,0,0,0⟩,⟨7,bD,aZ,0,25,2⟩,⟨1,⟨1,10000,az⟩,aZ,0,0,0⟩,dw 6 1],[⟨wY 1 3, -1,0⟩])]
end Go.SL
namespace Go.SL
open Go Go.RowKit
section
variable {P:Program} {ops:Array Oper} {es ps:List Nat} {C:World→Prop}
theorem ny {Q:Act→World→Prop} {i:Nat} {oi:Oper} (hi:ops[i]? =some oi) (hsel: ∀ (j:Nat) (o:Oper) cs b,ops[j]? =some o→o.op≠ .select cs b)
  (hnb: ∀ x∈es,∀ y,y∈es∨y∈ps→x≠y→(x=i∨y=i)→nU ops x y):
  ∀ (f:Nat) (L:Array Bool) (a:Act) (w:World),ClosedL ops L→C w→
   (∀ j oj,ops[j]? =some oj→j≠i→L.getD j true=false→(∀ e∈oj.after,Region.binds .any e=true→e.on≠i)→oi.apart ops oj=true)→
   i∈Region.ready .any ops L→EOp P ops es ps C (AnyE P ops es ps C Q f (L.setIfInBounds i true)) i oi a w→AnyE P ops es ps C Q (f+1) L a w
 |0,L,a,w,hcl,hC,_,hr,hy=>⟨hC,fun h=>(by rw [h] at hr;cases hr),fun j hj=>by
   by_cases hji:j=i
   ·
    subst hji;exact ⟨oi,hi,hy⟩
   ·
    exfalso
    have hne:=ready_mono hj hji
    have hE: ∃ a' w',AnyE P ops es ps C Q 0 (L.setIfInBounds i true) a' w' :=by
     cases hy with
     |pass _ hk=>exact ⟨_,_,hk⟩
     |quiet _ _ _ _ _ hk=>exact ⟨_,_,hk⟩
     |eff _ _ hk=>obtain ⟨v,w',h⟩:=hk.ex;exact ⟨_,_,h⟩
    obtain ⟨a',w',_,h0,_⟩:=hE
    rw [h0] at hne
    cases hne⟩
 |f+1,L,a,w,hcl,hC,hfree,hr,hy=>⟨hC,fun h=>(by rw [h] at hr;cases hr),fun j hj=>by
   by_cases hji:j=i
   ·
    subst hji;exact ⟨oi,hi,hy⟩
   ·
    have hj' :=ready_mono hj hji
    obtain ⟨hjun,oj,hoj,hall⟩:=mem_ready.1 hj
    have hnot: ∀ e∈oj.after,Region.binds .any e=true→e.on≠i:=fun e he hb heq=>by
     have h1:=hall e he hb
     have h0:=(mem_ready.1 hr).1
     rw [heq] at h1
     rcases J3 i L.size with h' |h'
     ·
      simp [h'] at h0 h1;rw [h0] at h1;cases h1
     ·
      simp [JC h'] at h1
    have hap:=hfree j oj hoj hji hjun hnot
    obtain ⟨h1,h2,h3⟩:=Oper.apart_spec hap
    have hsi:=fun cs b=>hsel i oi cs b hi
    have hsj:=fun cs b=>hsel j oj cs b hoj
    have hej: ∀ v,execOp (a.put oi.dst v).eval oj=execOp a.eval oj:=fun v=>execOp_put oj hsj a oi.dst v h1
    have hwj: ∀ v,Region.wanted oj (yielded ops (a.put oi.dst v).tmps)=Region.wanted oj (yielded ops a.tmps):=fun v=>wanted_put oj a oi.dst v h1
    have hcomm: ∀ v u,(a.put oi.dst v).put oj.dst u=(a.put oj.dst u).put oi.dst v:=fun v u=>Act.put_comm a v u h2
    have hset:(L.setIfInBounds i true).setIfInBounds j true=(L.setIfInBounds j true).setIfInBounds i true:=JV _ _ (Ne.symm hji)
    have hfree' : ∀ k ok,ops[k]? =some ok→k≠i→(L.setIfInBounds j true).getD k true=false→
      (∀ e∈ok.after,Region.binds .any e=true→e.on≠i)→oi.apart ops ok=true:=fun k ok hk hki hun hno=>by
     refine hfree k ok hk hki ?_ hno
     by_cases hjk:j=k
     ·
      subst hjk;exact hjun
     ·
      rw [getD_set_ne true hjk] at hun;exact hun
    have ih:=ny (Q:=Q) hi hsel hnb f (L.setIfInBounds j true)
    have hcl' :=hcl.set hj
    have hr' :=ready_mono hr (Ne.symm hji)
    -- what comes of j behind an outcome of i
    have hJ: ∀ v w',AnyE P ops es ps C Q (f+1) (L.setIfInBounds i true) (a.put oi.dst v) w' →EOp P ops es ps C (AnyE P ops es ps C Q f ((L.setIfInBounds j true).setIfInBounds i true)) j oj (a.put oi.dst v) w' :=fun v w' h=>by
     obtain ⟨o,ho,hE⟩:=h.2.2 j hj'
     have e:o=oj:=Option.some.inj (ho.symm.trans hoj)
     subst e
     rw [hset] at hE
     exact hE
    refine ⟨oj,hoj,?_⟩
    have hstill:(∃ v,AnyE P ops es ps C Q (f+1) (L.setIfInBounds i true) (a.put oi.dst v) w∧ ∀ (u:Value) (w2:World) (K' :Act→World→Prop),C w2→(i∈ps→w2=w)→K' ((a.put oj.dst u).put oi.dst v) w2→EOp P ops es ps C K' i oi (a.put oj.dst u) w2)∨
      (Region.wanted oi (yielded ops a.tmps)=true∧i∈es∧NormUp P (fun v w' =>AnyE P ops es ps C Q (f+1) (L.setIfInBounds i true) (a.put oi.dst v) w') ((execOp a.eval oi).run P w)):=by
     cases hy with
     |pass hw hk=>exact .inl ⟨undef,hk,fun u w2 K' _ _ hk' => .pass ((wanted_put oi a oj.dst u h3).trans hw) hk'⟩
     |quiet hw hies v hrun hst hk=>
      refine .inl ⟨v,hk,fun u w2 K' hC2 hps hk' => ?_⟩
      have he:=execOp_put oi hsi a oj.dst u h3
      have hrun2:(execOp a.eval oi).run P w2= .ok (.value v) w2:=by
       rcases hst with h|h
       ·
        rw [hps h];exact hrun
       ·
        exact h w2 hC2
      exact .quiet ((wanted_put oi a oj.dst u h3).trans hw) hies v (by rw [he];exact hrun2) (by rw [he];exact hst) hk'
     |eff hw hies hk=>exact .inr ⟨hw,hies,hk⟩
    rcases hstill with ⟨v,hk,hS⟩|⟨hw,hies,hk⟩
    ·
     cases hJ v w hk with
     |pass hwj' hkj=>exact .pass ((hwj v).symm.trans hwj') (ih _ w hcl' hC hfree' hr' (hS undef w _ hC (fun _=>rfl) (by rw [← hcomm];exact hkj)))
     |quiet hwj' hjes u hrun hst hkj=>
      rw [hej] at hrun hst
      exact .quiet ((hwj v).symm.trans hwj') hjes u hrun hst (ih _ w hcl' hC hfree' hr' (hS u w _ hC (fun _=>rfl) (by rw [← hcomm];exact hkj)))
     |eff hwj' hjes hkj=>
      rw [hej] at hkj
      exact .eff ((hwj v).symm.trans hwj') hjes (hkj.mono fun u w2 hk2=>ih _ w2 hcl' hk2.inC hfree' hr' (hS u w2 _ hk2.inC (fun hps=>(hnb j hjes i (.inr hps) hji (.inr rfl) L hcl hj hr).elim) (by rw [← hcomm];exact hk2)))
    ·
     obtain ⟨v0,w1,h0⟩:=hk.ex
     cases hJ v0 w1 h0 with
     |pass hwj' hkj=>
      have hwa:=(hwj v0).symm.trans hwj'
      refine .pass hwa (ih _ w hcl' hC hfree' hr' (EOp.of_put hap hsi (.eff hw hies hk) fun v w' h=> ?_))
      cases hJ v w' h with
      |pass _ h' =>rw [← hcomm];exact h'
      |quiet hw2 _ _ _ _ _=>rw [hwj,hwa] at hw2;cases hw2
      |eff hw2 _ _=>rw [hwj,hwa] at hw2;cases hw2
     |quiet hwj' hjes u hrun hst hkj=>
      have hwa:=(hwj v0).symm.trans hwj'
      have hst2: ∀ w1,C w1→(execOp a.eval oj).run P w1= .ok (.value u) w1:=by
       rcases hst with h|h
       ·
        exact (hnb i hies j (.inr h) (Ne.symm hji) (.inl rfl) L hcl hr hj).elim
       ·
        rw [hej] at h;exact h
      refine .quiet hwa hjes u (hst2 w hC) (.inr hst2) (ih _ w hcl' hC hfree' hr' (EOp.of_put hap hsi (.eff hw hies hk) fun v w' h=> ?_))
      cases hJ v w' h with
      |pass hw2 _=>rw [hwj,hwa] at hw2;cases hw2
      |eff _ hjes2 _=>exact absurd hjes2 hjes
      |quiet _ _ u' hr2 hst' h' =>
       have hst3:(execOp a.eval oj).run P w= .ok (.value u') w:=by
        rcases hst' with h|h
        ·
         exact (hnb i hies j (.inr h) (Ne.symm hji) (.inl rfl) L hcl hr hj).elim
        ·
         have:=h w hC
         rw [hej] at this;exact this
       rw [hst2 w hC] at hst3
       injection hst3 with h4
       injection h4 with h4
       subst h4
       rw [← hcomm];exact h'
     |eff hwj' hjes hkj=>exact (hnb i hies j (.inl hjes) (Ne.symm hji) (.inl rfl) L hcl hr hj).elim⟩
end
section
variable {P:Program} {n:Fr} {w0:World} {Q:aU} {s:ap} {H S:List Blk} {l:List Oper} {ty:TypeId} {p:String} {af:Array Edge} {es:List Nat} {gu:Option (Nat × Bool)} {f:Nat} {L:Array Bool}
def WE (P:Program) (n:Fr) (w0:World) (l:List Oper) (S:List Blk) (es:List Nat) (Q:aU) (f:Nat) (L:Array Bool) (s:ap) (H:List Blk):Prop:=
 ∀ a w,St n s a→Mem w0 w H→Mem w0 w S→ClosedL l.toArray L→AnyE P l.toArray es [] (fun w=>Mem w0 w S) (post n w0 Q .normal) f L a w
theorem nM {id:Nat} (es:List Nat) (S:List Blk) (N:Nat) (hN:l.length=N) (hm:P.follows .mixedOrders=true) (hS:MSub S H)
  (h:WE P n w0 l S es Q N (Array.replicate N false) s H):W P n w0 (.region id l.toArray true) Q s H:=by
 intro a w hs hmem
 subst hN
 refine wp_region_any hm (dz (es:=es) (ps:= []) (C:=fun w=>Mem w0 w S) (Q:=post n w0 Q .normal) (fun _ _ h=>h) _ _ _ _ ?_)
 have hcl:ClosedL l.toArray (Array.replicate l.length false):=fun i o _ hi=>by
  rw [Ip,JW] at hi
  split at hi<;>cases hi
 have:=h a _ hs hmem.drew (hS.use hmem.drew) hcl
 simpa using this
theorem nK (hr:Region.ready .any l.toArray L= []) (h:Q .normal s H):WE P n w0 l S es Q f L s H:=by
 intro a w hs hm hS hcl
 cases f with
 |zero=>exact ⟨hS,hr,s,H,hs,hm,h⟩
 |succ f=>exact ⟨hS,fun _=>⟨s,H,hs,hm,h⟩,fun i hi=>by rw [hr] at hi;cases hi⟩
theorem dI {i:Nat} {op:Op} {d:Nat} {v:Value} (hi:l[i]? =some ⟨some d,op,ty,p,af,gu⟩) (hn:Nat.blt d n.sz=true) (hg:gok l s gu=some true) (hk:es.contains i=false) (hsel:Region.noSelect l.toArray=true)
  (hr:(Region.ready .any l.toArray L).contains i=true) (hf:Region.free .any l.toArray L i=true) (hv:VOp P w0 s S op ty v) (h:WE P n w0 l S es Q f (L.setIfInBounds i true) ((d,v)::s) H):WE P n w0 l S es Q (f+1) L s H:=by
 intro a w hs hm hS hcl
 have hi' :l.toArray[i]? =some ⟨some d,op,ty,p,af,gu⟩:=by simpa using hi
 have hr' :i∈Region.ready .any l.toArray L:=by simpa using hr
 have hk' :i∉es:=by simpa using hk
 refine ny hi' (Region.noSelect_spec hsel) (fun x hx y hy _ hxy=> ?_) f L a w hcl hS (Region.free_spec hi' hf) hr'
  (.quiet (cV rfl hg hs) hk' v (hv a.eval w (some d) p af gu hs.eval hS) (.inr fun w1 h1=>hv a.eval w1 (some d) p af gu hs.eval h1) (h _ _ (hs.put (IL ▸ hn) v) hm hS (hcl.set hr')))
 rcases hxy with rfl|rfl
 ·
  exact (hk' hx).elim
 ·
  rcases hy with hy|hy
  ·
   exact (hk' hy).elim
  ·
   cases hy
theorem jC {i:Nat} {op:Op} {dst:Option Tmp} (hi:l[i]? =some ⟨dst,op,ty,p,af,gu⟩) (hg:gok l s gu=some true) (hk:es.contains i=true) (hr:(Region.ready .any l.toArray L).contains i=true)
  (h:WL P n w0 #[] [⟨dst,op,ty,p,af,none⟩] (ceP S (WE P n w0 l S es Q f (L.setIfInBounds i true))) s H) (a:Act) (w:World) (hs:St n s a) (hm:Mem w0 w H) (hcl:ClosedL l.toArray L):
  EOp P l.toArray es [] (fun w=>Mem w0 w S) (AnyE P l.toArray es [] (fun w=>Mem w0 w S) (post n w0 Q .normal) f (L.setIfInBounds i true)) i ⟨dst,op,ty,p,af,gu⟩ a w:=by
 have hr' :i∈Region.ready .any l.toArray L:=by simpa using hr
 refine .eff (cV rfl hg hs) (by simpa using hk) ?_
 have h1:=h a w hs hm
 unfold wpList at h1
 simp only [Region.wanted,if_true] at h1
 replace h1:=h1.elim id fun ⟨_,a0,w1,s',H'',_,_,he,_⟩=>by cases he
 have hexec:execOp a.eval ⟨dst,op,ty,p,af,gu⟩=execOp a.eval ⟨dst,op,ty,p,af,none⟩:=rfl
 rw [hexec]
 have nxt: ∀ (a' :Act) (w' :World),wpList P #[] (post n w0 (ceP S (WE P n w0 l S es Q f (L.setIfInBounds i true)))) [] a' w' →AnyE P l.toArray es [] (fun w=>Mem w0 w S) (post n w0 Q .normal) f (L.setIfInBounds i true) a' w' :=by
  rintro a' w' ⟨s',H',hs',hm',_,hSub,hK⟩
  exact hK a' w' hs' hm' (hSub.use hm') (hcl.set hr')
 unfold Oper.wp at h1
 generalize (execOp a.eval ⟨dst,op,ty,p,af,none⟩).run P w=r at h1 ⊢
 cases r with
 |ok x w' =>
  cases x<;>simp only [Oper.upon] at h1<;>simp only [NormUp]
  case value u=>exact nxt _ _ h1
  case skip=>exact nxt _ _ h1
  case defer dd=>
   obtain ⟨s',H'',hs',_⟩:=h1
   have h2:=congrArg List.length (hs'.defers.trans hs.defers.symm)
   cases dst<;>simp [Act.put] at h2
  case enter f args=>
   refine h1.mono fun e w'' he=> ?_
   cases e with
   |returned v=>exact ⟨v,rfl,nxt _ _ he⟩
   |panicked c=>
    obtain ⟨s',H'',_,_,he',_⟩:=he
    cases he'
   |outgrown=>
    obtain ⟨a0,w1,s',H'',_,_,he',_⟩:=he
    cases he'
  case row f args=>exact Rows.mono h1 fun u w'' he=>nxt _ _ he
 |halt x w' =>
  cases x<;>simp only [Oper.upon] at h1
  all_goals
   obtain ⟨s',H'',_,_,he',_⟩:=h1
   cases he'
theorem bM {i:Nat} {op:Op} {dst:Option Tmp} (hi:l[i]? =some ⟨dst,op,ty,p,af,gu⟩) (hg:gok l s gu=some true) (hk:es.contains i=true) (hr:Region.ready .any l.toArray L= [i])
  (h:WL P n w0 #[] [⟨dst,op,ty,p,af,none⟩] (ceP S (WE P n w0 l S es Q f (L.setIfInBounds i true))) s H):WE P n w0 l S es Q (f+1) L s H:=by
 intro a w hs hm hS hcl
 refine ⟨hS,fun h0=>(by rw [hr] at h0;cases h0),fun j hj=> ?_⟩
 rw [hr] at hj
 have e:j=i:=by simpa using hj
 subst e
 exact ⟨_,by simpa using hi,jC hi hg hk (by rw [hr];simp) h a w hs hm hcl⟩
theorem dR {i j:Nat} {op op' :Op} {dst dst' :Option Tmp} {ty' :TypeId} {p' :String} {af' :Array Edge} {gu' :Option (Nat × Bool)} (hi:l[i]? =some ⟨dst,op,ty,p,af,gu⟩) (hj:l[j]? =some ⟨dst',op',ty',p',af',gu'⟩) (hg:gok l s gu=some true) (hg' :gok l s gu' =some true)
  (hk:es.contains i=true) (hk' :es.contains j=true) (hr:Region.ready .any l.toArray L= [i,j])
  (h:WL P n w0 #[] [⟨dst,op,ty,p,af,none⟩] (ceP S (WE P n w0 l S es Q f (L.setIfInBounds i true))) s H)
  (h' :WL P n w0 #[] [⟨dst',op',ty',p',af',none⟩] (ceP S (WE P n w0 l S es Q f (L.setIfInBounds j true))) s H):WE P n w0 l S es Q (f+1) L s H:=by
 intro a w hs hm hS hcl
 refine ⟨hS,fun h0=>(by rw [hr] at h0;cases h0),fun k hk0=> ?_⟩
 rw [hr] at hk0
 rcases Ie.1 hk0 with e|hk0
 ·
  subst e
  exact ⟨_,by simpa using hi,jC hi hg hk (by rw [hr];simp) h a w hs hm hcl⟩
 ·
  have e:k=j:=by simpa using hk0
  subst e
  exact ⟨_,by simpa using hj,jC hj hg' hk' (by rw [hr];simp) h' a w hs hm hcl⟩
end
end Go.SL
namespace Go.SL
open Go Go.Proofs
attribute [local irreducible] W WL WQ WG WA WX WLI WR WT WC WE VOp RW thn blk bo scp aN bf bi aF FnIn FnP ceP
theorem G3 {L:List Us} {k:Nat} (h:k<L.length):((L.flatMap dh).drop (0+k*6)).take 6=dh L[k]:=by
 rw [H8];exact cd vw L k h
end Go.SL
namespace Go.SL
open Go Go.Proofs
theorem HF {P:Program} {n:Fr} {w0:World} {Q:aU} {s:ap} {H:List Blk} {c:Code} {A:Option Nat} {t sz m cap:Nat} {xs:List Value} (hi:In (.own A t sz m cap xs) H) (h:m≤cap→W P n w0 c Q s H):W P n w0 c Q s H:=fun a w hs hmem=>
 h (hmem.on _ hi.mem).1.2.1 a w hs hmem
theorem bT (w:World):Reads w (.slice none 0 0) 0 []:=⟨none,0,rfl,Ih _,H5 _,fun h=>absurd h (Nat.lt_irrefl 0)⟩
attribute [local irreducible] W WL WQ WG WA WX WLI WR WT WC WE VOp RW thn blk bo scp aN bf bi aF FnIn FnP ceP
end Go.SL
namespace Go.SL
open Go Go.Proofs
attribute [local irreducible] W WL WQ WG WA WX WLI WR WT WC WE VOp RW thn blk bo scp aN bf bi aF FnIn FnP ceP
def BZ (k:Int):Bool:=decide (k=3)||decide (k=4)||decide (k=7)||decide (k=8)||decide (k=9)
def Ar (k:Int):Ox:=⟨k,0,aZ,az,0#64,0#64,0#64,0,0#64,0⟩
theorem xE (x:Ox) (w:World):ay Tryz.prog 41 [.agg (Fb x).toArray] w (.bool (BZ x.kind)):=by
 refine aq Tryz.func41 rfl Tryz.ntmps41 rfl ?_
 repeat' (first|refine sT ?_|refine sS ?_|refine sM fun _=> ?_|(refine sC ?_ ?_<;>intro hb<;>try omega)|fail)
 all_goals first
  |(exfalso;omega)
  |((refine rT1 ?_);simp_all [BZ];done)
theorem vV (k:Int) (w:World):ay Tryz.prog 41 [.agg (Fb (Ar k)).toArray] w (.bool (BZ k)):=xE (Ar k) w
theorem qC {P:Program} {w0:World} {s:ap} {H:List Blk} {ty t e lo m c sz g:Nat} {x xl:Operand} [ht:Und P t (.slice e)] [hz:Size P e sz] (hx:ev s x=some (.slice (some ⟨g,0,none⟩) m c)) (hxl:ev s xl=some (.int .i64 (lo:Nat))) (h1:lo<m) (h2:m≤c):
  VOp P w0 s H (.slice t x (some xl) none none) ty (.slice (some ⟨g,lo*sz,none⟩) (m - lo) (c - lo)):=by
 have h:=kY (P:=P) (w0:=w0) (s:=s) (H:=H) (ty:=ty) (t:=t) (lo:=lo) (hi:=m) (x:=x) (xl:=some xl) (xh:=none) hx ⟨_,hxl⟩ rfl (by omega) h2
 rw [if_neg (show ¬ c=lo by omega)] at h
 have ha:(⟨g,0,none⟩:Addr).add (lo*sz)=⟨g,lo*sz,none⟩:=by unfold Addr.add;split<;>simp_all
 rw [Jk,ha] at h
 exact h
theorem yX {P:Program} {w0:World} {s:ap} {H:List Blk} {ty t e hi m c sz:Nat} {A:Option Addr} {x xh:Operand} [ht:Und P t (.slice e)] [hz:Size P e sz] (hx:ev s x=some (.slice A m c)) (hxh:ev s xh=some (.int .i64 (hi:Nat))) (h2:hi≤c):
  VOp P w0 s H (.slice t x none (some xh) none) ty (.slice A hi c):=by
 have h:=kY (P:=P) (w0:=w0) (s:=s) (H:=H) (ty:=ty) (t:=t) (lo:=0) (hi:=hi) (x:=x) (xl:=none) (xh:=some xh) hx rfl ⟨_,hxh⟩ (by omega) h2
 have ha:(if c=0 then A else A.map (·.add (0*sz)))=A:=by
  split
  ·
   rfl
  ·
   cases A with
   |none=>rfl
   |some a=>rw [Nat.zero_mul];simp [Addr.add]
 rw [ha] at h
 exact h
end Go.SL
namespace Go.SL
open Go Go.RowKit
section
variable {P:Program} {n:Fr} {w0:World} {Q:aU} {s:ap} {H S:List Blk} {l:List Oper} {L:Array Bool} {f:Nat} {ty:TypeId} {p:String} {af:Array Edge} {es:List Nat} {gu:Option (Nat × Bool)}
theorem tT {i j k:Nat} {op op' op2:Op} {dst dst' dst2:Option Tmp} {ty' ty2:TypeId} {p' p2:String} {af' af2:Array Edge} {gu' gu2:Option (Nat × Bool)} (hi:l[i]? =some ⟨dst,op,ty,p,af,gu⟩) (hj:l[j]? =some ⟨dst',op',ty',p',af',gu'⟩) (hl:l[k]? =some ⟨dst2,op2,ty2,p2,af2,gu2⟩)
  (hg:gok l s gu=some true) (hg' :gok l s gu' =some true) (hg2:gok l s gu2=some true)
  (hk:es.contains i=true) (hk' :es.contains j=true) (hk2:es.contains k=true) (hr:Region.ready .any l.toArray L= [i,j,k])
  (h:WL P n w0 #[] [⟨dst,op,ty,p,af,none⟩] (ceP S (WE P n w0 l S es Q f (L.setIfInBounds i true))) s H)
  (h' :WL P n w0 #[] [⟨dst',op',ty',p',af',none⟩] (ceP S (WE P n w0 l S es Q f (L.setIfInBounds j true))) s H)
  (h2:WL P n w0 #[] [⟨dst2,op2,ty2,p2,af2,none⟩] (ceP S (WE P n w0 l S es Q f (L.setIfInBounds k true))) s H):WE P n w0 l S es Q (f+1) L s H:=by
 intro a w hs hm hS hcl
 refine ⟨hS,fun h0=>(by rw [hr] at h0;cases h0),fun x hx=> ?_⟩
 rw [hr] at hx
 rcases Ie.1 hx with e|hx
 ·
  subst e
  exact ⟨_,by simpa using hi,jC hi hg hk (by rw [hr];simp) h a w hs hm hcl⟩
 ·
  rcases Ie.1 hx with e|hx
  ·
   subst e
   exact ⟨_,by simpa using hj,jC hj hg' hk' (by rw [hr];simp) h' a w hs hm hcl⟩
  ·
   have e:x=k:=by simpa using hx
   subst e
   exact ⟨_,by simpa using hl,jC hl hg2 hk2 (by rw [hr];simp) h2 a w hs hm hcl⟩
end
end Go.SL
namespace Go.SL
open Go Go.Proofs
attribute [local irreducible] W WL WQ WG WA WX WLI WR WT WC WE VOp RW thn blk bo scp aN bf bi aF FnIn FnP ceP
theorem vW (L M:List Rv) (lv mv:Value) (w:World) (hl:Reads w lv L.length (L.flatMap aH)) (hm:Reads w mv M.length (M.flatMap aH)):
  ay Tryz.prog 23 [lv,mv] w (.bool (decide (L=M))):=by
 obtain ⟨Al,cl,rfl,hl1,hl2,hl3⟩:=hl
 obtain ⟨Am,cm,rfl,hm1,hm2,hm3⟩:=hm
 refine aq Tryz.func23 rfl Tryz.ntmps23 rfl ?_
 by_cases hlen:L.length=M.length
 ·
  repeat' (first|refine sT ?_|refine sS ?_|refine sM fun _=> ?_|(refine sC ?_ ?_<;>intro hb<;>try omega)|fail)
  refine fI (fun i:Nat=> [(0,.slice Al L.length cl),(1,.slice Am M.length cm),(5,.int .i64 (i:Int))]) (fun _=> []) (fun i=>i≤L.length∧decide (L=M)=decide (L.drop i=M.drop i)) (fun i=>L.length - i) 0 ⟨by omega,rfl⟩ ?_ ?_ ?_
  ·
   exact sB
  ·
   exact mS
  ·
   rintro i ⟨hi,hrec⟩
   by_cases hlt:i<L.length
   ·
    have hlt2:i<M.length:=by omega
    obtain ⟨gl,ol,rfl,hrl⟩:=hl3 (by omega)
    obtain ⟨gm,om,rfl,hrm⟩:=hm3 (by omega)
    have he1:=hrl.elem cf i hlt
    have he2:=hrm.elem cf i hlt2
    rw [Er hlt hlt2,← CI] at hrec
    repeat' (first|(apply aK;exact rfl;apply ai;exact rfl;exact rfl;(first|exact hlt|exact hlt2))|(apply aK;exact rfl;apply aA;exact rfl;(first|exact he1|exact he2);exact rfl)|(apply aK;exact rfl;apply Dv;exact rfl;exact rfl)|(apply aj;exact rfl;apply jF;exact rfl;exact rfl;(simp only [maxLen] at*;omega))|refine sT ?_|refine sS ?_|refine sQ ?_|refine sD ?_|refine sM fun _=> ?_|(refine sC ?_ ?_<;>intro hb<;>try omega)|(refine sCQ ?_ ?_<;>intro hb<;>try omega)|fail)
    all_goals first
     |(exfalso;omega)
     |((refine rT1 ?_);rw [hrec];simp_all;done)
     |(refine ⟨i+1,⟨by omega,?_⟩,by omega,by exact sB,by exact mS⟩;rw [hrec];simp_all;done)
   ·
    have e:i=L.length:=by omega
    subst e
    repeat' (first|refine sT ?_|refine sS ?_|refine sM fun _=> ?_|(refine sC ?_ ?_<;>intro hb<;>try omega)|fail)
    (refine rT1 ?_)
    rw [hrec,I3,hlen,I3]
    rfl
 ·
  repeat' (first|refine sT ?_|refine sS ?_|refine sM fun _=> ?_|(refine sC ?_ ?_<;>intro hb<;>try omega)|fail)
  (refine rT1 ?_)
  rw [decide_eq_false]
  intro e
  exact hlen (congrArg List.length e)
def zU (p q:Pz):Int:=if p.rect.r1≠q.rect.r1 then p.rect.r1 - q.rect.r1 else p.rect.c1 - q.rect.c1
def oK (p:Pz):Prop:=0≤p.rect.r1∧p.rect.r1≤100000∧0≤p.rect.c1∧p.rect.c1≤100000
theorem ED (p q:Pz) (hp:oK p) (hq:oK q) (w:World):ay Tryz.prog 185 [.agg (bK p).toArray,.agg (bK q).toArray] w (.int .i64 (zU p q)):=by
 refine aq Tryz.func185 rfl Tryz.ntmps185 rfl ?_
 obtain ⟨h1,h2,h3,h4⟩:=hp
 obtain ⟨h5,h6,h7,h8⟩:=hq
 repeat' (first|refine sT ?_|refine sJ ?_|refine sM fun _=> ?_|(refine sC ?_ ?_<;>intro hb<;>try omega)|fail)
 all_goals first
  |(exfalso;omega)
  |((refine rT1 ?_);rw [zU,if_pos hb];done)
  |((refine rT1 ?_);rw [zU,if_neg (fun h=>h hb)];done)
  |((refine rT1 ?_);rw [zU,if_neg (fun h=>hb h)];done)
structure InZ (L:List Pz):Prop where
 sort:L.Pairwise Cg
 small: ∀ p∈L,oK p
 len:L.length≤1000000
theorem InZ.cmp {L:List Pz} (h:InZ L) {i j:Nat} (hij:i≤j) (hj:j<L.length): ∃ z:Int,0≤z∧ ∀ w,ay Tryz.prog 185 [.agg (bK L[j]).toArray,.agg (bK (L[i]'(by omega))).toArray] w (.int .i64 z):=by
 refine ⟨_,?_,fun w=>ED _ _ (h.small _ (I7 hj)) (h.small _ (I7 _)) w⟩
 by_cases e:i=j
 ·
  subst e;simp [zU]
 ·
  have:=List.pairwise_iff_getElem.1 h.sort i j (by omega) hj (by omega)
  unfold zU
  rcases this with h1|⟨h1,h2⟩
  ·
   rw [if_pos (by omega)];omega
  ·
   rw [if_neg (by omega)];omega
abbrev EE:Value:= .func (.func 185) #[] #[]
set_option maxHeartbeats 4000000 in
theorem Ec (L:List Pz) (hL:InZ L) (lv:Value) (w:World) (hl:Reads w lv L.length (L.flatMap bK)) (a b:Nat) (hb:b≤L.length) (ha:a≤L.length):
  ay Tryz.prog 279 [lv,.int .i64 (a:Int),.int .i64 (b:Int),EE] w (.tuple #[]):=by
 obtain ⟨Al,cl,rfl,hl1,hl2,hl3⟩:=hl
 refine aq Tryz.func279 rfl Tryz.ntmps279 rfl ?_
 have hlen:=hL.len
 repeat' (first|refine sT ?_|refine sS ?_|refine sN ?_|refine sM fun _=> ?_|(refine sC ?_ ?_<;>intro hb<;>try omega)|fail)
 refine ax [0,1,2,3] rfl (fun i:Nat=> [(8,.int .i64 (i:Int))]) (fun _=> []) (fun i=>a+1≤i∧i≤max b (a+1)) (fun i=>max b (a+1) - i) (a+1) ⟨Ih _,by omega⟩ sB mS ?_
 rintro i ⟨hi,hi2⟩
 by_cases hlt:i<b
 ·
  obtain ⟨gl,ol,rfl,hrl⟩:=hl3 (by omega)
  obtain ⟨z,hz,hc⟩:=hL.cmp (i:=i - 1) (j:=i) (by omega) (by omega)
  have h1:=hrl.elem bF i (by omega)
  have h2:=hrl.elem bF (i - 1) (by omega)
  generalize L[i]'(by omega)=p at h1 hc
  generalize L[i - 1]'(by omega)=q at h2 hc
  repeat' (first|refine sT ?_|refine sS ?_|refine sN ?_|refine sM fun _=> ?_|(refine sC ?_ ?_<;>intro hb<;>try omega)|fail)
  all_goals try (exfalso;omega)
  refine ax [0,1,2,3,8] rfl (fun _:Unit=> [(9,.int .i64 (i:Int))]) (fun _=> []) (fun _=>True) (fun _=>0) () trivial sB mS ?_
  rintro _ _
  repeat' (first|(apply gH (id:=4);kernel_rfl;kernel_rfl)|(apply aK (d:=25);exact rfl;apply ai (j:=i);exact rfl;exact rfl;omega)|(apply aK (d:=30);exact rfl;apply ai (j:=i - 1);exact rfl;exact rfl;omega)|(apply aK (d:=26);exact rfl;apply aA (xs:=bK p);exact rfl;exact h1;exact rfl)|(apply aK (d:=31);exact rfl;apply aA (xs:=bK q);exact rfl;exact h2;exact rfl)|(apply ep;exact rfl;exact rfl;infer_instance;exact rfl;(intro w' _;exact hc w'))|refine sT ?_|refine sS ?_|refine sQ ?_|refine sN ?_|refine sNQ ?_|refine sO ?_|refine sOQ ?_|refine sD ?_|refine sM fun _=> ?_|(refine sC ?_ ?_<;>intro hb<;>try omega)|(refine sCQ ?_ ?_<;>intro hb<;>try omega)|fail)
  all_goals first
   |(exfalso;omega)
   |(refine ⟨i+1,⟨by omega,by omega⟩,by omega,by exact sB,by exact sB,by exact mS⟩;done)
 ·
  repeat' (first|refine sT ?_|refine sS ?_|refine sM fun _=> ?_|(refine sC ?_ ?_<;>intro hb<;>try omega)|fail)
  all_goals first
   |(exfalso;omega)
   |(exact eT eIO rfl (MSub.nil _) rfl)
end Go.SL

/-
  Lemmas and walks, put together: Fc D1 B5 C7 D2 Gp G1 Lp Pl8 Cg Ck D7.
-/
import Derived.LaidMore
import Derived.Lay
import Derived.SevenTiedAt
import Derived.Stop.Joined
import Derived.Test.YtpoafcnhplbkmaaGreatDoorCards
import Derived.Test.YtpoafcnhplbkmaaGreatDoorTie
import Derived.Test.YtpoafcnhplbkmaaGreatDoorKt11
set_option linter.unusedSimpArgs false
set_option linter.unusedVariables false
set_option maxRecDepth 20000
set_option maxHeartbeats 16000000
namespace Go.SL
open Go Go.Proofs Go.Proofs.YtpoafcnhplbkmaaGreatDoor Go.ChangeShapes Go.WideShapes Go.ChangeAt Go.RowKit Go.Deep
def lU:List (List UInt8):= [[],[35,68,73,86,47,48,33],[35,86,65,76,85,69,33],[35,78,85,77,33],[35,78,47,65],[35,82,69,70,33],[35,67,89,67,76,69,33],[35,68,69,78,73,69,68]]
def px:List (String × DataW Unit):= [("louvre/val.words",Rows.laid_louvre_val_words)]
theorem tO:(Rows.laid_louvre_val_words:DataW Unit)= .agg (lU.map fun l=> .lit (.string l)):=rfl
theorem Bk:cP=lU.map fun l=>⟨l.toArray⟩:=rfl
set_option maxRecDepth 100000 in
theorem p8 {W:World} (h:laidMetH Tryz.prog px W):Words W:=by
 rw [MakeChecks.laidMetH_plain _ _ _ (by kernel_rfl)] at h;obtain ⟨ps,⟨g,t,cs,fuel,p,q,hg,ht,hv,hd,_,_⟩,_⟩:=h;obtain rfl:=Option.some.inj ((show Tryz.prog.globalNamed "louvre/val.words" =some 0 by kernel_rfl).symm.trans hg);obtain rfl:=Option.some.inj ((show (Tryz.prog.globals[0]?).map (·.type)=some 263 by kernel_rfl).symm.trans ht);rw [tO] at hd;obtain ⟨xs,m,_,ex,_,hl,hel⟩:=DataW.trod_array Tryz.underlying263 hd;have cS:Tryz.prog.cellsOf 9=1:=by kernel_rfl
 have hcell: ∀ (j:Nat) (v:Value),(cP.map Value.string)[j]? =some v→W.cell? ⟨0,0+j,none⟩=some v:=by
  intro j v hjv;have hj:j<8:=by
   have:=(IQ.1 hjv).1;simpa [cP] using this
  have hE:=hel j hj;rw [cS,Jd,Ir (by omega)] at hE;obtain ⟨s,e1,e2,_⟩:=DataW.trod_string Tryz.underlying9 hE;have e3:(xs.map (·.1))=lU.map fun l=> .lit (.string l):=(DataW.agg.inj (Prod.mk.inj ex).1).symm;have hwl:lU.length=8:=rfl;have e4:(xs.map (·.1))[j]? =(lU.map fun l=>(DataW.lit (.string l):DataW Unit))[j]? :=by rw [e3]
  obtain ⟨u,hu⟩: ∃ u,lU[j]? =some u:=⟨_,Ir (by rw [hwl];exact hj)⟩;rw [Iy,Iy,Ir (by omega:j<xs.length),hu,e2] at e4;simp only [JB,Option.some.injEq,DataW.lit.injEq,Lit.string.injEq] at e4;have hs:s=⟨u.toArray⟩:=by
   obtain ⟨d⟩:=s;subst e4
   rfl
  have hvv:v= .string s:=by
   rw [Bk,JM,Iy,hu] at hjv;simp only [JB,Option.some.injEq,Function.comp] at hjv;rw [← hjv,hs]
  rw [hvv,IG,World.var?_cell hg hv j];have:cs.toList[j]? =some (.string s):=by
   have h0:((cs.toList.drop j).take 1)[0]? =some (.string s):=by rw [e1];rfl
   simpa using h0
  simpa using this
 refine ⟨?_,hcell⟩;have h5:=hcell 0 _ rfl;simp only [World.cell?] at h5;split at h5
 ·rename_i h6;exact (IW.1 h6).1
 ·cases h5
end Go.SL
namespace Go.SL
open Go Go.Proofs
attribute [local irreducible] W WL WQ WG WA WX WLI WR WT VOp RW thn blk aW scp aJ aS bg FnAt FnIn FnP
def iD (a b:ByteArray):ByteArray × Bool:=if (aq a).take b.size=aq b then (sub a b.size a.size,true) else (a,false)
theorem EZ (a b:ByteArray) (ha:a.size≤1000000) (w:World):aC Tryz.prog 134 [.string a,.string b] w (.tuple #[.string (iD a b).1,.bool (iD a b).2]):=by
 refine ax Tryz.func134 rfl Tryz.ntmps134 rfl ?_;have hp:=kz a b;unfold iD;by_cases h:(aq a).take b.size=aq b
 ·rw [if_pos h];rw [decide_eq_true h] at hp;have hb:b.size≤a.size:=by
   have:=congrArg List.length h;rw [Jl,av,av] at this;omega
  repeat' (first|(apply ag;exact rfl;exact rfl;(intro w hm;exact hp w))|refine zZD ?_|refine sM fun _=>?_|(refine sC ?_ ?_<;>intro hb<;>try omega)|fail)
  all_goals exact eX eIO rfl rfl rfl (.refl _) rfl
 ·rw [if_neg h];rw [decide_eq_false h] at hp;repeat' (first|(apply ag;exact rfl;exact rfl;(intro w hm;exact hp w))|refine zZD ?_|refine sM fun _=>?_|(refine sC ?_ ?_<;>intro hb<;>try omega)|fail)
  all_goals exact eX eIO rfl rfl rfl (.refl _) rfl
theorem Dm (a b:ByteArray) (ha:a.size≤1000000) (w:World):aC Tryz.prog 89 [.string a,.string b] w (.tuple #[.string (iD a b).1,.bool (iD a b).2]):=by
 refine ax Tryz.func89 rfl Tryz.ntmps89 rfl ?_;repeat' (first|(apply ag;exact rfl;exact rfl;(intro w hm;exact EZ a b ha w))|refine sT ?_|refine sM fun _=>?_|(refine sC ?_ ?_<;>intro hb<;>try omega)|fail)
 all_goals exact eX eIO rfl rfl rfl (.refl _) rfl
def Ho (b:ByteArray):Vl × Bool:=(bD,decide (b=aA))
def w7:ByteArray:=⟨#[39]⟩
def Hn (b:ByteArray):Vl × Bool:=(⟨3,0,(iD b w7).1⟩,(iD b w7).2)
def F5 (b:ByteArray):Vl × Bool:=(fN ⟨3,0,b⟩,decide ((fN ⟨3,0,b⟩).kind=2))
def F4 (b:ByteArray):Vl × Bool:=(iC (nk b).1,decide ((nk b).2=0) && decide ((nk b).1≤5))
def F3 (b:ByteArray):Vl × Bool:=if (mF (aq b)).2=3 then (iC 3,true) else (CC (mF (aq b)).1,decide ((mF (aq b)).2=0))
def um (x:Vl × Bool):Value:= .tuple #[.agg (cQ x.1).toArray,.bool x.2]
theorem DX (b:ByteArray) (g:Nat) (w:World) (hr:Ro w g 0 [.string b]):aC Tryz.prog 135 [.pointer (some ⟨g,0,none⟩)] w (um (Ho b)):=by
 refine ax Tryz.func135 rfl Tryz.ntmps135 rfl ?_;have hm:Mem w w []:=Mem.refl w;repeat' (first|(rename_i g1;refine iN (id:=1) 3 [.box g1 90 (cQ bD)] (by kernel_rfl) (by kernel_rfl) rfl ?_)|(apply wI;exact rfl;(intro D ht;apply aD (o:=0) (off:=0);exact hr;exact rfl;exact rfl);exact fun _=>rfl)|(apply mP;exact rfl;exact rfl;exact pK;(iterate 3 exact rfl);decide;exact .refl _)|refine sT ?_|refine sG ?_|refine sM fun _=>?_|(refine sC ?_ ?_<;>intro hb<;>try omega)|fail)
 all_goals ((refine jm ?_);rfl)
theorem DW (b:ByteArray) (hb:b.size≤1000000) (g:Nat) (w:World) (hr:Ro w g 0 [.string b]):aC Tryz.prog 136 [.pointer (some ⟨g,0,none⟩)] w (um (Hn b)):=by
 refine ax Tryz.func136 rfl Tryz.ntmps136 rfl ?_;repeat' (first|(apply ai;exact rfl;apply aD (o:=0) (off:=0);exact hr;exact rfl;exact rfl)|(apply ag;exact rfl;exact rfl;(intro w hm;exact Dm b w7 hb w))|refine sT ?_|refine sM fun _=>?_|(refine sC ?_ ?_<;>intro hb<;>try omega)|fail)
 all_goals ((refine jm ?_);rfl)
theorem DV (b:ByteArray) (hb:b.size≤1000000) (g:Nat) (w:World) (hr:Ro w g 0 [.string b]):aC Tryz.prog 137 [.pointer (some ⟨g,0,none⟩)] w (um (F5 b)):=by
 refine ax Tryz.func137 rfl Tryz.ntmps137 rfl ?_;have hT:=fun w' =>Bd ⟨3,0,b⟩ rfl hb w';unfold F5;generalize fN ⟨3,0,b⟩=v at hT;repeat' (first|(apply ai;exact rfl;apply aD (o:=0) (off:=0);exact hr;exact rfl;exact rfl)|(apply ag;exact rfl;exact rfl;(intro w hm;exact hT w))|(rename_i g1 g2;refine rS (id:=2) (g:=g1) (T:=90) (xs' :=cQ v) (R:= [.box g2 90 (cQ v)]) (fun D=> [if D 4 then .int .u8 v.kind else .int .u8 0,if D 4 then .int .i64 v.num else .int .i64 0,if D 4 then .string v.text else .string aA]) (by kernel_rfl) (by kernel_rfl) pK rfl (by intro D hD;simp [hD 4 (by decide),cQ]) ?_)|refine sT ?_|refine sG ?_|refine sM fun _=>?_|(refine sC ?_ ?_<;>intro hb<;>try omega)|fail)
 all_goals ((refine jm ?_);rfl)
theorem DU (b:ByteArray) (hb:b.size≤1000000) (g:Nat) (w:World) (hr:Ro w g 0 [.string b]) (hW:Words w):aC Tryz.prog 139 [.pointer (some ⟨g,0,none⟩)] w (um (F4 b)):=by
 refine ax Tryz.func139 rfl Tryz.ntmps139 rfl ?_;unfold F4;have hC:=fun (w' :World) (h:Words w')=>Fk b hb w' h;generalize nk b=x at hC;obtain ⟨c,e⟩:=x;repeat' (first|(apply ai;exact rfl;apply aD (o:=0) (off:=0);exact hr;exact rfl;exact rfl)|(apply ag (f:=140);exact rfl;exact rfl;(intro w' hm';exact hC w' (hW.next hm')))|(apply ag (f:=141);exact rfl;exact rfl;(intro w' hm';exact ji c w'))|refine sT ?_|refine sM fun _=>?_|(refine sC ?_ ?_<;>intro hb<;>try omega)|fail)
 all_goals ((refine jm ?_);simp_all [um,cQ])
theorem DT (b:ByteArray) (hb:b.size≤1000000) (g:Nat) (w:World) (hr:Ro w g 0 [.string b]):aC Tryz.prog 142 [.pointer (some ⟨g,0,none⟩)] w (um (F3 b)):=by
 refine ax Tryz.func142 rfl Tryz.ntmps142 rfl ?_;unfold F3;have hC:=fun (w' :World)=>ng b hb w';generalize mF (aq b)=x at hC;obtain ⟨n,e⟩:=x;repeat' (first|(apply ai;exact rfl;apply aD (o:=0) (off:=0);exact hr;exact rfl;exact rfl)|(apply ag;exact rfl;exact rfl;(intro w hm;exact hC w))|(apply ag (f:=141);exact rfl;exact rfl;(intro w' hm';exact ji 3 w'))|(apply ag (f:=144);exact rfl;exact rfl;(intro w' hm';exact Fh n w'))|refine sT ?_|refine sM fun _=>?_|(refine sC ?_ ?_<;>intro hb<;>try omega)|fail)
 all_goals ((refine jm ?_);simp_all [um,cQ])
def yX:List Nat:= [135,136,137,139,142]
def rY:List (ByteArray→Vl × Bool):= [Ho,Hn,F5,F4,F3]
def j4 (b:ByteArray):List (ByteArray→Vl × Bool)→Vl
 | []=>⟨3,0,b⟩
 |t::r=>if (t b).2 then (t b).1 else j4 b r
def tA (b:ByteArray):Vl:=j4 b rY
theorem BV (b:ByteArray) (hb:b.size≤1000000) (g k:Nat) (hk:k<5): ∃ f t,rY.drop k=t::rY.drop (k+1)∧(yX.map fun f=>Value.func (.func f) #[] #[.pointer (some ⟨g,0,none⟩)])[k]? =some (.func (.func f) #[] #[.pointer (some ⟨g,0,none⟩)])∧Callable Tryz.prog f∧
 ∀ w,Ro w g 0 [.string b]→Words w→aC Tryz.prog f [.pointer (some ⟨g,0,none⟩)] w (um (t b)):=by
 rcases (by omega:k=0∨k=1∨k=2∨k=3∨k=4) with rfl|rfl|rfl|rfl|rfl
 ·exact ⟨_,_,rfl,rfl,inferInstance,fun w hr _=>DX b g w hr⟩
 ·exact ⟨_,_,rfl,rfl,inferInstance,fun w hr _=>DW b hb g w hr⟩
 ·exact ⟨_,_,rfl,rfl,inferInstance,fun w hr _=>DV b hb g w hr⟩
 ·exact ⟨_,_,rfl,rfl,inferInstance,fun w hr hW=>DU b hb g w hr hW⟩
 ·exact ⟨_,_,rfl,rfl,inferInstance,fun w hr _=>DT b hb g w hr⟩
theorem vW (b:ByteArray) (hb:b.size≤1000000) (w:World) (hW:Words w):aC Tryz.prog 90 [.string b] w (.agg (cQ (tA b)).toArray):=by
 refine ax Tryz.func90 rfl Tryz.ntmps90 rfl ?_;repeat' (first|refine zZB ?_|refine sM fun _=>?_|(refine sC ?_ ?_<;>intro hb<;>try omega)|fail)
 rename_i g1 g2 g3;refine aB [1,2,13,14] rfl (fun x:Nat × Vl=> [(4,.bool false),(15,.int .i64 (x.1:Int))]) (fun x=> [.own (some g3) 212 1 5 5 (yX.map fun f=>Value.func (.func f) #[] #[.pointer (some ⟨g1,0,none⟩)]),.box g2 90 (cQ x.2),.box g1 9 [.string b]]) (fun x=>x.1≤5∧tA b=j4 b (rY.drop x.1)) (fun x=>5 - x.1) (0,bD) ⟨by omega,rfl⟩ sB mS ?_;rintro ⟨k,v⟩ ⟨hk,hkt⟩;dsimp only at hk hkt ⊢;by_cases hk5:k<5
 ·obtain ⟨f,t,r1,r2,r3,r4⟩:=BV b hb g1 k hk5;rw [r1,j4] at hkt;obtain ⟨⟨v',is⟩,ht⟩: ∃ x,t b=x:=⟨_,rfl⟩;rw [ht] at hkt r4
  cases is with
  |true=>
   rw [if_pos rfl] at hkt;repeat' (first|(apply ai;exact rfl;apply aa (j:=k);exact rfl;exact rfl;exact hk5)|(apply ai;exact rfl;apply ak (off:=0+k*1);exact rfl;exact pK;(rw [IG,Jd];exact r2))|(apply fI;exact rfl;exact rfl;exact r3;exact rfl;(intro w' hm;exact r4 w' (Ro.of_box hm pK) (hW.next hm)))|refine zZA ?_|refine sM fun _=>?_|(refine sC ?_ ?_<;>intro hb<;>try omega)|fail)
   all_goals (rw [hkt];(refine eRC ?_);rfl)
  |false=>
   rw [if_neg (by simp)] at hkt;repeat' (first|(apply ai;exact rfl;apply aa (j:=k);exact rfl;exact rfl;exact hk5)|(apply ai;exact rfl;apply ak (off:=0+k*1);exact rfl;exact pK;(rw [IG,Jd];exact r2))|(apply fI;exact rfl;exact rfl;exact r3;exact rfl;(intro w' hm;exact r4 w' (Ro.of_box hm pK) (hW.next hm)))|refine zZA ?_|refine sM fun _=>?_|(refine sC ?_ ?_<;>intro hb<;>try omega)|fail)
   refine ⟨(k+1,v'),?_,(by first|omega|(dsimp only;omega)),sB,sB,mS⟩;exact ⟨hk5,hkt⟩
 ·have e:k=5:=by omega
  subst e;have hkt:tA b=⟨3,0,b⟩:=hkt;rw [hkt];repeat' (first|refine zZA ?_|refine sM fun _=>?_|(refine sC ?_ ?_<;>intro hb<;>try omega)|fail)
  all_goals first|(exfalso;omega)|((refine eRC ?_);rfl)
end Go.SL
namespace Go.SL
open Go Go.Proofs
attribute [local irreducible] W WL WQ WG WA WX WLI WR WT VOp thn blk aW scp aJ bg FnAt FnIn
def kI:List (List Int→Option (Tk × Nat)):= [jS,uu,nV,vM,uE]
def kR (l:List Int):List (List Int→Option (Tk × Nat))→Option (Tk × Nat)
 | []=>none
 |r::rs=>match r l with
  |some x=>some x
  |none=>kR l rs
def cy (l:List Int):Option (Tk × Nat):=kR l kI
def bP (tk:List Int→Option (Tk × Nat)) (l:List Int):Nat→Nat→Except Nat (List Tk)
 |0,_=> .ok []
 |f+1,i=>
  match l.drop i with
  | []=> .ok []
  |c::_=>
   if c=32 then bP tk l f (i+1)
   else match tk (l.drop i) with
    |none=> .error i
    |some (t,n)=>(bP tk l f (i+n)).map fun r=>{ t with at_:=(i:Int) }::r
def Fits (l:List Int) (o:Option (Tk × Nat)):Prop:= ∀ t n,o=some (t,n)→0<n∧n≤l.length
theorem Fits.none {l:List Int}:Fits l none:=fun _ _ h=>by cases h
theorem Fits.some {l:List Int} {t:Tk} {n:Nat} (h1:0<n) (h2:n≤l.length):Fits l (some (t,n)):=fun _ _ h=>by cases h;exact ⟨h1,h2⟩
theorem iz {l:List Int} {c:Int} (h:l.headD 0=c) (hc:c≠0):0<l.length:=by
 cases l with
 |nil=>exact absurd h.symm hc
 |cons=>simp
theorem xc (l:List Int):cD l=0∨cD l+1≤l.length:=by
 unfold cD;split
 ·right
  rename_i r;have:=cX aQ r;simp;omega
 ·left;rfl
theorem u4 (l:List Int):Fits l (jS l):=by
 unfold jS;dsimp only;have h1:=cX aQ l;have h2:=xc (l.drop (aM aQ l));rw [Jg] at h2;have h3:(if cD (l.drop (aM aQ l))=0 then aM aQ l else aM aQ l+1+cD (l.drop (aM aQ l)))≤l.length∧aM aQ l≤(if cD (l.drop (aM aQ l))=0 then aM aQ l else aM aQ l+1+cD (l.drop (aM aQ l))):=by
  split<;>omega
 generalize (if cD (l.drop (aM aQ l))=0 then aM aQ l else aM aQ l+1+cD (l.drop (aM aQ l)))=m at h3 ⊢;split
 ·exact .none
 ·rename_i h;split
  ·exact .none
  ·exact .some (by omega) (by omega)
theorem mI: ∀ (n:Nat) (l:List Int) (k:Nat),l.length≤n→du l=some k→k<l.length
 |_,[],_,_,h=>by simp [du] at h
 |0,c::r,_,hn,_=>by simp at hn
 |n+1,c::r,k,hn,h=>by
  by_cases hc:c=34
  ·subst hc
   cases r with
   |nil=>simp [du] at h;subst h;simp
   |cons d r' =>
    by_cases hd:d=34
    ·subst hd;simp only [du,ne_eq,not_true_eq_false,if_false,if_true,J0] at h;obtain ⟨j,hj,rfl⟩:=h;have:=mI n r' j (by simp at hn;omega) hj;simp;omega
    ·simp [du,hd] at h;subst h;simp
  ·rw [nn hc,J0] at h;obtain ⟨j,hj,rfl⟩:=h;have:=mI n r j (by simp at hn;omega) hj;simp;omega
theorem zA (l:List Int):Fits l (uu l):=by
 unfold uu;split
 ·exact .none
 ·rename_i h;have h0:=iz (c:=34) (Decidable.not_not.1 h) (by decide);split
  ·exact .none
  ·rename_i k hk;have:=mI _ _ k (IK _) hk;rw [Jg] at this;split
   ·exact .none
   ·exact .some (by omega) (by omega)
theorem za (l:List Int):Fits l (nV l):=by
 have h1:=cX cN l;have h2:=cX cN (l.drop (aM cN l+1));rw [Jg] at h2;have hpos:fD (l.headD 0)≠false→0<aM cN l:=fun h=>by
  cases l with
  |nil=>exact absurd rfl h
  |cons c r=>
   have:fD c=true:=by simpa using h
   simp [aM,cN,this]
 unfold nV;split
 ·exact .none
 ·rename_i h;have hp:=hpos h;split
  ·exact .some hp h1
  ·split
   ·exact .some hp h1
   ·split
    ·exact .some hp h1
    ·split
     ·exact .none
     ·split
      ·rename_i hq;have:=iz hq.1 (by decide);rw [Jg] at this;exact .some (by omega) (by omega)
      ·exact .some hp h1
theorem pQ (l:List Int): ∀ (ns:List (List Int)) (c k:Int) (n:Nat),(∀ s∈ns,s≠ [])→m8 l ns c=some (k,n)→0<n∧n≤l.length
 | [],_,_,_,_,h=>by cases h
 |s::r,c,k,n,hs,h=>by
  rw [m8] at h;split at h
  ·rename_i he;cases h;have:=congrArg List.length he;rw [II,Jl] at this;have:=Ku.2 (hs s Iu);omega
  ·exact pQ l r _ k n (fun s hs' =>hs s (IB _ hs')) h
theorem AE (l:List Int):Fits l (vM l):=by
 intro t n h;unfold vM at h;rw [J0] at h;obtain ⟨⟨c,m⟩,h1,h2⟩:=h;cases h2;exact pQ l f9 1 c _ (by decide) h1
theorem uV (l:List Int): ∀ (ns:List (List Int × Int)) (k:Int) (n:Nat),(∀ s∈ns,s.1≠ [])→opL l ns=some (k,n)→0<n∧n≤l.length
 | [],_,_,_,h=>by cases h
 |(s,c)::r,k,n,hs,h=>by
  rw [opL] at h;split at h
  ·rename_i he;cases h;have:=congrArg List.length he;rw [Jl] at this;have:=Ku.2 (hs _ Iu);dsimp only at this;omega
  ·exact uV l r k n (fun s hs' =>hs s (IB _ hs')) h
theorem zG (l:List Int):Fits l (uE l):=by
 unfold uE;split
 ·rename_i k n h;have:=uV l fA k n (by decide) h;exact .some this.1 this.2
 ·split
  ·exact .some (by omega) (iz (by assumption) (by decide))
  ·split
   ·exact .some (by omega) (iz (by assumption) (by decide))
   ·split
    ·exact .some (by omega) (iz (by assumption) (by decide))
    ·exact .none
theorem pO (l:List Int): ∀ rs:List (List Int→Option (Tk × Nat)),(∀ r∈rs,Fits l (r l))→Fits l (kR l rs)
 | [],_=> .none
 |r::rs,h=>by
  unfold kR;split
  ·rename_i x hx;exact hx ▸ h r Iu
  ·exact pO l rs fun r hr=>h r (IB _ hr)
theorem zI (l:List Int): ∀ r∈kI,Fits l (r l):=by
 intro r hr;simp only [kI,IP,K6,or_false] at hr;rcases hr with rfl|rfl|rfl|rfl|rfl
 ·exact u4 l
 ·exact zA l
 ·exact za l
 ·exact AE l
 ·exact zG l
theorem oH (l:List Int):Fits l (cy l):=pO l _ (zI l)
theorem rZ {tk:List Int→Option (Tk × Nat)} {l:List Int} (ht: ∀ m,Fits m (tk m)): ∀ (b d f i:Nat),d≤b→l.length - i=d→d≤f→bP tk l f i=bP tk l d i:=by
 intro b
 induction b with
 |zero=>
  intro d f i hb hd hf;have:d=0:=by omega
  subst this
  cases f with
  |zero=>rfl
  |succ f=>
   simp only [bP];rw [I7 (by omega)]
 |succ b ih=>
  intro d f i hb hd hf
  cases d with
  |zero=>
   cases f with
   |zero=>rfl
   |succ f=>
    simp only [bP];rw [I7 (by omega)]
  |succ m=>
   obtain ⟨g,rfl⟩: ∃ g,f=g+1:=⟨f - 1,by omega⟩;simp only [bP];have hi:i<l.length:=by omega
   rw [IR hi];dsimp only;split
   ·exact ih m g (i+1) (by omega) (by omega) (by omega)
   ·split
    ·rfl
    ·rename_i t n hn;have:=ht _ t n hn;rw [ih (l.length - (i+n)) g (i+n) (by omega) rfl (by omega),ih (l.length - (i+n)) m (i+n) (by omega) rfl (by omega)]
def cW (tk:List Int→Option (Tk × Nat)) (l:List Int):List Tk × Int × Int:=
 if 256<l.length then ([],0,5)
 else match l.findIdx? (fun c=> !cC c) with
  |some i=>([],(i:Int),4)
  |none=>match bP tk l l.length 0 with
   | .ok r=>(r,0,0)
   | .error i=>([],(i:Int),4)
def Fx (A:Option Nat) (cap:Nat) (r:List Tk × Int × Int):Value:= .tuple #[sl A r.1.length cap,.int .i64 r.2.1,.int .i64 r.2.2]
def wZ:List Nat:= [191,192,193,194,195]
theorem Eg (a:ByteArray) (ha:a.size≤10000) (i:Nat) (hi:i<a.size) (g:Nat) (k:Nat) (hk:k<5):
 ∃ f r,kI.drop k=r::kI.drop (k+1)∧(wZ.map fun f=>Value.func (.func f) #[.pointer (some ⟨g,0,none⟩)] #[])[k]? =some (.func (.func f) #[.pointer (some ⟨g,0,none⟩)] #[])∧Callable Tryz.prog f∧
  ∀ w,Ro w g 0 [.string a]→Words w→aC Tryz.prog f [.pointer (some ⟨g,0,none⟩),.int .i64 (i:Int)] w (wU (atT i (r ((aq a).drop i)))):=by
 rcases (by omega:k=0∨k=1∨k=2∨k=3∨k=4) with rfl|rfl|rfl|rfl|rfl
 ·exact ⟨_,_,rfl,rfl,inferInstance,fun w hr _=>zZ a (by omega) i (by omega) g w hr⟩
 ·exact ⟨_,_,rfl,rfl,inferInstance,fun w hr _=>DY a (by omega) i hi g w hr⟩
 ·exact ⟨_,_,rfl,rfl,inferInstance,fun w hr _=>DC a ha i hi g w hr⟩
 ·exact ⟨_,_,rfl,rfl,inferInstance,fun w hr hW=>EI a (by omega) i (by omega) g w hr hW⟩
 ·exact ⟨_,_,rfl,rfl,inferInstance,fun w hr _=>Eb a (by omega) i hi g w hr⟩
theorem pP {a:ByteArray} {q:Int→Bool} {i:Nat} (h:i<a.size) (hq:q (bat a i)=true) (hno: ∀ j,j<i→q (bat a j)=false):(aq a).findIdx? q=some i:=by
 rw [Jb];have hl:=av a;have hg: ∀ j (hj:j<(aq a).length),(aq a)[j]=bat a j:=fun j hj=>by
  have:=j6 (a:=a) (i:=j) (by omega);rw [Ir hj] at this;exact Option.some.inj this
 refine ⟨by omega,by rw [hg];exact hq,fun j hj=> ?_⟩;rw [hg,hno j hj];simp
theorem o5 {a:ByteArray} {q:Int→Bool} (hno: ∀ j,j<a.size→q (bat a j)=false):(aq a).findIdx? q=none:=by
 rw [JH];intro x hx;obtain ⟨j,hj,rfl⟩:=JZ hx;have hl:=av a;have:=j6 (a:=a) (i:=j) (by omega);rw [Ir hj] at this;rw [Option.some.inj this];exact hno j (by omega)
theorem Bc (a:ByteArray) (w:World) (hW:Words w):
 FnAt Tryz.prog 145 [.string a] w fun v H=> ∃ A cap,v=Fx A cap (cW cy (aq a))∧H= [.own A 228 8 (cW cy (aq a)).1.length cap ((cW cy (aq a)).1.flatMap cK)]:=by
 refine ax Tryz.func145 rfl Tryz.ntmps145 rfl ?_;have hl:=av a;unfold cW;refine aN 228 8 ?_;by_cases hlen:256<(aq a).length
 ·rw [if_pos hlen];repeat' (first|refine zZH ?_|refine sM fun _=>?_|(refine sC ?_ ?_<;>intro hb<;>try omega)|fail)
  all_goals try (exfalso;omega)
  exact zM (.inl rfl) rfl rfl rfl rfl (.refl _) ⟨none,0,rfl,rfl⟩
 ·rw [if_neg hlen];repeat' (first|refine zZH ?_|refine sM fun _=>?_|(refine sC ?_ ?_<;>intro hb<;>try omega)|fail)
  all_goals try (exfalso;omega)
  refine aB [0,2,17] rfl (fun i:Nat=> [(18,.int .i64 (i:Int))]) (fun _=> [.own none 228 8 0 0 []]) (fun i=>i≤a.size∧ ∀ j,j<i→cC (bat a j)=true) (fun i=>a.size - i) 0 ⟨by omega,fun j h=>by omega⟩ sB mS ?_;rintro i ⟨hi,hpl⟩;by_cases hlt:i<a.size
  ·repeat' (first|refine zZE ?_|refine sM fun _=>?_|(refine sC ?_ ?_<;>intro hb<;>try omega)|fail)
   ·have hf:(aq a).findIdx? (fun c=> !cC c)=some i:=by
     refine pP hlt ?_ fun j hj=>by rw [hpl j hj];rfl
     simp only [cC,Bool.not_eq_true',K9,decide_eq_false_iff_not];omega
    rw [hf];exact zM (.inl rfl) rfl rfl rfl rfl (.refl _) ⟨none,0,rfl,rfl⟩
   ·have hf:(aq a).findIdx? (fun c=> !cC c)=some i:=by
     refine pP hlt ?_ fun j hj=>by rw [hpl j hj];rfl
     simp only [cC,Bool.not_eq_true',K9,decide_eq_false_iff_not];omega
    rw [hf];exact zM (.inl rfl) rfl rfl rfl rfl (.refl _) ⟨none,0,rfl,rfl⟩
   ·refine ⟨i+1,?_,(by first|omega|(dsimp only;omega)),sB,sB,mS⟩;refine ⟨hlt,fun j hj=> ?_⟩;rcases (by omega:j<i∨j=i) with h|rfl
    ·exact hpl j h
    ·rename_i h1;simp only [cC,IX,decide_eq_true_eq];omega
  ·have e:i=a.size:=by omega
   subst e;have hf:(aq a).findIdx? (fun c=> !cC c)=none:=o5 fun j hj=>by rw [hpl j hj];rfl
   rw [hf];dsimp only;repeat' (first|(apply ai;exact rfl;apply iP;exact rfl)|(apply nX;(iterate 6 exact rfl))|refine zZE ?_|refine sM fun _=>?_|(refine sC ?_ ?_<;>intro hb<;>try omega)|fail)
   all_goals try (exfalso;omega)
   rename_i g6 g7;generalize hT:bP cy (aq a) (aq a).length 0=T
   refine aB [0,6,7] rfl (fun x:Nat × List Tk × Option Nat × Nat=> [(2,sl x.2.2.1 x.2.1.length x.2.2.2),(8,.int .i64 (x.1:Int))]) (fun x=> [.own x.2.2.1 228 8 x.2.1.length x.2.2.2 (x.2.1.flatMap cK),.box g7 271 (wZ.map fun f=>Value.func (.func f) #[.pointer (some ⟨g6,0,none⟩)] #[]),.box g6 269 [.string a]])
    (fun x=>x.1≤a.size∧x.2.1.length≤x.1∧T=(bP cy (aq a) (a.size - x.1) x.1).map (x.2.1++ ·)) (fun x=>a.size - x.1) (0,[],none,0) ⟨by omega,by simp,by rw [← hT,hl];cases bP cy (aq a) a.size 0<;>rfl⟩ sB mS ?_
   rintro ⟨i,toks,A,cap⟩ ⟨hi2,hi3,hi4⟩;dsimp only at hi2 hi3 hi4 ⊢;by_cases hlt2:i<a.size
   ·obtain ⟨f,hf1⟩: ∃ f,a.size - i=f+1:=⟨a.size - i - 1,by omega⟩;rw [hf1] at hi4;simp only [bP] at hi4;have hdr:=bO hlt2;generalize hld:(aq a).drop i=ld at hi4 hdr;rw [hdr] at hi4;dsimp only at hi4;by_cases h32:bat a i=32
    ·rw [if_pos h32] at hi4;repeat' (first|refine zZE ?_|refine sM fun _=>?_|(refine sC ?_ ?_<;>intro hb<;>try omega)|fail)
     all_goals try (exfalso;omega)
     refine ⟨(i+1,toks,A,cap),?_,(by first|omega|(dsimp only;omega)),sB,sB,mS⟩;exact ⟨hlt2,by dsimp only;omega,by dsimp only;rw [show a.size - (i+1)=f by omega];exact hi4⟩
    ·rw [if_neg h32,← hdr] at hi4;repeat' (first|refine zZE ?_|refine sM fun _=>?_|(refine sC ?_ ?_<;>intro hb<;>try omega)|fail)
     all_goals try (exfalso;omega)
     have hldl:ld.length=a.size - i:=by rw [← hld,Jg,hl]
     refine aB [0,2,6,7,8,57] rfl (fun k:Nat=> [(58,.int .i64 (k:Int))]) (fun _=> [.own A 228 8 toks.length cap (toks.flatMap cK),.box g7 271 (wZ.map fun f=>Value.func (.func f) #[.pointer (some ⟨g6,0,none⟩)] #[]),.box g6 269 [.string a]]) (fun k=>k≤5∧cy ld=kR ld (kI.drop k)) (fun k=>5 - k) 0 ⟨by omega,rfl⟩ sB mS ?_;rintro k ⟨hk,hkt⟩;by_cases hk5:k<5
     ·obtain ⟨f2,r,r1,r2,r3,r4⟩:=Eg a (by omega) i hlt2 g6 k hk5;rw [hld] at r4;rw [r1,kR] at hkt
      cases ho:r ld with
      |none=>
       rw [ho] at hkt r4;dsimp only at hkt;repeat' (first|(apply ai;exact rfl;apply jr;exact rfl;exact rfl;exact hk5;exact r2)|(apply lW;exact rfl;exact rfl;exact r3;exact rfl;(intro w' hm;exact r4 w' (Ro.of_box hm pK) (hW.next hm)))|refine zZE ?_|refine sM fun _=>?_|(refine sC ?_ ?_<;>intro hb<;>try omega)|fail)
       all_goals try (exfalso;omega)
       refine ⟨k+1,?_,(by first|omega|(dsimp only;omega)),sB,sB,mS⟩;exact ⟨hk5,hkt⟩
      |some x=>
       obtain ⟨t,m⟩:=x;rw [ho] at hkt r4;dsimp only at hkt;have hfit:=oH ld t m hkt;rw [hkt] at hi4;dsimp only at hi4;have hm0:0<m:=hfit.1;repeat' (first|(apply ai;exact rfl;apply jr;exact rfl;exact rfl;exact hk5;exact r2)|(apply lW;exact rfl;exact rfl;exact r3;exact rfl;(intro w' hm;exact r4 w' (Ro.of_box hm pK) (hW.next hm)))|(apply aF;(iterate 3 exact rfl);exact pK;exact pK;exact rfl;(simp [cK,Value.oneCell']);omega;(simp only [maxLen];omega);intro g8 c8)|refine zZE ?_|refine sM fun _=>?_|(refine sC ?_ ?_<;>intro hb<;>try omega)|fail)
       all_goals try (exfalso;omega)
       refine ⟨(i+m,toks++ [{ t with at_:=(i:Int) }],some g8,c8),⟨by dsimp only;omega,by simp;omega,?_⟩,(by dsimp only;omega),?_,sB,?_⟩
       ·dsimp only;rw [hi4,rZ oH f (a.size - (i+m)) f (i+m) (by omega) (by omega) (by omega)];cases bP cy (aq a) (a.size - (i+m)) (i+m)<;>simp [Except.map]
       ·simp only [Iv,IV];exact sB
       ·simp only [Iv,IV,Jk,I8,KM,I3];exact mS
     ·have e:k=5:=by omega
      subst e;rw [show kR ld (kI.drop 5)=none from rfl] at hkt;rw [hkt] at hi4;dsimp only [Except.map] at hi4;rw [hi4];refine aN 228 8 ?_;repeat' (first|refine zZE ?_|refine sM fun _=>?_|(refine sC ?_ ?_<;>intro hb<;>try omega)|fail)
      all_goals try (exfalso;omega)
      exact zM (.inl rfl) rfl rfl rfl rfl (H' := [.own none 228 8 0 0 []]) mS ⟨none,0,rfl,rfl⟩
   ·have e:i=a.size:=by omega
    subst e;rw [show a.size - a.size=0 by omega] at hi4;simp only [bP,Except.map,I3] at hi4;rw [hi4];repeat' (first|refine zZE ?_|refine sM fun _=>?_|(refine sC ?_ ?_<;>intro hb<;>try omega)|fail)
    all_goals try (exfalso;omega)
    exact zM (.inl rfl) rfl rfl rfl rfl (H' := [.own A 228 8 toks.length cap (toks.flatMap cK)]) mS ⟨A,cap,rfl,rfl⟩
end Go.SL
namespace Go.SL
open Go Go.Proofs
attribute [local irreducible] W WL WQ WG WA WX WLI WR WT VOp RW thn blk aW scp aJ aS bg FnAt FnIn FnP
theorem yB (p2 p3 p4:Value) (w0:World) (H:List Blk):FnD Tryz.prog 146 [p2,p3,p4] .returning w0 H H:=by
 refine HV Tryz.func146 rfl rfl Tryz.ntmps146 rfl rfl (.inl ⟨rfl,rfl⟩) ?_;repeat' (first|(apply ai;exact rfl;apply DQ;exact rfl)|refine sT ?_|refine sM fun _=>?_|(refine sC ?_ ?_<;>intro hb<;>try omega)|fail)
 all_goals exact ⟨by first|exact .inl rfl|exact .inr rfl,.refl _⟩
theorem yC (g2 g3 g4:Nat) (x2 x3 x4:Value) (e:Int × Int) (w0:World) (R:List Blk):
 FnD Tryz.prog 146 [.pointer (some ⟨g2,0,none⟩),.pointer (some ⟨g3,0,none⟩),.pointer (some ⟨g4,0,none⟩)] (.panicking (fk (s9 e))) w0
  (.box g2 91 [x2]:: .box g3 3 [x3]:: .box g4 23 [x4]::R)
  (.box g2 91 [.slice none 0 0]:: .box g3 3 [.int .i64 e.1]:: .box g4 23 [.int .i64 e.2]::R):=by
 refine HV Tryz.func146 rfl rfl Tryz.ntmps146 rfl rfl (.inr rfl) ?_;repeat' (first|(apply ai;exact rfl;apply DP;exact rfl)|(apply ai;exact rfl;apply rV;exact rfl;exact rfl)|(rename_i g;refine tW (id:=7) [⟨4,g2,91,x2,.slice none 0 0⟩,⟨5,g3,3,x3,.int .i64 e.1⟩,⟨6,g4,23,x4,.int .i64 e.2⟩] (.box g 223 [.int .i64 e.1,.int .i64 e.2]::R) (by kernel_rfl) (by kernel_rfl) rfl mS ?_)|(apply DH;exact rfl;exact rfl;(exact vC))|(refine jL [] [⟨5,g3,3,x3,.int .i64 e.1⟩,⟨6,g4,23,x4,.int .i64 e.2⟩] ⟨4,g2,91,x2,.slice none 0 0⟩ rfl rfl rfl rfl rfl rfl ?_)|(refine jL [⟨4,g2,91,x2,.slice none 0 0⟩] [⟨6,g4,23,x4,.int .i64 e.2⟩] ⟨5,g3,3,x3,.int .i64 e.1⟩ rfl rfl rfl rfl rfl rfl ?_)|(refine jL [⟨4,g2,91,x2,.slice none 0 0⟩,⟨5,g3,3,x3,.int .i64 e.1⟩] [] ⟨6,g4,23,x4,.int .i64 e.2⟩ rfl rfl rfl rfl rfl rfl ?_)|apply rM|refine sT ?_|refine sG ?_|refine sM fun _=>?_|(refine sC ?_ ?_<;>intro hb<;>try omega)|fail)
 refine ⟨.inr rfl,?_⟩;simp only [Ja,Jz,BoxT.post,IE,ID];exact mS
def bW (x:List Tk × Int × Int) (fin:Int):List Nd × Int × Int:=
 if x.2.2≠0 then ([],x.2.1,x.2.2)
 else match aU fin (20*x.1.length+40) (.level 1) ⟨x.1,[]⟩ with
  |none=>([],0,0)
  |some (.error (a,e))=>([],a,e)
  |some (.ok (_,p))=>
   if (hdT fin p.l).kind≠0 then ([],(hdT fin p.l).at_,4)
   else if eR p.out≠0 then ([],0,eR p.out)
   else (p.out,0,0)
theorem uq {tk:List Int→Option (Tk × Nat)} {l:List Int} (f:Nat): ∀ (i:Nat) (r:List Tk),bP tk l f i= .ok r→r.length≤f:=by
 induction f with
 |zero=>intro i r h;simp only [bP,Except.ok.injEq] at h;subst h;exact IK _
 |succ f ih=>
  intro i r h;simp only [bP] at h;split at h
  ·cases h;exact Iw _
  ·split at h
   ·exact Nat.le_succ_of_le (ih _ _ h)
   ·split at h
    ·cases h
    ·rename_i t n _
     cases hr:bP tk l f (i+n) with
     |error e=>rw [hr] at h;cases h
     |ok r' =>
      rw [hr] at h;cases h;exact Nat.succ_le_succ (ih _ _ hr)
theorem mT (tk:List Int→Option (Tk × Nat)) (l:List Int):(cW tk l).1.length≤256:=by
 unfold cW;split
 ·exact Iw _
 ·split
  ·exact Iw _
  ·split
   ·rename_i h;have:=uq _ _ _ h;dsimp only;omega
   ·exact Iw _
theorem At.start (toks:List Tk) (A:Option Nat) (cap:Nat):At toks A cap ⟨toks,[]⟩ (sl A toks.length cap):=
 ⟨0,Iw _,rfl,IK _,A.map fun g=>⟨g,0,none⟩,by simp [sl],fun _=>by simp⟩
def Fv (A:Option Nat) (cap:Nat) (r:List Nd × Int × Int):Value:= .tuple #[sl A r.1.length cap,.int .i64 r.2.1,.int .i64 r.2.2]
theorem x9 (a:ByteArray) (w:World) (hW:Words w) (r:List Nd × Int × Int) (hr:r=bW (cW cy (aq a)) (a.size:Int)):
 FnAt Tryz.prog 91 [.string a] w fun v H=> ∃ A cap,v=Fv A cap r∧H= [.own A 123 11 r.1.length cap (r.1.flatMap dO)]:=by
 refine EG Tryz.func91 rfl Tryz.ntmps91 rfl ?_;have htl:=mT cy (aq a);have hT:=fun w' (hm:Σ' H,Mem w w' H)=>Bc a w' (hW.next hm.2);obtain ⟨⟨toks,at0,e0⟩,hx⟩: ∃ x,cW cy (aq a)=x:=⟨_,rfl⟩;rw [hx] at hr htl;simp only [hx,Fx] at hT;dsimp only at htl;refine qL 123 11 ?_;refine qL 123 11 ?_;refine B0 (fun e a w _ h=>Di h) ?_;obtain ⟨r1,hr1,_⟩:=qN (a.size:Int) (20*toks.length+40) (.level 1) ⟨toks,[]⟩ ⟨by omega,by omega⟩ (by simp [Job.c]);have hP: ∀ (A:Option Nat) (cap g:Nat) (R:List Blk),toks.length≤cap→FnP Tryz.prog 147 [.pointer (some ⟨g,0,none⟩)] w (pB g (sl A toks.length cap) A cap (a.size:Int) toks none 0 []++R) (PR toks A cap (a.size:Int) g R r1) (PD R r1):=fun A cap g R hc=>
  (zS (20*toks.length+40)).2.2.2.2 toks A cap (a.size:Int) g ⟨toks,[]⟩ (sl A toks.length cap) none 0 r1 R w hc (by omega) (At.start toks A cap) hr1
 obtain ⟨ff,hff⟩: ∃ ff,20*toks.length+40=ff:=⟨_,rfl⟩;rw [hff] at hr1;repeat' (first|(apply aH (f:=145);exact rfl;exact rfl;exact fun w' hm=>hT w' ⟨_,hm⟩;rintro _ _ ⟨A,cap,rfl,rfl⟩)|(rename_i g2 g3 g4;refine B6 (cs:= [_,_,_]) rfl rfl ?_)|(refine B0 (fun e a w _ h=>Di h) ?_)|(refine Ge (fun e a w h=>GN h) ?_)|(rename_i g2 g3 g4;refine tW (id:=3) [⟨2,g2,91,.slice none 0 0,.slice none 0 0⟩,⟨3,g3,3,.int .i64 at0,.int .i64 at0⟩,⟨4,g4,23,.int .i64 e0,.int .i64 e0⟩] [.own none 123 11 0 0 []] (by kernel_rfl) (by kernel_rfl) rfl mS ?_)|(refine jL [] [⟨3,g3,3,.int .i64 at0,.int .i64 at0⟩,⟨4,g4,23,.int .i64 e0,.int .i64 e0⟩] ⟨2,g2,91,.slice none 0 0,.slice none 0 0⟩ rfl rfl rfl rfl rfl rfl ?_)|(refine jL [⟨2,g2,91,.slice none 0 0,.slice none 0 0⟩] [⟨4,g4,23,.int .i64 e0,.int .i64 e0⟩] ⟨3,g3,3,.int .i64 at0,.int .i64 at0⟩ rfl rfl rfl rfl rfl rfl ?_)|(refine jL [⟨2,g2,91,.slice none 0 0,.slice none 0 0⟩,⟨3,g3,3,.int .i64 at0,.int .i64 at0⟩] [] ⟨4,g4,23,.int .i64 e0,.int .i64 e0⟩ rfl rfl rfl rfl rfl rfl ?_)|(refine yh ⟨3,g3,3,.int .i64 at0,.int .i64 at0⟩ (.tail _ (.head _)) (f:=60) (j:=3) rfl (by decide+kernel) rfl rfl rfl ?_)|(refine yh ⟨4,g4,23,.int .i64 e0,.int .i64 e0⟩ (.tail _ (.tail _ (.head _))) (f:=60) (j:=4) rfl (by decide+kernel) rfl rfl rfl ?_)|apply rM|(apply ai;exact rfl;apply iP;exact rfl)|(apply ai;exact rfl;apply df;exact rfl)|(apply zh (f:=147);exact rfl;exact rfl;infer_instance;exact rfl;rename_i gp;exact FnP.own (A:=A) pK (fun hcap=>FnP.msub (hP A cap _ _ hcap) (MSub.pick pK (MSub.pick pK (MSub.pick pK (MSub.refl _))))))|(rintro _ _ ⟨rfl,n,p',lv',B',cb',rfl,h2,rfl⟩;obtain ⟨u,hu⟩: ∃ u,hdT (a.size:Int) p'.l=u:=⟨_,rfl⟩)|(rintro _ _ ⟨e,rfl,rfl,h3⟩)|(apply ag (f:=148);exact rfl;exact rfl;(intro w' hm';exact At.head' (B:=B') (cb:=cb') (out:=p'.out) (fin:=(a.size:Int)) h2 hu (MSub.pick pK (MSub.pick pK (MSub.pick pK (MSub.nil _)))) w' hm'))|(apply ag (f:=92);exact rfl;exact rfl;(intro w' hm';exact wA p'.out _ w' (Reads.of_own (A:=B') hm' pK)))|(refine aK (f:=149) rfl rfl (eY _ _ _ _ _ (fun _ _=>False)) ?_ ?_)|(exact fun _ _ h=>h.elim)|(rintro _ _ ⟨rfl,rfl⟩)|refine sT ?_|refine sP ?_|refine sG ?_|refine sM fun _=>?_|(refine sC ?_ ?_<;>intro hb<;>try omega)|fail)
 ·have hr' :r=([],at0,e0):=by rw [hr];simp [bW,hb]
  subst hr';simp only [Ja,Jz,BoxT.post,IE,ID];exact lp (.inl rfl) rfl rfl pK rfl pK rfl pK (H' := [.own none 123 11 0 0 []]) mS ⟨none,0,rfl,rfl⟩
 ·rename_i he0 gp _ u0 hu0 g1;have hr' :r=([],u0.at_,4):=by rw [hr];simp [bW,hff,hr1,hu0,hb,Classical.not_not.1 he0]
  subst hr';refine ⟨_,.box g2 91 [.slice none 0 0]:: .box g3 3 [.int .i64 at0]:: .box g4 23 [.int .i64 e0]:: [.own none 123 11 0 0 []],_,rfl,?_,yC g2 g3 g4 _ _ _ (u0.at_,4) w _,lp (.inl rfl) rfl rfl pK rfl pK rfl pK (H' := [.own none 123 11 0 0 []]) mS ⟨none,0,rfl,rfl⟩⟩;simp only [Jh,IE,ID,pB];exact mS
 ·rename_i he0 gp _ g1 hb1;have hr' :r=([],0,eR p'.out):=by rw [hr];simp [bW,hff,hr1,hu,Classical.not_not.1 hb1,hb,Classical.not_not.1 he0]
  subst hr';exact ⟨.returning,_,_,rfl,.refl _,yB _ _ _ _ _,lp (.inl rfl) rfl rfl pK rfl pK rfl pK (H' := [.own none 123 11 0 0 []]) mS ⟨none,0,rfl,rfl⟩⟩
 ·rename_i he0 gp _ g1 hb1;have hr' :r=(p'.out,0,0):=by rw [hr];simp [bW,hff,hr1,hu,Classical.not_not.1 hb1,Classical.not_not.1 hb,Classical.not_not.1 he0]
  subst hr';exact ⟨.returning,_,_,rfl,.refl _,yB _ _ _ _ _,lp (.inl rfl) rfl rfl pK rfl pK rfl pK (H' := [.own B' 123 11 p'.out.length cb' (p'.out.flatMap dO)]) mS ⟨B',cb',rfl,rfl⟩⟩
 ·have hr' :r=([],e.1,e.2):=by rw [hr];simp [bW,hff,hr1,Classical.not_not.1 hb]
  subst hr';refine ⟨_,.box g2 91 [.slice none 0 0]:: .box g3 3 [.int .i64 at0]:: .box g4 23 [.int .i64 e0]:: [.own none 123 11 0 0 []],_,rfl,MSub.trans ?_ h3,yC g2 g3 g4 _ _ _ e w _,lp (.inl rfl) rfl rfl pK rfl pK rfl pK (H' := [.own none 123 11 0 0 []]) mS ⟨none,0,rfl,rfl⟩⟩;exact mS
theorem GJ {a:ByteArray} {i:Nat} (h:i<a.size):mr (sub a i (i+1))=if cC (bat a i) then 0 else 4:=by
 have h1:aq (sub a i (i+1))= [bat a i]:=by
  rw [fX,bO h,Nat.add_sub_cancel_left]
  rfl
 have h2:(sub a i (i+1)).size=1:=by rw [ck a (by omega)];omega
 simp only [mr,h2,mX,h1];cases h:cC (bat a i)<;>simp [h]
structure Mn where
 formula:Bool
 v:Vl
 tree:List Nd
def eqB:ByteArray:=⟨#[61]⟩
def wE:Mn:=⟨false,bD,[]⟩
def ofP (b:ByteArray):Mn × Int × Int:=
 if 256<b.size then (wE,0,5)
 else match (aq b).findIdx? (fun c=> !cC c) with
  |some i=>(wE,(i:Int),4)
  |none=>
   if (iD b eqB).2=false then (⟨false,tA b,[]⟩,0,0)
   else match bW (cW cy (aq (iD b eqB).1)) ((iD b eqB).1.size:Int) with
    |(t,at_,e)=>if e≠0 then (wE,IntKind.i64.wrap (at_+1),e) else (⟨true,bD,t⟩,0,0)
def AL (m:Mn) (tv:Value):List Value:= [.bool m.formula,.int .u8 m.v.kind,.int .i64 m.v.num,.string m.v.text,tv]
def ofV (A:Option Nat) (cap:Nat) (r:Mn × Int × Int):Value:= .tuple #[.agg (AL r.1 (sl A r.1.tree.length cap)).toArray,.int .i64 r.2.1,.int .i64 r.2.2]
theorem FE (b:ByteArray) (w:World) (hW:Words w):FnAt Tryz.prog 45 [.string b] w fun v H=> ∃ A cap,v=ofV A cap (ofP b)∧H= [.own A 123 11 (ofP b).1.tree.length cap ((ofP b).1.tree.flatMap dO)]:=by
 refine ax Tryz.func45 rfl Tryz.ntmps45 rfl ?_;refine aN 123 11 ?_;unfold ofP;by_cases hlen:256<b.size
 ·rw [if_pos hlen];repeat' (first|refine zZH ?_|refine sM fun _=>?_|(refine sC ?_ ?_<;>intro hb<;>try omega)|fail)
  all_goals first
   |(exfalso;omega)
   |exact kJ (.inl rfl) rfl rfl pK rfl rfl rfl (H' := [.own none 123 11 0 0 []]) mS ⟨none,0,rfl,rfl⟩
 rw [if_neg hlen];repeat' (first|refine zZH ?_|refine sM fun _=>?_|(refine sC ?_ ?_<;>intro hb<;>try omega)|fail)
 all_goals try (exfalso;omega)
 rename_i g2;refine aB [0,2,14] rfl (fun i:Nat=> [(15,.int .i64 (i:Int))]) (fun _=> [.box g2 93 [.bool false,.int .u8 0,.int .i64 0,.string aA,.slice none 0 0],.own none 123 11 0 0 []]) (fun i=>i≤b.size∧ ∀ j,j<i→cC (bat b j)=true) (fun i=>b.size - i) 0 ⟨by omega,fun j h=>by omega⟩ sB mS ?_;rintro i ⟨hi,hpl⟩;by_cases hlt:i<b.size
 ·have hg:=GJ hlt;have hG:=fun w=>vz (sub b i (i+1)) w;rw [hg] at hG;by_cases hc:cC (bat b i)=true
  ·rw [if_pos hc] at hG;repeat' (first|(apply ai;exact rfl;apply wM;(iterate 3 exact rfl);exact ⟨by omega,by omega⟩)|(apply ag;exact rfl;exact rfl;(intro w hm;exact hG w))|refine zZE ?_|refine sM fun _=>?_|(refine sC ?_ ?_<;>intro hb<;>try omega)|fail)
   all_goals try (exfalso;omega)
   refine ⟨i+1,?_,(by first|omega|(dsimp only;omega)),sB,sB,mS⟩;refine ⟨hlt,fun j hj=> ?_⟩;rcases (by omega:j<i∨j=i) with h|rfl
   ·exact hpl j h
   ·exact hc
  ·rw [if_neg hc] at hG;repeat' (first|(apply ai;exact rfl;apply wM;(iterate 3 exact rfl);exact ⟨by omega,by omega⟩)|(apply ag;exact rfl;exact rfl;(intro w hm;exact hG w))|refine zZE ?_|refine sM fun _=>?_|(refine sC ?_ ?_<;>intro hb<;>try omega)|fail)
   all_goals try (exfalso;omega)
   have hf:(aq b).findIdx? (fun c=> !cC c)=some i:=pP hlt (by simp [hc]) fun j hj=>by rw [hpl j hj];rfl
   rw [hf];exact kJ (.inl rfl) rfl rfl pK rfl rfl rfl (H' := [.own none 123 11 0 0 []]) mS ⟨none,0,rfl,rfl⟩
 ·have e:i=b.size:=by omega
  subst e;have hf:(aq b).findIdx? (fun c=> !cC c)=none:=o5 fun j hj=>by rw [hpl j hj];rfl
  rw [hf];dsimp only;have hcut:=fun w=>Dm b eqB (by omega) w;obtain ⟨⟨rest,is⟩,hx⟩: ∃ x,iD b eqB=x:=⟨_,rfl⟩;rw [hx] at hcut ⊢
  cases is with
  |false=>
   rw [if_pos rfl];repeat' (first|(apply ag;exact rfl;exact rfl;(intro w hm;exact hcut w))|(apply ag (f:=90);exact rfl;exact rfl;(intro w' hm';exact vW b (by omega) w' (hW.next hm')))|refine zZE ?_|refine sM fun _=>?_|(refine sC ?_ ?_<;>intro hb<;>try omega)|fail)
   all_goals try (exfalso;omega)
   exact kJ (.inl rfl) rfl rfl pK rfl rfl rfl (H' := [.own none 123 11 0 0 []]) mS ⟨none,0,rfl,rfl⟩
  |true=>
   rw [if_neg (by simp)];dsimp only;have hF:=fun (w' :World) (h:Words w')=>x9 rest w' h _ rfl;obtain ⟨⟨t,at0,e0⟩,hr⟩: ∃ x,bW (cW cy (aq rest)) (rest.size:Int)=x:=⟨_,rfl⟩;simp only [hr,Fv] at hF;rw [hr];dsimp only;by_cases he:e0≠0
   ·rw [if_pos he];repeat' (first|(apply ag;exact rfl;exact rfl;(intro w hm;exact hcut w))|(apply aH (f:=91);exact rfl;exact rfl;(intro w' hm';exact hF w' (hW.next hm'));rintro _ _ ⟨A,cap,rfl,rfl⟩)|(apply ai;exact rfl;apply wS;exact rfl;exact rfl)|refine zZE ?_|refine sM fun _=>?_|(refine sC ?_ ?_<;>intro hb<;>try omega)|fail)
    all_goals try (exfalso;omega)
    exact kJ (.inl rfl) rfl rfl pK rfl rfl rfl (H' := [.own none 123 11 0 0 []]) mS ⟨none,0,rfl,rfl⟩
   ·rw [if_neg he];repeat' (first|(apply ag;exact rfl;exact rfl;(intro w hm;exact hcut w))|(apply aH (f:=91);exact rfl;exact rfl;(intro w' hm';exact hF w' (hW.next hm'));rintro _ _ ⟨A,cap,rfl,rfl⟩)|(apply ai;exact rfl;apply wS;exact rfl;exact rfl)|refine zZE ?_|refine sM fun _=>?_|(refine sC ?_ ?_<;>intro hb<;>try omega)|fail)
    all_goals try (exfalso;omega)
    exact kJ (.inl rfl) rfl rfl pK rfl rfl rfl (H' := [.own A 123 11 t.length cap (t.flatMap dO)]) mS ⟨A,cap,rfl,rfl⟩
end Go.SL
namespace Go.SL
open Go
abbrev Gr:=List (Rf × List Nd × List Us)
def aw (G:Gr):List Rf:=G.map fun e=>e.1
def SortG (G:Gr):Prop:=G.Pairwise fun x y=>bf x.1 y.1=true
def pq (G:Gr) (a:Rf):Option (List Nd × List Us):=(G.find? fun e=>decide (e.1=a)).map fun e=>e.2
def Dh (G:Gr) (a:Rf):Gr:=G.filter fun e=>decide (e.1≠a)
def Aq (G:Gr) (a:Rf) (x:List Nd × List Us):Gr:=G.filter (fun e=>bf e.1 a)++(a,x)::G.filter fun e=>bf a e.1
def gV (G:Gr) (a:Rf):List Us:=((pq G a).map fun x=>x.2).getD []
def gW (us:List Us) (r:Rct):Bool:=us.any (uo r)
def wT (G:Gr) (r:Rct):List Rf:=if oT r≠0 then [] else (G.filter fun e=>gW e.2.2 r).map fun e=>e.1
def dN (us:List Us) (a:Rf):Bool:=us.any fun u=>vw u.rect a
def cR (G:Gr):List (Rf × Rf):=G.flatMap fun e=>(G.filter fun f=>dN e.2.2 f.1).map fun f=>(e.1,f.1)
def fu (G:Gr) (a:Rf) (b:ByteArray):Gr × Int:=
 if a.valid=false then (G,3)
 else if (ofP b).2.2≠0 then (G,(ofP b).2.2)
 else if (ofP b).1.formula=false then (Dh G a,0)
 else (Aq G a ((ofP b).1.tree,cU (ofP b).1.tree),0)
theorem ik {a b:Rf}:bf a b=true↔a.row<b.row∨(a.row=b.row∧a.col<b.col):=by simp [bf]
theorem Af (a:Rf):bf a a=false:=by simp [bf]
theorem vk {a b c:Rf} (h:bf a b=true) (k:bf b c=true):bf a c=true:=by
 rw [ik] at*;omega
theorem vn {a b:Rf} (h:bf a b=true):bf b a=false:=by
 rw [← Bool.not_eq_true,ik];rw [ik] at h;omega
theorem CJ {a b:Rf} (h:a≠b):bf a b=true∨bf b a=true:=by
 rw [ik,ik];rcases Int.lt_trichotomy a.row b.row with h1|h1|h1
 ·exact .inl (.inl h1)
 ·rcases Int.lt_trichotomy a.col b.col with h2|h2|h2
  ·exact .inl (.inr ⟨h1,h2⟩)
  ·refine absurd ?_ h;obtain ⟨a1,a2⟩:=a;obtain ⟨b1,b2⟩:=b;simp only at h1 h2;subst h1 h2;rfl
  ·exact .inr (.inr ⟨h1.symm,h2⟩)
 ·exact .inr (.inl h1)
theorem pw {a b:Rf} (h:bf a b=true):a≠b:=by
 rintro rfl;rw [Af] at h;cases h
theorem SortG.nodup {G:Gr} (h:SortG G):(aw G).Nodup:=by
 rw [aw,List.Nodup,KD];exact h.imp fun h=>pw h
theorem qK:SortG []:=List.Pairwise.nil
theorem l6 {G:Gr} (h:SortG G) (a:Rf):SortG (Dh G a):=h.filter _
theorem l5 {G:Gr} (h:SortG G) (a:Rf) (x:List Nd × List Us):SortG (Aq G a x):=by
 refine Jw.2 ⟨h.filter _,Jv.2 ⟨fun e he=> ?_,h.filter _⟩,fun e he f hf=> ?_⟩
 ·exact (JC.1 he).2
 ·have h1:=(JC.1 he).2;rcases IP.1 hf with rfl|hf
  ·exact h1
  ·exact vk h1 (JC.1 hf).2
theorem zE {G:Gr} (h:SortG G) (a:Rf) (b:ByteArray):SortG (fu G a b).1:=by
 unfold fu;split
 ·exact h
 ·split
  ·exact h
  ·split
   ·exact l6 h a
   ·exact l5 h a _
theorem o9 {G:Gr} {a:Rf} {x:List Nd × List Us} {e:Rf × List Nd × List Us}:e∈Aq G a x↔e=(a,x)∨(e∈G∧e.1≠a):=by
 simp only [Aq,IL,IP,JC];constructor
 ·rintro (⟨h1,h2⟩|rfl|⟨h1,h2⟩)
  ·exact .inr ⟨h1,pw h2⟩
  ·exact .inl rfl
  ·exact .inr ⟨h1,(pw h2).symm⟩
 ·rintro (rfl|⟨h1,h2⟩)
  ·exact .inr (.inl rfl)
  ·rcases CJ h2 with h|h
   ·exact .inl ⟨h1,h⟩
   ·exact .inr (.inr ⟨h1,h⟩)
theorem pd {G:Gr} {a:Rf} {e:Rf × List Nd × List Us}:e∈Dh G a↔e∈G∧e.1≠a:=by simp [Dh]
theorem kM {G:Gr} (h:SortG G) {a:Rf} {x:List Nd × List Us}:pq G a=some x↔(a,x)∈G:=by
 constructor
 ·intro hl;obtain ⟨e,he,rfl⟩:=J0.1 hl;have h1:=List.find?_some he;have h2:=Kq he;simp only [decide_eq_true_eq] at h1;subst h1;exact h2
 ·intro hm;have hn:=h.nodup
  cases hf:G.find? fun e=>decide (e.1=a) with
  |none=>
   rw [KX] at hf;exact absurd (hf _ hm) (by simp)
  |some e=>
   have h1:=List.find?_some hf;have h2:=Kq hf;simp only [decide_eq_true_eq] at h1;have:=kO (fun e:Rf × List Nd × List Us=>e.1) hn h2 hm h1;rw [pq,hf,this];rfl
theorem xz {G:Gr} {a:Rf}:pq G a=none↔ ∀ e∈G,e.1≠a:=by
 rw [pq,Option.map_eq_none_iff,KX];simp
theorem vp {G:Gr} (h:SortG G):(aw G).Pairwise fun x y=>bf x y=true:=by
 rw [aw,KD];exact h
theorem qf {L:List Rf} (h:L.Pairwise fun x y=>bf x y=true):sortRf L=L:=by
 refine List.mergeSort_of_pairwise ?_;exact h.imp fun h=>by rw [vn h];rfl
end Go.SL
namespace Go.SL
open Go Go.Proofs
attribute [local irreducible] W WL WQ WG WA WX WLI WR WT WC VOp RW thn blk aW scp aJ aS bg FnAt FnP ceP
structure Gs where
 gg:Nat
 gm:Nat
 E:List En
 clock:Nat
 R1:List Blk
 gr:Nat
 A:Option Nat
 cap:Nat
 Q:List En
 R2:List Blk
end Go.SL
namespace Go.SL
open Go
theorem xK (G:Gr):(cR G).length≤G.length*G.length:=by
 unfold cR;have: ∀ L:Gr,(L.flatMap fun e=>(G.filter fun f=>dN e.2.2 f.1).map fun f=>(e.1,f.1)).length≤L.length*G.length:=by
  intro L
  induction L with
  |nil=>simp
  |cons a r ih=>
   rw [I8,Iv,II,IU,JP,Kk];have:=JN (fun f:Rf × List Nd × List Us=>dN a.2.2 f.1) G;omega
 exact this G
def l3 (G:Gr) (i k:Nat):Bool:=match (aw G)[i]?,(aw G)[k]? with
 |some c,some d=>gW (gV G c) (j9 d.col d.row)
 |_,_=>false
def bh (G:Gr):Nat→Nat→Nat→Bool
 |0,i,k=>l3 G i k
 |v+1,i,k=>bh G v i k||(bh G v i v && bh G v v k)
section
variable {G:Gr}
theorem rz {v i k:Nat} (h:bh G v i k=true): ∀ u,v≤u→bh G u i k=true:=fun u hu=>by
 induction u with
 |zero=>rw [Nat.le_zero.1 hu] at h;exact h
 |succ u ih=>
  rcases Kv u v with h1|h1
  ·rw [show u+1=v by omega];exact h
  ·rw [bh,ih h1,Bool.true_or]
theorem xW: ∀ v j i k,j<v→bh G v i j=true→bh G v j k=true→bh G v i k=true:=fun v=>by
 induction v with
 |zero=>intro j i k h;omega
 |succ v ih=>
  intro j i k hj h1 h2;simp only [bh,Ka,IX] at h1 h2 ⊢;rcases Kv j v with h3|h3
  ·rcases h1 with h1|⟨h1,h4⟩
   ·rcases h2 with h2|⟨h2,h5⟩
    ·exact .inl (ih j i k h3 h1 h2)
    ·exact .inr ⟨ih j i v h3 h1 h2,h5⟩
   ·rcases h2 with h2|⟨h2,h5⟩
    ·exact .inr ⟨h1,ih j v k h3 h4 h2⟩
    ·exact .inr ⟨h1,h5⟩
  ·have e:j=v:=by omega
   subst e;have h4:bh G j i j=true:=h1.elim id fun h=>h.1;have h5:bh G j j k=true:=h2.elim id fun h=>h.2;exact .inr ⟨h4,h5⟩
theorem BX {i k:Nat}:l3 G i k=true↔ ∃ c d,(aw G)[i]? =some c∧(aw G)[k]? =some d∧gW (gV G c) (j9 d.col d.row)=true:=by
 unfold l3;constructor
 ·intro h;split at h
  ·rename_i c d h1 h2;exact ⟨c,d,h1,h2,h⟩
  ·cases h
 ·rintro ⟨c,d,h1,h2,h⟩;rw [h1,h2];exact h
open Classical in
open Classical in
end
def ay (G:Gr):Nx:=(List.range G.length).map fun i=>(List.range G.length).filter fun k=>l3 G i k
def pathN (X:Nx) (i k:Nat):Prop:= ∃ m∈aj X i,Rch X m k
theorem bi (G:Gr):(ay G).length=G.length:=by simp [ay]
theorem nJ {G:Gr} {i k:Nat} (h:l3 G i k=true):i<G.length∧k<G.length:=by
 obtain ⟨c,d,h1,h2,_⟩:=BX.1 h;have l1:=(IQ.1 h1).1;have l2:=(IQ.1 h2).1;rw [aw,II] at l1 l2;exact ⟨l1,l2⟩
theorem jx {G:Gr} {i k:Nat}:k∈aj (ay G) i↔l3 G i k=true:=by
 constructor
 ·intro h;have hi:=iV h;rw [bi] at hi;simp [aj,ay,hi] at h;exact h.2
 ·intro h;obtain ⟨hi,hk⟩:=nJ h;simp [aj,ay,hi,hk,h]
theorem lz {G:Gr}: ∀ i,∀ k∈aj (ay G) i,k<(ay G).length:=fun i k h=>by
 rw [bi];exact (nJ (jx.1 h)).2
theorem pathN.trans {X:Nx} {i j k:Nat} (h:pathN X i j) (r:Rch X j k):pathN X i k:=by
 obtain ⟨m,hm,h⟩:=h;exact ⟨m,hm,h.trans r⟩
theorem pathN.rch {X:Nx} {i k:Nat} (h:pathN X i k):Rch X i k:=by
 obtain ⟨m,hm,h⟩:=h;exact .step hm h
theorem xY {G:Gr}: ∀ v i k,bh G v i k=true→pathN (ay G) i k:=fun v=>by
 induction v with
 |zero=>intro i k h;exact ⟨k,jx.2 h,.refl k⟩
 |succ v ih=>
  intro i k h;simp only [bh,Ka,IX] at h;rcases h with h|⟨h1,h2⟩
  ·exact ih i k h
  ·exact (ih _ _ h1).trans (ih _ _ h2).rch
theorem xX {G:Gr} {m k:Nat} (r:Rch (ay G) m k): ∀ i,l3 G i m=true→bh G G.length i k=true:=by
 induction r with
 |refl k=>intro i h;exact rz (v:=0) h _ (Iw _)
 |step h _ ih=>
  intro i hi;exact xW _ _ _ _ (nJ hi).2 (rz (v:=0) hi _ (Iw _)) (ih _ (jx.1 h))
theorem cM {G:Gr} {i k:Nat}:bh G G.length i k=true↔pathN (ay G) i k:=
 ⟨xY _ _ _,fun ⟨_,hm,r⟩=>xX r i (jx.1 hm)⟩
theorem CF {G:Gr} {i:Nat}:bh G G.length i i=true↔onC (ay G) i:=cM
theorem vY {G:Gr} {i:Nat}:(bh G G.length i i||(List.range G.length).any fun k=>bh G G.length i k && bh G G.length k k)=true↔co (ay G) i:=by
 rw [Ka,KO];constructor
 ·rintro (h|⟨k,_,h⟩)
  ·exact ⟨i,cM.1 h,.refl i⟩
  ·rw [IX] at h;exact ⟨k,cM.1 h.2,(cM.1 h.1).rch⟩
 ·rintro ⟨u,hu,r⟩
  cases r with
  |refl=>exact .inl (cM.2 hu)
  |step h r=>
   have h1:=cM.2 hu;have hl:u<G.length:=by
    obtain ⟨m,hm,_⟩:=hu;exact (nJ (jx.1 hm)).1
   exact .inr ⟨u,IJ.2 hl,by rw [h1,cM.2 ⟨_,h,r⟩];rfl⟩
theorem E6 {X:Nx} {i k:Nat} (h:k∈aj X i) (hc:co X k):co X i:=by
 obtain ⟨u,hu,r⟩:=hc;exact ⟨u,hu,.step h r⟩
theorem u5 {X:Nx} {i k:Nat} (h: ¬ co X i) (hk:k∈aj X i): ¬ co X k:=fun hc=>h (E6 hk hc)
theorem rm {X:Nx} {i:Nat} (h:pathN X i i):co X i:=⟨i,h,.refl i⟩
def bq (r:Nat→Nat→Bool) (l:List Nat):Nx:=(List.range l.length).map fun p=>(List.range l.length).filter fun q=>r ((l[p]?).getD 0) ((l[q]?).getD 0)
theorem j8 {r:Nat→Nat→Bool} {l:List Nat} {p q:Nat}:q∈aj (bq r l) p↔ ∃ (hp:p<l.length) (hq:q<l.length),r l[p] l[q]=true:=by
 constructor
 ·intro h;have hp:=iV h;rw [bq,II,Jc] at hp;simp [aj,bq,hp] at h;obtain ⟨hq,h⟩:=h;rw [Ir hq,KI] at h;exact ⟨hp,hq,h⟩
 ·rintro ⟨hp,hq,h⟩;simp [aj,bq,hp,hq,h]
theorem AZ {X:Nx} {r:Nat→Nat→Bool} {n:Nat} {l:List Nat} (hr: ∀ i k,r i k=true↔pathN X i k) (ha:l.Pairwise (· < ·)) (hl: ∀ i∈l,i<n) (hc: ∀ i∈l,¬ co X i):SubN r n l (bq r l):=by
 have hgo: ∀ {k q:Nat},Rch (bq r l) k q→ ∀ (hk:k<l.length) (hq:q<l.length),Rch X l[k] l[q]:=by
  intro k q h
  induction h with
  |refl k=>intro _ _;exact .refl _
  |step h _ ih=>
   intro hk hq;obtain ⟨_,hm,h⟩:=j8.1 h;exact ((hr _ _).1 h).rch.trans (ih hm hq)
 have hrel: ∀ p q (hp:p<l.length) (hq:q<l.length),r l[p] l[q]=true↔ ∃ k∈aj (bq r l) p,Rch (bq r l) k q:=by
  intro p q hp hq;constructor
  ·intro h;exact ⟨q,j8.2 ⟨hp,hq,h⟩,.refl q⟩
  ·rintro ⟨k,hk,h⟩;obtain ⟨_,hkl,h1⟩:=j8.1 hk;exact (hr _ _).2 (((hr _ _).1 h1).trans (hgo h hkl hq))
 exact ⟨by simp [bq],ha,hl,fun p q h=>(j8.1 h).2.1,hrel,fun p hp h=>hc _ (IZ hp) (rm ((hr _ _).1 ((hrel p p hp hp).2 h)))⟩
def dM (l:List Nat) (k:Nat):Nat:=(l.findIdx? fun b=>decide (b=k)).getD 0
theorem lI {l:List Nat} (hn:l.Pairwise (· < ·)) {i:Nat} (h:i<l.length):dM l l[i]=i:=by
 unfold dM
 rw [Jb.2 ⟨h,by simp,fun j hj=>by
  have:=J5.1 hn j i (by omega) h hj;simpa using (by omega:l[j]'(by omega)≠l[i])⟩]
 rfl
def aZ (X:Nx) (l:List Nat):Nx:=(List.range l.length).map fun p=>(aj X ((l[p]?).getD 0)).map (dM l)
theorem ic {X:Nx} {l:List Nat} (ha:l.Pairwise (· < ·)) (hcl: ∀ i∈l,∀ k∈aj X i,k∈l) {p q:Nat}:q∈aj (aZ X l) p↔ ∃ (hp:p<l.length) (hq:q<l.length),l[q]∈aj X l[p]:=by
 constructor
 ·intro h;have hp:=iV h;rw [aZ,II,Jc] at hp;simp [aj,aZ,hp] at h;obtain ⟨k,hk,rfl⟩:=h;obtain ⟨q,hq,rfl⟩:=JE.1 (hcl _ (IZ hp) k hk);rw [lI ha hq];exact ⟨hp,hq,hk⟩
 ·rintro ⟨hp,hq,h⟩;have:q∈(aj X l[p]).map (dM l):=IM.2 ⟨l[q],h,lI ha hq⟩;simpa [aj,aZ,hp] using this
theorem zT {X:Nx} {r:Nat→Nat→Bool} {n:Nat} {l:List Nat} (hr: ∀ i k,r i k=true↔pathN X i k) (ha:l.Pairwise (· < ·)) (hl: ∀ i∈l,i<n) (hc: ∀ i∈l,¬ co X i) (hcl: ∀ i∈l,∀ k∈aj X i,k∈l):SubN r n l (aZ X l):=by
 have hgo: ∀ {k q:Nat},Rch (aZ X l) k q→ ∀ (hk:k<l.length) (hq:q<l.length),Rch X l[k] l[q]:=by
  intro k q h
  induction h with
  |refl k=>intro _ _;exact .refl _
  |step h _ ih=>
   intro hk hq;obtain ⟨_,hm,h⟩:=(ic ha hcl).1 h;exact .step h (ih hm hq)
 have hback: ∀ {a b:Nat},Rch X a b→ ∀ (p q:Nat) (hp:p<l.length) (hq:q<l.length),l[p]=a→l[q]=b→Rch (aZ X l) p q:=by
  intro a b h
  induction h with
  |refl k=>
   intro p q hp hq h1 h2;have e:p=q:=by
    rw [← lI ha hp,← lI ha hq,h1,h2]
   rw [e];exact .refl q
  |step h _ ih=>
   intro p q hp hq h1 h2;obtain ⟨m,hm,rfl⟩:=JE.1 (hcl _ (IZ hp) _ (h1 ▸ h));exact .step ((ic ha hcl).2 ⟨hp,hm,h1 ▸ h⟩) (ih m q hm hq rfl h2)
 have hrel: ∀ p q (hp:p<l.length) (hq:q<l.length),r l[p] l[q]=true↔ ∃ k∈aj (aZ X l) p,Rch (aZ X l) k q:=by
  intro p q hp hq;rw [hr];constructor
  ·rintro ⟨m,hm,h⟩;obtain ⟨k,hk,rfl⟩:=JE.1 (hcl _ (IZ hp) m hm);exact ⟨k,(ic ha hcl).2 ⟨hp,hk,hm⟩,hback h k q hk hq rfl rfl⟩
  ·rintro ⟨k,hk,h⟩;obtain ⟨_,hkl,h1⟩:=(ic ha hcl).1 hk;exact ⟨l[k],h1,hgo h hkl hq⟩
 exact ⟨by simp [aZ],ha,hl,fun p q h=>((ic ha hcl).1 h).2.1,hrel,fun p hp h=>hc _ (IZ hp) (rm ((hr _ _).1 ((hrel p p hp hp).2 h)))⟩
end Go.SL
namespace Go.SL
open Go Go.Proofs
attribute [local irreducible] W WL WQ WG WA WX WLI WR WT WC VOp RW thn blk aW scp aJ aS bg FnAt FnIn FnP ceP
def eF (p:Rf × Rf):List Value:= [.int .i64 p.1.col,.int .i64 p.1.row,.int .i64 p.2.col,.int .i64 p.2.row]
theorem AP (p:Rf × Rf):(eF p).length=4:=rfl
def gM (q:Rf→Rf→Bool) (F:List Rf) (a:Rf):List (Rf × Rf):=(F.filter (q a)).map fun b=>(a,b)
def eB (q:Rf→Rf→Bool) (F G:List Rf):List (Rf × Rf):=G.flatMap (gM q F)
theorem zJ {q:Rf→Rf→Bool} {F:List Rf} {a:Rf} {k:Nat} (h:k<F.length):gM q (F.take (k+1)) a=if q a F[k] then gM q (F.take k) a++ [(a,F[k])] else gM q (F.take k) a:=by
 rw [IA h];simp only [gM,KA,Jn,List.filter_cons,List.filter_nil];split<;>simp
theorem vU {q:Rf→Rf→Bool} {F G:List Rf} {i:Nat} (h:i<G.length):eB q F (G.take (i+1))=eB q F (G.take i)++gM q F G[i]:=by
 rw [IA h];simp only [eB,Jk,I8,KM,I3]
theorem uJ (q:Rf→Rf→Bool) (F:List Rf) (a:Rf):(gM q F a).length≤F.length:=by
 simp only [gM,II];exact JN _ _
theorem pS (q:Rf→Rf→Bool) (F:List Rf): ∀ G:List Rf,(eB q F G).length≤G.length*F.length
 | []=>Iw _
 |a::r=>by
  have h1:=uJ q F a;have h2:=pS q F r;have:eB q F (a::r)=gM q F a++eB q F r:=rfl;rw [this,Iv,IU,JP,Kk];omega
def mE (E:List En):List (Rf × Rf):=eB (fun a b=>dN (cn E a).uses b) (fj (E.map En.m)) (fj (E.map En.m))
theorem pL (es:List (Rf × Value × Nat)):(fj es).length=es.length:=by
 have:=(Kc (es.map fun e=>e.1) (fun x y=> !(bf y x))).length_eq;simp [fj,sortRf]
theorem Dx (gg gm clock:Nat) (E:List En) (hok:MapOk (E.map En.m) clock) (hlen:E.length≤1000) (R:List Blk) (w0:World) (hE: ∀ e∈E,EnOk R e):
 FnIn Tryz.prog 55 [.pointer (some ⟨gg,0,none⟩)] w0 (gB gg gm (E.map En.m) clock++R) fun v H=> ∃ A cap,v=sl A (mE E).length cap∧H= .own A 114 4 (mE E).length cap ((mE E).flatMap eF)::(gB gg gm (E.map En.m) clock++R):=by
 refine cd Tryz.func55 rfl Tryz.ntmps55 rfl ?_;have hF:=fun R=>nu gg gm clock (E.map En.m) hok (by simp;omega) R w0;have hfl:(fj (E.map En.m)).length≤1000:=by rw [pL];simpa using hlen
 have hl2:(E.map En.m).length=(fj (E.map En.m)).length:=(pL _).symm;unfold mE;rw [hl2] at hF;generalize fj (E.map En.m)=F at hF hfl;refine aN 114 4 ?_;repeat' (first|(apply ap (f:=29);exact rfl;exact rfl;exact FnIn.msub (hF (.own none 114 4 0 0 []::R)) (by unfold gB;exact mS);rintro _ _ ⟨A0,c0,rfl,rfl⟩)|refine zZB ?_|refine sM fun _=>?_|(refine sC ?_ ?_<;>intro hb<;>try omega)|fail)
 unfold gB
 refine aB [0,4,14,15] rfl (fun x:Nat × Option Nat × Nat=> [(3,sl x.2.1 (eB (fun a b=>dN (cn E a).uses b) F (F.take x.1)).length x.2.2),(16,.int .i64 (x.1:Int))])
  (fun x=> .own x.2.1 114 4 (eB (fun a b=>dN (cn E a).uses b) F (F.take x.1)).length x.2.2 ((eB (fun a b=>dN (cn E a).uses b) F (F.take x.1)).flatMap eF):: .own A0 28 2 F.length c0 (F.flatMap az):: .box gg 85 [.map (some gm)]:: .obj gm (bC dE (E.map En.m) clock)::R)
  (fun x=>x.1≤F.length) (fun x=>F.length - x.1) (0,none,0) (Iw _) ?_ ?_ ?_
 ·exact sB
 ·simp only [eB,Kf,KM,Km];exact mS
 rintro ⟨i,A,cap⟩ hi;dsimp only at hi ⊢;by_cases hlt:i<F.length
 ·have htake:=vU (q:=fun a b=>dN (cn E a).uses b) (F:=F) hlt;have hel:(eB (fun a b=>dN (cn E a).uses b) F (F.take i)).length≤1000*1000:=by
   have h1:=pS (fun a b=>dN (cn E a).uses b) F (F.take i);rw [Jl] at h1;exact Je h1 (Nat.mul_le_mul (by omega) hfl)
  have hv0:((F.flatMap az).drop (i*2)).take 2=az F[i]:=dW bN F i hlt;have hl:=GH E F[i];have hoke:=Az hE F[i];have hq:gM (fun a b=>dN (cn E a).uses b) F F[i]=gM (fun _ b=>dN (cn E F[i]).uses b) F F[i]:=rfl;rw [hq] at htake;generalize F[i]=a at hv0 hl hoke htake;generalize cn E a=e at hl hoke htake;generalize eB (fun a b=>dN (cn E a).uses b) F (F.take i)=X at htake hel;refine bH (A:=A0) pK (by omega) fun g0 hA0=> ?_;subst hA0;repeat' (first|(apply ai;exact rfl;apply aa;exact rfl;exact rfl;exact hlt)|(apply ai;exact rfl;apply dh (ys:=az a);exact rfl;exact pK;(rw [IG];exact hv0);exact rfl)|(apply kX;(iterate 3 exact rfl);apply df;exact rfl)|(apply n9 (id:=8) [] [];kernel_rfl;kernel_rfl;kernel_rfl)|(apply kX;(iterate 3 exact rfl);apply lg (enc:=dE) (z:=Bg);exact rfl;exact rfl;exact pK;exact hl)|(apply kX;(iterate 3 exact rfl);apply gy;exact rfl;exact rfl)|refine zZL ?_|refine sM fun _=>?_|(refine sC ?_ ?_<;>intro hb<;>try omega)|(refine sCW ?_ ?_<;>intro hb<;>try omega)|fail)
  rename_i g6
  refine aB [0,4,6,7,14,15,16,27,28] rfl (fun x:Nat × Option Nat × Nat=> [(3,sl x.2.1 (X++gM (fun _ b=>dN e.uses b) (F.take x.1) a).length x.2.2),(29,.int .i64 (x.1:Int))])
   (fun x=> .box g6 28 (az a):: .own x.2.1 114 4 (X++gM (fun _ b=>dN e.uses b) (F.take x.1) a).length x.2.2 ((X++gM (fun _ b=>dN e.uses b) (F.take x.1) a).flatMap eF):: .own (some g0) 28 2 F.length c0 (F.flatMap az):: .box gg 85 [.map (some gm)]:: .obj gm (bC dE (E.map En.m) clock)::R)
   (fun x=>x.1≤F.length) (fun x=>F.length - x.1) (0,A,cap) (Iw _) ?_ ?_ ?_
  ·simp only [gM,Kf,List.filter_nil,Jz,I3];exact sB
  ·simp only [gM,Kf,List.filter_nil,Jz,I3];exact mS
  rintro ⟨k,A2,cap2⟩ hk;dsimp only at hk ⊢;by_cases hkt:k<F.length
  ·have hrow:=zJ (q:=fun _ b=>dN e.uses b) (a:=a) hkt;have hrl:(gM (fun _ b=>dN e.uses b) (F.take k) a).length≤1000:=by
    have:=uJ (fun _ b=>dN e.uses b) (F.take k) a;rw [Jl] at this;omega
   have hv1:((F.flatMap az).drop (k*2)).take 2=az F[k]:=dW bN F k hkt;generalize F[k]=b at hv1 hrow;have hcf:=fun (g9:Nat) (w' :World) (H' :List Blk) (hs:MSub R H') (hi:In (.box g9 28 (az b)) H') (hm:Mem w0 w' H')=>tI 102 [.pointer (some ⟨g9,0,none⟩)] (fun u=>vw u.rect b) e.uses hoke.ul e.uv w' (hoke.uses _ w' (hs.use hm)) (fun u w2 H2 hm2=>De u b g9 w2 (Ro.next (Ro.of_box hm hi) hm2));have hU:(e.uses.any fun u=>vw u.rect b)=dN e.uses b:=rfl;rw [hU] at hcf;generalize dN e.uses b=yes at hcf hrow;generalize gM (fun _ b=>dN e.uses b) (F.take k) a=Y at hrow hrl;have hXY:(X++Y).length≤1002000:=by rw [Iv];omega
   have hXYs:(X++Y).length+1=(X++(Y++ [(a,b)])).length:=by simp [Kn]
   have hXYf:(X++Y).flatMap eF++eF (a,b)=(X++(Y++ [(a,b)])).flatMap eF:=by simp
   repeat' (first|(apply ai;exact rfl;apply aa;exact rfl;exact rfl;exact hkt)|(apply ai;exact rfl;apply dh (ys:=az b);exact rfl;exact pK;(rw [IG];exact hv1);exact rfl)|(apply ag (f:=101);exact rfl;exact rfl;(intro w' hm;exact hcf _ w' _ mS pK hm))|(apply nX;(iterate 6 exact rfl))|(apply aF (news:=eF (a,b));(iterate 3 exact rfl);exact pK;exact pK;exact rfl;(simp [eF,Value.oneCell']);omega;(simp only [maxLen];omega);(intro g3 cap3;rw [hXYs,hXYf]))|refine zZA ?_|refine sM fun _=>?_|(refine sC ?_ ?_<;>intro hb<;>try omega)|fail)
   ·rw [hb] at hrow;simp only [if_true] at hrow;refine ⟨(k+1,some g3,cap3),hkt,(by dsimp only;omega),?_,?_,?_⟩
    ·dsimp only;rw [hrow];exact sB
    ·exact sB
    ·dsimp only;rw [hrow];exact mS
   ·rw [hb] at hrow;simp only [Jt,if_false] at hrow;refine ⟨(k+1,A2,cap2),hkt,(by dsimp only;omega),?_,?_,?_⟩
    ·dsimp only;rw [hrow];exact sB
    ·exact sB
    ·dsimp only;rw [hrow];exact mS
  ·have e2:k=F.length:=by omega
   subst e2;have htake' :=htake;rw [show F.take F.length=F from I5] at*;repeat' (first|refine zZA ?_|refine sM fun _=>?_|(refine sC ?_ ?_<;>intro hb<;>try omega)|fail)
   refine ⟨(i+1,A2,cap2),hlt,(by dsimp only;omega),?_,?_,?_⟩
   ·dsimp only;rw [htake];exact sB
   ·exact sB
   ·dsimp only;rw [htake];exact mS
 ·have e2:i=F.length:=by omega
  subst e2;rw [I5];repeat' (first|refine zZB ?_|refine sM fun _=>?_|(refine sC ?_ ?_<;>intro hb<;>try omega)|fail)
  all_goals exact bB eIO rfl rfl mS ⟨A,cap,rfl,rfl⟩
end Go.SL

/-
  Lemmas and walks, put together: A4 B1 B2 B3.
-/
import Derived.Test.YthefeclkaaocnaaGreatDoorKc10
set_option linter.unusedSimpArgs false
set_option linter.unusedVariables false
set_option maxRecDepth 20000
namespace Go.SL
open Go Go.Proofs
attribute [local irreducible] W WL WQ WG WA VOp thn blk bL scp bi aQ FnIn
def bX:List ByteArray:= [⟨#[]⟩,⟨#[35,68,73,86,47,48,33]⟩,⟨#[35,86,65,76,85,69,33]⟩,⟨#[35,78,85,77,33]⟩,⟨#[35,78,47,65]⟩,⟨#[35,82,69,70,33]⟩,⟨#[35,67,89,67,76,69,33]⟩,⟨#[35,68,69,78,73,69,68]⟩]
def Words (w:World):Prop:=Ro w 0 0 (bX.map Value.string)
theorem Words.next {w0 w:World} {H:List Blk} (h:Words w0) (hm:Mem w0 w H):Words w:=Ro.next h hm
def fB (c:Int):Vl:=⟨4,if c<1∨7<c then 2 else c,av⟩
def r9 (n:Int):Vl:=if n= -9223372036854775808 then fB 3 else ⟨1,n,av⟩
def kA (b:Bool):Vl:=⟨2,if b then 1 else 0,av⟩
def li:ByteArray:=⟨#[84,82,85,69]⟩
def jM:ByteArray:=⟨#[70,65,76,83,69]⟩
def wP (a:ByteArray):Vl:=if upB a=li then kA true else if upB a=jM then kA false else fB 2
theorem kR (c:Int) (w:World):ax Tryz.prog 199 [.int .i64 c] w (.agg (cX (fB c)).toArray):=by
 refine aq Tryz.func199 rfl Tryz.ntmps199 rfl ?_
 repeat' (first|refine sT ?_|refine sM fun _=> ?_|(refine sC ?_ ?_<;>intro hb<;>try omega)|exact cT|fail)
 all_goals ((refine eRC ?_);simp only [fB];(first|rw [if_pos (by omega)]|rw [if_neg (by omega)]);rfl)
theorem Ki (n:Int) (w:World):ax Tryz.prog 202 [.int .i64 n] w (.agg (cX (r9 n)).toArray):=by
 refine aq Tryz.func202 rfl Tryz.ntmps202 rfl ?_
 repeat' (first|(apply aa;exact rfl;exact rfl;(intro w hm;exact kR 3 w))|refine sT ?_|refine sM fun _=> ?_|(refine sC ?_ ?_<;>intro hb<;>try omega)|exact cT|fail)
 all_goals ((refine eRC ?_);simp_all [r9,cX,fB,av])
theorem IA (b:Bool) (w:World):ax Tryz.prog 276 [.bool b] w (.agg (cX (kA b)).toArray):=by
 refine aq Tryz.func276 rfl Tryz.ntmps276 rfl ?_
 repeat' (first|refine sT ?_|refine sM fun _=> ?_|(refine sC ?_ ?_<;>intro hb<;>try omega)|exact cT|fail)
 all_goals ((refine eRC ?_);simp_all [kA,cX,av])
theorem GF (v:Vl) (ha:v.text.size≤1000000) (w:World):ax Tryz.prog 239 [.agg (cX v).toArray] w (.agg (cX (wP v.text)).toArray):=by
 refine aq Tryz.func239 rfl Tryz.ntmps239 rfl ?_
 repeat' (first|(apply aa;exact rfl;exact rfl;(intro w hm;exact oO v.text ha w))|(apply aa;exact rfl;exact rfl;(intro w hm;exact IA _ w))|(apply aa;exact rfl;exact rfl;(intro w hm;exact kR 2 w))|refine sT ?_|refine sM fun _=> ?_|(refine sC ?_ ?_<;>intro hb<;>try omega)|exact cT|fail)
 all_goals ((refine eRC ?_);simp_all [wP,li,jM];rfl)
theorem Kf (c:Int) (h1:1≤c) (h2:c≤5) (w:World) (hw:Words w):ax Tryz.prog 286 [.agg (cX ⟨4,c,av⟩).toArray] w (.string (bX.getD c.toNat av)):=by
 refine aq Tryz.func286 rfl Tryz.ntmps286 rfl ?_
 have he:eqV ⟨4,c,av⟩ (fB 7)=false:=by simp [eqV,fB];omega
 have hv:mW ⟨4,c,av⟩=0:=by
  have h6:decide (c≤6)=true:=decide_eq_true (by omega)
  simp [mW,qW,h1,h6]
 have hc:=Ak ⟨4,c,av⟩
 rw [hv] at hc
 obtain ⟨k,rfl⟩: ∃ k:Nat,c=(k:Int):=⟨c.toNat,by omega⟩
 have hcell:(bX.map Value.string)[k*1]? =some (.string (bX.getD k av)):=by
  rcases (by omega:k=1∨k=2∨k=3∨k=4∨k=5) with rfl|rfl|rfl|rfl|rfl<;>rfl
 repeat' (first|(apply d9;exact rfl;exact rfl;(intro w hm;exact kR 7 w))|(apply d9;exact rfl;exact rfl;(intro w hm;exact hc w))|(apply aP;exact rfl;exact he ▸ AA (b:=fB 7) rfl rfl)|(apply aj;exact rfl;apply rj (j:=k);exact rfl;exact rfl;omega)|(apply aj;exact rfl;apply aH (o:=0);exact hw;exact rfl;exact hcell)|refine sT ?_|refine sQ ?_|refine sD ?_|refine sM fun _=> ?_|(refine sC ?_ ?_<;>intro hb<;>try omega)|(refine sCQ ?_ ?_<;>intro hb<;>try omega)|exact cT|fail)
 (refine rT1 ?_)
 rfl
instance:KLaw Tryz.prog 5 (fun z:Int=>Value.int .u8 z):=GV
theorem vY {P:Program} {n:Fr} {w0:World} {Q:bM} {s:az} {H:List Blk} {rest:List Oper} {ty:TypeId} {p:String} {af:Array Edge} {κ:Type} [DecidableEq κ] {enc:κ→Value} {t K E g clock:Nat} {m x kx:Operand} {k:κ} {v:Value} {es:List (κ × Value × Nat)} {es' :List (κ × Value × Nat)} {c' :Nat} {R:List Blk} {ops:Array Oper} [ht:Und P t (.map K E)] [hk:KLaw P K enc] (hm:ev s m=some (.map (some g))) (hkx:ev s kx=some (enc k)) (hx:ev s x=some v) (hsel:Sel (.obj g (mD enc es clock)) H R)
  (he:wS k v clock es=(es',c')) (h:WL P n w0 ops rest Q s (.obj g (mD enc es' c')::R)):WL P n w0 ops (⟨none,.insert t m kx x,ty,p,af,none⟩::rest) Q s H:=by
 refine Dw hm hkx hx hsel ?_
 rw [he];exact h
theorem GS {κ:Type} [DecidableEq κ] {k:κ} {v:Value} {clock:Nat} {es:List (κ × Value × Nat)} (h:kT k es 0=none):wS k v clock es=(es++ [(k,v,clock)],clock+1):=by
 simp [wS,h]
def Dm (v:Vl):List (Int × Value × Nat):=
 [(0,.func (.func 237) #[.agg (cX v).toArray] #[],0),(1,.func (.func 237) #[.agg (cX v).toArray] #[],1),(2,.func (.func 238) #[.agg (cX v).toArray] #[],2),(3,.func (.func 239) #[.agg (cX v).toArray] #[],3),(4,.func (.func 238) #[.agg (cX v).toArray] #[],4)]
theorem AP (v:Vl) (w:World):aQ Tryz.prog 236 [.agg (cX v).toArray] w fun u H=> ∃ g,u= .map (some g)∧H= [.obj g (mD (fun z:Int=>Value.int .u8 z) (Dm v) 5)]:=by
 refine aq Tryz.func236 rfl Tryz.ntmps236 rfl ?_
 repeat' (first|(apply Af (enc:=fun z:Int=>Value.int .u8 z);exact rfl;intro g)|(apply aj;exact rfl;apply ky;exact rfl)|(apply vY (enc:=fun z:Int=>Value.int .u8 z);(iterate 3 exact rfl);exact pK;exact GS rfl)|refine sT ?_|refine sM fun _=> ?_|(refine sC ?_ ?_<;>intro hb<;>try omega)|exact cT|fail)
 exact cP (H' := [.obj g (mD (fun z:Int=>Value.int .u8 z) (Dm v) 5)]) (.inl rfl) rfl rfl (.pick .hd (.nil _)) ⟨g,rfl,rfl⟩
def gS (v:Vl):Vl:=if mW v=0 then wP v.text else fB 2
set_option maxHeartbeats 1000000 in
theorem zD (v:Vl) (hk:v.kind=3) (ha:v.text.size≤1000000) (w:World):ax Tryz.prog 235 [.agg (cX v).toArray,.func (.func 236) #[] #[]] w (.agg (cX (gS v)).toArray):=by
 refine aq Tryz.func235 rfl Tryz.ntmps235 rfl ?_
 obtain ⟨k,num,text⟩:=v
 dsimp only at hk ha
 subst hk
 have hv:=Ak ⟨3,num,text⟩
 have hn:=GF ⟨3,num,text⟩ ha
 repeat' (first|refine sT ?_|refine sM fun _=> ?_|(refine sC ?_ ?_<;>intro hb<;>try omega)|exact cT|fail)
 rename_i g2 g4
 refine qU (id:=1) (ι:=Unit) (fun _=> [(5,.func (.func 239) #[.agg (cX ⟨3,num,text⟩).toArray] #[]),(6,.bool true),(2,.pointer (some ⟨g2,0,none⟩)),(4,.pointer (some ⟨g4,0,none⟩))]) (fun _=> [.box g2 172 (cX ⟨3,num,text⟩),.box g4 172 (cX bD)]) (fun _=>True) ?_ ?_
 ·
  refine iI 11 rfl (by kernel_rfl) ?_
  ((with_reducible apply aN (i:=0));exact rfl;exact rfl;decide+kernel;decide+kernel;decide+kernel;exact nP;(intro _ _;exact vP))
  ((with_reducible apply aN (i:=3));exact rfl;exact rfl;decide+kernel;decide+kernel;decide+kernel;exact nP;(intro _ _;exact vP))
  repeat' (first|(apply cE (i:=1) (j:=4);exact rfl;exact rfl;decide+kernel)|(apply cE (i:=2) (j:=4);exact rfl;exact rfl;decide+kernel)|(apply aF (i:=1);exact rfl;decide+kernel)|(apply aF (i:=2);exact rfl;decide+kernel)|(apply aF (i:=4);exact rfl;decide+kernel)|(apply aF (i:=5);exact rfl;decide+kernel)|(apply aN (i:=6);exact rfl;exact rfl;decide+kernel;decide+kernel;decide+kernel;exact nP;(intro _ _;exact vP))|(apply aN (i:=7);exact rfl;exact rfl;decide+kernel;decide+kernel;decide+kernel;exact nP;(intro _ _;exact vP))|(apply aN (i:=8);exact rfl;exact rfl;decide+kernel;decide+kernel;decide+kernel;exact nP;(intro _ _;exact vP))|(apply aN (i:=9);exact rfl;exact rfl;decide+kernel;decide+kernel;decide+kernel;exact nP;(intro _ _;exact vP))|(apply aN (i:=10);exact rfl;exact rfl;decide+kernel;decide+kernel;decide+kernel;exact nP;(intro _ _;exact vP))|(apply iH;decide+kernel)|(apply jS;exact rfl;exact rfl;infer_instance;exact rfl;exact FnIn.of_at (fun w' _=>AP ⟨3,num,text⟩ w');(rintro _ _ ⟨H1,⟨g5,rfl,rfl⟩,rfl⟩))|(apply aj;exact rfl;apply Ay (enc:=fun z:Int=>Value.int .u8 z);exact rfl;exact rfl;exact pK;exact rfl)|refine sT ?_|refine sM fun _=> ?_|(refine sC ?_ ?_<;>intro hb<;>try omega)|exact cT|fail)
  all_goals ((apply cv;rotate_left 1;exact sB;exact mS);trivial)
 ·
  rintro _ -
  simp only [gS]
  generalize mW ⟨3,num,text⟩=e at hv
  repeat' (first|(apply aa;exact rfl;exact rfl;(intro w hm;exact hv w))|(apply aa;exact rfl;exact rfl;(intro w hm;exact kR 2 w))|(apply oV;exact rfl;exact rfl;infer_instance;exact rfl;(intro w' _;exact hn w'))|refine sT ?_|refine sM fun _=> ?_|(refine sC ?_ ?_<;>intro hb<;>try omega)|exact cT|fail)
  all_goals
   (refine eRC ?_)
   simp_all
   rfl
theorem E3 (v:Vl) (hk:v.kind=3) (ha:v.text.size≤1000000) (w:World):ax Tryz.prog 196 [.agg (cX v).toArray] w (.agg (cX (gS v)).toArray):=by
 refine aq Tryz.func196 rfl Tryz.ntmps196 rfl ?_
 repeat' (first|(apply aa;exact rfl;exact rfl;(intro w hm;exact zD v hk ha w))|refine sT ?_|refine sM fun _=> ?_|(refine sC ?_ ?_<;>intro hb<;>try omega)|exact cT|fail)
 (refine eRC ?_)
 rfl
def iq (u:ByteArray):List ByteArray→Int→Int × Int
 | [],_=>(0,4)
 |x::r,i=>if x=u then (i,0) else iq u r (i+1)
def gA (a:ByteArray):Int × Int:=iq (upB a) (bX.drop 1) 1
theorem Ab {i:Nat} (h:i<8):(bX.map Value.string)[i]? =some (.string (bX.getD i av)):=by
 rcases (by omega:i=0∨i=1∨i=2∨i=3∨i=4∨i=5∨i=6∨i=7) with rfl|rfl|rfl|rfl|rfl|rfl|rfl|rfl<;>rfl
theorem pG {i:Nat} (h:i<8):bX.drop i=bX.getD i av::bX.drop (i+1):=by
 rcases (by omega:i=0∨i=1∨i=2∨i=3∨i=4∨i=5∨i=6∨i=7) with rfl|rfl|rfl|rfl|rfl|rfl|rfl|rfl<;>rfl
theorem Kj (a:ByteArray) (ha:a.size≤1000000) (w:World) (hw:Words w):ax Tryz.prog 198 [.string a] w (.tuple #[.int .i64 (gA a).1,.int .i64 (gA a).2]):=by
 refine aq Tryz.func198 rfl Tryz.ntmps198 rfl ?_
 have hload:(((bX.map Value.string).drop 0).take 8)=bX.map Value.string:=rfl
 have hU:=oO a ha
 generalize hu:upB a=u at hU
 repeat' (first|(apply aa;exact rfl;exact rfl;(intro w hm;exact hU w))|(apply aj;exact rfl;apply ed (o:=0) (off:=0);exact hw;exact rfl;exact hload;exact rfl)|refine sT ?_|refine sT2 ?_|refine sM fun _=> ?_|(refine sC ?_ ?_<;>intro hb<;>try omega)|exact cT|fail)
 refine ay [0,8] rfl (fun i:Nat=> [(9,.int .i64 (i:Int))]) (fun _=> []) (fun i=>i≤8∧gA a=iq u (bX.drop (max i 1)) (max i 1:Nat)) (fun i=>8 - i) 0 ⟨by omega,by rw [gA,hu];rfl⟩ sB mS ?_
 rintro i ⟨hi,hr⟩
 by_cases hlt:i<8
 ·
  have hx:=Ab hlt
  have hd:=pG hlt
  generalize bX.getD i av=x at hx hd
  repeat' (first|(apply aj;exact rfl;apply lc;exact rfl;exact rfl;exact hlt;exact hx)|refine sT ?_|refine sT2 ?_|refine sN ?_|refine sM fun _=> ?_|(refine sC ?_ ?_<;>intro hb<;>try omega)|exact cT|fail)
  ·
   rename_i h0
   rw [show max i 1=i by omega,hd,iq,if_pos hb] at hr
   rw [hr]
   (refine rT2 ?_)
   rfl
  ·
   rename_i h0
   rw [show max i 1=i by omega,hd,iq,if_neg hb] at hr
   refine ⟨i+1,?_,(by first|omega|(dsimp only;omega)),sB,sB,mS⟩
   refine ⟨hlt,?_⟩
   rw [hr,show max (i+1) 1=i+1 by omega]
   rfl
  ·
   have h0:i=0:=by omega
   subst h0
   refine ⟨0+1,?_,(by first|omega|(dsimp only;omega)),sB,sB,mS⟩
   exact ⟨by omega,hr⟩
 ·
  have e:i=8:=by omega
  subst e
  rw [hr]
  repeat' (first|refine sT ?_|refine sT2 ?_|refine sM fun _=> ?_|(refine sC ?_ ?_<;>intro hb<;>try omega)|exact cT|fail)
  all_goals first|(exfalso;omega)|((refine rT2 ?_);rfl)
end Go.SL
namespace Go.SL
open Go Go.Proofs
attribute [local irreducible] W WL WQ WG WA WX WLI WR WT VOp thn blk bL scp bi bY aQ FnIn
theorem jv (c:Int) (w:World):ax Tryz.prog 279 [.int .u8 c] w (.bool (aD c)):=by
 refine aq Tryz.func279 rfl Tryz.ntmps279 rfl ?_
 repeat' (first|refine sT ?_|refine sM fun _=> ?_|(refine sC ?_ ?_<;>intro hb<;>try omega)|fail)
 all_goals ((refine rT1 ?_);((try simp only [← Int.not_lt] at*);simp_all [aD, -Int.not_lt, -Int.not_le,← Int.not_lt]))
theorem oh (c:Int) (w:World):ax Tryz.prog 281 [.int .u8 c] w (.bool (bH c)):=by
 refine aq Tryz.func281 rfl Tryz.ntmps281 rfl ?_
 repeat' (first|refine sT ?_|refine sM fun _=> ?_|(refine sC ?_ ?_<;>intro hb<;>try omega)|fail)
 all_goals ((refine rT1 ?_);(try simp only [← Int.not_lt] at*);simp_all [bH, -Int.not_lt, -Int.not_le,← Int.not_lt];try omega)
theorem Ep (c:Int) (w:World):ax Tryz.prog 312 [.int .u8 c] w (.bool (cB c)):=by
 refine aq Tryz.func312 rfl Tryz.ntmps312 rfl ?_
 repeat' (first|(apply aa;exact rfl;exact rfl;(intro w hm;exact oh c w))|(apply aa;exact rfl;exact rfl;(intro w hm;exact jv c w))|refine sT ?_|refine sM fun _=> ?_|(refine sC ?_ ?_<;>intro hb<;>try omega)|fail)
 all_goals ((refine rT1 ?_);simp_all [cB])
def gM (p:Int→Bool) (l:List Int):List Int:=l.take (aB p l)
theorem yS {p:Int→Bool} {c:Int} {r:List Int} (h:p c=true):gM p (c::r)=c::gM p r:=by simp [gM,aB,h]
theorem yR {p:Int→Bool} {c:Int} {r:List Int} (h:p c=false):gM p (c::r)= []:=by simp [gM,aB,h]
theorem ug (p:Int→Bool) (l:List Int):(gM p l).length=aB p l:=by
 simp [gM,OK (bN p l)]
set_option maxHeartbeats 1000000 in
theorem Eg (a:ByteArray) (ha:a.size≤1000000) (i0:Nat) (hi0:i0≤a.size) (fis:FuncId) [Callable Tryz.prog fis] (p:Int→Bool) (hf: ∀ c w,ax Tryz.prog fis [.int .u8 c] w (.bool (p c))) (w0:World) (g4 g3 g5:Nat):
  MJ Tryz.prog 330 [.pointer (some ⟨g4,0,none⟩),.pointer (some ⟨g3,0,none⟩),.pointer (some ⟨g5,0,none⟩)] w0 [.box g4 3 [.int .i64 (i0:Int)],.box g3 9 [.string a],.box g5 248 [.func (.func fis) #[] #[]]] (gM p ((ap a).drop i0)) (fun c=> [.int .u8 c]):=by
 intro l I J H0 hy h0
 refine FnIn.msub (H' := [.box g4 3 [.int .i64 (i0:Int)],.box g3 9 [.string a],.box g5 248 [.func (.func fis) #[] #[]]]++H0) ?_ MSub.swap
 refine dP Tryz.func330 rfl Tryz.ntmps330 rfl ?_
 repeat' (first|refine sT ?_|refine sT2 ?_|refine sM fun _=> ?_|(refine sC ?_ ?_<;>intro hb<;>try omega)|fail)
 refine fT (fun y:Nat × List Int × List Blk=> [(0,.func (.yield l) #[] #[]),(1,.pointer (some ⟨g4,0,none⟩)),(2,.pointer (some ⟨g3,0,none⟩)),(3,.pointer (some ⟨g5,0,none⟩)),(5,.int .i64 (y.1:Int))])
  (fun y=> [.box g4 3 [.int .i64 (i0:Int)],.box g3 9 [.string a],.box g5 248 [.func (.func fis) #[] #[]]]++y.2.2)
  (fun y=>y.1≤a.size∧gM p ((ap a).drop i0)=y.2.1++gM p ((ap a).drop y.1)∧I y.2.1 y.2.2) (fun y=>a.size - y.1) (i0,[],H0) ⟨hi0,rfl,h0⟩ sB (MSub.refl _) ?_
 rintro ⟨i,pre,H1⟩ ⟨hi,hus,hI⟩
 dsimp only at hi hus hI ⊢
 by_cases hlt:i<a.size
 ·
  rw [aY hlt] at hus
  have hfc:=fun w=>hf (bat a i) w
  cases hp:p (bat a i)
  ·
   rw [hp] at hfc
   rw [yR hp,M4] at hus
   repeat' (first|(apply gC;exact rfl;exact rfl;infer_instance;exact rfl;(intro w' _;exact hfc w'))|refine sT ?_|refine sI ?_|refine sQ ?_|refine sT2 ?_|refine sQ2 ?_|refine sN ?_|refine sNQ ?_|refine sD ?_|refine sM fun _=> ?_|(refine sC ?_ ?_<;>intro hb<;>try omega)|(refine sCQ ?_ ?_<;>intro hb<;>try omega)|fail)
   exact ij (.inr rfl) rfl (.refl _) ⟨H1,.inl (hus ▸ hI),MSub.swap⟩
  ·
   rw [hp] at hfc
   rw [yS hp] at hus
   repeat' (first|(apply gC;exact rfl;exact rfl;infer_instance;exact rfl;(intro w' _;exact hfc w'))|(apply DE (id:=3))|(apply Kl;exact rfl;exact rfl;apply aV;exact rfl;exact rfl;exact hlt)|refine sT ?_|refine sI ?_|refine sQ ?_|refine sT2 ?_|refine sQ2 ?_|refine sN ?_|refine sNQ ?_|refine sD ?_|refine sM fun _=> ?_|(refine sC ?_ ?_<;>intro hb<;>try omega)|(refine sCQ ?_ ?_<;>intro hb<;>try omega)|fail)
   (with_reducible apply Ad)
   ·
    exact rfl
   ·
    exact rfl
   ·
    exact rfl
   ·
    exact MSub.swapN
   ·
    exact fun w hm=>hy pre (bat a i) _ hus H1 [] hI w hm
   intro bb H2 hq
   cases bb
   ·
    repeat' (first|refine sT ?_|refine sI ?_|refine sT2 ?_|refine sM fun _=> ?_|(refine sC ?_ ?_<;>intro hb<;>try omega)|fail)
    exact ij eIO rfl (.refl _) ⟨H2,.inr ⟨_,hq⟩,by rw [M4];exact .refl _⟩
   ·
    repeat' (first|refine sT ?_|refine sI ?_|refine sT2 ?_|refine sN ?_|refine sM fun _=> ?_|(refine sC ?_ ?_<;>intro hb<;>try omega)|fail)
    refine ⟨(i+1,_,H2),⟨hlt,hus.trans (by rw [List.append_assoc];rfl),hq⟩,(by dsimp only;omega),sB,?_⟩
    exact MSub.swapN'
 ·
  have e:i=a.size:=by omega
  subst e
  have hl:=au a
  rw [Nn (i:=a.size) (by omega),show gM p []= [] from rfl,M4] at hus
  repeat' (first|refine sT ?_|refine sI ?_|refine sQ ?_|refine sT2 ?_|refine sQ2 ?_|refine sN ?_|refine sNQ ?_|refine sD ?_|refine sM fun _=> ?_|(refine sC ?_ ?_<;>intro hb<;>try omega)|(refine sCQ ?_ ?_<;>intro hb<;>try omega)|fail)
  exact ij (.inr rfl) rfl (.refl _) ⟨H1,.inl (hus ▸ hI),MSub.swap⟩
theorem Gf (a:ByteArray) (i0:Nat) (fis:FuncId) (w:World):
  aQ Tryz.prog 311 [.string a,.int .i64 (i0:Int),.func (.func fis) #[] #[]] w fun v H=> ∃ g4 g3 g5,v= .func (.func 330) #[] #[.pointer (some ⟨g4,0,none⟩),.pointer (some ⟨g3,0,none⟩),.pointer (some ⟨g5,0,none⟩)]∧H= [.box g4 3 [.int .i64 (i0:Int)],.box g3 9 [.string a],.box g5 248 [.func (.func fis) #[] #[]]]:=by
 refine aq Tryz.func311 rfl Tryz.ntmps311 rfl ?_
 repeat' (first|refine sT ?_|refine sM fun _=> ?_|(refine sC ?_ ?_<;>intro hb<;>try omega)|fail)
 rename_i g3 g4 g5
 exact cP (.inl rfl) rfl rfl (H' := [.box g4 3 [.int .i64 (i0:Int)],.box g3 9 [.string a],.box g5 248 [.func (.func fis) #[] #[]]]) mS ⟨g4,g3,g5,rfl,rfl⟩
set_option maxHeartbeats 1000000 in
theorem pg (a:ByteArray) (ha:a.size≤1000000) (i0:Nat) (hi0:i0≤a.size) (fis:FuncId) [Callable Tryz.prog fis] (p:Int→Bool) (hf: ∀ c w,ax Tryz.prog fis [.int .u8 c] w (.bool (p c))) (w:World):
  ax Tryz.prog 278 [.string a,.int .i64 (i0:Int),.func (.func fis) #[] #[]] w (.int .i64 (aB p ((ap a).drop i0):Int)):=by
 refine zk Tryz.func278 rfl Tryz.ntmps278 (by rfl) ?_
 refine xw ?_
 repeat' (first|(apply aC;exact rfl;exact rfl;(intro w' hm;exact Gf a i0 fis w');(rintro v H' ⟨g4,g3,g5,rfl,rfl⟩))|refine sT ?_|refine sR ?_|refine sM fun _=> ?_|(refine sC ?_ ?_<;>intro hb<;>try omega)|(refine sCR ?_ ?_<;>intro hb<;>try omega)|fail)
 rename_i gn
 have hpl:=ug p ((ap a).drop i0)
 have hll:=au a
 have hrl:=bN p ((ap a).drop i0)
 rw [M6] at hrl
 rw [← hpl]
 refine Fa (ps:= [12]) (us:=gM p ((ap a).drop i0)) (encs:=fun c=> [.int .u8 c]) (Hc:= [.box g4 3 [.int .i64 (i0:Int)],.box g3 9 [.string a],.box g5 248 [.func (.func fis) #[] #[]]]) (HU0:= [.box gn 3 [.int .i64 0]]) rfl (fun _=>rfl) rfl (Eg a ha i0 hi0 fis p hf w g4 g3 g5)
  (fun pre HU=>HU= [.box gn 3 [.int .i64 (pre.length:Int)]]) (fun _=>False) MSub.swap rfl ?_ ?_ ?_
 ·
  rintro l pre u post hus _ rfl F F'
  have hlu:=congrArg List.length hus
  simp only [MT,Nq] at hlu
  change WR _ _ _ l _ _ ((12,Value.int .u8 u)::_) (.box gn 3 [.int .i64 (pre.length:Int)]::F)
  repeat' (first|refine sT ?_|refine sR ?_|refine sM fun _=> ?_|(refine sC ?_ ?_<;>intro hb<;>try omega)|(refine sCR ?_ ?_<;>intro hb<;>try omega)|fail)
  refine Ir ⟨[.box gn 3 [.int .i64 (pre.length:Int)]],MSub.refl _,?_⟩
  change WR _ _ _ l _ _ _ (.box gn 3 [.int .i64 (pre.length:Int)]::F')
  repeat' (first|refine sT ?_|refine sR ?_|refine sN ?_|refine sM fun _=> ?_|(refine sC ?_ ?_<;>intro hb<;>try omega)|(refine sCR ?_ ?_<;>intro hb<;>try omega)|fail)
  refine Jz [.box gn 3 [.int .i64 ((pre.length+1:Nat):Int)]] ?_ (by rw [MT];rfl)
  change MSub (_::F') _
  exact mS
 ·
  rintro D _ rfl
  change bY _ _ _ _ _ (jl D:: .box gn 3 [.int .i64 ((gM p ((ap a).drop i0)).length:Int)]::_)
  repeat' (first|refine sT ?_|refine sR ?_|refine sM fun _=> ?_|(refine sC ?_ ?_<;>intro hb<;>try omega)|(refine sCR ?_ ?_<;>intro hb<;>try omega)|fail)
  refine HK .hd ?_
  exact cP (.inl rfl) rfl rfl (MSub.nil _) rfl
 ·
  rintro D HU h
  exact h.elim
def AO:Option (Tk × Nat)→Value
 |some (t,n)=> .tuple #[.agg (aX t).toArray,.int .i64 (n:Int)]
 |none=> .tuple #[.agg (aX cK).toArray,.int .i64 0]
def atT (i:Nat) (o:Option (Tk × Nat)):Option (Tk × Nat):=o.map fun x=>({ x.1 with at_:=(i:Int) },x.2)
def eL (l:List Int):Option (Tk × Nat):=
 let w:=aB aD l
 let p:=bO (l.drop w)
 let n:=if p=0 then w else w+1+p
 if w=0∨4<p then none
 else if (fI (l.take n)).2≠0 then none else some (⟨1,(fI (l.take n)).1,av,aL,0⟩,n)
theorem lD {c:Int} {r:List Int} (h:c=46):bO (c::r)=aB aD r:=by subst h;rfl
theorem kG {c:Int} {r:List Int} (h:c≠46):bO (c::r)=0:=by
 unfold bO
 split
 ·
  rename_i heq;injection heq with h1 h2;exact absurd h1 h
 ·
  rfl
set_option maxHeartbeats 1000000 in
theorem Em (a:ByteArray) (ha:a.size≤100000) (i:Nat) (hi:i≤a.size) (g:Nat) (w:World) (hr:Ro w g 0 [.string a]):
  ax Tryz.prog 243 [.pointer (some ⟨g,0,none⟩),.int .i64 (i:Int)] w (AO (atT i (eL ((ap a).drop i)))):=by
 refine aq Tryz.func243 rfl Tryz.ntmps243 rfl ?_
 have hl:=au a
 have hL1:=pg a (by omega) i hi 279 aD jv
 have hwl:=bN aD ((ap a).drop i)
 rw [M6] at hwl
 generalize hw:aB aD ((ap a).drop i)=n at hL1 hwl
 generalize hpd:bO ((ap a).drop (i+n))=p
 have hN:eL ((ap a).drop i)=if n=0∨4<p then none else if (fI (((ap a).drop i).take (if p=0 then n else n+1+p))).2≠0 then none else some (⟨1,(fI (((ap a).drop i).take (if p=0 then n else n+1+p))).1,av,aL,0⟩,if p=0 then n else n+1+p):=by
  simp only [eL,hw,N8,hpd]
 rw [hN]
 have hL2:=fun h=>pg a (by omega) (i+n+1) h 279 aD jv
 have hcut: ∀ m,ap (sub a i (i+m))=((ap a).drop i).take m:=fun m=>by rw [dE,show i+m - i=m by omega]
 have hple:p≤a.size - (i+n) - 1:=by
  rw [← hpd]
  by_cases h:i+n<a.size
  ·
   rw [aY h]
   by_cases h46:bat a (i+n)=46
   ·
    rw [lD h46]
    have:=bN aD ((ap a).drop (i+n+1))
    rw [M6] at this
    omega
   ·
    rw [kG h46];omega
  ·
   rw [Nn (by omega)];simp [bO]
 have hend: ∀ h:i+n+1<a.size,bat a (i+n)=46→(p=aB aD ((ap a).drop (i+n+1))):=fun h h46=>by
  rw [← hpd,aY (by omega),lD h46]
 have hno: ¬ (i+n+1<a.size∧bat a (i+n)=46∧aD (bat a (i+n+1))=true)→p=0:=fun h=>by
  by_cases h1:i+n<a.size
  ·
   by_cases h46:bat a (i+n)=46
   ·
    by_cases h2:i+n+1<a.size
    ·
     rw [hend h2 h46,aY h2,aB,if_neg fun h3=>h ⟨h2,h46,h3⟩]
    ·
     rw [← hpd,aY h1,lD h46,Nn (by omega)];rfl
   ·
    rw [← hpd,aY h1,kG h46]
  ·
   rw [← hpd,Nn (by omega)];rfl
 have hyes:i+n+1<a.size→bat a (i+n)=46→aD (bat a (i+n+1))=true→0<p:=fun h h46 h3=>by
  rw [hend h h46,aY h,aB,if_pos h3];omega
 repeat' (first|(apply aj;exact rfl;apply aH (o:=0) (off:=0);exact hr;exact rfl;exact rfl)|(apply aa;exact rfl;exact rfl;(intro w hm;exact hL1 w))|(apply aa;exact rfl;exact rfl;(intro w hm;exact jv _ w))|(refine CD (id:=7) [0,1,4] rfl (ι:=Nat × Nat) (fun x=> [(7,.int .i64 (x.1:Int)),(5,.int .i64 (x.2:Int))]) (fun x=>x.1=p∧x.2=if p=0 then n else n+1+p) ?_ ?_)|(apply aa;exact rfl;exact rfl;(intro w hm;exact hL2 (by omega) w))|refine sT ?_|refine sT2 ?_|refine sN ?_|refine sM fun _=> ?_|(refine sC ?_ ?_<;>intro hb<;>try omega)|exact cT|fail)
 ·
  (refine eQ ?_)
  rw [if_pos (.inl (by omega))];rfl
 ·
  rename_i h1 h2 h3
  refine cv ((aB aD ((ap a).drop (i+n+1)),n+(1+aB aD ((ap a).drop (i+n+1))))) ?_ sB mS
  have h5:=hyes (by omega) h3 hb
  have h6:=hend (by omega) h3
  rw [← h6]
  exact ⟨rfl,by rw [if_neg (by omega)];omega⟩
 ·
  rename_i h1 h2 h3
  refine cv ((0,n)) ?_ sB mS
  have:=hno fun h=>by rw [hb] at h;cases h.2.2
  exact ⟨this.symm,by rw [if_pos this]⟩
 ·
  refine cv ((0,n)) ?_ sB mS
  have:=hno fun h=>hb h.2.1
  exact ⟨this.symm,by rw [if_pos this]⟩
 ·
  refine cv ((0,n)) ?_ sB mS
  have:=hno fun h=>by omega
  exact ⟨this.symm,by rw [if_pos this]⟩
 rintro ⟨p',m⟩ ⟨rfl,hm⟩
 have hn0:n≠0:=by omega
 dsimp only at hm ⊢
 rw [← hm]
 by_cases h4:4<p'
 ·
  rw [if_pos (.inr h4)]
  repeat' (first|refine sT ?_|refine sT2 ?_|refine sM fun _=> ?_|(refine sC ?_ ?_<;>intro hb<;>try omega)|exact cT|fail)
  all_goals first|(exfalso;omega)|((refine eQ ?_);rfl)
 ·
  rw [if_neg (by omega)]
  have him:i+m≤a.size:=by rw [hm];split<;>omega
  have hP:=p9 (sub a i (i+m)) (by rw [bQ _ him];omega)
  rw [hcut m] at hP
  generalize fI (((ap a).drop i).take m)=q at hP
  repeat' (first|(apply aj;exact rfl;apply aH (o:=0) (off:=0);exact hr;exact rfl;exact rfl)|(apply aa;exact rfl;exact rfl;(intro w hm;exact hP w))|refine sT ?_|refine sT2 ?_|refine sN ?_|refine sM fun _=> ?_|(refine sC ?_ ?_<;>intro hb<;>try omega)|exact cT|fail)
  ·
   (refine eQ ?_)
   rw [if_pos hb];rfl
  ·
   (refine eQ ?_)
   rw [if_neg hb];rfl
theorem ko (a:ByteArray) (j:Nat):((ap a).drop j).headD 0=bat a j:=by
 rw [bat,List.headD_eq_head?_getD,List.head?_drop,Ni]
theorem wO (a:ByteArray) (ha:a.size≤100000) (j:Nat) (g:Nat) (w:World) (hr:Ro w g 0 [.string a]):
  ax Tryz.prog 283 [.pointer (some ⟨g,0,none⟩),.int .i64 (j:Int)] w (.int .u8 (bat a j)):=by
 refine aq Tryz.func283 rfl Tryz.ntmps283 rfl ?_
 have hl:=au a
 repeat' (first|(apply aj;exact rfl;apply aH (o:=0) (off:=0);exact hr;exact rfl;exact rfl)|refine sT ?_|refine sT2 ?_|refine sN ?_|refine sM fun _=> ?_|(refine sC ?_ ?_<;>intro hb<;>try omega)|exact cT|fail)
 ·
  (refine rT1 ?_)
  rfl
 ·
  (refine rT1 ?_)
  have e:bat a j=0:=by rw [bat,Ni,N9 (by omega)];rfl
  rw [e]
def upW (l:List Int):List Int:=(l.take (aB cB l)).map upC
theorem rq (l:List Int):(upW l).length=aB cB l:=by
 have:=bN cB l
 simp [upW];omega
theorem FL {l:List Int} (h:gk l):gk (upW l):=by
 intro c hc
 obtain ⟨d,hd,rfl⟩:=OM.1 hc
 have:=h d (NX hd)
 unfold upC
 split<;>omega
theorem yQ (a:ByteArray) (ha:a.size≤100000) (i:Nat) (hi:i≤a.size) (g:Nat) (w:World) (hr:Ro w g 0 [.string a]):
  ax Tryz.prog 282 [.pointer (some ⟨g,0,none⟩),.int .i64 (i:Int)] w (.string (mkB (upW ((ap a).drop i)))):=by
 refine aq Tryz.func282 rfl Tryz.ntmps282 rfl ?_
 have hl:=au a
 have hL:=pg a (by omega) i hi 312 cB Ep
 have hwl:=bN cB ((ap a).drop i)
 rw [M6] at hwl
 unfold upW
 generalize aB cB ((ap a).drop i)=n at hL hwl
 have hU:=oO (sub a i (i+n)) (by rw [bQ _ (by omega)];omega)
 have e:upB (sub a i (i+n))=mkB ((((ap a).drop i).take n).map upC):=by rw [upB,dE,show i+n - i=n by omega]
 rw [e] at hU
 repeat' (first|(apply aj;exact rfl;apply aH (o:=0) (off:=0);exact hr;exact rfl;exact rfl)|(apply aa;exact rfl;exact rfl;(intro w hm;exact hL w))|(apply aa;exact rfl;exact rfl;(intro w hm;exact hU w))|refine sT ?_|refine sT2 ?_|refine sN ?_|refine sM fun _=> ?_|(refine sC ?_ ?_<;>intro hb<;>try omega)|exact cT|fail)
 (refine rT1 ?_)
 rfl
def bZ:List Int→Option Nat
 | []=>none
 |c::r=>if c≠34 then (bZ r).map (· +1) else match r with
  | []=>some 0
  |d::r' =>if d=34 then (bZ r').map (· +2) else some 0
theorem jy {c:Int} {r:List Int} (h:c≠34):bZ (c::r)=(bZ r).map (· +1):=by rw [bZ.eq_def];simp [h]
def ll (l:List Int):Option (Tk × Nat):=
 if l.headD 0≠34 then none
 else match bZ (l.drop 1) with
  |none=>none
  |some k=>if (fp (l.take (k+2))).2≠0 then none else some (⟨2,0,mkB (fp (l.take (k+2))).1,aL,0⟩,k+2)
set_option maxHeartbeats 1000000 in
theorem Jr (a:ByteArray) (ha:a.size≤100000) (i:Nat) (hi:i<a.size) (g:Nat) (w:World) (hr:Ro w g 0 [.string a]):
  ax Tryz.prog 244 [.pointer (some ⟨g,0,none⟩),.int .i64 (i:Int)] w (AO (atT i (ll ((ap a).drop i)))):=by
 refine aq Tryz.func244 rfl Tryz.ntmps244 rfl ?_
 have hl:=au a
 unfold ll
 rw [ko,N8]
 by_cases h34:bat a i=34
 ·
  rw [if_neg (by omega)]
  have hcut: ∀ m,ap (sub a i (i+m))=((ap a).drop i).take m:=fun m=>by rw [dE,show i+m - i=m by omega]
  repeat' (first|(apply aj;exact rfl;apply aH (o:=0) (off:=0);exact hr;exact rfl;exact rfl)|refine sT ?_|refine sT2 ?_|refine sN ?_|refine sM fun _=> ?_|(refine sC ?_ ?_<;>intro hb<;>try omega)|exact cT|fail)
  all_goals try (exfalso;omega)
  rename_i g4
  generalize hC:bZ ((ap a).drop (i+1))=C
  refine ay [0,1,4,5] rfl (fun j:Nat=> [(6,.int .i64 (j:Int))]) (fun _=> [.box g4 295 (aX cK)]) (fun j=>i+1≤j∧j≤a.size∧C=(bZ ((ap a).drop j)).map (· +(j - (i+1)))) (fun j=>a.size - j) (i+1) ⟨by omega,by omega,by rw [hC];simp⟩ sB mS ?_
  rintro j ⟨hj1,hj2,hj3⟩
  by_cases hlt:j<a.size
  ·
   rw [aY hlt] at hj3
   by_cases hq:bat a j=34
   ·
    by_cases hn:j+1<a.size∧bat a (j+1)=34
    ·
     rw [aY hn.1,hq,hn.2] at hj3
     simp only [bZ,ne_eq,not_true_eq_false,if_false,if_true,Pv] at hj3
     have hn1:=hn.1
     repeat' (first|(apply aj;exact rfl;apply aH (o:=0) (off:=0);exact hr;exact rfl;exact rfl)|refine sT ?_|refine sT2 ?_|refine sN ?_|refine sM fun _=> ?_|(refine sC ?_ ?_<;>intro hb<;>try omega)|exact cT|fail)
     all_goals try (exfalso;omega)
     refine ⟨j+2,?_,(by first|omega|(dsimp only;omega)),sB,sB,mS⟩
     refine ⟨by omega,by omega,?_⟩
     rw [hj3,show j+1+1=j+2 by omega]
     congr 1
     funext k
     simp only [Function.comp]
     omega
    ·
     have hC0:C=some (j - (i+1)):=by
      rw [hj3,hq]
      by_cases h1:j+1<a.size
      ·
       rw [aY h1]
       have h2:bat a (j+1)≠34:=fun h=>hn ⟨h1,h⟩
       simp [bZ,h2]
      ·
       rw [Nn (i:=j+1) (by omega)]
       simp [bZ]
     rw [hC0]
     dsimp only
     have hm:j - (i+1)+2=j+1 - i:=by omega
     rw [hm]
     have hc:=hcut (j+1 - i)
     rw [show i+(j+1 - i)=j+1 by omega] at hc
     have hP:=Cj (sub a i (j+1)) (by rw [bQ _ (by omega)];omega)
     rw [hc] at hP
     generalize fp (((ap a).drop i).take (j+1 - i))=q at hP
     repeat' (first|(apply aj;exact rfl;apply aH (o:=0) (off:=0);exact hr;exact rfl;exact rfl)|(apply aa;exact rfl;exact rfl;(intro w hm;exact hP w))|refine sT ?_|refine sT2 ?_|refine sN ?_|refine sM fun _=> ?_|(refine sC ?_ ?_<;>intro hb<;>try omega)|exact cT|fail)
     all_goals first|(exfalso;omega)|((refine eQ ?_);first|(rw [if_pos hb];rfl)|(rw [if_neg hb];rfl))
   ·
    rw [jy hq,Pv] at hj3
    repeat' (first|(apply aj;exact rfl;apply aH (o:=0) (off:=0);exact hr;exact rfl;exact rfl)|refine sT ?_|refine sT2 ?_|refine sN ?_|refine sM fun _=> ?_|(refine sC ?_ ?_<;>intro hb<;>try omega)|exact cT|fail)
    all_goals try (exfalso;omega)
    refine ⟨j+1,?_,(by first|omega|(dsimp only;omega)),sB,sB,mS⟩
    refine ⟨by omega,by omega,?_⟩
    rw [hj3]
    congr 1
    funext k
    simp only [Function.comp]
    omega
  ·
   rw [Nn (by omega)] at hj3
   rw [hj3]
   dsimp only [bZ,Option.map]
   repeat' (first|(apply aj;exact rfl;apply aH (o:=0) (off:=0);exact hr;exact rfl;exact rfl)|refine sT ?_|refine sT2 ?_|refine sN ?_|refine sM fun _=> ?_|(refine sC ?_ ?_<;>intro hb<;>try omega)|exact cT|fail)
   all_goals try (exfalso;omega)
   (refine eQ ?_)
   rfl
 ·
  rw [if_pos (by omega)]
  repeat' (first|(apply aj;exact rfl;apply aH (o:=0) (off:=0);exact hr;exact rfl;exact rfl)|refine sT ?_|refine sT2 ?_|refine sN ?_|refine sM fun _=> ?_|(refine sC ?_ ?_<;>intro hb<;>try omega)|exact cT|fail)
  all_goals try (exfalso;omega)
  (refine eQ ?_)
  rfl
theorem JK {l m:List Int} (hl:gk l) (hm:gk m):mkB l=mkB m↔l=m:=⟨fun h=>by rw [← lO hl,← lO hm,h],fun h=>by rw [h]⟩
theorem mN (a b:ByteArray) (w:World):ax Tryz.prog 234 [.string a,.string b] w (.bool (decide ((ap a).take b.size=ap b))):=by
 refine aq Tryz.func234 rfl Tryz.ntmps234 rfl ?_
 have ha:=au a
 have hb' :=au b
 have e: ∀ h:b.size≤a.size,decide (sub a 0 b.size=b)=decide ((ap a).take b.size=ap b):=fun h=>by
  rw [decide_eq_decide,← qC]
  exact ⟨fun h=>by rw [h],fun h=>sr h⟩
 repeat' (first|refine sT ?_|refine sT2 ?_|refine sM fun _=> ?_|(refine sC ?_ ?_<;>intro hb<;>try omega)|fail)
 ·
  rw [e (by omega)]
  (refine rT1 ?_)
  rfl
 ·
  (refine rT1 ?_)
  rw [decide_eq_false]
  intro h
  have:=congrArg List.length h
  rw [Nj] at this
  omega
theorem wW (a b:ByteArray) (w:World):ax Tryz.prog 288 [.string a,.string b] w (.bool (decide ((ap a).take b.size=ap b))):=by
 refine aq Tryz.func288 rfl Tryz.ntmps288 rfl ?_
 repeat' (first|(apply aa;exact rfl;exact rfl;(intro w hm;exact mN a b w))|refine sT ?_|refine sM fun _=> ?_|(refine sC ?_ ?_<;>intro hb<;>try omega)|fail)
 (refine rT1 ?_)
 rfl
theorem sj (c:Int) (w:World):ax Tryz.prog 285 [.int .i64 c] w (.bool (decide (1≤c) && decide (c≤5))):=by
 refine aq Tryz.func285 rfl Tryz.ntmps285 rfl ?_
 repeat' (first|refine sT ?_|refine sM fun _=> ?_|(refine sC ?_ ?_<;>intro hb<;>try omega)|fail)
 all_goals ((refine rT1 ?_);simp_all<;>omega)
theorem w6 {k:Nat} (h1:1≤k) (h2:k≤5): ∃ s,dh.drop (k - 1)=s::dh.drop k∧bX.getD k av=mkB s∧gk s∧s.length≤10:=by
 rcases (by omega:k=1∨k=2∨k=3∨k=4∨k=5) with rfl|rfl|rfl|rfl|rfl<;>refine ⟨_,rfl,rfl,?_,by decide⟩<;>(intro c hc;simp at hc;omega)
theorem lH (l:List Int):(mkB l).size=l.length:=by simp [mkB,ByteArray.size]
def jw (l:List Int):Option (Tk × Nat):=(jk l dh 1).map fun x=>(⟨4,x.1,av,aL,0⟩,x.2)
set_option maxHeartbeats 1000000 in
theorem JW (a:ByteArray) (ha:a.size≤100000) (i:Nat) (hi:i≤a.size) (g:Nat) (w:World) (hr:Ro w g 0 [.string a]) (hW:Words w):
  ax Tryz.prog 246 [.pointer (some ⟨g,0,none⟩),.int .i64 (i:Int)] w (AO (atT i (jw ((ap a).drop i)))):=by
 refine aq Tryz.func246 rfl Tryz.ntmps246 rfl ?_
 have hl:=au a
 unfold jw
 generalize hF:jk ((ap a).drop i) dh 1=F
 repeat' (first|refine sT ?_|refine sT2 ?_|refine sM fun _=> ?_|(refine sC ?_ ?_<;>intro hb<;>try omega)|fail)
 rename_i g4
 refine ay [0,1,4,5] rfl (fun k:Nat=> [(6,.int .i64 (k:Int))]) (fun _=> [.box g4 295 (aX cK)]) (fun k=>1≤k∧k≤6∧F=jk ((ap a).drop i) (dh.drop (k - 1)) k) (fun k=>6 - k) 1 ⟨by omega,by omega,hF.symm⟩ sB mS ?_
 rintro k ⟨hk1,hk2,hk3⟩
 by_cases hk:k≤5
 ·
  obtain ⟨s,e1,e2,e3,e4⟩:=w6 hk1 hk
  have e5:fB (k:Int)=⟨4,(k:Int),av⟩:=by rw [fB,if_neg (by omega)]
  have hFa:=kR (k:Int)
  rw [e5] at hFa
  have hSh:=fun w' h=>Kf (k:Int) (by omega) (by omega) w' h
  rw [Om,e2] at hSh
  rw [e1,jk] at hk3
  have hlit:(decide (1≤(k:Int)) && decide ((k:Int)≤5))=true:=by simp;omega
  have hL:=sj (k:Int)
  rw [hlit] at hL
  have hms:=lH s
  have hcut:ap (sub a i (i+s.length))=((ap a).drop i).take s.length:=by rw [dE,show i+s.length - i=s.length by omega]
  have hU:=fun h=>oO (sub a i (i+s.length)) h
  have hdec:upB (sub a i (i+s.length))=mkB s↔(((ap a).drop i).take s.length).map upC=s:=by
   rw [upB,hcut,JK _ e3]
   rw [← hcut,← oo]
   exact kM _
  rw [← hms] at hU hdec hk3
  repeat' (first|(apply aj;exact rfl;apply aH (o:=0) (off:=0);exact hr;exact rfl;exact rfl)|(apply aa;exact rfl;exact rfl;(intro w hm;exact hL w))|(apply aa;exact rfl;exact rfl;(intro w hm;exact hFa w))|(apply aa;exact rfl;exact rfl;(intro w' hm;exact hSh w' (hW.next hm)))|(apply aa;exact rfl;exact rfl;(intro w hm;exact hU (by rw [bQ _ (by omega)];omega) w))|refine sT ?_|refine sT2 ?_|refine sN ?_|refine sM fun _=> ?_|(refine sC ?_ ?_<;>intro hb<;>try omega)|fail)
  ·
   (refine eQ ?_)
   rw [hk3,if_pos (hdec.1 hb)]
   rfl
  ·
   refine ⟨k+1,?_,(by first|omega|(dsimp only;omega)),sB,sB,mS⟩
   refine ⟨by omega,by omega,?_⟩
   rw [hk3,if_neg fun h=>hb (hdec.2 h)]
   rfl
  ·
   refine ⟨k+1,?_,(by first|omega|(dsimp only;omega)),sB,sB,mS⟩
   refine ⟨by omega,by omega,?_⟩
   rw [hk3,if_neg]
   ·
    rfl
   ·
    intro h
    have:=congrArg List.length h
    rw [NZ,Nj,M6] at this
    omega
 ·
  have e:k=6:=by omega
  subst e
  rw [show dh.drop (6 - 1)= [] from rfl,jk] at hk3
  rw [hk3]
  have hL:=sj 6
  rw [show (decide (1≤(6:Int)) && decide ((6:Int)≤5))=false from rfl] at hL
  repeat' (first|(apply aa;exact rfl;exact rfl;(intro w hm;exact hL w))|refine sT ?_|refine sT2 ?_|refine sM fun _=> ?_|(refine sC ?_ ?_<;>intro hb<;>try omega)|fail)
  all_goals try (exfalso;omega)
  (refine eQ ?_)
  rfl
def CY:List Value:=dX.map fun x=> .string (mkB x.1)
def CZ:List Value:=dX.map fun x=> .int .i64 x.2
theorem wM (w:World):aQ Tryz.prog 287 [] w fun v H=> ∃ g g',v= .tuple #[sl (some g) 13 13,sl (some g') 13 13]∧H= [.own (some g) 9 1 13 13 CY,.own (some g') 2 1 13 13 CZ]:=by
 refine aq Tryz.func287 rfl Tryz.ntmps287 rfl ?_
 repeat' (first|refine sT ?_|refine sM fun _=> ?_|(refine sC ?_ ?_<;>intro hb<;>try omega)|fail)
 rename_i g g'
 refine iA (.inl rfl) rfl rfl rfl (H' := [.own (some g) 9 1 13 13 CY,.own (some g') 2 1 13 13 CZ]) ?_ ⟨g,g',rfl,rfl⟩
 exact mS
theorem Ld {k:Nat} (h:k<13): ∃ s n,dX.drop k=(s,n)::dX.drop (k+1)∧CY[k]? =some (.string (mkB s))∧CZ[k]? =some (.int .i64 n)∧gk s∧s.length≤2:=by
 rcases (by omega:k=0∨k=1∨k=2∨k=3∨k=4∨k=5∨k=6∨k=7∨k=8∨k=9∨k=10∨k=11∨k=12) with rfl|rfl|rfl|rfl|rfl|rfl|rfl|rfl|rfl|rfl|rfl|rfl|rfl<;>refine ⟨_,_,rfl,rfl,rfl,?_,by decide⟩<;>(intro c hc;simp at hc;omega)
def gx (l:List Int):Option (Tk × Nat):=
 match opL l dX with
 |some (k,n)=>some (⟨8,k,av,aL,0⟩,n)
 |none=>if l.headD 0=40 then some (⟨9,0,av,aL,0⟩,1) else if l.headD 0=41 then some (⟨10,0,av,aL,0⟩,1) else if l.headD 0=44 then some (⟨11,0,av,aL,0⟩,1) else none
set_option maxHeartbeats 1000000 in
theorem Jt (a:ByteArray) (ha:a.size≤100000) (i:Nat) (hi:i<a.size) (g:Nat) (w:World) (hr:Ro w g 0 [.string a]):
  ax Tryz.prog 247 [.pointer (some ⟨g,0,none⟩),.int .i64 (i:Int)] w (AO (atT i (gx ((ap a).drop i)))):=by
 refine aq Tryz.func247 rfl Tryz.ntmps247 rfl ?_
 have hl:=au a
 unfold gx
 rw [ko]
 generalize hF:opL ((ap a).drop i) dX=F
 repeat' (first|(apply aC;exact rfl;exact rfl;(intro w' hm;exact wM w');(rintro v H' ⟨gs,gn,rfl,rfl⟩))|refine sT ?_|refine sT2 ?_|refine sM fun _=> ?_|(refine sC ?_ ?_<;>intro hb<;>try omega)|fail)
 rename_i g4
 refine ay [0,1,4,5,7,14,15] rfl (fun k:Nat=> [(16,.int .i64 (k:Int))]) (fun _=> [.box g4 295 (aX cK),.own (some gs) 9 1 13 13 CY,.own (some gn) 2 1 13 13 CZ]) (fun k=>k≤13∧F=opL ((ap a).drop i) (dX.drop k)) (fun k=>13 - k) 0 ⟨by omega,hF.symm⟩ sB mS ?_
 rintro k ⟨hk2,hk3⟩
 by_cases hk:k<13
 ·
  obtain ⟨s,m,e1,e2,e3,e4,e5⟩:=Ld hk
  rw [e1,opL] at hk3
  have hms:=lH s
  have hP:=wW (sub a i a.size) (mkB s)
  rw [mo,lO e4,hms] at hP
  repeat' (first|(apply aj;exact rfl;apply aH (o:=0) (off:=0);exact hr;exact rfl;exact rfl)|(apply aa;exact rfl;exact rfl;(intro w hm;exact hP w))|(apply aj;exact rfl;apply ak (j:=k);exact rfl;exact rfl;exact hk)|(apply aj;exact rfl;apply bT;exact rfl;exact pK;(rw [show 0+k*1=k by omega];first|exact e2|exact e3))|refine sT ?_|refine sT2 ?_|refine sN ?_|refine sM fun _=> ?_|(refine sC ?_ ?_<;>intro hb<;>try omega)|fail)
  ·
   (refine eQ ?_)
   rw [hk3,if_pos hb,hms]
   rfl
  ·
   refine ⟨k+1,?_,(by first|omega|(dsimp only;omega)),sB,sB,mS⟩
   exact ⟨hk,by rw [hk3,if_neg hb]⟩
 ·
  have e:k=13:=by omega
  subst e
  rw [show dX.drop 13= [] from rfl,opL] at hk3
  subst hk3
  repeat' (first|(apply aj;exact rfl;apply aH (o:=0) (off:=0);exact hr;exact rfl;exact rfl)|refine sT ?_|refine sT2 ?_|refine sN ?_|refine sM fun _=> ?_|(refine sC ?_ ?_<;>intro hb<;>try omega)|fail)
  all_goals try (exfalso;omega)
  all_goals
   (refine eQ ?_)
   simp_all
   try rfl
end Go.SL

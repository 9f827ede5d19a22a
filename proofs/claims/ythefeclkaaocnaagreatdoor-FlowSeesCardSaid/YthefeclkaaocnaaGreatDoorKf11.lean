/-
  Lemmas and walks, put together: A4 B1 B2 B3.
-/
import Derived.Test.YthefeclkaaocnaaGreatDoorKf10
set_option linter.unusedSimpArgs false
set_option linter.unusedVariables false
set_option maxRecDepth 20000
namespace Go.SL
open Go Go.Proofs
attribute [local irreducible] W WL WQ WG WA VOp thn blk bF scp ba FnAt FnIn
def cR:List ByteArray:= [⟨#[]⟩,⟨#[35,68,73,86,47,48,33]⟩,⟨#[35,86,65,76,85,69,33]⟩,⟨#[35,78,85,77,33]⟩,⟨#[35,78,47,65]⟩,⟨#[35,82,69,70,33]⟩,⟨#[35,67,89,67,76,69,33]⟩,⟨#[35,68,69,78,73,69,68]⟩]
def Words (w:World):Prop:=Ro w 0 0 (cR.map Value.string)
theorem Words.next {w0 w:World} {H:List Blk} (h:Words w0) (hm:Mem w0 w H):Words w:=Ro.next h hm
def gY (c:Int):Vl:=⟨4,if c<1∨7<c then 2 else c,az⟩
def x6 (n:Int):Vl:=if n= -9223372036854775808 then gY 3 else ⟨1,n,az⟩
def nk (b:Bool):Vl:=⟨2,if b then 1 else 0,az⟩
def oL:ByteArray:=⟨#[84,82,85,69]⟩
def lZ:ByteArray:=⟨#[70,65,76,83,69]⟩
def Ck (a:ByteArray):Vl:=if upB a=oL then nk true else if upB a=lZ then nk false else gY 2
theorem od (c:Int) (w:World):aD Tryz.prog 199 [.int .i64 c] w (.agg (dV (gY c)).toArray):=by
 refine ax Tryz.func199 rfl Tryz.ntmps199 rfl ?_
 repeat' (first|refine sT ?_|refine sM fun _=> ?_|(refine sC ?_ ?_<;>intro hb<;>try omega)|exact cT|fail)
 all_goals ((refine eRC ?_);simp only [gY];(first|rw [if_pos (by omega)]|rw [if_neg (by omega)]);rfl)
theorem Qr (n:Int) (w:World):aD Tryz.prog 202 [.int .i64 n] w (.agg (dV (x6 n)).toArray):=by
 refine ax Tryz.func202 rfl Tryz.ntmps202 rfl ?_
 repeat' (first|(apply aa;exact rfl;exact rfl;(intro w hm;exact od 3 w))|refine sT ?_|refine sM fun _=> ?_|(refine sC ?_ ?_<;>intro hb<;>try omega)|exact cT|fail)
 all_goals ((refine eRC ?_);simp_all [x6,dV,gY,az])
theorem OD (b:Bool) (w:World):aD Tryz.prog 276 [.bool b] w (.agg (dV (nk b)).toArray):=by
 refine ax Tryz.func276 rfl Tryz.ntmps276 rfl ?_
 repeat' (first|refine sT ?_|refine sM fun _=> ?_|(refine sC ?_ ?_<;>intro hb<;>try omega)|exact cT|fail)
 all_goals ((refine eRC ?_);simp_all [nk,dV,az])
theorem Nw (v:Vl) (ha:v.text.size≤1000000) (w:World):aD Tryz.prog 239 [.agg (dV v).toArray] w (.agg (dV (Ck v.text)).toArray):=by
 refine ax Tryz.func239 rfl Tryz.ntmps239 rfl ?_
 repeat' (first|(apply aa;exact rfl;exact rfl;(intro w hm;exact tL v.text ha w))|(apply aa;exact rfl;exact rfl;(intro w hm;exact OD _ w))|(apply aa;exact rfl;exact rfl;(intro w hm;exact od 2 w))|refine sT ?_|refine sM fun _=> ?_|(refine sC ?_ ?_<;>intro hb<;>try omega)|exact cT|fail)
 all_goals ((refine eRC ?_);simp_all [Ck,oL,lZ];rfl)
theorem Qo (c:Int) (h1:1≤c) (h2:c≤5) (w:World) (hw:Words w):aD Tryz.prog 286 [.agg (dV ⟨4,c,az⟩).toArray] w (.string (cR.getD c.toNat az)):=by
 refine ax Tryz.func286 rfl Tryz.ntmps286 rfl ?_
 have he:eqV ⟨4,c,az⟩ (gY 7)=false:=by simp [eqV,gY];omega
 have hv:ra ⟨4,c,az⟩=0:=by
  have h6:decide (c≤6)=true:=decide_eq_true (by omega)
  simp [ra,wY,h1,h6]
 have hc:=Ge ⟨4,c,az⟩
 rw [hv] at hc
 obtain ⟨k,rfl⟩: ∃ k:Nat,c=(k:Int):=⟨c.toNat,by omega⟩
 have hcell:(cR.map Value.string)[k*1]? =some (.string (cR.getD k az)):=by
  rcases (by omega:k=1∨k=2∨k=3∨k=4∨k=5) with rfl|rfl|rfl|rfl|rfl<;>rfl
 repeat' (first|(apply cY;exact rfl;exact rfl;(intro w hm;exact od 7 w))|(apply cY;exact rfl;exact rfl;(intro w hm;exact hc w))|(apply aO;exact rfl;exact he ▸ Gt (b:=gY 7) rfl rfl)|(apply ak;exact rfl;apply w9 (j:=k);exact rfl;exact rfl;omega)|(apply ak;exact rfl;apply aQ (o:=0);exact hw;exact rfl;exact hcell)|refine sT ?_|refine sQ ?_|refine sD ?_|refine sM fun _=> ?_|(refine sC ?_ ?_<;>intro hb<;>try omega)|(refine sCQ ?_ ?_<;>intro hb<;>try omega)|exact cT|fail)
 (refine rT1 ?_)
 rfl
instance:KLaw Tryz.prog 5 (fun z:Int=>Value.int .u8 z):=NM
theorem Bx {P:Program} {n:Fr} {w0:World} {Q:ck} {s:aB} {H:List Blk} {rest:List Oper} {ty:TypeId} {p:String} {af:Array Edge} {κ:Type} [DecidableEq κ] {enc:κ→Value} {t K E g clock:Nat} {m x kx:Operand} {k:κ} {v:Value} {es:List (κ × Value × Nat)} {es' :List (κ × Value × Nat)} {c' :Nat} {R:List Blk} {ops:Array Oper} [ht:Und P t (.map K E)] [hk:KLaw P K enc] (hm:ev s m=some (.map (some g))) (hkx:ev s kx=some (enc k)) (hx:ev s x=some v) (hsel:Sel (.obj g (aU enc es clock)) H R)
  (he:iA k v clock es=(es',c')) (h:WL P n w0 ops rest Q s (.obj g (aU enc es' c')::R)):WL P n w0 ops (⟨none,.insert t m kx x,ty,p,af,none⟩::rest) Q s H:=by
 refine zB hm hkx hx hsel ?_
 rw [he];exact h
theorem NK {κ:Type} [DecidableEq κ] {k:κ} {v:Value} {clock:Nat} {es:List (κ × Value × Nat)} (h:bJ k es 0=none):iA k v clock es=(es++ [(k,v,clock)],clock+1):=by
 simp [iA,h]
def JT (v:Vl):List (Int × Value × Nat):=
 [(0,.func (.func 237) #[.agg (dV v).toArray] #[],0),(1,.func (.func 237) #[.agg (dV v).toArray] #[],1),(2,.func (.func 238) #[.agg (dV v).toArray] #[],2),(3,.func (.func 239) #[.agg (dV v).toArray] #[],3),(4,.func (.func 238) #[.agg (dV v).toArray] #[],4)]
theorem GI (v:Vl) (w:World):FnAt Tryz.prog 236 [.agg (dV v).toArray] w fun u H=> ∃ g,u= .map (some g)∧H= [.obj g (aU (fun z:Int=>Value.int .u8 z) (JT v) 5)]:=by
 refine ax Tryz.func236 rfl Tryz.ntmps236 rfl ?_
 repeat' (first|(apply fS (enc:=fun z:Int=>Value.int .u8 z);exact rfl;intro g)|(apply ak;exact rfl;apply m8;exact rfl)|(apply Bx (enc:=fun z:Int=>Value.int .u8 z);(iterate 3 exact rfl);exact pK;exact NK rfl)|refine sT ?_|refine sM fun _=> ?_|(refine sC ?_ ?_<;>intro hb<;>try omega)|exact cT|fail)
 exact cA (H' := [.obj g (aU (fun z:Int=>Value.int .u8 z) (JT v) 5)]) (.inl rfl) rfl rfl (.pick .hd (.nil _)) ⟨g,rfl,rfl⟩
def jv (v:Vl):Vl:=if ra v=0 then Ck v.text else gY 2
set_option maxHeartbeats 1000000 in
theorem FD (v:Vl) (hk:v.kind=3) (ha:v.text.size≤1000000) (w:World):aD Tryz.prog 235 [.agg (dV v).toArray,.func (.func 236) #[] #[]] w (.agg (dV (jv v)).toArray):=by
 refine ax Tryz.func235 rfl Tryz.ntmps235 rfl ?_
 obtain ⟨k,num,text⟩:=v
 dsimp only at hk ha
 subst hk
 have hv:=Ge ⟨3,num,text⟩
 have hn:=Nw ⟨3,num,text⟩ ha
 repeat' (first|refine sT ?_|refine sM fun _=> ?_|(refine sC ?_ ?_<;>intro hb<;>try omega)|exact cT|fail)
 rename_i g2 g4
 refine qZ (id:=1) (ι:=Unit) (fun _=> [(5,.func (.func 239) #[.agg (dV ⟨3,num,text⟩).toArray] #[]),(6,.bool true),(2,.pointer (some ⟨g2,0,none⟩)),(4,.pointer (some ⟨g4,0,none⟩))]) (fun _=> [.box g2 172 (dV ⟨3,num,text⟩),.box g4 172 (dV bV)]) (fun _=>True) ?_ ?_
 ·
  refine j5 11 rfl (by kernel_rfl) ?_
  ((with_reducible apply aV (i:=0));exact rfl;exact rfl;decide+kernel;decide+kernel;decide+kernel;exact nP;(intro _ _;exact vP))
  ((with_reducible apply aV (i:=3));exact rfl;exact rfl;decide+kernel;decide+kernel;decide+kernel;exact nP;(intro _ _;exact vP))
  repeat' (first|(apply dm (i:=1) (j:=4);exact rfl;exact rfl;decide+kernel)|(apply dm (i:=2) (j:=4);exact rfl;exact rfl;decide+kernel)|(apply aL (i:=1);exact rfl;decide+kernel)|(apply aL (i:=2);exact rfl;decide+kernel)|(apply aL (i:=4);exact rfl;decide+kernel)|(apply aL (i:=5);exact rfl;decide+kernel)|(apply aV (i:=6);exact rfl;exact rfl;decide+kernel;decide+kernel;decide+kernel;exact nP;(intro _ _;exact vP))|(apply aV (i:=7);exact rfl;exact rfl;decide+kernel;decide+kernel;decide+kernel;exact nP;(intro _ _;exact vP))|(apply aV (i:=8);exact rfl;exact rfl;decide+kernel;decide+kernel;decide+kernel;exact nP;(intro _ _;exact vP))|(apply aV (i:=9);exact rfl;exact rfl;decide+kernel;decide+kernel;decide+kernel;exact nP;(intro _ _;exact vP))|(apply aV (i:=10);exact rfl;exact rfl;decide+kernel;decide+kernel;decide+kernel;exact nP;(intro _ _;exact vP))|(apply j0;decide+kernel)|(apply ma;exact rfl;exact rfl;infer_instance;exact rfl;exact FnIn.of_at (fun w' _=>GI ⟨3,num,text⟩ w');(rintro _ _ ⟨H1,⟨g5,rfl,rfl⟩,rfl⟩))|(apply ak;exact rfl;apply fV (enc:=fun z:Int=>Value.int .u8 z);exact rfl;exact rfl;exact pK;exact rfl)|refine sT ?_|refine sM fun _=> ?_|(refine sC ?_ ?_<;>intro hb<;>try omega)|exact cT|fail)
  all_goals ((apply cO;rotate_left 1;exact sB;exact mS);trivial)
 ·
  rintro _ -
  simp only [jv]
  generalize ra ⟨3,num,text⟩=e at hv
  repeat' (first|(apply aa;exact rfl;exact rfl;(intro w hm;exact hv w))|(apply aa;exact rfl;exact rfl;(intro w hm;exact od 2 w))|(apply tQ;exact rfl;exact rfl;infer_instance;exact rfl;(intro w' _;exact hn w'))|refine sT ?_|refine sM fun _=> ?_|(refine sC ?_ ?_<;>intro hb<;>try omega)|exact cT|fail)
  all_goals
   (refine eRC ?_)
   simp_all
   rfl
theorem LS (v:Vl) (hk:v.kind=3) (ha:v.text.size≤1000000) (w:World):aD Tryz.prog 196 [.agg (dV v).toArray] w (.agg (dV (jv v)).toArray):=by
 refine ax Tryz.func196 rfl Tryz.ntmps196 rfl ?_
 repeat' (first|(apply aa;exact rfl;exact rfl;(intro w hm;exact FD v hk ha w))|refine sT ?_|refine sM fun _=> ?_|(refine sC ?_ ?_<;>intro hb<;>try omega)|exact cT|fail)
 (refine eRC ?_)
 rfl
def jM (u:ByteArray):List ByteArray→Int→Int × Int
 | [],_=>(0,4)
 |x::r,i=>if x=u then (i,0) else jM u r (i+1)
def jb (a:ByteArray):Int × Int:=jM (upB a) (cR.drop 1) 1
theorem F7 {i:Nat} (h:i<8):(cR.map Value.string)[i]? =some (.string (cR.getD i az)):=by
 rcases (by omega:i=0∨i=1∨i=2∨i=3∨i=4∨i=5∨i=6∨i=7) with rfl|rfl|rfl|rfl|rfl|rfl|rfl|rfl<;>rfl
theorem uU {i:Nat} (h:i<8):cR.drop i=cR.getD i az::cR.drop (i+1):=by
 rcases (by omega:i=0∨i=1∨i=2∨i=3∨i=4∨i=5∨i=6∨i=7) with rfl|rfl|rfl|rfl|rfl|rfl|rfl|rfl<;>rfl
theorem Qt (a:ByteArray) (ha:a.size≤1000000) (w:World) (hw:Words w):aD Tryz.prog 198 [.string a] w (.tuple #[.int .i64 (jb a).1,.int .i64 (jb a).2]):=by
 refine ax Tryz.func198 rfl Tryz.ntmps198 rfl ?_
 have hload:(((cR.map Value.string).drop 0).take 8)=cR.map Value.string:=rfl
 have hU:=tL a ha
 generalize hu:upB a=u at hU
 repeat' (first|(apply aa;exact rfl;exact rfl;(intro w hm;exact hU w))|(apply ak;exact rfl;apply dC (o:=0) (off:=0);exact hw;exact rfl;exact hload;exact rfl)|refine sT ?_|refine sT2 ?_|refine sM fun _=> ?_|(refine sC ?_ ?_<;>intro hb<;>try omega)|exact cT|fail)
 refine ay [0,8] rfl (fun i:Nat=> [(9,.int .i64 (i:Int))]) (fun _=> []) (fun i=>i≤8∧jb a=jM u (cR.drop (max i 1)) (max i 1:Nat)) (fun i=>8 - i) 0 ⟨by omega,by rw [jb,hu];rfl⟩ sB mS ?_
 rintro i ⟨hi,hr⟩
 by_cases hlt:i<8
 ·
  have hx:=F7 hlt
  have hd:=uU hlt
  generalize cR.getD i az=x at hx hd
  repeat' (first|(apply ak;exact rfl;apply oI;exact rfl;exact rfl;exact hlt;exact hx)|refine sT ?_|refine sT2 ?_|refine sN ?_|refine sM fun _=> ?_|(refine sC ?_ ?_<;>intro hb<;>try omega)|exact cT|fail)
  ·
   rename_i h0
   rw [show max i 1=i by omega,hd,jM,if_pos hb] at hr
   rw [hr]
   (refine rT2 ?_)
   rfl
  ·
   rename_i h0
   rw [show max i 1=i by omega,hd,jM,if_neg hb] at hr
   refine ⟨i+1,?_,(by first|omega|(dsimp only;omega)),sB,sB,mS⟩
   refine ⟨hlt,?_⟩
   rw [hr,show max (i+1) 1=i+1 by omega]
   rfl
  ·
   have h0:i=0:=by omega
   subst h0
   refine ⟨0+1,?_,(by first|omega|(dsimp only;omega)),sB,sB,mS⟩
   exact ⟨by omega,hr⟩
 ·
  have e:i=8:=by omega
  subst e
  rw [hr]
  repeat' (first|refine sT ?_|refine sT2 ?_|refine sM fun _=> ?_|(refine sC ?_ ?_<;>intro hb<;>try omega)|exact cT|fail)
  all_goals first|(exfalso;omega)|((refine rT2 ?_);rfl)
end Go.SL
namespace Go.SL
open Go Go.Proofs
attribute [local irreducible] W WL WQ WG WA WX WLI WR WT VOp thn blk bF scp ba bC FnAt FnIn
theorem lL (c:Int) (w:World):aD Tryz.prog 279 [.int .u8 c] w (.bool (aJ c)):=by
 refine ax Tryz.func279 rfl Tryz.ntmps279 rfl ?_
 repeat' (first|refine sT ?_|refine sM fun _=> ?_|(refine sC ?_ ?_<;>intro hb<;>try omega)|fail)
 all_goals ((refine rT1 ?_);((try simp only [← Int.not_lt] at*);simp_all [aJ, -Int.not_lt, -Int.not_le,← Int.not_lt]))
theorem s8 (c:Int) (w:World):aD Tryz.prog 281 [.int .u8 c] w (.bool (cy c)):=by
 refine ax Tryz.func281 rfl Tryz.ntmps281 rfl ?_
 repeat' (first|refine sT ?_|refine sM fun _=> ?_|(refine sC ?_ ?_<;>intro hb<;>try omega)|fail)
 all_goals ((refine rT1 ?_);(try simp only [← Int.not_lt] at*);simp_all [cy, -Int.not_lt, -Int.not_le,← Int.not_lt];try omega)
theorem KY (c:Int) (w:World):aD Tryz.prog 312 [.int .u8 c] w (.bool (dh c)):=by
 refine ax Tryz.func312 rfl Tryz.ntmps312 rfl ?_
 repeat' (first|(apply aa;exact rfl;exact rfl;(intro w hm;exact s8 c w))|(apply aa;exact rfl;exact rfl;(intro w hm;exact lL c w))|refine sT ?_|refine sM fun _=> ?_|(refine sC ?_ ?_<;>intro hb<;>try omega)|fail)
 all_goals ((refine rT1 ?_);simp_all [dh])
def jm (p:Int→Bool) (l:List Int):List Int:=l.take (aG p l)
theorem EF {p:Int→Bool} {c:Int} {r:List Int} (h:p c=true):jm p (c::r)=c::jm p r:=by simp [jm,aG,h]
theorem EE {p:Int→Bool} {c:Int} {r:List Int} (h:p c=false):jm p (c::r)= []:=by simp [jm,aG,h]
theorem zo (p:Int→Bool) (l:List Int):(jm p l).length=aG p l:=by
 simp [jm,Vn (cB p l)]
set_option maxHeartbeats 1000000 in
theorem KL (a:ByteArray) (ha:a.size≤1000000) (i0:Nat) (hi0:i0≤a.size) (fis:FuncId) [Callable Tryz.prog fis] (p:Int→Bool) (hf: ∀ c w,aD Tryz.prog fis [.int .u8 c] w (.bool (p c))) (w0:World) (g4 g3 g5:Nat):
  Seqs Tryz.prog 330 [.pointer (some ⟨g4,0,none⟩),.pointer (some ⟨g3,0,none⟩),.pointer (some ⟨g5,0,none⟩)] w0 [.box g4 3 [.int .i64 (i0:Int)],.box g3 9 [.string a],.box g5 248 [.func (.func fis) #[] #[]]] (jm p ((ap a).drop i0)) (fun c=> [.int .u8 c]):=by
 intro l I J H0 hy h0
 refine FnIn.msub (H' := [.box g4 3 [.int .i64 (i0:Int)],.box g3 9 [.string a],.box g5 248 [.func (.func fis) #[] #[]]]++H0) ?_ MSub.swap
 refine cF Tryz.func330 rfl Tryz.ntmps330 rfl ?_
 repeat' (first|refine sT ?_|refine sT2 ?_|refine sM fun _=> ?_|(refine sC ?_ ?_<;>intro hb<;>try omega)|fail)
 refine jf (fun y:Nat × List Int × List Blk=> [(0,.func (.yield l) #[] #[]),(1,.pointer (some ⟨g4,0,none⟩)),(2,.pointer (some ⟨g3,0,none⟩)),(3,.pointer (some ⟨g5,0,none⟩)),(5,.int .i64 (y.1:Int))])
  (fun y=> [.box g4 3 [.int .i64 (i0:Int)],.box g3 9 [.string a],.box g5 248 [.func (.func fis) #[] #[]]]++y.2.2)
  (fun y=>y.1≤a.size∧jm p ((ap a).drop i0)=y.2.1++jm p ((ap a).drop y.1)∧I y.2.1 y.2.2) (fun y=>a.size - y.1) (i0,[],H0) ⟨hi0,rfl,h0⟩ sB (MSub.refl _) ?_
 rintro ⟨i,pre,H1⟩ ⟨hi,hus,hI⟩
 dsimp only at hi hus hI ⊢
 by_cases hlt:i<a.size
 ·
  rw [bz hlt] at hus
  have hfc:=fun w=>hf (bat a i) w
  cases hp:p (bat a i)
  ·
   rw [hp] at hfc
   rw [EE hp,TR] at hus
   repeat' (first|(apply jc;exact rfl;exact rfl;infer_instance;exact rfl;(intro w' _;exact hfc w'))|refine sT ?_|refine sI ?_|refine sQ ?_|refine sT2 ?_|refine sQ2 ?_|refine sN ?_|refine sNQ ?_|refine sD ?_|refine sM fun _=> ?_|(refine sC ?_ ?_<;>intro hb<;>try omega)|(refine sCQ ?_ ?_<;>intro hb<;>try omega)|fail)
   exact fL (.inr rfl) rfl (.refl _) ⟨H1,.inl (hus ▸ hI),MSub.swap⟩
  ·
   rw [hp] at hfc
   rw [EF hp] at hus
   repeat' (first|(apply jc;exact rfl;exact rfl;infer_instance;exact rfl;(intro w' _;exact hfc w'))|(apply je (id:=3))|(apply IZ;exact rfl;exact rfl;apply bh;exact rfl;exact rfl;exact hlt)|refine sT ?_|refine sI ?_|refine sQ ?_|refine sT2 ?_|refine sQ2 ?_|refine sN ?_|refine sNQ ?_|refine sD ?_|refine sM fun _=> ?_|(refine sC ?_ ?_<;>intro hb<;>try omega)|(refine sCQ ?_ ?_<;>intro hb<;>try omega)|fail)
   (with_reducible apply il)
   ·
    exact rfl
   ·
    exact rfl
   ·
    exact rfl
   ·
    exact MSub.swapN
   ·
    exact fun w hm=>hy pre (bat a i) _ hus H1 [] hI w hm
   intro bb H2 hq
   cases bb
   ·
    repeat' (first|refine sT ?_|refine sI ?_|refine sT2 ?_|refine sM fun _=> ?_|(refine sC ?_ ?_<;>intro hb<;>try omega)|fail)
    exact fL eIO rfl (.refl _) ⟨H2,.inr ⟨_,hq⟩,by rw [TR];exact .refl _⟩
   ·
    repeat' (first|refine sT ?_|refine sI ?_|refine sT2 ?_|refine sN ?_|refine sM fun _=> ?_|(refine sC ?_ ?_<;>intro hb<;>try omega)|fail)
    refine ⟨(i+1,_,H2),⟨hlt,hus.trans (by rw [List.append_assoc];rfl),hq⟩,(by dsimp only;omega),sB,?_⟩
    exact MSub.swapN'
 ·
  have e:i=a.size:=by omega
  subst e
  have hl:=aw a
  rw [Uk (i:=a.size) (by omega),show jm p []= [] from rfl,TR] at hus
  repeat' (first|refine sT ?_|refine sI ?_|refine sQ ?_|refine sT2 ?_|refine sQ2 ?_|refine sN ?_|refine sNQ ?_|refine sD ?_|refine sM fun _=> ?_|(refine sC ?_ ?_<;>intro hb<;>try omega)|(refine sCQ ?_ ?_<;>intro hb<;>try omega)|fail)
  exact fL (.inr rfl) rfl (.refl _) ⟨H1,.inl (hus ▸ hI),MSub.swap⟩
theorem M5 (a:ByteArray) (i0:Nat) (fis:FuncId) (w:World):
  FnAt Tryz.prog 311 [.string a,.int .i64 (i0:Int),.func (.func fis) #[] #[]] w fun v H=> ∃ g4 g3 g5,v= .func (.func 330) #[] #[.pointer (some ⟨g4,0,none⟩),.pointer (some ⟨g3,0,none⟩),.pointer (some ⟨g5,0,none⟩)]∧H= [.box g4 3 [.int .i64 (i0:Int)],.box g3 9 [.string a],.box g5 248 [.func (.func fis) #[] #[]]]:=by
 refine ax Tryz.func311 rfl Tryz.ntmps311 rfl ?_
 repeat' (first|refine sT ?_|refine sM fun _=> ?_|(refine sC ?_ ?_<;>intro hb<;>try omega)|fail)
 rename_i g3 g4 g5
 exact cA (.inl rfl) rfl rfl (H' := [.box g4 3 [.int .i64 (i0:Int)],.box g3 9 [.string a],.box g5 248 [.func (.func fis) #[] #[]]]) mS ⟨g4,g3,g5,rfl,rfl⟩
set_option maxHeartbeats 1000000 in
theorem um (a:ByteArray) (ha:a.size≤1000000) (i0:Nat) (hi0:i0≤a.size) (fis:FuncId) [Callable Tryz.prog fis] (p:Int→Bool) (hf: ∀ c w,aD Tryz.prog fis [.int .u8 c] w (.bool (p c))) (w:World):
  aD Tryz.prog 278 [.string a,.int .i64 (i0:Int),.func (.func fis) #[] #[]] w (.int .i64 (aG p ((ap a).drop i0):Int)):=by
 refine pL Tryz.func278 rfl Tryz.ntmps278 (by rfl) ?_
 refine oz ?_
 repeat' (first|(apply aF;exact rfl;exact rfl;(intro w' hm;exact M5 a i0 fis w');(rintro v H' ⟨g4,g3,g5,rfl,rfl⟩))|refine sT ?_|refine sR ?_|refine sM fun _=> ?_|(refine sC ?_ ?_<;>intro hb<;>try omega)|(refine sCR ?_ ?_<;>intro hb<;>try omega)|fail)
 rename_i gn
 have hpl:=zo p ((ap a).drop i0)
 have hll:=aw a
 have hrl:=cB p ((ap a).drop i0)
 rw [Ug] at hrl
 rw [← hpl]
 refine rO (ps:= [12]) (us:=jm p ((ap a).drop i0)) (encs:=fun c=> [.int .u8 c]) (Hc:= [.box g4 3 [.int .i64 (i0:Int)],.box g3 9 [.string a],.box g5 248 [.func (.func fis) #[] #[]]]) (HU0:= [.box gn 3 [.int .i64 0]]) rfl (fun _=>rfl) rfl (KL a ha i0 hi0 fis p hf w g4 g3 g5)
  (fun pre HU=>HU= [.box gn 3 [.int .i64 (pre.length:Int)]]) (fun _=>False) MSub.swap rfl ?_ ?_ ?_
 ·
  rintro l pre u post hus _ rfl F F'
  have hlu:=congrArg List.length hus
  simp only [TG,TZ] at hlu
  change WR _ _ _ l _ _ ((12,Value.int .u8 u)::_) (.box gn 3 [.int .i64 (pre.length:Int)]::F)
  repeat' (first|refine sT ?_|refine sR ?_|refine sM fun _=> ?_|(refine sC ?_ ?_<;>intro hb<;>try omega)|(refine sCR ?_ ?_<;>intro hb<;>try omega)|fail)
  refine pU ⟨[.box gn 3 [.int .i64 (pre.length:Int)]],MSub.refl _,?_⟩
  change WR _ _ _ l _ _ _ (.box gn 3 [.int .i64 (pre.length:Int)]::F')
  repeat' (first|refine sT ?_|refine sR ?_|refine sN ?_|refine sM fun _=> ?_|(refine sC ?_ ?_<;>intro hb<;>try omega)|(refine sCR ?_ ?_<;>intro hb<;>try omega)|fail)
  refine lz [.box gn 3 [.int .i64 ((pre.length+1:Nat):Int)]] ?_ (by rw [TG];rfl)
  change MSub (_::F') _
  exact mS
 ·
  rintro D _ rfl
  change bC _ _ _ _ _ (dH D:: .box gn 3 [.int .i64 ((jm p ((ap a).drop i0)).length:Int)]::_)
  repeat' (first|refine sT ?_|refine sR ?_|refine sM fun _=> ?_|(refine sC ?_ ?_<;>intro hb<;>try omega)|(refine sCR ?_ ?_<;>intro hb<;>try omega)|fail)
  refine pP .hd ?_
  exact cA (.inl rfl) rfl rfl (MSub.nil _) rfl
 ·
  rintro D HU h
  exact h.elim
def GH:Option (Tk × Nat)→Value
 |some (t,n)=> .tuple #[.agg (bw t).toArray,.int .i64 (n:Int)]
 |none=> .tuple #[.agg (bw dB).toArray,.int .i64 0]
def atT (i:Nat) (o:Option (Tk × Nat)):Option (Tk × Nat):=o.map fun x=>({ x.1 with at_:=(i:Int) },x.2)
def gG (l:List Int):Option (Tk × Nat):=
 let w:=aG aJ l
 let p:=cC (l.drop w)
 let n:=if p=0 then w else w+1+p
 if w=0∨4<p then none
 else if (iB (l.take n)).2≠0 then none else some (⟨1,(iB (l.take n)).1,az,aS,0⟩,n)
theorem o4 {c:Int} {r:List Int} (h:c=46):cC (c::r)=aG aJ r:=by subst h;rfl
theorem nC {c:Int} {r:List Int} (h:c≠46):cC (c::r)=0:=by
 unfold cC
 split
 ·
  rename_i heq;injection heq with h1 h2;exact absurd h1 h
 ·
  rfl
set_option maxHeartbeats 1000000 in
theorem KU (a:ByteArray) (ha:a.size≤100000) (i:Nat) (hi:i≤a.size) (g:Nat) (w:World) (hr:Ro w g 0 [.string a]):
  aD Tryz.prog 243 [.pointer (some ⟨g,0,none⟩),.int .i64 (i:Int)] w (GH (atT i (gG ((ap a).drop i)))):=by
 refine ax Tryz.func243 rfl Tryz.ntmps243 rfl ?_
 have hl:=aw a
 have hL1:=um a (by omega) i hi 279 aJ lL
 have hwl:=cB aJ ((ap a).drop i)
 rw [Ug] at hwl
 generalize hw:aG aJ ((ap a).drop i)=n at hL1 hwl
 generalize hpd:cC ((ap a).drop (i+n))=p
 have hN:gG ((ap a).drop i)=if n=0∨4<p then none else if (iB (((ap a).drop i).take (if p=0 then n else n+1+p))).2≠0 then none else some (⟨1,(iB (((ap a).drop i).take (if p=0 then n else n+1+p))).1,az,aS,0⟩,if p=0 then n else n+1+p):=by
  simp only [gG,hw,U0,hpd]
 rw [hN]
 have hL2:=fun h=>um a (by omega) (i+n+1) h 279 aJ lL
 have hcut: ∀ m,ap (sub a i (i+m))=((ap a).drop i).take m:=fun m=>by rw [fg,show i+m - i=m by omega]
 have hple:p≤a.size - (i+n) - 1:=by
  rw [← hpd]
  by_cases h:i+n<a.size
  ·
   rw [bz h]
   by_cases h46:bat a (i+n)=46
   ·
    rw [o4 h46]
    have:=cB aJ ((ap a).drop (i+n+1))
    rw [Ug] at this
    omega
   ·
    rw [nC h46];omega
  ·
   rw [Uk (by omega)];simp [cC]
 have hend: ∀ h:i+n+1<a.size,bat a (i+n)=46→(p=aG aJ ((ap a).drop (i+n+1))):=fun h h46=>by
  rw [← hpd,bz (by omega),o4 h46]
 have hno: ¬ (i+n+1<a.size∧bat a (i+n)=46∧aJ (bat a (i+n+1))=true)→p=0:=fun h=>by
  by_cases h1:i+n<a.size
  ·
   by_cases h46:bat a (i+n)=46
   ·
    by_cases h2:i+n+1<a.size
    ·
     rw [hend h2 h46,bz h2,aG,if_neg fun h3=>h ⟨h2,h46,h3⟩]
    ·
     rw [← hpd,bz h1,o4 h46,Uk (by omega)];rfl
   ·
    rw [← hpd,bz h1,nC h46]
  ·
   rw [← hpd,Uk (by omega)];rfl
 have hyes:i+n+1<a.size→bat a (i+n)=46→aJ (bat a (i+n+1))=true→0<p:=fun h h46 h3=>by
  rw [hend h h46,bz h,aG,if_pos h3];omega
 repeat' (first|(apply ak;exact rfl;apply aQ (o:=0) (off:=0);exact hr;exact rfl;exact rfl)|(apply aa;exact rfl;exact rfl;(intro w hm;exact hL1 w))|(apply aa;exact rfl;exact rfl;(intro w hm;exact lL _ w))|(refine I8 (id:=7) [0,1,4] rfl (ι:=Nat × Nat) (fun x=> [(7,.int .i64 (x.1:Int)),(5,.int .i64 (x.2:Int))]) (fun x=>x.1=p∧x.2=if p=0 then n else n+1+p) ?_ ?_)|(apply aa;exact rfl;exact rfl;(intro w hm;exact hL2 (by omega) w))|refine sT ?_|refine sT2 ?_|refine sN ?_|refine sM fun _=> ?_|(refine sC ?_ ?_<;>intro hb<;>try omega)|exact cT|fail)
 ·
  (refine jU ?_)
  rw [if_pos (.inl (by omega))];rfl
 ·
  rename_i h1 h2 h3
  refine cO ((aG aJ ((ap a).drop (i+n+1)),n+(1+aG aJ ((ap a).drop (i+n+1))))) ?_ sB mS
  have h5:=hyes (by omega) h3 hb
  have h6:=hend (by omega) h3
  rw [← h6]
  exact ⟨rfl,by rw [if_neg (by omega)];omega⟩
 ·
  rename_i h1 h2 h3
  refine cO ((0,n)) ?_ sB mS
  have:=hno fun h=>by rw [hb] at h;cases h.2.2
  exact ⟨this.symm,by rw [if_pos this]⟩
 ·
  refine cO ((0,n)) ?_ sB mS
  have:=hno fun h=>hb h.2.1
  exact ⟨this.symm,by rw [if_pos this]⟩
 ·
  refine cO ((0,n)) ?_ sB mS
  have:=hno fun h=>by omega
  exact ⟨this.symm,by rw [if_pos this]⟩
 rintro ⟨p',m⟩ ⟨rfl,hm⟩
 have hn0:n≠0:=by omega
 dsimp only at hm ⊢
 rw [← hm]
 by_cases h4:4<p'
 ·
  rw [if_pos (.inr h4)]
  repeat' (first|refine sT ?_|refine sT2 ?_|refine sM fun _=> ?_|(refine sC ?_ ?_<;>intro hb<;>try omega)|exact cT|fail)
  all_goals first|(exfalso;omega)|((refine jU ?_);rfl)
 ·
  rw [if_neg (by omega)]
  have him:i+m≤a.size:=by rw [hm];split<;>omega
  have hP:=vL (sub a i (i+m)) (by rw [cI _ him];omega)
  rw [hcut m] at hP
  generalize iB (((ap a).drop i).take m)=q at hP
  repeat' (first|(apply ak;exact rfl;apply aQ (o:=0) (off:=0);exact hr;exact rfl;exact rfl)|(apply aa;exact rfl;exact rfl;(intro w hm;exact hP w))|refine sT ?_|refine sT2 ?_|refine sN ?_|refine sM fun _=> ?_|(refine sC ?_ ?_<;>intro hb<;>try omega)|exact cT|fail)
  ·
   (refine jU ?_)
   rw [if_pos hb];rfl
  ·
   (refine jU ?_)
   rw [if_neg hb];rfl
theorem mM (a:ByteArray) (j:Nat):((ap a).drop j).headD 0=bat a j:=by
 rw [bat,List.headD_eq_head?_getD,List.head?_drop,Ui]
theorem Ci (a:ByteArray) (ha:a.size≤100000) (j:Nat) (g:Nat) (w:World) (hr:Ro w g 0 [.string a]):
  aD Tryz.prog 283 [.pointer (some ⟨g,0,none⟩),.int .i64 (j:Int)] w (.int .u8 (bat a j)):=by
 refine ax Tryz.func283 rfl Tryz.ntmps283 rfl ?_
 have hl:=aw a
 repeat' (first|(apply ak;exact rfl;apply aQ (o:=0) (off:=0);exact hr;exact rfl;exact rfl)|refine sT ?_|refine sT2 ?_|refine sN ?_|refine sM fun _=> ?_|(refine sC ?_ ?_<;>intro hb<;>try omega)|exact cT|fail)
 ·
  (refine rT1 ?_)
  rfl
 ·
  (refine rT1 ?_)
  have e:bat a j=0:=by rw [bat,Ui,UN (by omega)];rfl
  rw [e]
def upW (l:List Int):List Int:=(l.take (aG dh l)).map upC
theorem xg (l:List Int):(upW l).length=aG dh l:=by
 have:=cB dh l
 simp [upW];omega
theorem MA {l:List Int} (h:iU l):iU (upW l):=by
 intro c hc
 obtain ⟨d,hd,rfl⟩:=Ul.1 hc
 have:=h d (U1 hd)
 unfold upC
 split<;>omega
theorem ED (a:ByteArray) (ha:a.size≤100000) (i:Nat) (hi:i≤a.size) (g:Nat) (w:World) (hr:Ro w g 0 [.string a]):
  aD Tryz.prog 282 [.pointer (some ⟨g,0,none⟩),.int .i64 (i:Int)] w (.string (mkB (upW ((ap a).drop i)))):=by
 refine ax Tryz.func282 rfl Tryz.ntmps282 rfl ?_
 have hl:=aw a
 have hL:=um a (by omega) i hi 312 dh KY
 have hwl:=cB dh ((ap a).drop i)
 rw [Ug] at hwl
 unfold upW
 generalize aG dh ((ap a).drop i)=n at hL hwl
 have hU:=tL (sub a i (i+n)) (by rw [cI _ (by omega)];omega)
 have e:upB (sub a i (i+n))=mkB ((((ap a).drop i).take n).map upC):=by rw [upB,fg,show i+n - i=n by omega]
 rw [e] at hU
 repeat' (first|(apply ak;exact rfl;apply aQ (o:=0) (off:=0);exact hr;exact rfl;exact rfl)|(apply aa;exact rfl;exact rfl;(intro w hm;exact hL w))|(apply aa;exact rfl;exact rfl;(intro w hm;exact hU w))|refine sT ?_|refine sT2 ?_|refine sN ?_|refine sM fun _=> ?_|(refine sC ?_ ?_<;>intro hb<;>try omega)|exact cT|fail)
 (refine rT1 ?_)
 rfl
def cW:List Int→Option Nat
 | []=>none
 |c::r=>if c≠34 then (cW r).map (· +1) else match r with
  | []=>some 0
  |d::r' =>if d=34 then (cW r').map (· +2) else some 0
theorem lO {c:Int} {r:List Int} (h:c≠34):cW (c::r)=(cW r).map (· +1):=by rw [cW.eq_def];simp [h]
def oP (l:List Int):Option (Tk × Nat):=
 if l.headD 0≠34 then none
 else match cW (l.drop 1) with
  |none=>none
  |some k=>if (gT (l.take (k+2))).2≠0 then none else some (⟨2,0,mkB (gT (l.take (k+2))).1,aS,0⟩,k+2)
set_option maxHeartbeats 1000000 in
theorem Pq (a:ByteArray) (ha:a.size≤100000) (i:Nat) (hi:i<a.size) (g:Nat) (w:World) (hr:Ro w g 0 [.string a]):
  aD Tryz.prog 244 [.pointer (some ⟨g,0,none⟩),.int .i64 (i:Int)] w (GH (atT i (oP ((ap a).drop i)))):=by
 refine ax Tryz.func244 rfl Tryz.ntmps244 rfl ?_
 have hl:=aw a
 unfold oP
 rw [mM,U0]
 by_cases h34:bat a i=34
 ·
  rw [if_neg (by omega)]
  have hcut: ∀ m,ap (sub a i (i+m))=((ap a).drop i).take m:=fun m=>by rw [fg,show i+m - i=m by omega]
  repeat' (first|(apply ak;exact rfl;apply aQ (o:=0) (off:=0);exact hr;exact rfl;exact rfl)|refine sT ?_|refine sT2 ?_|refine sN ?_|refine sM fun _=> ?_|(refine sC ?_ ?_<;>intro hb<;>try omega)|exact cT|fail)
  all_goals try (exfalso;omega)
  rename_i g4
  generalize hC:cW ((ap a).drop (i+1))=C
  refine ay [0,1,4,5] rfl (fun j:Nat=> [(6,.int .i64 (j:Int))]) (fun _=> [.box g4 295 (bw dB)]) (fun j=>i+1≤j∧j≤a.size∧C=(cW ((ap a).drop j)).map (· +(j - (i+1)))) (fun j=>a.size - j) (i+1) ⟨by omega,by omega,by rw [hC];simp⟩ sB mS ?_
  rintro j ⟨hj1,hj2,hj3⟩
  by_cases hlt:j<a.size
  ·
   rw [bz hlt] at hj3
   by_cases hq:bat a j=34
   ·
    by_cases hn:j+1<a.size∧bat a (j+1)=34
    ·
     rw [bz hn.1,hq,hn.2] at hj3
     simp only [cW,ne_eq,not_true_eq_false,if_false,if_true,Vz] at hj3
     have hn1:=hn.1
     repeat' (first|(apply ak;exact rfl;apply aQ (o:=0) (off:=0);exact hr;exact rfl;exact rfl)|refine sT ?_|refine sT2 ?_|refine sN ?_|refine sM fun _=> ?_|(refine sC ?_ ?_<;>intro hb<;>try omega)|exact cT|fail)
     all_goals try (exfalso;omega)
     refine ⟨j+2,?_,(by first|omega|(dsimp only;omega)),sB,sB,mS⟩
     refine ⟨by omega,by omega,?_⟩
     rw [hj3,show j+1+1=j+2 by omega]
     congr 1
     funext k
     simp only [Function.comp]
     omega
    ·
     have hC0:C=some (j - (i+1)):=by
      rw [hj3,hq]
      by_cases h1:j+1<a.size
      ·
       rw [bz h1]
       have h2:bat a (j+1)≠34:=fun h=>hn ⟨h1,h⟩
       simp [cW,h2]
      ·
       rw [Uk (i:=j+1) (by omega)]
       simp [cW]
     rw [hC0]
     dsimp only
     have hm:j - (i+1)+2=j+1 - i:=by omega
     rw [hm]
     have hc:=hcut (j+1 - i)
     rw [show i+(j+1 - i)=j+1 by omega] at hc
     have hP:=IL (sub a i (j+1)) (by rw [cI _ (by omega)];omega)
     rw [hc] at hP
     generalize gT (((ap a).drop i).take (j+1 - i))=q at hP
     repeat' (first|(apply ak;exact rfl;apply aQ (o:=0) (off:=0);exact hr;exact rfl;exact rfl)|(apply aa;exact rfl;exact rfl;(intro w hm;exact hP w))|refine sT ?_|refine sT2 ?_|refine sN ?_|refine sM fun _=> ?_|(refine sC ?_ ?_<;>intro hb<;>try omega)|exact cT|fail)
     all_goals first|(exfalso;omega)|((refine jU ?_);first|(rw [if_pos hb];rfl)|(rw [if_neg hb];rfl))
   ·
    rw [lO hq,Vz] at hj3
    repeat' (first|(apply ak;exact rfl;apply aQ (o:=0) (off:=0);exact hr;exact rfl;exact rfl)|refine sT ?_|refine sT2 ?_|refine sN ?_|refine sM fun _=> ?_|(refine sC ?_ ?_<;>intro hb<;>try omega)|exact cT|fail)
    all_goals try (exfalso;omega)
    refine ⟨j+1,?_,(by first|omega|(dsimp only;omega)),sB,sB,mS⟩
    refine ⟨by omega,by omega,?_⟩
    rw [hj3]
    congr 1
    funext k
    simp only [Function.comp]
    omega
  ·
   rw [Uk (by omega)] at hj3
   rw [hj3]
   dsimp only [cW,Option.map]
   repeat' (first|(apply ak;exact rfl;apply aQ (o:=0) (off:=0);exact hr;exact rfl;exact rfl)|refine sT ?_|refine sT2 ?_|refine sN ?_|refine sM fun _=> ?_|(refine sC ?_ ?_<;>intro hb<;>try omega)|exact cT|fail)
   all_goals try (exfalso;omega)
   (refine jU ?_)
   rfl
 ·
  rw [if_pos (by omega)]
  repeat' (first|(apply ak;exact rfl;apply aQ (o:=0) (off:=0);exact hr;exact rfl;exact rfl)|refine sT ?_|refine sT2 ?_|refine sN ?_|refine sM fun _=> ?_|(refine sC ?_ ?_<;>intro hb<;>try omega)|exact cT|fail)
  all_goals try (exfalso;omega)
  (refine jU ?_)
  rfl
theorem PL {l m:List Int} (hl:iU l) (hm:iU m):mkB l=mkB m↔l=m:=⟨fun h=>by rw [← pF hl,← pF hm,h],fun h=>by rw [h]⟩
theorem qQ (a b:ByteArray) (w:World):aD Tryz.prog 234 [.string a,.string b] w (.bool (decide ((ap a).take b.size=ap b))):=by
 refine ax Tryz.func234 rfl Tryz.ntmps234 rfl ?_
 have ha:=aw a
 have hb' :=aw b
 have e: ∀ h:b.size≤a.size,decide (sub a 0 b.size=b)=decide ((ap a).take b.size=ap b):=fun h=>by
  rw [decide_eq_decide,← wF]
  exact ⟨fun h=>by rw [h],fun h=>yd h⟩
 repeat' (first|refine sT ?_|refine sT2 ?_|refine sM fun _=> ?_|(refine sC ?_ ?_<;>intro hb<;>try omega)|fail)
 ·
  rw [e (by omega)]
  (refine rT1 ?_)
  rfl
 ·
  (refine rT1 ?_)
  rw [decide_eq_false]
  intro h
  have:=congrArg List.length h
  rw [Ue] at this
  omega
theorem Ct (a b:ByteArray) (w:World):aD Tryz.prog 288 [.string a,.string b] w (.bool (decide ((ap a).take b.size=ap b))):=by
 refine ax Tryz.func288 rfl Tryz.ntmps288 rfl ?_
 repeat' (first|(apply aa;exact rfl;exact rfl;(intro w hm;exact qQ a b w))|refine sT ?_|refine sM fun _=> ?_|(refine sC ?_ ?_<;>intro hb<;>try omega)|fail)
 (refine rT1 ?_)
 rfl
theorem x7 (c:Int) (w:World):aD Tryz.prog 285 [.int .i64 c] w (.bool (decide (1≤c) && decide (c≤5))):=by
 refine ax Tryz.func285 rfl Tryz.ntmps285 rfl ?_
 repeat' (first|refine sT ?_|refine sM fun _=> ?_|(refine sC ?_ ?_<;>intro hb<;>try omega)|fail)
 all_goals ((refine rT1 ?_);simp_all<;>omega)
theorem CF {k:Nat} (h1:1≤k) (h2:k≤5): ∃ s,eD.drop (k - 1)=s::eD.drop k∧cR.getD k az=mkB s∧iU s∧s.length≤10:=by
 rcases (by omega:k=1∨k=2∨k=3∨k=4∨k=5) with rfl|rfl|rfl|rfl|rfl<;>refine ⟨_,rfl,rfl,?_,by decide⟩<;>(intro c hc;simp at hc;omega)
theorem o8 (l:List Int):(mkB l).size=l.length:=by simp [mkB,ByteArray.size]
def lN (l:List Int):Option (Tk × Nat):=(lc l eD 1).map fun x=>(⟨4,x.1,az,aS,0⟩,x.2)
set_option maxHeartbeats 1000000 in
theorem P4 (a:ByteArray) (ha:a.size≤100000) (i:Nat) (hi:i≤a.size) (g:Nat) (w:World) (hr:Ro w g 0 [.string a]) (hW:Words w):
  aD Tryz.prog 246 [.pointer (some ⟨g,0,none⟩),.int .i64 (i:Int)] w (GH (atT i (lN ((ap a).drop i)))):=by
 refine ax Tryz.func246 rfl Tryz.ntmps246 rfl ?_
 have hl:=aw a
 unfold lN
 generalize hF:lc ((ap a).drop i) eD 1=F
 repeat' (first|refine sT ?_|refine sT2 ?_|refine sM fun _=> ?_|(refine sC ?_ ?_<;>intro hb<;>try omega)|fail)
 rename_i g4
 refine ay [0,1,4,5] rfl (fun k:Nat=> [(6,.int .i64 (k:Int))]) (fun _=> [.box g4 295 (bw dB)]) (fun k=>1≤k∧k≤6∧F=lc ((ap a).drop i) (eD.drop (k - 1)) k) (fun k=>6 - k) 1 ⟨by omega,by omega,hF.symm⟩ sB mS ?_
 rintro k ⟨hk1,hk2,hk3⟩
 by_cases hk:k≤5
 ·
  obtain ⟨s,e1,e2,e3,e4⟩:=CF hk1 hk
  have e5:gY (k:Int)=⟨4,(k:Int),az⟩:=by rw [gY,if_neg (by omega)]
  have hFa:=od (k:Int)
  rw [e5] at hFa
  have hSh:=fun w' h=>Qo (k:Int) (by omega) (by omega) w' h
  rw [VY,e2] at hSh
  rw [e1,lc] at hk3
  have hlit:(decide (1≤(k:Int)) && decide ((k:Int)≤5))=true:=by simp;omega
  have hL:=x7 (k:Int)
  rw [hlit] at hL
  have hms:=o8 s
  have hcut:ap (sub a i (i+s.length))=((ap a).drop i).take s.length:=by rw [fg,show i+s.length - i=s.length by omega]
  have hU:=fun h=>tL (sub a i (i+s.length)) h
  have hdec:upB (sub a i (i+s.length))=mkB s↔(((ap a).drop i).take s.length).map upC=s:=by
   rw [upB,hcut,PL _ e3]
   rw [← hcut,← s9]
   exact nS _
  rw [← hms] at hU hdec hk3
  repeat' (first|(apply ak;exact rfl;apply aQ (o:=0) (off:=0);exact hr;exact rfl;exact rfl)|(apply aa;exact rfl;exact rfl;(intro w hm;exact hL w))|(apply aa;exact rfl;exact rfl;(intro w hm;exact hFa w))|(apply aa;exact rfl;exact rfl;(intro w' hm;exact hSh w' (hW.next hm)))|(apply aa;exact rfl;exact rfl;(intro w hm;exact hU (by rw [cI _ (by omega)];omega) w))|refine sT ?_|refine sT2 ?_|refine sN ?_|refine sM fun _=> ?_|(refine sC ?_ ?_<;>intro hb<;>try omega)|fail)
  ·
   (refine jU ?_)
   rw [hk3,if_pos (hdec.1 hb)]
   rfl
  ·
   refine ⟨k+1,?_,(by first|omega|(dsimp only;omega)),sB,sB,mS⟩
   refine ⟨by omega,by omega,?_⟩
   rw [hk3,if_neg fun h=>hb (hdec.2 h)]
   rfl
  ·
   refine ⟨k+1,?_,(by first|omega|(dsimp only;omega)),sB,sB,mS⟩
   refine ⟨by omega,by omega,?_⟩
   rw [hk3,if_neg]
   ·
    rfl
   ·
    intro h
    have:=congrArg List.length h
    rw [Uf,Ue,Ug] at this
    omega
 ·
  have e:k=6:=by omega
  subst e
  rw [show eD.drop (6 - 1)= [] from rfl,lc] at hk3
  rw [hk3]
  have hL:=x7 6
  rw [show (decide (1≤(6:Int)) && decide ((6:Int)≤5))=false from rfl] at hL
  repeat' (first|(apply aa;exact rfl;exact rfl;(intro w hm;exact hL w))|refine sT ?_|refine sT2 ?_|refine sM fun _=> ?_|(refine sC ?_ ?_<;>intro hb<;>try omega)|fail)
  all_goals try (exfalso;omega)
  (refine jU ?_)
  rfl
def Jy:List Value:=fN.map fun x=> .string (mkB x.1)
def Jz:List Value:=fN.map fun x=> .int .i64 x.2
theorem Cf (w:World):FnAt Tryz.prog 287 [] w fun v H=> ∃ g g',v= .tuple #[sl (some g) 13 13,sl (some g') 13 13]∧H= [.own (some g) 9 1 13 13 Jy,.own (some g') 2 1 13 13 Jz]:=by
 refine ax Tryz.func287 rfl Tryz.ntmps287 rfl ?_
 repeat' (first|refine sT ?_|refine sM fun _=> ?_|(refine sC ?_ ?_<;>intro hb<;>try omega)|fail)
 rename_i g g'
 refine dc (.inl rfl) rfl rfl rfl (H' := [.own (some g) 9 1 13 13 Jy,.own (some g') 2 1 13 13 Jz]) ?_ ⟨g,g',rfl,rfl⟩
 exact mS
theorem RN {k:Nat} (h:k<13): ∃ s n,fN.drop k=(s,n)::fN.drop (k+1)∧Jy[k]? =some (.string (mkB s))∧Jz[k]? =some (.int .i64 n)∧iU s∧s.length≤2:=by
 rcases (by omega:k=0∨k=1∨k=2∨k=3∨k=4∨k=5∨k=6∨k=7∨k=8∨k=9∨k=10∨k=11∨k=12) with rfl|rfl|rfl|rfl|rfl|rfl|rfl|rfl|rfl|rfl|rfl|rfl|rfl<;>refine ⟨_,_,rfl,rfl,rfl,?_,by decide⟩<;>(intro c hc;simp at hc;omega)
def iZ (l:List Int):Option (Tk × Nat):=
 match opL l fN with
 |some (k,n)=>some (⟨8,k,az,aS,0⟩,n)
 |none=>if l.headD 0=40 then some (⟨9,0,az,aS,0⟩,1) else if l.headD 0=41 then some (⟨10,0,az,aS,0⟩,1) else if l.headD 0=44 then some (⟨11,0,az,aS,0⟩,1) else none
set_option maxHeartbeats 1000000 in
theorem Ps (a:ByteArray) (ha:a.size≤100000) (i:Nat) (hi:i<a.size) (g:Nat) (w:World) (hr:Ro w g 0 [.string a]):
  aD Tryz.prog 247 [.pointer (some ⟨g,0,none⟩),.int .i64 (i:Int)] w (GH (atT i (iZ ((ap a).drop i)))):=by
 refine ax Tryz.func247 rfl Tryz.ntmps247 rfl ?_
 have hl:=aw a
 unfold iZ
 rw [mM]
 generalize hF:opL ((ap a).drop i) fN=F
 repeat' (first|(apply aF;exact rfl;exact rfl;(intro w' hm;exact Cf w');(rintro v H' ⟨gs,gn,rfl,rfl⟩))|refine sT ?_|refine sT2 ?_|refine sM fun _=> ?_|(refine sC ?_ ?_<;>intro hb<;>try omega)|fail)
 rename_i g4
 refine ay [0,1,4,5,7,14,15] rfl (fun k:Nat=> [(16,.int .i64 (k:Int))]) (fun _=> [.box g4 295 (bw dB),.own (some gs) 9 1 13 13 Jy,.own (some gn) 2 1 13 13 Jz]) (fun k=>k≤13∧F=opL ((ap a).drop i) (fN.drop k)) (fun k=>13 - k) 0 ⟨by omega,hF.symm⟩ sB mS ?_
 rintro k ⟨hk2,hk3⟩
 by_cases hk:k<13
 ·
  obtain ⟨s,m,e1,e2,e3,e4,e5⟩:=RN hk
  rw [e1,opL] at hk3
  have hms:=o8 s
  have hP:=Ct (sub a i a.size) (mkB s)
  rw [qm,pF e4,hms] at hP
  repeat' (first|(apply ak;exact rfl;apply aQ (o:=0) (off:=0);exact hr;exact rfl;exact rfl)|(apply aa;exact rfl;exact rfl;(intro w hm;exact hP w))|(apply ak;exact rfl;apply aj (j:=k);exact rfl;exact rfl;exact hk)|(apply ak;exact rfl;apply bG;exact rfl;exact pK;(rw [show 0+k*1=k by omega];first|exact e2|exact e3))|refine sT ?_|refine sT2 ?_|refine sN ?_|refine sM fun _=> ?_|(refine sC ?_ ?_<;>intro hb<;>try omega)|fail)
  ·
   (refine jU ?_)
   rw [hk3,if_pos hb,hms]
   rfl
  ·
   refine ⟨k+1,?_,(by first|omega|(dsimp only;omega)),sB,sB,mS⟩
   exact ⟨hk,by rw [hk3,if_neg hb]⟩
 ·
  have e:k=13:=by omega
  subst e
  rw [show fN.drop 13= [] from rfl,opL] at hk3
  subst hk3
  repeat' (first|(apply ak;exact rfl;apply aQ (o:=0) (off:=0);exact hr;exact rfl;exact rfl)|refine sT ?_|refine sT2 ?_|refine sN ?_|refine sM fun _=> ?_|(refine sC ?_ ?_<;>intro hb<;>try omega)|fail)
  all_goals try (exfalso;omega)
  all_goals
   (refine jU ?_)
   simp_all
   try rfl
end Go.SL

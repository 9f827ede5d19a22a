/-
  Lemmas and walks, put together: W17 A4 Fc W18.
-/
import Derived.Carry
import Derived.Deep.Slices
import Derived.LaidMore
import Derived.Lay
import Derived.OpenShut
import Derived.ProofKit
import Derived.SevenTiedAt
import Derived.Stop.Joined
import Derived.Test.YtoanpdoacdpgeaaGreatDoorCards
import Derived.Test.YtoanpdoacdpgeaaGreatDoorTie
import Derived.Test.YtoanpdoacdpgeaaGreatDoorKo11
set_option linter.unusedSimpArgs false
set_option linter.unusedVariables false
set_option maxRecDepth 20000
namespace Go.SL
open Go Go.Proofs
attribute [local irreducible] W WL WQ WG WA VOp thn blk aR aF FnIn
def rm (n:Nd) (i:Int) (m:Nd):Bool:=
 if n.kind≠7 then decide (m.kind≠3) else if 46≤n.fn then decide (m.kind=3)||decide (m.kind=2) else decide (m.kind≠3)||fI n.fn i
set_option maxRecDepth 10000 in
theorem Ft (n:Nd) (i:Int) (m:Nd) (w:World):aA Tryz.prog 328 [.agg (bN n).toArray,.int .i64 i,.agg (bN m).toArray] w (.bool (rm n i m)):=by
 refine aq Tryz.func328 rfl Tryz.ntmps328 rfl ?_
 repeat' (first|(apply aa;exact rfl;exact rfl;(intro w hm;exact wg n.fn i w))|refine sT ?_|refine sM fun _=> ?_|(refine sC ?_ ?_<;>intro hb<;>try omega)|exact cT|fail)
 all_goals ((refine rT1 ?_);((try simp only [← Int.not_lt] at*);simp_all [rm, -Int.not_lt, -Int.not_le,← Int.not_lt]))
theorem xa {n:Nd} (h:bQ n=0):eK n=true∧(n.kind=7→cO n.fn=true∧(bO n.fn).1≤n.n∧n.n≤(bO n.fn).2):=by
 unfold bQ at h
 split at h
 ·
  cases h
 ·
  rename_i h1
  have hf:eK n=true:=by
   unfold eK
   cases ha:f9 n<;>cases hb:eqN n (cM n)<;>simp_all
  refine ⟨hf,fun h7=> ?_⟩
  rw [if_neg (by simp [h7])] at h
  cases hk:cO n.fn
  ·
   rw [pZ hk] at h
   simp at h
  ·
   rw [kZ hk] at h
   refine ⟨rfl,?_⟩
   dsimp only at h
   rw [if_neg (by simp)] at h
   split at h
   ·
    cases h
   ·
    omega
theorem v6 {fn:Int} (h:cO fn=true):iR fn=decide (46≤fn):=by
 simp only [cO,Rk,decide_eq_true_eq] at h
 unfold iR
 rw [decide_eq_true (by omega:fn≤50),Si]
theorem xP {fn i:Int} (h:46≤fn) (hk:cO fn=true) (h0:0≤i) (h1:i<(bO fn).2):fI fn i=true:=by
 simp only [cO,Rk,decide_eq_true_eq] at hk
 unfold fI
 rw [if_neg (by omega),if_neg (by omega),if_neg (by omega),if_neg (by omega),decide_eq_true h,decide_eq_true hk.2]
 rfl
theorem FY {L:List Nd} {n:Nd} {p:Pt} (h:bQ n=0) (hr:p.root<L.length) (hp:p.wide=decide (L[p.root].kind=3)) {i:Int} (h0:0≤i) (h1:i<below n):tC L n i p=rm n i L[p.root]:=by
 obtain ⟨_,h7⟩:=xa h
 unfold tC rm Da
 rw [iW hr,hp]
 generalize L[p.root].kind=k
 by_cases hk7:n.kind=7
 ·
  obtain ⟨hk,ha,hb⟩:=h7 hk7
  have hb7:below n=n.n:=by simp [below,hk7]
  rw [if_pos hk7,if_neg (by simp [hk7]),v6 hk,vo hk]
  by_cases h46:46≤n.fn
  ·
   rw [if_pos h46,xP h46 hk h0 (by omega)]
   by_cases e3:k=3
   ·
    simp [e3,hk7,h46]
   ·
    by_cases e2:k=2<;>simp [e3,e2,hk7,h46]
  ·
   rw [if_neg h46]
   by_cases e3:k=3<;>simp [e3,h46]
 ·
  rw [if_neg hk7,if_pos hk7]
  by_cases e3:k=3<;>simp [e3,hk7]
theorem pJ {fn:Int} (hk:cO fn=true):gD fn≠av:=by
 simp only [cO,Rk,decide_eq_true_eq] at hk
 obtain ⟨j,hj⟩:=TN (by omega:0≤fn - 1)
 have e2:gD fn=dr.getD j av:=by
  rw [gD,if_neg (by omega),show fn.toNat=j+1 by omega]
  rfl
 rw [e2]
 exact (LB j (by omega)).1
theorem uF {fn:Int} (hk:cO fn=false) (h0:0≤fn):gD fn=av:=by
 simp only [cO,Sw,decide_eq_false_iff_not] at hk
 rw [gD]
 split
 ·
  rfl
 ·
  rw [show fn.toNat=0 by omega]
  rfl
theorem DC {n:Nd} (h:bQ n≠0):(eK n=false∧bQ n=2)∨(eK n=true∧n.kind=7∧cO n.fn=false∧bQ n=10)∨
  (eK n=true∧n.kind=7∧cO n.fn=true∧(n.n<(bO n.fn).1∨(bO n.fn).2<n.n)∧bQ n=11):=by
 unfold bQ at h ⊢
 by_cases h1:f9 n=false∨eqN n (cM n)=false
 ·
  left
  refine ⟨?_,if_pos h1⟩
  unfold eK
  rcases h1 with h1|h1<;>simp [h1]
 ·
  right
  rw [if_neg h1] at h ⊢
  have hf:eK n=true:=by
   unfold eK
   cases ha:f9 n<;>cases hb:eqN n (cM n)<;>simp_all
  by_cases h7:n.kind=7
  ·
   rw [if_neg (by simp [h7])] at h ⊢
   cases hk:cO n.fn
   ·
    left
    rw [pZ hk] at h ⊢
    exact ⟨hf,h7,rfl,by simp⟩
   ·
    right
    rw [kZ hk] at h ⊢
    dsimp only at h ⊢
    rw [if_neg (by simp)] at h ⊢
    by_cases hc:n.n<(bO n.fn).1∨(bO n.fn).2<n.n
    ·
     exact ⟨hf,h7,rfl,hc,if_pos hc⟩
    ·
     rw [if_neg hc] at h
     exact absurd rfl h
  ·
   rw [if_pos (by simpa using h7)] at h
   exact absurd rfl h
def qC (p:Pt):List Value:= [.int .i64 (p.root:Int),.int .i64 (p.depth:Int)]
theorem xk (p:Pt):(qC p).length=2:=rfl
def wfN (n:Nd):Prop:= -9223372036854775808≤n.v.num∧0≤n.fn∧n.fn≤255
def wE (L:List Nd) (n:Nd) (i:Nat) (st:List Pt):List Pt × Int:=
 match kI L n i st with
 | .inl e=>([],e)
 | .inr r=>(r.1,0)
theorem GY {P:Program} {w0:World} {s:az} {H:List Blk} {ty:TypeId} {x y:Operand} {b:Nat} {t t' :TypeId} (hx:ev s x=some (.int .i64 1)) (hy:ev s y=some (.int .i64 (b:Nat))) (hb:b+1≤maxLen):VOp P w0 s H (.binOp .add t x y t') ty (.int .i64 ((b+1:Nat):Int)):=by
 have h:=dO (P:=P) (w0:=w0) (H:=H) (ty:=ty) (t:=t) (t' :=t') (a:=1) hx hy (by omega)
 rwa [Tc 1 b] at h
theorem JG (L:List Pt): ∀ u∈L.flatMap qC,u.oneCell' =true:=by
 intro u hu
 obtain ⟨n,_,h⟩:=Se.1 hu
 simp only [qC,Rs,SK,or_false] at h
 rcases h with rfl|rfl<;>rfl
structure TopsOk (L:List Nd) (i:Nat) (st:List Pt):Prop where
 ok: ∀ p∈st,p.root<i∧p.depth≤32∧p.wide=decide (iX L p.root=3)
 small:st.length≤i
set_option maxHeartbeats 2000000 in
theorem Fp (L:List Nd) (i:Nat) (hi:i<L.length) (hlen:L.length≤256) (hwf:wfN L[i]) (st:List Pt) (hst:TopsOk L i st) (tv lv:Value) (w:World) (ht:Reads w tv L.length (L.flatMap bN)) (hp:Reads w lv st.length (st.flatMap qC)):
  aF Tryz.prog 289 [tv,.int .i64 (i:Int),lv] w fun v H=> ∃ A cap,v= .tuple #[sl A (wE L L[i] i st).1.length cap,.int .i64 (wE L L[i] i st).2]∧H= [.own A 298 2 (wE L L[i] i st).1.length cap ((wE L L[i] i st).1.flatMap qC)]:=by
 have hp' :=hp
 obtain ⟨At,ct,rfl,ht1,ht2,ht3⟩:=ht
 obtain ⟨Al,cl,rfl,hl1,hl2,hl3⟩:=hp
 obtain ⟨gt,ot,rfl,hrt⟩:=ht3 (by omega)
 have hrn:=hrt.elem dJ i hi
 obtain ⟨hok,hsmall⟩:=hst
 refine aq Tryz.func289 rfl Tryz.ntmps289 rfl ?_
 refine aB 298 2 ?_
 generalize hn:L[i]=n at hrn hwf
 generalize hR:wE L n i st=R
 unfold wE kI at hR
 by_cases hfe:bQ n=0
 ·
  obtain ⟨hb0,hb16⟩:=tD hfe
  obtain ⟨k,hk⟩:=TN hb0
  obtain ⟨hf1,hf7⟩:=xa hfe
  have c1:=fun w=>hf1 ▸ jL n hwf.1 w
  have c2:=fun w=>mD n.fn hwf.2.1 hwf.2.2 w
  have c3:=fun w=>kN n.fn w
  have hne:=fun h7=>pJ (hf7 h7).1
  have har:=fun h7=>(hf7 h7).2
  have c4: ∀ w,aA Tryz.prog 297 [.agg (bN n).toArray] w (.int .i64 (k:Int)):=fun w=>hk ▸ tV n w
  rw [if_neg (by simp [hfe]),hk,TB] at hR
  generalize bO n.fn=ar at har c3
  repeat' (first|(apply aa;exact rfl;exact rfl;(intro w hm;exact c1 w))|(apply aa;exact rfl;exact rfl;(intro w hm;exact c2 w))|(apply aa;exact rfl;exact rfl;(intro w hm;exact c3 w))|(apply aa;exact rfl;exact rfl;(intro w hm;exact c4 w))|(apply ak;exact rfl;apply eF;exact rfl;exact rfl;exact hne (by assumption))|(apply O5 (c:= .tmp 24) [0,1,2,8];exact rfl)|(apply ak;exact rfl;apply lg;exact rfl;exact rfl;omega;(simp only [maxLen];omega))|refine sT ?_|refine sO ?_|refine sM fun _=> ?_|(refine sC ?_ ?_<;>intro hb<;>try omega)|exact cT|fail)
  ·
   rw [if_pos (Or.inl (by omega))] at hR
   subst hR
   exact dS (.inl rfl) Tryz.results289 rfl rfl (H' := [.own none 298 2 0 0 []]) mS ⟨none,0,rfl,rfl⟩
  ·
   rename_i g
   have htl:=jI st k (by omega)
   have hlt: ¬ ((st.length:Int)<(k:Int)):=by omega
   refine aw [0,1,2,8,11,12] rfl (fun j:Nat=> [(13,.int .i64 (cf ((bo st k).take j):Int)),(14,.int .i64 (j:Int))]) (fun _=> [.box g 293 (bN n),.own none 298 2 0 0 []]) (fun j=>j≤k∧dU L n 0 (bo st k)=dU L n (j:Int) ((bo st k).drop j)) (fun j=>k - j) 0 ⟨by omega,rfl⟩ sB mS ?_
   rintro j ⟨hj,hfit⟩
   by_cases hjk:j<k
   ·
    obtain ⟨gl,ol,rfl,hrl⟩:=hl3 (by omega)
    have hjt:j<(bo st k).length:=by omega
    have hpe:(bo st k)[j]=st[st.length - k+j]'(by omega):=by simp [bo]
    have hrp:=hrl.elem xk (st.length - k+j) (by omega)
    have hds:=rT (bo st k) j hjt
    rw [Rc hjt,dU] at hfit
    rw [← hpe] at hrp
    have hpm:=iP (RN hjt)
    generalize (bo st k)[j]=p at hpm hrp hds hfit
    obtain ⟨hp1,hp2,hp3⟩:=hok p hpm
    have hrr:=hrt.elem dJ p.root (by omega)
    have hf:=FY hfe (L:=L) (p:=p) (by omega) (by rw [hp3,iW]) (i:=(j:Int)) (by omega) (by omega)
    have hcall:=fun w=>Ft n (j:Int) (L[p.root]'(by omega)) w
    rw [← hf] at hcall
    generalize L[p.root]'(by omega)=m at hrr hcall
    generalize hfo:tC L n (j:Int) p=fo at hcall hfit
    have hd33:=lw ((bo st k).take j) fun q hq=>(hok q (iP (Sy hq))).2.1
    repeat' (first|(apply cB;exact rfl;exact rfl;(intro w hm;exact hcall w))|(apply ak;exact rfl;apply dO;exact rfl;exact rfl;(simp only [maxLen];omega))|(apply aK;exact rfl;apply dO;exact rfl;exact rfl;(simp only [maxLen];omega))|(apply ak;exact rfl;apply GY;exact rfl;exact rfl;(simp only [maxLen];omega))|(apply ak;exact rfl;apply gJ;exact rfl;exact rfl;(simp only [maxLen];omega))|(apply ak;exact rfl;apply EK;exact rfl;exact rfl)|refine sT ?_|refine sQ ?_|refine sO ?_|refine sOQ ?_|refine sD ?_|refine sM fun _=> ?_|(refine sC ?_ ?_<;>intro hb<;>try omega)|(refine sCQ ?_ ?_<;>intro hb<;>try omega)|exact cT|fail)
    ·
     rw [if_pos (Or.inr (by rw [hfit];simp_all))] at hR
     subst hR
     exact dS (.inl rfl) Tryz.results289 rfl rfl (H' := [.own none 298 2 0 0 []]) mS ⟨none,0,rfl,rfl⟩
    ·
     rw [Tc 1,← hds]
     refine ⟨j+1,?_,(by first|omega|(dsimp only;omega)),sB,sB,mS⟩
     refine ⟨by omega,?_⟩
     rw [hfit,hb,RX]
     rfl
   ·
    have e:j=k:=by omega
    subst e
    have htk:(bo st j).take j=bo st j:=Sg (by omega)
    rw [htk]
    have hd33:=lw (bo st j) fun q hq=>(hok q (iP hq)).2.1
    rw [RE (by omega),dU] at hfit
    rw [if_neg (by rw [hfit];simp;omega)] at hR
    have hcut:=hp'.cut (lo:=0) (hi:=st.length - j) (sz:=2) (by omega) (by omega)
    have hcl:(((st.flatMap qC).drop (0*2)).take ((st.length - j - 0)*2))=(st.take (st.length - j)).flatMap qC:=by
     rw [Nat.zero_mul,SG,SX,pd xk]
    rw [hcl] at hcut
    have hll:((st.take (st.length - j)).flatMap qC).length=(st.length - j - 0)*2:=by rw [aM xk,RF];omega
    repeat' (first|(apply cZ;exact rfl;intro gb)|(apply ak;exact rfl;apply oR (lo:=0) (hi:=st.length - j);exact rfl;exact rfl;exact ⟨_,rfl⟩;omega;omega)|(apply bS (n' :=0) (c:=0) (A:=some _) (m:=st.length - j - 0);(iterate 3 exact rfl);exact pK;(intro w hm;exact hcut.of_w0 hm);exact hll;exact JG _;omega;(simp only [maxLen];omega);intro A' cap' hA)|(apply aQ;(iterate 3 exact rfl);(repeat first|exact .hd|apply Sel.tl|apply In.tl);(intro w hm;exact hm.cells_own (by (repeat first|exact .hd|apply Sel.tl|apply In.tl)));exact rfl;(simp [Value.oneCell',sl]);omega;(simp only [maxLen];omega);(intro A' cap' hA'))|refine sT ?_|refine sM fun _=> ?_|(refine sC ?_ ?_<;>intro hb<;>try omega)|exact cT|fail)
    ·
     rw [if_pos (by omega)] at hR
     subst hR
     exact dS (.inl rfl) Tryz.results289 rfl rfl (H' := [.own none 298 2 0 0 []]) mS ⟨none,0,rfl,rfl⟩
    ·
     rw [if_neg (by omega)] at hR
     subst hR
     have e1:(st.take (st.length - j)++ [(⟨i,cf (bo st j),decide (n.kind=3)⟩:Pt)]).length=0+(st.length - j - 0)+1:=by simp
     have e2:(st.take (st.length - j)++ [(⟨i,cf (bo st j),decide (n.kind=3)⟩:Pt)]).flatMap qC= []++(st.take (st.length - j)).flatMap qC++ [.int .i64 (i:Int),.int .i64 (cf (bo st j):Int)]:=by
      rw [Rn];rfl
     refine dS (.inl rfl) Tryz.results289 rfl rfl (H' := [.own A' 298 2 (0+(st.length - j - 0)+1) cap' ([]++(st.take (st.length - j)).flatMap qC++ [.int .i64 (i:Int),.int .i64 (cf (bo st j):Int)])]) mS ⟨A',cap',?_⟩
     dsimp only
     rw [e1,e2]
     exact ⟨rfl,rfl⟩
 ·
  rw [if_pos hfe] at hR
  rcases DC hfe with ⟨h1,h2⟩|⟨h1,h7,h2,h3⟩|⟨h1,h7,h2,h3,h4⟩
  ·
   have c1:=fun w=>h1 ▸ jL n hwf.1 w
   rw [h2] at hR
   subst hR
   repeat' (first|(apply ak;exact rfl;apply aj;exact rfl;exact rfl;exact hi)|(apply ak;exact rfl;apply aC;exact rfl;exact hrn;exact rfl)|(apply aa;exact rfl;exact rfl;(intro w hm;exact c1 w))|refine sT ?_|refine sM fun _=> ?_|(refine sC ?_ ?_<;>intro hb<;>try omega)|exact cT|fail)
   exact dS (.inl rfl) Tryz.results289 rfl rfl (H' := [.own none 298 2 0 0 []]) mS ⟨none,0,rfl,rfl⟩
  ·
   have c1:=fun w=>h1 ▸ jL n hwf.1 w
   have c2:=fun w=>uF h2 hwf.2.1 ▸ mD n.fn hwf.2.1 hwf.2.2 w
   rw [h3] at hR
   subst hR
   repeat' (first|(apply ak;exact rfl;apply aj;exact rfl;exact rfl;exact hi)|(apply ak;exact rfl;apply aC;exact rfl;exact hrn;exact rfl)|(apply aa;exact rfl;exact rfl;(intro w hm;exact c1 w))|(apply aa;exact rfl;exact rfl;(intro w hm;exact c2 w))|(apply ak;exact rfl;apply nk;(iterate 3 exact rfl))|refine sT ?_|refine sM fun _=> ?_|(refine sC ?_ ?_<;>intro hb<;>try omega)|exact cT|fail)
   exact dS (.inl rfl) Tryz.results289 rfl rfl (H' := [.own none 298 2 0 0 []]) mS ⟨none,0,rfl,rfl⟩
  ·
   have c1:=fun w=>h1 ▸ jL n hwf.1 w
   have c2:=fun w=>mD n.fn hwf.2.1 hwf.2.2 w
   have c3:=fun w=>kN n.fn w
   have hne:=pJ h2
   rw [h4] at hR
   subst hR
   generalize bO n.fn=ar at h3 c3
   repeat' (first|(apply ak;exact rfl;apply aj;exact rfl;exact rfl;exact hi)|(apply ak;exact rfl;apply aC;exact rfl;exact hrn;exact rfl)|(apply aa;exact rfl;exact rfl;(intro w hm;exact c1 w))|(apply aa;exact rfl;exact rfl;(intro w hm;exact c2 w))|(apply aa;exact rfl;exact rfl;(intro w hm;exact c3 w))|(apply ak;exact rfl;apply eF;exact rfl;exact rfl;exact hne)|refine sT ?_|refine sM fun _=> ?_|(refine sC ?_ ?_<;>intro hb<;>try omega)|exact cT|fail)
   all_goals exact dS (.inl rfl) Tryz.results289 rfl rfl (H' := [.own none 298 2 0 0 []]) mS ⟨none,0,rfl,rfl⟩
end Go.SL
namespace Go.SL
open Go Go.Proofs
attribute [local irreducible] W WL WQ WG WA VOp thn blk bp scp aR aF FnIn
def cH:List ByteArray:= [⟨#[]⟩,⟨#[35,68,73,86,47,48,33]⟩,⟨#[35,86,65,76,85,69,33]⟩,⟨#[35,78,85,77,33]⟩,⟨#[35,78,47,65]⟩,⟨#[35,82,69,70,33]⟩,⟨#[35,67,89,67,76,69,33]⟩,⟨#[35,68,69,78,73,69,68]⟩]
def Words (w:World):Prop:=Ro w 0 0 (cH.map Value.string)
theorem Words.next {w0 w:World} {H:List Blk} (h:Words w0) (hm:Mem w0 w H):Words w:=Ro.next h hm
def gH (c:Int):Vl:=⟨4,if c<1∨7<c then 2 else c,av⟩
def wM (n:Int):Vl:=if n= -9223372036854775808 then gH 3 else ⟨1,n,av⟩
def mi (b:Bool):Vl:=⟨2,if b then 1 else 0,av⟩
def nn:ByteArray:=⟨#[84,82,85,69]⟩
def lu:ByteArray:=⟨#[70,65,76,83,69]⟩
def AE (a:ByteArray):Vl:=if upB a=nn then mi true else if upB a=lu then mi false else gH 2
theorem mT (c:Int) (w:World):aA Tryz.prog 170 [.int .i64 c] w (.agg (dH (gH c)).toArray):=by
 refine aq Tryz.func170 rfl Tryz.ntmps170 rfl ?_
 repeat' (first|refine sT ?_|refine sM fun _=> ?_|(refine sC ?_ ?_<;>intro hb<;>try omega)|exact cT|fail)
 all_goals ((refine eRC ?_);simp only [gH];(first|rw [if_pos (by omega)]|rw [if_neg (by omega)]);rfl)
theorem Oz (n:Int) (w:World):aA Tryz.prog 173 [.int .i64 n] w (.agg (dH (wM n)).toArray):=by
 refine aq Tryz.func173 rfl Tryz.ntmps173 rfl ?_
 repeat' (first|(apply aa;exact rfl;exact rfl;(intro w hm;exact mT 3 w))|refine sT ?_|refine sM fun _=> ?_|(refine sC ?_ ?_<;>intro hb<;>try omega)|exact cT|fail)
 all_goals ((refine eRC ?_);simp_all [wM,dH,gH,av])
theorem My (b:Bool) (w:World):aA Tryz.prog 258 [.bool b] w (.agg (dH (mi b)).toArray):=by
 refine aq Tryz.func258 rfl Tryz.ntmps258 rfl ?_
 repeat' (first|refine sT ?_|refine sM fun _=> ?_|(refine sC ?_ ?_<;>intro hb<;>try omega)|exact cT|fail)
 all_goals ((refine eRC ?_);simp_all [mi,dH,av])
theorem LD (v:Vl) (ha:v.text.size≤1000000) (w:World):aA Tryz.prog 217 [.agg (dH v).toArray] w (.agg (dH (AE v.text)).toArray):=by
 refine aq Tryz.func217 rfl Tryz.ntmps217 rfl ?_
 repeat' (first|(apply aa;exact rfl;exact rfl;(intro w hm;exact si v.text ha w))|(apply aa;exact rfl;exact rfl;(intro w hm;exact My _ w))|(apply aa;exact rfl;exact rfl;(intro w hm;exact mT 2 w))|refine sT ?_|refine sM fun _=> ?_|(refine sC ?_ ?_<;>intro hb<;>try omega)|exact cT|fail)
 all_goals ((refine eRC ?_);simp_all [AE,nn,lu];rfl)
theorem Ot (c:Int) (h1:1≤c) (h2:c≤5) (w:World) (hw:Words w):aA Tryz.prog 269 [.agg (dH ⟨4,c,av⟩).toArray] w (.string (cH.getD c.toNat av)):=by
 refine aq Tryz.func269 rfl Tryz.ntmps269 rfl ?_
 have he:eqV ⟨4,c,av⟩ (gH 7)=false:=by simp [eqV,gH];omega
 have hv:qc ⟨4,c,av⟩=0:=by
  have h6:decide (c≤6)=true:=decide_eq_true (by omega)
  simp [qc,vv,h1,h6]
 have hc:=EF ⟨4,c,av⟩
 rw [hv] at hc
 obtain ⟨k,rfl⟩: ∃ k:Nat,c=(k:Int):=⟨c.toNat,by omega⟩
 have hcell:(cH.map Value.string)[k*1]? =some (.string (cH.getD k av)):=by
  rcases (by omega:k=1∨k=2∨k=3∨k=4∨k=5) with rfl|rfl|rfl|rfl|rfl<;>rfl
 repeat' (first|(apply cB;exact rfl;exact rfl;(intro w hm;exact mT 7 w))|(apply cB;exact rfl;exact rfl;(intro w hm;exact hc w))|(apply aK;exact rfl;exact he ▸ EN (b:=gH 7) rfl rfl)|(apply ak;exact rfl;apply vG (j:=k);exact rfl;exact rfl;omega)|(apply ak;exact rfl;apply aL (o:=0);exact hw;exact rfl;exact hcell)|refine sT ?_|refine sQ ?_|refine sD ?_|refine sM fun _=> ?_|(refine sC ?_ ?_<;>intro hb<;>try omega)|(refine sCQ ?_ ?_<;>intro hb<;>try omega)|exact cT|fail)
 (refine rT1 ?_)
 rfl
instance:KLaw Tryz.prog 5 (fun z:Int=>Value.int .u8 z):=LP
theorem zG {P:Program} {n:Fr} {w0:World} {Q:bP} {s:az} {H:List Blk} {rest:List Oper} {ty:TypeId} {p:String} {af:Array Edge} {κ:Type} [DecidableEq κ] {enc:κ→Value} {t K E g clock:Nat} {m x kx:Operand} {k:κ} {v:Value} {es:List (κ × Value × Nat)} {es' :List (κ × Value × Nat)} {c' :Nat} {R:List Blk} {ops:Array Oper} [ht:Und P t (.map K E)] [hk:KLaw P K enc] (hm:ev s m=some (.map (some g))) (hkx:ev s kx=some (enc k)) (hx:ev s x=some v) (hsel:Sel (.obj g (fJ enc es clock)) H R)
  (he:od k v clock es=(es',c')) (h:WL P n w0 ops rest Q s (.obj g (fJ enc es' c')::R)):WL P n w0 ops (⟨none,.insert t m kx x,ty,p,af,none⟩::rest) Q s H:=by
 refine Ih hm hkx hx hsel ?_
 rw [he];exact h
theorem LN {κ:Type} [DecidableEq κ] {k:κ} {v:Value} {clock:Nat} {es:List (κ × Value × Nat)} (h:cD k es 0=none):od k v clock es=(es++ [(k,v,clock)],clock+1):=by
 simp [od,h]
def HW (v:Vl):List (Int × Value × Nat):=
 [(0,.func (.func 215) #[.agg (dH v).toArray] #[],0),(1,.func (.func 215) #[.agg (dH v).toArray] #[],1),(2,.func (.func 216) #[.agg (dH v).toArray] #[],2),(3,.func (.func 217) #[.agg (dH v).toArray] #[],3),(4,.func (.func 216) #[.agg (dH v).toArray] #[],4)]
theorem EZ (v:Vl) (w:World):aF Tryz.prog 214 [.agg (dH v).toArray] w fun u H=> ∃ g,u= .map (some g)∧H= [.obj g (fJ (fun z:Int=>Value.int .u8 z) (HW v) 5)]:=by
 refine aq Tryz.func214 rfl Tryz.ntmps214 rfl ?_
 repeat' (first|(apply p9 (enc:=fun z:Int=>Value.int .u8 z);exact rfl;intro g)|(apply ak;exact rfl;apply mh;exact rfl)|(apply zG (enc:=fun z:Int=>Value.int .u8 z);(iterate 3 exact rfl);exact pK;exact LN rfl)|refine sT ?_|refine sM fun _=> ?_|(refine sC ?_ ?_<;>intro hb<;>try omega)|exact cT|fail)
 exact cA (H' := [.obj g (fJ (fun z:Int=>Value.int .u8 z) (HW v) 5)]) (.inl rfl) rfl rfl (.pick .hd (.nil _)) ⟨g,rfl,rfl⟩
def jc (v:Vl):Vl:=if qc v=0 then AE v.text else gH 2
set_option maxHeartbeats 1000000 in
theorem DS (v:Vl) (hk:v.kind=3) (ha:v.text.size≤1000000) (w:World):aA Tryz.prog 213 [.agg (dH v).toArray,.func (.func 214) #[] #[]] w (.agg (dH (jc v)).toArray):=by
 refine aq Tryz.func213 rfl Tryz.ntmps213 rfl ?_
 obtain ⟨k,num,text⟩:=v
 dsimp only at hk ha
 subst hk
 have hv:=EF ⟨3,num,text⟩
 have hn:=LD ⟨3,num,text⟩ ha
 repeat' (first|refine sT ?_|refine sM fun _=> ?_|(refine sC ?_ ?_<;>intro hb<;>try omega)|exact cT|fail)
 rename_i g2 g4
 refine sv (id:=1) (ι:=Unit) (fun _=> [(5,.func (.func 217) #[.agg (dH ⟨3,num,text⟩).toArray] #[]),(6,.bool true),(2,.pointer (some ⟨g2,0,none⟩)),(4,.pointer (some ⟨g4,0,none⟩))]) (fun _=> [.box g2 127 (dH ⟨3,num,text⟩),.box g4 127 (dH bI)]) (fun _=>True) ?_ ?_
 ·
  refine jH 11 rfl (by kernel_rfl) ?_
  ((with_reducible apply aP (i:=0));exact rfl;exact rfl;decide+kernel;decide+kernel;decide+kernel;exact nP;(intro _ _;exact vP))
  ((with_reducible apply aP (i:=3));exact rfl;exact rfl;decide+kernel;decide+kernel;decide+kernel;exact nP;(intro _ _;exact vP))
  repeat' (first|(apply da (i:=1) (j:=4);exact rfl;exact rfl;decide+kernel)|(apply da (i:=2) (j:=4);exact rfl;exact rfl;decide+kernel)|(apply aH (i:=1);exact rfl;decide+kernel)|(apply aH (i:=2);exact rfl;decide+kernel)|(apply aH (i:=4);exact rfl;decide+kernel)|(apply aH (i:=5);exact rfl;decide+kernel)|(apply aP (i:=6);exact rfl;exact rfl;decide+kernel;decide+kernel;decide+kernel;exact nP;(intro _ _;exact vP))|(apply aP (i:=7);exact rfl;exact rfl;decide+kernel;decide+kernel;decide+kernel;exact nP;(intro _ _;exact vP))|(apply aP (i:=8);exact rfl;exact rfl;decide+kernel;decide+kernel;decide+kernel;exact nP;(intro _ _;exact vP))|(apply aP (i:=9);exact rfl;exact rfl;decide+kernel;decide+kernel;decide+kernel;exact nP;(intro _ _;exact vP))|(apply aP (i:=10);exact rfl;exact rfl;decide+kernel;decide+kernel;decide+kernel;exact nP;(intro _ _;exact vP))|(apply jG;decide+kernel)|(apply m7;exact rfl;exact rfl;infer_instance;exact rfl;exact FnIn.of_at (fun w' _=>EZ ⟨3,num,text⟩ w');(rintro _ _ ⟨H1,⟨g5,rfl,rfl⟩,rfl⟩))|(apply ak;exact rfl;apply EL (enc:=fun z:Int=>Value.int .u8 z);exact rfl;exact rfl;exact pK;exact rfl)|refine sT ?_|refine sM fun _=> ?_|(refine sC ?_ ?_<;>intro hb<;>try omega)|exact cT|fail)
  all_goals ((apply cG;rotate_left 1;exact sB;exact mS);trivial)
 ·
  rintro _ -
  simp only [jc]
  generalize qc ⟨3,num,text⟩=e at hv
  repeat' (first|(apply aa;exact rfl;exact rfl;(intro w hm;exact hv w))|(apply aa;exact rfl;exact rfl;(intro w hm;exact mT 2 w))|(apply su;exact rfl;exact rfl;infer_instance;exact rfl;(intro w' _;exact hn w'))|refine sT ?_|refine sM fun _=> ?_|(refine sC ?_ ?_<;>intro hb<;>try omega)|exact cT|fail)
  all_goals
   (refine eRC ?_)
   simp_all
   rfl
theorem JX (v:Vl) (hk:v.kind=3) (ha:v.text.size≤1000000) (w:World):aA Tryz.prog 167 [.agg (dH v).toArray] w (.agg (dH (jc v)).toArray):=by
 refine aq Tryz.func167 rfl Tryz.ntmps167 rfl ?_
 repeat' (first|(apply aa;exact rfl;exact rfl;(intro w hm;exact DS v hk ha w))|refine sT ?_|refine sM fun _=> ?_|(refine sC ?_ ?_<;>intro hb<;>try omega)|exact cT|fail)
 (refine eRC ?_)
 rfl
def ju (u:ByteArray):List ByteArray→Int→Int × Int
 | [],_=>(0,4)
 |x::r,i=>if x=u then (i,0) else ju u r (i+1)
def iL (a:ByteArray):Int × Int:=ju (upB a) (cH.drop 1) 1
theorem Ey {i:Nat} (h:i<8):(cH.map Value.string)[i]? =some (.string (cH.getD i av)):=by
 rcases (by omega:i=0∨i=1∨i=2∨i=3∨i=4∨i=5∨i=6∨i=7) with rfl|rfl|rfl|rfl|rfl|rfl|rfl|rfl<;>rfl
theorem tK {i:Nat} (h:i<8):cH.drop i=cH.getD i av::cH.drop (i+1):=by
 rcases (by omega:i=0∨i=1∨i=2∨i=3∨i=4∨i=5∨i=6∨i=7) with rfl|rfl|rfl|rfl|rfl|rfl|rfl|rfl<;>rfl
theorem OB (a:ByteArray) (ha:a.size≤1000000) (w:World) (hw:Words w):aA Tryz.prog 169 [.string a] w (.tuple #[.int .i64 (iL a).1,.int .i64 (iL a).2]):=by
 refine aq Tryz.func169 rfl Tryz.ntmps169 rfl ?_
 have hload:(((cH.map Value.string).drop 0).take 8)=cH.map Value.string:=rfl
 have hU:=si a ha
 generalize hu:upB a=u at hU
 repeat' (first|(apply aa;exact rfl;exact rfl;(intro w hm;exact hU w))|(apply ak;exact rfl;apply dq (o:=0) (off:=0);exact hw;exact rfl;exact hload;exact rfl)|refine sT ?_|refine sT2 ?_|refine sM fun _=> ?_|(refine sC ?_ ?_<;>intro hb<;>try omega)|exact cT|fail)
 refine aw [0,8] rfl (fun i:Nat=> [(9,.int .i64 (i:Int))]) (fun _=> []) (fun i=>i≤8∧iL a=ju u (cH.drop (max i 1)) (max i 1:Nat)) (fun i=>8 - i) 0 ⟨by omega,by rw [iL,hu];rfl⟩ sB mS ?_
 rintro i ⟨hi,hr⟩
 by_cases hlt:i<8
 ·
  have hx:=Ey hlt
  have hd:=tK hlt
  generalize cH.getD i av=x at hx hd
  repeat' (first|(apply ak;exact rfl;apply nj;exact rfl;exact rfl;exact hlt;exact hx)|refine sT ?_|refine sT2 ?_|refine sN ?_|refine sM fun _=> ?_|(refine sC ?_ ?_<;>intro hb<;>try omega)|exact cT|fail)
  ·
   rename_i h0
   rw [show max i 1=i by omega,hd,ju,if_pos hb] at hr
   rw [hr]
   (refine rT2 ?_)
   rfl
  ·
   rename_i h0
   rw [show max i 1=i by omega,hd,ju,if_neg hb] at hr
   refine ⟨i+1,?_,(by first|omega|(dsimp only;omega)),sB,sB,mS⟩
   refine ⟨hlt,?_⟩
   rw [hr,show max (i+1) 1=i+1 by omega]
   rfl
  ·
   have h0:i=0:=by omega
   subst h0
   refine ⟨0+1,?_,(by first|omega|(dsimp only;omega)),sB,sB,mS⟩
   exact ⟨by omega,hr⟩
 ·
  have e:i=8:=by omega
  subst e
  rw [hr]
  repeat' (first|refine sT ?_|refine sT2 ?_|refine sM fun _=> ?_|(refine sC ?_ ?_<;>intro hb<;>try omega)|exact cT|fail)
  all_goals first|(exfalso;omega)|((refine rT2 ?_);rfl)
end Go.SL
namespace Go.SL
open Go Go.Proofs Go.Proofs.YtoanpdoacdpgeaaGreatDoor Go.ChangeShapes Go.WideShapes Go.ChangeAt Go.RowKit Go.Deep
def sr:List (List UInt8):= [[],[35,68,73,86,47,48,33],[35,86,65,76,85,69,33],[35,78,85,77,33],[35,78,47,65],[35,82,69,70,33],[35,67,89,67,76,69,33],[35,68,69,78,73,69,68]]
def wS:List (String × DataW Unit):= [("louvre/val.words",Rows.laid_louvre_val_words)]
theorem Bs:(Rows.laid_louvre_val_words:DataW Unit)= .agg (sr.map fun l=> .lit (.string l)):=rfl
theorem Ka:cH=sr.map fun l=>⟨l.toArray⟩:=rfl
set_option maxRecDepth 100000 in
theorem xM {W:World} (h:laidMetH Tryz.prog wS W):Words W:=by
 rw [MakeChecks.laidMetH_plain _ _ _ (by kernel_rfl)] at h
 obtain ⟨ps,⟨g,t,cs,fuel,p,q,hg,ht,hv,hd,_,_⟩,_⟩:=h
 obtain rfl:=Option.some.inj ((show Tryz.prog.globalNamed "louvre/val.words" =some 0 by kernel_rfl).symm.trans hg)
 obtain rfl:=Option.some.inj ((show (Tryz.prog.globals[0]?).map (·.type)=some 266 by kernel_rfl).symm.trans ht)
 rw [Bs] at hd
 obtain ⟨xs,m,_,ex,_,hl,hel⟩:=DataW.trod_array Tryz.underlying266 hd
 have cS:Tryz.prog.cellsOf 9=1:=by kernel_rfl
 have hcell: ∀ (j:Nat) (v:Value),(cH.map Value.string)[j]? =some v→W.cell? ⟨0,0+j,none⟩=some v:=by
  intro j v hjv
  have hj:j<8:=by
   have:=(Rg.1 hjv).1
   simpa [cH] using this
  have hE:=hel j hj
  rw [cS,SN,QV (by omega)] at hE
  obtain ⟨s,e1,e2,_⟩:=DataW.trod_string Tryz.underlying9 hE
  have e3:(xs.map (·.1))=sr.map fun l=> .lit (.string l):=(DataW.agg.inj (Prod.mk.inj ex).1).symm
  have hwl:sr.length=8:=rfl
  have e4:(xs.map (·.1))[j]? =(sr.map fun l=>(DataW.lit (.string l):DataW Unit))[j]? :=by rw [e3]
  obtain ⟨u,hu⟩: ∃ u,sr[j]? =some u:=⟨_,QV (by rw [hwl];exact hj)⟩
  rw [RZ,RZ,QV (by omega:j<xs.length),hu,e2] at e4
  simp only [Sm,Option.some.injEq,DataW.lit.injEq,Lit.string.injEq] at e4
  have hs:s=⟨u.toArray⟩:=by
   obtain ⟨d⟩:=s
   subst e4
   rfl
  have hvv:v= .string s:=by
   rw [Ka,Tl,RZ,hu] at hjv
   simp only [Sm,Option.some.injEq,Function.comp] at hjv
   rw [← hjv,hs]
  rw [hvv,Rt,World.var?_cell hg hv j]
  have:cs.toList[j]? =some (.string s):=by
   have h0:((cs.toList.drop j).take 1)[0]? =some (.string s):=by rw [e1];rfl
   simpa using h0
  simpa using this
 refine ⟨?_,hcell⟩
 have h5:=hcell 0 _ rfl
 simp only [World.cell?] at h5
 split at h5
 ·
  rename_i h6
  exact (RI.1 h6).1
 ·
  cases h5
end Go.SL
namespace Go.SL
open Go Go.Proofs
attribute [local irreducible] W WL WQ WG WA VOp thn blk bp aR aF FnIn
theorem yI {L:List Nd} {n:Nd} {i:Nat} {st:List Pt} {e:Int} (h:kI L n i st= .inl e):e≠0:=by
 unfold kI at h
 split at h
 ·
  injection h with h;subst h;assumption
 ·
  split at h
  ·
   injection h with h;omega
  ·
   split at h
   ·
    injection h with h;omega
   ·
    cases h
theorem tQ {L:List Nd} {n:Nd} {i:Nat} {st st' :List Pt} {ks:List Nat} {d:Nat} (h:kI L n i st= .inr (st',ks,d)): ∃ a,(∀ p∈a,p∈st)∧a.length≤st.length∧st' =a++ [⟨i,d,decide (n.kind=3)⟩]∧d≤32:=by
 unfold kI at h
 split at h
 ·
  cases h
 ·
  split at h
  ·
   cases h
  ·
   split at h
   ·
    cases h
   ·
    simp only [Sum.inr.injEq,Prod.mk.injEq] at h
    obtain ⟨rfl,rfl,rfl⟩:=h
    exact ⟨_,fun p hp=>Sy hp,by simp,rfl,by omega⟩
theorem B6 {L:List Nd} {i:Nat} (hi:i<L.length) {st st' :List Pt} {ks:List Nat} {d:Nat} (ho:TopsOk L i st) (h:kI L L[i] i st= .inr (st',ks,d)):TopsOk L (i+1) st' :=by
 obtain ⟨a,h1,h2,rfl,h3⟩:=tQ h
 refine ⟨fun p hp=> ?_,by have:=ho.small;simp;omega⟩
 rcases Ru.1 hp with hp|hp
 ·
  obtain ⟨q1,q2,q3⟩:=ho.ok p (h1 p hp)
  exact ⟨by omega,q2,q3⟩
 ·
  rw [Rp.1 hp]
  exact ⟨TG i,h3,by rw [iW hi]⟩
def cP (L:List Nd):List Nd→Nat→List Pt→List Pt × Int
 | [],_,st=>(st,0)
 |n::r,i,st=>match kI L n i st with
  | .inl e=>([],e)
  | .inr x=>cP L r (i+1) x.1
def Dh (st:List Pt):Nat:=(st.getLast?.map Pt.depth).getD 0
theorem wT (L:List Nd): ∀ (r:List Nd) (i:Nat) (st:List Pt) (vs:List mV),HH vs=Dh st→
  (fC L r i st vs).1=(if (cP L r i st).2≠0 then (cP L r i st).2 else if (cP L r i st).1.length=1 then 0 else 4)∧((cP L r i st).2=0→HH (fC L r i st vs).2=Dh (cP L r i st).1)
 | [],i,st,vs,h=>by
  refine ⟨?_,fun _=>h⟩
  by_cases h1:st.length=1<;>simp [fC,cP,h1]
 |n::r,i,st,vs,h=>by
  rw [fC,cP]
  cases hs:kI L n i st with
  |inl e=>have:=yI hs;simp [this]
  |inr x=>
   obtain ⟨st',ks,d⟩:=x
   obtain ⟨a,_,_,rfl,_⟩:=tQ hs
   dsimp only
   exact wT L r (i+1) _ _ (by simp [HH,Dh])
theorem CF (L:List Nd):lz L=(if 256<L.length then (0,5) else if (cP L L 0 []).2≠0 then (0,(cP L L 0 []).2) else if (cP L L 0 []).1.length≠1∨iX L (L.length - 1)=3 then (0,4) else (((Dh (cP L L 0 []).1:Nat):Int),0):Int × Int):=by
 obtain ⟨h1,h2⟩:=wT L L 0 [] [] rfl
 have h0:L.length=0→(cP L L 0 []).2=0∧(cP L L 0 []).1.length=0:=fun c=>by
  have:L= []:=Sf c
  subst this
  simp [cP]
 unfold lz d9 kD
 generalize fC L L 0 [] []=wk at h1 h2
 generalize cP L L 0 []=j at h0 h1 h2
 generalize iX L (L.length - 1)=k
 obtain ⟨w1,w2⟩:=wk
 obtain ⟨j1,j2⟩:=j
 dsimp only at h0 h1 h2 ⊢
 by_cases c1:256<L.length
 ·
  simp [c1]
 by_cases c2:L.length=0
 ·
  obtain ⟨a1,a2⟩:=h0 c2
  simp only [if_neg c1,if_pos c2]
  simp [a1,a2]
 simp only [if_neg c1,if_neg c2]
 clear c1 c2 h0
 by_cases c3:j2=0
 ·
  have h2' :=h2 c3
  by_cases c4:j1.length=1
  ·
   by_cases c5:k=3<;>simp_all
  ·
   simp_all
 ·
  simp_all
theorem LQ (L:List Nd) (hlen:L.length≤256) (hwf: ∀ n∈L,wfN n) (tv:Value) (w:World) (ht:Reads w tv L.length (L.flatMap bN)):
  aF Tryz.prog 242 [tv] w fun v H=> ∃ A cap,v= .tuple #[sl A (cP L L 0 []).1.length cap,.int .i64 (cP L L 0 []).2]∧H= [.own A 298 2 (cP L L 0 []).1.length cap ((cP L L 0 []).1.flatMap qC)]:=by
 have ht' :=ht
 obtain ⟨At,ct,rfl,ht1,ht2,ht3⟩:=ht
 refine aq Tryz.func242 rfl Tryz.ntmps242 rfl ?_
 refine aB 298 2 ?_
 refine aB 298 2 ?_
 generalize hR:cP L L 0 []=R
 repeat' (first|refine sT ?_|refine sM fun _=> ?_|(refine sC ?_ ?_<;>intro hb<;>try omega)|fail)
 refine aw [0] rfl (fun x:Nat × List Pt × Option Nat × Nat=> [(4,sl x.2.2.1 x.2.1.length x.2.2.2),(5,.int .i64 (x.1:Int))]) (fun x=> [.own x.2.2.1 298 2 x.2.1.length x.2.2.2 (x.2.1.flatMap qC),.own none 298 2 0 0 []]) (fun x=>x.1≤L.length∧TopsOk L x.1 x.2.1∧R=cP L (L.drop x.1) x.1 x.2.1) (fun x=>L.length - x.1) (0,[],none,0) ⟨by omega,⟨fun p hp=>by simp at hp,Rd _⟩,hR.symm⟩ sB mS ?_
 rintro ⟨i,st,A,cap⟩ ⟨hi,hok,hrec⟩
 dsimp only at hi hok hrec ⊢
 by_cases hlt:i<L.length
 ·
  rw [Rc hlt,cP] at hrec
  have hnode:=fun (w' :World) (H:List Blk) (hm:Mem w w' H) (hr:Reads w' (sl A st.length cap) st.length (st.flatMap qC))=>Fp L i hlt hlen (hwf _ (RN hlt)) st hok _ _ w' (ht'.of_w0 hm) hr
  have hto:=fun {st' ks d}=>B6 (st' :=st') (ks:=ks) (d:=d) hlt hok
  unfold wE at hnode
  generalize hs:kI L L[i] i st=s at hrec hnode hto
  cases s with
  |inl e=>
   have he:=yI hs
   dsimp only at hrec hnode
   subst hrec
   repeat' (first|(apply ay;exact rfl;exact rfl;(intro w' hm;exact hnode w' _ hm (Reads.of_own hm pK));(rintro v H' ⟨A',cap',rfl,rfl⟩))|refine sT ?_|refine sM fun _=> ?_|(refine sC ?_ ?_<;>intro hb<;>try omega)|fail)
   ·
    exact dS (.inl rfl) Tryz.results242 rfl rfl (H' := [.own none 298 2 0 0 []]) mS ⟨none,0,rfl,rfl⟩
  |inr x=>
   obtain ⟨st',ks,d⟩:=x
   dsimp only at hrec hnode
   repeat' (first|(apply ay;exact rfl;exact rfl;(intro w' hm;exact hnode w' _ hm (Reads.of_own hm pK));(rintro v H' ⟨A',cap',rfl,rfl⟩))|refine sT ?_|refine sN ?_|refine sM fun _=> ?_|(refine sC ?_ ?_<;>intro hb<;>try omega)|fail)
   refine ⟨(i+1,st',A',cap'),?_,(by first|omega|(dsimp only;omega)),sB,sB,mS⟩
   exact ⟨hlt,hto rfl,hrec⟩
 ·
  have e:i=L.length:=by omega
  subst e
  rw [RK,cP] at hrec
  subst hrec
  repeat' (first|refine sT ?_|refine sM fun _=> ?_|(refine sC ?_ ?_<;>intro hb<;>try omega)|fail)
  exact dS (.inl rfl) Tryz.results242 rfl rfl (H' := [.own A 298 2 st.length cap (st.flatMap qC)]) mS ⟨A,cap,rfl,rfl⟩
theorem Jp {st:List Pt} (h:st.length=1): ∃ p,st= [p]∧Dh st=p.depth:=by
 match st,h with
 | [p],_=>exact ⟨p,rfl,rfl⟩
theorem tU (L:List Nd) (hwf: ∀ n∈L,wfN n) (tv:Value) (w:World) (ht:Reads w tv L.length (L.flatMap bN)):aA Tryz.prog 198 [tv] w (.tuple #[.int .i64 (lz L).1,.int .i64 (lz L).2]):=by
 have ht' :=ht
 obtain ⟨At,ct,rfl,ht1,ht2,ht3⟩:=ht
 refine aq Tryz.func198 rfl Tryz.ntmps198 rfl ?_
 have hd:=CF L
 generalize hde:lz L=de at hd
 by_cases h256:256<L.length
 ·
  rw [if_pos h256] at hd
  subst hd
  repeat' (first|refine sT ?_|refine sM fun _=> ?_|(refine sC ?_ ?_<;>intro hb<;>try omega)|fail)
  (refine rT2 ?_)
  rfl
 have hj:=fun (w' :World) (H:List Blk) (hm:Mem w w' H)=>LQ L (by omega) hwf _ w' (ht'.of_w0 hm)
 rw [if_neg h256] at hd
 have h0:L.length=0→(cP L L 0 []).1.length=0:=fun c=>by
  have:L= []:=Sf c
  subst this
  simp [cP]
 generalize cP L L 0 []=j at hj hd h0
 obtain ⟨st,e⟩:=j
 dsimp only at hj hd h0
 by_cases he:e=0
 ·
  rw [if_neg (by simp [he])] at hd
  by_cases hl:st.length=1
  ·
   obtain ⟨p,rfl,hp⟩:=Jp hl
   obtain ⟨gt,ot,rfl,hrt⟩:=ht3 (by omega)
   have hrl:=hrt.elem dJ (L.length - 1) (by omega)
   have hk:iX L (L.length - 1)=(L[L.length - 1]'(by omega)).kind:=iW _
   rw [hk,hp] at hd
   generalize (L[L.length - 1]'(by omega))=nl at hrl hd
   subst he
   repeat' (first|(apply ay;exact rfl;exact rfl;(intro w' hm;exact hj w' _ hm);(rintro v H' ⟨A',cap',rfl,rfl⟩))|refine sT ?_|refine sN ?_|refine sO ?_|refine sM fun _=> ?_|(refine sC ?_ ?_<;>intro hb<;>try omega)|fail)
   ·
    rw [if_pos (.inr hb)] at hd
    subst hd
    (refine rT2 ?_)
    rfl
   ·
    rw [if_neg (by simp;omega)] at hd
    subst hd
    refine GI .hd (by simp) fun ga hA=> ?_
    subst hA
    repeat' (first|(apply ak;exact rfl;apply aj (j:=0);exact rfl;exact rfl;exact Nat.one_pos)|(apply ak;exact rfl;apply aV;exact rfl;exact pK;exact rfl)|refine sT ?_|refine sM fun _=> ?_|(refine sC ?_ ?_<;>intro hb<;>try omega)|fail)
    (refine rT2 ?_)
    rfl
  ·
   rw [if_pos (.inl hl)] at hd
   subst hd he
   repeat' (first|(apply ay;exact rfl;exact rfl;(intro w' hm;exact hj w' _ hm);(rintro v H' ⟨A',cap',rfl,rfl⟩))|refine sT ?_|refine sN ?_|refine sO ?_|refine sM fun _=> ?_|(refine sC ?_ ?_<;>intro hb<;>try omega)|fail)
   (refine rT2 ?_)
   rfl
 ·
  rw [if_pos he] at hd
  subst hd
  repeat' (first|(apply ay;exact rfl;exact rfl;(intro w' hm;exact hj w' _ hm);(rintro v H' ⟨A',cap',rfl,rfl⟩))|refine sT ?_|refine sM fun _=> ?_|(refine sC ?_ ?_<;>intro hb<;>try omega)|fail)
  (refine rT2 ?_)
  rfl
theorem CH (L:List Nd) (hwf: ∀ n∈L,wfN n) (tv:Value) (w:World) (ht:Reads w tv L.length (L.flatMap bN)):aA Tryz.prog 254 [tv] w (.int .i64 (d9 L)):=by
 refine aq Tryz.func254 rfl Tryz.ntmps254 rfl ?_
 have hd:(lz L).2=d9 L:=by
  unfold lz
  split
  ·
   rfl
  ·
   rename_i h;simp at h;simp [h]
 repeat' (first|(apply aa;exact rfl;exact rfl;(intro w' hm;exact tU L hwf tv w' (ht.of_w0 hm)))|refine sT ?_|refine sM fun _=> ?_|(refine sC ?_ ?_<;>intro hb<;>try omega)|fail)
 (refine rT1 ?_)
 rw [hd]
end Go.SL

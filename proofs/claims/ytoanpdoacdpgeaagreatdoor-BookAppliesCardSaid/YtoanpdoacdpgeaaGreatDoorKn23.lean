/-
  Lemmas and walks, put together: W17 W18.
-/
import Derived.Test.YtoanpdoacdpgeaaGreatDoorKn13
import Derived.Test.YtoanpdoacdpgeaaGreatDoorKn15
set_option linter.unusedSimpArgs false
set_option linter.unusedVariables false
set_option maxRecDepth 20000
namespace Go.SL
open Go Go.Proofs
attribute [local irreducible] W WL WQ WG WA VOp thn blk ba aP FnIn
def oL (n:Nd) (i:Int) (m:Nd):Bool:=
 if n.kind≠7 then decide (m.kind≠3) else if 46≤n.fn then decide (m.kind=3)||decide (m.kind=2) else decide (m.kind≠3)||eM n.fn i
set_option maxRecDepth 10000 in
theorem Cb (n:Nd) (i:Int) (m:Nd) (w:World):ay Tryz.prog 328 [.agg (cv n).toArray,.int .i64 i,.agg (cv m).toArray] w (.bool (oL n i m)):=by
 refine aq Tryz.func328 rfl Tryz.ntmps328 rfl ?_
 repeat' (first|(apply aa;exact rfl;exact rfl;(intro w hm;exact sF n.fn i w))|refine sT ?_|refine sM fun _=> ?_|(refine sC ?_ ?_<;>intro hb<;>try omega)|exact cT|fail)
 all_goals ((refine rT1 ?_);((try simp only [← Int.not_lt] at*);simp_all [oL, -Int.not_lt, -Int.not_le,← Int.not_lt]))
theorem tU {n:Nd} (h:cQ n=0):dL n=true∧(n.kind=7→cW n.fn=true∧(bJ n.fn).1≤n.n∧n.n≤(bJ n.fn).2):=by
 unfold cQ at h
 split at h
 ·
  cases h
 ·
  rename_i h1
  have hf:dL n=true:=by
   unfold dL
   cases ha:jT n<;>cases hb:eqN n (dq n)<;>simp_all
  refine ⟨hf,fun h7=> ?_⟩
  rw [if_neg (by simp [h7])] at h
  cases hk:cW n.fn
  ·
   rw [nj hk] at h
   simp at h
  ·
   rw [jN hk] at h
   refine ⟨rfl,?_⟩
   dsimp only at h
   rw [if_neg (by simp)] at h
   split at h
   ·
    cases h
   ·
    omega
theorem sx {fn:Int} (h:cW fn=true):gS fn=decide (46≤fn):=by
 simp only [cW,Nm,decide_eq_true_eq] at h
 unfold gS
 rw [decide_eq_true (by omega:fn≤50),NX]
theorem uM {fn i:Int} (h:46≤fn) (hk:cW fn=true) (h0:0≤i) (h1:i<(bJ fn).2):eM fn i=true:=by
 simp only [cW,Nm,decide_eq_true_eq] at hk
 unfold eM
 rw [if_neg (by omega),if_neg (by omega),if_neg (by omega),if_neg (by omega),decide_eq_true h,decide_eq_true hk.2]
 rfl
theorem CC {L:List Nd} {n:Nd} {p:Pt} (h:cQ n=0) (hr:p.root<L.length) (hp:p.wide=decide (L[p.root].kind=3)) {i:Int} (h0:0≤i) (h1:i<below n):tS L n i p=oL n i L[p.root]:=by
 obtain ⟨_,h7⟩:=tU h
 unfold tS oL zF
 rw [gX hr,hp]
 generalize L[p.root].kind=k
 by_cases hk7:n.kind=7
 ·
  obtain ⟨hk,ha,hb⟩:=h7 hk7
  have hb7:below n=n.n:=by simp [below,hk7]
  rw [if_pos hk7,if_neg (by simp [hk7]),sx hk,rM hk]
  by_cases h46:46≤n.fn
  ·
   rw [if_pos h46,uM h46 hk h0 (by omega)]
   by_cases e3:k=3
   ·
    simp [e3,hk7,h46]
   ·
    by_cases e2:k=2<;>simp [e3,e2,hk7,h46]
  ·
   rw [if_neg h46]
   by_cases e3:k=3<;>simp [e3,h46]
 ·
  rw [if_neg hk7,if_pos hk7]
  by_cases e3:k=3<;>simp [e3,hk7]
theorem mU {fn:Int} (hk:cW fn=true):fJ fn≠au:=by
 simp only [cW,Nm,decide_eq_true_eq] at hk
 obtain ⟨j,hj⟩:=PF (by omega:0≤fn - 1)
 have e2:fJ fn=cV.getD j au:=by
  rw [fJ,if_neg (by omega),show fn.toNat=j+1 by omega]
  rfl
 rw [e2]
 exact (HA j (by omega)).1
theorem qV {fn:Int} (hk:cW fn=false) (h0:0≤fn):fJ fn=au:=by
 simp only [cW,Oj,decide_eq_false_iff_not] at hk
 rw [fJ]
 split
 ·
  rfl
 ·
  rw [show fn.toNat=0 by omega]
  rfl
theorem zY {n:Nd} (h:cQ n≠0):(dL n=false∧cQ n=2)∨(dL n=true∧n.kind=7∧cW n.fn=false∧cQ n=10)∨
  (dL n=true∧n.kind=7∧cW n.fn=true∧(n.n<(bJ n.fn).1∨(bJ n.fn).2<n.n)∧cQ n=11):=by
 unfold cQ at h ⊢
 by_cases h1:jT n=false∨eqN n (dq n)=false
 ·
  left
  refine ⟨?_,if_pos h1⟩
  unfold dL
  rcases h1 with h1|h1<;>simp [h1]
 ·
  right
  rw [if_neg h1] at h ⊢
  have hf:dL n=true:=by
   unfold dL
   cases ha:jT n<;>cases hb:eqN n (dq n)<;>simp_all
  by_cases h7:n.kind=7
  ·
   rw [if_neg (by simp [h7])] at h ⊢
   cases hk:cW n.fn
   ·
    left
    rw [nj hk] at h ⊢
    exact ⟨hf,h7,rfl,by simp⟩
   ·
    right
    rw [jN hk] at h ⊢
    dsimp only at h ⊢
    rw [if_neg (by simp)] at h ⊢
    by_cases hc:n.n<(bJ n.fn).1∨(bJ n.fn).2<n.n
    ·
     exact ⟨hf,h7,rfl,hc,if_pos hc⟩
    ·
     rw [if_neg hc] at h
     exact absurd rfl h
  ·
   rw [if_pos (by simpa using h7)] at h
   exact absurd rfl h
def nW (p:Pt):List Value:= [.int .i64 (p.root:Int),.int .i64 (p.depth:Int)]
theorem ub (p:Pt):(nW p).length=2:=rfl
def wfN (n:Nd):Prop:= -9223372036854775808≤n.v.num∧0≤n.fn∧n.fn≤255
def tu (L:List Nd) (n:Nd) (i:Nat) (st:List Pt):List Pt × Int:=
 match lc L n i st with
 | .inl e=>([],e)
 | .inr r=>(r.1,0)
theorem Dt {P:Program} {w0:World} {s:az} {H:List Blk} {ty:TypeId} {x y:Operand} {b:Nat} {t t' :TypeId} (hx:ev s x=some (.int .i64 1)) (hy:ev s y=some (.int .i64 (b:Nat))) (hb:b+1≤maxLen):VOp P w0 s H (.binOp .add t x y t') ty (.int .i64 ((b+1:Nat):Int)):=by
 have h:=dr (P:=P) (w0:=w0) (H:=H) (ty:=ty) (t:=t) (t' :=t') (a:=1) hx hy (by omega)
 rwa [O3 1 b] at h
theorem Fw (L:List Pt): ∀ u∈L.flatMap nW,u.oneCell' =true:=by
 intro u hu
 obtain ⟨n,_,h⟩:=NU.1 hu
 simp only [nW,NA,OL,or_false] at h
 rcases h with rfl|rfl<;>rfl
structure TopsOk (L:List Nd) (i:Nat) (st:List Pt):Prop where
 ok: ∀ p∈st,p.root<i∧p.depth≤32∧p.wide=decide (jU L p.root=3)
 small:st.length≤i
set_option maxHeartbeats 2000000 in
theorem BZ (L:List Nd) (i:Nat) (hi:i<L.length) (hlen:L.length≤256) (hwf:wfN L[i]) (st:List Pt) (hst:TopsOk L i st) (tv lv:Value) (w:World) (ht:Reads w tv L.length (L.flatMap cv)) (hp:Reads w lv st.length (st.flatMap nW)):
  aP Tryz.prog 289 [tv,.int .i64 (i:Int),lv] w fun v H=> ∃ A cap,v= .tuple #[sl A (tu L L[i] i st).1.length cap,.int .i64 (tu L L[i] i st).2]∧H= [.own A 298 2 (tu L L[i] i st).1.length cap ((tu L L[i] i st).1.flatMap nW)]:=by
 have hp' :=hp
 obtain ⟨At,ct,rfl,ht1,ht2,ht3⟩:=ht
 obtain ⟨Al,cl,rfl,hl1,hl2,hl3⟩:=hp
 obtain ⟨gt,ot,rfl,hrt⟩:=ht3 (by omega)
 have hrn:=hrt.elem fN i hi
 obtain ⟨hok,hsmall⟩:=hst
 refine aq Tryz.func289 rfl Tryz.ntmps289 rfl ?_
 refine aD 298 2 ?_
 generalize hn:L[i]=n at hrn hwf
 generalize hR:tu L n i st=R
 unfold tu lc at hR
 by_cases hfe:cQ n=0
 ·
  obtain ⟨hb0,hb16⟩:=wh hfe
  obtain ⟨k,hk⟩:=PF hb0
  obtain ⟨hf1,hf7⟩:=tU hfe
  have c1:=fun w=>hf1 ▸ iU n hwf.1 w
  have c2:=fun w=>kM n.fn hwf.2.1 hwf.2.2 w
  have c3:=fun w=>jC n.fn w
  have hne:=fun h7=>mU (hf7 h7).1
  have har:=fun h7=>(hf7 h7).2
  have c4: ∀ w,ay Tryz.prog 297 [.agg (cv n).toArray] w (.int .i64 (k:Int)):=fun w=>hk ▸ zi n w
  rw [if_neg (by simp [hfe]),hk,Ov] at hR
  generalize bJ n.fn=ar at har c3
  repeat' (first|(apply aa;exact rfl;exact rfl;(intro w hm;exact c1 w))|(apply aa;exact rfl;exact rfl;(intro w hm;exact c2 w))|(apply aa;exact rfl;exact rfl;(intro w hm;exact c3 w))|(apply aa;exact rfl;exact rfl;(intro w hm;exact c4 w))|(apply ak;exact rfl;apply dJ;exact rfl;exact rfl;exact hne (by assumption))|(apply K8 (c:= .tmp 24) [0,1,2,8];exact rfl)|(apply ak;exact rfl;apply jP;exact rfl;exact rfl;omega;(simp only [maxLen];omega))|refine sT ?_|refine sO ?_|refine sM fun _=> ?_|(refine sC ?_ ?_<;>intro hb<;>try omega)|exact cT|fail)
  ·
   rw [if_pos (Or.inl (by omega))] at hR
   subst hR
   exact iJ (.inl rfl) Tryz.results289 rfl rfl (H' := [.own none 298 2 0 0 []]) mS ⟨none,0,rfl,rfl⟩
  ·
   rename_i g
   have htl:=iR st k (by omega)
   have hlt: ¬ ((st.length:Int)<(k:Int)):=by omega
   refine ax [0,1,2,8,11,12] rfl (fun j:Nat=> [(13,.int .i64 (ck ((bw st k).take j):Int)),(14,.int .i64 (j:Int))]) (fun _=> [.box g 293 (cv n),.own none 298 2 0 0 []]) (fun j=>j≤k∧eU L n 0 (bw st k)=eU L n (j:Int) ((bw st k).drop j)) (fun j=>k - j) 0 ⟨by omega,rfl⟩ sB mS ?_
   rintro j ⟨hj,hfit⟩
   by_cases hjk:j<k
   ·
    obtain ⟨gl,ol,rfl,hrl⟩:=hl3 (by omega)
    have hjt:j<(bw st k).length:=by omega
    have hpe:(bw st k)[j]=st[st.length - k+j]'(by omega):=by simp [bw]
    have hrp:=hrl.elem ub (st.length - k+j) (by omega)
    have hds:=pd (bw st k) j hjt
    rw [Nn hjt,eU] at hfit
    rw [← hpe] at hrp
    have hpm:=gQ (NW hjt)
    generalize (bw st k)[j]=p at hpm hrp hds hfit
    obtain ⟨hp1,hp2,hp3⟩:=hok p hpm
    have hrr:=hrt.elem fN p.root (by omega)
    have hf:=CC hfe (L:=L) (p:=p) (by omega) (by rw [hp3,gX]) (i:=(j:Int)) (by omega) (by omega)
    have hcall:=fun w=>Cb n (j:Int) (L[p.root]'(by omega)) w
    rw [← hf] at hcall
    generalize L[p.root]'(by omega)=m at hrr hcall
    generalize hfo:tS L n (j:Int) p=fo at hcall hfit
    have hd33:=jW ((bw st k).take j) fun q hq=>(hok q (gQ (Ot hq))).2.1
    repeat' (first|(apply eF;exact rfl;exact rfl;(intro w hm;exact hcall w))|(apply ak;exact rfl;apply dr;exact rfl;exact rfl;(simp only [maxLen];omega))|(apply aS;exact rfl;apply dr;exact rfl;exact rfl;(simp only [maxLen];omega))|(apply ak;exact rfl;apply Dt;exact rfl;exact rfl;(simp only [maxLen];omega))|(apply ak;exact rfl;apply gj;exact rfl;exact rfl;(simp only [maxLen];omega))|(apply ak;exact rfl;apply Bu;exact rfl;exact rfl)|refine sT ?_|refine sQ ?_|refine sO ?_|refine sOQ ?_|refine sD ?_|refine sM fun _=> ?_|(refine sC ?_ ?_<;>intro hb<;>try omega)|(refine sCQ ?_ ?_<;>intro hb<;>try omega)|exact cT|fail)
    ·
     rw [if_pos (Or.inr (by rw [hfit];simp_all))] at hR
     subst hR
     exact iJ (.inl rfl) Tryz.results289 rfl rfl (H' := [.own none 298 2 0 0 []]) mS ⟨none,0,rfl,rfl⟩
    ·
     rw [O3 1,← hds]
     refine ⟨j+1,?_,(by first|omega|(dsimp only;omega)),sB,sB,mS⟩
     refine ⟨by omega,?_⟩
     rw [hfit,hb,NI]
     rfl
   ·
    have e:j=k:=by omega
    subst e
    have htk:(bw st j).take j=bw st j:=NQ (by omega)
    rw [htk]
    have hd33:=jW (bw st j) fun q hq=>(hok q (gQ hq)).2.1
    rw [NC (by omega),eU] at hfit
    rw [if_neg (by rw [hfit];simp;omega)] at hR
    have hcut:=hp'.cut (lo:=0) (hi:=st.length - j) (sz:=2) (by omega) (by omega)
    have hcl:(((st.flatMap nW).drop (0*2)).take ((st.length - j - 0)*2))=(st.take (st.length - j)).flatMap nW:=by
     rw [Nat.zero_mul,OC,Pa,jd ub]
    rw [hcl] at hcut
    have hll:((st.take (st.length - j)).flatMap nW).length=(st.length - j - 0)*2:=by rw [aK ub,Nu];omega
    repeat' (first|(apply dI;exact rfl;intro gb)|(apply ak;exact rfl;apply iQ (lo:=0) (hi:=st.length - j);exact rfl;exact rfl;exact ⟨_,rfl⟩;omega;omega)|(apply bT (n' :=0) (c:=0) (A:=some _) (m:=st.length - j - 0);(iterate 3 exact rfl);exact pK;(intro w hm;exact hcut.of_w0 hm);exact hll;exact Fw _;omega;(simp only [maxLen];omega);intro A' cap' hA)|(apply bA;(iterate 3 exact rfl);(repeat first|exact .hd|apply Sel.tl|apply In.tl);(intro w hm;exact hm.cells_own (by (repeat first|exact .hd|apply Sel.tl|apply In.tl)));exact rfl;(simp [Value.oneCell',sl]);omega;(simp only [maxLen];omega);(intro A' cap' hA'))|refine sT ?_|refine sM fun _=> ?_|(refine sC ?_ ?_<;>intro hb<;>try omega)|exact cT|fail)
    ·
     rw [if_pos (by omega)] at hR
     subst hR
     exact iJ (.inl rfl) Tryz.results289 rfl rfl (H' := [.own none 298 2 0 0 []]) mS ⟨none,0,rfl,rfl⟩
    ·
     rw [if_neg (by omega)] at hR
     subst hR
     have e1:(st.take (st.length - j)++ [(⟨i,ck (bw st j),decide (n.kind=3)⟩:Pt)]).length=0+(st.length - j - 0)+1:=by simp
     have e2:(st.take (st.length - j)++ [(⟨i,ck (bw st j),decide (n.kind=3)⟩:Pt)]).flatMap nW= []++(st.take (st.length - j)).flatMap nW++ [.int .i64 (i:Int),.int .i64 (ck (bw st j):Int)]:=by
      rw [Nt];rfl
     refine iJ (.inl rfl) Tryz.results289 rfl rfl (H' := [.own A' 298 2 (0+(st.length - j - 0)+1) cap' ([]++(st.take (st.length - j)).flatMap nW++ [.int .i64 (i:Int),.int .i64 (ck (bw st j):Int)])]) mS ⟨A',cap',?_⟩
     dsimp only
     rw [e1,e2]
     exact ⟨rfl,rfl⟩
 ·
  rw [if_pos hfe] at hR
  rcases zY hfe with ⟨h1,h2⟩|⟨h1,h7,h2,h3⟩|⟨h1,h7,h2,h3,h4⟩
  ·
   have c1:=fun w=>h1 ▸ iU n hwf.1 w
   rw [h2] at hR
   subst hR
   repeat' (first|(apply ak;exact rfl;apply aj;exact rfl;exact rfl;exact hi)|(apply ak;exact rfl;apply aA;exact rfl;exact hrn;exact rfl)|(apply aa;exact rfl;exact rfl;(intro w hm;exact c1 w))|refine sT ?_|refine sM fun _=> ?_|(refine sC ?_ ?_<;>intro hb<;>try omega)|exact cT|fail)
   exact iJ (.inl rfl) Tryz.results289 rfl rfl (H' := [.own none 298 2 0 0 []]) mS ⟨none,0,rfl,rfl⟩
  ·
   have c1:=fun w=>h1 ▸ iU n hwf.1 w
   have c2:=fun w=>qV h2 hwf.2.1 ▸ kM n.fn hwf.2.1 hwf.2.2 w
   rw [h3] at hR
   subst hR
   repeat' (first|(apply ak;exact rfl;apply aj;exact rfl;exact rfl;exact hi)|(apply ak;exact rfl;apply aA;exact rfl;exact hrn;exact rfl)|(apply aa;exact rfl;exact rfl;(intro w hm;exact c1 w))|(apply aa;exact rfl;exact rfl;(intro w hm;exact c2 w))|(apply ak;exact rfl;apply lA;(iterate 3 exact rfl))|refine sT ?_|refine sM fun _=> ?_|(refine sC ?_ ?_<;>intro hb<;>try omega)|exact cT|fail)
   exact iJ (.inl rfl) Tryz.results289 rfl rfl (H' := [.own none 298 2 0 0 []]) mS ⟨none,0,rfl,rfl⟩
  ·
   have c1:=fun w=>h1 ▸ iU n hwf.1 w
   have c2:=fun w=>kM n.fn hwf.2.1 hwf.2.2 w
   have c3:=fun w=>jC n.fn w
   have hne:=mU h2
   rw [h4] at hR
   subst hR
   generalize bJ n.fn=ar at h3 c3
   repeat' (first|(apply ak;exact rfl;apply aj;exact rfl;exact rfl;exact hi)|(apply ak;exact rfl;apply aA;exact rfl;exact hrn;exact rfl)|(apply aa;exact rfl;exact rfl;(intro w hm;exact c1 w))|(apply aa;exact rfl;exact rfl;(intro w hm;exact c2 w))|(apply aa;exact rfl;exact rfl;(intro w hm;exact c3 w))|(apply ak;exact rfl;apply dJ;exact rfl;exact rfl;exact hne)|refine sT ?_|refine sM fun _=> ?_|(refine sC ?_ ?_<;>intro hb<;>try omega)|exact cT|fail)
   all_goals exact iJ (.inl rfl) Tryz.results289 rfl rfl (H' := [.own none 298 2 0 0 []]) mS ⟨none,0,rfl,rfl⟩
end Go.SL
namespace Go.SL
open Go Go.Proofs
attribute [local irreducible] W WL WQ WG WA VOp thn blk bE ba aP FnIn
theorem vE {L:List Nd} {n:Nd} {i:Nat} {st:List Pt} {e:Int} (h:lc L n i st= .inl e):e≠0:=by
 unfold lc at h
 split at h
 ·
  injection h with h;subst h;assumption
 ·
  split at h
  ·
   injection h with h;omega
  ·
   split at h
   ·
    injection h with h;omega
   ·
    cases h
theorem qp {L:List Nd} {n:Nd} {i:Nat} {st st' :List Pt} {ks:List Nat} {d:Nat} (h:lc L n i st= .inr (st',ks,d)): ∃ a,(∀ p∈a,p∈st)∧a.length≤st.length∧st' =a++ [⟨i,d,decide (n.kind=3)⟩]∧d≤32:=by
 unfold lc at h
 split at h
 ·
  cases h
 ·
  split at h
  ·
   cases h
  ·
   split at h
   ·
    cases h
   ·
    simp only [Sum.inr.injEq,Prod.mk.injEq] at h
    obtain ⟨rfl,rfl,rfl⟩:=h
    exact ⟨_,fun p hp=>Ot hp,by simp,rfl,by omega⟩
theorem yK {L:List Nd} {i:Nat} (hi:i<L.length) {st st' :List Pt} {ks:List Nat} {d:Nat} (ho:TopsOk L i st) (h:lc L L[i] i st= .inr (st',ks,d)):TopsOk L (i+1) st' :=by
 obtain ⟨a,h1,h2,rfl,h3⟩:=qp h
 refine ⟨fun p hp=> ?_,by have:=ho.small;simp;omega⟩
 rcases NJ.1 hp with hp|hp
 ·
  obtain ⟨q1,q2,q3⟩:=ho.ok p (h1 p hp)
  exact ⟨by omega,q2,q3⟩
 ·
  rw [NS.1 hp]
  exact ⟨Pn i,h3,by rw [gX hi]⟩
def cH (L:List Nd):List Nd→Nat→List Pt→List Pt × Int
 | [],_,st=>(st,0)
 |n::r,i,st=>match lc L n i st with
  | .inl e=>([],e)
  | .inr x=>cH L r (i+1) x.1
def zL (st:List Pt):Nat:=(st.getLast?.map Pt.depth).getD 0
theorem tK (L:List Nd): ∀ (r:List Nd) (i:Nat) (st:List Pt) (vs:List mg),DQ vs=zL st→
  (iz L r i st vs).1=(if (cH L r i st).2≠0 then (cH L r i st).2 else if (cH L r i st).1.length=1 then 0 else 4)∧((cH L r i st).2=0→DQ (iz L r i st vs).2=zL (cH L r i st).1)
 | [],i,st,vs,h=>by
  refine ⟨?_,fun _=>h⟩
  by_cases h1:st.length=1<;>simp [iz,cH,h1]
 |n::r,i,st,vs,h=>by
  rw [iz,cH]
  cases hs:lc L n i st with
  |inl e=>have:=vE hs;simp [this]
  |inr x=>
   obtain ⟨st',ks,d⟩:=x
   obtain ⟨a,_,_,rfl,_⟩:=qp hs
   dsimp only
   exact tK L r (i+1) _ _ (by simp [DQ,zL])
theorem zf (L:List Nd):l8 L=(if 256<L.length then (0,5) else if (cH L L 0 []).2≠0 then (0,(cH L L 0 []).2) else if (cH L L 0 []).1.length≠1∨jU L (L.length - 1)=3 then (0,4) else (((zL (cH L L 0 []).1:Nat):Int),0):Int × Int):=by
 obtain ⟨h1,h2⟩:=tK L L 0 [] [] rfl
 have h0:L.length=0→(cH L L 0 []).2=0∧(cH L L 0 []).1.length=0:=fun c=>by
  have:L= []:=NK c
  subst this
  simp [cH]
 unfold l8 jX l9
 generalize iz L L 0 [] []=wk at h1 h2
 generalize cH L L 0 []=j at h0 h1 h2
 generalize jU L (L.length - 1)=k
 obtain ⟨w1,w2⟩:=wk
 obtain ⟨j1,j2⟩:=j
 dsimp only at h0 h1 h2 ⊢
 by_cases c1:256<L.length
 ·
  simp [c1]
 by_cases c2:L.length=0
 ·
  obtain ⟨a1,a2⟩:=h0 c2
  simp only [if_neg c1,if_pos c2]
  simp [a1,a2]
 simp only [if_neg c1,if_neg c2]
 clear c1 c2 h0
 by_cases c3:j2=0
 ·
  have h2' :=h2 c3
  by_cases c4:j1.length=1
  ·
   by_cases c5:k=3<;>simp_all
  ·
   simp_all
 ·
  simp_all
theorem HS (L:List Nd) (hlen:L.length≤256) (hwf: ∀ n∈L,wfN n) (tv:Value) (w:World) (ht:Reads w tv L.length (L.flatMap cv)):
  aP Tryz.prog 242 [tv] w fun v H=> ∃ A cap,v= .tuple #[sl A (cH L L 0 []).1.length cap,.int .i64 (cH L L 0 []).2]∧H= [.own A 298 2 (cH L L 0 []).1.length cap ((cH L L 0 []).1.flatMap nW)]:=by
 have ht' :=ht
 obtain ⟨At,ct,rfl,ht1,ht2,ht3⟩:=ht
 refine aq Tryz.func242 rfl Tryz.ntmps242 rfl ?_
 refine aD 298 2 ?_
 refine aD 298 2 ?_
 generalize hR:cH L L 0 []=R
 repeat' (first|refine sT ?_|refine sM fun _=> ?_|(refine sC ?_ ?_<;>intro hb<;>try omega)|fail)
 refine ax [0] rfl (fun x:Nat × List Pt × Option Nat × Nat=> [(4,sl x.2.2.1 x.2.1.length x.2.2.2),(5,.int .i64 (x.1:Int))]) (fun x=> [.own x.2.2.1 298 2 x.2.1.length x.2.2.2 (x.2.1.flatMap nW),.own none 298 2 0 0 []]) (fun x=>x.1≤L.length∧TopsOk L x.1 x.2.1∧R=cH L (L.drop x.1) x.1 x.2.1) (fun x=>L.length - x.1) (0,[],none,0) ⟨by omega,⟨fun p hp=>by simp at hp,Ns _⟩,hR.symm⟩ sB mS ?_
 rintro ⟨i,st,A,cap⟩ ⟨hi,hok,hrec⟩
 dsimp only at hi hok hrec ⊢
 by_cases hlt:i<L.length
 ·
  rw [Nn hlt,cH] at hrec
  have hnode:=fun (w' :World) (H:List Blk) (hm:Mem w w' H) (hr:Reads w' (sl A st.length cap) st.length (st.flatMap nW))=>BZ L i hlt hlen (hwf _ (NW hlt)) st hok _ _ w' (ht'.of_w0 hm) hr
  have hto:=fun {st' ks d}=>yK (st' :=st') (ks:=ks) (d:=d) hlt hok
  unfold tu at hnode
  generalize hs:lc L L[i] i st=s at hrec hnode hto
  cases s with
  |inl e=>
   have he:=vE hs
   dsimp only at hrec hnode
   subst hrec
   repeat' (first|(apply aC;exact rfl;exact rfl;(intro w' hm;exact hnode w' _ hm (Reads.of_own hm pK));(rintro v H' ⟨A',cap',rfl,rfl⟩))|refine sT ?_|refine sM fun _=> ?_|(refine sC ?_ ?_<;>intro hb<;>try omega)|fail)
   ·
    exact iJ (.inl rfl) Tryz.results242 rfl rfl (H' := [.own none 298 2 0 0 []]) mS ⟨none,0,rfl,rfl⟩
  |inr x=>
   obtain ⟨st',ks,d⟩:=x
   dsimp only at hrec hnode
   repeat' (first|(apply aC;exact rfl;exact rfl;(intro w' hm;exact hnode w' _ hm (Reads.of_own hm pK));(rintro v H' ⟨A',cap',rfl,rfl⟩))|refine sT ?_|refine sN ?_|refine sM fun _=> ?_|(refine sC ?_ ?_<;>intro hb<;>try omega)|fail)
   refine ⟨(i+1,st',A',cap'),?_,(by first|omega|(dsimp only;omega)),sB,sB,mS⟩
   exact ⟨hlt,hto rfl,hrec⟩
 ·
  have e:i=L.length:=by omega
  subst e
  rw [NF,cH] at hrec
  subst hrec
  repeat' (first|refine sT ?_|refine sM fun _=> ?_|(refine sC ?_ ?_<;>intro hb<;>try omega)|fail)
  exact iJ (.inl rfl) Tryz.results242 rfl rfl (H' := [.own A 298 2 st.length cap (st.flatMap nW)]) mS ⟨A,cap,rfl,rfl⟩
theorem Fe {st:List Pt} (h:st.length=1): ∃ p,st= [p]∧zL st=p.depth:=by
 match st,h with
 | [p],_=>exact ⟨p,rfl,rfl⟩
theorem zg (L:List Nd) (hwf: ∀ n∈L,wfN n) (tv:Value) (w:World) (ht:Reads w tv L.length (L.flatMap cv)):ay Tryz.prog 198 [tv] w (.tuple #[.int .i64 (l8 L).1,.int .i64 (l8 L).2]):=by
 have ht' :=ht
 obtain ⟨At,ct,rfl,ht1,ht2,ht3⟩:=ht
 refine aq Tryz.func198 rfl Tryz.ntmps198 rfl ?_
 have hd:=zf L
 generalize hde:l8 L=de at hd
 by_cases h256:256<L.length
 ·
  rw [if_pos h256] at hd
  subst hd
  repeat' (first|refine sT ?_|refine sM fun _=> ?_|(refine sC ?_ ?_<;>intro hb<;>try omega)|fail)
  (refine rT2 ?_)
  rfl
 have hj:=fun (w' :World) (H:List Blk) (hm:Mem w w' H)=>HS L (by omega) hwf _ w' (ht'.of_w0 hm)
 rw [if_neg h256] at hd
 have h0:L.length=0→(cH L L 0 []).1.length=0:=fun c=>by
  have:L= []:=NK c
  subst this
  simp [cH]
 generalize cH L L 0 []=j at hj hd h0
 obtain ⟨st,e⟩:=j
 dsimp only at hj hd h0
 by_cases he:e=0
 ·
  rw [if_neg (by simp [he])] at hd
  by_cases hl:st.length=1
  ·
   obtain ⟨p,rfl,hp⟩:=Fe hl
   obtain ⟨gt,ot,rfl,hrt⟩:=ht3 (by omega)
   have hrl:=hrt.elem fN (L.length - 1) (by omega)
   have hk:jU L (L.length - 1)=(L[L.length - 1]'(by omega)).kind:=gX _
   rw [hk,hp] at hd
   generalize (L[L.length - 1]'(by omega))=nl at hrl hd
   subst he
   repeat' (first|(apply aC;exact rfl;exact rfl;(intro w' hm;exact hj w' _ hm);(rintro v H' ⟨A',cap',rfl,rfl⟩))|refine sT ?_|refine sN ?_|refine sO ?_|refine sM fun _=> ?_|(refine sC ?_ ?_<;>intro hb<;>try omega)|fail)
   ·
    rw [if_pos (.inr hb)] at hd
    subst hd
    (refine rT2 ?_)
    rfl
   ·
    rw [if_neg (by simp;omega)] at hd
    subst hd
    refine wJ .hd (by simp) fun ga hA=> ?_
    subst hA
    repeat' (first|(apply ak;exact rfl;apply aj (j:=0);exact rfl;exact rfl;exact Nat.one_pos)|(apply ak;exact rfl;apply bN;exact rfl;exact pK;exact rfl)|refine sT ?_|refine sM fun _=> ?_|(refine sC ?_ ?_<;>intro hb<;>try omega)|fail)
    (refine rT2 ?_)
    rfl
  ·
   rw [if_pos (.inl hl)] at hd
   subst hd he
   repeat' (first|(apply aC;exact rfl;exact rfl;(intro w' hm;exact hj w' _ hm);(rintro v H' ⟨A',cap',rfl,rfl⟩))|refine sT ?_|refine sN ?_|refine sO ?_|refine sM fun _=> ?_|(refine sC ?_ ?_<;>intro hb<;>try omega)|fail)
   (refine rT2 ?_)
   rfl
 ·
  rw [if_pos he] at hd
  subst hd
  repeat' (first|(apply aC;exact rfl;exact rfl;(intro w' hm;exact hj w' _ hm);(rintro v H' ⟨A',cap',rfl,rfl⟩))|refine sT ?_|refine sM fun _=> ?_|(refine sC ?_ ?_<;>intro hb<;>try omega)|fail)
  (refine rT2 ?_)
  rfl
end Go.SL

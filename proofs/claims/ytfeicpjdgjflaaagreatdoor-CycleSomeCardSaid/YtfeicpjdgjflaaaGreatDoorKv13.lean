/-
  Lemmas and walks, put together: W17 W18.
-/
import Derived.Test.YtfeicpjdgjflaaaGreatDoorKv10
import Derived.Test.YtfeicpjdgjflaaaGreatDoorKv11
set_option linter.unusedSimpArgs false
set_option linter.unusedVariables false
set_option maxRecDepth 20000
set_option maxHeartbeats 16000000
namespace Go.SL
open Go Go.Proofs
attribute [local irreducible] W WL WQ WG WA VOp thn blk aS FnAt FnIn
def tJ (n:Nd) (i:Int) (m:Nd):Bool:=
 if n.kind≠7 then decide (m.kind≠3) else if 46≤n.fn then decide (m.kind=3)||decide (m.kind=2) else decide (m.kind≠3)||gT n.fn i
theorem IP (n:Nd) (i:Int) (m:Nd) (w:World):aF Tryz.prog 392 [.agg (bu n).toArray,.int .i64 i,.agg (bu m).toArray] w (.bool (tJ n i m)):=by
 refine aA Tryz.func392 rfl Tryz.ntmps392 rfl ?_;repeat' (first|apply ag;exact rfl;exact rfl;intro w hm;exact ym n.fn i w|refine sT ?_|refine sM fun _=>?_|refine sC ?_ ?_<;>intro hb<;>try omega|exact cT|fail)
 all_goals ((refine rT1 ?_);((try simp only [← Int.not_lt] at*);simp_all [tJ, -Int.not_lt, -Int.not_le,← Int.not_lt]))
theorem zr {n:Nd} (h:bM n=0):fJ n=true∧(n.kind=7→dF n.fn=true∧(cg n.fn).1≤n.n∧n.n≤(cg n.fn).2):=by
 unfold bM at h;split at h
 ·cases h
 ·rename_i h1;have hf:fJ n=true:=by
   unfold fJ;cases ha:fS n<;>cases hb:eqN n (dS n)<;>simp_all
  refine ⟨hf,fun h7=> ?_⟩;rw [if_neg (by simp [h7])] at h;cases hk:dF n.fn
  ·rw [rM hk] at h;simp at h
  ·rw [mY hk] at h;refine ⟨rfl,?_⟩;dsimp only at h;rw [if_neg (by simp)] at h;split at h
   ·cases h
   ·omega
theorem yj {fn:Int} (h:dF fn=true):jM fn=decide (46≤fn):=by
 simp only [dF,VP,decide_eq_true_eq] at h;unfold jM;rw [decide_eq_true (by omega:fn≤50),WO]
theorem Af {fn i:Int} (h:46≤fn) (hk:dF fn=true) (h0:0≤i) (h1:i<(cg fn).2):gT fn i=true:=by
 simp only [dF,VP,decide_eq_true_eq] at hk;unfold gT;rw [if_neg (by omega),if_neg (by omega),if_neg (by omega),if_neg (by omega),decide_eq_true h,decide_eq_true hk.2]
 rfl
theorem Js {L:List Nd} {n:Nd} {p:Pt} (h:bM n=0) (hr:p.root<L.length) (hp:p.wide=decide (L[p.root].kind=3)) {i:Int} (h0:0≤i) (h1:i<below n):vD L n i p=tJ n i L[p.root]:=by
 obtain ⟨_,h7⟩:=zr h;unfold vD tJ Gt;rw [jR hr,hp];generalize L[p.root].kind=k;by_cases hk7:n.kind=7
 ·obtain ⟨hk,ha,hb⟩:=h7 hk7;have hb7:below n=n.n:=by simp [below,hk7]
  rw [if_pos hk7,if_neg (by simp [hk7]),yj hk,xE hk];by_cases h46:46≤n.fn
  ·rw [if_pos h46,Af h46 hk h0 (by omega)];by_cases e3:k=3
   ·simp [e3,hk7,h46]
   ·by_cases e2:k=2<;>simp [e3,e2,hk7,h46]
  ·rw [if_neg h46];by_cases e3:k=3<;>simp [e3,h46]
 ·rw [if_neg hk7,if_pos hk7];by_cases e3:k=3<;>simp [e3,hk7]
theorem rE {fn:Int} (hk:dF fn=true):iP fn≠aB:=by
 simp only [dF,VP,decide_eq_true_eq] at hk;obtain ⟨j,hj⟩:=Yu (by omega:0≤fn - 1);have e2:iP fn=d9.getD j aB:=by
  rw [iP,if_neg (by omega),show fn.toNat=j+1 by omega]
  rfl
 rw [e2];exact (OX j (by omega)).1
theorem wQ {fn:Int} (hk:dF fn=false) (h0:0≤fn):iP fn=aB:=by
 simp only [dF,Xp,decide_eq_false_iff_not] at hk;rw [iP];split
 ·rfl
 ·rw [show fn.toNat=0 by omega]
  rfl
theorem G8 {n:Nd} (h:bM n≠0):(fJ n=false∧bM n=2)∨(fJ n=true∧n.kind=7∧dF n.fn=false∧bM n=10)∨
 (fJ n=true∧n.kind=7∧dF n.fn=true∧(n.n<(cg n.fn).1∨(cg n.fn).2<n.n)∧bM n=11):=by
 unfold bM at h ⊢;by_cases h1:fS n=false∨eqN n (dS n)=false
 ·left
  refine ⟨?_,if_pos h1⟩;unfold fJ;rcases h1 with h1|h1<;>simp [h1]
 ·right
  rw [if_neg h1] at h ⊢;have hf:fJ n=true:=by
   unfold fJ;cases ha:fS n<;>cases hb:eqN n (dS n)<;>simp_all
  by_cases h7:n.kind=7
  ·rw [if_neg (by simp [h7])] at h ⊢;cases hk:dF n.fn
   ·left
    rw [rM hk] at h ⊢;exact ⟨hf,h7,rfl,by simp⟩
   ·right
    rw [mY hk] at h ⊢;dsimp only at h ⊢;rw [if_neg (by simp)] at h ⊢;by_cases hc:n.n<(cg n.fn).1∨(cg n.fn).2<n.n
    ·exact ⟨hf,h7,rfl,hc,if_pos hc⟩
    ·rw [if_neg hc] at h;exact absurd rfl h
  ·rw [if_pos (by simpa using h7)] at h;exact absurd rfl h
def sL (p:Pt):List Value:= [.int .i64 (p.root:Int),.int .i64 (p.depth:Int)]
theorem zA (p:Pt):(sL p).length=2:=rfl
def wfN (n:Nd):Prop:= -9223372036854775808≤n.v.num∧0≤n.fn∧n.fn≤255
def yO (L:List Nd) (n:Nd) (i:Nat) (st:List Pt):List Pt × Int:=
 match kw L n i st with
 | .inl e=>([],e)
 | .inr r=>(r.1,0)
theorem Ke {P:Program} {w0:World} {s:aC} {H:List Blk} {ty:TypeId} {x y:Operand} {b:Nat} {t t' :TypeId} (hx:ev s x=some (.int .i64 1)) (hy:ev s y=some (.int .i64 (b:Nat))) (hb:b+1≤maxLen):VOp P w0 s H (.binOp .add t x y t') ty (.int .i64 ((b+1:Nat):Int)):=by
 have h:=gQ (P:=P) (w0:=w0) (H:=H) (ty:=ty) (t:=t) (t' :=t') (a:=1) hx hy (by omega);rwa [Xx 1 b] at h
theorem MR (L:List Pt): ∀ u∈L.flatMap sL,u.oneCell' =true:=by
 intro u hu;obtain ⟨n,_,h⟩:=XB.1 hu;simp only [sL,VN,XJ,or_false] at h;rcases h with rfl|rfl<;>rfl
structure TopsOk (L:List Nd) (i:Nat) (st:List Pt):Prop where
 ok: ∀ p∈st,p.root<i∧p.depth≤32∧p.wide=decide (jS L p.root=3)
 small:st.length≤i
theorem IJ (L:List Nd) (i:Nat) (hi:i<L.length) (hlen:L.length≤256) (hwf:wfN L[i]) (st:List Pt) (hst:TopsOk L i st) (tv lv:Value) (w:World) (ht:Reads w tv L.length (L.flatMap bu)) (hp:Reads w lv st.length (st.flatMap sL)):
 FnAt Tryz.prog 365 [tv,.int .i64 (i:Int),lv] w fun v H=> ∃ A cap,v= .tuple #[sl A (yO L L[i] i st).1.length cap,.int .i64 (yO L L[i] i st).2]∧H= [.own A 421 2 (yO L L[i] i st).1.length cap ((yO L L[i] i st).1.flatMap sL)]:=by
 have hp' :=hp;obtain ⟨At,ct,rfl,ht1,ht2,ht3⟩:=ht;obtain ⟨Al,cl,rfl,hl1,hl2,hl3⟩:=hp;obtain ⟨gt,ot,rfl,hrt⟩:=ht3 (by omega);have hrn:=hrt.elem cR i hi;obtain ⟨hok,hsmall⟩:=hst;refine aA Tryz.func365 rfl Tryz.ntmps365 rfl ?_;refine aI 421 2 ?_;generalize hn:L[i]=n at hrn hwf;generalize hR:yO L n i st=R;unfold yO kw at hR;by_cases hfe:bM n=0
 ·obtain ⟨hb0,hb16⟩:=vE hfe;obtain ⟨k,hk⟩:=Yu hb0;obtain ⟨hf1,hf7⟩:=zr hfe;have c1:=fun w=>hf1 ▸ lg n hwf.1 w;have c2:=fun w=>oU n.fn hwf.2.1 hwf.2.2 w;have c3:=fun w=>mH n.fn w;have hne:=fun h7=>rE (hf7 h7).1;have har:=fun h7=>(hf7 h7).2;have c4: ∀ w,aF Tryz.prog 245 [.agg (bu n).toArray] w (.int .i64 (k:Int)):=fun w=>hk ▸ wo n w;rw [if_neg (by simp [hfe]),hk,Yc] at hR;generalize cg n.fn=ar at har c3;repeat' (first|apply ag;exact rfl;exact rfl;intro w hm;exact c1 w|apply ag;exact rfl;exact rfl;intro w hm;exact c2 w|apply ag;exact rfl;exact rfl;intro w hm;exact c3 w|apply ag;exact rfl;exact rfl;intro w hm;exact c4 w|apply ai;exact rfl;apply fG;exact rfl;exact rfl;exact hne (by assumption)|apply Tm (c:= .tmp 24) [0,1,2,8];exact rfl|apply ai;exact rfl;apply rV;exact rfl;exact rfl;omega;simp only [maxLen];omega|refine sT ?_|refine sO ?_|refine sM fun _=>?_|refine sC ?_ ?_<;>intro hb<;>try omega|exact cT|fail)
  ·rw [if_pos (Or.inl (by omega))] at hR;subst hR;exact dm (.inl rfl) Tryz.results365 rfl rfl (H' := [.own none 421 2 0 0 []]) mS ⟨none,0,rfl,rfl⟩
  ·rename_i g;have htl:=kZ st k (by omega);have hlt: ¬ ((st.length:Int)<(k:Int)):=by omega
   refine ay [0,1,2,8,11,12] rfl (fun j:Nat=> [(13,.int .i64 (cL ((bD st k).take j):Int)),(14,.int .i64 (j:Int))]) (fun _=> [.box g 132 (bu n),.own none 421 2 0 0 []]) (fun j=>j≤k∧fu L n 0 (bD st k)=fu L n (j:Int) ((bD st k).drop j)) (fun j=>k - j) 0 ⟨by omega,rfl⟩ sB mS ?_;rintro j ⟨hj,hfit⟩;by_cases hjk:j<k
   ·obtain ⟨gl,ol,rfl,hrl⟩:=hl3 (by omega);have hjt:j<(bD st k).length:=by omega
    have hpe:(bD st k)[j]=st[st.length - k+j]'(by omega):=by simp [bD]
    have hrp:=hrl.elem zA (st.length - k+j) (by omega);have hds:=uy (bD st k) j hjt;rw [Vy hjt,fu] at hfit;rw [← hpe] at hrp;have hpm:=jL (VL hjt);generalize (bD st k)[j]=p at hpm hrp hds hfit;obtain ⟨hp1,hp2,hp3⟩:=hok p hpm;have hrr:=hrt.elem cR p.root (by omega);have hf:=Js hfe (L:=L) (p:=p) (by omega) (by rw [hp3,jR]) (i:=(j:Int)) (by omega) (by omega);have hcall:=fun w=>IP n (j:Int) (L[p.root]'(by omega)) w;rw [← hf] at hcall;generalize L[p.root]'(by omega)=m at hrr hcall;generalize hfo:vD L n (j:Int) p=fo at hcall hfit;have hd33:=nA ((bD st k).take j) fun q hq=>(hok q (jL (WV hq))).2.1;repeat' (first|apply dw;exact rfl;exact rfl;intro w hm;exact hcall w|apply ai;exact rfl;apply gQ;exact rfl;exact rfl;simp only [maxLen];omega|apply aY;exact rfl;apply gQ;exact rfl;exact rfl;simp only [maxLen];omega|apply ai;exact rfl;apply Ke;exact rfl;exact rfl;simp only [maxLen];omega|apply ai;exact rfl;apply jn;exact rfl;exact rfl;simp only [maxLen];omega|apply ai;exact rfl;apply H5;exact rfl;exact rfl|refine sT ?_|refine sQ ?_|refine sO ?_|refine sOQ ?_|refine sD ?_|refine sM fun _=>?_|refine sC ?_ ?_<;>intro hb<;>try omega|refine sCQ ?_ ?_<;>intro hb<;>try omega|exact cT|fail)
    ·rw [if_pos (Or.inr (by rw [hfit];simp_all))] at hR;subst hR;exact dm (.inl rfl) Tryz.results365 rfl rfl (H' := [.own none 421 2 0 0 []]) mS ⟨none,0,rfl,rfl⟩
    ·rw [Xx 1,← hds];refine ⟨j+1,?_,(by first|omega|dsimp only;omega),sB,sB,mS⟩;refine ⟨by omega,?_⟩;rw [hfit,hb,Wp]
     rfl
   ·have e:j=k:=by omega
    subst e;have htk:(bD st j).take j=bD st j:=Wl (by omega);rw [htk];have hd33:=nA (bD st j) fun q hq=>(hok q (jL hq)).2.1;rw [VY (by omega),fu] at hfit;rw [if_neg (by rw [hfit];simp;omega)] at hR;have hcut:=hp'.cut (lo:=0) (hi:=st.length - j) (sz:=2) (by omega) (by omega);have hcl:(((st.flatMap sL).drop (0*2)).take ((st.length - j - 0)*2))=(st.take (st.length - j)).flatMap sL:=by
     rw [XV,WH,WU,jV zA]
    rw [hcl] at hcut;have hll:((st.take (st.length - j)).flatMap sL).length=(st.length - j - 0)*2:=by rw [bh zA,VQ];omega
    repeat' first|apply dN;exact rfl;intro gb|apply ai;exact rfl;apply jY (lo:=0) (hi:=st.length - j);exact rfl;exact rfl;exact ⟨_,rfl⟩;omega;omega|apply dA (n' :=0) (c:=0) (A:=some _) (m:=st.length - j - 0);(iterate 3 exact rfl);exact pK;intro w hm;exact hcut.of_w0 hm;exact hll;exact MR _;omega;simp only [maxLen];omega;intro A' cap' hA|apply dB;(iterate 3 exact rfl);(repeat first|exact .hd|apply Sel.tl|apply In.tl);intro w hm;exact hm.cells_own (by (repeat first|exact .hd|apply Sel.tl|apply In.tl));exact rfl;simp [Value.oneCell',sl];omega;simp only [maxLen];omega;intro A' cap' hA'|refine sT ?_|refine sM fun _=>?_|refine sC ?_ ?_<;>intro hb<;>try omega|exact cT|fail
    ·rw [if_pos (by omega)] at hR;subst hR;exact dm (.inl rfl) Tryz.results365 rfl rfl (H' := [.own none 421 2 0 0 []]) mS ⟨none,0,rfl,rfl⟩
    ·rw [if_neg (by omega)] at hR;subst hR;have e1:(st.take (st.length - j)++ [(⟨i,cL (bD st j),decide (n.kind=3)⟩:Pt)]).length=0+(st.length - j - 0)+1:=by simp
     have e2:(st.take (st.length - j)++ [(⟨i,cL (bD st j),decide (n.kind=3)⟩:Pt)]).flatMap sL= []++(st.take (st.length - j)).flatMap sL++ [.int .i64 (i:Int),.int .i64 (cL (bD st j):Int)]:=by
      rw [VF];rfl
     refine dm (.inl rfl) Tryz.results365 rfl rfl (H' := [.own A' 421 2 (0+(st.length - j - 0)+1) cap' ([]++(st.take (st.length - j)).flatMap sL++ [.int .i64 (i:Int),.int .i64 (cL (bD st j):Int)])]) mS ⟨A',cap',?_⟩;dsimp only;rw [e1,e2];exact ⟨rfl,rfl⟩
 ·rw [if_pos hfe] at hR;rcases G8 hfe with ⟨h1,h2⟩|⟨h1,h7,h2,h3⟩|⟨h1,h7,h2,h3,h4⟩
  ·have c1:=fun w=>h1 ▸ lg n hwf.1 w;rw [h2] at hR;subst hR;repeat' (first|apply ai;exact rfl;apply aa;exact rfl;exact rfl;exact hi|apply ai;exact rfl;apply bC;exact rfl;exact hrn;exact rfl|apply ag;exact rfl;exact rfl;intro w hm;exact c1 w|refine sT ?_|refine sM fun _=>?_|refine sC ?_ ?_<;>intro hb<;>try omega|exact cT|fail)
   exact dm (.inl rfl) Tryz.results365 rfl rfl (H' := [.own none 421 2 0 0 []]) mS ⟨none,0,rfl,rfl⟩
  ·have c1:=fun w=>h1 ▸ lg n hwf.1 w;have c2:=fun w=>wQ h2 hwf.2.1 ▸ oU n.fn hwf.2.1 hwf.2.2 w;rw [h3] at hR;subst hR;repeat' (first|apply ai;exact rfl;apply aa;exact rfl;exact rfl;exact hi|apply ai;exact rfl;apply bC;exact rfl;exact hrn;exact rfl|apply ag;exact rfl;exact rfl;intro w hm;exact c1 w|apply ag;exact rfl;exact rfl;intro w hm;exact c2 w|apply ai;exact rfl;apply pO;(iterate 3 exact rfl)|refine sT ?_|refine sM fun _=>?_|refine sC ?_ ?_<;>intro hb<;>try omega|exact cT|fail)
   exact dm (.inl rfl) Tryz.results365 rfl rfl (H' := [.own none 421 2 0 0 []]) mS ⟨none,0,rfl,rfl⟩
  ·have c1:=fun w=>h1 ▸ lg n hwf.1 w;have c2:=fun w=>oU n.fn hwf.2.1 hwf.2.2 w;have c3:=fun w=>mH n.fn w;have hne:=rE h2;rw [h4] at hR;subst hR;generalize cg n.fn=ar at h3 c3;repeat' (first|apply ai;exact rfl;apply aa;exact rfl;exact rfl;exact hi|apply ai;exact rfl;apply bC;exact rfl;exact hrn;exact rfl|apply ag;exact rfl;exact rfl;intro w hm;exact c1 w|apply ag;exact rfl;exact rfl;intro w hm;exact c2 w|apply ag;exact rfl;exact rfl;intro w hm;exact c3 w|apply ai;exact rfl;apply fG;exact rfl;exact rfl;exact hne|refine sT ?_|refine sM fun _=>?_|refine sC ?_ ?_<;>intro hb<;>try omega|exact cT|fail)
   all_goals exact dm (.inl rfl) Tryz.results365 rfl rfl (H' := [.own none 421 2 0 0 []]) mS ⟨none,0,rfl,rfl⟩
attribute [local irreducible] bg
theorem Bx {L:List Nd} {n:Nd} {i:Nat} {st:List Pt} {e:Int} (h:kw L n i st= .inl e):e≠0:=by
 unfold kw at h;split at h
 ·injection h with h;subst h;assumption
 ·split at h
  ·injection h with h;omega
  ·split at h
   ·injection h with h;omega
   ·cases h
theorem v8 {L:List Nd} {n:Nd} {i:Nat} {st st' :List Pt} {ks:List Nat} {d:Nat} (h:kw L n i st= .inr (st',ks,d)): ∃ a,(∀ p∈a,p∈st)∧a.length≤st.length∧st' =a++ [⟨i,d,decide (n.kind=3)⟩]∧d≤32:=by
 unfold kw at h;split at h
 ·cases h
 ·split at h
  ·cases h
  ·split at h
   ·cases h
   ·simp only [Sum.inr.injEq,Prod.mk.injEq] at h;obtain ⟨rfl,rfl,rfl⟩:=h;exact ⟨_,fun p hp=>WV hp,by simp,rfl,by omega⟩
theorem E8 {L:List Nd} {i:Nat} (hi:i<L.length) {st st' :List Pt} {ks:List Nat} {d:Nat} (ho:TopsOk L i st) (h:kw L L[i] i st= .inr (st',ks,d)):TopsOk L (i+1) st' :=by
 obtain ⟨a,h1,h2,rfl,h3⟩:=v8 h;refine ⟨fun p hp=> ?_,by have:=ho.small;simp;omega⟩;rcases VH.1 hp with hp|hp
 ·obtain ⟨q1,q2,q3⟩:=ho.ok p (h1 p hp);exact ⟨by omega,q2,q3⟩
 ·rw [Vx.1 hp];exact ⟨XH i,h3,by rw [jR hi]⟩
def dG (L:List Nd):List Nd→Nat→List Pt→List Pt × Int
 | [],_,st=>(st,0)
 |n::r,i,st=>match kw L n i st with
  | .inl e=>([],e)
  | .inr x=>dG L r (i+1) x.1
def GG (st:List Pt):Nat:=(st.getLast?.map Pt.depth).getD 0
theorem y8 (L:List Nd): ∀ (r:List Nd) (i:Nat) (st:List Pt) (vs:List oE),KD vs=GG st→
 (fV L r i st vs).1=(if (dG L r i st).2≠0 then (dG L r i st).2 else if (dG L r i st).1.length=1 then 0 else 4)∧((dG L r i st).2=0→KD (fV L r i st vs).2=GG (dG L r i st).1)
 | [],i,st,vs,h=>by
  refine ⟨?_,fun _=>h⟩;by_cases h1:st.length=1<;>simp [fV,dG,h1]
 |n::r,i,st,vs,h=>by
  rw [fV,dG]
  cases hs:kw L n i st with
  |inl e=>have:=Bx hs;simp [this]
  |inr x=>
   obtain ⟨st',ks,d⟩:=x;obtain ⟨a,_,_,rfl,_⟩:=v8 hs;dsimp only;exact y8 L r (i+1) _ _ (by simp [KD,GG])
theorem FJ (L:List Nd):nB L=(if 256<L.length then (0,5) else if (dG L L 0 []).2≠0 then (0,(dG L L 0 []).2) else if (dG L L 0 []).1.length≠1∨jS L (L.length - 1)=3 then (0,4) else (((GG (dG L L 0 []).1:Nat):Int),0):Int × Int):=by
 obtain ⟨h1,h2⟩:=y8 L L 0 [] [] rfl;have h0:L.length=0→(dG L L 0 []).2=0∧(dG L L 0 []).1.length=0:=fun c=>by
  have:L= []:=Wo c;subst this;simp [dG]
 unfold nB eD kN;generalize fV L L 0 [] []=wk at h1 h2;generalize dG L L 0 []=j at h0 h1 h2;generalize jS L (L.length - 1)=k;obtain ⟨w1,w2⟩:=wk;obtain ⟨j1,j2⟩:=j;dsimp only at h0 h1 h2 ⊢;by_cases c1:256<L.length
 ·simp [c1]
 by_cases c2:L.length=0
 ·obtain ⟨a1,a2⟩:=h0 c2;simp only [if_neg c1,if_pos c2];simp [a1,a2]
 simp only [if_neg c1,if_neg c2];clear c1 c2 h0;by_cases c3:j2=0
 ·have h2' :=h2 c3;by_cases c4:j1.length=1
  ·by_cases c5:k=3<;>simp_all
  ·simp_all
 ·simp_all
theorem Pj (L:List Nd) (hlen:L.length≤256) (hwf: ∀ n∈L,wfN n) (tv:Value) (w:World) (ht:Reads w tv L.length (L.flatMap bu)):
 FnAt Tryz.prog 310 [tv] w fun v H=> ∃ A cap,v= .tuple #[sl A (dG L L 0 []).1.length cap,.int .i64 (dG L L 0 []).2]∧H= [.own A 421 2 (dG L L 0 []).1.length cap ((dG L L 0 []).1.flatMap sL)]:=by
 have ht' :=ht;obtain ⟨At,ct,rfl,ht1,ht2,ht3⟩:=ht;refine aA Tryz.func310 rfl Tryz.ntmps310 rfl ?_;refine aI 421 2 ?_;refine aI 421 2 ?_;generalize hR:dG L L 0 []=R;repeat' (first|refine sT ?_|refine sM fun _=>?_|refine sC ?_ ?_<;>intro hb<;>try omega|fail)
 refine ay [0] rfl (fun x:Nat × List Pt × Option Nat × Nat=> [(4,sl x.2.2.1 x.2.1.length x.2.2.2),(5,.int .i64 (x.1:Int))]) (fun x=> [.own x.2.2.1 421 2 x.2.1.length x.2.2.2 (x.2.1.flatMap sL),.own none 421 2 0 0 []]) (fun x=>x.1≤L.length∧TopsOk L x.1 x.2.1∧R=dG L (L.drop x.1) x.1 x.2.1) (fun x=>L.length - x.1) (0,[],none,0) ⟨by omega,⟨fun p hp=>by simp at hp,Vt _⟩,hR.symm⟩ sB mS ?_;rintro ⟨i,st,A,cap⟩ ⟨hi,hok,hrec⟩;dsimp only at hi hok hrec ⊢;by_cases hlt:i<L.length
 ·rw [Vy hlt,dG] at hrec;have hnode:=fun (w' :World) (H:List Blk) (hm:Mem w w' H) (hr:Reads w' (sl A st.length cap) st.length (st.flatMap sL))=>IJ L i hlt hlen (hwf _ (VL hlt)) st hok _ _ w' (ht'.of_w0 hm) hr;have hto:=fun {st' ks d}=>E8 (st' :=st') (ks:=ks) (d:=d) hlt hok;unfold yO at hnode;generalize hs:kw L L[i] i st=s at hrec hnode hto
  cases s with
  |inl e=>
   have he:=Bx hs;dsimp only at hrec hnode;subst hrec;repeat' (first|apply aJ;exact rfl;exact rfl;intro w' hm;exact hnode w' _ hm (Reads.of_own hm pK);rintro v H' ⟨A',cap',rfl,rfl⟩|refine sT ?_|refine sM fun _=>?_|refine sC ?_ ?_<;>intro hb<;>try omega|fail)
   ·exact dm (.inl rfl) Tryz.results310 rfl rfl (H' := [.own none 421 2 0 0 []]) mS ⟨none,0,rfl,rfl⟩
  |inr x=>
   obtain ⟨st',ks,d⟩:=x;dsimp only at hrec hnode;repeat' (first|apply aJ;exact rfl;exact rfl;intro w' hm;exact hnode w' _ hm (Reads.of_own hm pK);rintro v H' ⟨A',cap',rfl,rfl⟩|refine sT ?_|refine sN ?_|refine sM fun _=>?_|refine sC ?_ ?_<;>intro hb<;>try omega|fail)
   refine ⟨(i+1,st',A',cap'),?_,(by first|omega|dsimp only;omega),sB,sB,mS⟩;exact ⟨hlt,hto rfl,hrec⟩
 ·have e:i=L.length:=by omega
  subst e;rw [V8,dG] at hrec;subst hrec;repeat' (first|refine sT ?_|refine sM fun _=>?_|refine sC ?_ ?_<;>intro hb<;>try omega|fail)
  exact dm (.inl rfl) Tryz.results310 rfl rfl (H' := [.own A 421 2 st.length cap (st.flatMap sL)]) mS ⟨A,cap,rfl,rfl⟩
theorem MF {st:List Pt} (h:st.length=1): ∃ p,st= [p]∧GG st=p.depth:=by
 match st,h with
 | [p],_=>exact ⟨p,rfl,rfl⟩
theorem wn (L:List Nd) (hwf: ∀ n∈L,wfN n) (tv:Value) (w:World) (ht:Reads w tv L.length (L.flatMap bu)):aF Tryz.prog 244 [tv] w (.tuple #[.int .i64 (nB L).1,.int .i64 (nB L).2]):=by
 have ht' :=ht;obtain ⟨At,ct,rfl,ht1,ht2,ht3⟩:=ht;refine aA Tryz.func244 rfl Tryz.ntmps244 rfl ?_;have hd:=FJ L;generalize hde:nB L=de at hd;by_cases h256:256<L.length
 ·rw [if_pos h256] at hd;subst hd;repeat' (first|refine sT ?_|refine sM fun _=>?_|refine sC ?_ ?_<;>intro hb<;>try omega|fail)
  (refine rT2 ?_)
  rfl
 have hj:=fun (w' :World) (H:List Blk) (hm:Mem w w' H)=>Pj L (by omega) hwf _ w' (ht'.of_w0 hm);rw [if_neg h256] at hd;have h0:L.length=0→(dG L L 0 []).1.length=0:=fun c=>by
  have:L= []:=Wo c;subst this;simp [dG]
 generalize dG L L 0 []=j at hj hd h0;obtain ⟨st,e⟩:=j;dsimp only at hj hd h0;by_cases he:e=0
 ·rw [if_neg (by simp [he])] at hd;by_cases hl:st.length=1
  ·obtain ⟨p,rfl,hp⟩:=MF hl;obtain ⟨gt,ot,rfl,hrt⟩:=ht3 (by omega);have hrl:=hrt.elem cR (L.length - 1) (by omega);have hk:jS L (L.length - 1)=(L[L.length - 1]'(by omega)).kind:=jR _;rw [hk,hp] at hd;generalize (L[L.length - 1]'(by omega))=nl at hrl hd;subst he;repeat' (first|apply aJ;exact rfl;exact rfl;intro w' hm;exact hj w' _ hm;rintro v H' ⟨A',cap',rfl,rfl⟩|refine zZJ ?_|refine sM fun _=>?_|refine sC ?_ ?_<;>intro hb<;>try omega|fail)
   ·rw [if_pos (.inr hb)] at hd;subst hd;refine rT2 ?_
    rfl
   ·rw [if_neg (by simp;omega)] at hd;subst hd;refine Qt .hd (by simp) fun ga hA=> ?_;subst hA;repeat' (first|apply ai;exact rfl;apply aa (j:=0);exact rfl;exact rfl;exact Nat.one_pos|apply ai;exact rfl;apply aq;exact rfl;exact pK;exact rfl|refine sT ?_|refine sM fun _=>?_|refine sC ?_ ?_<;>intro hb<;>try omega|fail)
    (refine rT2 ?_)
    rfl
  ·rw [if_pos (.inl hl)] at hd;subst hd he;repeat' (first|apply aJ;exact rfl;exact rfl;intro w' hm;exact hj w' _ hm;rintro v H' ⟨A',cap',rfl,rfl⟩|refine zZJ ?_|refine sM fun _=>?_|refine sC ?_ ?_<;>intro hb<;>try omega|fail)
   (refine rT2 ?_)
   rfl
 ·rw [if_pos he] at hd;subst hd;repeat' (first|apply aJ;exact rfl;exact rfl;intro w' hm;exact hj w' _ hm;rintro v H' ⟨A',cap',rfl,rfl⟩|refine sT ?_|refine sM fun _=>?_|refine sC ?_ ?_<;>intro hb<;>try omega|fail)
  (refine rT2 ?_)
  rfl
theorem FL (L:List Nd) (hwf: ∀ n∈L,wfN n) (tv:Value) (w:World) (ht:Reads w tv L.length (L.flatMap bu)):aF Tryz.prog 166 [tv] w (.int .i64 (eD L)):=by
 refine aA Tryz.func166 rfl Tryz.ntmps166 rfl ?_;have hd:(nB L).2=eD L:=by
  unfold nB;split
  ·rfl
  ·rename_i h;simp at h;simp [h]
 repeat' first|apply ag;exact rfl;exact rfl;intro w' hm;exact wn L hwf tv w' (ht.of_w0 hm)|refine sT ?_|refine sM fun _=>?_|refine sC ?_ ?_<;>intro hb<;>try omega|fail
 (refine rT1 ?_);rw [hd]
end Go.SL

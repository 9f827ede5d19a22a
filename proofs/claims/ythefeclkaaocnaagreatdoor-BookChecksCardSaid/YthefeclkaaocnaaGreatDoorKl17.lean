/-
  Lemmas and walks, put together: W17.
-/
import Derived.Test.YthefeclkaaocnaaGreatDoorKl14
set_option linter.unusedSimpArgs false
set_option linter.unusedVariables false
set_option maxRecDepth 20000
namespace Go.SL
open Go Go.Proofs
attribute [local irreducible] W WL WQ WG WA VOp thn blk bq aS FnIn
def ny (n:Nd) (i:Int) (m:Nd):Bool:=
 if n.kind≠7 then decide (m.kind≠3) else if 46≤n.fn then decide (m.kind=3)||decide (m.kind=2) else decide (m.kind≠3)||ep n.fn i
set_option maxRecDepth 10000 in
theorem AK (n:Nd) (i:Int) (m:Nd) (w:World):ay Tryz.prog 346 [.agg (bY n).toArray,.int .i64 i,.agg (bY m).toArray] w (.bool (ny n i m)):=by
 refine aq Tryz.func346 rfl Tryz.ntmps346 rfl ?_
 repeat' (first|(apply aa;exact rfl;exact rfl;(intro w hm;exact rk n.fn i w))|refine sT ?_|refine sM fun _=> ?_|(refine sC ?_ ?_<;>intro hb<;>try omega)|exact cT|fail)
 all_goals ((refine rT1 ?_);((try simp only [← Int.not_lt] at*);simp_all [ny, -Int.not_lt, -Int.not_le,← Int.not_lt]))
theorem rX {n:Nd} (h:cK n=0):dB n=true∧(n.kind=7→cO n.fn=true∧(bD n.fn).1≤n.n∧n.n≤(bD n.fn).2):=by
 unfold cK at h
 split at h
 ·
  cases h
 ·
  rename_i h1
  have hf:dB n=true:=by
   unfold dB
   cases ha:jw n<;>cases hb:eqN n (db n)<;>simp_all
  refine ⟨hf,fun h7=> ?_⟩
  rw [if_neg (by simp [h7])] at h
  cases hk:cO n.fn
  ·
   rw [mo hk] at h
   simp at h
  ·
   rw [jn hk] at h
   refine ⟨rfl,?_⟩
   dsimp only at h
   rw [if_neg (by simp)] at h
   split at h
   ·
    cases h
   ·
    omega
theorem ri {fn:Int} (h:cO fn=true):gx fn=decide (46≤fn):=by
 simp only [cO,LM,decide_eq_true_eq] at h
 unfold gx
 rw [decide_eq_true (by omega:fn≤50),Ms]
theorem tq {fn i:Int} (h:46≤fn) (hk:cO fn=true) (h0:0≤i) (h1:i<(bD fn).2):ep fn i=true:=by
 simp only [cO,LM,decide_eq_true_eq] at hk
 unfold ep
 rw [if_neg (by omega),if_neg (by omega),if_neg (by omega),if_neg (by omega),decide_eq_true h,decide_eq_true hk.2]
 rfl
theorem Bj {L:List Nd} {n:Nd} {p:Pt} (h:cK n=0) (hr:p.root<L.length) (hp:p.wide=decide (L[p.root].kind=3)) {i:Int} (h0:0≤i) (h1:i<below n):rV L n i p=ny n i L[p.root]:=by
 obtain ⟨_,h7⟩:=rX h
 unfold rV ny yw
 rw [gF hr,hp]
 generalize L[p.root].kind=k
 by_cases hk7:n.kind=7
 ·
  obtain ⟨hk,ha,hb⟩:=h7 hk7
  have hb7:below n=n.n:=by simp [below,hk7]
  rw [if_pos hk7,if_neg (by simp [hk7]),ri hk,qC hk]
  by_cases h46:46≤n.fn
  ·
   rw [if_pos h46,tq h46 hk h0 (by omega)]
   by_cases e3:k=3
   ·
    simp [e3,hk7,h46]
   ·
    by_cases e2:k=2<;>simp [e3,e2,hk7,h46]
  ·
   rw [if_neg h46]
   by_cases e3:k=3<;>simp [e3,h46]
 ·
  rw [if_neg hk7,if_pos hk7]
  by_cases e3:k=3<;>simp [e3,hk7]
theorem l7 {fn:Int} (hk:cO fn=true):fa fn≠av:=by
 simp only [cO,LM,decide_eq_true_eq] at hk
 obtain ⟨j,hj⟩:=NL (by omega:0≤fn - 1)
 have e2:fa fn=cN.getD j av:=by
  rw [fa,if_neg (by omega),show fn.toNat=j+1 by omega]
  rfl
 rw [e2]
 exact (FY j (by omega)).1
theorem pW {fn:Int} (hk:cO fn=false) (h0:0≤fn):fa fn=av:=by
 simp only [cO,MB,decide_eq_false_iff_not] at hk
 rw [fa]
 split
 ·
  rfl
 ·
  rw [show fn.toNat=0 by omega]
  rfl
theorem yR {n:Nd} (h:cK n≠0):(dB n=false∧cK n=2)∨(dB n=true∧n.kind=7∧cO n.fn=false∧cK n=10)∨
  (dB n=true∧n.kind=7∧cO n.fn=true∧(n.n<(bD n.fn).1∨(bD n.fn).2<n.n)∧cK n=11):=by
 unfold cK at h ⊢
 by_cases h1:jw n=false∨eqN n (db n)=false
 ·
  left
  refine ⟨?_,if_pos h1⟩
  unfold dB
  rcases h1 with h1|h1<;>simp [h1]
 ·
  right
  rw [if_neg h1] at h ⊢
  have hf:dB n=true:=by
   unfold dB
   cases ha:jw n<;>cases hb:eqN n (db n)<;>simp_all
  by_cases h7:n.kind=7
  ·
   rw [if_neg (by simp [h7])] at h ⊢
   cases hk:cO n.fn
   ·
    left
    rw [mo hk] at h ⊢
    exact ⟨hf,h7,rfl,by simp⟩
   ·
    right
    rw [jn hk] at h ⊢
    dsimp only at h ⊢
    rw [if_neg (by simp)] at h ⊢
    by_cases hc:n.n<(bD n.fn).1∨(bD n.fn).2<n.n
    ·
     exact ⟨hf,h7,rfl,hc,if_pos hc⟩
    ·
     rw [if_neg hc] at h
     exact absurd rfl h
  ·
   rw [if_pos (by simpa using h7)] at h
   exact absurd rfl h
def mU (p:Pt):List Value:= [.int .i64 (p.root:Int),.int .i64 (p.depth:Int)]
theorem sj (p:Pt):(mU p).length=2:=rfl
def wfN (n:Nd):Prop:= -9223372036854775808≤n.v.num∧0≤n.fn∧n.fn≤255
def rE (L:List Nd) (n:Nd) (i:Nat) (st:List Pt):List Pt × Int:=
 match kH L n i st with
 | .inl e=>([],e)
 | .inr r=>(r.1,0)
theorem Cr {P:Program} {w0:World} {s:az} {H:List Blk} {ty:TypeId} {x y:Operand} {b:Nat} {t t' :TypeId} (hx:ev s x=some (.int .i64 1)) (hy:ev s y=some (.int .i64 (b:Nat))) (hb:b+1≤maxLen):VOp P w0 s H (.binOp .add t x y t') ty (.int .i64 ((b+1:Nat):Int)):=by
 have h:=dc (P:=P) (w0:=w0) (H:=H) (ty:=ty) (t:=t) (t' :=t') (a:=1) hx hy (by omega)
 rwa [Ng 1 b] at h
theorem Eg (L:List Pt): ∀ u∈L.flatMap mU,u.oneCell' =true:=by
 intro u hu
 obtain ⟨n,_,h⟩:=MM.1 hu
 simp only [mU,L7,Nn,or_false] at h
 rcases h with rfl|rfl<;>rfl
structure TopsOk (L:List Nd) (i:Nat) (st:List Pt):Prop where
 ok: ∀ p∈st,p.root<i∧p.depth≤32∧p.wide=decide (jx L p.root=3)
 small:st.length≤i
set_option maxHeartbeats 2000000 in
theorem AF (L:List Nd) (i:Nat) (hi:i<L.length) (hlen:L.length≤256) (hwf:wfN L[i]) (st:List Pt) (hst:TopsOk L i st) (tv lv:Value) (w:World) (ht:Reads w tv L.length (L.flatMap bY)) (hp:Reads w lv st.length (st.flatMap mU)):
  aS Tryz.prog 325 [tv,.int .i64 (i:Int),lv] w fun v H=> ∃ A cap,v= .tuple #[sl A (rE L L[i] i st).1.length cap,.int .i64 (rE L L[i] i st).2]∧H= [.own A 387 2 (rE L L[i] i st).1.length cap ((rE L L[i] i st).1.flatMap mU)]:=by
 have hp' :=hp
 obtain ⟨At,ct,rfl,ht1,ht2,ht3⟩:=ht
 obtain ⟨Al,cl,rfl,hl1,hl2,hl3⟩:=hp
 obtain ⟨gt,ot,rfl,hrt⟩:=ht3 (by omega)
 have hrn:=hrt.elem fp i hi
 obtain ⟨hok,hsmall⟩:=hst
 refine aq Tryz.func325 rfl Tryz.ntmps325 rfl ?_
 refine aJ 387 2 ?_
 generalize hn:L[i]=n at hrn hwf
 generalize hR:rE L n i st=R
 unfold rE kH at hR
 by_cases hfe:cK n=0
 ·
  obtain ⟨hb0,hb16⟩:=uM hfe
  obtain ⟨k,hk⟩:=NL hb0
  obtain ⟨hf1,hf7⟩:=rX hfe
  have c1:=fun w=>hf1 ▸ iC n hwf.1 w
  have c2:=fun w=>kq n.fn hwf.2.1 hwf.2.2 w
  have c3:=fun w=>jd n.fn w
  have hne:=fun h7=>l7 (hf7 h7).1
  have har:=fun h7=>(hf7 h7).2
  have c4: ∀ w,ay Tryz.prog 270 [.agg (bY n).toArray] w (.int .i64 (k:Int)):=fun w=>hk ▸ xV n w
  rw [if_neg (by simp [hfe]),hk,MY] at hR
  generalize bD n.fn=ar at har c3
  repeat' (first|(apply aa;exact rfl;exact rfl;(intro w hm;exact c1 w))|(apply aa;exact rfl;exact rfl;(intro w hm;exact c2 w))|(apply aa;exact rfl;exact rfl;(intro w hm;exact c3 w))|(apply aa;exact rfl;exact rfl;(intro w hm;exact c4 w))|(apply ak;exact rfl;apply dz;exact rfl;exact rfl;exact hne (by assumption))|(apply JN (c:= .tmp 24) [0,1,2,8];exact rfl)|(apply ak;exact rfl;apply jr;exact rfl;exact rfl;omega;(simp only [maxLen];omega))|refine sT ?_|refine sO ?_|refine sM fun _=> ?_|(refine sC ?_ ?_<;>intro hb<;>try omega)|exact cT|fail)
  ·
   rw [if_pos (Or.inl (by omega))] at hR
   subst hR
   exact ic (.inl rfl) Tryz.results325 rfl rfl (H' := [.own none 387 2 0 0 []]) mS ⟨none,0,rfl,rfl⟩
  ·
   rename_i g
   have htl:=iy st k (by omega)
   have hlt: ¬ ((st.length:Int)<(k:Int)):=by omega
   refine ax [0,1,2,8,11,12] rfl (fun j:Nat=> [(13,.int .i64 (bW ((bo st k).take j):Int)),(14,.int .i64 (j:Int))]) (fun _=> [.box g 174 (bY n),.own none 387 2 0 0 []]) (fun j=>j≤k∧eB L n 0 (bo st k)=eB L n (j:Int) ((bo st k).drop j)) (fun j=>k - j) 0 ⟨by omega,rfl⟩ sB mS ?_
   rintro j ⟨hj,hfit⟩
   by_cases hjk:j<k
   ·
    obtain ⟨gl,ol,rfl,hrl⟩:=hl3 (by omega)
    have hjt:j<(bo st k).length:=by omega
    have hpe:(bo st k)[j]=st[st.length - k+j]'(by omega):=by simp [bo]
    have hrp:=hrl.elem sj (st.length - k+j) (by omega)
    have hds:=nX (bo st k) j hjt
    rw [LJ hjt,eB] at hfit
    rw [← hpe] at hrp
    have hpm:=gk (Mw hjt)
    generalize (bo st k)[j]=p at hpm hrp hds hfit
    obtain ⟨hp1,hp2,hp3⟩:=hok p hpm
    have hrr:=hrt.elem fp p.root (by omega)
    have hf:=Bj hfe (L:=L) (p:=p) (by omega) (by rw [hp3,gF]) (i:=(j:Int)) (by omega) (by omega)
    have hcall:=fun w=>AK n (j:Int) (L[p.root]'(by omega)) w
    rw [← hf] at hcall
    generalize L[p.root]'(by omega)=m at hrr hcall
    generalize hfo:rV L n (j:Int) p=fo at hcall hfit
    have hd33:=jz ((bo st k).take j) fun q hq=>(hok q (gk (MH hq))).2.1
    repeat' (first|(apply dX;exact rfl;exact rfl;(intro w hm;exact hcall w))|(apply ak;exact rfl;apply dc;exact rfl;exact rfl;(simp only [maxLen];omega))|(apply aK;exact rfl;apply dc;exact rfl;exact rfl;(simp only [maxLen];omega))|(apply ak;exact rfl;apply Cr;exact rfl;exact rfl;(simp only [maxLen];omega))|(apply ak;exact rfl;apply dr;exact rfl;exact rfl;(simp only [maxLen];omega))|(apply ak;exact rfl;apply zV;exact rfl;exact rfl)|refine sT ?_|refine sQ ?_|refine sO ?_|refine sOQ ?_|refine sD ?_|refine sM fun _=> ?_|(refine sC ?_ ?_<;>intro hb<;>try omega)|(refine sCQ ?_ ?_<;>intro hb<;>try omega)|exact cT|fail)
    ·
     rw [if_pos (Or.inr (by rw [hfit];simp_all))] at hR
     subst hR
     exact ic (.inl rfl) Tryz.results325 rfl rfl (H' := [.own none 387 2 0 0 []]) mS ⟨none,0,rfl,rfl⟩
    ·
     rw [Ng 1,← hds]
     refine ⟨j+1,?_,(by first|omega|(dsimp only;omega)),sB,sB,mS⟩
     refine ⟨by omega,?_⟩
     rw [hfit,hb,Mi]
     rfl
   ·
    have e:j=k:=by omega
    subst e
    have htk:(bo st j).take j=bo st j:=Mm (by omega)
    rw [htk]
    have hd33:=jz (bo st j) fun q hq=>(hok q (gk hq)).2.1
    rw [L6 (by omega),eB] at hfit
    rw [if_neg (by rw [hfit];simp;omega)] at hR
    have hcut:=hp'.cut (lo:=0) (hi:=st.length - j) (sz:=2) (by omega) (by omega)
    have hcl:(((st.flatMap mU).drop (0*2)).take ((st.length - j - 0)*2))=(st.take (st.length - j)).flatMap mU:=by
     rw [Nat.zero_mul,MP,Np,iK sj]
    rw [hcl] at hcut
    have hll:((st.take (st.length - j)).flatMap mU).length=(st.length - j - 0)*2:=by rw [aD sj,LP];omega
    repeat' (first|(apply dx;exact rfl;intro gb)|(apply ak;exact rfl;apply j8 (lo:=0) (hi:=st.length - j);exact rfl;exact rfl;exact ⟨_,rfl⟩;omega;omega)|(apply cy (n' :=0) (c:=0) (A:=some _) (m:=st.length - j - 0);(iterate 3 exact rfl);exact pK;(intro w hm;exact hcut.of_w0 hm);exact hll;exact Eg _;omega;(simp only [maxLen];omega);intro A' cap' hA)|(apply cI;(iterate 3 exact rfl);(repeat first|exact .hd|apply Sel.tl|apply In.tl);(intro w hm;exact hm.cells_own (by (repeat first|exact .hd|apply Sel.tl|apply In.tl)));exact rfl;(simp [Value.oneCell',sl]);omega;(simp only [maxLen];omega);(intro A' cap' hA'))|refine sT ?_|refine sM fun _=> ?_|(refine sC ?_ ?_<;>intro hb<;>try omega)|exact cT|fail)
    ·
     rw [if_pos (by omega)] at hR
     subst hR
     exact ic (.inl rfl) Tryz.results325 rfl rfl (H' := [.own none 387 2 0 0 []]) mS ⟨none,0,rfl,rfl⟩
    ·
     rw [if_neg (by omega)] at hR
     subst hR
     have e1:(st.take (st.length - j)++ [(⟨i,bW (bo st j),decide (n.kind=3)⟩:Pt)]).length=0+(st.length - j - 0)+1:=by simp
     have e2:(st.take (st.length - j)++ [(⟨i,bW (bo st j),decide (n.kind=3)⟩:Pt)]).flatMap mU= []++(st.take (st.length - j)).flatMap mU++ [.int .i64 (i:Int),.int .i64 (bW (bo st j):Int)]:=by
      rw [LY];rfl
     refine ic (.inl rfl) Tryz.results325 rfl rfl (H' := [.own A' 387 2 (0+(st.length - j - 0)+1) cap' ([]++(st.take (st.length - j)).flatMap mU++ [.int .i64 (i:Int),.int .i64 (bW (bo st j):Int)])]) mS ⟨A',cap',?_⟩
     dsimp only
     rw [e1,e2]
     exact ⟨rfl,rfl⟩
 ·
  rw [if_pos hfe] at hR
  rcases yR hfe with ⟨h1,h2⟩|⟨h1,h7,h2,h3⟩|⟨h1,h7,h2,h3,h4⟩
  ·
   have c1:=fun w=>h1 ▸ iC n hwf.1 w
   rw [h2] at hR
   subst hR
   repeat' (first|(apply ak;exact rfl;apply aj;exact rfl;exact rfl;exact hi)|(apply ak;exact rfl;apply aA;exact rfl;exact hrn;exact rfl)|(apply aa;exact rfl;exact rfl;(intro w hm;exact c1 w))|refine sT ?_|refine sM fun _=> ?_|(refine sC ?_ ?_<;>intro hb<;>try omega)|exact cT|fail)
   exact ic (.inl rfl) Tryz.results325 rfl rfl (H' := [.own none 387 2 0 0 []]) mS ⟨none,0,rfl,rfl⟩
  ·
   have c1:=fun w=>h1 ▸ iC n hwf.1 w
   have c2:=fun w=>pW h2 hwf.2.1 ▸ kq n.fn hwf.2.1 hwf.2.2 w
   rw [h3] at hR
   subst hR
   repeat' (first|(apply ak;exact rfl;apply aj;exact rfl;exact rfl;exact hi)|(apply ak;exact rfl;apply aA;exact rfl;exact hrn;exact rfl)|(apply aa;exact rfl;exact rfl;(intro w hm;exact c1 w))|(apply aa;exact rfl;exact rfl;(intro w hm;exact c2 w))|(apply ak;exact rfl;apply kP;(iterate 3 exact rfl))|refine sT ?_|refine sM fun _=> ?_|(refine sC ?_ ?_<;>intro hb<;>try omega)|exact cT|fail)
   exact ic (.inl rfl) Tryz.results325 rfl rfl (H' := [.own none 387 2 0 0 []]) mS ⟨none,0,rfl,rfl⟩
  ·
   have c1:=fun w=>h1 ▸ iC n hwf.1 w
   have c2:=fun w=>kq n.fn hwf.2.1 hwf.2.2 w
   have c3:=fun w=>jd n.fn w
   have hne:=l7 h2
   rw [h4] at hR
   subst hR
   generalize bD n.fn=ar at h3 c3
   repeat' (first|(apply ak;exact rfl;apply aj;exact rfl;exact rfl;exact hi)|(apply ak;exact rfl;apply aA;exact rfl;exact hrn;exact rfl)|(apply aa;exact rfl;exact rfl;(intro w hm;exact c1 w))|(apply aa;exact rfl;exact rfl;(intro w hm;exact c2 w))|(apply aa;exact rfl;exact rfl;(intro w hm;exact c3 w))|(apply ak;exact rfl;apply dz;exact rfl;exact rfl;exact hne)|refine sT ?_|refine sM fun _=> ?_|(refine sC ?_ ?_<;>intro hb<;>try omega)|exact cT|fail)
   all_goals exact ic (.inl rfl) Tryz.results325 rfl rfl (H' := [.own none 387 2 0 0 []]) mS ⟨none,0,rfl,rfl⟩
end Go.SL

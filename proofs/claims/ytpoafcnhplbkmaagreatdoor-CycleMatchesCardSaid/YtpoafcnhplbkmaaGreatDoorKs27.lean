/-
  Lemmas and walks, put together: Zf Zg Zj.
-/
import Derived.Test.YtpoafcnhplbkmaaGreatDoorKs23
import Derived.Test.YtpoafcnhplbkmaaGreatDoorKs25
import Derived.Test.YtpoafcnhplbkmaaGreatDoorKs26
set_option linter.unusedSimpArgs false
set_option linter.unusedVariables false
set_option maxRecDepth 20000
set_option maxHeartbeats 16000000
namespace Go.SL
open Go Go.Proofs
attribute [local irreducible] W WL WQ WG WA WX WLI WR WT WC WE VOp RW thn blk bH scp aV bz bP FnAt FnIn FnP ceP
theorem H7 (X:Nx) (hX: ∀ i,∀ k∈au X i,k<X.length) (hlen:X.length≤1000) (v:Value) (w:World) (hv:JRd w v X):aC Tryz.prog 115 [v] w (.bool true):=by
 obtain ⟨vs,hvl,⟨Av,cv,rfl,hm1,hm2,hm3⟩,hrow⟩:=hv;refine ay Tryz.func115 rfl Tryz.ntmps115 rfl ?_;repeat' (first|refine zZB ?_|refine sM fun _=>?_|(refine sC ?_ ?_<;>intro hb<;>try omega)|fail)
 refine aw [0,7,8] rfl (fun i:Nat=> [(9,.int .i64 (i:Int))]) (fun _=> []) (fun i=>i≤X.length) (fun i=>X.length - i) 0 (QZ _) sB mS ?_;rintro i hi;by_cases hlt:i<X.length
 ·obtain ⟨u,hu,⟨Ai,ci,rfl,hi1,hi2,hi3⟩⟩:=hrow i hlt;obtain ⟨gv,ov,rfl,hrv⟩:=hm3 (by omega);have hc:=hrv.cellV i hu;have hsl:=hX i;generalize au X i=l at hi1 hi2 hi3 hsl hc;repeat' (first|(apply ai;exact rfl;apply ag (j:=i);exact rfl;exact rfl;exact hlt)|(apply ai;exact rfl;apply bp;exact rfl;exact hc)|refine zZA ?_|refine sM fun _=>?_|(refine sC ?_ ?_<;>intro hb<;>try omega)|fail)
  all_goals try (exfalso;omega)
  refine aw [0,7,8,9,13,14] rfl (fun j:Nat=> [(15,.int .i64 (j:Int))]) (fun _=> []) (fun j=>j≤l.length) (fun j=>l.length - j) 0 (QZ _) sB mS ?_;rintro j hj;by_cases hlj:j<l.length
  ·obtain ⟨gl,ol,rfl,hrl⟩:=hi3 (by omega);have he:=hrl.natN j hlj;have hk:=hsl _ (db hlj);generalize atN l j=k at he hk;repeat' (first|(apply ai;exact rfl;apply ag (j:=j);exact rfl;exact rfl;exact hlj)|(apply ai;exact rfl;apply bp;exact rfl;exact he)|refine zZA ?_|refine sM fun _=>?_|(refine sC ?_ ?_<;>intro hb<;>try omega)|fail)
   all_goals first
    |(exfalso;omega)
    |(refine ⟨j+1,hlj,by omega,by exact sB,by exact sB,by exact mS⟩;done)
  ·repeat' (first|refine zZA ?_|refine sM fun _=>?_|(refine sC ?_ ?_<;>intro hb<;>try omega)|fail)
   all_goals first
    |(exfalso;omega)
    |(refine ⟨i+1,hlt,by omega,by exact sB,by exact sB,by exact mS⟩;done)
 ·repeat' (first|refine zZA ?_|refine sM fun _=>?_|(refine sC ?_ ?_<;>intro hb<;>try omega)|fail)
  all_goals first
   |(exfalso;omega)
   |(exact bJ eIO rfl rfl (.nil _) rfl)
structure TjG where
 c:Nat
 n:Nat
 l:Nat
 o:Nat
 s:Nat
 x:Nat
 e:Nat
 u:Nat
 An:Nat
 Al:Nat
 Ao:Nat
structure TjY where
 As:Option Nat
 cs:Nat
 AO:Option Nat
 cO:Nat
 vs:List Value
def TjG.caps (g:TjG):List Value:= [.pointer (some ⟨g.c,0,none⟩),.pointer (some ⟨g.n,0,none⟩),.pointer (some ⟨g.l,0,none⟩),.pointer (some ⟨g.o,0,none⟩),.pointer (some ⟨g.s,0,none⟩),.pointer (some ⟨g.x,0,none⟩),.pointer (some ⟨g.e,0,none⟩),.pointer (some ⟨g.u,0,none⟩)]
def TjG.fn (g:TjG):Value:= .func (.func 116) #[] g.caps.toArray
def tjB (g:TjG) (n:Nat) (xv:Value) (S:Tj) (y:TjY) (Z:List Blk):List Blk:=
 .own (some g.An) 3 1 n n (nzC S.num):: .own (some g.Al) 3 1 n n (nzC S.low):: .own (some g.Ao) 4 1 n n (aF n S.o):: .own y.As 3 1 S.stk.length y.cs (nzC S.stk):: .own y.AO 68 1 S.out.length y.cO y.vs::
 .box g.c 3 [.int .i64 ((S.cnt:Nat):Int)]:: .box g.n 68 [.slice (some ⟨g.An,0,none⟩) n n]:: .box g.l 68 [.slice (some ⟨g.Al,0,none⟩) n n]:: .box g.o 72 [.slice (some ⟨g.Ao,0,none⟩) n n]:: .box g.s 68 [sl y.As S.stk.length y.cs]:: .box g.x 64 [xv]:: .box g.e 189 [g.fn]:: .box g.u 64 [sl y.AO S.out.length y.cO]::Z
theorem Reads.short {w:World} {A:Option Nat} {m c:Nat} {xs:List Value} (h:Reads w (sl A m c) m xs):Reads w (sl A m m) m xs:=by
 obtain ⟨A',c',e,h1,h2,h3⟩:=h;unfold sl at e ⊢;injection e with e1 e2 e3;exact ⟨_,m,rfl,Rg _,by omega,fun hp=>by rw [e1];exact h3 hp⟩
theorem EG {P:Program} {w0:World} {s:az} {H:List Blk} {ty t e lo m c sz g k:Nat} {x xl:Operand} [ht:Und P t (.slice e)] [hz:Size P e sz] (hx:ev s x=some (.slice (some ⟨g,0,none⟩) m c)) (hxl:ev s xl=some (.int .i64 (lo:Nat))) (h1:lo<m) (h2:m≤c) (hk:m - lo=k):
 VOp P w0 s H (.slice t x (some xl) none none) ty (.slice (some ⟨g,lo*sz,none⟩) k (c - lo)):=hk ▸ H8 hx hxl h1 h2
def GG (X:Nx) (g:TjG) (xv:Value) (w0:World) (m:Nat):Prop:=
 ∀ (S:Tj) (i:Nat) (y:TjY) (Z:List Blk),S.un≤m→TjOk X S→S.cnt+S.un=X.length→i<X.length→S.n i=0→JIn Z y.vs S.out→
  FnIn Tryz.prog 116 (.int .i64 (i:Int)::g.caps) w0 (tjB g X.length xv S y Z) fun v H=>v= .tuple #[]∧ ∃ S' ex y' Z',Entd X S i S' ex∧S'.cnt+S'.un=X.length∧JIn Z' y'.vs S'.out∧H=tjB g X.length xv S' y' Z'
theorem KG {X:Nx} {S:Tj} (hok:TjOk X S) {i:Nat} (hi:i<X.length):(aF X.length S.o).set (0+i*1) (.bool true)=aF X.length (S.start i).o:=by
 rw [eY];refine aP fun v _=> ?_;rw [GZ (by rw [hok.lo];exact hi)];by_cases e:v=i
 ·rw [if_pos e,if_pos e.symm]
 ·rw [if_neg e,if_neg (fun h=>e h.symm)]
theorem F6 (X:Nx) (hX: ∀ i,∀ k∈au X i,k<X.length) (hlen:X.length≤1000) (g:TjG) (xv:Value) (w0:World) (hxv:JRd w0 xv X) (m:Nat) (ih:GG X g xv w0 m):GG X g xv w0 (m+1):=by
 intro S i y Z hun hok hcn hi h0 hZ;obtain ⟨vs,hvl,⟨Av,cv,rfl,hm1,hm2,hm3⟩,hrow⟩:=hxv;obtain ⟨gv,ov,rfl,hrv⟩:=hm3 (by omega);obtain ⟨u,hu,⟨Ai,ci,rfl,hi1,hi2,hi3⟩⟩:=hrow i hi;have hcr:=hrv.cellV i hu;have hus:=BS (S:=S) (by rw [hok.ln];exact hi) h0;have hstk:=zW hok;have hnum:S.num.length=X.length:=hok.ln;have hlow:S.low.length=X.length:=hok.ll;have hon:=KG hok hi;have hLp:=Ls hok hi h0;have hsX:=hX i;have hcnt:S.cnt≤1000:=by omega
 refine bF Tryz.func116 rfl Tryz.ntmps116 rfl ?_;simp only [tjB,TjG.caps];repeat' (first|refine zZA ?_|refine sM fun _=>?_|(refine sC ?_ ?_<;>intro hb<;>try omega)|fail)
 all_goals try (exfalso;omega)
 refine gy (id:=1) [9,11,13] [] [.box g.c 3 [.int .i64 ((S.cnt+1:Nat):Int)],.box g.n 68 [.slice (some ⟨g.An,0,none⟩) X.length X.length],.box g.l 68 [.slice (some ⟨g.Al,0,none⟩) X.length X.length],.box g.o 72 [.slice (some ⟨g.Ao,0,none⟩) X.length X.length]] (by kernel_rfl) (by kernel_rfl) (by kernel_rfl) mS ?_;repeat' (first|(apply fq (d:=26);(iterate 3 exact rfl);apply ag (j:=i);exact rfl;exact rfl;exact hi)|(apply fq (d:=27);(iterate 3 exact rfl);apply ag (j:=i);exact rfl;exact rfl;exact hi)|(apply fq (d:=28);(iterate 3 exact rfl);apply ag (j:=i);exact rfl;exact rfl;exact hi)|(apply aU (g:=g.An);exact rfl;exact rfl;exact pK;exact rfl;(rw [lB];omega);rw [lA])|(apply aU (g:=g.Al);exact rfl;exact rfl;exact pK;exact rfl;(rw [lB];omega);rw [lA])|(apply aU (g:=g.Ao);exact rfl;exact rfl;exact pK;exact rfl;(rw [eD];omega);rw [hon])|refine zZI ?_|refine sM fun _=>?_|(refine sC ?_ ?_<;>intro hb<;>try omega)|(refine sCW ?_ ?_<;>intro hb<;>try omega)|fail)
 all_goals try (exfalso;omega)
 repeat' (first|(apply aD;(iterate 3 exact rfl);exact pK;exact pK;exact rfl;(simp [Value.oneCell']);omega;(simp only [maxLen];omega);intro gs cs)|(apply ai (d:=35);exact rfl;apply ag (j:=i);exact rfl;exact rfl;exact hi)|(apply ai (d:=36);exact rfl;apply bp;exact rfl;exact hcr)|refine zZA ?_|refine sM fun _=>?_|(refine sC ?_ ?_<;>intro hb<;>try omega)|fail)
 all_goals try (exfalso;omega)
 have hone:nzC S.stk++ [.int .i64 (i:Int)]=nzC (S.stk++ [i]):=by simp [nzC]
 refine aw [0, 1, 2, 3, 4, 5, 6, 7, 8, 36, 37] rfl (fun z : Nat × Tj × List Nat × TjY × List Blk => [(38, .int .i64 (z.1 : Int))]) (fun z => tjB g X.length (.slice (some ⟨gv, ov, none⟩) X.length cv) z.2.1 z.2.2.2.1 z.2.2.2.2) (fun z => z.1 ≤ (au X i).length ∧ Lp X S i z.2.1 z.2.2.1 ((au X i).take z.1) ∧ z.2.1.cnt + z.2.1.un = X.length ∧ S.cnt + 1 ≤ z.2.1.cnt ∧ JIn z.2.2.2.2 z.2.2.2.1.vs z.2.1.out) (fun z => (au X i).length - z.1) (0, S.start i, [], ⟨some gs, cs, y.AO, y.cO, y.vs⟩, Z) ⟨QZ _, hLp, by (show S.cnt + 1 + (S.start i).un = _); omega, Rg _, hZ⟩ sB (by
  rw [hone];simp only [tjB,Tj.start,QT,Rk,Ta];exact mS) ?_
 clear hLp hone hon;rintro ⟨j,S1,ex,y1,Z1⟩ ⟨hj,hL,hcn1,hcn2,hZ1⟩;dsimp only at hj hL hcn1 hcn2 hZ1 ⊢;have hnum1:S1.num.length=X.length:=hL.ok.ln;have hlow1:S1.low.length=X.length:=hL.ok.ll;by_cases hlt:j<(au X i).length
 ·obtain ⟨gl,ol,rfl,hrl⟩:=hi3 (by omega);have he:=hrl.natN j hlt;have hk:=db hlt;have hkl:=hsX _ hk;have htk:(au X i).take (j+1)=(au X i).take j++ [atN (au X i) j]:=by rw [Ra hlt,dN hlt]
  generalize atN (au X i) j=k at he hk hkl htk;have hnk:=cG (l:=S1.num) (k:=k) (by omega);by_cases hn0:S1.n k=0
  ·rw [show atN S1.num k=0 from hn0] at hnk;have hun1:S1.un≤m:=by omega
   have hcall:=ih S1 k y1 Z1 hun1 hL.ok hcn1 hkl hn0 hZ1;simp only [tjB];repeat' (first|(apply ai (d:=40);exact rfl;apply ag (j:=j);exact rfl;exact rfl;exact hlt)|(apply ai (d:=41);exact rfl;apply bp;exact rfl;exact he)|(apply ai (d:=44);exact rfl;apply ag (j:=k);exact rfl;exact rfl;exact hkl)|(apply ai (d:=45);exact rfl;apply aq;exact rfl;exact pK;exact hnk)|(apply kA (f:=116) (caps:=g.caps);exact rfl;exact rfl;infer_instance;exact rfl;exact FnIn.msub hcall (by (simp only [tjB]);exact mS);rintro _ _ ⟨rfl,S2,ex2,y2,Z2,hE,hcn3,hZ2,rfl⟩;simp only [tjB])|refine zZA ?_|refine sM fun _=>?_|(refine sC ?_ ?_<;>intro hb<;>try omega)|fail)
   all_goals try (exfalso;omega)
   have hlow2:S2.low.length=X.length:=hE.ok.ll;have hb1:=cG (l:=S2.low) (k:=i) (by omega);have hb2:=cG (l:=S2.low) (k:=k) (by omega);have hset:=lA (l:=S2.low) (k:=i) (x:=min (S2.l i) (S2.l k));have hchild:=Lt hL hk hn0 hE;refine jW (id:=8) 12 (tjB g X.length (.slice (some ⟨gv,ov,none⟩) X.length cv) (S2.setLow i (min (S2.l i) (S2.l k))) y2 Z2) (by kernel_rfl) (by kernel_rfl) rfl ?_;simp only [tjB];repeat' (first|(apply fp (f:=60) (d:=54);exact rfl;decide+kernel;exact rfl;apply ag (j:=i);exact rfl;exact rfl;exact hi)|(apply fp (f:=60) (d:=55);exact rfl;decide+kernel;exact rfl;apply aq;exact rfl;exact pK;exact hb1)|(apply fp (f:=60) (d:=58);exact rfl;decide+kernel;exact rfl;apply ag (j:=k);exact rfl;exact rfl;exact hkl)|(apply fp (f:=60) (d:=59);exact rfl;decide+kernel;exact rfl;apply aq;exact rfl;exact pK;exact hb2)|(apply fp (f:=60) (d:=60);exact rfl;decide+kernel;exact rfl;apply Kq;(iterate 3 exact rfl))|(apply fp (f:=60) (d:=61);exact rfl;decide+kernel;exact rfl;apply ag (j:=i);exact rfl;exact rfl;exact hi)|(apply jA (g:=g.Al);exact rfl;exact rfl;exact pK;exact rfl;(rw [lB];omega);(erw [hset];simp only [Tj.setLow];exact mS))|refine zZM ?_|refine sM fun _=>?_|(refine sC ?_ ?_<;>intro hb<;>try omega)|fail)
   repeat' (first|refine zZA ?_|refine sM fun _=>?_|(refine sC ?_ ?_<;>intro hb<;>try omega)|fail)
   all_goals first
    |(exfalso;omega)
    |(refine ⟨(j+1,S2.setLow i (min (S2.l i) (S2.l k)),ex++ex2,y2,Z2),⟨hlt,?_,hcn3,Nat.le_trans hcn2 hE.cnt,hZ2⟩,by dsimp only;omega,by exact sB,by exact sB,by simp only [tjB];exact mS⟩;dsimp only;rw [htk];exact hchild;done)
  ·have hnz: ¬ ((atN S1.num k:Nat):Int)=0:=fun h=>hn0 (by have h2:atN S1.num k=0:=(by omega);exact h2);have hok1:=bN (f:=S1.o) hkl;by_cases hs:k∈S1.stk
   ·rw [(hL.ok.on k hkl).2 hs] at hok1;have hb1:=cG (l:=S1.low) (k:=i) (by omega);have hset:=lA (l:=S1.low) (k:=i) (x:=min (S1.l i) (S1.n k));have hon2:=Qw hL hk hs;simp only [tjB];repeat' (first|(apply ai (d:=40);exact rfl;apply ag (j:=j);exact rfl;exact rfl;exact hlt)|(apply ai (d:=41);exact rfl;apply bp;exact rfl;exact he)|(apply ai (d:=44);exact rfl;apply ag (j:=k);exact rfl;exact rfl;exact hkl)|(apply ai (d:=45);exact rfl;apply aq;exact rfl;exact pK;exact hnk)|(apply ai (d:=64);exact rfl;apply ag (j:=k);exact rfl;exact rfl;exact hkl)|(apply ai (d:=65);exact rfl;apply aq;exact rfl;exact pK;exact hok1)|refine zZA ?_|refine sM fun _=>?_|(refine sC ?_ ?_<;>intro hb<;>try omega)|fail)
    all_goals try (exfalso;omega)
    refine jW (id:=10) 12 (tjB g X.length (.slice (some ⟨gv,ov,none⟩) X.length cv) (S1.setLow i (min (S1.l i) (S1.n k))) y1 Z1) (by kernel_rfl) (by kernel_rfl) rfl ?_;simp only [tjB];repeat' (first|(apply fp (f:=60) (d:=70);exact rfl;decide+kernel;exact rfl;apply ag (j:=i);exact rfl;exact rfl;exact hi)|(apply fp (f:=60) (d:=71);exact rfl;decide+kernel;exact rfl;apply aq;exact rfl;exact pK;exact hb1)|(apply fp (f:=60) (d:=74);exact rfl;decide+kernel;exact rfl;apply ag (j:=k);exact rfl;exact rfl;exact hkl)|(apply fp (f:=60) (d:=75);exact rfl;decide+kernel;exact rfl;apply aq;exact rfl;exact pK;exact hnk)|(apply fp (f:=60) (d:=76);exact rfl;decide+kernel;exact rfl;apply Kq;(iterate 3 exact rfl))|(apply fp (f:=60) (d:=77);exact rfl;decide+kernel;exact rfl;apply ag (j:=i);exact rfl;exact rfl;exact hi)|(apply jA (g:=g.Al);exact rfl;exact rfl;exact pK;exact rfl;(rw [lB];omega);(erw [hset];simp only [Tj.setLow];exact mS))|refine zZM ?_|refine sM fun _=>?_|(refine sC ?_ ?_<;>intro hb<;>try omega)|fail)
    repeat' (first|refine zZA ?_|refine sM fun _=>?_|(refine sC ?_ ?_<;>intro hb<;>try omega)|fail)
    all_goals first
     |(exfalso;omega)
     |(refine ⟨(j+1,S1.setLow i (min (S1.l i) (S1.n k)),ex,y1,Z1),⟨hlt,?_,hcn1,hcn2,hZ1⟩,by dsimp only;omega,by exact sB,by exact sB,by simp only [tjB];exact mS⟩;dsimp only;rw [htk];exact hon2;done)
   ·rw [Bool.eq_false_iff.2 (fun h=>hs ((hL.ok.on k hkl).1 h))] at hok1;have hoff:=PF hL hn0 hs;simp only [tjB];repeat' (first|(apply ai (d:=40);exact rfl;apply ag (j:=j);exact rfl;exact rfl;exact hlt)|(apply ai (d:=41);exact rfl;apply bp;exact rfl;exact he)|(apply ai (d:=44);exact rfl;apply ag (j:=k);exact rfl;exact rfl;exact hkl)|(apply ai (d:=45);exact rfl;apply aq;exact rfl;exact pK;exact hnk)|(apply ai (d:=64);exact rfl;apply ag (j:=k);exact rfl;exact rfl;exact hkl)|(apply ai (d:=65);exact rfl;apply aq;exact rfl;exact pK;exact hok1)|refine zZA ?_|refine sM fun _=>?_|(refine sC ?_ ?_<;>intro hb<;>try omega)|fail)
    all_goals first
     |(exfalso;omega)
     |(refine ⟨(j+1,S1,ex,y1,Z1),⟨hlt,?_,hcn1,hcn2,hZ1⟩,by dsimp only;omega,by exact sB,by exact sB,by simp only [tjB];exact mS⟩;dsimp only;rw [htk];exact hoff;done)
 ·have hjl:j=(au X i).length:=by omega
  subst hjl;rw [RS] at hL;have hb1:=cG (l:=S1.low) (k:=i) (by omega);have hb2:=cG (l:=S1.num) (k:=i) (by omega);by_cases heq:S1.l i=S1.n i
  ·obtain ⟨S',hE,e1,e2,e3,e4,e5,hon'⟩:=NB hL heq;have hex:=hL.ex_len;have hstk1:S1.stk=S.stk++i::ex:=hL.stk;have hml:S1.stk.length=S.stk.length+(i::ex).length:=by rw [hstk1,QT]
   have hms1:=zW hL.ok;have hpos:0<(i::ex).length:=Nat.succ_pos _;have hpl:(i::ex).length≤X.length:=by rw [Rk];exact hex
   have hmo:=Nq hL.ok;have hlt' : ∀ v∈i::ex,v<X.length:=fun v hv=>hL.ok.lt v (by rw [hstk1];exact Sj _ hv);obtain ⟨As1,cs1,AO1,cO1,vs1⟩:=y1;dsimp only at hZ1;simp only [tjB];refine tu (A:=As1) pK fun _ hcs1 hcs2=> ?_;refine bg (A:=As1) pK (by omega) fun gs hAs=> ?_;subst hAs;have hni:i∉S.stk:=fun h=>SS _ (hL.old_lt h);have hIx: ∀ (w' :World) (H:List Blk),Mem w0 w' H→In (.own (some gs) 3 1 S1.stk.length cs1 (nzC S1.stk)) H→aC Tryz.prog 84 [sl (some gs) S1.stk.length cs1,.int .i64 (i:Int)] w' (.int .i64 ((S.stk.length:Nat):Int)):=fun w' H hm hin=>by
    have h:=zC S1.stk i (by omega) _ w' (Reads.of_own hm hin);rwa [hstk1,LM hni,← hstk1] at h
   have hRd: ∀ (w' :World) (H:List Blk),Mem w0 w' H→In (.own (some gs) 3 1 S1.stk.length cs1 (nzC S1.stk)) H→Reads w' (.slice (some ⟨gs,S.stk.length*1,none⟩) (i::ex).length (cs1 - S.stk.length)) (i::ex).length (nzC (i::ex)):=fun w' H hm hin=>by
    have h:=(Reads.of_own hm hin).cut (lo:=S.stk.length) (hi:=S1.stk.length) (sz:=1) (by omega) (Rg _);rw [if_neg (by omega),show S1.stk.length - S.stk.length=(i::ex).length by omega,RV,RV,hstk1,Lb,wA,List.drop_left,RS] at h;have ha:(Option.map (fun g=>(⟨g,0,none⟩:Addr)) (some gs)).map (·.add S.stk.length)=some ⟨gs,S.stk.length*1,none⟩:=by simp [dr]
    rw [ha] at h;exact h
   have hCl:=fun (w' :World) (H:List Blk) (hm:Mem w0 w' H) (hin:In (.own (some gs) 3 1 S1.stk.length cs1 (nzC S1.stk)) H)=>J3 (i::ex) _ w' (hRd w' H hm hin) (by omega);rw [show atN S1.low i=atN S1.num i from heq] at hb1;generalize hq:atN S1.num i=q at hb1 hb2;repeat' (first|(apply aZ (d:=81);exact rfl;apply ag (j:=i);exact rfl;exact rfl;exact hi)|(apply aZ (d:=82);exact rfl;apply aq;exact rfl;exact pK;exact hb1)|(apply aZ (d:=85);exact rfl;apply ag (j:=i);exact rfl;exact rfl;exact hi)|(apply aZ (d:=86);exact rfl;apply aq;exact rfl;exact pK;exact hb2)|(apply aZ (d:=87);exact rfl;apply p6;exact rfl;exact rfl)|(apply aa (f:=84);exact rfl;exact rfl;(intro w' hm;exact hIx w' _ hm pK))|(apply ai (d:=93);exact rfl;apply EG (lo:=S.stk.length) (k:=(i::ex).length);exact rfl;exact rfl;omega;exact hcs1;omega)|(apply aK (f:=117);exact rfl;exact rfl;(intro w' hm;exact hCl w' _ hm pK);rintro _ _ ⟨Ap,cp,rfl,rfl⟩)|(apply ai (d:=97);exact rfl;apply yu (hi:=S.stk.length);exact rfl;exact rfl;omega)|refine zZH ?_|refine sM fun _=>?_|(refine sC ?_ ?_<;>intro hb<;>try omega)|(refine sCQ ?_ ?_<;>intro hb<;>try omega)|fail)
   all_goals try (exfalso;omega)
   refine jJ (.own (some gs) 3 1 S1.stk.length cs1 (nzC S1.stk):: .own (some g.An) 3 1 X.length X.length (nzC S1.num):: .own (some g.Al) 3 1 X.length X.length (nzC S1.low):: .own (some g.Ao) 4 1 X.length X.length (aF X.length S1.o):: .own Ap 3 1 (i::ex).length cp (nzC (i::ex)):: .own AO1 68 1 S1.out.length cO1 vs1:: .box g.c 3 [.int .i64 ((S1.cnt:Nat):Int)]:: .box g.n 68 [.slice (some ⟨g.An,0,none⟩) X.length X.length]:: .box g.l 68 [.slice (some ⟨g.Al,0,none⟩) X.length X.length]:: .box g.o 72 [.slice (some ⟨g.Ao,0,none⟩) X.length X.length]:: .box g.s 68 [.slice (some ⟨gs,0,none⟩) S.stk.length cs1]:: .box g.x 64 [.slice (some ⟨gv,ov,none⟩) X.length cv]:: .box g.e 189 [g.fn]:: .box g.u 64 [sl AO1 S1.out.length cO1]::Z1) mS ?_;refine BH (A:=some gs) .hd S.stk.length (by omega) ?_;rw [show (nzC S1.stk).take (S.stk.length*1)=nzC S.stk by rw [RV,wA,hstk1,TQ]];refine aw [1,2,3,4,5,6,7,8,13,98,99] rfl (fun j:Nat=> [(100,.int .i64 (j:Int))]) (fun j=> .own (some g.Ao) 4 1 X.length X.length (aF X.length (uk S1 ((i::ex).take j))):: .own (some gs) 3 1 S.stk.length cs1 (nzC S.stk):: .own (some g.An) 3 1 X.length X.length (nzC S1.num):: .own (some g.Al) 3 1 X.length X.length (nzC S1.low):: .own Ap 3 1 (i::ex).length cp (nzC (i::ex)):: .own AO1 68 1 S1.out.length cO1 vs1:: .box g.c 3 [.int .i64 ((S1.cnt:Nat):Int)]:: .box g.n 68 [.slice (some ⟨g.An,0,none⟩) X.length X.length]:: .box g.l 68 [.slice (some ⟨g.Al,0,none⟩) X.length X.length]:: .box g.o 72 [.slice (some ⟨g.Ao,0,none⟩) X.length X.length]:: .box g.s 68 [.slice (some ⟨gs,0,none⟩) S.stk.length cs1]:: .box g.x 64 [.slice (some ⟨gv,ov,none⟩) X.length cv]:: .box g.e 189 [g.fn]:: .box g.u 64 [sl AO1 S1.out.length cO1]::Z1) (fun j=>j≤(i::ex).length) (fun j=>(i::ex).length - j) 0 (QZ _) sB (by rw [← I8];exact mS) ?_;rintro j hj;by_cases hlj:j<(i::ex).length
   ·refine bg (A:=Ap) pK (by omega) fun gp hA=> ?_;subst hA;have hc:=cG hlj;have hkl:=hlt' _ (db hlj);have hst:=eY (n:=X.length) (f:=uk S1 ((i::ex).take j)) (k:=atN (i::ex) j) (v:=false);rw [I9 S1 (i::ex) hlj] at hst;generalize atN (i::ex) j=k at hc hkl hst;repeat' (first|(apply ai (d:=102);exact rfl;apply ag (j:=j);exact rfl;exact rfl;exact hlj)|(apply ai (d:=103);exact rfl;apply aq;exact rfl;exact pK;exact hc)|(apply ai (d:=106);exact rfl;apply ag (j:=k);exact rfl;exact rfl;exact hkl)|(apply aU (g:=g.Ao);exact rfl;exact rfl;exact pK;exact rfl;(rw [eD];omega);rw [hst])|refine zZA ?_|refine sM fun _=>?_|(refine sC ?_ ?_<;>intro hb<;>try omega)|fail)
    all_goals first
     |(exfalso;omega)
     |(refine ⟨j+1,hlj,by omega,by exact sB,by exact sB,by exact mS⟩;done)
   ·have hj2:j=(i::ex).length:=by omega
    subst hj2;rw [hon'];repeat' (first|(apply ak (f:=41);exact rfl;exact rfl;exact FnIn.msub (vN (i::ex) Ap cp (by omega) _ w0) (MSub.pick pK (MSub.refl _));rintro _ _ ⟨rfl,rfl⟩)|refine zZA ?_|refine sM fun _=>?_|(refine sC ?_ ?_<;>intro hb<;>try omega)|fail)
    all_goals try (exfalso;omega)
    refine tu (A:=Ap) pK fun _ hcp1 hcp2=> ?_;refine mT (id:=22) [0,7,8,9] [] 10 rfl rfl (MSub.nil _) ?_;repeat' (first|(apply bU (i:=6);(iterate 4 exact rfl);(iterate 3 decide+kernel);(apply EH;(iterate 3 exact rfl);exact hcp1))|(apply bU (i:=1);(iterate 4 exact rfl);(iterate 3 decide+kernel);(exact vC))|(apply bU (i:=2);(iterate 4 exact rfl);(iterate 3 decide+kernel);(exact vC))|(apply bU (i:=3);(iterate 4 exact rfl);(iterate 3 decide+kernel);(exact vC))|(apply bU (i:=4);(iterate 4 exact rfl);(iterate 3 decide+kernel);(exact vC))|(apply bU (i:=5);(iterate 4 exact rfl);(iterate 3 decide+kernel);(exact vC))|(apply ve (i:=0) (j:=7);(iterate 6 exact rfl);decide+kernel)|(apply dI (i:=0);(iterate 3 exact rfl);decide+kernel)|(apply dI (i:=7);(iterate 3 exact rfl);decide+kernel)|(apply dI (i:=8);(iterate 3 exact rfl);decide+kernel)|(apply dI (i:=9);(iterate 3 exact rfl);decide+kernel)|(apply mR;decide+kernel)|(apply Ee;(focus (exact mS;done)))|(apply aD;(iterate 3 exact rfl);exact pK;exact pK;exact rfl;(simp [Value.oneCell',sl]);omega;(simp only [maxLen];omega);intro g8 c8)|refine zZB ?_|refine sM fun _=>?_|(refine sC ?_ ?_<;>intro hb<;>try omega)|fail)
    repeat' (first|refine zZA ?_|refine sM fun _=>?_|(refine sC ?_ ?_<;>intro hb<;>try omega)|fail)
    all_goals first
     |(exfalso;omega)
     | (refine iP (H' := tjB g X.length (.slice (some ⟨gv, ov, none⟩) X.length cv) S' ⟨some gs, cs1, some g8, c8, vs1 ++ [sl Ap (i :: ex).length (i :: ex).length]⟩ (.own Ap 3 1 (i :: ex).length cp (nzC (gX (i :: ex))) :: Z1)) eIO rfl ?_ ⟨rfl, S', [], _, _, hE, ?_, ?_, rfl⟩
        ·simp only [tjB,e1,e2,e3,e4,e5,QT,Rk,Ta];exact mS
        ·rw [e5,show S'.un=S1.un by unfold Tj.un;rw [e1]];exact hcn1
        ·rw [e4];refine hZ1.snoc (MSub.drop .hd (MSub.refl _)) fun w' hm=> ?_;rw [(fU _).length_eq];exact (Reads.of_own (A:=Ap) (c:=cp) hm .hd).short)
  ·have hkeep:=NC hL heq;have hne: ¬ ((atN S1.low i:Nat):Int)=((atN S1.num i:Nat):Int):=fun h=>heq (by have h2:atN S1.low i=atN S1.num i:=(by omega);exact h2);generalize atN S1.low i=p at hb1 hne;generalize atN S1.num i=q at hb2 hne;simp only [tjB];repeat' (first|(apply aZ (d:=81);exact rfl;apply ag (j:=i);exact rfl;exact rfl;exact hi)|(apply aZ (d:=82);exact rfl;apply aq;exact rfl;exact pK;exact hb1)|(apply aZ (d:=85);exact rfl;apply ag (j:=i);exact rfl;exact rfl;exact hi)|(apply aZ (d:=86);exact rfl;apply aq;exact rfl;exact pK;exact hb2)|refine zZH ?_|refine sM fun _=>?_|(refine sC ?_ ?_<;>intro hb<;>try omega)|(refine sCQ ?_ ?_<;>intro hb<;>try omega)|fail)
   all_goals first
    |(exfalso;omega)
    |(exact iP eIO rfl mS ⟨rfl,S1,_,y1,Z1,hkeep,hcn1,hZ1,rfl⟩)
theorem DT (X:Nx) (hX: ∀ i,∀ k∈au X i,k<X.length) (hlen:X.length≤1000) (g:TjG) (xv:Value) (w0:World) (hxv:JRd w0 xv X): ∀ m,GG X g xv w0 m
 |0=>fun S i y Z hun hok _ hi h0 _=>by
  have:=BS (S:=S) (by rw [hok.ln];exact hi) h0;omega
 |m+1=>F6 X hX hlen g xv w0 hxv m (DT X hX hlen g xv w0 hxv m)
theorem TjEnd.inj {X:Nx} {O:List (List Nat)} (h:TjEnd X O) {i j:Nat} (hi:i<O.length) (hj:j<O.length) (e:atN (au O i) 0=atN (au O j) 0):i=j:=by
 have hO: ∀ k (hk:k<O.length),au O k=O[k]:=fun k hk=>by unfold au;rw [QU hk];rfl
 rw [hO i hi,hO j hj] at e;have h1:=fun k (hk:k<O.length)=>kU (h.scc _ (RL hk)).1;rcases UO i j with hlt|rfl|hlt
 ·exact absurd (e ▸ h1 j hj) ((TR.1 h.dis) i j hi hj hlt _ (h1 i hi))
 ·rfl
 ·exact absurd (e ▸ h1 i hi) ((TR.1 h.dis) j i hj hi hlt _ (e ▸ h1 j hj))
theorem yj (X:Nx) (hX: ∀ i,∀ k∈au X i,k<X.length) (hlen:X.length≤1000) (v:Value) (w:World) (hv:JRd w v X):
 FnAt Tryz.prog 78 [v] w fun u H=> ∃ A c O vs Z,u= .tuple #[sl A O.length c,.int .i64 0]∧H= .own A 68 1 O.length c vs::Z∧TjEnd X O∧JIn Z vs O:=by
 have hv' :=hv;have hva:=fun (w' :World) (H:List Blk) (hm:Mem w w' H)=>H7 X hX hlen v w' (hv.of_w0 hm);have hen:=fun (g:TjG)=>DT X hX hlen g v w hv;obtain ⟨vs0,hvl,⟨Av,cv,rfl,hm1,hm2,hm3⟩,hrow⟩:=hv;refine ay Tryz.func78 rfl Tryz.ntmps78 rfl ?_;refine aI 3 1 ?_;refine aI 68 1 ?_;repeat' (first|(apply aa (f:=115);exact rfl;exact rfl;(intro w' hm;exact hva w' _ hm))|(apply dH (c:=X.length);(iterate 3 exact rfl);omega;(simp only [maxLen];omega);intro gx;(try simp only [Dc]);(try simp only [kZ]))|refine zZA ?_|refine sM fun _=>?_|(refine sC ?_ ?_<;>intro hb<;>try omega)|fail)
 all_goals try (exfalso;omega)
 rename_i g1 An g4 Al g5 g6 g7 g8 g9 g10;have hon:aF X.length (fun _=>false)=aF X.length (Tj.new X.length).o:=aP fun v _=>(OC _ v).symm;let g:TjG:=⟨g9,g4,g5,g6,g7,g1,g10,g8,An,Al,gx⟩;have hen:=hen g
 refine aw [1, 4, 5, 6, 7, 8, 9, 10, 26] rfl (fun z : Nat × Tj × TjY × List Blk => [(27, .int .i64 (z.1 : Int))]) (fun z => tjB g X.length (.slice Av X.length cv) z.2.1 z.2.2.1 z.2.2.2) (fun z => z.1 ≤ X.length ∧ TjOk X z.2.1 ∧ z.2.1.stk = [] ∧ z.2.1.cnt + z.2.1.un = X.length ∧ (∀ j, j < z.1 → z.2.1.n j ≠ 0) ∧ JIn z.2.2.2 z.2.2.1.vs z.2.1.out) (fun z => X.length - z.1) (0, Tj.new X.length, ⟨none, 0, none, 0, []⟩, []) ⟨QZ _, PB X, rfl, by rw [PA]; exact Rv _, fun j h => absurd h (TF _), JIn.nil⟩ sB (by
  rw [hon];simp only [tjB];exact mS) ?_
 clear hon;rintro ⟨i,S,y,Z⟩ ⟨hi,hok,hst,hcn,hvis,hZ⟩;dsimp only at hi hok hst hcn hvis hZ ⊢;have hnum:S.num.length=X.length:=hok.ln;by_cases hlt:i<X.length
 ·have hc:=cG (l:=S.num) (k:=i) (by omega);by_cases hn0:S.n i=0
  ·rw [show atN S.num i=0 from hn0] at hc;have hcall:=hen S.un S i y Z (Rg _) hok hcn hlt hn0 hZ;simp only [tjB];repeat' (first|(apply ai (d:=32);exact rfl;apply ag (j:=i);exact rfl;exact rfl;exact hlt)|(apply ai (d:=33);exact rfl;apply aq;exact rfl;exact pK;exact hc)|(apply kA (f:=116) (caps:=g.caps);exact rfl;exact rfl;infer_instance;exact rfl;exact FnIn.msub hcall (by (simp only [tjB]);exact mS);rintro _ _ ⟨rfl,S2,ex2,y2,Z2,hE,hcn2,hZ2,rfl⟩;simp only [tjB])|refine zZA ?_|refine sM fun _=>?_|(refine sC ?_ ?_<;>intro hb<;>try omega)|fail)
   all_goals first
    |(exfalso;omega)
    | (have hex := F7 hE hst
       refine ⟨(i+1,S2,y2,Z2),⟨hlt,hE.ok,?_,hcn2,fun j hj=> ?_,hZ2⟩,by dsimp only;omega,by exact sB,by exact sB,by simp only [tjB];exact mS⟩
       ·rw [hE.stk,hst,hex];rfl
       ·by_cases e:j=i
        ·rw [e];exact hE.new
        ·have hj2:=hvis j (by omega);rw [hE.n_old j hj2];exact hj2)
  ·have hnz: ¬ ((atN S.num i:Nat):Int)=0:=fun h=>hn0 (by have h2:atN S.num i=0:=(by omega);exact h2);generalize atN S.num i=q at hc hnz;simp only [tjB];repeat' (first|(apply ai (d:=32);exact rfl;apply ag (j:=i);exact rfl;exact rfl;exact hlt)|(apply ai (d:=33);exact rfl;apply aq;exact rfl;exact pK;exact hc)|refine zZA ?_|refine sM fun _=>?_|(refine sC ?_ ?_<;>intro hb<;>try omega)|fail)
   all_goals first
    |(exfalso;omega)
    | (refine ⟨(i + 1, S, y, Z), ⟨hlt, hok, hst, hcn, fun j hj => ?_, hZ⟩, by dsimp only; omega, by exact sB, by exact sB, by simp only [tjB]; exact mS⟩
       by_cases e:j=i
       ·rw [e];exact hn0
       ·exact hvis j (by omega))
 ·have e:i=X.length:=by omega
  subst e;have hfin:=hok.fin hst hvis;have hol:=hfin.len;have hsort:=fun R (hZR:JIn R y.vs S.out)=>Iw S.out y.vs y.AO y.cO R w hZR (fun p hp=>(hfin.scc p hp).1) (fun i j hi hj e=>hfin.inj hi hj e) (fun p hp v hv=>by have:=hfin.lt p hp v hv;omega) (by omega);simp only [tjB];refine jJ (.own y.AO 68 1 S.out.length y.cO y.vs:: .box g.u 64 [sl y.AO S.out.length y.cO]::Z) mS ?_;repeat' (first|(apply ak (f:=118);exact rfl;exact rfl;exact hsort _ (hZ.mono (MSub.drop .hd (MSub.refl _)));rintro _ _ ⟨rfl,O,vs,hp,hO,rfl⟩)|refine zZA ?_|refine sM fun _=>?_|(refine sC ?_ ?_<;>intro hb<;>try omega)|fail)
  all_goals first
   |(exfalso;omega)
   | (have hol2 := hp.length_eq
      refine dB (H' := .own y.AO 68 1 O.length y.cO vs:: .box g.u 64 [sl y.AO S.out.length y.cO]::Z) eIO rfl rfl rfl (by rw [hol2];exact mS) ⟨y.AO,y.cO,O,vs,_,by rw [hol2],rfl,hfin.perm hp,hO⟩)
theorem xH (X:Nx) (hX: ∀ i,∀ k∈au X i,k<X.length) (hlen:X.length≤1000) (hrl: ∀ i,(au X i).length≤1000) (v:Value) (w:World) (hv:JRd w v X):
 FnAt Tryz.prog 34 [v] w fun u H=> ∃ A c l Z,u= .tuple #[sl A l.length c,.int .i64 0]∧H= .own A 3 1 l.length c (nzC l)::Z∧l.Pairwise (· < ·)∧ ∀ i,i∈l↔i<X.length∧onC X i:=by
 have hcm:=fun (w' :World) (H:List Blk) (hm:Mem w w' H)=>yj X hX hlen v w' (hv.of_w0 hm);obtain ⟨vs0,hvl,⟨Av,cv,rfl,hm1,hm2,hm3⟩,hrow⟩:=hv;refine ay Tryz.func34 rfl Tryz.ntmps34 rfl ?_;repeat' (first|(apply aK (f:=78);exact rfl;exact rfl;(intro w' hm;exact hcm w' _ hm);rintro _ _ ⟨A,c,O,vs,Z,rfl,rfl,hE,hO⟩)|refine zZB ?_|refine sM fun _=>?_|(refine sC ?_ ?_<;>intro hb<;>try omega)|fail)
 all_goals try (exfalso;omega)
 have hol:=hE.len;refine jJ (.own A 68 1 O.length c vs::Z) (MSub.appL _ _) ?_;refine aI 3 1 ?_;refine aw [0,17,18] rfl (fun y:Nat × Option Nat × Nat=> [(6,sl y.2.1 ((O.take y.1).flatMap (eZ X)).length y.2.2),(19,.int .i64 (y.1:Int))]) (fun y=> .own y.2.1 3 1 ((O.take y.1).flatMap (eZ X)).length y.2.2 (nzC ((O.take y.1).flatMap (eZ X))):: .own A 68 1 O.length c vs::Z) (fun y=>y.1≤O.length) (fun y=>O.length - y.1) (0,none,0) (QZ _) sB mS ?_;rintro ⟨j,A3,c3⟩ hj;dsimp only at hj ⊢;by_cases hlt:j<O.length
 ·refine bg (A:=A) pK (by omega) fun ga hA=> ?_;subst hA;obtain ⟨u,hu,hru⟩:=hO.2 j hlt;have hc:vs[0+j*1]? =some u:=by rw [Rv,RV];exact hu
  have hmO:au O j∈O:=by unfold au;rw [QU hlt];exact RL hlt
  have hpn:=TW.2 (hE.scc _ hmO).1;have hpl:=hE.part_len hmO;have hpx:=hE.lt _ hmO;have hst:=FR (X:=X) hlt;have hfl:=y6 hE j;have hone: ¬ 1<(au O j).length→au O j= [atN (au O j) 0]:=fun h=>FK h (kU (hE.scc _ hmO).1);generalize au O j=p at hru hpn hpl hpx hst hone;generalize (O.take j).flatMap (eZ X)=S at hst hfl;have hrd: ∀ (H:List Blk),MSub Z H→ ∀ w',Mem w w' H→Reads w' u p.length (nzC p):=fun H hs w' hm=>hru w' (hs.use hm);refine Kj (m:=p.length) (fun w' hm=>hrd _ (MSub.drop .hd (MSub.drop .hd (MSub.refl _))) w' hm) hpn fun gp op cp hlv=> ?_;subst hlv;by_cases h1:1<p.length
  ·have hlp:eZ X p=p:=if_pos (.inl h1);rw [hlp] at hst;repeat' (first|(apply ai (d:=21);exact rfl;apply ag (j:=j);exact rfl;exact rfl;exact hlt)|(apply ai (d:=22);exact rfl;apply aq;exact rfl;exact pK;exact hc)|(apply eJ (m:=p.length);(iterate 3 exact rfl);exact pK;(intro w' hm;exact hrd _ mS w' hm);exact wB p;exact Af p;omega;(simp only [maxLen];omega);intro A8 c8 hA8)|refine zZH ?_|refine sM fun _=>?_|(refine sC ?_ ?_<;>intro hb<;>try omega)|(refine sCQ ?_ ?_<;>intro hb<;>try omega)|fail)
   all_goals first
    |(exfalso;omega)
    |(refine ⟨(j+1,A8,c8),hlt,by dsimp only;omega,by dsimp only;rw [hst,List.length_append];exact sB,by exact sB,by dsimp only;rw [hst,List.length_append,Ag];exact mS⟩;done)
  ·have hp1:=hone h1;have hxl:=hpx _ (db (l:=p) (k:=0) hpn);obtain ⟨gv,ov,rfl,hrv⟩:=hm3 (by omega);obtain ⟨ux,hux,hrx⟩:=hrow (atN p 0) hxl;have hcx:=hrv.cellV (atN p 0) hux;have hct:=fun (w' :World) (H:List Blk) (hm:Mem w w' H)=>rI (au X (atN p 0)) (atN p 0) (by have:=hrl (atN p 0);omega) ux w' (hrx.of_w0 hm);have hc0:=sn (l:=p) (k:=0) hpn;have hcl: ∀ (H:List Blk),MSub Z H→ ∀ w',Mem w w' H→Cells w' gp op (nzC p):=fun H hs w' hm=>xA (hrd H hs w' hm) hpn;by_cases hin:atN p 0∈au X (atN p 0)
   ·have hlp:eZ X p=p:=if_pos (.inr hin);rw [hlp] at hst;rw [decide_eq_true hin] at hct;generalize atN p 0=x at hxl hcx hct hc0;repeat' (first|(apply ai (d:=21);exact rfl;apply ag (j:=j);exact rfl;exact rfl;exact hlt)|(apply ai (d:=22);exact rfl;apply aq;exact rfl;exact pK;exact hc)|(apply aZ (d:=29);exact rfl;apply ag (j:=0);exact rfl;exact rfl;exact hpn)|(apply aZ (d:=30);exact rfl;apply l4 (off:=0);(intro w' hm;exact hcl _ mS w' hm);exact rfl;exact hc0)|(apply aZ (d:=31);exact rfl;apply ag (j:=x);exact rfl;exact rfl;exact hxl)|(apply aZ (d:=32);exact rfl;apply bp;exact rfl;exact hcx)|(apply aZ (d:=34);exact rfl;apply ag (j:=0);exact rfl;exact rfl;exact hpn)|(apply aZ (d:=35);exact rfl;apply l4 (off:=0);(intro w' hm;exact hcl _ mS w' hm);exact rfl;exact hc0)|(apply cM (f:=40);exact rfl;exact rfl;(intro w' hm;exact hct w' _ hm))|(apply eJ (m:=p.length);(iterate 3 exact rfl);exact pK;(intro w' hm;exact hrd _ mS w' hm);exact wB p;exact Af p;omega;(simp only [maxLen];omega);intro A8 c8 hA8)|refine zZH ?_|refine sM fun _=>?_|(refine sC ?_ ?_<;>intro hb<;>try omega)|(refine sCQ ?_ ?_<;>intro hb<;>try omega)|fail)
    all_goals first
     |(exfalso;omega)
     |(refine ⟨(j+1,A8,c8),hlt,by dsimp only;omega,by dsimp only;rw [hst,List.length_append];exact sB,by exact sB,by dsimp only;rw [hst,List.length_append,Ag];exact mS⟩;done)
   ·have hlp:eZ X p= []:=if_neg (fun h=>h.elim h1 hin);rw [hlp,Rc] at hst;rw [decide_eq_false hin] at hct;generalize atN p 0=x at hxl hcx hct hc0;repeat' (first|(apply ai (d:=21);exact rfl;apply ag (j:=j);exact rfl;exact rfl;exact hlt)|(apply ai (d:=22);exact rfl;apply aq;exact rfl;exact pK;exact hc)|(apply aZ (d:=29);exact rfl;apply ag (j:=0);exact rfl;exact rfl;exact hpn)|(apply aZ (d:=30);exact rfl;apply l4 (off:=0);(intro w' hm;exact hcl _ mS w' hm);exact rfl;exact hc0)|(apply aZ (d:=31);exact rfl;apply ag (j:=x);exact rfl;exact rfl;exact hxl)|(apply aZ (d:=32);exact rfl;apply bp;exact rfl;exact hcx)|(apply aZ (d:=34);exact rfl;apply ag (j:=0);exact rfl;exact rfl;exact hpn)|(apply aZ (d:=35);exact rfl;apply l4 (off:=0);(intro w' hm;exact hcl _ mS w' hm);exact rfl;exact hc0)|(apply cM (f:=40);exact rfl;exact rfl;(intro w' hm;exact hct w' _ hm))|refine zZH ?_|refine sM fun _=>?_|(refine sC ?_ ?_<;>intro hb<;>try omega)|(refine sCQ ?_ ?_<;>intro hb<;>try omega)|fail)
    all_goals first
     |(exfalso;omega)
     |(refine ⟨(j+1,A3,c3),hlt,by dsimp only;omega,by dsimp only;rw [hst];exact sB,by exact sB,by dsimp only;rw [hst];exact mS⟩;done)
 ·have e:j=O.length:=by omega
  subst e;have hfl:=y6 hE O.length;rw [RS] at hfl ⊢;have hfin:=Jl hE;have hsl:=(fU (O.flatMap (eZ X))).length_eq;generalize O.flatMap (eZ X)=S at hfl hfin hsl;repeat' (first|(apply ak (f:=41);exact rfl;exact rfl;exact FnIn.msub (vN S A3 c3 (by omega) _ w) (MSub.pick pK (MSub.refl _));rintro _ _ ⟨rfl,rfl⟩)|refine zZA ?_|refine sM fun _=>?_|(refine sC ?_ ?_<;>intro hb<;>try omega)|fail)
  all_goals first
   |(exfalso;omega)
   |(exact dB (H' := .own A3 3 1 (gX S).length c3 (nzC (gX S)):: .own A 68 1 O.length c vs::Z) eIO rfl rfl rfl (by rw [hsl];exact mS) ⟨A3,c3,gX S,_,by rw [hsl],rfl,hfin⟩)
end Go.SL
namespace Go.SL
open Go Go.Proofs Go.RowKit
attribute [local irreducible] W WL WQ WG WA WX WLI WR WT WC WE VOp RW thn blk bH scp aV bz bP FnAt FnIn FnP ceP
theorem NY (l:List Nat) (k:Nat) (hk:k<l.length) (h1:1≤atN l k) (hb:atN l k≤1000000) (g c:Nat) (R:List Blk) (w0:World):FnIn Tryz.prog 80 [.slice (some ⟨g,0,none⟩) l.length c,.int .i64 (k:Int)] w0 (.own (some g) 3 1 l.length c (nzC l)::R) fun v H=>v= .bool (decide (atN l k - 1=0))∧H= .own (some g) 3 1 l.length c (nzC (l.set k (atN l k - 1)))::R:=by
 refine bF Tryz.func80 rfl Tryz.ntmps80 rfl ?_;have hc:=cG hk;have hc2:=cG (l:=l.set k (atN l k - 1)) (k:=k) (by rw [Su];exact hk);have he:atN (l.set k (atN l k - 1)) k=atN l k - 1:=by unfold atN;simp [hk]
 rw [he] at hc2;generalize hx:atN l k=x at*;repeat' (first|(apply ai (d:=7);exact rfl;apply ag (j:=k);exact rfl;exact rfl;exact hk)|(apply ai (d:=8);exact rfl;apply aq;exact rfl;exact pK;exact hc)|(apply ai (d:=9);exact rfl;apply ij (a:=x);exact rfl;exact rfl;exact h1;(simp only [maxLen];omega))|(apply ai (d:=10);exact rfl;apply ag (j:=k);exact rfl;exact rfl;exact hk)|(apply aU (g:=g);exact rfl;exact rfl;exact pK;exact rfl;(rw [lB];omega);rw [lA])|(apply ai (d:=13);exact rfl;apply ag (j:=k);exact rfl;exact rfl;exact hk)|(apply ai (d:=14);exact rfl;apply aq;exact rfl;exact pK;exact hc2)|refine sT ?_|refine sN ?_|refine sM fun _=>?_|(refine sC ?_ ?_<;>intro hb<;>try omega)|fail)
 all_goals first
  |exact bJ eIO rfl rfl (MSub.refl _) ⟨congrArg Value.bool (decide_eq_decide.2 (by omega)),rfl⟩
theorem Fv (X:Nx) (i:Nat):(lR X i).length≤i:=by
 unfold lR;have:=SR (fun j=>decide ((au X j).length=0)) (List.range i);rwa [Sg] at this
theorem CO (X:Nx):lR X 0= []:=rfl
theorem mE {X:Nx} {As:JA} {i:Nat} (h:As.length=X.length) (hi:i<X.length): ∃ Rs,(jn X As).Perm (.own (As[i]'(by omega)).1 3 1 (au X i).length (As[i]'(by omega)).2 (nzC (au X i))::Rs)∧ ∀ (l:List Nat) (a:Option Nat × Nat),(jn (X.set i l) (As.set i a)).Perm (.own a.1 3 1 l.length a.2 (nzC l)::Rs):=by
 obtain ⟨Rs,hR⟩:=wT h hi;refine ⟨Rs,?_,hR⟩;have h1:=hR (au X i) (As[i]'(by omega));have e1:X.set i (au X i)=X:=by
  unfold au;rw [QU hi,TJ,U0]
 have e2:As.set i (As[i]'(by omega))=As:=U0 _;rwa [e1,e2] at h1
theorem HH (X:Nx) (hX: ∀ i,∀ k∈au X i,k<X.length) (hlen:X.length≤1000) (hrl: ∀ i,(au X i).length≤1000) (hac: ∀ p,p<X.length→ ¬ onC X p) (v:Value) (w:World) (hv:JRd w v X):
 FnAt Tryz.prog 38 [v] w fun u H=> ∃ A c Z,u= .tuple #[sl A (cI X).length c,.int .i64 0]∧H= .own A 3 1 (cI X).length c (nzC (cI X))::Z:=by
 have hLo: ∀ (w' :World) (H:List Blk),Mem w w' H→FnAt Tryz.prog 34 [v] w' fun u _=> ∃ A c,u= .tuple #[sl A 0 c,.int .i64 0]:=fun w' H hm=>(xH X hX hlen hrl v w' (hv.of_w0 hm)).mono fun u H' ⟨A,c,l,Z,h1,_,_,h4⟩=>by
  have hl:l= []:=List.eq_nil_iff_forall_not_mem.2 fun i hi=>hac i ((h4 i).1 hi).1 ((h4 i).1 hi).2;subst hl;exact ⟨A,c,h1⟩
 obtain ⟨vs0,hvl,⟨Av,cv,rfl,hm1,hm2,hm3⟩,hrow⟩:=hv;refine ay Tryz.func38 rfl Tryz.ntmps38 rfl ?_;repeat' (first|(apply aK (f:=34);exact rfl;exact rfl;(intro w' hm;exact hLo w' _ hm);rintro _ _ ⟨A0,c0,rfl⟩;refine mN [] (MSub.nil _) ?_)|(apply dH (c:=X.length);(iterate 3 exact rfl);omega;(simp only [maxLen];omega);intro gx;(try simp only [Dc]);(try simp only [mC]))|(apply df;exact rfl;intro ge)|refine zZB ?_|refine sM fun _=>?_|(refine sC ?_ ?_<;>intro hb<;>try omega)|fail)
 all_goals try (exfalso;omega)
 rename_i gl gr;have hf0:cK (qZ X.length) (fA X.length)=cK (bV X 0 0) (fA X.length):=by rw [qo]
 refine kq 3 X.length ?_;rw [← DA,← qo]
 refine jJ (hpB gr (some ge) 0 [] (.own (some gl) 3 1 X.length X.length (nzC (jT X 0)) :: .own (some gx) 68 1 X.length X.length (cK (bV X 0 0) (fA X.length)) :: jn (bV X 0 0) (fA X.length))) (by
  unfold hpB;rw [FV,← hf0];refine MSub.trans (by exact mS:MSub _ (.box gr 148 [.slice (some ⟨ge,0,none⟩) 0 0]:: .own (some ge) 3 1 0 0 []:: .own (some gx) 68 1 X.length X.length (cK (qZ X.length) (fA X.length)):: .own (some gl) 3 1 X.length X.length (nzC (List.replicate X.length 0))::jn (bV X 0 0) (fA X.length))) (MSub.of_perm ?_);exact RO (l₁:=jn (bV X 0 0) (fA X.length)) (l₂:= [_,_,_,_])) ?_
 refine aw [0,6,7,8,37,38] rfl (fun z:Nat × JA × List Blk × List Nat × Option Nat × Nat=> [(39,.int .i64 (z.1:Int))]) (fun z=>hpB gr z.2.2.2.2.1 z.2.2.2.2.2 z.2.2.2.1 (.own (some gl) 3 1 X.length X.length (nzC (jT X z.1)):: .own (some gx) 68 1 X.length X.length (cK (bV X z.1 0) z.2.1)::z.2.2.1)) (fun z=>z.1≤X.length∧z.2.1.length=X.length∧(jn (bV X z.1 0) z.2.1).Perm z.2.2.1∧z.2.2.2.1.Perm (lR X z.1)∧HpF (atN z.2.2.2.1) z.2.2.2.1.length) (fun z=>X.length - z.1) (0,fA X.length,jn (bV X 0 0) (fA X.length),[],some ge,0) ⟨QZ _,S9,.refl _,by rw [CO],fun i _ h=>absurd h (TF _)⟩ sB (MSub.refl _) ?_;clear hf0;rintro ⟨i,As,Z,h,A,c⟩ ⟨hi,hAl,hZ,hh,hH⟩;dsimp only at hi hAl hZ hh hH ⊢;by_cases hlt:i<X.length
 ·obtain ⟨u,hu,⟨Ai,ci,rfl,hi1,hi2,hi3⟩⟩:=hrow i hlt;obtain ⟨gv,ov,rfl,hrv⟩:=hm3 (by omega);have hc:=hrv.cellV i hu;have hset:=FW (X:=X) (i:=i);have hll:=mB X i;unfold hpB;repeat' (first|(apply ai (d:=42);exact rfl;apply ag (j:=i);exact rfl;exact rfl;exact hlt)|(apply ai (d:=43);exact rfl;apply bp;exact rfl;exact hc)|(apply ai (d:=48);exact rfl;apply ag (j:=i);exact rfl;exact rfl;exact hlt)|(apply aU (g:=gl);exact rfl;exact rfl;exact pK;exact rfl;(rw [lB];omega);rw [lA,hset])|refine zZA ?_|refine sM fun _=>?_|(refine sC ?_ ?_<;>intro hb<;>try omega)|fail)
  all_goals try (exfalso;omega)
  refine aw [0,6,7,8,9,10,37,38,39,49,50] rfl (fun z:Nat × JA × List Blk=> [(51,.int .i64 (z.1:Int))]) (fun z=> .box gr 148 [sl A h.length c]:: .own A 3 1 h.length c (nzC h):: .own (some gl) 3 1 X.length X.length (nzC (jT X (i+1))):: .own (some gx) 68 1 X.length X.length (cK (bV X i z.1) z.2.1)::z.2.2) (fun z=>z.1≤(au X i).length∧z.2.1.length=X.length∧(jn (bV X i z.1) z.2.1).Perm z.2.2) (fun z=>(au X i).length - z.1) (0,As,Z) ⟨QZ _,hAl,hZ⟩ sB mS ?_;clear hset hll hZ hAl;rintro ⟨j,As,Z⟩ ⟨hj,hAl,hZ⟩;dsimp only at hj hAl hZ ⊢;by_cases hlj:j<(au X i).length
  ·obtain ⟨gi,oi,rfl,hri⟩:=hi3 (by omega);have he:=hri.natN j hlj;have hk:=hX i _ (db hlj);have hstep:=fun k (hk:atN (au X i) j=k)=>wZ hlj hk;generalize hke:atN (au X i) j=k at he hk;have hstep:=hstep k hke;have hfl:=oY hrl i j k;have hfl2:(i+1)*1000≤1000*1000:=Tn _ (by omega);have hGl:=oZ X i j;have hkA:k<As.length:=by omega
   have hcell:=iS (X:=bV X i j) (As:=As) (i:=k) (by omega) (by omega);obtain ⟨Rs,hR1,hR2⟩:=mE (X:=bV X i j) (As:=As) (i:=k) (by omega) (by omega);have hvset:=fun a=>mD (X:=bV X i j) (As:=As) (i:=k) (dx X i j k++ [i]) a (by omega);rw [rl hk] at hcell hR1;rcases hak:As[k] with ⟨a1,a2⟩;rw [hak] at hcell hR1;dsimp only at hcell hR1;have hcell:(cK (bV X i j) As)[0+k*1]? =some (sl a1 (dx X i j k).length a2):=by rw [Rv,RV];exact hcell
   have hvl:=kS (X:=bV X i j) (As:=As) (by omega);have hZ2:=hZ.symm.trans hR1;refine jJ (.own a1 3 1 (dx X i j k).length a2 (nzC (dx X i j k)):: .box gr 148 [sl A h.length c]:: .own A 3 1 h.length c (nzC h):: .own (some gl) 3 1 X.length X.length (nzC (jT X (i+1))):: .own (some gx) 68 1 X.length X.length (cK (bV X i j) As)::Rs) (MSub.trans (by exact mS:MSub _ (.box gr 148 [sl A h.length c]:: .own A 3 1 h.length c (nzC h):: .own (some gl) 3 1 X.length X.length (nzC (jT X (i+1))):: .own (some gx) 68 1 X.length X.length (cK (bV X i j) As):: .own a1 3 1 (dx X i j k).length a2 (nzC (dx X i j k))::Rs)) (MSub.of_perm ((((hZ2.cons _).cons _).cons _).cons _))) ?_;have hone:nzC (dx X i j k)++ [.int .i64 (i:Int)]=nzC (dx X i j k++ [i]):=by simp [nzC]
   have hol:(dx X i j k++ [i]).length=(dx X i j k).length+1:=by simp
   generalize dx X i j k=F at*;repeat' (first|(apply ai (d:=53);exact rfl;apply ag (j:=j);exact rfl;exact rfl;exact hlj)|(apply ai (d:=54);exact rfl;apply bp;exact rfl;exact he)|(apply ai (d:=59);exact rfl;apply ag (j:=k);exact rfl;exact rfl;exact hk)|(apply ai (d:=60);exact rfl;apply aq;exact rfl;exact pK;exact hcell)|(apply aD;(iterate 3 exact rfl);exact pK;exact pK;exact rfl;(simp [Value.oneCell']);omega;(simp only [maxLen];omega);intro g8 c8)|(apply ai (d:=64);exact rfl;apply ag (j:=k);exact rfl;exact rfl;exact hk)|(apply aU (g:=gx);exact rfl;exact rfl;exact pK;exact rfl;(rw [hvl];omega);rw [Rv,RV])|refine zZA ?_|refine sM fun _=>?_|(refine sC ?_ ?_<;>intro hb<;>try omega)|fail)
   all_goals first
    |(exfalso;omega)
    | (have hv1 := hvset (some g8, c8)
       have hr1:=hR2 (F++ [i]) (some g8,c8);rw [← hstep] at hv1 hr1;refine ⟨(j+1,As.set k (some g8,c8),.own (some g8) 3 1 (F++ [i]).length c8 (nzC (F++ [i]))::Rs),⟨hlj,by dsimp only;rw [List.length_set];exact hAl,hr1⟩,by dsimp only;omega,by exact sB,by exact sB,?_⟩;dsimp only;rw [hv1,hol,← hone];exact mS)
  ·have hj2:j=(au X i).length:=by omega
   subst hj2;rw [w5] at hZ ⊢;have hrs:=CP X i;have hrl2:=Fv X i;have hhl:=hh.length_eq;by_cases h0:(au X i).length=0
   ·rw [if_pos h0] at hrs;have hpush:=fun R=>HK h i (by omega) hH gr A c R w;rw [h0];repeat' (first|(apply ai (d:=70);exact rfl;apply fS;(intro m h;cases h);exact rfl)|(apply ai (d:=72);exact rfl;apply fS;(intro m h;cases h);exact rfl)|(apply ak (f:=79);exact rfl;exact rfl;exact hpush _;rintro _ _ ⟨rfl,A',c',h',hp',hH',rfl⟩)|refine zZA ?_|refine sM fun _=>?_|(refine sC ?_ ?_<;>intro hb<;>try omega)|fail)
    all_goals first
     |(exfalso;omega)
     | (refine ⟨(i + 1, As, Z, h', A', c'), ⟨hlt, hAl, hZ, ?_, hH'⟩, by dsimp only; omega, by exact sB, by exact sB, MSub.refl _⟩
        dsimp only;rw [hrs];exact (hp'.trans (hh.cons i)).trans (RO (l₁:= [i])))
   ·rw [if_neg h0] at hrs;have hnz: ¬ (((au X i).length:Nat):Int)=0:=by omega
    repeat' (first|refine zZA ?_|refine sM fun _=>?_|(refine sC ?_ ?_<;>intro hb<;>try omega)|fail)
    all_goals first
     |(exfalso;omega)
     |(refine ⟨(i+1,As,Z,h,A,c),⟨hlt,hAl,hZ,by dsimp only;rw [hrs];exact hh,hH⟩,by dsimp only;omega,by exact sB,by exact sB,by dsimp only;(try unfold hpB);exact mS⟩;done)
 ·have e:i=X.length:=by omega
  subst e;have hHp:=LN hh;rw [nF] at hZ ⊢;let ja:Nat→Option Nat × Nat:=fun x=>(As[x]?).getD (none,0);have hjx: ∀ x (hx:x<X.length),ja x=As[x]'(by omega):=fun x hx=>by
   show (As[x]?).getD (none,0)=_;rw [QU (by omega)];rfl
  have hcell: ∀ x,x<X.length→(cK (iV X) As)[0+x*1]? =some (sl (ja x).1 (dP X x).length (ja x).2):=fun x hx=>by
   have h1:=iS (X:=iV X) (As:=As) (i:=x) (by rw [kJ];exact hAl) (by rw [kJ];exact hx);rw [Rv,RV,hjx x hx,h1,nZ hx]
  have hblk: ∀ x,x<X.length→Blk.own (ja x).1 3 1 (dP X x).length (ja x).2 (nzC (dP X x))∈Z:=fun x hx=>by
   have h1:=qY (X:=iV X) (As:=As) (i:=x) (by rw [kJ];exact hAl) (by rw [kJ];exact hx);rw [nZ hx,← hjx x hx] at h1;exact hZ.mem_iff.1 h1
  clear_value ja
  have hlf0:(jT X X.length).length=X.length:=mB X _;refine aI 3 1 ?_;unfold hpB;repeat' (first|refine zZA ?_|refine sM fun _=>?_|(refine sC ?_ ?_<;>intro hb<;>try omega)|fail)
  all_goals try (exfalso;omega)
  refine aw [6,7,8,13] rfl (fun z:List Nat × List Nat × List Nat × (Option Nat × Nat) × (Option Nat × Nat)=> [(14,sl z.2.2.2.2.1 z.1.length z.2.2.2.2.2)]) (fun z=> .own z.2.2.2.2.1 3 1 z.1.length z.2.2.2.2.2 (nzC z.1)::hpB gr z.2.2.2.1.1 z.2.2.2.1.2 z.2.1 (.own (some gl) 3 1 X.length X.length (nzC z.2.2.1):: .own (some gx) 68 1 X.length X.length (cK (iV X) As)::Z)) (fun z=>HpI X z.1 z.2.1 z.2.2.1∧HpF (atN z.2.1) z.2.1.length∧fw X (X.length - z.1.length) z.1=cI X) (fun z=>X.length+1 - z.1.length) ([],h,jT X X.length,(A,c),(none,0)) ⟨hHp,hH,by rw [List.length_nil,Nat.sub_zero];rfl⟩ sB (by dsimp only;unfold hpB;exact mS) ?_;clear hHp hH hh hlf0 hZ;rintro ⟨D,h,lf,⟨A,c⟩,⟨A2,c2⟩⟩ ⟨hI,hH,hT⟩;dsimp only at hI hH hT ⊢;have hDl:=hI.len;have hhl:h.length≤X.length:=by
   have h1:=dR h (List.range X.length) hI.hn fun x hx=>RH.2 ((hI.hm x).1 hx).1;rwa [Sg] at h1
  have hlfl:=hI.ll;rcases SY h.length with h0|h0
  ·have he:h= []:=Sl h0;subst he;have hD:cI X=D:=by rw [← hT];exact KD hI.stop _
   unfold hpB;repeat' (first|(apply aa (f:=81);exact rfl;exact rfl;(intro w' hm;exact lF _ _ _ w'))|refine zZA ?_|refine sM fun _=>?_|(refine sC ?_ ?_<;>intro hb<;>try omega)|fail)
   all_goals first
    |(exfalso;omega)
    | (rw [hD]
       exact dB eIO rfl rfl rfl (MSub.refl _) ⟨A2,c2,_,rfl,rfl⟩)
  ·have hpop:=fun R=>PQ h h0 (by omega) hH gr A c R w;have hxl:=fun x (hx:x∈h)=>((hI.hm x).1 hx).1;unfold hpB;repeat' (first|(apply aa (f:=81);exact rfl;exact rfl;(intro w' hm;exact lF _ _ _ w'))|(apply ai (d:=81);exact rfl;apply fS;(intro m h;cases h);exact rfl)|(apply ak (f:=82);exact rfl;exact rfl;exact FnIn.msub (hpop _) (by unfold hpB;exact MSub.pick pK (MSub.pick pK (MSub.refl _)));rintro _ _ ⟨x,h',rfl,hxm,hmin,hpp,hH',rfl⟩;unfold hpB)|(apply ai (d:=83);exact rfl;apply py;exact rfl;exact rfl)|(apply aD;(iterate 3 exact rfl);exact pK;exact pK;exact rfl;(simp [Value.oneCell']);omega;(simp only [maxLen];omega);intro g8 c8)|(apply ai (d:=90);exact rfl;apply ag (j:=x);exact rfl;exact rfl;exact hxl x hxm)|(apply ai (d:=91);exact rfl;apply aq;exact rfl;exact pK;exact hcell x (hxl x hxm))|refine zZA ?_|refine sM fun _=>?_|(refine sC ?_ ?_<;>intro hb<;>try omega)|fail)
   all_goals try (exfalso;omega)
   have hx:=hxl x hxm;have hbx:=hblk x hx;have hone:nzC D++ [.int .i64 (x:Int)]=nzC (D++ [x]):=by simp [nzC]
   have hol:(D++ [x]).length=D.length+1:=by simp
   have hTn:=Il (hI.next hxm hmin) (hI.len_lt hxm);rw [hT] at hTn;have hJ0:=hI.begin hpp;have hfl:(dP X x).length≤2000000:=by
    rw [← nZ hx,← nF,rl hx];have:=oY hrl X.length 0 x;have h2:(X.length+1)*1000≤1001*1000:=Tn _ (by omega);omega
   generalize ja x=a at hbx ⊢;obtain ⟨a1,a2⟩:=a;dsimp only at hbx ⊢;clear hcell hblk;refine aw [6,7,8,13,14,91,92] rfl (fun z:Nat × List Nat × List Nat × (Option Nat × Nat)=> [(93,.int .i64 (z.1:Int))]) (fun z=> .box gr 148 [sl z.2.2.2.1 z.2.1.length z.2.2.2.2]:: .own z.2.2.2.1 3 1 z.2.1.length z.2.2.2.2 (nzC z.2.1):: .own (some gl) 3 1 X.length X.length (nzC z.2.2.1):: .own (some gx) 68 1 X.length X.length (cK (iV X) As):: .own (some g8) 3 1 (D.length+1) c8 (nzC (D++ [x]))::Z) (fun z=>z.1≤(dP X x).length∧HpJ X D x z.2.1 z.2.2.1 ((dP X x).take z.1)∧HpF (atN z.2.1) z.2.1.length) (fun z=>(dP X x).length - z.1) (0,h',lf,(A,c)) ⟨QZ _,hJ0,hH'⟩ sB (by rw [← hone];exact mS) ?_;clear hJ0 hH';rintro ⟨m,h1,lf1,⟨A,c⟩⟩ ⟨hm,hJ,hH1⟩;dsimp only at hm hJ hH1 ⊢;have hl1:h1.length≤X.length:=by
    have h2:=dR h1 (List.range X.length) hJ.hn fun y hy=>RH.2 ((hJ.hm y).1 hy).1;rwa [Sg] at h2
   have hlf1:=hJ.ll;by_cases hlm:m<(dP X x).length
   ·have hF:dP X x=(dP X x).take m++atN (dP X x) m::(dP X x).drop (m+1):=by
     rw [dN hlm,← Rn hlm,Sd]
    have htk:(dP X x).take (m+1)=(dP X x).take m++ [atN (dP X x) m]:=by rw [Ra hlm,dN hlm]
    obtain ⟨hk,hk1,hs1,hs2⟩:=HpJ.step hI hxm hJ hF;have hkl:atN lf1 (atN (dP X x) m)≤1000:=by
     have h2:=hJ.lv _ hk;have h3:=List.countP_le_length (p:=fun k=> !decide (k∈D)) (l:=au X (atN (dP X x) m));have h4:=hrl (atN (dP X x) m);show (lf1[_]?).getD 0≤1000;omega
    have hel:=cG hlm;refine bg (A:=a1) (.tl (.tl (.tl (.tl (.tl (In.of_mem hbx)))))) (by omega) fun ga hA=> ?_;subst hA;rw [← htk] at hs1 hs2;generalize atN (dP X x) m=k at hk hk1 hs1 hs2 hkl hel;have hdn:=fun R=>NY lf1 k (by omega) hk1 (by omega) gl X.length R w;rw [hlf1] at hdn;have hin: ∀ (b1 b2 b3 b4 b5:Blk),In (.own (some ga) 3 1 (dP X x).length a2 (nzC (dP X x))) (b1::b2::b3::b4::b5::Z):=fun _ _ _ _ _=> .tl (.tl (.tl (.tl (.tl (In.of_mem hbx)))));by_cases hz:atN lf1 k - 1=0
    ·rw [decide_eq_true hz] at hdn;have hpu:=fun R=>HK h1 k (by omega) hH1 gr A c R w;have hs:=hs2 hz;repeat' (first|(apply ai (d:=95);exact rfl;apply ag (j:=m);exact rfl;exact rfl;exact hlm)|(apply ai (d:=96);exact rfl;apply aq;exact rfl;exact hin _ _ _ _ _;exact hel)|(apply kA (f:=80) (caps:= []);exact rfl;exact rfl;infer_instance;exact rfl;exact FnIn.msub (hdn _) (MSub.pick pK (MSub.refl _));rintro _ _ ⟨rfl,rfl⟩)|(apply ai (d:=102);exact rfl;apply fS;(intro m h;cases h);exact rfl)|(apply ai (d:=104);exact rfl;apply fS;(intro m h;cases h);exact rfl)|(apply ak (f:=79);exact rfl;exact rfl;exact FnIn.msub (hpu _) (by unfold hpB;exact MSub.pick pK (MSub.pick pK (MSub.refl _)));rintro _ _ ⟨rfl,A',c',h2,hp2,hH2,rfl⟩;unfold hpB)|refine zZA ?_|refine sM fun _=>?_|(refine sC ?_ ?_<;>intro hb<;>try omega)|fail)
     all_goals first
      |(exfalso;omega)
      |(refine ⟨(m+1,h2,lf1.set k (atN lf1 k - 1),(A',c')),⟨hlm,hs h2 hp2,hH2⟩,by dsimp only;omega,by exact sB,by exact sB,by exact mS⟩;done)
    ·rw [decide_eq_false hz] at hdn;have hs:=hs1 hz;repeat' (first|(apply ai (d:=95);exact rfl;apply ag (j:=m);exact rfl;exact rfl;exact hlm)|(apply ai (d:=96);exact rfl;apply aq;exact rfl;exact hin _ _ _ _ _;exact hel)|(apply kA (f:=80) (caps:= []);exact rfl;exact rfl;infer_instance;exact rfl;exact FnIn.msub (hdn _) (MSub.pick pK (MSub.refl _));rintro _ _ ⟨rfl,rfl⟩)|refine zZA ?_|refine sM fun _=>?_|(refine sC ?_ ?_<;>intro hb<;>try omega)|fail)
     all_goals first
      |(exfalso;omega)
      |(refine ⟨(m+1,h1,lf1.set k (atN lf1 k - 1),(A,c)),⟨hlm,hs,hH1⟩,by dsimp only;omega,by exact sB,by exact sB,by exact mS⟩;done)
   ·have hm2:m=(dP X x).length:=by omega
    subst hm2;rw [RS] at hJ;have hnew:=HpJ.fin hI hxm hJ;repeat' (first|refine zZA ?_|refine sM fun _=>?_|(refine sC ?_ ?_<;>intro hb<;>try omega)|fail)
    all_goals first
     |(exfalso;omega)
     |(refine ⟨(D++ [x],h1,lf1,(A,c),(some g8,c8)),⟨hnew,hH1,hTn.symm⟩,by dsimp only;omega,by dsimp only;rw [hol];exact sB,by exact sB,by dsimp only;(try unfold hpB);rw [hol];exact mS⟩;done)
end Go.SL

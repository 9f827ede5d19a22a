/-
  Lemmas and walks, put together: Zf Zg.
-/
import Derived.Test.YtpoafcnhplbkmaaGreatDoorKt14
set_option linter.unusedSimpArgs false
set_option linter.unusedVariables false
set_option maxRecDepth 20000
set_option maxHeartbeats 16000000
namespace Go.SL
open Go Go.Proofs
attribute [local irreducible] W WL WQ WG WA WX WLI WR WT WC WE VOp RW thn blk aW scp aJ aS bg FnAt FnIn FnP ceP
theorem zl (X:Nx) (hX: ∀ i,∀ k∈aj X i,k<X.length) (hlen:X.length≤1000) (v:Value) (w:World) (hv:JRd w v X):aC Tryz.prog 115 [v] w (.bool true):=by
 obtain ⟨vs,hvl,⟨Av,cv,rfl,hm1,hm2,hm3⟩,hrow⟩:=hv;refine ax Tryz.func115 rfl Tryz.ntmps115 rfl ?_;repeat' (first|refine zZB ?_|refine sM fun _=>?_|(refine sC ?_ ?_<;>intro hb<;>try omega)|fail)
 refine aB [0,7,8] rfl (fun i:Nat=> [(9,.int .i64 (i:Int))]) (fun _=> []) (fun i=>i≤X.length) (fun i=>X.length - i) 0 (Iw _) sB mS ?_;rintro i hi;by_cases hlt:i<X.length
 ·obtain ⟨u,hu,⟨Ai,ci,rfl,hi1,hi2,hi3⟩⟩:=hrow i hlt;obtain ⟨gv,ov,rfl,hrv⟩:=hm3 (by omega);have hc:=hrv.cellV i hu;have hsl:=hX i;generalize aj X i=l at hi1 hi2 hi3 hsl hc;repeat' (first|(apply ai;exact rfl;apply aa (j:=i);exact rfl;exact rfl;exact hlt)|(apply ai;exact rfl;apply aG;exact rfl;exact hc)|refine zZA ?_|refine sM fun _=>?_|(refine sC ?_ ?_<;>intro hb<;>try omega)|fail)
  all_goals try (exfalso;omega)
  refine aB [0,7,8,9,13,14] rfl (fun j:Nat=> [(15,.int .i64 (j:Int))]) (fun _=> []) (fun j=>j≤l.length) (fun j=>l.length - j) 0 (Iw _) sB mS ?_;rintro j hj;by_cases hlj:j<l.length
  ·obtain ⟨gl,ol,rfl,hrl⟩:=hi3 (by omega);have he:=hrl.natN j hlj;have hk:=hsl _ (bw hlj);generalize atN l j=k at he hk;repeat' (first|(apply ai;exact rfl;apply aa (j:=j);exact rfl;exact rfl;exact hlj)|(apply ai;exact rfl;apply aG;exact rfl;exact he)|refine zZA ?_|refine sM fun _=>?_|(refine sC ?_ ?_<;>intro hb<;>try omega)|fail)
   all_goals first
    |(exfalso;omega)
    |(refine ⟨j+1,hlj,by omega,by exact sB,by exact sB,by exact mS⟩;done)
  ·repeat' (first|refine zZA ?_|refine sM fun _=>?_|(refine sC ?_ ?_<;>intro hb<;>try omega)|fail)
   all_goals first
    |(exfalso;omega)
    |(refine ⟨i+1,hlt,by omega,by exact sB,by exact sB,by exact mS⟩;done)
 ·repeat' (first|refine zZA ?_|refine sM fun _=>?_|(refine sC ?_ ?_<;>intro hb<;>try omega)|fail)
  all_goals first
   |(exfalso;omega)
   |(exact bB eIO rfl rfl (.nil _) rfl)
structure TjG where
 c:Nat
 n:Nat
 l:Nat
 o:Nat
 s:Nat
 x:Nat
 e:Nat
 u:Nat
 An:Nat
 Al:Nat
 Ao:Nat
structure TjY where
 As:Option Nat
 cs:Nat
 AO:Option Nat
 cO:Nat
 vs:List Value
def TjG.caps (g:TjG):List Value:= [.pointer (some ⟨g.c,0,none⟩),.pointer (some ⟨g.n,0,none⟩),.pointer (some ⟨g.l,0,none⟩),.pointer (some ⟨g.o,0,none⟩),.pointer (some ⟨g.s,0,none⟩),.pointer (some ⟨g.x,0,none⟩),.pointer (some ⟨g.e,0,none⟩),.pointer (some ⟨g.u,0,none⟩)]
def TjG.fn (g:TjG):Value:= .func (.func 116) #[] g.caps.toArray
def tjB (g:TjG) (n:Nat) (xv:Value) (S:Tj) (y:TjY) (Z:List Blk):List Blk:=
 .own (some g.An) 3 1 n n (nzC S.num):: .own (some g.Al) 3 1 n n (nzC S.low):: .own (some g.Ao) 4 1 n n (aL n S.o):: .own y.As 3 1 S.stk.length y.cs (nzC S.stk):: .own y.AO 68 1 S.out.length y.cO y.vs::
 .box g.c 3 [.int .i64 ((S.cnt:Nat):Int)]:: .box g.n 68 [.slice (some ⟨g.An,0,none⟩) n n]:: .box g.l 68 [.slice (some ⟨g.Al,0,none⟩) n n]:: .box g.o 72 [.slice (some ⟨g.Ao,0,none⟩) n n]:: .box g.s 68 [sl y.As S.stk.length y.cs]:: .box g.x 64 [xv]:: .box g.e 189 [g.fn]:: .box g.u 64 [sl y.AO S.out.length y.cO]::Z
theorem Reads.short {w:World} {A:Option Nat} {m c:Nat} {xs:List Value} (h:Reads w (sl A m c) m xs):Reads w (sl A m m) m xs:=by
 obtain ⟨A',c',e,h1,h2,h3⟩:=h;unfold sl at e ⊢;injection e with e1 e2 e3;exact ⟨_,m,rfl,IK _,by omega,fun hp=>by rw [e1];exact h3 hp⟩
theorem wN {P:Program} {w0:World} {s:au} {H:List Blk} {ty t e lo m c sz g k:Nat} {x xl:Operand} [ht:Und P t (.slice e)] [hz:Size P e sz] (hx:ev s x=some (.slice (some ⟨g,0,none⟩) m c)) (hxl:ev s xl=some (.int .i64 (lo:Nat))) (h1:lo<m) (h2:m≤c) (hk:m - lo=k):
 VOp P w0 s H (.slice t x (some xl) none none) ty (.slice (some ⟨g,lo*sz,none⟩) k (c - lo)):=hk ▸ zm hx hxl h1 h2
def yc (X:Nx) (g:TjG) (xv:Value) (w0:World) (m:Nat):Prop:=
 ∀ (S:Tj) (i:Nat) (y:TjY) (Z:List Blk),S.un≤m→TjOk X S→S.cnt+S.un=X.length→i<X.length→S.n i=0→JIn Z y.vs S.out→
  FnIn Tryz.prog 116 (.int .i64 (i:Int)::g.caps) w0 (tjB g X.length xv S y Z) fun v H=>v= .tuple #[]∧ ∃ S' ex y' Z',Entd X S i S' ex∧S'.cnt+S'.un=X.length∧JIn Z' y'.vs S'.out∧H=tjB g X.length xv S' y' Z'
theorem BZ {X:Nx} {S:Tj} (hok:TjOk X S) {i:Nat} (hi:i<X.length):(aL X.length S.o).set (0+i*1) (.bool true)=aL X.length (S.start i).o:=by
 rw [iF];refine bY fun v _=> ?_;rw [yx (by rw [hok.lo];exact hi)];by_cases e:v=i
 ·rw [if_pos e,if_pos e.symm]
 ·rw [if_neg e,if_neg (fun h=>e h.symm)]
theorem xH (X:Nx) (hX: ∀ i,∀ k∈aj X i,k<X.length) (hlen:X.length≤1000) (g:TjG) (xv:Value) (w0:World) (hxv:JRd w0 xv X) (m:Nat) (ih:yc X g xv w0 m):yc X g xv w0 (m+1):=by
 intro S i y Z hun hok hcn hi h0 hZ;obtain ⟨vs,hvl,⟨Av,cv,rfl,hm1,hm2,hm3⟩,hrow⟩:=hxv;obtain ⟨gv,ov,rfl,hrv⟩:=hm3 (by omega);obtain ⟨u,hu,⟨Ai,ci,rfl,hi1,hi2,hi3⟩⟩:=hrow i hi;have hcr:=hrv.cellV i hu;have hus:=uk (S:=S) (by rw [hok.ln];exact hi) h0;have hstk:=r9 hok;have hnum:S.num.length=X.length:=hok.ln;have hlow:S.low.length=X.length:=hok.ll;have hon:=BZ hok hi;have hLp:=CD hok hi h0;have hsX:=hX i;have hcnt:S.cnt≤1000:=by omega
 refine cd Tryz.func116 rfl Tryz.ntmps116 rfl ?_;simp only [tjB,TjG.caps];repeat' (first|refine zZA ?_|refine sM fun _=>?_|(refine sC ?_ ?_<;>intro hb<;>try omega)|fail)
 all_goals try (exfalso;omega)
 refine nI (id:=1) [9,11,13] [] [.box g.c 3 [.int .i64 ((S.cnt+1:Nat):Int)],.box g.n 68 [.slice (some ⟨g.An,0,none⟩) X.length X.length],.box g.l 68 [.slice (some ⟨g.Al,0,none⟩) X.length X.length],.box g.o 72 [.slice (some ⟨g.Ao,0,none⟩) X.length X.length]] (by kernel_rfl) (by kernel_rfl) (by kernel_rfl) mS ?_;repeat' (first|(apply kX (d:=26);(iterate 3 exact rfl);apply aa (j:=i);exact rfl;exact rfl;exact hi)|(apply kX (d:=27);(iterate 3 exact rfl);apply aa (j:=i);exact rfl;exact rfl;exact hi)|(apply kX (d:=28);(iterate 3 exact rfl);apply aa (j:=i);exact rfl;exact rfl;exact hi)|(apply aI (g:=g.An);exact rfl;exact rfl;exact pK;exact rfl;(rw [gD];omega);rw [gC])|(apply aI (g:=g.Al);exact rfl;exact rfl;exact pK;exact rfl;(rw [gD];omega);rw [gC])|(apply aI (g:=g.Ao);exact rfl;exact rfl;exact pK;exact rfl;(rw [iG];omega);rw [hon])|refine zZG ?_|refine sM fun _=>?_|(refine sC ?_ ?_<;>intro hb<;>try omega)|(refine sCW ?_ ?_<;>intro hb<;>try omega)|fail)
 all_goals try (exfalso;omega)
 repeat' (first|(apply aF;(iterate 3 exact rfl);exact pK;exact pK;exact rfl;(simp [Value.oneCell']);omega;(simp only [maxLen];omega);intro gs cs)|(apply ai (d:=35);exact rfl;apply aa (j:=i);exact rfl;exact rfl;exact hi)|(apply ai (d:=36);exact rfl;apply aG;exact rfl;exact hcr)|refine zZA ?_|refine sM fun _=>?_|(refine sC ?_ ?_<;>intro hb<;>try omega)|fail)
 all_goals try (exfalso;omega)
 have hone:nzC S.stk++ [.int .i64 (i:Int)]=nzC (S.stk++ [i]):=by simp [nzC]
 refine aB [0, 1, 2, 3, 4, 5, 6, 7, 8, 36, 37] rfl (fun z : Nat × Tj × List Nat × TjY × List Blk => [(38, .int .i64 (z.1 : Int))]) (fun z => tjB g X.length (.slice (some ⟨gv, ov, none⟩) X.length cv) z.2.1 z.2.2.2.1 z.2.2.2.2) (fun z => z.1 ≤ (aj X i).length ∧ Lp X S i z.2.1 z.2.2.1 ((aj X i).take z.1) ∧ z.2.1.cnt + z.2.1.un = X.length ∧ S.cnt + 1 ≤ z.2.1.cnt ∧ JIn z.2.2.2.2 z.2.2.2.1.vs z.2.1.out) (fun z => (aj X i).length - z.1) (0, S.start i, [], ⟨some gs, cs, y.AO, y.cO, y.vs⟩, Z) ⟨Iw _, hLp, by (show S.cnt + 1 + (S.start i).un = _); omega, IK _, hZ⟩ sB (by
  rw [hone];simp only [tjB,Tj.start,Iv,IU,Km];exact mS) ?_
 clear hLp hone hon;rintro ⟨j,S1,ex,y1,Z1⟩ ⟨hj,hL,hcn1,hcn2,hZ1⟩;dsimp only at hj hL hcn1 hcn2 hZ1 ⊢;have hnum1:S1.num.length=X.length:=hL.ok.ln;have hlow1:S1.low.length=X.length:=hL.ok.ll;by_cases hlt:j<(aj X i).length
 ·obtain ⟨gl,ol,rfl,hrl⟩:=hi3 (by omega);have he:=hrl.natN j hlt;have hk:=bw hlt;have hkl:=hsX _ hk;have htk:(aj X i).take (j+1)=(aj X i).take j++ [atN (aj X i) j]:=by rw [IA hlt,bS hlt]
  generalize atN (aj X i) j=k at he hk hkl htk;have hnk:=ba (l:=S1.num) (k:=k) (by omega);by_cases hn0:S1.n k=0
  ·rw [show atN S1.num k=0 from hn0] at hnk;have hun1:S1.un≤m:=by omega
   have hcall:=ih S1 k y1 Z1 hun1 hL.ok hcn1 hkl hn0 hZ1;simp only [tjB];repeat' (first|(apply ai (d:=40);exact rfl;apply aa (j:=j);exact rfl;exact rfl;exact hlt)|(apply ai (d:=41);exact rfl;apply aG;exact rfl;exact he)|(apply ai (d:=44);exact rfl;apply aa (j:=k);exact rfl;exact rfl;exact hkl)|(apply ai (d:=45);exact rfl;apply ak;exact rfl;exact pK;exact hnk)|(apply fP (f:=116) (caps:=g.caps);exact rfl;exact rfl;infer_instance;exact rfl;exact FnIn.msub hcall (by (simp only [tjB]);exact mS);rintro _ _ ⟨rfl,S2,ex2,y2,Z2,hE,hcn3,hZ2,rfl⟩;simp only [tjB])|refine zZA ?_|refine sM fun _=>?_|(refine sC ?_ ?_<;>intro hb<;>try omega)|fail)
   all_goals try (exfalso;omega)
   have hlow2:S2.low.length=X.length:=hE.ok.ll;have hb1:=ba (l:=S2.low) (k:=i) (by omega);have hb2:=ba (l:=S2.low) (k:=k) (by omega);have hset:=gC (l:=S2.low) (k:=i) (x:=min (S2.l i) (S2.l k));have hchild:=CE hL hk hn0 hE;refine iN (id:=8) 12 (tjB g X.length (.slice (some ⟨gv,ov,none⟩) X.length cv) (S2.setLow i (min (S2.l i) (S2.l k))) y2 Z2) (by kernel_rfl) (by kernel_rfl) rfl ?_;simp only [tjB];repeat' (first|(apply iL (f:=60) (d:=54);exact rfl;decide+kernel;exact rfl;apply aa (j:=i);exact rfl;exact rfl;exact hi)|(apply iL (f:=60) (d:=55);exact rfl;decide+kernel;exact rfl;apply ak;exact rfl;exact pK;exact hb1)|(apply iL (f:=60) (d:=58);exact rfl;decide+kernel;exact rfl;apply aa (j:=k);exact rfl;exact rfl;exact hkl)|(apply iL (f:=60) (d:=59);exact rfl;decide+kernel;exact rfl;apply ak;exact rfl;exact pK;exact hb2)|(apply iL (f:=60) (d:=60);exact rfl;decide+kernel;exact rfl;apply BJ;(iterate 3 exact rfl))|(apply iL (f:=60) (d:=61);exact rfl;decide+kernel;exact rfl;apply aa (j:=i);exact rfl;exact rfl;exact hi)|(apply mN (g:=g.Al);exact rfl;exact rfl;exact pK;exact rfl;(rw [gD];omega);(erw [hset];simp only [Tj.setLow];exact mS))|refine sT ?_|refine sS ?_|refine sG ?_|refine sM fun _=>?_|(refine sC ?_ ?_<;>intro hb<;>try omega)|fail)
   repeat' (first|refine zZA ?_|refine sM fun _=>?_|(refine sC ?_ ?_<;>intro hb<;>try omega)|fail)
   all_goals first
    |(exfalso;omega)
    |(refine ⟨(j+1,S2.setLow i (min (S2.l i) (S2.l k)),ex++ex2,y2,Z2),⟨hlt,?_,hcn3,Nat.le_trans hcn2 hE.cnt,hZ2⟩,by dsimp only;omega,by exact sB,by exact sB,by simp only [tjB];exact mS⟩;dsimp only;rw [htk];exact hchild;done)
  ·have hnz: ¬ ((atN S1.num k:Nat):Int)=0:=fun h=>hn0 (by have h2:atN S1.num k=0:=(by omega);exact h2);have hok1:=eU (f:=S1.o) hkl;by_cases hs:k∈S1.stk
   ·rw [(hL.ok.on k hkl).2 hs] at hok1;have hb1:=ba (l:=S1.low) (k:=i) (by omega);have hset:=gC (l:=S1.low) (k:=i) (x:=min (S1.l i) (S1.n k));have hon2:=HQ hL hk hs;simp only [tjB];repeat' (first|(apply ai (d:=40);exact rfl;apply aa (j:=j);exact rfl;exact rfl;exact hlt)|(apply ai (d:=41);exact rfl;apply aG;exact rfl;exact he)|(apply ai (d:=44);exact rfl;apply aa (j:=k);exact rfl;exact rfl;exact hkl)|(apply ai (d:=45);exact rfl;apply ak;exact rfl;exact pK;exact hnk)|(apply ai (d:=64);exact rfl;apply aa (j:=k);exact rfl;exact rfl;exact hkl)|(apply ai (d:=65);exact rfl;apply ak;exact rfl;exact pK;exact hok1)|refine zZA ?_|refine sM fun _=>?_|(refine sC ?_ ?_<;>intro hb<;>try omega)|fail)
    all_goals try (exfalso;omega)
    refine iN (id:=10) 12 (tjB g X.length (.slice (some ⟨gv,ov,none⟩) X.length cv) (S1.setLow i (min (S1.l i) (S1.n k))) y1 Z1) (by kernel_rfl) (by kernel_rfl) rfl ?_;simp only [tjB];repeat' (first|(apply iL (f:=60) (d:=70);exact rfl;decide+kernel;exact rfl;apply aa (j:=i);exact rfl;exact rfl;exact hi)|(apply iL (f:=60) (d:=71);exact rfl;decide+kernel;exact rfl;apply ak;exact rfl;exact pK;exact hb1)|(apply iL (f:=60) (d:=74);exact rfl;decide+kernel;exact rfl;apply aa (j:=k);exact rfl;exact rfl;exact hkl)|(apply iL (f:=60) (d:=75);exact rfl;decide+kernel;exact rfl;apply ak;exact rfl;exact pK;exact hnk)|(apply iL (f:=60) (d:=76);exact rfl;decide+kernel;exact rfl;apply BJ;(iterate 3 exact rfl))|(apply iL (f:=60) (d:=77);exact rfl;decide+kernel;exact rfl;apply aa (j:=i);exact rfl;exact rfl;exact hi)|(apply mN (g:=g.Al);exact rfl;exact rfl;exact pK;exact rfl;(rw [gD];omega);(erw [hset];simp only [Tj.setLow];exact mS))|refine sT ?_|refine sS ?_|refine sG ?_|refine sM fun _=>?_|(refine sC ?_ ?_<;>intro hb<;>try omega)|fail)
    repeat' (first|refine zZA ?_|refine sM fun _=>?_|(refine sC ?_ ?_<;>intro hb<;>try omega)|fail)
    all_goals first
     |(exfalso;omega)
     |(refine ⟨(j+1,S1.setLow i (min (S1.l i) (S1.n k)),ex,y1,Z1),⟨hlt,?_,hcn1,hcn2,hZ1⟩,by dsimp only;omega,by exact sB,by exact sB,by simp only [tjB];exact mS⟩;dsimp only;rw [htk];exact hon2;done)
   ·rw [Bool.eq_false_iff.2 (fun h=>hs ((hL.ok.on k hkl).1 h))] at hok1;have hoff:=GF hL hn0 hs;simp only [tjB];repeat' (first|(apply ai (d:=40);exact rfl;apply aa (j:=j);exact rfl;exact rfl;exact hlt)|(apply ai (d:=41);exact rfl;apply aG;exact rfl;exact he)|(apply ai (d:=44);exact rfl;apply aa (j:=k);exact rfl;exact rfl;exact hkl)|(apply ai (d:=45);exact rfl;apply ak;exact rfl;exact pK;exact hnk)|(apply ai (d:=64);exact rfl;apply aa (j:=k);exact rfl;exact rfl;exact hkl)|(apply ai (d:=65);exact rfl;apply ak;exact rfl;exact pK;exact hok1)|refine zZA ?_|refine sM fun _=>?_|(refine sC ?_ ?_<;>intro hb<;>try omega)|fail)
    all_goals first
     |(exfalso;omega)
     |(refine ⟨(j+1,S1,ex,y1,Z1),⟨hlt,?_,hcn1,hcn2,hZ1⟩,by dsimp only;omega,by exact sB,by exact sB,by simp only [tjB];exact mS⟩;dsimp only;rw [htk];exact hoff;done)
 ·have hjl:j=(aj X i).length:=by omega
  subst hjl;rw [I5] at hL;have hb1:=ba (l:=S1.low) (k:=i) (by omega);have hb2:=ba (l:=S1.num) (k:=i) (by omega);by_cases heq:S1.l i=S1.n i
  ·obtain ⟨S',hE,e1,e2,e3,e4,e5,hon'⟩:=Es hL heq;have hex:=hL.ex_len;have hstk1:S1.stk=S.stk++i::ex:=hL.stk;have hml:S1.stk.length=S.stk.length+(i::ex).length:=by rw [hstk1,Iv]
   have hms1:=r9 hL.ok;have hpos:0<(i::ex).length:=Nat.succ_pos _;have hpl:(i::ex).length≤X.length:=by rw [IU];exact hex
   have hmo:=Ej hL.ok;have hlt' : ∀ v∈i::ex,v<X.length:=fun v hv=>hL.ok.lt v (by rw [hstk1];exact JL _ hv);obtain ⟨As1,cs1,AO1,cO1,vs1⟩:=y1;dsimp only at hZ1;simp only [tjB];refine ym (A:=As1) pK fun _ hcs1 hcs2=> ?_;refine bH (A:=As1) pK (by omega) fun gs hAs=> ?_;subst hAs;have hni:i∉S.stk:=fun h=>JO _ (hL.old_lt h);have hIx: ∀ (w' :World) (H:List Blk),Mem w0 w' H→In (.own (some gs) 3 1 S1.stk.length cs1 (nzC S1.stk)) H→aC Tryz.prog 84 [sl (some gs) S1.stk.length cs1,.int .i64 (i:Int)] w' (.int .i64 ((S.stk.length:Nat):Int)):=fun w' H hm hin=>by
    have h:=rC S1.stk i (by omega) _ w' (Reads.of_own hm hin);rwa [hstk1,CT hni,← hstk1] at h
   have hRd: ∀ (w' :World) (H:List Blk),Mem w0 w' H→In (.own (some gs) 3 1 S1.stk.length cs1 (nzC S1.stk)) H→Reads w' (.slice (some ⟨gs,S.stk.length*1,none⟩) (i::ex).length (cs1 - S.stk.length)) (i::ex).length (nzC (i::ex)):=fun w' H hm hin=>by
    have h:=(Reads.of_own hm hin).cut (lo:=S.stk.length) (hi:=S1.stk.length) (sz:=1) (by omega) (IK _);rw [if_neg (by omega),show S1.stk.length - S.stk.length=(i::ex).length by omega,Jd,Jd,hstk1,Ct,oZ,List.drop_left,I5] at h;have ha:(Option.map (fun g=>(⟨g,0,none⟩:Addr)) (some gs)).map (·.add S.stk.length)=some ⟨gs,S.stk.length*1,none⟩:=by simp [bA]
    rw [ha] at h;exact h
   have hCl:=fun (w' :World) (H:List Blk) (hm:Mem w0 w' H) (hin:In (.own (some gs) 3 1 S1.stk.length cs1 (nzC S1.stk)) H)=>Bf (i::ex) _ w' (hRd w' H hm hin) (by omega);rw [show atN S1.low i=atN S1.num i from heq] at hb1;generalize hq:atN S1.num i=q at hb1 hb2;repeat' (first|(apply cg (d:=81);exact rfl;apply aa (j:=i);exact rfl;exact rfl;exact hi)|(apply cg (d:=82);exact rfl;apply ak;exact rfl;exact pK;exact hb1)|(apply cg (d:=85);exact rfl;apply aa (j:=i);exact rfl;exact rfl;exact hi)|(apply cg (d:=86);exact rfl;apply ak;exact rfl;exact pK;exact hb2)|(apply cg (d:=87);exact rfl;apply wQ;exact rfl;exact rfl)|(apply ag (f:=84);exact rfl;exact rfl;(intro w' hm;exact hIx w' _ hm pK))|(apply ai (d:=93);exact rfl;apply wN (lo:=S.stk.length) (k:=(i::ex).length);exact rfl;exact rfl;omega;exact hcs1;omega)|(apply aH (f:=117);exact rfl;exact rfl;(intro w' hm;exact hCl w' _ hm pK);rintro _ _ ⟨Ap,cp,rfl,rfl⟩)|(apply ai (d:=97);exact rfl;apply qD (hi:=S.stk.length);exact rfl;exact rfl;omega)|refine zZI ?_|refine sM fun _=>?_|(refine sC ?_ ?_<;>intro hb<;>try omega)|(refine sCQ ?_ ?_<;>intro hb<;>try omega)|fail)
   all_goals try (exfalso;omega)
   refine gK (.own (some gs) 3 1 S1.stk.length cs1 (nzC S1.stk):: .own (some g.An) 3 1 X.length X.length (nzC S1.num):: .own (some g.Al) 3 1 X.length X.length (nzC S1.low):: .own (some g.Ao) 4 1 X.length X.length (aL X.length S1.o):: .own Ap 3 1 (i::ex).length cp (nzC (i::ex)):: .own AO1 68 1 S1.out.length cO1 vs1:: .box g.c 3 [.int .i64 ((S1.cnt:Nat):Int)]:: .box g.n 68 [.slice (some ⟨g.An,0,none⟩) X.length X.length]:: .box g.l 68 [.slice (some ⟨g.Al,0,none⟩) X.length X.length]:: .box g.o 72 [.slice (some ⟨g.Ao,0,none⟩) X.length X.length]:: .box g.s 68 [.slice (some ⟨gs,0,none⟩) S.stk.length cs1]:: .box g.x 64 [.slice (some ⟨gv,ov,none⟩) X.length cv]:: .box g.e 189 [g.fn]:: .box g.u 64 [sl AO1 S1.out.length cO1]::Z1) mS ?_;refine tV (A:=some gs) .hd S.stk.length (by omega) ?_;rw [show (nzC S1.stk).take (S.stk.length*1)=nzC S.stk by rw [Jd,oZ,hstk1,Kg]];refine aB [1,2,3,4,5,6,7,8,13,98,99] rfl (fun j:Nat=> [(100,.int .i64 (j:Int))]) (fun j=> .own (some g.Ao) 4 1 X.length X.length (aL X.length (nC S1 ((i::ex).take j))):: .own (some gs) 3 1 S.stk.length cs1 (nzC S.stk):: .own (some g.An) 3 1 X.length X.length (nzC S1.num):: .own (some g.Al) 3 1 X.length X.length (nzC S1.low):: .own Ap 3 1 (i::ex).length cp (nzC (i::ex)):: .own AO1 68 1 S1.out.length cO1 vs1:: .box g.c 3 [.int .i64 ((S1.cnt:Nat):Int)]:: .box g.n 68 [.slice (some ⟨g.An,0,none⟩) X.length X.length]:: .box g.l 68 [.slice (some ⟨g.Al,0,none⟩) X.length X.length]:: .box g.o 72 [.slice (some ⟨g.Ao,0,none⟩) X.length X.length]:: .box g.s 68 [.slice (some ⟨gs,0,none⟩) S.stk.length cs1]:: .box g.x 64 [.slice (some ⟨gv,ov,none⟩) X.length cv]:: .box g.e 189 [g.fn]:: .box g.u 64 [sl AO1 S1.out.length cO1]::Z1) (fun j=>j≤(i::ex).length) (fun j=>(i::ex).length - j) 0 (Iw _) sB (by rw [← zX];exact mS) ?_;rintro j hj;by_cases hlj:j<(i::ex).length
   ·refine bH (A:=Ap) pK (by omega) fun gp hA=> ?_;subst hA;have hc:=ba hlj;have hkl:=hlt' _ (bw hlj);have hst:=iF (n:=X.length) (f:=nC S1 ((i::ex).take j)) (k:=atN (i::ex) j) (v:=false);rw [zY S1 (i::ex) hlj] at hst;generalize atN (i::ex) j=k at hc hkl hst;repeat' (first|(apply ai (d:=102);exact rfl;apply aa (j:=j);exact rfl;exact rfl;exact hlj)|(apply ai (d:=103);exact rfl;apply ak;exact rfl;exact pK;exact hc)|(apply ai (d:=106);exact rfl;apply aa (j:=k);exact rfl;exact rfl;exact hkl)|(apply aI (g:=g.Ao);exact rfl;exact rfl;exact pK;exact rfl;(rw [iG];omega);rw [hst])|refine zZA ?_|refine sM fun _=>?_|(refine sC ?_ ?_<;>intro hb<;>try omega)|fail)
    all_goals first
     |(exfalso;omega)
     |(refine ⟨j+1,hlj,by omega,by exact sB,by exact sB,by exact mS⟩;done)
   ·have hj2:j=(i::ex).length:=by omega
    subst hj2;rw [hon'];repeat' (first|(apply ap (f:=41);exact rfl;exact rfl;exact FnIn.msub (oJ (i::ex) Ap cp (by omega) _ w0) (MSub.pick pK (MSub.refl _));rintro _ _ ⟨rfl,rfl⟩)|refine zZA ?_|refine sM fun _=>?_|(refine sC ?_ ?_<;>intro hb<;>try omega)|fail)
    all_goals try (exfalso;omega)
    refine ym (A:=Ap) pK fun _ hcp1 hcp2=> ?_;refine iO (id:=22) [0,7,8,9] [] 10 rfl rfl (MSub.nil _) ?_;repeat' (first|(apply aP (i:=6);(iterate 4 exact rfl);(iterate 3 decide+kernel);(apply wO;(iterate 3 exact rfl);exact hcp1))|(apply aP (i:=1);(iterate 4 exact rfl);(iterate 3 decide+kernel);(exact vC))|(apply aP (i:=2);(iterate 4 exact rfl);(iterate 3 decide+kernel);(exact vC))|(apply aP (i:=3);(iterate 4 exact rfl);(iterate 3 decide+kernel);(exact vC))|(apply aP (i:=4);(iterate 4 exact rfl);(iterate 3 decide+kernel);(exact vC))|(apply aP (i:=5);(iterate 4 exact rfl);(iterate 3 decide+kernel);(exact vC))|(apply n8 (i:=0) (j:=7);(iterate 6 exact rfl);decide+kernel)|(apply bG (i:=0);(iterate 3 exact rfl);decide+kernel)|(apply bG (i:=7);(iterate 3 exact rfl);decide+kernel)|(apply bG (i:=8);(iterate 3 exact rfl);decide+kernel)|(apply bG (i:=9);(iterate 3 exact rfl);decide+kernel)|(apply iM;decide+kernel)|(apply v6;(focus (exact mS;done)))|(apply aF;(iterate 3 exact rfl);exact pK;exact pK;exact rfl;(simp [Value.oneCell',sl]);omega;(simp only [maxLen];omega);intro g8 c8)|refine zZB ?_|refine sM fun _=>?_|(refine sC ?_ ?_<;>intro hb<;>try omega)|fail)
    repeat' (first|refine zZA ?_|refine sM fun _=>?_|(refine sC ?_ ?_<;>intro hb<;>try omega)|fail)
    all_goals first
     |(exfalso;omega)
     | (refine gN (H' := tjB g X.length (.slice (some ⟨gv, ov, none⟩) X.length cv) S' ⟨some gs, cs1, some g8, c8, vs1 ++ [sl Ap (i :: ex).length (i :: ex).length]⟩ (.own Ap 3 1 (i :: ex).length cp (nzC (dI (i :: ex))) :: Z1)) eIO rfl ?_ ⟨rfl, S', [], _, _, hE, ?_, ?_, rfl⟩
        ·simp only [tjB,e1,e2,e3,e4,e5,Iv,IU,Km];exact mS
        ·rw [e5,show S'.un=S1.un by unfold Tj.un;rw [e1]];exact hcn1
        ·rw [e4];refine hZ1.snoc (MSub.drop .hd (MSub.refl _)) fun w' hm=> ?_;rw [(di _).length_eq];exact (Reads.of_own (A:=Ap) (c:=cp) hm .hd).short)
  ·have hkeep:=Eu hL heq;have hne: ¬ ((atN S1.low i:Nat):Int)=((atN S1.num i:Nat):Int):=fun h=>heq (by have h2:atN S1.low i=atN S1.num i:=(by omega);exact h2);generalize atN S1.low i=p at hb1 hne;generalize atN S1.num i=q at hb2 hne;simp only [tjB];repeat' (first|(apply cg (d:=81);exact rfl;apply aa (j:=i);exact rfl;exact rfl;exact hi)|(apply cg (d:=82);exact rfl;apply ak;exact rfl;exact pK;exact hb1)|(apply cg (d:=85);exact rfl;apply aa (j:=i);exact rfl;exact rfl;exact hi)|(apply cg (d:=86);exact rfl;apply ak;exact rfl;exact pK;exact hb2)|refine zZI ?_|refine sM fun _=>?_|(refine sC ?_ ?_<;>intro hb<;>try omega)|(refine sCQ ?_ ?_<;>intro hb<;>try omega)|fail)
   all_goals first
    |(exfalso;omega)
    |(exact gN eIO rfl mS ⟨rfl,S1,_,y1,Z1,hkeep,hcn1,hZ1,rfl⟩)
theorem vS (X:Nx) (hX: ∀ i,∀ k∈aj X i,k<X.length) (hlen:X.length≤1000) (g:TjG) (xv:Value) (w0:World) (hxv:JRd w0 xv X): ∀ m,yc X g xv w0 m
 |0=>fun S i y Z hun hok _ hi h0 _=>by
  have:=uk (S:=S) (by rw [hok.ln];exact hi) h0;omega
 |m+1=>xH X hX hlen g xv w0 hxv m (vS X hX hlen g xv w0 hxv m)
theorem TjEnd.inj {X:Nx} {O:List (List Nat)} (h:TjEnd X O) {i j:Nat} (hi:i<O.length) (hj:j<O.length) (e:atN (aj O i) 0=atN (aj O j) 0):i=j:=by
 have hO: ∀ k (hk:k<O.length),aj O k=O[k]:=fun k hk=>by unfold aj;rw [Ir hk];rfl
 rw [hO i hi,hO j hj] at e;have h1:=fun k (hk:k<O.length)=>fY (h.scc _ (IZ hk)).1;rcases Nat.lt_trichotomy i j with hlt|rfl|hlt
 ·exact absurd (e ▸ h1 j hj) ((J5.1 h.dis) i j hi hj hlt _ (h1 i hi))
 ·rfl
 ·exact absurd (e ▸ h1 i hi) ((J5.1 h.dis) j i hj hi hlt _ (e ▸ h1 j hj))
theorem qz (X:Nx) (hX: ∀ i,∀ k∈aj X i,k<X.length) (hlen:X.length≤1000) (v:Value) (w:World) (hv:JRd w v X):
 FnAt Tryz.prog 78 [v] w fun u H=> ∃ A c O vs Z,u= .tuple #[sl A O.length c,.int .i64 0]∧H= .own A 68 1 O.length c vs::Z∧TjEnd X O∧JIn Z vs O:=by
 have hv' :=hv;have hva:=fun (w' :World) (H:List Blk) (hm:Mem w w' H)=>zl X hX hlen v w' (hv.of_w0 hm);have hen:=fun (g:TjG)=>vS X hX hlen g v w hv;obtain ⟨vs0,hvl,⟨Av,cv,rfl,hm1,hm2,hm3⟩,hrow⟩:=hv;refine ax Tryz.func78 rfl Tryz.ntmps78 rfl ?_;refine aN 3 1 ?_;refine aN 68 1 ?_;repeat' (first|(apply ag (f:=115);exact rfl;exact rfl;(intro w' hm;exact hva w' _ hm))|(apply cw (c:=X.length);(iterate 3 exact rfl);omega;(simp only [maxLen];omega);intro gx;(try simp only [uX]);(try simp only [kT]))|refine zZA ?_|refine sM fun _=>?_|(refine sC ?_ ?_<;>intro hb<;>try omega)|fail)
 all_goals try (exfalso;omega)
 rename_i g1 An g4 Al g5 g6 g7 g8 g9 g10;have hon:aL X.length (fun _=>false)=aL X.length (Tj.new X.length).o:=bY fun v _=>(FA _ v).symm;let g:TjG:=⟨g9,g4,g5,g6,g7,g1,g10,g8,An,Al,gx⟩;have hen:=hen g
 refine aB [1, 4, 5, 6, 7, 8, 9, 10, 26] rfl (fun z : Nat × Tj × TjY × List Blk => [(27, .int .i64 (z.1 : Int))]) (fun z => tjB g X.length (.slice Av X.length cv) z.2.1 z.2.2.1 z.2.2.2) (fun z => z.1 ≤ X.length ∧ TjOk X z.2.1 ∧ z.2.1.stk = [] ∧ z.2.1.cnt + z.2.1.un = X.length ∧ (∀ j, j < z.1 → z.2.1.n j ≠ 0) ∧ JIn z.2.2.2 z.2.2.1.vs z.2.1.out) (fun z => X.length - z.1) (0, Tj.new X.length, ⟨none, 0, none, 0, []⟩, []) ⟨Iw _, GA X, rfl, by rw [Gz]; exact IG _, fun j h => absurd h (J7 _), JIn.nil⟩ sB (by
  rw [hon];simp only [tjB];exact mS) ?_
 clear hon;rintro ⟨i,S,y,Z⟩ ⟨hi,hok,hst,hcn,hvis,hZ⟩;dsimp only at hi hok hst hcn hvis hZ ⊢;have hnum:S.num.length=X.length:=hok.ln;by_cases hlt:i<X.length
 ·have hc:=ba (l:=S.num) (k:=i) (by omega);by_cases hn0:S.n i=0
  ·rw [show atN S.num i=0 from hn0] at hc;have hcall:=hen S.un S i y Z (IK _) hok hcn hlt hn0 hZ;simp only [tjB];repeat' (first|(apply ai (d:=32);exact rfl;apply aa (j:=i);exact rfl;exact rfl;exact hlt)|(apply ai (d:=33);exact rfl;apply ak;exact rfl;exact pK;exact hc)|(apply fP (f:=116) (caps:=g.caps);exact rfl;exact rfl;infer_instance;exact rfl;exact FnIn.msub hcall (by (simp only [tjB]);exact mS);rintro _ _ ⟨rfl,S2,ex2,y2,Z2,hE,hcn2,hZ2,rfl⟩;simp only [tjB])|refine zZA ?_|refine sM fun _=>?_|(refine sC ?_ ?_<;>intro hb<;>try omega)|fail)
   all_goals first
    |(exfalso;omega)
    | (have hex := xI hE hst
       refine ⟨(i+1,S2,y2,Z2),⟨hlt,hE.ok,?_,hcn2,fun j hj=> ?_,hZ2⟩,by dsimp only;omega,by exact sB,by exact sB,by simp only [tjB];exact mS⟩
       ·rw [hE.stk,hst,hex];rfl
       ·by_cases e:j=i
        ·rw [e];exact hE.new
        ·have hj2:=hvis j (by omega);rw [hE.n_old j hj2];exact hj2)
  ·have hnz: ¬ ((atN S.num i:Nat):Int)=0:=fun h=>hn0 (by have h2:atN S.num i=0:=(by omega);exact h2);generalize atN S.num i=q at hc hnz;simp only [tjB];repeat' (first|(apply ai (d:=32);exact rfl;apply aa (j:=i);exact rfl;exact rfl;exact hlt)|(apply ai (d:=33);exact rfl;apply ak;exact rfl;exact pK;exact hc)|refine zZA ?_|refine sM fun _=>?_|(refine sC ?_ ?_<;>intro hb<;>try omega)|fail)
   all_goals first
    |(exfalso;omega)
    | (refine ⟨(i + 1, S, y, Z), ⟨hlt, hok, hst, hcn, fun j hj => ?_, hZ⟩, by dsimp only; omega, by exact sB, by exact sB, by simp only [tjB]; exact mS⟩
       by_cases e:j=i
       ·rw [e];exact hn0
       ·exact hvis j (by omega))
 ·have e:i=X.length:=by omega
  subst e;have hfin:=hok.fin hst hvis;have hol:=hfin.len;have hsort:=fun R (hZR:JIn R y.vs S.out)=>zD S.out y.vs y.AO y.cO R w hZR (fun p hp=>(hfin.scc p hp).1) (fun i j hi hj e=>hfin.inj hi hj e) (fun p hp v hv=>by have:=hfin.lt p hp v hv;omega) (by omega);simp only [tjB];refine gK (.own y.AO 68 1 S.out.length y.cO y.vs:: .box g.u 64 [sl y.AO S.out.length y.cO]::Z) mS ?_;repeat' (first|(apply ap (f:=118);exact rfl;exact rfl;exact hsort _ (hZ.mono (MSub.drop .hd (MSub.refl _)));rintro _ _ ⟨rfl,O,vs,hp,hO,rfl⟩)|refine zZA ?_|refine sM fun _=>?_|(refine sC ?_ ?_<;>intro hb<;>try omega)|fail)
  all_goals first
   |(exfalso;omega)
   | (have hol2 := hp.length_eq
      refine eX (H' := .own y.AO 68 1 O.length y.cO vs:: .box g.u 64 [sl y.AO S.out.length y.cO]::Z) eIO rfl rfl rfl (by rw [hol2];exact mS) ⟨y.AO,y.cO,O,vs,_,by rw [hol2],rfl,hfin.perm hp,hO⟩)
theorem pX (X:Nx) (hX: ∀ i,∀ k∈aj X i,k<X.length) (hlen:X.length≤1000) (hrl: ∀ i,(aj X i).length≤1000) (v:Value) (w:World) (hv:JRd w v X):
 FnAt Tryz.prog 34 [v] w fun u H=> ∃ A c l Z,u= .tuple #[sl A l.length c,.int .i64 0]∧H= .own A 3 1 l.length c (nzC l)::Z∧l.Pairwise (· < ·)∧ ∀ i,i∈l↔i<X.length∧onC X i:=by
 have hcm:=fun (w' :World) (H:List Blk) (hm:Mem w w' H)=>qz X hX hlen v w' (hv.of_w0 hm);obtain ⟨vs0,hvl,⟨Av,cv,rfl,hm1,hm2,hm3⟩,hrow⟩:=hv;refine ax Tryz.func34 rfl Tryz.ntmps34 rfl ?_;repeat' (first|(apply aH (f:=78);exact rfl;exact rfl;(intro w' hm;exact hcm w' _ hm);rintro _ _ ⟨A,c,O,vs,Z,rfl,rfl,hE,hO⟩)|refine zZB ?_|refine sM fun _=>?_|(refine sC ?_ ?_<;>intro hb<;>try omega)|fail)
 all_goals try (exfalso;omega)
 have hol:=hE.len;refine gK (.own A 68 1 O.length c vs::Z) (MSub.appL _ _) ?_;refine aN 3 1 ?_;refine aB [0,17,18] rfl (fun y:Nat × Option Nat × Nat=> [(6,sl y.2.1 ((O.take y.1).flatMap (cu X)).length y.2.2),(19,.int .i64 (y.1:Int))]) (fun y=> .own y.2.1 3 1 ((O.take y.1).flatMap (cu X)).length y.2.2 (nzC ((O.take y.1).flatMap (cu X))):: .own A 68 1 O.length c vs::Z) (fun y=>y.1≤O.length) (fun y=>O.length - y.1) (0,none,0) (Iw _) sB mS ?_;rintro ⟨j,A3,c3⟩ hj;dsimp only at hj ⊢;by_cases hlt:j<O.length
 ·refine bH (A:=A) pK (by omega) fun ga hA=> ?_;subst hA;obtain ⟨u,hu,hru⟩:=hO.2 j hlt;have hc:vs[0+j*1]? =some u:=by rw [IG,Jd];exact hu
  have hmO:aj O j∈O:=by unfold aj;rw [Ir hlt];exact IZ hlt
  have hpn:=Ku.2 (hE.scc _ hmO).1;have hpl:=hE.part_len hmO;have hpx:=hE.lt _ hmO;have hst:=xy (X:=X) hlt;have hfl:=qV hE j;have hone: ¬ 1<(aj O j).length→aj O j= [atN (aj O j) 0]:=fun h=>xn h (fY (hE.scc _ hmO).1);generalize aj O j=p at hru hpn hpl hpx hst hone;generalize (O.take j).flatMap (cu X)=S at hst hfl;have hrd: ∀ (H:List Blk),MSub Z H→ ∀ w',Mem w w' H→Reads w' u p.length (nzC p):=fun H hs w' hm=>hru w' (hs.use hm);refine Bx (m:=p.length) (fun w' hm=>hrd _ (MSub.drop .hd (MSub.drop .hd (MSub.refl _))) w' hm) hpn fun gp op cp hlv=> ?_;subst hlv;by_cases h1:1<p.length
  ·have hlp:cu X p=p:=if_pos (.inl h1);rw [hlp] at hst;repeat' (first|(apply ai (d:=21);exact rfl;apply aa (j:=j);exact rfl;exact rfl;exact hlt)|(apply ai (d:=22);exact rfl;apply ak;exact rfl;exact pK;exact hc)|(apply eG (m:=p.length);(iterate 3 exact rfl);exact pK;(intro w' hm;exact hrd _ mS w' hm);exact o3 p;exact sq p;omega;(simp only [maxLen];omega);intro A8 c8 hA8)|refine zZI ?_|refine sM fun _=>?_|(refine sC ?_ ?_<;>intro hb<;>try omega)|(refine sCQ ?_ ?_<;>intro hb<;>try omega)|fail)
   all_goals first
    |(exfalso;omega)
    |(refine ⟨(j+1,A8,c8),hlt,by dsimp only;omega,by dsimp only;rw [hst,List.length_append];exact sB,by exact sB,by dsimp only;rw [hst,List.length_append,sr];exact mS⟩;done)
  ·have hp1:=hone h1;have hxl:=hpx _ (bw (l:=p) (k:=0) hpn);obtain ⟨gv,ov,rfl,hrv⟩:=hm3 (by omega);obtain ⟨ux,hux,hrx⟩:=hrow (atN p 0) hxl;have hcx:=hrv.cellV (atN p 0) hux;have hct:=fun (w' :World) (H:List Blk) (hm:Mem w w' H)=>lT (aj X (atN p 0)) (atN p 0) (by have:=hrl (atN p 0);omega) ux w' (hrx.of_w0 hm);have hc0:=mh (l:=p) (k:=0) hpn;have hcl: ∀ (H:List Blk),MSub Z H→ ∀ w',Mem w w' H→Cells w' gp op (nzC p):=fun H hs w' hm=>pT (hrd H hs w' hm) hpn;by_cases hin:atN p 0∈aj X (atN p 0)
   ·have hlp:cu X p=p:=if_pos (.inr hin);rw [hlp] at hst;rw [decide_eq_true hin] at hct;generalize atN p 0=x at hxl hcx hct hc0;repeat' (first|(apply ai (d:=21);exact rfl;apply aa (j:=j);exact rfl;exact rfl;exact hlt)|(apply ai (d:=22);exact rfl;apply ak;exact rfl;exact pK;exact hc)|(apply cg (d:=29);exact rfl;apply aa (j:=0);exact rfl;exact rfl;exact hpn)|(apply cg (d:=30);exact rfl;apply gU (off:=0);(intro w' hm;exact hcl _ mS w' hm);exact rfl;exact hc0)|(apply cg (d:=31);exact rfl;apply aa (j:=x);exact rfl;exact rfl;exact hxl)|(apply cg (d:=32);exact rfl;apply aG;exact rfl;exact hcx)|(apply cg (d:=34);exact rfl;apply aa (j:=0);exact rfl;exact rfl;exact hpn)|(apply cg (d:=35);exact rfl;apply gU (off:=0);(intro w' hm;exact hcl _ mS w' hm);exact rfl;exact hc0)|(apply jn (f:=40);exact rfl;exact rfl;(intro w' hm;exact hct w' _ hm))|(apply eG (m:=p.length);(iterate 3 exact rfl);exact pK;(intro w' hm;exact hrd _ mS w' hm);exact o3 p;exact sq p;omega;(simp only [maxLen];omega);intro A8 c8 hA8)|refine zZI ?_|refine sM fun _=>?_|(refine sC ?_ ?_<;>intro hb<;>try omega)|(refine sCQ ?_ ?_<;>intro hb<;>try omega)|fail)
    all_goals first
     |(exfalso;omega)
     |(refine ⟨(j+1,A8,c8),hlt,by dsimp only;omega,by dsimp only;rw [hst,List.length_append];exact sB,by exact sB,by dsimp only;rw [hst,List.length_append,sr];exact mS⟩;done)
   ·have hlp:cu X p= []:=if_neg (fun h=>h.elim h1 hin);rw [hlp,I3] at hst;rw [decide_eq_false hin] at hct;generalize atN p 0=x at hxl hcx hct hc0;repeat' (first|(apply ai (d:=21);exact rfl;apply aa (j:=j);exact rfl;exact rfl;exact hlt)|(apply ai (d:=22);exact rfl;apply ak;exact rfl;exact pK;exact hc)|(apply cg (d:=29);exact rfl;apply aa (j:=0);exact rfl;exact rfl;exact hpn)|(apply cg (d:=30);exact rfl;apply gU (off:=0);(intro w' hm;exact hcl _ mS w' hm);exact rfl;exact hc0)|(apply cg (d:=31);exact rfl;apply aa (j:=x);exact rfl;exact rfl;exact hxl)|(apply cg (d:=32);exact rfl;apply aG;exact rfl;exact hcx)|(apply cg (d:=34);exact rfl;apply aa (j:=0);exact rfl;exact rfl;exact hpn)|(apply cg (d:=35);exact rfl;apply gU (off:=0);(intro w' hm;exact hcl _ mS w' hm);exact rfl;exact hc0)|(apply jn (f:=40);exact rfl;exact rfl;(intro w' hm;exact hct w' _ hm))|refine zZI ?_|refine sM fun _=>?_|(refine sC ?_ ?_<;>intro hb<;>try omega)|(refine sCQ ?_ ?_<;>intro hb<;>try omega)|fail)
    all_goals first
     |(exfalso;omega)
     |(refine ⟨(j+1,A3,c3),hlt,by dsimp only;omega,by dsimp only;rw [hst];exact sB,by exact sB,by dsimp only;rw [hst];exact mS⟩;done)
 ·have e:j=O.length:=by omega
  subst e;have hfl:=qV hE O.length;rw [I5] at hfl ⊢;have hfin:=Aa hE;have hsl:=(di (O.flatMap (cu X))).length_eq;generalize O.flatMap (cu X)=S at hfl hfin hsl;repeat' (first|(apply ap (f:=41);exact rfl;exact rfl;exact FnIn.msub (oJ S A3 c3 (by omega) _ w) (MSub.pick pK (MSub.refl _));rintro _ _ ⟨rfl,rfl⟩)|refine zZA ?_|refine sM fun _=>?_|(refine sC ?_ ?_<;>intro hb<;>try omega)|fail)
  all_goals first
   |(exfalso;omega)
   |(exact eX (H' := .own A3 3 1 (dI S).length c3 (nzC (dI S)):: .own A 68 1 O.length c vs::Z) eIO rfl rfl rfl (by rw [hsl];exact mS) ⟨A3,c3,dI S,_,by rw [hsl],rfl,hfin⟩)
end Go.SL

/-
  Lemmas and walks, put together: Zf.
-/
import Derived.Test.YtfeicpjdgjflaaaGreatDoorKv23
set_option linter.unusedSimpArgs false
set_option linter.unusedVariables false
set_option maxRecDepth 20000
set_option maxHeartbeats 16000000
namespace Go.SL
open Go Go.Proofs
attribute [local irreducible] W WL WQ WG WA WX WLI WR WT WC WE VOp RW thn blk bg scp aS aV bi FnAt FnIn FnP ceP
theorem Li (X:Nx) (hX: ∀ i,∀ k∈ax X i,k<X.length) (hlen:X.length≤1000) (v:Value) (w:World) (hv:JRd w v X):aF Tryz.prog 191 [v] w (.bool true):=by
 obtain ⟨vs,hvl,⟨Av,cv,rfl,hm1,hm2,hm3⟩,hrow⟩:=hv;refine aA Tryz.func191 rfl Tryz.ntmps191 rfl ?_;repeat' (first|refine zZB ?_|refine sM fun _=>?_|refine sC ?_ ?_<;>intro hb<;>try omega|fail)
 refine ay [0,7,8] rfl (fun i:Nat=> [(9,.int .i64 (i:Int))]) (fun _=> []) (fun i=>i≤X.length) (fun i=>X.length - i) 0 (Vt _) sB mS ?_;rintro i hi;by_cases hlt:i<X.length
 ·obtain ⟨u,hu,⟨Ai,ci,rfl,hi1,hi2,hi3⟩⟩:=hrow i hlt;obtain ⟨gv,ov,rfl,hrv⟩:=hm3 (by omega);have hc:=hrv.cellV i hu;have hsl:=hX i;generalize ax X i=l at hi1 hi2 hi3 hsl hc;repeat' (first|apply ai;exact rfl;apply aa (j:=i);exact rfl;exact rfl;exact hlt|apply ai;exact rfl;apply bF;exact rfl;exact hc|refine zZA ?_|refine sM fun _=>?_|refine sC ?_ ?_<;>intro hb<;>try omega|fail)
  all_goals try omega
  refine ay [0,7,8,9,13,14] rfl (fun j:Nat=> [(15,.int .i64 (j:Int))]) (fun _=> []) (fun j=>j≤l.length) (fun j=>l.length - j) 0 (Vt _) sB mS ?_;rintro j hj;by_cases hlj:j<l.length
  ·obtain ⟨gl,ol,rfl,hrl⟩:=hi3 (by omega);have he:=hrl.natN j hlj;have hk:=hsl _ (dM hlj);generalize atN l j=k at he hk;repeat' (first|apply ai;exact rfl;apply aa (j:=j);exact rfl;exact rfl;exact hlj|apply ai;exact rfl;apply bF;exact rfl;exact he|refine zZA ?_|refine sM fun _=>?_|refine sC ?_ ?_<;>intro hb<;>try omega|fail)
   all_goals first
    |omega
    |refine ⟨j+1,hlj,by omega,by exact sB,by exact sB,by exact mS⟩;done
  ·repeat' first|refine zZA ?_|refine sM fun _=>?_|refine sC ?_ ?_<;>intro hb<;>try omega|fail
   all_goals first
    |omega
    |refine ⟨i+1,hlt,by omega,by exact sB,by exact sB,by exact mS⟩;done
 ·repeat' first|refine zZA ?_|refine sM fun _=>?_|refine sC ?_ ?_<;>intro hb<;>try omega|fail
  all_goals first
   |omega
   |exact bp eIO rfl rfl (.nil _) rfl
structure TjG where
 c:Nat
 n:Nat
 l:Nat
 o:Nat
 s:Nat
 x:Nat
 e:Nat
 u:Nat
 An:Nat
 Al:Nat
 Ao:Nat
structure TjY where
 As:Option Nat
 cs:Nat
 AO:Option Nat
 cO:Nat
 vs:List Value
def TjG.caps (g:TjG):List Value:= [.pointer (some ⟨g.c,0,none⟩),.pointer (some ⟨g.n,0,none⟩),.pointer (some ⟨g.l,0,none⟩),.pointer (some ⟨g.o,0,none⟩),.pointer (some ⟨g.s,0,none⟩),.pointer (some ⟨g.x,0,none⟩),.pointer (some ⟨g.e,0,none⟩),.pointer (some ⟨g.u,0,none⟩)]
def TjG.fn (g:TjG):Value:= .func (.func 192) #[] g.caps.toArray
def tjB (g:TjG) (n:Nat) (xv:Value) (S:Tj) (y:TjY) (Z:List Blk):List Blk:=
 .own (some g.An) 3 1 n n (nzC S.num):: .own (some g.Al) 3 1 n n (nzC S.low):: .own (some g.Ao) 4 1 n n (aH n S.o):: .own y.As 3 1 S.stk.length y.cs (nzC S.stk):: .own y.AO 104 1 S.out.length y.cO y.vs::
 .box g.c 3 [.int .i64 ((S.cnt:Nat):Int)]:: .box g.n 104 [.slice (some ⟨g.An,0,none⟩) n n]:: .box g.l 104 [.slice (some ⟨g.Al,0,none⟩) n n]:: .box g.o 95 [.slice (some ⟨g.Ao,0,none⟩) n n]:: .box g.s 104 [sl y.As S.stk.length y.cs]:: .box g.x 99 [xv]:: .box g.e 295 [g.fn]:: .box g.u 99 [sl y.AO S.out.length y.cO]::Z
theorem Reads.short {w:World} {A:Option Nat} {m c:Nat} {xs:List Value} (h:Reads w (sl A m c) m xs):Reads w (sl A m m) m xs:=by
 obtain ⟨A',c',e,h1,h2,h3⟩:=h;unfold sl at e ⊢;injection e with e1 e2 e3;exact ⟨_,m,rfl,VA _,by omega,fun hp=>by rw [e1];exact h3 hp⟩
theorem HW {P:Program} {w0:World} {s:aC} {H:List Blk} {ty t e lo m c sz g k:Nat} {x xl:Operand} [ht:Und P t (.slice e)] [hz:Size P e sz] (hx:ev s x=some (.slice (some ⟨g,0,none⟩) m c)) (hxl:ev s xl=some (.int .i64 (lo:Nat))) (h1:lo<m) (h2:m≤c) (hk:m - lo=k):
 VOp P w0 s H (.slice t x (some xl) none none) ty (.slice (some ⟨g,lo*sz,none⟩) k (c - lo)):=hk ▸ uO hx hxl h1 h2
def JY (X:Nx) (g:TjG) (xv:Value) (w0:World) (m:Nat):Prop:=
 ∀ (S:Tj) (i:Nat) (y:TjY) (Z:List Blk),S.un≤m→TjOk X S→S.cnt+S.un=X.length→i<X.length→S.n i=0→JIn Z y.vs S.out→
  FnIn Tryz.prog 192 (.int .i64 (i:Int)::g.caps) w0 (tjB g X.length xv S y Z) fun v H=>v= .tuple #[]∧ ∃ S' ex y' Z',Entd X S i S' ex∧S'.cnt+S'.un=X.length∧JIn Z' y'.vs S'.out∧H=tjB g X.length xv S' y' Z'
theorem Oe {X:Nx} {S:Tj} (hok:TjOk X S) {i:Nat} (hi:i<X.length):(aH X.length S.o).set (0+i*1) (.bool true)=aH X.length (S.start i).o:=by
 rw [fk];refine aO fun v _=> ?_;rw [Kj (by rw [hok.lo];exact hi)];by_cases e:v=i
 ·rw [if_pos e,if_pos e.symm]
 ·rw [if_neg e,if_neg (fun h=>e h.symm)]
theorem Jv (X:Nx) (hX: ∀ i,∀ k∈ax X i,k<X.length) (hlen:X.length≤1000) (g:TjG) (xv:Value) (w0:World) (hxv:JRd w0 xv X) (m:Nat) (ih:JY X g xv w0 m):JY X g xv w0 (m+1):=by
 intro S i y Z hun hok hcn hi h0 hZ;obtain ⟨vs,hvl,⟨Av,cv,rfl,hm1,hm2,hm3⟩,hrow⟩:=hxv;obtain ⟨gv,ov,rfl,hrv⟩:=hm3 (by omega);obtain ⟨u,hu,⟨Ai,ci,rfl,hi1,hi2,hi3⟩⟩:=hrow i hi;have hcr:=hrv.cellV i hu;have hus:=E5 (S:=S) (by rw [hok.ln];exact hi) h0;have hstk:=Dd hok;have hnum:S.num.length=X.length:=hok.ln;have hlow:S.low.length=X.length:=hok.ll;have hon:=Oe hok hi;have hLp:=O7 hok hi h0;have hsX:=hX i;have hcnt:S.cnt≤1000:=by omega
 refine bE Tryz.func192 rfl Tryz.ntmps192 rfl ?_;simp only [tjB,TjG.caps];repeat' (first|refine zZA ?_|refine sM fun _=>?_|refine sC ?_ ?_<;>intro hb<;>try omega|fail)
 all_goals try omega
 refine fa (id:=1) [9,11,13] [] [.box g.c 3 [.int .i64 ((S.cnt+1:Nat):Int)],.box g.n 104 [.slice (some ⟨g.An,0,none⟩) X.length X.length],.box g.l 104 [.slice (some ⟨g.Al,0,none⟩) X.length X.length],.box g.o 95 [.slice (some ⟨g.Ao,0,none⟩) X.length X.length]] (by kernel_rfl) (by kernel_rfl) (by kernel_rfl) mS ?_;repeat' (first|apply dC (d:=26);(iterate 3 exact rfl);apply aa (j:=i);exact rfl;exact rfl;exact hi|apply dC (d:=27);(iterate 3 exact rfl);apply aa (j:=i);exact rfl;exact rfl;exact hi|apply dC (d:=28);(iterate 3 exact rfl);apply aa (j:=i);exact rfl;exact rfl;exact hi|apply aW (g:=g.An);exact rfl;exact rfl;exact pK;exact rfl;rw [mL];omega;rw [mK]|apply aW (g:=g.Al);exact rfl;exact rfl;exact pK;exact rfl;rw [mL];omega;rw [mK]|apply aW (g:=g.Ao);exact rfl;exact rfl;exact pK;exact rfl;rw [eM];omega;rw [hon]|refine zZK ?_|refine sM fun _=>?_|refine sC ?_ ?_<;>intro hb<;>try omega|refine sCW ?_ ?_<;>intro hb<;>try omega|fail)
 all_goals try omega
 repeat' first|apply aG;(iterate 3 exact rfl);exact pK;exact pK;exact rfl;simp [Value.oneCell'];omega;simp only [maxLen];omega;intro gs cs|apply ai (d:=35);exact rfl;apply aa (j:=i);exact rfl;exact rfl;exact hi|apply ai (d:=36);exact rfl;apply bF;exact rfl;exact hcr|refine zZA ?_|refine sM fun _=>?_|refine sC ?_ ?_<;>intro hb<;>try omega|fail
 all_goals try omega
 have hone:nzC S.stk++ [.int .i64 (i:Int)]=nzC (S.stk++ [i]):=by simp [nzC]
 refine ay [0, 1, 2, 3, 4, 5, 6, 7, 8, 36, 37] rfl (fun z : Nat × Tj × List Nat × TjY × List Blk => [(38, .int .i64 (z.1 : Int))]) (fun z => tjB g X.length (.slice (some ⟨gv, ov, none⟩) X.length cv) z.2.1 z.2.2.2.1 z.2.2.2.2) (fun z => z.1 ≤ (ax X i).length ∧ Lp X S i z.2.1 z.2.2.1 ((ax X i).take z.1) ∧ z.2.1.cnt + z.2.1.un = X.length ∧ S.cnt + 1 ≤ z.2.1.cnt ∧ JIn z.2.2.2.2 z.2.2.2.1.vs z.2.1.out) (fun z => (ax X i).length - z.1) (0, S.start i, [], ⟨some gs, cs, y.AO, y.cO, y.vs⟩, Z) ⟨Vt _, hLp, by (show S.cnt + 1 + (S.start i).un = _); omega, VA _, hZ⟩ sB (by
  rw [hone];simp only [tjB,Tj.start,Vn,Vw,WN];exact mS) ?_
 clear hLp hone hon;rintro ⟨j,S1,ex,y1,Z1⟩ ⟨hj,hL,hcn1,hcn2,hZ1⟩;dsimp only at hj hL hcn1 hcn2 hZ1 ⊢;have hnum1:S1.num.length=X.length:=hL.ok.ln;have hlow1:S1.low.length=X.length:=hL.ok.ll;by_cases hlt:j<(ax X i).length
 ·obtain ⟨gl,ol,rfl,hrl⟩:=hi3 (by omega);have he:=hrl.natN j hlt;have hk:=dM hlt;have hkl:=hsX _ hk;have htk:(ax X i).take (j+1)=(ax X i).take j++ [atN (ax X i) j]:=by rw [Vu hlt,eE hlt]
  generalize atN (ax X i) j=k at he hk hkl htk;have hnk:=dh (l:=S1.num) (k:=k) (by omega);by_cases hn0:S1.n k=0
  ·rw [show atN S1.num k=0 from hn0] at hnk;have hun1:S1.un≤m:=by omega
   have hcall:=ih S1 k y1 Z1 hun1 hL.ok hcn1 hkl hn0 hZ1;simp only [tjB];repeat' (first|apply ai (d:=40);exact rfl;apply aa (j:=j);exact rfl;exact rfl;exact hlt|apply ai (d:=41);exact rfl;apply bF;exact rfl;exact he|apply ai (d:=44);exact rfl;apply aa (j:=k);exact rfl;exact rfl;exact hkl|apply ai (d:=45);exact rfl;apply aq;exact rfl;exact pK;exact hnk|apply kq (f:=192) (caps:=g.caps);exact rfl;exact rfl;infer_instance;exact rfl;exact FnIn.msub hcall (by (simp only [tjB]);exact mS);rintro _ _ ⟨rfl,S2,ex2,y2,Z2,hE,hcn3,hZ2,rfl⟩;simp only [tjB]|refine zZA ?_|refine sM fun _=>?_|refine sC ?_ ?_<;>intro hb<;>try omega|fail)
   all_goals try omega
   have hlow2:S2.low.length=X.length:=hE.ok.ll;have hb1:=dh (l:=S2.low) (k:=i) (by omega);have hb2:=dh (l:=S2.low) (k:=k) (by omega);have hset:=mK (l:=S2.low) (k:=i) (x:=min (S2.l i) (S2.l k));have hchild:=O8 hL hk hn0 hE;refine kW (id:=8) 12 (tjB g X.length (.slice (some ⟨gv,ov,none⟩) X.length cv) (S2.setLow i (min (S2.l i) (S2.l k))) y2 Z2) (by kernel_rfl) (by kernel_rfl) rfl ?_;simp only [tjB];repeat' (first|apply fU (f:=60) (d:=54);exact rfl;decide+kernel;exact rfl;apply aa (j:=i);exact rfl;exact rfl;exact hi|apply fU (f:=60) (d:=55);exact rfl;decide+kernel;exact rfl;apply aq;exact rfl;exact pK;exact hb1|apply fU (f:=60) (d:=58);exact rfl;decide+kernel;exact rfl;apply aa (j:=k);exact rfl;exact rfl;exact hkl|apply fU (f:=60) (d:=59);exact rfl;decide+kernel;exact rfl;apply aq;exact rfl;exact pK;exact hb2|apply fU (f:=60) (d:=60);exact rfl;decide+kernel;exact rfl;apply xN;(iterate 3 exact rfl)|apply fU (f:=60) (d:=61);exact rfl;decide+kernel;exact rfl;apply aa (j:=i);exact rfl;exact rfl;exact hi|apply kr (g:=g.Al);exact rfl;exact rfl;exact pK;exact rfl;rw [mL];omega;erw [hset];simp only [Tj.setLow];exact mS|refine zZO ?_|refine sM fun _=>?_|refine sC ?_ ?_<;>intro hb<;>try omega|fail)
   repeat' first|refine zZA ?_|refine sM fun _=>?_|refine sC ?_ ?_<;>intro hb<;>try omega|fail
   all_goals first
    |omega
    |refine ⟨(j+1,S2.setLow i (min (S2.l i) (S2.l k)),ex++ex2,y2,Z2),⟨hlt,?_,hcn3,Nat.le_trans hcn2 hE.cnt,hZ2⟩,by dsimp only;omega,by exact sB,by exact sB,by simp only [tjB];exact mS⟩;dsimp only;rw [htk];exact hchild;done
  ·have hnz: ¬ ((atN S1.num k:Nat):Int)=0:=fun h=>hn0 (by have h2:atN S1.num k=0:=(by omega);exact h2);have hok1:=bV (f:=S1.o) hkl;by_cases hs:k∈S1.stk
   ·rw [(hL.ok.on k hkl).2 hs] at hok1;have hb1:=dh (l:=S1.low) (k:=i) (by omega);have hset:=mK (l:=S1.low) (k:=i) (x:=min (S1.l i) (S1.n k));have hon2:=UX hL hk hs;simp only [tjB];repeat' (first|apply ai (d:=40);exact rfl;apply aa (j:=j);exact rfl;exact rfl;exact hlt|apply ai (d:=41);exact rfl;apply bF;exact rfl;exact he|apply ai (d:=44);exact rfl;apply aa (j:=k);exact rfl;exact rfl;exact hkl|apply ai (d:=45);exact rfl;apply aq;exact rfl;exact pK;exact hnk|apply ai (d:=64);exact rfl;apply aa (j:=k);exact rfl;exact rfl;exact hkl|apply ai (d:=65);exact rfl;apply aq;exact rfl;exact pK;exact hok1|refine zZA ?_|refine sM fun _=>?_|refine sC ?_ ?_<;>intro hb<;>try omega|fail)
    all_goals try omega
    refine kW (id:=10) 12 (tjB g X.length (.slice (some ⟨gv,ov,none⟩) X.length cv) (S1.setLow i (min (S1.l i) (S1.n k))) y1 Z1) (by kernel_rfl) (by kernel_rfl) rfl ?_;simp only [tjB];repeat' (first|apply fU (f:=60) (d:=70);exact rfl;decide+kernel;exact rfl;apply aa (j:=i);exact rfl;exact rfl;exact hi|apply fU (f:=60) (d:=71);exact rfl;decide+kernel;exact rfl;apply aq;exact rfl;exact pK;exact hb1|apply fU (f:=60) (d:=74);exact rfl;decide+kernel;exact rfl;apply aa (j:=k);exact rfl;exact rfl;exact hkl|apply fU (f:=60) (d:=75);exact rfl;decide+kernel;exact rfl;apply aq;exact rfl;exact pK;exact hnk|apply fU (f:=60) (d:=76);exact rfl;decide+kernel;exact rfl;apply xN;(iterate 3 exact rfl)|apply fU (f:=60) (d:=77);exact rfl;decide+kernel;exact rfl;apply aa (j:=i);exact rfl;exact rfl;exact hi|apply kr (g:=g.Al);exact rfl;exact rfl;exact pK;exact rfl;rw [mL];omega;erw [hset];simp only [Tj.setLow];exact mS|refine zZO ?_|refine sM fun _=>?_|refine sC ?_ ?_<;>intro hb<;>try omega|fail)
    repeat' first|refine zZA ?_|refine sM fun _=>?_|refine sC ?_ ?_<;>intro hb<;>try omega|fail
    all_goals first
     |omega
     |refine ⟨(j+1,S1.setLow i (min (S1.l i) (S1.n k)),ex,y1,Z1),⟨hlt,?_,hcn1,hcn2,hZ1⟩,by dsimp only;omega,by exact sB,by exact sB,by simp only [tjB];exact mS⟩;dsimp only;rw [htk];exact hon2;done
   ·rw [Bool.eq_false_iff.2 (fun h=>hs ((hL.ok.on k hkl).1 h))] at hok1;have hoff:=Ub hL hn0 hs;simp only [tjB];repeat' (first|apply ai (d:=40);exact rfl;apply aa (j:=j);exact rfl;exact rfl;exact hlt|apply ai (d:=41);exact rfl;apply bF;exact rfl;exact he|apply ai (d:=44);exact rfl;apply aa (j:=k);exact rfl;exact rfl;exact hkl|apply ai (d:=45);exact rfl;apply aq;exact rfl;exact pK;exact hnk|apply ai (d:=64);exact rfl;apply aa (j:=k);exact rfl;exact rfl;exact hkl|apply ai (d:=65);exact rfl;apply aq;exact rfl;exact pK;exact hok1|refine zZA ?_|refine sM fun _=>?_|refine sC ?_ ?_<;>intro hb<;>try omega|fail)
    all_goals first
     |omega
     |refine ⟨(j+1,S1,ex,y1,Z1),⟨hlt,?_,hcn1,hcn2,hZ1⟩,by dsimp only;omega,by exact sB,by exact sB,by simp only [tjB];exact mS⟩;dsimp only;rw [htk];exact hoff;done
 ·have hjl:j=(ax X i).length:=by omega
  subst hjl;rw [V1] at hL;have hb1:=dh (l:=S1.low) (k:=i) (by omega);have hb2:=dh (l:=S1.num) (k:=i) (by omega);by_cases heq:S1.l i=S1.n i
  ·obtain ⟨S',hE,e1,e2,e3,e4,e5,hon'⟩:=RK hL heq;have hex:=hL.ex_len;have hstk1:S1.stk=S.stk++i::ex:=hL.stk;have hml:S1.stk.length=S.stk.length+(i::ex).length:=by rw [hstk1,Vn]
   have hms1:=Dd hL.ok;have hpos:0<(i::ex).length:=Nat.succ_pos _;have hpl:(i::ex).length≤X.length:=by rw [Vw];exact hex
   have hmo:=RB hL.ok;have hlt' : ∀ v∈i::ex,v<X.length:=fun v hv=>hL.ok.lt v (by rw [hstk1];exact V9 _ hv);obtain ⟨As1,cs1,AO1,cO1,vs1⟩:=y1;dsimp only at hZ1;simp only [tjB];refine vZ (A:=As1) pK fun _ hcs1 hcs2=> ?_;refine ba (A:=As1) pK (by omega) fun gs hAs=> ?_;subst hAs;have hni:i∉S.stk:=fun h=>W0 _ (hL.old_lt h);have hIx: ∀ (w' :World) (H:List Blk),Mem w0 w' H→In (.own (some gs) 3 1 S1.stk.length cs1 (nzC S1.stk)) H→aF Tryz.prog 109 [sl (some gs) S1.stk.length cs1,.int .i64 (i:Int)] w' (.int .i64 ((S.stk.length:Nat):Int)):=fun w' H hm hin=>by
    have h:=CL S1.stk i (by omega) _ w' (Reads.of_own hm hin);rwa [hstk1,Pp hni,← hstk1] at h
   have hRd: ∀ (w' :World) (H:List Blk),Mem w0 w' H→In (.own (some gs) 3 1 S1.stk.length cs1 (nzC S1.stk)) H→Reads w' (.slice (some ⟨gs,S.stk.length*1,none⟩) (i::ex).length (cs1 - S.stk.length)) (i::ex).length (nzC (i::ex)):=fun w' H hm hin=>by
    have h:=(Reads.of_own hm hin).cut (lo:=S.stk.length) (hi:=S1.stk.length) (sz:=1) (by omega) (VA _);rw [if_neg (by omega),show S1.stk.length - S.stk.length=(i::ex).length by omega,Wd,Wd,hstk1,OT,yL,List.drop_left,V1] at h;have ha:(Option.map (fun g=>(⟨g,0,none⟩:Addr)) (some gs)).map (·.add S.stk.length)=some ⟨gs,S.stk.length*1,none⟩:=by simp [dR]
    rw [ha] at h;exact h
   have hCl:=fun (w' :World) (H:List Blk) (hm:Mem w0 w' H) (hin:In (.own (some gs) 3 1 S1.stk.length cs1 (nzC S1.stk)) H)=>Np (i::ex) _ w' (hRd w' H hm hin) (by omega);rw [show atN S1.low i=atN S1.num i from heq] at hb1;generalize hq:atN S1.num i=q at hb1 hb2;repeat' (first|apply aY (d:=81);exact rfl;apply aa (j:=i);exact rfl;exact rfl;exact hi|apply aY (d:=82);exact rfl;apply aq;exact rfl;exact pK;exact hb1|apply aY (d:=85);exact rfl;apply aa (j:=i);exact rfl;exact rfl;exact hi|apply aY (d:=86);exact rfl;apply aq;exact rfl;exact pK;exact hb2|apply aY (d:=87);exact rfl;apply jK;exact rfl;exact rfl|apply ag (f:=109);exact rfl;exact rfl;intro w' hm;exact hIx w' _ hm pK|apply ai (d:=93);exact rfl;apply HW (lo:=S.stk.length) (k:=(i::ex).length);exact rfl;exact rfl;omega;exact hcs1;omega|apply aJ (f:=193);exact rfl;exact rfl;intro w' hm;exact hCl w' _ hm pK;rintro _ _ ⟨Ap,cp,rfl,rfl⟩|apply ai (d:=97);exact rfl;apply uP (hi:=S.stk.length);exact rfl;exact rfl;omega|refine zZG ?_|refine sM fun _=>?_|refine sC ?_ ?_<;>intro hb<;>try omega|refine sCQ ?_ ?_<;>intro hb<;>try omega|fail)
   all_goals try omega
   refine kI (.own (some gs) 3 1 S1.stk.length cs1 (nzC S1.stk):: .own (some g.An) 3 1 X.length X.length (nzC S1.num):: .own (some g.Al) 3 1 X.length X.length (nzC S1.low):: .own (some g.Ao) 4 1 X.length X.length (aH X.length S1.o):: .own Ap 3 1 (i::ex).length cp (nzC (i::ex)):: .own AO1 104 1 S1.out.length cO1 vs1:: .box g.c 3 [.int .i64 ((S1.cnt:Nat):Int)]:: .box g.n 104 [.slice (some ⟨g.An,0,none⟩) X.length X.length]:: .box g.l 104 [.slice (some ⟨g.Al,0,none⟩) X.length X.length]:: .box g.o 95 [.slice (some ⟨g.Ao,0,none⟩) X.length X.length]:: .box g.s 104 [.slice (some ⟨gs,0,none⟩) S.stk.length cs1]:: .box g.x 99 [.slice (some ⟨gv,ov,none⟩) X.length cv]:: .box g.e 295 [g.fn]:: .box g.u 99 [sl AO1 S1.out.length cO1]::Z1) mS ?_;refine EQ (A:=some gs) .hd S.stk.length (by omega) ?_;rw [show (nzC S1.stk).take (S.stk.length*1)=nzC S.stk by rw [Wd,yL,hstk1,XZ]];refine ay [1,2,3,4,5,6,7,8,13,98,99] rfl (fun j:Nat=> [(100,.int .i64 (j:Int))]) (fun j=> .own (some g.Ao) 4 1 X.length X.length (aH X.length (wS S1 ((i::ex).take j))):: .own (some gs) 3 1 S.stk.length cs1 (nzC S.stk):: .own (some g.An) 3 1 X.length X.length (nzC S1.num):: .own (some g.Al) 3 1 X.length X.length (nzC S1.low):: .own Ap 3 1 (i::ex).length cp (nzC (i::ex)):: .own AO1 104 1 S1.out.length cO1 vs1:: .box g.c 3 [.int .i64 ((S1.cnt:Nat):Int)]:: .box g.n 104 [.slice (some ⟨g.An,0,none⟩) X.length X.length]:: .box g.l 104 [.slice (some ⟨g.Al,0,none⟩) X.length X.length]:: .box g.o 95 [.slice (some ⟨g.Ao,0,none⟩) X.length X.length]:: .box g.s 104 [.slice (some ⟨gs,0,none⟩) S.stk.length cs1]:: .box g.x 99 [.slice (some ⟨gv,ov,none⟩) X.length cv]:: .box g.e 295 [g.fn]:: .box g.u 99 [sl AO1 S1.out.length cO1]::Z1) (fun j=>j≤(i::ex).length) (fun j=>(i::ex).length - j) 0 (Vt _) sB (by rw [← Mm];exact mS) ?_;rintro j hj;by_cases hlj:j<(i::ex).length
   ·refine ba (A:=Ap) pK (by omega) fun gp hA=> ?_;subst hA;have hc:=dh hlj;have hkl:=hlt' _ (dM hlj);have hst:=fk (n:=X.length) (f:=wS S1 ((i::ex).take j)) (k:=atN (i::ex) j) (v:=false);rw [Mo S1 (i::ex) hlj] at hst;generalize atN (i::ex) j=k at hc hkl hst;repeat' (first|apply ai (d:=102);exact rfl;apply aa (j:=j);exact rfl;exact rfl;exact hlj|apply ai (d:=103);exact rfl;apply aq;exact rfl;exact pK;exact hc|apply ai (d:=106);exact rfl;apply aa (j:=k);exact rfl;exact rfl;exact hkl|apply aW (g:=g.Ao);exact rfl;exact rfl;exact pK;exact rfl;rw [eM];omega;rw [hst]|refine zZA ?_|refine sM fun _=>?_|refine sC ?_ ?_<;>intro hb<;>try omega|fail)
    all_goals first
     |omega
     |refine ⟨j+1,hlj,by omega,by exact sB,by exact sB,by exact mS⟩;done
   ·have hj2:j=(i::ex).length:=by omega
    subst hj2;rw [hon'];repeat' (first|apply ak (f:=50);exact rfl;exact rfl;exact FnIn.msub (x7 (i::ex) Ap cp (by omega) _ w0) (MSub.pick pK (MSub.refl _));rintro _ _ ⟨rfl,rfl⟩|refine zZA ?_|refine sM fun _=>?_|refine sC ?_ ?_<;>intro hb<;>try omega|fail)
    all_goals try omega
    refine vZ (A:=Ap) pK fun _ hcp1 hcp2=> ?_;refine oJ (id:=22) [0,7,8,9] [] 10 rfl rfl (MSub.nil _) ?_;repeat' (first|apply cD (i:=6);(iterate 4 exact rfl);(iterate 3 decide+kernel);apply HY;(iterate 3 exact rfl);exact hcp1|apply cD (i:=1);(iterate 4 exact rfl);(iterate 3 decide+kernel);exact vC|apply cD (i:=2);(iterate 4 exact rfl);(iterate 3 decide+kernel);exact vC|apply cD (i:=3);(iterate 4 exact rfl);(iterate 3 decide+kernel);exact vC|apply cD (i:=4);(iterate 4 exact rfl);(iterate 3 decide+kernel);exact vC|apply cD (i:=5);(iterate 4 exact rfl);(iterate 3 decide+kernel);exact vC|apply xG (i:=0) (j:=7);(iterate 6 exact rfl);decide+kernel|apply ep (i:=0);(iterate 3 exact rfl);decide+kernel|apply ep (i:=7);(iterate 3 exact rfl);decide+kernel|apply ep (i:=8);(iterate 3 exact rfl);decide+kernel|apply ep (i:=9);(iterate 3 exact rfl);decide+kernel|apply oI;decide+kernel|apply Ht;(focus (exact mS;done))|apply aG;(iterate 3 exact rfl);exact pK;exact pK;exact rfl;simp [Value.oneCell',sl];omega;simp only [maxLen];omega;intro g8 c8|refine zZB ?_|refine sM fun _=>?_|refine sC ?_ ?_<;>intro hb<;>try omega|fail)
    repeat' first|refine zZA ?_|refine sM fun _=>?_|refine sC ?_ ?_<;>intro hb<;>try omega|fail
    all_goals first
     |omega
     | (refine iO (H' := tjB g X.length (.slice (some ⟨gv, ov, none⟩) X.length cv) S' ⟨some gs, cs1, some g8, c8, vs1 ++ [sl Ap (i :: ex).length (i :: ex).length]⟩ (.own Ap 3 1 (i :: ex).length cp (nzC (fB (i :: ex))) :: Z1)) eIO rfl ?_ ⟨rfl, S', [], _, _, hE, ?_, ?_, rfl⟩
        ·simp only [tjB,e1,e2,e3,e4,e5,Vn,Vw,WN];exact mS
        ·rw [e5,show S'.un=S1.un by unfold Tj.un;rw [e1]];exact hcn1
        ·rw [e4];refine hZ1.snoc (MSub.drop .hd (MSub.refl _)) fun w' hm=> ?_;rw [(dZ _).length_eq];exact (Reads.of_own (A:=Ap) (c:=cp) hm .hd).short)
  ·have hkeep:=RL hL heq;have hne: ¬ ((atN S1.low i:Nat):Int)=((atN S1.num i:Nat):Int):=fun h=>heq (by have h2:atN S1.low i=atN S1.num i:=(by omega);exact h2);generalize atN S1.low i=p at hb1 hne;generalize atN S1.num i=q at hb2 hne;simp only [tjB];repeat' (first|apply aY (d:=81);exact rfl;apply aa (j:=i);exact rfl;exact rfl;exact hi|apply aY (d:=82);exact rfl;apply aq;exact rfl;exact pK;exact hb1|apply aY (d:=85);exact rfl;apply aa (j:=i);exact rfl;exact rfl;exact hi|apply aY (d:=86);exact rfl;apply aq;exact rfl;exact pK;exact hb2|refine zZG ?_|refine sM fun _=>?_|refine sC ?_ ?_<;>intro hb<;>try omega|refine sCQ ?_ ?_<;>intro hb<;>try omega|fail)
   all_goals first
    |omega
    |exact iO eIO rfl mS ⟨rfl,S1,_,y1,Z1,hkeep,hcn1,hZ1,rfl⟩
end Go.SL

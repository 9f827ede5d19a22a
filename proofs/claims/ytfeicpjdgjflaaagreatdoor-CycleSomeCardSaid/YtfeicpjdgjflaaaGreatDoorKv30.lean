/-
  Lemmas and walks, put together: Zg Zj Zl Zn.
-/
import Derived.Test.YtfeicpjdgjflaaaGreatDoorKv26
import Derived.Test.YtfeicpjdgjflaaaGreatDoorKv28
import Derived.Test.YtfeicpjdgjflaaaGreatDoorKv29
set_option linter.unusedSimpArgs false
set_option linter.unusedVariables false
set_option maxRecDepth 20000
set_option maxHeartbeats 16000000
namespace Go.SL
open Go Go.Proofs
attribute [local irreducible] W WL WQ WG WA WX WLI WR WT WC WE VOp RW thn blk bg scp aS aV bi FnAt FnIn FnP ceP
theorem Hd (X:Nx) (hX: ∀ i,∀ k∈ax X i,k<X.length) (hlen:X.length≤1000) (g:TjG) (xv:Value) (w0:World) (hxv:JRd w0 xv X): ∀ m,JY X g xv w0 m
 |0=>fun S i y Z hun hok _ hi h0 _=>by
  have:=E5 (S:=S) (by rw [hok.ln];exact hi) h0;omega
 |m+1=>Jv X hX hlen g xv w0 hxv m (Hd X hX hlen g xv w0 hxv m)
theorem TjEnd.inj {X:Nx} {O:List (List Nat)} (h:TjEnd X O) {i j:Nat} (hi:i<O.length) (hj:j<O.length) (e:atN (ax O i) 0=atN (ax O j) 0):i=j:=by
 have hO: ∀ k (hk:k<O.length),ax O k=O[k]:=fun k hk=>by unfold ax;rw [Vo hk];rfl
 rw [hO i hi,hO j hj] at e;have h1:=fun k (hk:k<O.length)=>mf (h.scc _ (VL hk)).1;rcases YQ i j with hlt|rfl|hlt
 ·exact absurd (e ▸ h1 j hj) ((XF.1 h.dis) i j hi hj hlt _ (h1 i hi))
 ·rfl
 ·exact absurd (e ▸ h1 i hi) ((XF.1 h.dis) j i hj hi hlt _ (e ▸ h1 j hj))
theorem Bc (X:Nx) (hX: ∀ i,∀ k∈ax X i,k<X.length) (hlen:X.length≤1000) (v:Value) (w:World) (hv:JRd w v X):
 FnAt Tryz.prog 122 [v] w fun u H=> ∃ A c O vs Z,u= .tuple #[sl A O.length c,.int .i64 0]∧H= .own A 104 1 O.length c vs::Z∧TjEnd X O∧JIn Z vs O:=by
 have hv' :=hv;have hva:=fun (w' :World) (H:List Blk) (hm:Mem w w' H)=>Li X hX hlen v w' (hv.of_w0 hm);have hen:=fun (g:TjG)=>Hd X hX hlen g v w hv;obtain ⟨vs0,hvl,⟨Av,cv,rfl,hm1,hm2,hm3⟩,hrow⟩:=hv;refine aA Tryz.func122 rfl Tryz.ntmps122 rfl ?_;refine aI 3 1 ?_;refine aI 104 1 ?_;repeat' (first|apply ag (f:=191);exact rfl;exact rfl;intro w' hm;exact hva w' _ hm|apply dK (c:=X.length);(iterate 3 exact rfl);omega;simp only [maxLen];omega;intro gx;(try simp only [Ge]);(try simp only [jX])|refine zZA ?_|refine sM fun _=>?_|refine sC ?_ ?_<;>intro hb<;>try omega|fail)
 all_goals try omega
 rename_i g1 An g4 Al g5 g6 g7 g8 g9 g10;have hon:aH X.length (fun _=>false)=aH X.length (Tj.new X.length).o:=aO fun v _=>(ST _ v).symm;let g:TjG:=⟨g9,g4,g5,g6,g7,g1,g10,g8,An,Al,gx⟩;have hen:=hen g
 refine ay [1, 4, 5, 6, 7, 8, 9, 10, 26] rfl (fun z : Nat × Tj × TjY × List Blk => [(27, .int .i64 (z.1 : Int))]) (fun z => tjB g X.length (.slice Av X.length cv) z.2.1 z.2.2.1 z.2.2.2) (fun z => z.1 ≤ X.length ∧ TjOk X z.2.1 ∧ z.2.1.stk = [] ∧ z.2.1.cnt + z.2.1.un = X.length ∧ (∀ j, j < z.1 → z.2.1.n j ≠ 0) ∧ JIn z.2.2.2 z.2.2.1.vs z.2.1.out) (fun z => X.length - z.1) (0, Tj.new X.length, ⟨none, 0, none, 0, []⟩, []) ⟨Vt _, T9 X, rfl, by rw [TZ]; exact VD _, fun j h => absurd h (Xr _), JIn.nil⟩ sB (by
  rw [hon];simp only [tjB];exact mS) ?_
 clear hon;rintro ⟨i,S,y,Z⟩ ⟨hi,hok,hst,hcn,hvis,hZ⟩;dsimp only at hi hok hst hcn hvis hZ ⊢;have hnum:S.num.length=X.length:=hok.ln;by_cases hlt:i<X.length
 ·have hc:=dh (l:=S.num) (k:=i) (by omega);by_cases hn0:S.n i=0
  ·rw [show atN S.num i=0 from hn0] at hc;have hcall:=hen S.un S i y Z (VA _) hok hcn hlt hn0 hZ;simp only [tjB];repeat' (first|apply ai (d:=32);exact rfl;apply aa (j:=i);exact rfl;exact rfl;exact hlt|apply ai (d:=33);exact rfl;apply aq;exact rfl;exact pK;exact hc|apply kq (f:=192) (caps:=g.caps);exact rfl;exact rfl;infer_instance;exact rfl;exact FnIn.msub hcall (by (simp only [tjB]);exact mS);rintro _ _ ⟨rfl,S2,ex2,y2,Z2,hE,hcn2,hZ2,rfl⟩;simp only [tjB]|refine zZA ?_|refine sM fun _=>?_|refine sC ?_ ?_<;>intro hb<;>try omega|fail)
   all_goals first
    |omega
    | (have hex := Jw hE hst
       refine ⟨(i+1,S2,y2,Z2),⟨hlt,hE.ok,?_,hcn2,fun j hj=> ?_,hZ2⟩,by dsimp only;omega,by exact sB,by exact sB,by simp only [tjB];exact mS⟩
       ·rw [hE.stk,hst,hex];rfl
       ·by_cases e:j=i
        ·rw [e];exact hE.new
        ·have hj2:=hvis j (by omega);rw [hE.n_old j hj2];exact hj2)
  ·have hnz: ¬ ((atN S.num i:Nat):Int)=0:=fun h=>hn0 (by have h2:atN S.num i=0:=(by omega);exact h2);generalize atN S.num i=q at hc hnz;simp only [tjB];repeat' (first|apply ai (d:=32);exact rfl;apply aa (j:=i);exact rfl;exact rfl;exact hlt|apply ai (d:=33);exact rfl;apply aq;exact rfl;exact pK;exact hc|refine zZA ?_|refine sM fun _=>?_|refine sC ?_ ?_<;>intro hb<;>try omega|fail)
   all_goals first
    |omega
    | (refine ⟨(i + 1, S, y, Z), ⟨hlt, hok, hst, hcn, fun j hj => ?_, hZ⟩, by dsimp only; omega, by exact sB, by exact sB, by simp only [tjB]; exact mS⟩
       by_cases e:j=i
       ·rw [e];exact hn0
       ·exact hvis j (by omega))
 ·have e:i=X.length:=by omega
  subst e;have hfin:=hok.fin hst hvis;have hol:=hfin.len;have hsort:=fun R (hZR:JIn R y.vs S.out)=>LJ S.out y.vs y.AO y.cO R w hZR (fun p hp=>(hfin.scc p hp).1) (fun i j hi hj e=>hfin.inj hi hj e) (fun p hp v hv=>by have:=hfin.lt p hp v hv;omega) (by omega);simp only [tjB];refine kI (.own y.AO 104 1 S.out.length y.cO y.vs:: .box g.u 99 [sl y.AO S.out.length y.cO]::Z) mS ?_;repeat' (first|apply ak (f:=194);exact rfl;exact rfl;exact hsort _ (hZ.mono (MSub.drop .hd (MSub.refl _)));rintro _ _ ⟨rfl,O,vs,hp,hO,rfl⟩|refine zZA ?_|refine sM fun _=>?_|refine sC ?_ ?_<;>intro hb<;>try omega|fail)
  all_goals first
   |omega
   | (have hol2 := hp.length_eq
      refine dm (H' := .own y.AO 104 1 O.length y.cO vs:: .box g.u 99 [sl y.AO S.out.length y.cO]::Z) eIO rfl rfl rfl (by rw [hol2];exact mS) ⟨y.AO,y.cO,O,vs,_,by rw [hol2],rfl,hfin.perm hp,hO⟩)
theorem zV (X:Nx) (hX: ∀ i,∀ k∈ax X i,k<X.length) (hlen:X.length≤1000) (hrl: ∀ i,(ax X i).length≤1000) (v:Value) (w:World) (hv:JRd w v X):
 FnAt Tryz.prog 72 [v] w fun u H=> ∃ A c l Z,u= .tuple #[sl A l.length c,.int .i64 0]∧H= .own A 3 1 l.length c (nzC l)::Z∧l.Pairwise (· < ·)∧ ∀ i,i∈l↔i<X.length∧onC X i:=by
 have hcm:=fun (w' :World) (H:List Blk) (hm:Mem w w' H)=>Bc X hX hlen v w' (hv.of_w0 hm);obtain ⟨vs0,hvl,⟨Av,cv,rfl,hm1,hm2,hm3⟩,hrow⟩:=hv;refine aA Tryz.func72 rfl Tryz.ntmps72 rfl ?_;repeat' (first|apply aJ (f:=122);exact rfl;exact rfl;intro w' hm;exact hcm w' _ hm;rintro _ _ ⟨A,c,O,vs,Z,rfl,rfl,hE,hO⟩|refine zZB ?_|refine sM fun _=>?_|refine sC ?_ ?_<;>intro hb<;>try omega|fail)
 all_goals try omega
 have hol:=hE.len;refine kI (.own A 104 1 O.length c vs::Z) (MSub.appL _ _) ?_;refine aI 3 1 ?_;refine ay [0,17,18] rfl (fun y:Nat × Option Nat × Nat=> [(6,sl y.2.1 ((O.take y.1).flatMap (fN X)).length y.2.2),(19,.int .i64 (y.1:Int))]) (fun y=> .own y.2.1 3 1 ((O.take y.1).flatMap (fN X)).length y.2.2 (nzC ((O.take y.1).flatMap (fN X))):: .own A 104 1 O.length c vs::Z) (fun y=>y.1≤O.length) (fun y=>O.length - y.1) (0,none,0) (Vt _) sB mS ?_;rintro ⟨j,A3,c3⟩ hj;dsimp only at hj ⊢;by_cases hlt:j<O.length
 ·refine ba (A:=A) pK (by omega) fun ga hA=> ?_;subst hA;obtain ⟨u,hu,hru⟩:=hO.2 j hlt;have hc:vs[0+j*1]? =some u:=by rw [VD,Wd];exact hu
  have hmO:ax O j∈O:=by unfold ax;rw [Vo hlt];exact VL hlt
  have hpn:=XR.2 (hE.scc _ hmO).1;have hpl:=hE.part_len hmO;have hpx:=hE.lt _ hmO;have hst:=Jh (X:=X) hlt;have hfl:=BT hE j;have hone: ¬ 1<(ax O j).length→ax O j= [atN (ax O j) 0]:=fun h=>I9 h (mf (hE.scc _ hmO).1);generalize ax O j=p at hru hpn hpl hpx hst hone;generalize (O.take j).flatMap (fN X)=S at hst hfl;have hrd: ∀ (H:List Blk),MSub Z H→ ∀ w',Mem w w' H→Reads w' u p.length (nzC p):=fun H hs w' hm=>hru w' (hs.use hm);refine J6 (m:=p.length) (fun w' hm=>hrd _ (MSub.drop .hd (MSub.drop .hd (MSub.refl _))) w' hm) hpn fun gp op cp hlv=> ?_;subst hlv;by_cases h1:1<p.length
  ·have hlp:fN X p=p:=if_pos (.inl h1);rw [hlp] at hst;repeat' (first|apply ai (d:=21);exact rfl;apply aa (j:=j);exact rfl;exact rfl;exact hlt|apply ai (d:=22);exact rfl;apply aq;exact rfl;exact pK;exact hc|apply dA (m:=p.length);(iterate 3 exact rfl);exact pK;intro w' hm;exact hrd _ mS w' hm;exact yM p;exact Du p;omega;simp only [maxLen];omega;intro A8 c8 hA8|refine zZG ?_|refine sM fun _=>?_|refine sC ?_ ?_<;>intro hb<;>try omega|refine sCQ ?_ ?_<;>intro hb<;>try omega|fail)
   all_goals first
    |omega
    |refine ⟨(j+1,A8,c8),hlt,by dsimp only;omega,by dsimp only;rw [hst,List.length_append];exact sB,by exact sB,by dsimp only;rw [hst,List.length_append,Dv];exact mS⟩;done
  ·have hp1:=hone h1;have hxl:=hpx _ (dM (l:=p) (k:=0) hpn);obtain ⟨gv,ov,rfl,hrv⟩:=hm3 (by omega);obtain ⟨ux,hux,hrx⟩:=hrow (atN p 0) hxl;have hcx:=hrv.cellV (atN p 0) hux;have hct:=fun (w' :World) (H:List Blk) (hm:Mem w w' H)=>uI (ax X (atN p 0)) (atN p 0) (by have:=hrl (atN p 0);omega) ux w' (hrx.of_w0 hm);have hc0:=vn (l:=p) (k:=0) hpn;have hcl: ∀ (H:List Blk),MSub Z H→ ∀ w',Mem w w' H→Cells w' gp op (nzC p):=fun H hs w' hm=>uF (hrd H hs w' hm) hpn;by_cases hin:atN p 0∈ax X (atN p 0)
   ·have hlp:fN X p=p:=if_pos (.inr hin);rw [hlp] at hst;rw [decide_eq_true hin] at hct;generalize atN p 0=x at hxl hcx hct hc0;repeat' (first|apply ai (d:=21);exact rfl;apply aa (j:=j);exact rfl;exact rfl;exact hlt|apply ai (d:=22);exact rfl;apply aq;exact rfl;exact pK;exact hc|apply aY (d:=29);exact rfl;apply aa (j:=0);exact rfl;exact rfl;exact hpn|apply aY (d:=30);exact rfl;apply nJ (off:=0);intro w' hm;exact hcl _ mS w' hm;exact rfl;exact hc0|apply aY (d:=31);exact rfl;apply aa (j:=x);exact rfl;exact rfl;exact hxl|apply aY (d:=32);exact rfl;apply bF;exact rfl;exact hcx|apply aY (d:=34);exact rfl;apply aa (j:=0);exact rfl;exact rfl;exact hpn|apply aY (d:=35);exact rfl;apply nJ (off:=0);intro w' hm;exact hcl _ mS w' hm;exact rfl;exact hc0|apply dw (f:=49);exact rfl;exact rfl;intro w' hm;exact hct w' _ hm|apply dA (m:=p.length);(iterate 3 exact rfl);exact pK;intro w' hm;exact hrd _ mS w' hm;exact yM p;exact Du p;omega;simp only [maxLen];omega;intro A8 c8 hA8|refine zZG ?_|refine sM fun _=>?_|refine sC ?_ ?_<;>intro hb<;>try omega|refine sCQ ?_ ?_<;>intro hb<;>try omega|fail)
    all_goals first
     |omega
     |refine ⟨(j+1,A8,c8),hlt,by dsimp only;omega,by dsimp only;rw [hst,List.length_append];exact sB,by exact sB,by dsimp only;rw [hst,List.length_append,Dv];exact mS⟩;done
   ·have hlp:fN X p= []:=if_neg (fun h=>h.elim h1 hin);rw [hlp,VB] at hst;rw [decide_eq_false hin] at hct;generalize atN p 0=x at hxl hcx hct hc0;repeat' (first|apply ai (d:=21);exact rfl;apply aa (j:=j);exact rfl;exact rfl;exact hlt|apply ai (d:=22);exact rfl;apply aq;exact rfl;exact pK;exact hc|apply aY (d:=29);exact rfl;apply aa (j:=0);exact rfl;exact rfl;exact hpn|apply aY (d:=30);exact rfl;apply nJ (off:=0);intro w' hm;exact hcl _ mS w' hm;exact rfl;exact hc0|apply aY (d:=31);exact rfl;apply aa (j:=x);exact rfl;exact rfl;exact hxl|apply aY (d:=32);exact rfl;apply bF;exact rfl;exact hcx|apply aY (d:=34);exact rfl;apply aa (j:=0);exact rfl;exact rfl;exact hpn|apply aY (d:=35);exact rfl;apply nJ (off:=0);intro w' hm;exact hcl _ mS w' hm;exact rfl;exact hc0|apply dw (f:=49);exact rfl;exact rfl;intro w' hm;exact hct w' _ hm|refine zZG ?_|refine sM fun _=>?_|refine sC ?_ ?_<;>intro hb<;>try omega|refine sCQ ?_ ?_<;>intro hb<;>try omega|fail)
    all_goals first
     |omega
     |refine ⟨(j+1,A3,c3),hlt,by dsimp only;omega,by dsimp only;rw [hst];exact sB,by exact sB,by dsimp only;rw [hst];exact mS⟩;done
 ·have e:j=O.length:=by omega
  subst e;have hfl:=BT hE O.length;rw [V1] at hfl ⊢;have hfin:=MA hE;have hsl:=(dZ (O.flatMap (fN X))).length_eq;generalize O.flatMap (fN X)=S at hfl hfin hsl;repeat' (first|apply ak (f:=50);exact rfl;exact rfl;exact FnIn.msub (x7 S A3 c3 (by omega) _ w) (MSub.pick pK (MSub.refl _));rintro _ _ ⟨rfl,rfl⟩|refine zZA ?_|refine sM fun _=>?_|refine sC ?_ ?_<;>intro hb<;>try omega|fail)
  all_goals first
   |omega
   |exact dm (H' := .own A3 3 1 (fB S).length c3 (nzC (fB S)):: .own A 104 1 O.length c vs::Z) eIO rfl rfl rfl (by rw [hsl];exact mS) ⟨A3,c3,fB S,_,by rw [hsl],rfl,hfin⟩
open Go.RowKit
theorem Si (l:List Nat) (k:Nat) (hk:k<l.length) (h1:1≤atN l k) (hb:atN l k≤1000000) (g c:Nat) (R:List Blk) (w0:World):FnIn Tryz.prog 113 [.slice (some ⟨g,0,none⟩) l.length c,.int .i64 (k:Int)] w0 (.own (some g) 3 1 l.length c (nzC l)::R) fun v H=>v= .bool (decide (atN l k - 1=0))∧H= .own (some g) 3 1 l.length c (nzC (l.set k (atN l k - 1)))::R:=by
 refine bE Tryz.func113 rfl Tryz.ntmps113 rfl ?_;have hc:=dh hk;have hc2:=dh (l:=l.set k (atN l k - 1)) (k:=k) (by rw [Wr];exact hk);have he:atN (l.set k (atN l k - 1)) k=atN l k - 1:=by unfold atN;simp [hk]
 rw [he] at hc2;generalize hx:atN l k=x at*;repeat' (first|apply ai (d:=7);exact rfl;apply aa (j:=k);exact rfl;exact rfl;exact hk|apply ai (d:=8);exact rfl;apply aq;exact rfl;exact pK;exact hc|apply ai (d:=9);exact rfl;apply fE (a:=x);exact rfl;exact rfl;exact h1;simp only [maxLen];omega|apply ai (d:=10);exact rfl;apply aa (j:=k);exact rfl;exact rfl;exact hk|apply aW (g:=g);exact rfl;exact rfl;exact pK;exact rfl;rw [mL];omega;rw [mK]|apply ai (d:=13);exact rfl;apply aa (j:=k);exact rfl;exact rfl;exact hk|apply ai (d:=14);exact rfl;apply aq;exact rfl;exact pK;exact hc2|refine sT ?_|refine sN ?_|refine sM fun _=>?_|refine sC ?_ ?_<;>intro hb<;>try omega|fail)
 all_goals first
  |exact bp eIO rfl rfl (MSub.refl _) ⟨congrArg Value.bool (decide_eq_decide.2 (by omega)),rfl⟩
theorem IV (X:Nx) (i:Nat):(nj X i).length≤i:=by
 unfold nj;have:=WD (fun j=>decide ((ax X j).length=0)) (List.range i);rwa [We] at this
theorem FO (X:Nx):nj X 0= []:=rfl
theorem oo {X:Nx} {As:JA} {i:Nat} (h:As.length=X.length) (hi:i<X.length): ∃ Rs,(jT X As).Perm (.own (As[i]'(by omega)).1 3 1 (ax X i).length (As[i]'(by omega)).2 (nzC (ax X i))::Rs)∧ ∀ (l:List Nat) (a:Option Nat × Nat),(jT (X.set i l) (As.set i a)).Perm (.own a.1 3 1 l.length a.2 (nzC l)::Rs):=by
 obtain ⟨Rs,hR⟩:=y9 h hi;refine ⟨Rs,?_,hR⟩;have h1:=hR (ax X i) (As[i]'(by omega));have e1:X.set i (ax X i)=X:=by
  unfold ax;rw [Vo hi,XU,Y0]
 have e2:As.set i (As[i]'(by omega))=As:=Y0 _;rwa [e1,e2] at h1
theorem KW (X:Nx) (hX: ∀ i,∀ k∈ax X i,k<X.length) (hlen:X.length≤1000) (hrl: ∀ i,(ax X i).length≤1000) (hac: ∀ p,p<X.length→ ¬ onC X p) (v:Value) (w:World) (hv:JRd w v X):
 FnAt Tryz.prog 52 [v] w fun u H=> ∃ A c Z,u= .tuple #[sl A (cV X).length c,.int .i64 0]∧H= .own A 3 1 (cV X).length c (nzC (cV X))::Z:=by
 have hLo: ∀ (w' :World) (H:List Blk),Mem w w' H→FnAt Tryz.prog 72 [v] w' fun u _=> ∃ A c,u= .tuple #[sl A 0 c,.int .i64 0]:=fun w' H hm=>(zV X hX hlen hrl v w' (hv.of_w0 hm)).mono fun u H' ⟨A,c,l,Z,h1,_,_,h4⟩=>by
  have hl:l= []:=YB.2 fun i hi=>hac i ((h4 i).1 hi).1 ((h4 i).1 hi).2;subst hl;exact ⟨A,c,h1⟩
 obtain ⟨vs0,hvl,⟨Av,cv,rfl,hm1,hm2,hm3⟩,hrow⟩:=hv;refine aA Tryz.func52 rfl Tryz.ntmps52 rfl ?_;repeat' (first|apply aJ (f:=72);exact rfl;exact rfl;intro w' hm;exact hLo w' _ hm;rintro _ _ ⟨A0,c0,rfl⟩;refine kU [] (MSub.nil _) ?_|apply dK (c:=X.length);(iterate 3 exact rfl);omega;simp only [maxLen];omega;intro gx;(try simp only [Ge]);(try simp only [og])|apply dN;exact rfl;intro ge|refine zZB ?_|refine sM fun _=>?_|refine sC ?_ ?_<;>intro hb<;>try omega|fail)
 all_goals try omega
 rename_i gl gr;have hf0:dr (ub X.length) (fX X.length)=dr (cE X 0 0) (fX X.length):=by rw [sF]
 refine lB 3 X.length ?_;rw [← GM,← sF]
 refine kI (hpB gr (some ge) 0 [] (.own (some gl) 3 1 X.length X.length (nzC (kS X 0)) :: .own (some gx) 104 1 X.length X.length (dr (cE X 0 0) (fX X.length)) :: jT (cE X 0 0) (fX X.length))) (by
  unfold hpB;rw [Jl,← hf0];refine MSub.trans (by exact mS:MSub _ (.box gr 207 [.slice (some ⟨ge,0,none⟩) 0 0]:: .own (some ge) 3 1 0 0 []:: .own (some gx) 104 1 X.length X.length (dr (ub X.length) (fX X.length)):: .own (some gl) 3 1 X.length X.length (nzC (List.replicate X.length 0))::jT (cE X 0 0) (fX X.length))) (MSub.of_perm ?_);exact VV (l₁:=jT (cE X 0 0) (fX X.length)) (l₂:= [_,_,_,_])) ?_
 refine ay [0,6,7,8,37,38] rfl (fun z:Nat × JA × List Blk × List Nat × Option Nat × Nat=> [(39,.int .i64 (z.1:Int))]) (fun z=>hpB gr z.2.2.2.2.1 z.2.2.2.2.2 z.2.2.2.1 (.own (some gl) 3 1 X.length X.length (nzC (kS X z.1)):: .own (some gx) 104 1 X.length X.length (dr (cE X z.1 0) z.2.1)::z.2.2.1)) (fun z=>z.1≤X.length∧z.2.1.length=X.length∧(jT (cE X z.1 0) z.2.1).Perm z.2.2.1∧z.2.2.2.1.Perm (nj X z.1)∧HpF (atN z.2.2.2.1) z.2.2.2.1.length) (fun z=>X.length - z.1) (0,fX X.length,jT (cE X 0 0) (fX X.length),[],some ge,0) ⟨Vt _,Xo,.refl _,by rw [FO],fun i _ h=>absurd h (Xr _)⟩ sB (MSub.refl _) ?_;clear hf0;rintro ⟨i,As,Z,h,A,c⟩ ⟨hi,hAl,hZ,hh,hH⟩;dsimp only at hi hAl hZ hh hH ⊢;by_cases hlt:i<X.length
 ·obtain ⟨u,hu,⟨Ai,ci,rfl,hi1,hi2,hi3⟩⟩:=hrow i hlt;obtain ⟨gv,ov,rfl,hrv⟩:=hm3 (by omega);have hc:=hrv.cellV i hu;have hset:=Jm (X:=X) (i:=i);have hll:=n8 X i;unfold hpB;repeat' (first|apply ai (d:=42);exact rfl;apply aa (j:=i);exact rfl;exact rfl;exact hlt|apply ai (d:=43);exact rfl;apply bF;exact rfl;exact hc|apply ai (d:=48);exact rfl;apply aa (j:=i);exact rfl;exact rfl;exact hlt|apply aW (g:=gl);exact rfl;exact rfl;exact pK;exact rfl;rw [mL];omega;rw [mK,hset]|refine zZA ?_|refine sM fun _=>?_|refine sC ?_ ?_<;>intro hb<;>try omega|fail)
  all_goals try omega
  refine ay [0,6,7,8,9,10,37,38,39,49,50] rfl (fun z:Nat × JA × List Blk=> [(51,.int .i64 (z.1:Int))]) (fun z=> .box gr 207 [sl A h.length c]:: .own A 3 1 h.length c (nzC h):: .own (some gl) 3 1 X.length X.length (nzC (kS X (i+1))):: .own (some gx) 104 1 X.length X.length (dr (cE X i z.1) z.2.1)::z.2.2) (fun z=>z.1≤(ax X i).length∧z.2.1.length=X.length∧(jT (cE X i z.1) z.2.1).Perm z.2.2) (fun z=>(ax X i).length - z.1) (0,As,Z) ⟨Vt _,hAl,hZ⟩ sB mS ?_;clear hset hll hZ hAl;rintro ⟨j,As,Z⟩ ⟨hj,hAl,hZ⟩;dsimp only at hj hAl hZ ⊢;by_cases hlj:j<(ax X i).length
  ·obtain ⟨gi,oi,rfl,hri⟩:=hi3 (by omega);have he:=hri.natN j hlj;have hk:=hX i _ (dM hlj);have hstep:=fun k (hk:atN (ax X i) j=k)=>zh hlj hk;generalize hke:atN (ax X i) j=k at he hk;have hstep:=hstep k hke;have hfl:=qP hrl i j k;have hfl2:(i+1)*1000≤1000*1000:=Xj _ (by omega);have hGl:=qQ X i j;have hkA:k<As.length:=by omega
   have hcell:=jw (X:=cE X i j) (As:=As) (i:=k) (by omega) (by omega);obtain ⟨Rs,hR1,hR2⟩:=oo (X:=cE X i j) (As:=As) (i:=k) (by omega) (by omega);have hvset:=fun a=>oh (X:=cE X i j) (As:=As) (i:=k) (dW X i j k++ [i]) a (by omega);rw [uk hk] at hcell hR1;rcases hak:As[k] with ⟨a1,a2⟩;rw [hak] at hcell hR1;dsimp only at hcell hR1;have hcell:(dr (cE X i j) As)[0+k*1]? =some (sl a1 (dW X i j k).length a2):=by rw [VD,Wd];exact hcell
   have hvl:=l9 (X:=cE X i j) (As:=As) (by omega);have hZ2:=hZ.symm.trans hR1;refine kI (.own a1 3 1 (dW X i j k).length a2 (nzC (dW X i j k)):: .box gr 207 [sl A h.length c]:: .own A 3 1 h.length c (nzC h):: .own (some gl) 3 1 X.length X.length (nzC (kS X (i+1))):: .own (some gx) 104 1 X.length X.length (dr (cE X i j) As)::Rs) (MSub.trans (by exact mS:MSub _ (.box gr 207 [sl A h.length c]:: .own A 3 1 h.length c (nzC h):: .own (some gl) 3 1 X.length X.length (nzC (kS X (i+1))):: .own (some gx) 104 1 X.length X.length (dr (cE X i j) As):: .own a1 3 1 (dW X i j k).length a2 (nzC (dW X i j k))::Rs)) (MSub.of_perm ((((hZ2.cons _).cons _).cons _).cons _))) ?_;have hone:nzC (dW X i j k)++ [.int .i64 (i:Int)]=nzC (dW X i j k++ [i]):=by simp [nzC]
   have hol:(dW X i j k++ [i]).length=(dW X i j k).length+1:=by simp
   generalize dW X i j k=F at*;repeat' (first|apply ai (d:=53);exact rfl;apply aa (j:=j);exact rfl;exact rfl;exact hlj|apply ai (d:=54);exact rfl;apply bF;exact rfl;exact he|apply ai (d:=59);exact rfl;apply aa (j:=k);exact rfl;exact rfl;exact hk|apply ai (d:=60);exact rfl;apply aq;exact rfl;exact pK;exact hcell|apply aG;(iterate 3 exact rfl);exact pK;exact pK;exact rfl;simp [Value.oneCell'];omega;simp only [maxLen];omega;intro g8 c8|apply ai (d:=64);exact rfl;apply aa (j:=k);exact rfl;exact rfl;exact hk|apply aW (g:=gx);exact rfl;exact rfl;exact pK;exact rfl;rw [hvl];omega;rw [VD,Wd]|refine zZA ?_|refine sM fun _=>?_|refine sC ?_ ?_<;>intro hb<;>try omega|fail)
   all_goals first
    |omega
    | (have hv1 := hvset (some g8, c8)
       have hr1:=hR2 (F++ [i]) (some g8,c8);rw [← hstep] at hv1 hr1;refine ⟨(j+1,As.set k (some g8,c8),.own (some g8) 3 1 (F++ [i]).length c8 (nzC (F++ [i]))::Rs),⟨hlj,by dsimp only;rw [List.length_set];exact hAl,hr1⟩,by dsimp only;omega,by exact sB,by exact sB,?_⟩;dsimp only;rw [hv1,hol,← hone];exact mS)
  ·have hj2:j=(ax X i).length:=by omega
   subst hj2;rw [zi] at hZ ⊢;have hrs:=FP X i;have hrl2:=IV X i;have hhl:=hh.length_eq;by_cases h0:(ax X i).length=0
   ·rw [if_pos h0] at hrs;have hpush:=fun R=>KX h i (by omega) hH gr A c R w;rw [h0];repeat' (first|apply ai (d:=70);exact rfl;apply gP;(intro m h;cases h);exact rfl|apply ai (d:=72);exact rfl;apply gP;(intro m h;cases h);exact rfl|apply ak (f:=112);exact rfl;exact rfl;exact hpush _;rintro _ _ ⟨rfl,A',c',h',hp',hH',rfl⟩|refine zZA ?_|refine sM fun _=>?_|refine sC ?_ ?_<;>intro hb<;>try omega|fail)
    all_goals first
     |omega
     | (refine ⟨(i + 1, As, Z, h', A', c'), ⟨hlt, hAl, hZ, ?_, hH'⟩, by dsimp only; omega, by exact sB, by exact sB, MSub.refl _⟩
        dsimp only;rw [hrs];exact (hp'.trans (hh.cons i)).trans (VV (l₁:= [i])))
   ·rw [if_neg h0] at hrs;have hnz: ¬ (((ax X i).length:Nat):Int)=0:=by omega
    repeat' first|refine zZA ?_|refine sM fun _=>?_|refine sC ?_ ?_<;>intro hb<;>try omega|fail
    all_goals first
     |omega
     |refine ⟨(i+1,As,Z,h,A,c),⟨hlt,hAl,hZ,by dsimp only;rw [hrs];exact hh,hH⟩,by dsimp only;omega,by exact sB,by exact sB,by dsimp only;(try unfold hpB);exact mS⟩;done
 ·have e:i=X.length:=by omega
  subst e;have hHp:=Pr hh;rw [ph] at hZ ⊢;let ja:Nat→Option Nat × Nat:=fun x=>(As[x]?).getD (none,0);have hjx: ∀ x (hx:x<X.length),ja x=As[x]'(by omega):=fun x hx=>by
   show (As[x]?).getD (none,0)=_;rw [Vo (by omega)];rfl
  have hcell: ∀ x,x<X.length→(dr (jB X) As)[0+x*1]? =some (sl (ja x).1 (eH X x).length (ja x).2):=fun x hx=>by
   have h1:=jw (X:=jB X) (As:=As) (i:=x) (by rw [lX];exact hAl) (by rw [lX];exact hx);rw [VD,Wd,hjx x hx,h1,pW hx]
  have hblk: ∀ x,x<X.length→Blk.own (ja x).1 3 1 (eH X x).length (ja x).2 (nzC (eH X x))∈Z:=fun x hx=>by
   have h1:=tZ (X:=jB X) (As:=As) (i:=x) (by rw [lX];exact hAl) (by rw [lX];exact hx);rw [pW hx,← hjx x hx] at h1;exact hZ.mem_iff.1 h1
  clear_value ja
  have hlf0:(kS X X.length).length=X.length:=n8 X _;refine aI 3 1 ?_;unfold hpB;repeat' (first|refine zZA ?_|refine sM fun _=>?_|refine sC ?_ ?_<;>intro hb<;>try omega|fail)
  all_goals try omega
  refine ay [6,7,8,13] rfl (fun z:List Nat × List Nat × List Nat × (Option Nat × Nat) × (Option Nat × Nat)=> [(14,sl z.2.2.2.2.1 z.1.length z.2.2.2.2.2)]) (fun z=> .own z.2.2.2.2.1 3 1 z.1.length z.2.2.2.2.2 (nzC z.1)::hpB gr z.2.2.2.1.1 z.2.2.2.1.2 z.2.1 (.own (some gl) 3 1 X.length X.length (nzC z.2.2.1):: .own (some gx) 104 1 X.length X.length (dr (jB X) As)::Z)) (fun z=>HpI X z.1 z.2.1 z.2.2.1∧HpF (atN z.2.1) z.2.1.length∧fW X (X.length - z.1.length) z.1=cV X) (fun z=>X.length+1 - z.1.length) ([],h,kS X X.length,(A,c),(none,0)) ⟨hHp,hH,by rw [List.length_nil,Nat.sub_zero];rfl⟩ sB (by dsimp only;unfold hpB;exact mS) ?_;clear hHp hH hh hlf0 hZ;rintro ⟨D,h,lf,⟨A,c⟩,⟨A2,c2⟩⟩ ⟨hI,hH,hT⟩;dsimp only at hI hH hT ⊢;have hDl:=hI.len;have hhl:h.length≤X.length:=by
   have h1:=dV h (List.range X.length) hI.hn fun x hx=>VT.2 ((hI.hm x).1 hx).1;rwa [We] at h1
  have hlfl:=hI.ll;rcases Xc h.length with h0|h0
  ·have he:h= []:=Wo h0;subst he;have hD:cV X=D:=by rw [← hT];exact Oc hI.stop _
   unfold hpB;repeat' (first|apply ag (f:=114);exact rfl;exact rfl;intro w' hm;exact mO _ _ _ w'|refine zZA ?_|refine sM fun _=>?_|refine sC ?_ ?_<;>intro hb<;>try omega|fail)
   all_goals first
    |omega
    | (rw [hD]
       exact dm eIO rfl rfl rfl (MSub.refl _) ⟨A2,c2,_,rfl,rfl⟩)
  ·have hpop:=fun R=>Ul h h0 (by omega) hH gr A c R w;have hxl:=fun x (hx:x∈h)=>((hI.hm x).1 hx).1;unfold hpB;repeat' (first|apply ag (f:=114);exact rfl;exact rfl;intro w' hm;exact mO _ _ _ w'|apply ai (d:=81);exact rfl;apply gP;(intro m h;cases h);exact rfl|apply ak (f:=115);exact rfl;exact rfl;exact FnIn.msub (hpop _) (by unfold hpB;exact MSub.pick pK (MSub.pick pK (MSub.refl _)));rintro _ _ ⟨x,h',rfl,hxm,hmin,hpp,hH',rfl⟩;unfold hpB|apply ai (d:=83);exact rfl;apply rq;exact rfl;exact rfl|apply aG;(iterate 3 exact rfl);exact pK;exact pK;exact rfl;simp [Value.oneCell'];omega;simp only [maxLen];omega;intro g8 c8|apply ai (d:=90);exact rfl;apply aa (j:=x);exact rfl;exact rfl;exact hxl x hxm|apply ai (d:=91);exact rfl;apply aq;exact rfl;exact pK;exact hcell x (hxl x hxm)|refine zZA ?_|refine sM fun _=>?_|refine sC ?_ ?_<;>intro hb<;>try omega|fail)
   all_goals try omega
   have hx:=hxl x hxm;have hbx:=hblk x hx;have hone:nzC D++ [.int .i64 (x:Int)]=nzC (D++ [x]):=by simp [nzC]
   have hol:(D++ [x]).length=D.length+1:=by simp
   have hTn:=LA (hI.next hxm hmin) (hI.len_lt hxm);rw [hT] at hTn;have hJ0:=hI.begin hpp;have hfl:(eH X x).length≤2000000:=by
    rw [← pW hx,← ph,uk hx];have:=qP hrl X.length 0 x;have h2:(X.length+1)*1000≤1001*1000:=Xj _ (by omega);omega
   generalize ja x=a at hbx ⊢;obtain ⟨a1,a2⟩:=a;dsimp only at hbx ⊢;clear hcell hblk;refine ay [6,7,8,13,14,91,92] rfl (fun z:Nat × List Nat × List Nat × (Option Nat × Nat)=> [(93,.int .i64 (z.1:Int))]) (fun z=> .box gr 207 [sl z.2.2.2.1 z.2.1.length z.2.2.2.2]:: .own z.2.2.2.1 3 1 z.2.1.length z.2.2.2.2 (nzC z.2.1):: .own (some gl) 3 1 X.length X.length (nzC z.2.2.1):: .own (some gx) 104 1 X.length X.length (dr (jB X) As):: .own (some g8) 3 1 (D.length+1) c8 (nzC (D++ [x]))::Z) (fun z=>z.1≤(eH X x).length∧HpJ X D x z.2.1 z.2.2.1 ((eH X x).take z.1)∧HpF (atN z.2.1) z.2.1.length) (fun z=>(eH X x).length - z.1) (0,h',lf,(A,c)) ⟨Vt _,hJ0,hH'⟩ sB (by rw [← hone];exact mS) ?_;clear hJ0 hH';rintro ⟨m,h1,lf1,⟨A,c⟩⟩ ⟨hm,hJ,hH1⟩;dsimp only at hm hJ hH1 ⊢;have hl1:h1.length≤X.length:=by
    have h2:=dV h1 (List.range X.length) hJ.hn fun y hy=>VT.2 ((hJ.hm y).1 hy).1;rwa [We] at h2
   have hlf1:=hJ.ll;by_cases hlm:m<(eH X x).length
   ·have hF:eH X x=(eH X x).take m++atN (eH X x) m::(eH X x).drop (m+1):=by
     rw [eE hlm,← Vy hlm,Wh]
    have htk:(eH X x).take (m+1)=(eH X x).take m++ [atN (eH X x) m]:=by rw [Vu hlm,eE hlm]
    obtain ⟨hk,hk1,hs1,hs2⟩:=HpJ.step hI hxm hJ hF;have hkl:atN lf1 (atN (eH X x) m)≤1000:=by
     have h2:=hJ.lv _ hk;have h3:=List.countP_le_length (p:=fun k=> !decide (k∈D)) (l:=ax X (atN (eH X x) m));have h4:=hrl (atN (eH X x) m);show (lf1[_]?).getD 0≤1000;omega
    have hel:=dh hlm;refine ba (A:=a1) (.tl (.tl (.tl (.tl (.tl (In.of_mem hbx)))))) (by omega) fun ga hA=> ?_;subst hA;rw [← htk] at hs1 hs2;generalize atN (eH X x) m=k at hk hk1 hs1 hs2 hkl hel;have hdn:=fun R=>Si lf1 k (by omega) hk1 (by omega) gl X.length R w;rw [hlf1] at hdn;have hin: ∀ (b1 b2 b3 b4 b5:Blk),In (.own (some ga) 3 1 (eH X x).length a2 (nzC (eH X x))) (b1::b2::b3::b4::b5::Z):=fun _ _ _ _ _=> .tl (.tl (.tl (.tl (.tl (In.of_mem hbx)))));by_cases hz:atN lf1 k - 1=0
    ·rw [decide_eq_true hz] at hdn;have hpu:=fun R=>KX h1 k (by omega) hH1 gr A c R w;have hs:=hs2 hz;repeat' (first|apply ai (d:=95);exact rfl;apply aa (j:=m);exact rfl;exact rfl;exact hlm|apply ai (d:=96);exact rfl;apply aq;exact rfl;exact hin _ _ _ _ _;exact hel|apply kq (f:=113) (caps:= []);exact rfl;exact rfl;infer_instance;exact rfl;exact FnIn.msub (hdn _) (MSub.pick pK (MSub.refl _));rintro _ _ ⟨rfl,rfl⟩|apply ai (d:=102);exact rfl;apply gP;(intro m h;cases h);exact rfl|apply ai (d:=104);exact rfl;apply gP;(intro m h;cases h);exact rfl|apply ak (f:=112);exact rfl;exact rfl;exact FnIn.msub (hpu _) (by unfold hpB;exact MSub.pick pK (MSub.pick pK (MSub.refl _)));rintro _ _ ⟨rfl,A',c',h2,hp2,hH2,rfl⟩;unfold hpB|refine zZA ?_|refine sM fun _=>?_|refine sC ?_ ?_<;>intro hb<;>try omega|fail)
     all_goals first
      |omega
      |refine ⟨(m+1,h2,lf1.set k (atN lf1 k - 1),(A',c')),⟨hlm,hs h2 hp2,hH2⟩,by dsimp only;omega,by exact sB,by exact sB,by exact mS⟩;done
    ·rw [decide_eq_false hz] at hdn;have hs:=hs1 hz;repeat' (first|apply ai (d:=95);exact rfl;apply aa (j:=m);exact rfl;exact rfl;exact hlm|apply ai (d:=96);exact rfl;apply aq;exact rfl;exact hin _ _ _ _ _;exact hel|apply kq (f:=113) (caps:= []);exact rfl;exact rfl;infer_instance;exact rfl;exact FnIn.msub (hdn _) (MSub.pick pK (MSub.refl _));rintro _ _ ⟨rfl,rfl⟩|refine zZA ?_|refine sM fun _=>?_|refine sC ?_ ?_<;>intro hb<;>try omega|fail)
     all_goals first
      |omega
      |refine ⟨(m+1,h1,lf1.set k (atN lf1 k - 1),(A,c)),⟨hlm,hs,hH1⟩,by dsimp only;omega,by exact sB,by exact sB,by exact mS⟩;done
   ·have hm2:m=(eH X x).length:=by omega
    subst hm2;rw [V1] at hJ;have hnew:=HpJ.fin hI hxm hJ;repeat' (first|refine zZA ?_|refine sM fun _=>?_|refine sC ?_ ?_<;>intro hb<;>try omega|fail)
    all_goals first
     |omega
     |refine ⟨(D++ [x],h1,lf1,(A,c),(some g8,c8)),⟨hnew,hH1,hTn.symm⟩,by dsimp only;omega,by dsimp only;rw [hol];exact sB,by exact sB,by dsimp only;(try unfold hpB);rw [hol];exact mS⟩;done
structure Cyr (gg:Nat) (G:Gr) (B:List Blk) (w0:World):Prop where
 g:GrOk G
 l:G.length≤900
 fm: ∀ H,MSub B H→FnIn Tryz.prog 22 [.pointer (some ⟨gg,0,none⟩)] w0 H fun v H' => ∃ A cap,v=sl A (au G).length cap∧H' = .own A 35 2 (au G).length cap ((au G).flatMap aw)::H
 ed: ∀ H,MSub B H→FnIn Tryz.prog 55 [.pointer (some ⟨gg,0,none⟩)] w0 H fun v H' => ∃ A cap,v=sl A (cF G).length cap∧H' = .own A 119 4 (cF G).length cap ((cF G).flatMap cM)::H
theorem GOk.cyr {R:List Blk} {E:List En} {clock:Nat} {G:Gr} (h:GOk R E clock G) (hG:GrOk G) (hl:G.length≤900) (gg gm:Nat) (w0:World):Cyr gg G (gB gg gm (E.map En.m) clock++R) w0:=
 ⟨hG,hl,fun _ hs=>h.formulas_any gg gm hs w0 hl,fun _ hs=>h.edges_any gg gm hs w0 hl⟩
theorem Gp.cyr (x:Gp) {G:Gr} (h:x.ok G) (hl:G.length≤900) (w0:World):Cyr x.gg G x.H w0:=
 ⟨h.g,hl,fun _ hs=>x.formulas G h hs w0 hl,fun _ hs=>x.edges G h hs w0 hl⟩
def nxE (K:List Rf) (E:List (Rf × Rf)) (n:Nat):Nx:=(List.range n).map (gU K E)
theorem Dw (K:List Rf) (E:List (Rf × Rf)) (n:Nat):(nxE K E n).length=n:=by simp [nxE]
theorem TR {K:List Rf} {E:List (Rf × Rf)} {n k:Nat} (h:k<n):ax (nxE K E n) k=gU K E k:=by
 unfold ax nxE;rw [VG,V7 h];rfl
theorem RF (K:List Rf) (n:Nat):nxE K [] n=ub n:=by
 unfold nxE ub;apply WB;intro k;by_cases h:k<n
 ·rw [VG,V7 h,XL,if_pos h];rfl
 ·rw [VJ (by simp;omega),VJ (by simp;omega)]
theorem OU (K:List Rf) (E:List (Rf × Rf)) (n:Nat) (x:Rf × Rf):nxE K (E++ [x]) n=(nxE K E n).set (iz K x.1) (gU K E (iz K x.1)++ [iz K x.2]):=by
 apply WB;intro j;by_cases hj:j<n
 ·unfold nxE;rw [VG,V7 hj,Ya];simp only [Wq];rw [Jc];by_cases e:iz K x.1=j
  ·subst e;rw [if_pos rfl,if_pos rfl,if_pos (by simpa using hj)]
  ·rw [if_neg e,if_neg e,VG,V7 hj]
   rfl
 ·rw [VJ (by rw [Dw];omega),VJ (by rw [Wr,Dw];omega)]
theorem Mu (K:List Rf) (E:List (Rf × Rf)) (i:Nat):(gU K E i).length≤E.length:=by
 unfold gU;rw [VK];exact WD _ _
theorem MU {G:Gr} {x:Rf × Rf} (h:x∈cF G):x.1∈au G∧x.2∈au G:=by
 unfold cF at h;obtain ⟨e,he,h2⟩:=XB.1 h;obtain ⟨f,hf,rfl⟩:=VM.1 h2;exact ⟨VM.2 ⟨e,he,rfl⟩,VM.2 ⟨f,(Wx.1 hf).1,rfl⟩⟩
theorem Jb {G:Gr} (i:Nat):(ax (aP G) i).length≤G.length:=by
 unfold ax aP;rw [VG];by_cases h:i<G.length
 ·rw [V7 h];have:=WD (fun k=>kJ G i k) (List.range G.length);rwa [We] at this
 ·rw [VJ (by simpa using h)];exact Vt _
def cyV (n:Nat) (A:Option Nat) (c gm:Nat) (A2:Nat):Value:= .agg #[sl A n c,.map (some gm),.slice (some ⟨A2,0,none⟩) n n]
def cyB (G:Gr) (A:Option Nat) (c gm A2:Nat) (vs:List Value) (Z:List Blk):List Blk:=
 .own A 35 2 (au G).length c ((au G).flatMap aw):: .obj gm (cJ bJ (iR (au G)) (au G).length):: .own (some A2) 104 1 (au G).length (au G).length vs::Z
theorem xu {gg:Nat} {G:Gr} {B:List Blk} {w0:World} (hc:Cyr gg G B w0) (F:List Blk) (hB:MSub B F):
 FnIn Tryz.prog 47 [.pointer (some ⟨gg,0,none⟩)] w0 F fun v H=> ∃ A c gm A2 vs Z,v=cyV (au G).length A c gm A2∧H=cyB G A c gm A2 vs Z∧MSub F Z∧JIn Z vs (aP G):=by
 refine bE Tryz.func47 rfl Tryz.ntmps47 rfl ?_;have hKn:=hc.g.sort.nodup;have hKl:(au G).length≤900:=by rw [cC];exact hc.l
 have hEl:=zE G;have hEl2:G.length*G.length≤900*900:=Nat.mul_le_mul hc.l hc.l;have hnE:=Mv hc.g;rw [← cC] at hnE;have hek:=fun x (h:x∈cF G)=>MU h;have hnum:=fun (w' :World) (A c:Nat→Nat)=>True;generalize hK:au G=K at*;generalize hE:cF G=E at*;have hfm:=hc.fm;have hed:=hc.ed;rw [hK] at hfm;rw [hE] at hed;repeat' (first|apply ak (f:=22);exact rfl;exact rfl;exact hfm _ (MSub.trans hB mS);rintro _ _ ⟨A8,c8,rfl,rfl⟩|apply aJ (f:=108);exact rfl;exact rfl;intro w' hm;exact Gg K hKn (by omega) _ w' (Reads.of_own (A:=A8) (c:=c8) hm pK);rintro _ _ ⟨gm,rfl,rfl⟩|apply dK (c:=K.length);(iterate 3 exact rfl);omega;simp only [maxLen];omega;intro gx;(try simp only [og])|apply ak (f:=55);exact rfl;exact rfl;exact hed _ (MSub.trans hB mS);rintro _ _ ⟨A20,c20,rfl,rfl⟩|refine zZF ?_|refine sM fun _=>?_|refine sC ?_ ?_<;>intro hb<;>try omega|fail)
 all_goals try omega
 rename_i g2 g3;have hpA: ∀ (J L F:List Blk),MSub (L++(J++F)) (J++(L++F)):=fun J L F=>MSub.of_perm (Xb J L F);refine lB 3 K.length ?_;rw [← GM,← RF K]
 refine ay [0, 2, 3, 20, 21] rfl (fun z : Nat × JA × List Blk => [(22, .int .i64 (z.1 : Int))]) (fun z => .own A20 119 4 E.length c20 (E.flatMap cM) :: .box g3 101 [sl A8 K.length c8, .map (some gm), .slice (some ⟨gx, 0, none⟩) K.length K.length] :: .own (some gx) 104 1 K.length K.length (dr (nxE K (E.take z.1) K.length) z.2.1) :: .obj gm (cJ bJ (iR K) K.length) :: .own A8 35 2 K.length c8 (K.flatMap aw) :: .box g2 101 [.slice none 0 0, .map none, .slice none 0 0] :: z.2.2) (fun z => z.1 ≤ E.length ∧ z.2.1.length = K.length ∧ (jT (nxE K (E.take z.1) K.length) z.2.1 ++ F).Perm z.2.2) (fun z => E.length - z.1) (0, fX K.length, jT (nxE K [] K.length) (fX K.length) ++ F) ⟨Vt _, Xo, .refl _⟩ sB (by
  dsimp only;rw [WP];exact hpA _ [_,_,_,_,_,_] F) ?_
 clear hpA;rintro ⟨j,As,Z⟩ ⟨hj,hAl,hZ⟩;dsimp only at hj hAl hZ ⊢;by_cases hlt:j<E.length
 ·have hread:((E.flatMap cM).drop (0+j*4)).take 4=cM E[j]:=by rw [VD];exact cj q9 E j hlt
  have hmem:=hek E[j] (VL hlt);have hsnoc:=OU K (E.take j) K.length E[j];rw [← Vu hlt] at hsnoc;generalize E[j]=e at hread hmem hsnoc;obtain ⟨e1,e2⟩:=e;dsimp only at hmem hsnoc;obtain ⟨hk1,hg1⟩:=pg hKn hmem.1;obtain ⟨hk2,hg2⟩:=pg hKn hmem.2;have hl1:=fun z=>y4 hKn hk1 z;have hl2:=fun z=>y4 hKn hk2 z;rw [hg1] at hl1;rw [hg2] at hl2;have hnl:=Mu K (E.take j) (iz K e1);have htl:(E.take j).length=j:=by rw [VQ];omega
  have hX:=Dw K (E.take j) K.length;have hcell:=jw (X:=nxE K (E.take j) K.length) (As:=As) (i:=iz K e1) (by omega) (by omega);obtain ⟨Rs,hR1,hR2⟩:=oo (X:=nxE K (E.take j) K.length) (As:=As) (i:=iz K e1) (by omega) (by omega);have hvset:=fun a=>oh (X:=nxE K (E.take j) K.length) (As:=As) (i:=iz K e1) (gU K (E.take j) (iz K e1)++ [iz K e2]) a (by omega);have hvl:=l9 (X:=nxE K (E.take j) K.length) (As:=As) (by omega);rw [TR hk1] at hcell hR1;rcases hak:As[iz K e1] with ⟨a1,a2⟩;rw [hak] at hcell hR1;dsimp only at hcell hR1;clear hg1 hg2 hak;generalize iz K e1=k at*;generalize iz K e2=k2 at*;have hcell:(dr (nxE K (E.take j) K.length) As)[0+k*1]? =some (sl a1 (gU K (E.take j) k).length a2):=by rw [VD,Wd];exact hcell
  have hZ2:=hZ.symm.trans (hR1.append_right F);refine ba (A:=A20) .hd (by omega) fun ge hA=> ?_;subst hA;refine kI (.own a1 3 1 (gU K (E.take j) k).length a2 (nzC (gU K (E.take j) k)):: .own (some ge) 119 4 E.length c20 (E.flatMap cM):: .box g3 101 [sl A8 K.length c8,.map (some gm),.slice (some ⟨gx,0,none⟩) K.length K.length]:: .own (some gx) 104 1 K.length K.length (dr (nxE K (E.take j) K.length) As):: .obj gm (cJ bJ (iR K) K.length):: .own A8 35 2 K.length c8 (K.flatMap aw):: .box g2 101 [.slice none 0 0,.map none,.slice none 0 0]::(Rs++F)) (MSub.trans (by exact mS:MSub _ (.own (some ge) 119 4 E.length c20 (E.flatMap cM):: .box g3 101 [sl A8 K.length c8,.map (some gm),.slice (some ⟨gx,0,none⟩) K.length K.length]:: .own (some gx) 104 1 K.length K.length (dr (nxE K (E.take j) K.length) As):: .obj gm (cJ bJ (iR K) K.length):: .own A8 35 2 K.length c8 (K.flatMap aw):: .box g2 101 [.slice none 0 0,.map none,.slice none 0 0]:: .own a1 3 1 (gU K (E.take j) k).length a2 (nzC (gU K (E.take j) k))::(Rs++F))) (MSub.of_perm ((((((hZ2.cons _).cons _).cons _).cons _).cons _).cons _))) ?_;have hone:nzC (gU K (E.take j) k)++ [.int .i64 (k2:Int)]=nzC (gU K (E.take j) k++ [k2]):=by simp [nzC]
  have hol:(gU K (E.take j) k++ [k2]).length=(gU K (E.take j) k).length+1:=by simp
  generalize gU K (E.take j) k=L at*;repeat' (first|apply ai (d:=24);exact rfl;apply aa (j:=j);exact rfl;exact rfl;exact hlt|apply ai (d:=25);exact rfl;apply aD (ys:=cM (e1,e2));exact rfl;exact pK;exact hread;exact rfl|apply ai (d:=30);exact rfl;apply kv (enc:=bJ) (k:=e1);exact rfl;exact rfl;exact pK;exact hl1 _|refine zZC ?_|refine sM fun _=>?_|refine sC ?_ ?_<;>intro hb<;>try omega|fail)
  all_goals try omega
  rename_i g5;refine oJ (id:=8) [7,13,14,16] [.box g5 119 (cM (e1,e2)),.box g3 101 [sl A8 K.length c8,.map (some gm),.slice (some ⟨gx,0,none⟩) K.length K.length],.obj gm (cJ bJ (iR K) K.length)] 17 rfl rfl mS ?_;repeat' (first|apply cD (i:=6);(iterate 4 exact rfl);(iterate 3 decide+kernel);apply aa (j:=k);exact rfl;exact rfl;exact hk1|apply cD (i:=15);(iterate 4 exact rfl);(iterate 3 decide+kernel);apply aa (j:=k);exact rfl;exact rfl;exact hk1|apply cD (i:=12);(iterate 4 exact rfl);(iterate 3 decide+kernel);apply kv (enc:=bJ) (k:=e2);exact rfl;exact rfl;exact pK;exact hl2 _|apply cD (i:=10);(iterate 4 exact rfl);(iterate 3 decide+kernel);apply Bl;(iterate 3 exact rfl)|apply cD (i:=0);(iterate 4 exact rfl);(iterate 3 decide+kernel);exact vC|apply cD (i:=1);(iterate 4 exact rfl);(iterate 3 decide+kernel);exact vC|apply cD (i:=2);(iterate 4 exact rfl);(iterate 3 decide+kernel);exact vC|apply cD (i:=3);(iterate 4 exact rfl);(iterate 3 decide+kernel);exact vC|apply cD (i:=4);(iterate 4 exact rfl);(iterate 3 decide+kernel);exact vC|apply cD (i:=5);(iterate 4 exact rfl);(iterate 3 decide+kernel);exact vC|apply cD (i:=8);(iterate 4 exact rfl);(iterate 3 decide+kernel);exact vC|apply cD (i:=9);(iterate 4 exact rfl);(iterate 3 decide+kernel);exact vC|apply cD (i:=11);(iterate 4 exact rfl);(iterate 3 decide+kernel);exact vC|apply xG (i:=7) (j:=13);(iterate 6 exact rfl);decide+kernel|apply ep (i:=7);(iterate 3 exact rfl);decide+kernel|apply ep (i:=13);(iterate 3 exact rfl);decide+kernel|apply ep (i:=14);(iterate 3 exact rfl);decide+kernel|apply ep (i:=16);(iterate 3 exact rfl);decide+kernel|apply oI;decide+kernel|apply Ht;(focus (exact mS;done))|apply ai (d:=38);exact rfl;apply aq;exact rfl;exact pK;exact hcell|apply aG;(iterate 3 exact rfl);exact pK;exact pK;exact rfl;simp [Value.oneCell'];omega;simp only [maxLen];omega;intro g8 c8|apply aW (g:=gx);exact rfl;exact rfl;exact pK;exact rfl;rw [hvl];omega;rw [VD,Wd]|refine zZF ?_|refine sM fun _=>?_|refine sC ?_ ?_<;>intro hb<;>try omega|fail)
  repeat' first|refine zZC ?_|refine sM fun _=>?_|refine sC ?_ ?_<;>intro hb<;>try omega|fail
  all_goals first
   |omega
   | (have hv1 := hvset (some g8, c8)
      have hr1:=(hR2 (L++ [k2]) (some g8,c8)).append_right F;rw [← hsnoc] at hv1 hr1;refine ⟨(j+1,As.set k (some g8,c8),.own (some g8) 3 1 (L++ [k2]).length c8 (nzC (L++ [k2]))::(Rs++F)),⟨hlt,by dsimp only;rw [List.length_set];exact hAl,hr1⟩,by dsimp only;omega,by exact sB,by exact sB,?_⟩;dsimp only;rw [hv1,hol,← hone];exact mS)
 ·have hj2:j=E.length:=by omega
  subst hj2;rw [V1,show nxE K E K.length=aP G from hnE] at hZ ⊢;have hgl:(aP G).length=K.length:=by rw [di,← cC,hK]
  have hJ:JIn Z (dr (aP G) As) (aP G):=(DF (X:=aP G) (As:=As) (by rw [hgl];exact hAl)).mono (MSub.trans (MSub.appL _ _) (MSub.of_perm hZ.symm));have hFZ:MSub F Z:=MSub.trans (MSub.appR _ _) (MSub.of_perm hZ.symm);repeat' (first|refine zZC ?_|refine sM fun _=>?_|refine sC ?_ ?_<;>intro hb<;>try omega|fail)
  all_goals first
   |omega
   |exact IA eIO rfl rfl pK rfl (H' :=cyB G A8 c8 gm gx (dr (aP G) As) Z) (by unfold cyB;rw [hK];exact mS) ⟨A8,c8,gm,gx,_,Z,rfl,rfl,hFZ,hJ⟩
theorem Ud {X:Nx} {As:JA} {Z:List Blk} (h:As.length=X.length) (hZ:(jT X As).Perm Z): ∃ ja:Nat→Option Nat × Nat,(∀ x,x<X.length→(dr X As)[0+x*1]? =some (sl (ja x).1 (ax X x).length (ja x).2))∧ ∀ x,x<X.length→Blk.own (ja x).1 3 1 (ax X x).length (ja x).2 (nzC (ax X x))∈Z:=by
 have hjx: ∀ x (hx:x<X.length),(As[x]?).getD (none,0)=As[x]'(by omega):=fun x hx=>by
  rw [Vo (by omega)];rfl
 refine ⟨fun x=>(As[x]?).getD (none,0),fun x hx=> ?_,fun x hx=> ?_⟩
 ·have h1:=jw (X:=X) (As:=As) (i:=x) h hx;rw [VD,Wd,h1];dsimp only;rw [hjx x hx]
 ·have h1:=tZ (X:=X) (As:=As) (i:=x) h hx;rw [← hjx x hx] at h1;exact hZ.mem_iff.1 h1
theorem Hp (X:Nx) (hX: ∀ i,∀ k∈ax X i,k<X.length) (hlen:X.length≤1000) (hrl: ∀ i,(ax X i).length≤1000) (Ac:Option Addr) (cc:Nat) (mv xv:Value) (w:World) (hv:JRd w xv X):
 FnAt Tryz.prog 48 [.agg #[.slice Ac X.length cc,mv,xv]] w fun v H=> ∃ g,v= .slice (some ⟨g,0,none⟩) X.length X.length∧H= [ig X.length g (uD X)]:=by
 have hLo:=fun (w' :World) (H:List Blk) (hm:Mem w w' H)=>zV X hX hlen hrl xv w' (hv.of_w0 hm);obtain ⟨vs0,hvl,⟨Av,cv,rfl,hm1,hm2,hm3⟩,hrow⟩:=hv;refine aA Tryz.func48 rfl Tryz.ntmps48 rfl ?_;repeat' (first|apply dK (c:=X.length);(iterate 3 exact rfl);omega;simp only [maxLen];omega;intro gx;(try simp only [jX]);(try simp only [og])|refine zZB ?_|refine sM fun _=>?_|refine sC ?_ ?_<;>intro hb<;>try omega|fail)
 all_goals try omega
 rename_i g1 go;refine lB 3 X.length ?_;rw [← GM,← sF];have hpA: ∀ (J L:List Blk),MSub (L++J) (J++L):=fun J L=>MSub.of_perm VV;refine ay [1,3,4,25,26] rfl (fun z:Nat × JA × List Blk=> [(27,.int .i64 (z.1:Int))]) (fun z=> .own (some go) 4 1 X.length X.length (aH X.length fun _=>false):: .own (some gx) 104 1 X.length X.length (dr (cE X z.1 0) z.2.1):: .box g1 101 [.slice Ac X.length cc,mv,.slice Av X.length cv]::z.2.2) (fun z=>z.1≤X.length∧z.2.1.length=X.length∧(jT (cE X z.1 0) z.2.1).Perm z.2.2) (fun z=>X.length - z.1) (0,fX X.length,jT (cE X 0 0) (fX X.length)) ⟨Vt _,Xo,.refl _⟩ sB (MSub.trans (hpA _ [_,_,_]) (MSub.of_perm (List.Perm.append_left _ (by first|exact List.Perm.refl _|exact List.Perm.swap _ _ _)))) ?_;clear hpA;rintro ⟨i,As,Z⟩ ⟨hi,hAl,hZ⟩;dsimp only at hi hAl hZ ⊢;by_cases hlt:i<X.length
 ·obtain ⟨u,hu,⟨Ai,ci,rfl,hi1,hi2,hi3⟩⟩:=hrow i hlt;obtain ⟨gv,ov,rfl,hrv⟩:=hm3 (by omega);have hc:=hrv.cellV i hu;repeat' (first|apply ai (d:=30);exact rfl;apply aa (j:=i);exact rfl;exact rfl;exact hlt|apply ai (d:=31);exact rfl;apply bF;exact rfl;exact hc|refine zZA ?_|refine sM fun _=>?_|refine sC ?_ ?_<;>intro hb<;>try omega|fail)
  all_goals try omega
  refine ay [1,3,4,5,6,25,26,27,32,33] rfl (fun z:Nat × JA × List Blk=> [(34,.int .i64 (z.1:Int))]) (fun z=> .own (some go) 4 1 X.length X.length (aH X.length fun _=>false):: .own (some gx) 104 1 X.length X.length (dr (cE X i z.1) z.2.1):: .box g1 101 [.slice Ac X.length cc,mv,.slice (some ⟨gv,ov,none⟩) X.length cv]::z.2.2) (fun z=>z.1≤(ax X i).length∧z.2.1.length=X.length∧(jT (cE X i z.1) z.2.1).Perm z.2.2) (fun z=>(ax X i).length - z.1) (0,As,Z) ⟨Vt _,hAl,hZ⟩ sB mS ?_;clear hZ hAl;rintro ⟨j,As,Z⟩ ⟨hj,hAl,hZ⟩;dsimp only at hj hAl hZ ⊢;by_cases hlj:j<(ax X i).length
  ·obtain ⟨gi,oi,rfl,hri⟩:=hi3 (by omega);have he:=hri.natN j hlj;have hk:=hX i _ (dM hlj);have hstep:=fun k (hk:atN (ax X i) j=k)=>zh hlj hk;generalize hke:atN (ax X i) j=k at he hk;have hstep:=hstep k hke;have hfl:=qP hrl i j k;have hfl2:(i+1)*1000≤1000*1000:=Xj _ (by omega);have hGl:=qQ X i j;have hkA:k<As.length:=by omega
   have hcell:=jw (X:=cE X i j) (As:=As) (i:=k) (by omega) (by omega);obtain ⟨Rs,hR1,hR2⟩:=oo (X:=cE X i j) (As:=As) (i:=k) (by omega) (by omega);have hvset:=fun a=>oh (X:=cE X i j) (As:=As) (i:=k) (dW X i j k++ [i]) a (by omega);rw [uk hk] at hcell hR1;rcases hak:As[k] with ⟨a1,a2⟩;rw [hak] at hcell hR1;dsimp only at hcell hR1;have hcell:(dr (cE X i j) As)[0+k*1]? =some (sl a1 (dW X i j k).length a2):=by rw [VD,Wd];exact hcell
   have hvl:=l9 (X:=cE X i j) (As:=As) (by omega);have hZ2:=hZ.symm.trans hR1;refine kI (.own a1 3 1 (dW X i j k).length a2 (nzC (dW X i j k)):: .own (some go) 4 1 X.length X.length (aH X.length fun _=>false):: .own (some gx) 104 1 X.length X.length (dr (cE X i j) As):: .box g1 101 [.slice Ac X.length cc,mv,.slice (some ⟨gv,ov,none⟩) X.length cv]::Rs) (MSub.trans (by exact mS:MSub _ (.own (some go) 4 1 X.length X.length (aH X.length fun _=>false):: .own (some gx) 104 1 X.length X.length (dr (cE X i j) As):: .box g1 101 [.slice Ac X.length cc,mv,.slice (some ⟨gv,ov,none⟩) X.length cv]:: .own a1 3 1 (dW X i j k).length a2 (nzC (dW X i j k))::Rs)) (MSub.of_perm (((hZ2.cons _).cons _).cons _))) ?_;have hone:nzC (dW X i j k)++ [.int .i64 (i:Int)]=nzC (dW X i j k++ [i]):=by simp [nzC]
   have hol:(dW X i j k++ [i]).length=(dW X i j k).length+1:=by simp
   generalize dW X i j k=F at*;repeat' (first|apply ai (d:=36);exact rfl;apply aa (j:=j);exact rfl;exact rfl;exact hlj|apply ai (d:=37);exact rfl;apply bF;exact rfl;exact he|apply ai (d:=42);exact rfl;apply aa (j:=k);exact rfl;exact rfl;exact hk|apply ai (d:=43);exact rfl;apply aq;exact rfl;exact pK;exact hcell|apply aG;(iterate 3 exact rfl);exact pK;exact pK;exact rfl;simp [Value.oneCell'];omega;simp only [maxLen];omega;intro g8 c8|apply ai (d:=47);exact rfl;apply aa (j:=k);exact rfl;exact rfl;exact hk|apply aW (g:=gx);exact rfl;exact rfl;exact pK;exact rfl;rw [hvl];omega;rw [VD,Wd]|refine zZA ?_|refine sM fun _=>?_|refine sC ?_ ?_<;>intro hb<;>try omega|fail)
   all_goals first
    |omega
    | (have hv1 := hvset (some g8, c8)
       have hr1:=hR2 (F++ [i]) (some g8,c8);rw [← hstep] at hv1 hr1;refine ⟨(j+1,As.set k (some g8,c8),.own (some g8) 3 1 (F++ [i]).length c8 (nzC (F++ [i]))::Rs),⟨hlj,by dsimp only;rw [List.length_set];exact hAl,hr1⟩,by dsimp only;omega,by exact sB,by exact sB,?_⟩;dsimp only;rw [hv1,hol,← hone];exact mS)
  ·have hj2:j=(ax X i).length:=by omega
   subst hj2;rw [zi] at hZ ⊢;repeat' (first|refine zZA ?_|refine sM fun _=>?_|refine sC ?_ ?_<;>intro hb<;>try omega|fail)
   all_goals first
    |omega
    |refine ⟨(i+1,As,Z),⟨hlt,hAl,hZ⟩,by dsimp only;omega,by exact sB,by exact sB,by exact mS⟩;done
 ·have e:i=X.length:=by omega
  subst e;rw [ph] at hZ ⊢;obtain ⟨ja,hcell,hblk⟩:=Ud (X:=jB X) (As:=As) (by rw [lX];exact hAl) hZ;rw [lX] at hcell hblk;repeat' (first|apply aJ (f:=72);exact rfl;exact rfl;intro w' hm;exact hLo w' _ hm;rintro _ _ ⟨A,c,l,Zl,rfl,rfl,hasc,hml⟩;refine kU (_::_) (MSub.pick .hd (MSub.appR _ Zl)) ?_|refine zZA ?_|refine sM fun _=>?_|refine sC ?_ ?_<;>intro hb<;>try omega|fail)
  all_goals try omega
  have hnd:l.Nodup:=hasc.imp fun hab e=>by rw [e] at hab;exact W0 _ hab
  have hll:l.length≤X.length:=by
   have h2:=dV l (List.range X.length) hnd fun y hy=>VT.2 ((hml y).1 hy).1;rwa [We] at h2
  have hlx:=fun x (hx:x∈l)=>((hml x).1 hx).1;have hfin: ∀ M dn,WkI (jB X) (fM X) M [] dn→(∀ u∈l,M u=true)→aH X.length M=aH X.length (uD X):=fun M dn hI hb=>aO fun v _=>by
   rw [V3,vO];exact hI.circ hX (fun u hu=>hb u ((hml u).2 ⟨oN (Classical.choose_spec hu).1,hu⟩)) v
  have hI0:WkI (jB X) (fM X) (fC l) l []:=by
   refine ⟨fun v h=> ?_,fun v h=>(by cases h),fun v h=> .inr (by simpa [fC] using h)⟩;have h2:v∈l:=by simpa [fC] using h
   exact ⟨v,((hml v).1 h2).2,.refl v⟩
  have hlM: ∀ u∈l,fC l u=true:=fun u hu=>by simpa [fC] using hu
  have hcn0:=Hm hnd hlx
  refine ay [3, 4, 9, 56, 57] rfl (fun j : Nat => [(58, .int .i64 (j : Int))]) (fun j => .own (some go) 4 1 X.length X.length (aH X.length (fC (l.take j))) :: .own A 3 1 l.length c (nzC l) :: .own (some gx) 104 1 X.length X.length (dr (jB X) As) :: Z) (fun j => j ≤ l.length) (fun j => l.length - j) 0 (Vt _) sB (by
   rw [show aH X.length (fC (l.take 0))=aH X.length fun _=>false from aO fun v _=>by simp [fC]];exact mS) ?_
  rintro j hj;by_cases hlj:j<l.length
  ·refine ba (A:=A) pK (by omega) fun ga hA=> ?_;subst hA;have he:=dh hlj;have hkl:=hlx _ (dM hlj);have hst:=fk (n:=X.length) (f:=fC (l.take j)) (k:=atN l j) (v:=true);rw [Je hlj] at hst;generalize atN l j=k at he hkl hst;repeat' (first|apply ai (d:=60);exact rfl;apply aa (j:=j);exact rfl;exact rfl;exact hlj|apply ai (d:=61);exact rfl;apply aq;exact rfl;exact pK;exact he|apply ai (d:=64);exact rfl;apply aa (j:=k);exact rfl;exact rfl;exact hkl|apply aW (g:=go);exact rfl;exact rfl;exact pK;exact rfl;rw [eM];omega;rw [hst]|refine zZA ?_|refine sM fun _=>?_|refine sC ?_ ?_<;>intro hb<;>try omega|fail)
   all_goals first
    |omega
    |refine ⟨j+1,hlj,by omega,by exact sB,by exact sB,by exact mS⟩;done
  ·have hj2:j=l.length:=by omega
   subst hj2;rw [V1];rcases Xc l.length with hz|hz
   ·have hl0:l= []:=Wo hz;subst hl0;rw [hfin _ _ hI0 hlM];repeat' (first|refine zZA ?_|refine sM fun _=>?_|refine sC ?_ ?_<;>intro hb<;>try omega|fail)
    all_goals try omega
    refine ay [3,9] rfl (fun _:Unit=> []) (fun _=> [.own (some go) 4 1 X.length X.length (aH X.length (uD X))]) (fun _=>True) (fun _=>0) () trivial sB mS ?_;rintro ⟨⟩ _;repeat' (first|refine zZA ?_|refine sM fun _=>?_|refine sC ?_ ?_<;>intro hb<;>try omega|fail)
    all_goals first
     |omega
     |exact bp eIO rfl rfl (by unfold ig;exact mS) ⟨go,rfl,rfl⟩
   ·refine ba (A:=A) pK hz fun ga hA=> ?_;subst hA;repeat' (first|refine zZA ?_|refine sM fun _=>?_|refine sC ?_ ?_<;>intro hb<;>try omega|fail)
    all_goals try omega
    refine ay [3,4] rfl (fun z:(Nat→Bool) × List Nat × List Nat × Qu=> [(9,z.2.2.2.v)]) (fun z=> .own (some z.2.2.2.g) 3 1 z.2.2.2.n z.2.2.2.c z.2.2.2.ys:: .own (some go) 4 1 X.length X.length (aH X.length z.1):: .own (some gx) 104 1 X.length X.length (dr (jB X) As)::Z) (fun z=>WkI (jB X) (fM X) z.1 z.2.1 z.2.2.1∧z.2.2.2.ok DW 1 z.2.1∧z.2.2.2.n≤mq X.length z.1∧(∀ x∈z.2.1,x<X.length∧fM X x)∧(∀ u∈l,z.1 u=true)) (fun z=>z.2.1.length+(X.length - mq X.length z.1)) (fC l,l,[],⟨ga,0,0,l.length,c,nzC l⟩) ⟨hI0,⟨Nat.zero_le _,fun _=>by rw [Nat.zero_mul],rfl,by rw [Nat.zero_mul,List.drop_zero,OQ]⟩,by dsimp only;rw [hcn0];exact Nat.le_refl _,fun x hx=>⟨hlx x hx,⟨x,((hml x).1 hx).2,.refl x⟩⟩,hlM⟩ sB (by simp only [Qu.v];exact mS) ?_;clear hI0 hlM hcn0;rintro ⟨M,todo,dn,q⟩ ⟨hI,hq,hqn,htd,hin⟩;dsimp only at hI hq hqn htd hin ⊢;have hql:=hq.len;have hcn:=ra X.length M
    cases todo with
    |nil=>
      rw [WN] at hql;rw [hfin _ _ hI hin];repeat' (first|refine zZB ?_|refine sM fun _=>?_|refine sC ?_ ?_<;>intro hb<;>try omega|fail)
      all_goals first
       |omega
       |exact bp eIO rfl rfl (by unfold ig;exact mS) ⟨go,rfl,rfl⟩
    |cons k todo=>
      rw [Vw] at hql;refine QB (A:=some q.g) pK fun hle=> ?_;have hhd:=SU hq hle;have hpo:=hq.pop (zz k) hle;obtain ⟨hkl,hkp⟩:=htd k Vr;have htd' :=fun x (hx:x∈todo)=>htd x (Vv _ hx);have hc:=hcell k hkl;have hbk:=hblk k hkl;have hJ0:=hI.pop;have hpk: ∀ u∈ax (jB X) k,u<X.length∧fM X u:=fun u hu=>⟨oN (Dh.1 hu).2,M3 hkp hu⟩;have hrk:(ax (jB X) k).length≤2000000:=by
       rw [← ph,uk hkl];have:=qP hrl X.length 0 k;have h2:(X.length+1)*1000≤1001*1000:=Xj _ (by omega);omega
      have hfinJ:=fun M todo (hJ:WkJ (jB X) (fM X) M k todo dn (ax (jB X) k))=>hJ.fin;generalize ax (jB X) k=L at*;generalize ja k=a at hc hbk;obtain ⟨a1,a2⟩:=a;dsimp only at hc hbk;repeat' (first|apply ai (d:=70);exact rfl;apply aa (j:=0);exact rfl;exact rfl;omega|apply ai (d:=71);exact rfl;apply aq;exact rfl;exact pK;exact hhd|apply ai (d:=73);exact rfl;apply NM q;exact rfl;omega;exact hle|apply ai (d:=76);exact rfl;apply aa (j:=k);exact rfl;exact rfl;exact hkl|apply ai (d:=77);exact rfl;apply aq;exact rfl;exact pK;exact hc|refine zZB ?_|refine sM fun _=>?_|refine sC ?_ ?_<;>intro hb<;>try omega|fail)
      all_goals try omega
      refine ay [3,4,77,78] rfl (fun z:Nat × (Nat→Bool) × List Nat × Qu=> [(79,.int .i64 (z.1:Int)),(9,z.2.2.2.v)]) (fun z=> .own (some z.2.2.2.g) 3 1 z.2.2.2.n z.2.2.2.c z.2.2.2.ys:: .own (some go) 4 1 X.length X.length (aH X.length z.2.1):: .own (some gx) 104 1 X.length X.length (dr (jB X) As)::Z) (fun z=>z.1≤L.length∧WkJ (jB X) (fM X) z.2.1 k z.2.2.1 dn (L.take z.1)∧z.2.2.2.ok DW 1 z.2.2.1∧z.2.2.2.n≤mq X.length z.2.1∧(∀ x∈z.2.2.1,x<X.length∧fM X x)∧z.2.2.1.length+mq X.length M=todo.length+mq X.length z.2.1∧(∀ u∈l,z.2.1 u=true)) (fun z=>L.length - z.1) (0,M,todo,q.pop 1) ⟨Vt _,hJ0,hpo,hqn,htd',rfl,hin⟩ sB (by simp only [Qu.pop];exact mS) ?_;clear hI hq hqn htd hin hql hhd hpo htd' hJ0 hle;rintro ⟨m,M1,todo1,q1⟩ ⟨hm,hJ,hq1,hqn1,htd1,hsum,hin1⟩;dsimp only at hm hJ hq1 hqn1 htd1 hsum hin1 ⊢;have hcn1:=ra X.length M1;by_cases hlm:m<L.length
      ·have he:=dh hlm;obtain ⟨hul,hup⟩:=hpk _ (dM hlm);have htk:L.take (m+1)=L.take m++ [atN L m]:=by rw [Vu hlm,eE hlm]
       refine ba (A:=a1) (.tl (.tl (.tl (In.of_mem hbk)))) (by omega) fun ga2 hA=> ?_;subst hA;have hinR: ∀ (b1 b2 b3:Blk),In (.own (some ga2) 3 1 L.length a2 (nzC L)) (b1::b2::b3::Z):=fun _ _ _=> .tl (.tl (.tl (In.of_mem hbk)));generalize atN L m=u at he hul hup htk;have hou:=bV (f:=M1) hul
       cases hMu:M1 u with
       |true=>
         rw [hMu] at hou;have hJ2:=hJ.old hMu;rw [← htk] at hJ2;repeat' (first|apply ai (d:=81);exact rfl;apply aa (j:=m);exact rfl;exact rfl;exact hlm|apply ai (d:=82);exact rfl;apply aq;exact rfl;exact hinR _ _ _;exact he|apply ai (d:=85);exact rfl;apply aa (j:=u);exact rfl;exact rfl;exact hul|apply ai (d:=86);exact rfl;apply aq;exact rfl;exact pK;exact hou|refine zZA ?_|refine sM fun _=>?_|refine sC ?_ ?_<;>intro hb<;>try omega|fail)
         all_goals first
          |omega
          |refine ⟨(m+1,M1,todo1,q1),⟨hlm,hJ2,hq1,hqn1,htd1,hsum,hin1⟩,by dsimp only;omega,by exact sB,by exact sB,by exact mS⟩;done
       |false=>
         rw [hMu] at hou;have hJ2:=hJ.new hup;rw [← htk] at hJ2;have hcm:=Cy hul hMu;have hst:=fk (n:=X.length) (f:=M1) (k:=u) (v:=true);obtain ⟨qg,qoff,qk,qn,qc,qys⟩:=q1;obtain ⟨hq3,hq4,hq5,hq6⟩:=hq1;dsimp only at hq3 hq4 hq5 hq6 hqn1 ⊢;simp only [Qu.v];repeat' (first|apply ai (d:=81);exact rfl;apply aa (j:=m);exact rfl;exact rfl;exact hlm|apply ai (d:=82);exact rfl;apply aq;exact rfl;exact hinR _ _ _;exact he|apply ai (d:=85);exact rfl;apply aa (j:=u);exact rfl;exact rfl;exact hul|apply ai (d:=86);exact rfl;apply aq;exact rfl;exact pK;exact hou|apply ai (d:=90);exact rfl;apply aa (j:=u);exact rfl;exact rfl;exact hul|apply aW (g:=go);exact rfl;exact rfl;exact pK;exact rfl;rw [eM];omega;rw [hst]|apply rR;exact rfl;exact rfl;exact hq3;exact hq4;exact rfl;exact pK;exact pK;exact rfl;simp [Value.oneCell'];omega;simp only [maxLen];omega;intro g' off' k' n2 c2 ys hk2 hoff2 hlen2 hn2 hys2|refine zZA ?_|refine sM fun _=>?_|refine sC ?_ ?_<;>intro hb<;>try omega|fail)
         all_goals first
          |omega
          | (refine ⟨(m + 1, (fun x => if x = u then true else M1 x), todo1 ++ [u], ⟨g', off', k', n2, c2, ys⟩), ⟨hlm, hJ2, ⟨hk2, hoff2, (by rw [List.length_append]; exact hlen2.trans (by rw [hq5]; rfl)), (by rw [hys2, hq6, List.flatMap_append]; rfl)⟩, (by dsimp only; rw [hcm]; omega), (fun x hx => ?_), (by dsimp only; rw [List.length_append, hcm, List.length_singleton]; omega), fun y hy => ?_⟩, by dsimp only; omega, by exact sB, by exact sB, by exact mS⟩
             ·rcases VH.1 hx with hx|hx
              ·exact htd1 x hx
              ·rw [Vx.1 hx];exact ⟨hul,hup⟩
             ·dsimp only;split
              ·rfl
              ·exact hin1 y hy)
      ·have hm2:m=L.length:=by omega
       subst hm2;rw [V1] at hJ;have hI2:=hfinJ _ _ hJ;repeat' (first|refine zZA ?_|refine sM fun _=>?_|refine sC ?_ ?_<;>intro hb<;>try omega|fail)
       all_goals first
        |omega
        |refine ⟨(M1,todo1,k::dn,q1),⟨hI2,hq1,hqn1,htd1,hin1⟩,by dsimp only;rw [List.length_cons];omega,by exact sB,by exact sB,by exact mS⟩;done
end Go.SL

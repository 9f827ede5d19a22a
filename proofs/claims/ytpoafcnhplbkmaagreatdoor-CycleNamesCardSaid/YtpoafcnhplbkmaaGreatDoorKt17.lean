/-
  Lemmas and walks, put together: Zj Zl Zn Zo.
-/
import Derived.Test.YtpoafcnhplbkmaaGreatDoorKt15
import Derived.Test.YtpoafcnhplbkmaaGreatDoorKt16
set_option linter.unusedSimpArgs false
set_option linter.unusedVariables false
set_option maxRecDepth 20000
set_option maxHeartbeats 16000000
namespace Go.SL
open Go Go.Proofs Go.RowKit
attribute [local irreducible] W WL WQ WG WA WX WLI WR WT WC WE VOp RW thn blk aW scp aJ aS bg FnAt FnIn FnP ceP
theorem EW (l:List Nat) (k:Nat) (hk:k<l.length) (h1:1≤atN l k) (hb:atN l k≤1000000) (g c:Nat) (R:List Blk) (w0:World):FnIn Tryz.prog 80 [.slice (some ⟨g,0,none⟩) l.length c,.int .i64 (k:Int)] w0 (.own (some g) 3 1 l.length c (nzC l)::R) fun v H=>v= .bool (decide (atN l k - 1=0))∧H= .own (some g) 3 1 l.length c (nzC (l.set k (atN l k - 1)))::R:=by
 refine cd Tryz.func80 rfl Tryz.ntmps80 rfl ?_;have hc:=ba hk;have hc2:=ba (l:=l.set k (atN l k - 1)) (k:=k) (by rw [Jo];exact hk);have he:atN (l.set k (atN l k - 1)) k=atN l k - 1:=by unfold atN;simp [hk]
 rw [he] at hc2;generalize hx:atN l k=x at*;repeat' (first|(apply ai (d:=7);exact rfl;apply aa (j:=k);exact rfl;exact rfl;exact hk)|(apply ai (d:=8);exact rfl;apply ak;exact rfl;exact pK;exact hc)|(apply ai (d:=9);exact rfl;apply fp (a:=x);exact rfl;exact rfl;exact h1;(simp only [maxLen];omega))|(apply ai (d:=10);exact rfl;apply aa (j:=k);exact rfl;exact rfl;exact hk)|(apply aI (g:=g);exact rfl;exact rfl;exact pK;exact rfl;(rw [gD];omega);rw [gC])|(apply ai (d:=13);exact rfl;apply aa (j:=k);exact rfl;exact rfl;exact hk)|(apply ai (d:=14);exact rfl;apply ak;exact rfl;exact pK;exact hc2)|refine sT ?_|refine sN ?_|refine sM fun _=>?_|(refine sC ?_ ?_<;>intro hb<;>try omega)|fail)
 all_goals first
  |exact bB eIO rfl rfl (MSub.refl _) ⟨congrArg Value.bool (decide_eq_decide.2 (by omega)),rfl⟩
theorem w5 (X:Nx) (i:Nat):(gO X i).length≤i:=by
 unfold gO;have:=JN (fun j=>decide ((aj X j).length=0)) (List.range i);rwa [Jc] at this
theorem uM (X:Nx):gO X 0= []:=rfl
theorem iy {X:Nx} {As:JA} {i:Nat} (h:As.length=X.length) (hi:i<X.length): ∃ Rs,(eP X As).Perm (.own (As[i]'(by omega)).1 3 1 (aj X i).length (As[i]'(by omega)).2 (nzC (aj X i))::Rs)∧ ∀ (l:List Nat) (a:Option Nat × Nat),(eP (X.set i l) (As.set i a)).Perm (.own a.1 3 1 l.length a.2 (nzC l)::Rs):=by
 obtain ⟨Rs,hR⟩:=pE h hi;refine ⟨Rs,?_,hR⟩;have h1:=hR (aj X i) (As[i]'(by omega));have e1:X.set i (aj X i)=X:=by
  unfold aj;rw [Ir hi,KI,List.set_getElem_self]
 have e2:As.set i (As[i]'(by omega))=As:=List.set_getElem_self _;rwa [e1,e2] at h1
theorem yZ (X:Nx) (hX: ∀ i,∀ k∈aj X i,k<X.length) (hlen:X.length≤1000) (hrl: ∀ i,(aj X i).length≤1000) (hac: ∀ p,p<X.length→ ¬ onC X p) (v:Value) (w:World) (hv:JRd w v X):
 FnAt Tryz.prog 38 [v] w fun u H=> ∃ A c Z,u= .tuple #[sl A (cV X).length c,.int .i64 0]∧H= .own A 3 1 (cV X).length c (nzC (cV X))::Z:=by
 have hLo: ∀ (w' :World) (H:List Blk),Mem w w' H→FnAt Tryz.prog 34 [v] w' fun u _=> ∃ A c,u= .tuple #[sl A 0 c,.int .i64 0]:=fun w' H hm=>(pX X hX hlen hrl v w' (hv.of_w0 hm)).mono fun u H' ⟨A,c,l,Z,h1,_,_,h4⟩=>by
  have hl:l= []:=List.eq_nil_iff_forall_not_mem.2 fun i hi=>hac i ((h4 i).1 hi).1 ((h4 i).1 hi).2;subst hl;exact ⟨A,c,h1⟩
 obtain ⟨vs0,hvl,⟨Av,cv,rfl,hm1,hm2,hm3⟩,hrow⟩:=hv;refine ax Tryz.func38 rfl Tryz.ntmps38 rfl ?_;repeat' (first|(apply aH (f:=34);exact rfl;exact rfl;(intro w' hm;exact hLo w' _ hm);rintro _ _ ⟨A0,c0,rfl⟩;refine iJ [] (MSub.nil _) ?_)|(apply cw (c:=X.length);(iterate 3 exact rfl);omega;(simp only [maxLen];omega);intro gx;(try simp only [uX]);(try simp only [iq]))|(apply jp;exact rfl;intro ge)|refine zZB ?_|refine sM fun _=>?_|(refine sC ?_ ?_<;>intro hb<;>try omega)|fail)
 all_goals try (exfalso;omega)
 rename_i gl gr;have hf0:bo (lG X.length) (cI X.length)=bo (aR X 0 0) (cI X.length):=by rw [kP]
 refine fK 3 X.length ?_;rw [← vu,← kP]
 refine gK (hpB gr (some ge) 0 [] (.own (some gl) 3 1 X.length X.length (nzC (fo X 0)) :: .own (some gx) 68 1 X.length X.length (bo (aR X 0 0) (cI X.length)) :: eP (aR X 0 0) (cI X.length))) (by
  unfold hpB;rw [xA,← hf0];refine MSub.trans (by exact mS:MSub _ (.box gr 148 [.slice (some ⟨ge,0,none⟩) 0 0]:: .own (some ge) 3 1 0 0 []:: .own (some gx) 68 1 X.length X.length (bo (lG X.length) (cI X.length)):: .own (some gl) 3 1 X.length X.length (nzC (List.replicate X.length 0))::eP (aR X 0 0) (cI X.length))) (MSub.of_perm ?_);exact I2 (l₁:=eP (aR X 0 0) (cI X.length)) (l₂:= [_,_,_,_])) ?_
 refine aB [0,6,7,8,37,38] rfl (fun z:Nat × JA × List Blk × List Nat × Option Nat × Nat=> [(39,.int .i64 (z.1:Int))]) (fun z=>hpB gr z.2.2.2.2.1 z.2.2.2.2.2 z.2.2.2.1 (.own (some gl) 3 1 X.length X.length (nzC (fo X z.1)):: .own (some gx) 68 1 X.length X.length (bo (aR X z.1 0) z.2.1)::z.2.2.1)) (fun z=>z.1≤X.length∧z.2.1.length=X.length∧(eP (aR X z.1 0) z.2.1).Perm z.2.2.1∧z.2.2.2.1.Perm (gO X z.1)∧HpF (atN z.2.2.2.1) z.2.2.2.1.length) (fun z=>X.length - z.1) (0,cI X.length,eP (aR X 0 0) (cI X.length),[],some ge,0) ⟨Iw _,JD,.refl _,by rw [uM],fun i _ h=>absurd h (J7 _)⟩ sB (MSub.refl _) ?_;clear hf0;rintro ⟨i,As,Z,h,A,c⟩ ⟨hi,hAl,hZ,hh,hH⟩;dsimp only at hi hAl hZ hh hH ⊢;by_cases hlt:i<X.length
 ·obtain ⟨u,hu,⟨Ai,ci,rfl,hi1,hi2,hi3⟩⟩:=hrow i hlt;obtain ⟨gv,ov,rfl,hrv⟩:=hm3 (by omega);have hc:=hrv.cellV i hu;have hset:=xB (X:=X) (i:=i);have hll:=il X i;unfold hpB;repeat' (first|(apply ai (d:=42);exact rfl;apply aa (j:=i);exact rfl;exact rfl;exact hlt)|(apply ai (d:=43);exact rfl;apply aG;exact rfl;exact hc)|(apply ai (d:=48);exact rfl;apply aa (j:=i);exact rfl;exact rfl;exact hlt)|(apply aI (g:=gl);exact rfl;exact rfl;exact pK;exact rfl;(rw [gD];omega);rw [gC,hset])|refine zZA ?_|refine sM fun _=>?_|(refine sC ?_ ?_<;>intro hb<;>try omega)|fail)
  all_goals try (exfalso;omega)
  refine aB [0,6,7,8,9,10,37,38,39,49,50] rfl (fun z:Nat × JA × List Blk=> [(51,.int .i64 (z.1:Int))]) (fun z=> .box gr 148 [sl A h.length c]:: .own A 3 1 h.length c (nzC h):: .own (some gl) 3 1 X.length X.length (nzC (fo X (i+1))):: .own (some gx) 68 1 X.length X.length (bo (aR X i z.1) z.2.1)::z.2.2) (fun z=>z.1≤(aj X i).length∧z.2.1.length=X.length∧(eP (aR X i z.1) z.2.1).Perm z.2.2) (fun z=>(aj X i).length - z.1) (0,As,Z) ⟨Iw _,hAl,hZ⟩ sB mS ?_;clear hset hll hZ hAl;rintro ⟨j,As,Z⟩ ⟨hj,hAl,hZ⟩;dsimp only at hj hAl hZ ⊢;by_cases hlj:j<(aj X i).length
  ·obtain ⟨gi,oi,rfl,hri⟩:=hi3 (by omega);have he:=hri.natN j hlj;have hk:=hX i _ (bw hlj);have hstep:=fun k (hk:atN (aj X i) j=k)=>pH hlj hk;generalize hke:atN (aj X i) j=k at he hk;have hstep:=hstep k hke;have hfl:=jX hrl i j k;have hfl2:(i+1)*1000≤1000*1000:=JQ _ (by omega);have hGl:=jY X i j;have hkA:k<As.length:=by omega
   have hcell:=eu (X:=aR X i j) (As:=As) (i:=k) (by omega) (by omega);obtain ⟨Rs,hR1,hR2⟩:=iy (X:=aR X i j) (As:=As) (i:=k) (by omega) (by omega);have hvset:=fun a=>iw (X:=aR X i j) (As:=As) (i:=k) (bF X i j k++ [i]) a (by omega);rw [lK hk] at hcell hR1;rcases hak:As[k] with ⟨a1,a2⟩;rw [hak] at hcell hR1;dsimp only at hcell hR1;have hcell:(bo (aR X i j) As)[0+k*1]? =some (sl a1 (bF X i j k).length a2):=by rw [IG,Jd];exact hcell
   have hvl:=fW (X:=aR X i j) (As:=As) (by omega);have hZ2:=hZ.symm.trans hR1;refine gK (.own a1 3 1 (bF X i j k).length a2 (nzC (bF X i j k)):: .box gr 148 [sl A h.length c]:: .own A 3 1 h.length c (nzC h):: .own (some gl) 3 1 X.length X.length (nzC (fo X (i+1))):: .own (some gx) 68 1 X.length X.length (bo (aR X i j) As)::Rs) (MSub.trans (by exact mS:MSub _ (.box gr 148 [sl A h.length c]:: .own A 3 1 h.length c (nzC h):: .own (some gl) 3 1 X.length X.length (nzC (fo X (i+1))):: .own (some gx) 68 1 X.length X.length (bo (aR X i j) As):: .own a1 3 1 (bF X i j k).length a2 (nzC (bF X i j k))::Rs)) (MSub.of_perm ((((hZ2.cons _).cons _).cons _).cons _))) ?_;have hone:nzC (bF X i j k)++ [.int .i64 (i:Int)]=nzC (bF X i j k++ [i]):=by simp [nzC]
   have hol:(bF X i j k++ [i]).length=(bF X i j k).length+1:=by simp
   generalize bF X i j k=F at*;repeat' (first|(apply ai (d:=53);exact rfl;apply aa (j:=j);exact rfl;exact rfl;exact hlj)|(apply ai (d:=54);exact rfl;apply aG;exact rfl;exact he)|(apply ai (d:=59);exact rfl;apply aa (j:=k);exact rfl;exact rfl;exact hk)|(apply ai (d:=60);exact rfl;apply ak;exact rfl;exact pK;exact hcell)|(apply aF;(iterate 3 exact rfl);exact pK;exact pK;exact rfl;(simp [Value.oneCell']);omega;(simp only [maxLen];omega);intro g8 c8)|(apply ai (d:=64);exact rfl;apply aa (j:=k);exact rfl;exact rfl;exact hk)|(apply aI (g:=gx);exact rfl;exact rfl;exact pK;exact rfl;(rw [hvl];omega);rw [IG,Jd])|refine zZA ?_|refine sM fun _=>?_|(refine sC ?_ ?_<;>intro hb<;>try omega)|fail)
   all_goals first
    |(exfalso;omega)
    | (have hv1 := hvset (some g8, c8)
       have hr1:=hR2 (F++ [i]) (some g8,c8);rw [← hstep] at hv1 hr1;refine ⟨(j+1,As.set k (some g8,c8),.own (some g8) 3 1 (F++ [i]).length c8 (nzC (F++ [i]))::Rs),⟨hlj,by dsimp only;rw [List.length_set];exact hAl,hr1⟩,by dsimp only;omega,by exact sB,by exact sB,?_⟩;dsimp only;rw [hv1,hol,← hone];exact mS)
  ·have hj2:j=(aj X i).length:=by omega
   subst hj2;rw [pI] at hZ ⊢;have hrs:=uN X i;have hrl2:=w5 X i;have hhl:=hh.length_eq;by_cases h0:(aj X i).length=0
   ·rw [if_pos h0] at hrs;have hpush:=fun R=>y5 h i (by omega) hH gr A c R w;rw [h0];repeat' (first|(apply ai (d:=70);exact rfl;apply dg;(intro m h;cases h);exact rfl)|(apply ai (d:=72);exact rfl;apply dg;(intro m h;cases h);exact rfl)|(apply ap (f:=79);exact rfl;exact rfl;exact hpush _;rintro _ _ ⟨rfl,A',c',h',hp',hH',rfl⟩)|refine zZA ?_|refine sM fun _=>?_|(refine sC ?_ ?_<;>intro hb<;>try omega)|fail)
    all_goals first
     |(exfalso;omega)
     | (refine ⟨(i + 1, As, Z, h', A', c'), ⟨hlt, hAl, hZ, ?_, hH'⟩, by dsimp only; omega, by exact sB, by exact sB, MSub.refl _⟩
        dsimp only;rw [hrs];exact (hp'.trans (hh.cons i)).trans (I2 (l₁:= [i])))
   ·rw [if_neg h0] at hrs;have hnz: ¬ (((aj X i).length:Nat):Int)=0:=by omega
    repeat' (first|refine zZA ?_|refine sM fun _=>?_|(refine sC ?_ ?_<;>intro hb<;>try omega)|fail)
    all_goals first
     |(exfalso;omega)
     |(refine ⟨(i+1,As,Z,h,A,c),⟨hlt,hAl,hZ,by dsimp only;rw [hrs];exact hh,hH⟩,by dsimp only;omega,by exact sB,by exact sB,by dsimp only;(try unfold hpB);exact mS⟩;done)
 ·have e:i=X.length:=by omega
  subst e;have hHp:=CU hh;rw [jf] at hZ ⊢;let ja:Nat→Option Nat × Nat:=fun x=>(As[x]?).getD (none,0);have hjx: ∀ x (hx:x<X.length),ja x=As[x]'(by omega):=fun x hx=>by
   show (As[x]?).getD (none,0)=_;rw [Ir (by omega)];rfl
  have hcell: ∀ x,x<X.length→(bo (eE X) As)[0+x*1]? =some (sl (ja x).1 (bJ X x).length (ja x).2):=fun x hx=>by
   have h1:=eu (X:=eE X) (As:=As) (i:=x) (by rw [fR];exact hAl) (by rw [fR];exact hx);rw [IG,Jd,hjx x hx,h1,jt hx]
  have hblk: ∀ x,x<X.length→Blk.own (ja x).1 3 1 (bJ X x).length (ja x).2 (nzC (bJ X x))∈Z:=fun x hx=>by
   have h1:=lF (X:=eE X) (As:=As) (i:=x) (by rw [fR];exact hAl) (by rw [fR];exact hx);rw [jt hx,← hjx x hx] at h1;exact hZ.mem_iff.1 h1
  clear_value ja
  have hlf0:(fo X X.length).length=X.length:=il X _;refine aN 3 1 ?_;unfold hpB;repeat' (first|refine zZA ?_|refine sM fun _=>?_|(refine sC ?_ ?_<;>intro hb<;>try omega)|fail)
  all_goals try (exfalso;omega)
  refine aB [6,7,8,13] rfl (fun z:List Nat × List Nat × List Nat × (Option Nat × Nat) × (Option Nat × Nat)=> [(14,sl z.2.2.2.2.1 z.1.length z.2.2.2.2.2)]) (fun z=> .own z.2.2.2.2.1 3 1 z.1.length z.2.2.2.2.2 (nzC z.1)::hpB gr z.2.2.2.1.1 z.2.2.2.1.2 z.2.1 (.own (some gl) 3 1 X.length X.length (nzC z.2.2.1):: .own (some gx) 68 1 X.length X.length (bo (eE X) As)::Z)) (fun z=>HpI X z.1 z.2.1 z.2.2.1∧HpF (atN z.2.1) z.2.1.length∧gX X (X.length - z.1.length) z.1=cV X) (fun z=>X.length+1 - z.1.length) ([],h,fo X X.length,(A,c),(none,0)) ⟨hHp,hH,by rw [List.length_nil,Nat.sub_zero];rfl⟩ sB (by dsimp only;unfold hpB;exact mS) ?_;clear hHp hH hh hlf0 hZ;rintro ⟨D,h,lf,⟨A,c⟩,⟨A2,c2⟩⟩ ⟨hI,hH,hT⟩;dsimp only at hI hH hT ⊢;have hDl:=hI.len;have hhl:h.length≤X.length:=by
   have h1:=bK h (List.range X.length) hI.hn fun x hx=>IJ.2 ((hI.hm x).1 hx).1;rwa [Jc] at h1
  have hlfl:=hI.ll;rcases Kx h.length with h0|h0
  ·have he:h= []:=JV h0;subst he;have hD:cV X=D:=by rw [← hT];exact BW hI.stop _
   unfold hpB;repeat' (first|(apply ag (f:=81);exact rfl;exact rfl;(intro w' hm;exact gG _ _ _ w'))|refine zZA ?_|refine sM fun _=>?_|(refine sC ?_ ?_<;>intro hb<;>try omega)|fail)
   all_goals first
    |(exfalso;omega)
    | (rw [hD]
       exact eX eIO rfl rfl rfl (MSub.refl _) ⟨A2,c2,_,rfl,rfl⟩)
  ·have hpop:=fun R=>GS h h0 (by omega) hH gr A c R w;have hxl:=fun x (hx:x∈h)=>((hI.hm x).1 hx).1;unfold hpB;repeat' (first|(apply ag (f:=81);exact rfl;exact rfl;(intro w' hm;exact gG _ _ _ w'))|(apply ai (d:=81);exact rfl;apply dg;(intro m h;cases h);exact rfl)|(apply ap (f:=82);exact rfl;exact rfl;exact FnIn.msub (hpop _) (by unfold hpB;exact MSub.pick pK (MSub.pick pK (MSub.refl _)));rintro _ _ ⟨x,h',rfl,hxm,hmin,hpp,hH',rfl⟩;unfold hpB)|(apply ai (d:=83);exact rfl;apply kn;exact rfl;exact rfl)|(apply aF;(iterate 3 exact rfl);exact pK;exact pK;exact rfl;(simp [Value.oneCell']);omega;(simp only [maxLen];omega);intro g8 c8)|(apply ai (d:=90);exact rfl;apply aa (j:=x);exact rfl;exact rfl;exact hxl x hxm)|(apply ai (d:=91);exact rfl;apply ak;exact rfl;exact pK;exact hcell x (hxl x hxm))|refine zZA ?_|refine sM fun _=>?_|(refine sC ?_ ?_<;>intro hb<;>try omega)|fail)
   all_goals try (exfalso;omega)
   have hx:=hxl x hxm;have hbx:=hblk x hx;have hone:nzC D++ [.int .i64 (x:Int)]=nzC (D++ [x]):=by simp [nzC]
   have hol:(D++ [x]).length=D.length+1:=by simp
   have hTn:=zy (hI.next hxm hmin) (hI.len_lt hxm);rw [hT] at hTn;have hJ0:=hI.begin hpp;have hfl:(bJ X x).length≤2000000:=by
    rw [← jt hx,← jf,lK hx];have:=jX hrl X.length 0 x;have h2:(X.length+1)*1000≤1001*1000:=JQ _ (by omega);omega
   generalize ja x=a at hbx ⊢;obtain ⟨a1,a2⟩:=a;dsimp only at hbx ⊢;clear hcell hblk;refine aB [6,7,8,13,14,91,92] rfl (fun z:Nat × List Nat × List Nat × (Option Nat × Nat)=> [(93,.int .i64 (z.1:Int))]) (fun z=> .box gr 148 [sl z.2.2.2.1 z.2.1.length z.2.2.2.2]:: .own z.2.2.2.1 3 1 z.2.1.length z.2.2.2.2 (nzC z.2.1):: .own (some gl) 3 1 X.length X.length (nzC z.2.2.1):: .own (some gx) 68 1 X.length X.length (bo (eE X) As):: .own (some g8) 3 1 (D.length+1) c8 (nzC (D++ [x]))::Z) (fun z=>z.1≤(bJ X x).length∧HpJ X D x z.2.1 z.2.2.1 ((bJ X x).take z.1)∧HpF (atN z.2.1) z.2.1.length) (fun z=>(bJ X x).length - z.1) (0,h',lf,(A,c)) ⟨Iw _,hJ0,hH'⟩ sB (by rw [← hone];exact mS) ?_;clear hJ0 hH';rintro ⟨m,h1,lf1,⟨A,c⟩⟩ ⟨hm,hJ,hH1⟩;dsimp only at hm hJ hH1 ⊢;have hl1:h1.length≤X.length:=by
    have h2:=bK h1 (List.range X.length) hJ.hn fun y hy=>IJ.2 ((hJ.hm y).1 hy).1;rwa [Jc] at h2
   have hlf1:=hJ.ll;by_cases hlm:m<(bJ X x).length
   ·have hF:bJ X x=(bJ X x).take m++atN (bJ X x) m::(bJ X x).drop (m+1):=by
     rw [bS hlm,← IR hlm,Jr]
    have htk:(bJ X x).take (m+1)=(bJ X x).take m++ [atN (bJ X x) m]:=by rw [IA hlm,bS hlm]
    obtain ⟨hk,hk1,hs1,hs2⟩:=HpJ.step hI hxm hJ hF;have hkl:atN lf1 (atN (bJ X x) m)≤1000:=by
     have h2:=hJ.lv _ hk;have h3:=List.countP_le_length (p:=fun k=> !decide (k∈D)) (l:=aj X (atN (bJ X x) m));have h4:=hrl (atN (bJ X x) m);show (lf1[_]?).getD 0≤1000;omega
    have hel:=ba hlm;refine bH (A:=a1) (.tl (.tl (.tl (.tl (.tl (In.of_mem hbx)))))) (by omega) fun ga hA=> ?_;subst hA;rw [← htk] at hs1 hs2;generalize atN (bJ X x) m=k at hk hk1 hs1 hs2 hkl hel;have hdn:=fun R=>EW lf1 k (by omega) hk1 (by omega) gl X.length R w;rw [hlf1] at hdn;have hin: ∀ (b1 b2 b3 b4 b5:Blk),In (.own (some ga) 3 1 (bJ X x).length a2 (nzC (bJ X x))) (b1::b2::b3::b4::b5::Z):=fun _ _ _ _ _=> .tl (.tl (.tl (.tl (.tl (In.of_mem hbx)))));by_cases hz:atN lf1 k - 1=0
    ·rw [decide_eq_true hz] at hdn;have hpu:=fun R=>y5 h1 k (by omega) hH1 gr A c R w;have hs:=hs2 hz;repeat' (first|(apply ai (d:=95);exact rfl;apply aa (j:=m);exact rfl;exact rfl;exact hlm)|(apply ai (d:=96);exact rfl;apply ak;exact rfl;exact hin _ _ _ _ _;exact hel)|(apply fP (f:=80) (caps:= []);exact rfl;exact rfl;infer_instance;exact rfl;exact FnIn.msub (hdn _) (MSub.pick pK (MSub.refl _));rintro _ _ ⟨rfl,rfl⟩)|(apply ai (d:=102);exact rfl;apply dg;(intro m h;cases h);exact rfl)|(apply ai (d:=104);exact rfl;apply dg;(intro m h;cases h);exact rfl)|(apply ap (f:=79);exact rfl;exact rfl;exact FnIn.msub (hpu _) (by unfold hpB;exact MSub.pick pK (MSub.pick pK (MSub.refl _)));rintro _ _ ⟨rfl,A',c',h2,hp2,hH2,rfl⟩;unfold hpB)|refine zZA ?_|refine sM fun _=>?_|(refine sC ?_ ?_<;>intro hb<;>try omega)|fail)
     all_goals first
      |(exfalso;omega)
      |(refine ⟨(m+1,h2,lf1.set k (atN lf1 k - 1),(A',c')),⟨hlm,hs h2 hp2,hH2⟩,by dsimp only;omega,by exact sB,by exact sB,by exact mS⟩;done)
    ·rw [decide_eq_false hz] at hdn;have hs:=hs1 hz;repeat' (first|(apply ai (d:=95);exact rfl;apply aa (j:=m);exact rfl;exact rfl;exact hlm)|(apply ai (d:=96);exact rfl;apply ak;exact rfl;exact hin _ _ _ _ _;exact hel)|(apply fP (f:=80) (caps:= []);exact rfl;exact rfl;infer_instance;exact rfl;exact FnIn.msub (hdn _) (MSub.pick pK (MSub.refl _));rintro _ _ ⟨rfl,rfl⟩)|refine zZA ?_|refine sM fun _=>?_|(refine sC ?_ ?_<;>intro hb<;>try omega)|fail)
     all_goals first
      |(exfalso;omega)
      |(refine ⟨(m+1,h1,lf1.set k (atN lf1 k - 1),(A,c)),⟨hlm,hs,hH1⟩,by dsimp only;omega,by exact sB,by exact sB,by exact mS⟩;done)
   ·have hm2:m=(bJ X x).length:=by omega
    subst hm2;rw [I5] at hJ;have hnew:=HpJ.fin hI hxm hJ;repeat' (first|refine zZA ?_|refine sM fun _=>?_|(refine sC ?_ ?_<;>intro hb<;>try omega)|fail)
    all_goals first
     |(exfalso;omega)
     |(refine ⟨(D++ [x],h1,lf1,(A,c),(some g8,c8)),⟨hnew,hH1,hTn.symm⟩,by dsimp only;omega,by dsimp only;rw [hol];exact sB,by exact sB,by dsimp only;(try unfold hpB);rw [hol];exact mS⟩;done)
structure Cyr (gg:Nat) (G:Gr) (B:List Blk) (w0:World):Prop where
 g:GrOk G
 l:G.length≤900
 fm: ∀ H,MSub B H→FnIn Tryz.prog 29 [.pointer (some ⟨gg,0,none⟩)] w0 H fun v H' => ∃ A cap,v=sl A (aw G).length cap∧H' = .own A 28 2 (aw G).length cap ((aw G).flatMap az)::H
 ed: ∀ H,MSub B H→FnIn Tryz.prog 55 [.pointer (some ⟨gg,0,none⟩)] w0 H fun v H' => ∃ A cap,v=sl A (cR G).length cap∧H' = .own A 114 4 (cR G).length cap ((cR G).flatMap eF)::H
theorem GOk.cyr {R:List Blk} {E:List En} {clock:Nat} {G:Gr} (h:GOk R E clock G) (hG:GrOk G) (hl:G.length≤900) (gg gm:Nat) (w0:World):Cyr gg G (gB gg gm (E.map En.m) clock++R) w0:=
 ⟨hG,hl,fun _ hs=>h.formulas_any gg gm hs w0 hl,fun _ hs=>h.edges_any gg gm hs w0 hl⟩
def nxE (K:List Rf) (E:List (Rf × Rf)) (n:Nat):Nx:=(List.range n).map (dq K E)
theorem su (K:List Rf) (E:List (Rf × Rf)) (n:Nat):(nxE K E n).length=n:=by simp [nxE]
theorem Gn {K:List Rf} {E:List (Rf × Rf)} {n k:Nat} (h:k<n):aj (nxE K E n) k=dq K E k:=by
 unfold aj nxE;rw [Iy,IY h];rfl
theorem Em (K:List Rf) (n:Nat):nxE K [] n=lG n:=by
 unfold nxE lG;apply Js;intro k;by_cases h:k<n
 ·rw [Iy,IY h,JY,if_pos h];rfl
 ·rw [IC (by simp;omega),IC (by simp;omega)]
theorem Cu (K:List Rf) (E:List (Rf × Rf)) (n:Nat) (x:Rf × Rf):nxE K (E++ [x]) n=(nxE K E n).set (dR K x.1) (dq K E (dR K x.1)++ [dR K x.2]):=by
 apply Js;intro j;by_cases hj:j<n
 ·unfold nxE;rw [Iy,IY hj,KF];simp only [JB];rw [xp];by_cases e:dR K x.1=j
  ·subst e;rw [if_pos rfl,if_pos rfl,if_pos (by simpa using hj)]
  ·rw [if_neg e,if_neg e,Iy,IY hj]
   rfl
 ·rw [IC (by rw [su];omega),IC (by rw [Jo,su];omega)]
theorem z2 (K:List Rf) (E:List (Rf × Rf)) (i:Nat):(dq K E i).length≤E.length:=by
 unfold dq;rw [II];exact JN _ _
theorem AQ {G:Gr} {x:Rf × Rf} (h:x∈cR G):x.1∈aw G∧x.2∈aw G:=by
 unfold cR at h;obtain ⟨e,he,h2⟩:=KK.1 h;obtain ⟨f,hf,rfl⟩:=IM.1 h2;exact ⟨IM.2 ⟨e,he,rfl⟩,IM.2 ⟨f,(JC.1 hf).1,rfl⟩⟩
theorem xo {G:Gr} (i:Nat):(aj (ay G) i).length≤G.length:=by
 unfold aj ay;rw [Iy];by_cases h:i<G.length
 ·rw [IY h];have:=JN (fun k=>l3 G i k) (List.range G.length);rwa [Jc] at this
 ·rw [IC (by simpa using h)];exact Iw _
def cyV (n:Nat) (A:Option Nat) (c gm:Nat) (A2:Nat):Value:= .agg #[sl A n c,.map (some gm),.slice (some ⟨A2,0,none⟩) n n]
def cyB (G:Gr) (A:Option Nat) (c gm A2:Nat) (vs:List Value) (Z:List Blk):List Blk:=
 .own A 28 2 (aw G).length c ((aw G).flatMap az):: .obj gm (bC dE (dK (aw G)) (aw G).length):: .own (some A2) 68 1 (aw G).length (aw G).length vs::Z
theorem nR {gg:Nat} {G:Gr} {B:List Blk} {w0:World} (hc:Cyr gg G B w0) (F:List Blk) (hB:MSub B F):
 FnIn Tryz.prog 33 [.pointer (some ⟨gg,0,none⟩)] w0 F fun v H=> ∃ A c gm A2 vs Z,v=cyV (aw G).length A c gm A2∧H=cyB G A c gm A2 vs Z∧MSub F Z∧JIn Z vs (ay G):=by
 refine cd Tryz.func33 rfl Tryz.ntmps33 rfl ?_;have hKn:=hc.g.sort.nodup;have hKl:(aw G).length≤900:=by rw [bM];exact hc.l
 have hEl:=xK G;have hEl2:G.length*G.length≤900*900:=Nat.mul_le_mul hc.l hc.l;have hnE:=z6 hc.g;rw [← bM] at hnE;have hek:=fun x (h:x∈cR G)=>AQ h;have hnum:=fun (w' :World) (A c:Nat→Nat)=>True;generalize hK:aw G=K at*;generalize hE:cR G=E at*;have hfm:=hc.fm;have hed:=hc.ed;rw [hK] at hfm;rw [hE] at hed;repeat' (first|(apply ap (f:=29);exact rfl;exact rfl;exact hfm _ (MSub.trans hB mS);rintro _ _ ⟨A8,c8,rfl,rfl⟩)|(apply aH (f:=77);exact rfl;exact rfl;(intro w' hm;exact uZ K hKn (by omega) _ w' (Reads.of_own (A:=A8) (c:=c8) hm pK));rintro _ _ ⟨gm,rfl,rfl⟩)|(apply cw (c:=K.length);(iterate 3 exact rfl);omega;(simp only [maxLen];omega);intro gx;(try simp only [iq]))|(apply ap (f:=55);exact rfl;exact rfl;exact hed _ (MSub.trans hB mS);rintro _ _ ⟨A20,c20,rfl,rfl⟩)|refine zZH ?_|refine sM fun _=>?_|(refine sC ?_ ?_<;>intro hb<;>try omega)|fail)
 all_goals try (exfalso;omega)
 rename_i g2 g3;have hpA: ∀ (J L F:List Blk),MSub (L++(J++F)) (J++(L++F)):=fun J L F=>MSub.of_perm (KR J L F);refine fK 3 K.length ?_;rw [← vu,← Em K]
 refine aB [0, 2, 3, 20, 21] rfl (fun z : Nat × JA × List Blk => [(22, .int .i64 (z.1 : Int))]) (fun z => .own A20 114 4 E.length c20 (E.flatMap eF) :: .box g3 66 [sl A8 K.length c8, .map (some gm), .slice (some ⟨gx, 0, none⟩) K.length K.length] :: .own (some gx) 68 1 K.length K.length (bo (nxE K (E.take z.1) K.length) z.2.1) :: .obj gm (bC dE (dK K) K.length) :: .own A8 28 2 K.length c8 (K.flatMap az) :: .box g2 66 [.slice none 0 0, .map none, .slice none 0 0] :: z.2.2) (fun z => z.1 ≤ E.length ∧ z.2.1.length = K.length ∧ (eP (nxE K (E.take z.1) K.length) z.2.1 ++ F).Perm z.2.2) (fun z => E.length - z.1) (0, cI K.length, eP (nxE K [] K.length) (cI K.length) ++ F) ⟨Iw _, JD, .refl _⟩ sB (by
  dsimp only;rw [Kf];exact hpA _ [_,_,_,_,_,_] F) ?_
 clear hpA;rintro ⟨j,As,Z⟩ ⟨hj,hAl,hZ⟩;dsimp only at hj hAl hZ ⊢;by_cases hlt:j<E.length
 ·have hread:((E.flatMap eF).drop (0+j*4)).take 4=eF E[j]:=by rw [IG];exact dW AP E j hlt
  have hmem:=hek E[j] (IZ hlt);have hsnoc:=Cu K (E.take j) K.length E[j];rw [← IA hlt] at hsnoc;generalize E[j]=e at hread hmem hsnoc;obtain ⟨e1,e2⟩:=e;dsimp only at hmem hsnoc;obtain ⟨hk1,hg1⟩:=lJ hKn hmem.1;obtain ⟨hk2,hg2⟩:=lJ hKn hmem.2;have hl1:=fun z=>pg hKn hk1 z;have hl2:=fun z=>pg hKn hk2 z;rw [hg1] at hl1;rw [hg2] at hl2;have hnl:=z2 K (E.take j) (dR K e1);have htl:(E.take j).length=j:=by rw [Jl];omega
  have hX:=su K (E.take j) K.length;have hcell:=eu (X:=nxE K (E.take j) K.length) (As:=As) (i:=dR K e1) (by omega) (by omega);obtain ⟨Rs,hR1,hR2⟩:=iy (X:=nxE K (E.take j) K.length) (As:=As) (i:=dR K e1) (by omega) (by omega);have hvset:=fun a=>iw (X:=nxE K (E.take j) K.length) (As:=As) (i:=dR K e1) (dq K (E.take j) (dR K e1)++ [dR K e2]) a (by omega);have hvl:=fW (X:=nxE K (E.take j) K.length) (As:=As) (by omega);rw [Gn hk1] at hcell hR1;rcases hak:As[dR K e1] with ⟨a1,a2⟩;rw [hak] at hcell hR1;dsimp only at hcell hR1;clear hg1 hg2 hak;generalize dR K e1=k at*;generalize dR K e2=k2 at*;have hcell:(bo (nxE K (E.take j) K.length) As)[0+k*1]? =some (sl a1 (dq K (E.take j) k).length a2):=by rw [IG,Jd];exact hcell
  have hZ2:=hZ.symm.trans (hR1.append_right F);refine bH (A:=A20) .hd (by omega) fun ge hA=> ?_;subst hA;refine gK (.own a1 3 1 (dq K (E.take j) k).length a2 (nzC (dq K (E.take j) k)):: .own (some ge) 114 4 E.length c20 (E.flatMap eF):: .box g3 66 [sl A8 K.length c8,.map (some gm),.slice (some ⟨gx,0,none⟩) K.length K.length]:: .own (some gx) 68 1 K.length K.length (bo (nxE K (E.take j) K.length) As):: .obj gm (bC dE (dK K) K.length):: .own A8 28 2 K.length c8 (K.flatMap az):: .box g2 66 [.slice none 0 0,.map none,.slice none 0 0]::(Rs++F)) (MSub.trans (by exact mS:MSub _ (.own (some ge) 114 4 E.length c20 (E.flatMap eF):: .box g3 66 [sl A8 K.length c8,.map (some gm),.slice (some ⟨gx,0,none⟩) K.length K.length]:: .own (some gx) 68 1 K.length K.length (bo (nxE K (E.take j) K.length) As):: .obj gm (bC dE (dK K) K.length):: .own A8 28 2 K.length c8 (K.flatMap az):: .box g2 66 [.slice none 0 0,.map none,.slice none 0 0]:: .own a1 3 1 (dq K (E.take j) k).length a2 (nzC (dq K (E.take j) k))::(Rs++F))) (MSub.of_perm ((((((hZ2.cons _).cons _).cons _).cons _).cons _).cons _))) ?_;have hone:nzC (dq K (E.take j) k)++ [.int .i64 (k2:Int)]=nzC (dq K (E.take j) k++ [k2]):=by simp [nzC]
  have hol:(dq K (E.take j) k++ [k2]).length=(dq K (E.take j) k).length+1:=by simp
  generalize dq K (E.take j) k=L at*;repeat' (first|(apply ai (d:=24);exact rfl;apply aa (j:=j);exact rfl;exact rfl;exact hlt)|(apply ai (d:=25);exact rfl;apply dh (ys:=eF (e1,e2));exact rfl;exact pK;exact hread;exact rfl)|(apply ai (d:=30);exact rfl;apply lg (enc:=dE) (k:=e1);exact rfl;exact rfl;exact pK;exact hl1 _)|refine zZE ?_|refine sM fun _=>?_|(refine sC ?_ ?_<;>intro hb<;>try omega)|fail)
  all_goals try (exfalso;omega)
  rename_i g5;refine iO (id:=8) [7,13,14,16] [.box g5 114 (eF (e1,e2)),.box g3 66 [sl A8 K.length c8,.map (some gm),.slice (some ⟨gx,0,none⟩) K.length K.length],.obj gm (bC dE (dK K) K.length)] 17 rfl rfl mS ?_;repeat' (first|(apply aP (i:=6);(iterate 4 exact rfl);(iterate 3 decide+kernel);(apply aa (j:=k);exact rfl;exact rfl;exact hk1))|(apply aP (i:=15);(iterate 4 exact rfl);(iterate 3 decide+kernel);(apply aa (j:=k);exact rfl;exact rfl;exact hk1))|(apply aP (i:=12);(iterate 4 exact rfl);(iterate 3 decide+kernel);(apply lg (enc:=dE) (k:=e2);exact rfl;exact rfl;exact pK;exact hl2 _))|(apply aP (i:=10);(iterate 4 exact rfl);(iterate 3 decide+kernel);(apply qF;(iterate 3 exact rfl)))|(apply aP (i:=0);(iterate 4 exact rfl);(iterate 3 decide+kernel);(exact vC))|(apply aP (i:=1);(iterate 4 exact rfl);(iterate 3 decide+kernel);(exact vC))|(apply aP (i:=2);(iterate 4 exact rfl);(iterate 3 decide+kernel);(exact vC))|(apply aP (i:=3);(iterate 4 exact rfl);(iterate 3 decide+kernel);(exact vC))|(apply aP (i:=4);(iterate 4 exact rfl);(iterate 3 decide+kernel);(exact vC))|(apply aP (i:=5);(iterate 4 exact rfl);(iterate 3 decide+kernel);(exact vC))|(apply aP (i:=8);(iterate 4 exact rfl);(iterate 3 decide+kernel);(exact vC))|(apply aP (i:=9);(iterate 4 exact rfl);(iterate 3 decide+kernel);(exact vC))|(apply aP (i:=11);(iterate 4 exact rfl);(iterate 3 decide+kernel);(exact vC))|(apply n8 (i:=7) (j:=13);(iterate 6 exact rfl);decide+kernel)|(apply bG (i:=7);(iterate 3 exact rfl);decide+kernel)|(apply bG (i:=13);(iterate 3 exact rfl);decide+kernel)|(apply bG (i:=14);(iterate 3 exact rfl);decide+kernel)|(apply bG (i:=16);(iterate 3 exact rfl);decide+kernel)|(apply iM;decide+kernel)|(apply v6;(focus (exact mS;done)))|(apply ai (d:=38);exact rfl;apply ak;exact rfl;exact pK;exact hcell)|(apply aF;(iterate 3 exact rfl);exact pK;exact pK;exact rfl;(simp [Value.oneCell']);omega;(simp only [maxLen];omega);intro g8 c8)|(apply aI (g:=gx);exact rfl;exact rfl;exact pK;exact rfl;(rw [hvl];omega);rw [IG,Jd])|refine zZH ?_|refine sM fun _=>?_|(refine sC ?_ ?_<;>intro hb<;>try omega)|fail)
  repeat' (first|refine zZE ?_|refine sM fun _=>?_|(refine sC ?_ ?_<;>intro hb<;>try omega)|fail)
  all_goals first
   |(exfalso;omega)
   | (have hv1 := hvset (some g8, c8)
      have hr1:=(hR2 (L++ [k2]) (some g8,c8)).append_right F;rw [← hsnoc] at hv1 hr1;refine ⟨(j+1,As.set k (some g8,c8),.own (some g8) 3 1 (L++ [k2]).length c8 (nzC (L++ [k2]))::(Rs++F)),⟨hlt,by dsimp only;rw [List.length_set];exact hAl,hr1⟩,by dsimp only;omega,by exact sB,by exact sB,?_⟩;dsimp only;rw [hv1,hol,← hone];exact mS)
 ·have hj2:j=E.length:=by omega
  subst hj2;rw [I5,show nxE K E K.length=ay G from hnE] at hZ ⊢;have hgl:(ay G).length=K.length:=by rw [bi,← bM,hK]
  have hJ:JIn Z (bo (ay G) As) (ay G):=(sK (X:=ay G) (As:=As) (by rw [hgl];exact hAl)).mono (MSub.trans (MSub.appL _ _) (MSub.of_perm hZ.symm));have hFZ:MSub F Z:=MSub.trans (MSub.appR _ _) (MSub.of_perm hZ.symm);repeat' (first|refine zZE ?_|refine sM fun _=>?_|(refine sC ?_ ?_<;>intro hb<;>try omega)|fail)
  all_goals first
   |(exfalso;omega)
   |exact Cl eIO rfl rfl pK rfl (H' :=cyB G A8 c8 gm gx (bo (ay G) As) Z) (by unfold cyB;rw [hK];exact mS) ⟨A8,c8,gm,gx,_,Z,rfl,rfl,hFZ,hJ⟩
theorem GI {X:Nx} {As:JA} {Z:List Blk} (h:As.length=X.length) (hZ:(eP X As).Perm Z): ∃ ja:Nat→Option Nat × Nat,(∀ x,x<X.length→(bo X As)[0+x*1]? =some (sl (ja x).1 (aj X x).length (ja x).2))∧ ∀ x,x<X.length→Blk.own (ja x).1 3 1 (aj X x).length (ja x).2 (nzC (aj X x))∈Z:=by
 have hjx: ∀ x (hx:x<X.length),(As[x]?).getD (none,0)=As[x]'(by omega):=fun x hx=>by
  rw [Ir (by omega)];rfl
 refine ⟨fun x=>(As[x]?).getD (none,0),fun x hx=> ?_,fun x hx=> ?_⟩
 ·have h1:=eu (X:=X) (As:=As) (i:=x) h hx;rw [IG,Jd,h1];dsimp only;rw [hjx x hx]
 ·have h1:=lF (X:=X) (As:=As) (i:=x) h hx;rw [← hjx x hx] at h1;exact hZ.mem_iff.1 h1
theorem vX (X:Nx) (hX: ∀ i,∀ k∈aj X i,k<X.length) (hlen:X.length≤1000) (hrl: ∀ i,(aj X i).length≤1000) (Ac:Option Addr) (cc:Nat) (mv xv:Value) (w:World) (hv:JRd w xv X):
 FnAt Tryz.prog 36 [.agg #[.slice Ac X.length cc,mv,xv]] w fun v H=> ∃ g,v= .slice (some ⟨g,0,none⟩) X.length X.length∧H= [oP X.length g (lQ X)]:=by
 have hLo:=fun (w' :World) (H:List Blk) (hm:Mem w w' H)=>pX X hX hlen hrl xv w' (hv.of_w0 hm);obtain ⟨vs0,hvl,⟨Av,cv,rfl,hm1,hm2,hm3⟩,hrow⟩:=hv;refine ax Tryz.func36 rfl Tryz.ntmps36 rfl ?_;repeat' (first|(apply cw (c:=X.length);(iterate 3 exact rfl);omega;(simp only [maxLen];omega);intro gx;(try simp only [kT]);(try simp only [iq]))|refine zZB ?_|refine sM fun _=>?_|(refine sC ?_ ?_<;>intro hb<;>try omega)|fail)
 all_goals try (exfalso;omega)
 rename_i g1 go;refine fK 3 X.length ?_;rw [← vu,← kP];have hpA: ∀ (J L:List Blk),MSub (L++J) (J++L):=fun J L=>MSub.of_perm I2;refine aB [1,3,4,25,26] rfl (fun z:Nat × JA × List Blk=> [(27,.int .i64 (z.1:Int))]) (fun z=> .own (some go) 4 1 X.length X.length (aL X.length fun _=>false):: .own (some gx) 68 1 X.length X.length (bo (aR X z.1 0) z.2.1):: .box g1 66 [.slice Ac X.length cc,mv,.slice Av X.length cv]::z.2.2) (fun z=>z.1≤X.length∧z.2.1.length=X.length∧(eP (aR X z.1 0) z.2.1).Perm z.2.2) (fun z=>X.length - z.1) (0,cI X.length,eP (aR X 0 0) (cI X.length)) ⟨Iw _,JD,.refl _⟩ sB (MSub.trans (hpA _ [_,_,_]) (MSub.of_perm (List.Perm.append_left _ (by first|exact List.Perm.refl _|exact List.Perm.swap _ _ _)))) ?_;clear hpA;rintro ⟨i,As,Z⟩ ⟨hi,hAl,hZ⟩;dsimp only at hi hAl hZ ⊢;by_cases hlt:i<X.length
 ·obtain ⟨u,hu,⟨Ai,ci,rfl,hi1,hi2,hi3⟩⟩:=hrow i hlt;obtain ⟨gv,ov,rfl,hrv⟩:=hm3 (by omega);have hc:=hrv.cellV i hu;repeat' (first|(apply ai (d:=30);exact rfl;apply aa (j:=i);exact rfl;exact rfl;exact hlt)|(apply ai (d:=31);exact rfl;apply aG;exact rfl;exact hc)|refine zZA ?_|refine sM fun _=>?_|(refine sC ?_ ?_<;>intro hb<;>try omega)|fail)
  all_goals try (exfalso;omega)
  refine aB [1,3,4,5,6,25,26,27,32,33] rfl (fun z:Nat × JA × List Blk=> [(34,.int .i64 (z.1:Int))]) (fun z=> .own (some go) 4 1 X.length X.length (aL X.length fun _=>false):: .own (some gx) 68 1 X.length X.length (bo (aR X i z.1) z.2.1):: .box g1 66 [.slice Ac X.length cc,mv,.slice (some ⟨gv,ov,none⟩) X.length cv]::z.2.2) (fun z=>z.1≤(aj X i).length∧z.2.1.length=X.length∧(eP (aR X i z.1) z.2.1).Perm z.2.2) (fun z=>(aj X i).length - z.1) (0,As,Z) ⟨Iw _,hAl,hZ⟩ sB mS ?_;clear hZ hAl;rintro ⟨j,As,Z⟩ ⟨hj,hAl,hZ⟩;dsimp only at hj hAl hZ ⊢;by_cases hlj:j<(aj X i).length
  ·obtain ⟨gi,oi,rfl,hri⟩:=hi3 (by omega);have he:=hri.natN j hlj;have hk:=hX i _ (bw hlj);have hstep:=fun k (hk:atN (aj X i) j=k)=>pH hlj hk;generalize hke:atN (aj X i) j=k at he hk;have hstep:=hstep k hke;have hfl:=jX hrl i j k;have hfl2:(i+1)*1000≤1000*1000:=JQ _ (by omega);have hGl:=jY X i j;have hkA:k<As.length:=by omega
   have hcell:=eu (X:=aR X i j) (As:=As) (i:=k) (by omega) (by omega);obtain ⟨Rs,hR1,hR2⟩:=iy (X:=aR X i j) (As:=As) (i:=k) (by omega) (by omega);have hvset:=fun a=>iw (X:=aR X i j) (As:=As) (i:=k) (bF X i j k++ [i]) a (by omega);rw [lK hk] at hcell hR1;rcases hak:As[k] with ⟨a1,a2⟩;rw [hak] at hcell hR1;dsimp only at hcell hR1;have hcell:(bo (aR X i j) As)[0+k*1]? =some (sl a1 (bF X i j k).length a2):=by rw [IG,Jd];exact hcell
   have hvl:=fW (X:=aR X i j) (As:=As) (by omega);have hZ2:=hZ.symm.trans hR1;refine gK (.own a1 3 1 (bF X i j k).length a2 (nzC (bF X i j k)):: .own (some go) 4 1 X.length X.length (aL X.length fun _=>false):: .own (some gx) 68 1 X.length X.length (bo (aR X i j) As):: .box g1 66 [.slice Ac X.length cc,mv,.slice (some ⟨gv,ov,none⟩) X.length cv]::Rs) (MSub.trans (by exact mS:MSub _ (.own (some go) 4 1 X.length X.length (aL X.length fun _=>false):: .own (some gx) 68 1 X.length X.length (bo (aR X i j) As):: .box g1 66 [.slice Ac X.length cc,mv,.slice (some ⟨gv,ov,none⟩) X.length cv]:: .own a1 3 1 (bF X i j k).length a2 (nzC (bF X i j k))::Rs)) (MSub.of_perm (((hZ2.cons _).cons _).cons _))) ?_;have hone:nzC (bF X i j k)++ [.int .i64 (i:Int)]=nzC (bF X i j k++ [i]):=by simp [nzC]
   have hol:(bF X i j k++ [i]).length=(bF X i j k).length+1:=by simp
   generalize bF X i j k=F at*;repeat' (first|(apply ai (d:=36);exact rfl;apply aa (j:=j);exact rfl;exact rfl;exact hlj)|(apply ai (d:=37);exact rfl;apply aG;exact rfl;exact he)|(apply ai (d:=42);exact rfl;apply aa (j:=k);exact rfl;exact rfl;exact hk)|(apply ai (d:=43);exact rfl;apply ak;exact rfl;exact pK;exact hcell)|(apply aF;(iterate 3 exact rfl);exact pK;exact pK;exact rfl;(simp [Value.oneCell']);omega;(simp only [maxLen];omega);intro g8 c8)|(apply ai (d:=47);exact rfl;apply aa (j:=k);exact rfl;exact rfl;exact hk)|(apply aI (g:=gx);exact rfl;exact rfl;exact pK;exact rfl;(rw [hvl];omega);rw [IG,Jd])|refine zZA ?_|refine sM fun _=>?_|(refine sC ?_ ?_<;>intro hb<;>try omega)|fail)
   all_goals first
    |(exfalso;omega)
    | (have hv1 := hvset (some g8, c8)
       have hr1:=hR2 (F++ [i]) (some g8,c8);rw [← hstep] at hv1 hr1;refine ⟨(j+1,As.set k (some g8,c8),.own (some g8) 3 1 (F++ [i]).length c8 (nzC (F++ [i]))::Rs),⟨hlj,by dsimp only;rw [List.length_set];exact hAl,hr1⟩,by dsimp only;omega,by exact sB,by exact sB,?_⟩;dsimp only;rw [hv1,hol,← hone];exact mS)
  ·have hj2:j=(aj X i).length:=by omega
   subst hj2;rw [pI] at hZ ⊢;repeat' (first|refine zZA ?_|refine sM fun _=>?_|(refine sC ?_ ?_<;>intro hb<;>try omega)|fail)
   all_goals first
    |(exfalso;omega)
    |(refine ⟨(i+1,As,Z),⟨hlt,hAl,hZ⟩,by dsimp only;omega,by exact sB,by exact sB,by exact mS⟩;done)
 ·have e:i=X.length:=by omega
  subst e;rw [jf] at hZ ⊢;obtain ⟨ja,hcell,hblk⟩:=GI (X:=eE X) (As:=As) (by rw [fR];exact hAl) hZ;rw [fR] at hcell hblk;repeat' (first|(apply aH (f:=34);exact rfl;exact rfl;(intro w' hm;exact hLo w' _ hm);rintro _ _ ⟨A,c,l,Zl,rfl,rfl,hasc,hml⟩;refine iJ (_::_) (MSub.pick .hd (MSub.appR _ Zl)) ?_)|refine zZA ?_|refine sM fun _=>?_|(refine sC ?_ ?_<;>intro hb<;>try omega)|fail)
  all_goals try (exfalso;omega)
  have hnd:l.Nodup:=hasc.imp fun hab e=>by rw [e] at hab;exact JO _ hab
  have hll:l.length≤X.length:=by
   have h2:=bK l (List.range X.length) hnd fun y hy=>IJ.2 ((hml y).1 hy).1;rwa [Jc] at h2
  have hlx:=fun x (hx:x∈l)=>((hml x).1 hx).1;have hfin: ∀ M dn,WkI (eE X) (co X) M [] dn→(∀ u∈l,M u=true)→aL X.length M=aL X.length (lQ X):=fun M dn hI hb=>bY fun v _=>by
   rw [Jp,mJ];exact hI.circ hX (fun u hu=>hb u ((hml u).2 ⟨iV (Classical.choose_spec hu).1,hu⟩)) v
  have hI0:WkI (eE X) (co X) (fT l) l []:=by
   refine ⟨fun v h=> ?_,fun v h=>(by cases h),fun v h=> .inr (by simpa [fT] using h)⟩;have h2:v∈l:=by simpa [fT] using h
   exact ⟨v,((hml v).1 h2).2,.refl v⟩
  have hlM: ∀ u∈l,fT l u=true:=fun u hu=>by simpa [fT] using hu
  have hcn0:=Dn hnd hlx
  refine aB [3, 4, 9, 56, 57] rfl (fun j : Nat => [(58, .int .i64 (j : Int))]) (fun j => .own (some go) 4 1 X.length X.length (aL X.length (fT (l.take j))) :: .own A 3 1 l.length c (nzC l) :: .own (some gx) 68 1 X.length X.length (bo (eE X) As) :: Z) (fun j => j ≤ l.length) (fun j => l.length - j) 0 (Iw _) sB (by
   rw [show aL X.length (fT (l.take 0))=aL X.length fun _=>false from bY fun v _=>by simp [fT]];exact mS) ?_
  rintro j hj;by_cases hlj:j<l.length
  ·refine bH (A:=A) pK (by omega) fun ga hA=> ?_;subst hA;have he:=ba hlj;have hkl:=hlx _ (bw hlj);have hst:=iF (n:=X.length) (f:=fT (l.take j)) (k:=atN l j) (v:=true);rw [xw hlj] at hst;generalize atN l j=k at he hkl hst;repeat' (first|(apply ai (d:=60);exact rfl;apply aa (j:=j);exact rfl;exact rfl;exact hlj)|(apply ai (d:=61);exact rfl;apply ak;exact rfl;exact pK;exact he)|(apply ai (d:=64);exact rfl;apply aa (j:=k);exact rfl;exact rfl;exact hkl)|(apply aI (g:=go);exact rfl;exact rfl;exact pK;exact rfl;(rw [iG];omega);rw [hst])|refine zZA ?_|refine sM fun _=>?_|(refine sC ?_ ?_<;>intro hb<;>try omega)|fail)
   all_goals first
    |(exfalso;omega)
    |(refine ⟨j+1,hlj,by omega,by exact sB,by exact sB,by exact mS⟩;done)
  ·have hj2:j=l.length:=by omega
   subst hj2;rw [I5];rcases Kx l.length with hz|hz
   ·have hl0:l= []:=JV hz;subst hl0;rw [hfin _ _ hI0 hlM];repeat' (first|refine zZA ?_|refine sM fun _=>?_|(refine sC ?_ ?_<;>intro hb<;>try omega)|fail)
    all_goals try (exfalso;omega)
    refine aB [3,9] rfl (fun _:Unit=> []) (fun _=> [.own (some go) 4 1 X.length X.length (aL X.length (lQ X))]) (fun _=>True) (fun _=>0) () trivial sB mS ?_;rintro ⟨⟩ _;repeat' (first|refine zZA ?_|refine sM fun _=>?_|(refine sC ?_ ?_<;>intro hb<;>try omega)|fail)
    all_goals first
     |(exfalso;omega)
     |(exact bB eIO rfl rfl (by unfold oP;exact mS) ⟨go,rfl,rfl⟩)
   ·refine bH (A:=A) pK hz fun ga hA=> ?_;subst hA;repeat' (first|refine zZA ?_|refine sM fun _=>?_|(refine sC ?_ ?_<;>intro hb<;>try omega)|fail)
    all_goals try (exfalso;omega)
    refine aB [3,4] rfl (fun z:(Nat→Bool) × List Nat × List Nat × Qu=> [(9,z.2.2.2.v)]) (fun z=> .own (some z.2.2.2.g) 3 1 z.2.2.2.n z.2.2.2.c z.2.2.2.ys:: .own (some go) 4 1 X.length X.length (aL X.length z.1):: .own (some gx) 68 1 X.length X.length (bo (eE X) As)::Z) (fun z=>WkI (eE X) (co X) z.1 z.2.1 z.2.2.1∧z.2.2.2.ok tr 1 z.2.1∧z.2.2.2.n≤kf X.length z.1∧(∀ x∈z.2.1,x<X.length∧co X x)∧(∀ u∈l,z.1 u=true)) (fun z=>z.2.1.length+(X.length - kf X.length z.1)) (fT l,l,[],⟨ga,0,0,l.length,c,nzC l⟩) ⟨hI0,⟨Nat.zero_le _,fun _=>by rw [Nat.zero_mul],rfl,by rw [Nat.zero_mul,List.drop_zero,Cs]⟩,by dsimp only;rw [hcn0];exact Nat.le_refl _,fun x hx=>⟨hlx x hx,⟨x,((hml x).1 hx).2,.refl x⟩⟩,hlM⟩ sB (by simp only [Qu.v];exact mS) ?_;clear hI0 hlM hcn0;rintro ⟨M,todo,dn,q⟩ ⟨hI,hq,hqn,htd,hin⟩;dsimp only at hI hq hqn htd hin ⊢;have hql:=hq.len;have hcn:=nQ X.length M
    cases todo with
    |nil=>
      rw [Km] at hql;rw [hfin _ _ hI hin];repeat' (first|refine zZB ?_|refine sM fun _=>?_|(refine sC ?_ ?_<;>intro hb<;>try omega)|fail)
      all_goals first
       |(exfalso;omega)
       |(exact bB eIO rfl rfl (by unfold oP;exact mS) ⟨go,rfl,rfl⟩)
    |cons k todo=>
      rw [IU] at hql;refine G6 (A:=some q.g) pK fun hle=> ?_;have hhd:=FD hq hle;have hpo:=hq.pop (pR k) hle;obtain ⟨hkl,hkp⟩:=htd k Iu;have htd' :=fun x (hx:x∈todo)=>htd x (IB _ hx);have hc:=hcell k hkl;have hbk:=hblk k hkl;have hJ0:=hI.pop;have hpk: ∀ u∈aj (eE X) k,u<X.length∧co X u:=fun u hu=>⟨iV (sm.1 hu).2,AV hkp hu⟩;have hrk:(aj (eE X) k).length≤2000000:=by
       rw [← jf,lK hkl];have:=jX hrl X.length 0 k;have h2:(X.length+1)*1000≤1001*1000:=JQ _ (by omega);omega
      have hfinJ:=fun M todo (hJ:WkJ (eE X) (co X) M k todo dn (aj (eE X) k))=>hJ.fin;generalize aj (eE X) k=L at*;generalize ja k=a at hc hbk;obtain ⟨a1,a2⟩:=a;dsimp only at hc hbk;repeat' (first|(apply ai (d:=70);exact rfl;apply aa (j:=0);exact rfl;exact rfl;omega)|(apply ai (d:=71);exact rfl;apply ak;exact rfl;exact pK;exact hhd)|(apply ai (d:=73);exact rfl;apply Fs q;exact rfl;omega;exact hle)|(apply ai (d:=76);exact rfl;apply aa (j:=k);exact rfl;exact rfl;exact hkl)|(apply ai (d:=77);exact rfl;apply ak;exact rfl;exact pK;exact hc)|refine zZB ?_|refine sM fun _=>?_|(refine sC ?_ ?_<;>intro hb<;>try omega)|fail)
      all_goals try (exfalso;omega)
      refine aB [3,4,77,78] rfl (fun z:Nat × (Nat→Bool) × List Nat × Qu=> [(79,.int .i64 (z.1:Int)),(9,z.2.2.2.v)]) (fun z=> .own (some z.2.2.2.g) 3 1 z.2.2.2.n z.2.2.2.c z.2.2.2.ys:: .own (some go) 4 1 X.length X.length (aL X.length z.2.1):: .own (some gx) 68 1 X.length X.length (bo (eE X) As)::Z) (fun z=>z.1≤L.length∧WkJ (eE X) (co X) z.2.1 k z.2.2.1 dn (L.take z.1)∧z.2.2.2.ok tr 1 z.2.2.1∧z.2.2.2.n≤kf X.length z.2.1∧(∀ x∈z.2.2.1,x<X.length∧co X x)∧z.2.2.1.length+kf X.length M=todo.length+kf X.length z.2.1∧(∀ u∈l,z.2.1 u=true)) (fun z=>L.length - z.1) (0,M,todo,q.pop 1) ⟨Iw _,hJ0,hpo,hqn,htd',rfl,hin⟩ sB (by simp only [Qu.pop];exact mS) ?_;clear hI hq hqn htd hin hql hhd hpo htd' hJ0 hle;rintro ⟨m,M1,todo1,q1⟩ ⟨hm,hJ,hq1,hqn1,htd1,hsum,hin1⟩;dsimp only at hm hJ hq1 hqn1 htd1 hsum hin1 ⊢;have hcn1:=nQ X.length M1;by_cases hlm:m<L.length
      ·have he:=ba hlm;obtain ⟨hul,hup⟩:=hpk _ (bw hlm);have htk:L.take (m+1)=L.take m++ [atN L m]:=by rw [IA hlm,bS hlm]
       refine bH (A:=a1) (.tl (.tl (.tl (In.of_mem hbk)))) (by omega) fun ga2 hA=> ?_;subst hA;have hinR: ∀ (b1 b2 b3:Blk),In (.own (some ga2) 3 1 L.length a2 (nzC L)) (b1::b2::b3::Z):=fun _ _ _=> .tl (.tl (.tl (In.of_mem hbk)));generalize atN L m=u at he hul hup htk;have hou:=eU (f:=M1) hul
       cases hMu:M1 u with
       |true=>
         rw [hMu] at hou;have hJ2:=hJ.old hMu;rw [← htk] at hJ2;repeat' (first|(apply ai (d:=81);exact rfl;apply aa (j:=m);exact rfl;exact rfl;exact hlm)|(apply ai (d:=82);exact rfl;apply ak;exact rfl;exact hinR _ _ _;exact he)|(apply ai (d:=85);exact rfl;apply aa (j:=u);exact rfl;exact rfl;exact hul)|(apply ai (d:=86);exact rfl;apply ak;exact rfl;exact pK;exact hou)|refine zZA ?_|refine sM fun _=>?_|(refine sC ?_ ?_<;>intro hb<;>try omega)|fail)
         all_goals first
          |(exfalso;omega)
          |(refine ⟨(m+1,M1,todo1,q1),⟨hlm,hJ2,hq1,hqn1,htd1,hsum,hin1⟩,by dsimp only;omega,by exact sB,by exact sB,by exact mS⟩;done)
       |false=>
         rw [hMu] at hou;have hJ2:=hJ.new hup;rw [← htk] at hJ2;have hcm:=rl hul hMu;have hst:=iF (n:=X.length) (f:=M1) (k:=u) (v:=true);obtain ⟨qg,qoff,qk,qn,qc,qys⟩:=q1;obtain ⟨hq3,hq4,hq5,hq6⟩:=hq1;dsimp only at hq3 hq4 hq5 hq6 hqn1 ⊢;simp only [Qu.v];repeat' (first|(apply ai (d:=81);exact rfl;apply aa (j:=m);exact rfl;exact rfl;exact hlm)|(apply ai (d:=82);exact rfl;apply ak;exact rfl;exact hinR _ _ _;exact he)|(apply ai (d:=85);exact rfl;apply aa (j:=u);exact rfl;exact rfl;exact hul)|(apply ai (d:=86);exact rfl;apply ak;exact rfl;exact pK;exact hou)|(apply ai (d:=90);exact rfl;apply aa (j:=u);exact rfl;exact rfl;exact hul)|(apply aI (g:=go);exact rfl;exact rfl;exact pK;exact rfl;(rw [iG];omega);rw [hst])|(apply nZ;exact rfl;exact rfl;exact hq3;exact hq4;exact rfl;exact pK;exact pK;exact rfl;(simp [Value.oneCell']);omega;(simp only [maxLen];omega);intro g' off' k' n2 c2 ys hk2 hoff2 hlen2 hn2 hys2)|refine zZA ?_|refine sM fun _=>?_|(refine sC ?_ ?_<;>intro hb<;>try omega)|fail)
         all_goals first
          |(exfalso;omega)
          | (refine ⟨(m + 1, (fun x => if x = u then true else M1 x), todo1 ++ [u], ⟨g', off', k', n2, c2, ys⟩), ⟨hlm, hJ2, ⟨hk2, hoff2, (by rw [List.length_append]; exact hlen2.trans (by rw [hq5]; rfl)), (by rw [hys2, hq6, List.flatMap_append]; rfl)⟩, (by dsimp only; rw [hcm]; omega), (fun x hx => ?_), (by dsimp only; rw [List.length_append, hcm, List.length_singleton]; omega), fun y hy => ?_⟩, by dsimp only; omega, by exact sB, by exact sB, by exact mS⟩
             ·rcases IL.1 hx with hx|hx
              ·exact htd1 x hx
              ·rw [Iz.1 hx];exact ⟨hul,hup⟩
             ·dsimp only;split
              ·rfl
              ·exact hin1 y hy)
      ·have hm2:m=L.length:=by omega
       subst hm2;rw [I5] at hJ;have hI2:=hfinJ _ _ hJ;repeat' (first|refine zZA ?_|refine sM fun _=>?_|(refine sC ?_ ?_<;>intro hb<;>try omega)|fail)
       all_goals first
        |(exfalso;omega)
        |(refine ⟨(M1,todo1,k::dn,q1),⟨hI2,hq1,hqn1,htd1,hin1⟩,by dsimp only;rw [List.length_cons];omega,by exact sB,by exact sB,by exact mS⟩;done)
theorem Dk {G:Gr} {A2:Nat} {vs:List Value} {Z:List Blk} (hJ:JIn Z vs (ay G)) {w0 w:World} {H:List Blk} (hs:MSub (.own (some A2) 68 1 (aw G).length (aw G).length vs::Z) H) (hm:Mem w0 w H):JRd w (.slice (some ⟨A2,0,none⟩) (aw G).length (aw G).length) (ay G):=by
 have h1:(ay G).length=(aw G).length:=by rw [bi,bM]
 have h2:=hs.use hm;rw [← h1] at h2 ⊢;exact hJ.rd h2
theorem nL {G:Gr} (hl:G.length≤900) (i:Nat):(aj (ay G) i).length≤1000:=Je (xo i) (by omega)
theorem Dl {G:Gr} (hl:G.length≤900) {A2:Nat} {vs:List Value} {Z:List Blk} (hJ:JIn Z vs (ay G)) {w0 w:World} {H:List Blk} (hs:MSub (.own (some A2) 68 1 (aw G).length (aw G).length vs::Z) H) (hm:Mem w0 w H):
 FnAt Tryz.prog 34 [.slice (some ⟨A2,0,none⟩) (aw G).length (aw G).length] w fun u H' => ∃ A c Z',u= .tuple #[sl A (lpC G).length c,.int .i64 0]∧H' = .own A 3 1 (lpC G).length c (nzC (lpC G))::Z' :=by
 refine (pX (ay G) lz (by rw [bi];omega) (nL hl) _ w (Dk hJ hs hm)).mono ?_;rintro u H' ⟨A,c,l,Z',h1,h2,h3,h4⟩;have e:l=lpC G:=by rw [← Ev];exact CG h3 h4
 subst e;exact ⟨A,c,Z',h1,h2⟩
theorem tz {G:Gr} (hl:G.length≤900) {A2:Nat} {vs:List Value} {Z:List Blk} (hJ:JIn Z vs (ay G)) {w0 w:World} {H:List Blk} (hs:MSub (.own (some A2) 68 1 (aw G).length (aw G).length vs::Z) H) (hm:Mem w0 w H) (A:Option Nat) (c:Nat) (mv:Value):
 FnAt Tryz.prog 36 [.agg #[sl A (aw G).length c,mv,.slice (some ⟨A2,0,none⟩) (aw G).length (aw G).length]] w fun v H=> ∃ g,v= .slice (some ⟨g,0,none⟩) (aw G).length (aw G).length∧H= [oP (aw G).length g (bT G)]:=by
 have h1:(ay G).length=(aw G).length:=by rw [bi,bM]
 have h:=vX (ay G) lz (by rw [bi];omega) (nL hl) (A.map fun g=>⟨g,0,none⟩) c mv _ w (Dk hJ hs hm);rw [h1,show lQ (ay G)=bT G from funext fun i=>(rA (G:=G) (i:=i)).symm] at h;exact h
theorem GG {G:Gr} {i:Nat} (h:i∈lpC G):i<(aw G).length:=by
 rw [bM];exact IJ.1 (JC.1 h).1
theorem ib {n:Nat} (p:Nat→Bool):((List.range n).filter p).length≤n:=by
 have:=JN p (List.range n);rwa [Jc] at this
theorem x7 {gg:Nat} {G:Gr} {B:List Blk} {w0:World} (hc:Cyr gg G B w0) (F:List Blk) (hB:MSub B F):
 FnIn Tryz.prog 8 [.pointer (some ⟨gg,0,none⟩)] w0 F fun v H=> ∃ A c,v= .tuple #[sl A (jA G).length c,.int .i64 0]∧H= .own A 28 2 (jA G).length c ((jA G).flatMap az)::F:=by
 refine cd Tryz.func8 rfl Tryz.ntmps8 rfl ?_;have hl:=hc.l;have hof:=nR hc F hB;have hll:(lpC G).length≤1000000:=Je (ib _) (by omega);repeat' (first|(apply ap (f:=33);exact rfl;exact rfl;exact hof;rintro _ _ ⟨A,c,gm,A2,vs,Z,rfl,rfl,hFZ,hJ⟩;simp only [cyV,cyB])|(apply aH (f:=34);exact rfl;exact rfl;(intro w' hm;exact Dl hl hJ mS hm);rintro _ _ ⟨A3,c3,Z3,rfl,rfl⟩;refine iJ (_::_) (MSub.pick .hd (MSub.appR _ Z3)) ?_)|(apply aH (f:=35);exact rfl;exact rfl;(intro w' hm;exact AU (aw G) (lpC G) (fun i hi=>GG hi) hll _ _ _ _ w' (Reads.of_own (A:=A) (c:=c) hm pK) (Reads.of_own (A:=A3) (c:=c3) hm pK));rintro _ _ ⟨A5,c5,rfl,rfl⟩)|refine zZB ?_|refine sM fun _=>?_|(refine sC ?_ ?_<;>intro hb<;>try omega)|fail)
 all_goals first
  |(exfalso;omega)
  |(exact eX eIO rfl rfl rfl (MSub.pick pK (MSub.trans hFZ mS)) ⟨A5,c5,rfl,rfl⟩)
theorem qA {gg:Nat} {G:Gr} {B:List Blk} {w0:World} (hc:Cyr gg G B w0) (F:List Blk) (hB:MSub B F):
 FnIn Tryz.prog 9 [.pointer (some ⟨gg,0,none⟩)] w0 F fun v H=> ∃ A c,v= .tuple #[sl A (kB G).length c,.int .i64 0]∧H= .own A 28 2 (kB G).length c ((kB G).flatMap az)::F:=by
 refine cd Tryz.func9 rfl Tryz.ntmps9 rfl ?_;have hl:=hc.l;have hof:=nR hc F hB;repeat' (first|(apply ap (f:=33);exact rfl;exact rfl;exact hof;rintro _ _ ⟨A,c,gm,A2,vs,Z,rfl,rfl,hFZ,hJ⟩;simp only [cyV,cyB])|(apply aH (f:=36);exact rfl;exact rfl;(intro w' hm;exact tz hl hJ mS hm A c _);rintro _ _ ⟨g5,rfl,rfl⟩;simp only [oP])|refine zZB ?_|refine sM fun _=>?_|(refine sC ?_ ?_<;>intro hb<;>try omega)|fail)
 all_goals try (exfalso;omega)
 rename_i g4;refine aN 28 2 ?_;have hKl:(aw G).length=G.length:=bM G;generalize hK:aw G=K at*;refine aB [4,13,14] rfl (fun y:Nat × Option Nat × Nat=> [(5,sl y.2.1 ((List.range y.1).filter (bT G)).length y.2.2),(15,.int .i64 (y.1:Int))]) (fun y=> .own y.2.1 28 2 ((List.range y.1).filter (bT G)).length y.2.2 ((cZ K ((List.range y.1).filter (bT G))).flatMap az):: .own (some g5) 4 1 K.length K.length (aL K.length (bT G)):: .box g4 66 [sl A K.length c,.map (some gm),.slice (some ⟨A2,0,none⟩) K.length K.length]:: .own A 28 2 K.length c (K.flatMap az)::Z) (fun y=>y.1≤K.length) (fun y=>K.length - y.1) (0,none,0) (Iw _) sB mS ?_;rintro ⟨i,A3,c3⟩ hi;dsimp only at hi ⊢;by_cases hlt:i<K.length
 ·refine bH (A:=A) pK (by omega) fun ga hA=> ?_;subst hA;have hb1:=eU (f:=bT G) hlt;have hcc:=Gi hlt;have hts:=dz (n:=i) (bT G);have hrl:=ib (n:=i) (bT G);rw [← lm hlt] at hcc
  cases hcir:bT G i with
  |true=>
    rw [hcir] at hb1;rw [if_pos hcir] at hts;have hns:=jT K ((List.range i).filter (bT G)) i;generalize oR K i=a at hcc hns;repeat' (first|(apply ai (d:=18);exact rfl;apply aa (j:=i);exact rfl;exact rfl;exact hlt)|(apply ai (d:=19);exact rfl;apply ak;exact rfl;exact pK;exact hb1)|(apply ai (d:=25);exact rfl;apply aa (j:=i);exact rfl;exact rfl;exact hlt)|(apply ai (d:=26);exact rfl;apply dh (ys:=az a);exact rfl;exact pK;exact hcc;exact rfl)|(apply aF;(iterate 3 exact rfl);exact pK;exact pK;exact rfl;(simp [az,Value.oneCell']);omega;(simp only [maxLen];omega);intro g8 c8)|refine zZA ?_|refine sM fun _=>?_|(refine sC ?_ ?_<;>intro hb<;>try omega)|fail)
    all_goals first
     |(exfalso;omega)
     | (refine ⟨(i + 1, some g8, c8), hlt, by dsimp only; omega, by dsimp only; rw [hts, List.length_append]; exact sB, by exact sB, ?_⟩
        dsimp only;rw [hts,hns,Iv,Jk,J1];exact mS)
  |false=>
    rw [hcir] at hb1;rw [if_neg (by rw [hcir];simp)] at hts;repeat' (first|(apply ai (d:=18);exact rfl;apply aa (j:=i);exact rfl;exact rfl;exact hlt)|(apply ai (d:=19);exact rfl;apply ak;exact rfl;exact pK;exact hb1)|refine zZA ?_|refine sM fun _=>?_|(refine sC ?_ ?_<;>intro hb<;>try omega)|fail)
    all_goals first
     |(exfalso;omega)
     |(refine ⟨(i+1,A3,c3),hlt,by dsimp only;omega,by dsimp only;rw [hts];exact sB,by exact sB,by dsimp only;rw [hts];exact mS⟩;done)
 ·have e:i=K.length:=by omega
  subst e;have hcf:kB G=cZ K ((List.range K.length).filter (bT G)):=by
   unfold kB ccC;rw [hK,hKl]
  have hcl:=lB K ((List.range K.length).filter (bT G));rw [← hcf] at hcl;rw [hcf];rw [hcf] at hcl;repeat' (first|refine zZA ?_|refine sM fun _=>?_|(refine sC ?_ ?_<;>intro hb<;>try omega)|fail)
  all_goals first
   |(exfalso;omega)
   |(exact eX (H' := .own A3 28 2 (cZ K ((List.range K.length).filter (bT G))).length c3 ((cZ K ((List.range K.length).filter (bT G))).flatMap az)::F) eIO rfl rfl rfl (by rw [hcl];exact MSub.pick pK (MSub.trans hFZ mS)) ⟨A3,c3,by rw [hcl],rfl⟩)
end Go.SL

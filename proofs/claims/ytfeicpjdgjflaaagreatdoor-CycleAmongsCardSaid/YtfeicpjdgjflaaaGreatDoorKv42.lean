/-
  Lemmas and walks, put together: Zv Zz.
-/
import Derived.Test.YtfeicpjdgjflaaaGreatDoorKv40
import Derived.Test.YtfeicpjdgjflaaaGreatDoorKv41
set_option linter.unusedSimpArgs false
set_option linter.unusedVariables false
set_option maxRecDepth 20000
set_option maxHeartbeats 16000000
namespace Go.SL
open Go Go.Proofs
attribute [local irreducible] W WL WQ WG WA WX WLI WR WT WC WE VOp RW thn blk bg scp aS aV bi FnAt FnIn FnP ceP
theorem Mg (A:Option Nat) (n cap:Nat) (xs:List Value) (R:List Blk) (w0:World):
 FnIn Tryz.prog 16 [sl A n cap] w0 (.own A 35 2 n cap xs::R) fun v H=>v= .tuple #[]∧ ∃ ys,H= .own A 35 2 n cap ys::R:=by
 refine bE Tryz.func16 rfl Tryz.ntmps16 rfl ?_;refine vZ (A:=A) .hd fun hxl hle hcm=> ?_;repeat' (first|refine zZB ?_|refine sM fun _=>?_|refine sC ?_ ?_<;>intro hb<;>try omega|fail)
 refine ay [0] rfl (fun y:Nat × List Value=> [(2,.int .i64 (y.1:Int))]) (fun y=> .own A 35 2 n cap y.2::R) (fun y=>y.1≤n∧y.2.length=n*2) (fun y=>n - y.1) (0,xs) ⟨Vt _,hxl⟩ sB mS ?_;rintro ⟨i,ys⟩ ⟨hi,hys⟩;dsimp only at hi hys ⊢;by_cases hlt:i<n
 ·refine ba (A:=A) .hd (by omega) fun g hA=> ?_;subst hA;repeat' (first|apply ai;exact rfl;apply aa (j:=i);exact rfl;exact rfl;exact hlt|apply lL (vs:= [.int .i64 0,.int .i64 0]) (off:=0+i*2);exact rfl;exact rfl;exact pK;exact rfl;exact rfl;intro u hu;simp at hu;subst hu;rfl;rw [hys];omega|refine zZA ?_|refine sM fun _=>?_|refine sC ?_ ?_<;>intro hb<;>try omega|fail)
  all_goals first
   |omega
   |refine ⟨(i+1,_),⟨hlt,?_⟩,by dsimp only;omega,by exact sB,by exact sB,by exact mS⟩;dsimp only;simp only [List.length_append,List.length_take,List.length_drop,List.length_cons,List.length_nil];omega
 ·repeat' first|refine zZA ?_|refine sM fun _=>?_|refine sC ?_ ?_<;>intro hb<;>try omega|fail
  all_goals first
   |omega
   |exact iO eIO rfl mS ⟨rfl,ys,rfl⟩
theorem U4 {P:Program} {t e:Nat} [ht:Und P t (.slice e)] [hz:Size P e 2] {w:World} {A:Option Addr} {cp:Nat} {C:List Rf} (h:Reads w (.slice A C.length cp) C.length (C.flatMap aw)) (hm:C.length≤cp):
 ∃ A2 c2,(∀ {s:aC} {H:List Blk} {ty:TypeId} {x q:Operand},ev s x=some (.slice A C.length cp)→ev s q=some (.int .i64 ((min C.length 20:Nat):Int))→VOp P w s H (.slice t x none (some q) none) ty (.slice A2 (C.take 20).length c2))∧
  ∀ w' H,Mem w w' H→Reads w' (.slice A2 (C.take 20).length c2) (C.take 20).length ((C.take 20).flatMap aw):=by
 have e1:min C.length 20 - 0=(C.take 20).length:=by rw [VQ];omega
 have e2:((C.flatMap aw).drop (0*2)).take ((min C.length 20 - 0)*2)=(C.take 20).flatMap aw:=by
  rw [e1,XV,WH];have h2:((C.take 20).flatMap aw).length=(C.take 20).length*2:=bh bS _;conv=>lhs;arg 2;rw [← Wh 20 C,VF]
  exact YZ h2
 refine ⟨_,_,fun {s H ty x q} hx hq=>e1 ▸ jY (sz:=2) (xl:=none) (xh:=some q) (lo:=0) (hi:=min C.length 20) hx rfl ⟨_,hq⟩ (Vt _) (by omega),fun w' H hm' => ?_⟩;have h1:=(h.of_w0 hm').cut (lo:=0) (hi:=min C.length 20) (sz:=2) (Vt _) (by omega);rw [e2] at h1;rw [e1] at h1;exact h1
theorem zX (L:List Pu) (tv:Value) (C:List Rf) (cv:Value) (mk:Int) (w:World) (ht:Reads w tv L.length (L.flatMap mT)) (hc:Reads w cv C.length (C.flatMap aw)) (hW:Words w):
 aF Tryz.prog 3 [tv,cv,.int .u64 mk] w (.bool true):=by
 obtain ⟨Ac,cp,rfl,hcm,hcx,hc3⟩:=id hc;obtain ⟨A2,c2,hv2,hC⟩:=U4 (P:=Tryz.prog) (t:=23) (e:=35) hc hcm;refine aA Tryz.func3 rfl Tryz.ntmps3 rfl ?_;have hS:=fun (w' :World) (H:List Blk) (hm:Mem w w' H)=>vU L tv w' (ht.of_w0 hm) (hW.next hm);have hGl:=rX L;generalize pX L=G at hS hGl;have hn:=Ga G;repeat' (first|apply aJ (f:=10);exact rfl;exact rfl;intro w' hm;exact hS w' _ hm;rintro _ _ ⟨x,rfl,rfl,hx⟩;refine kU _ (MSub.appS _ _) ?_|apply ai (d:=30);exact rfl;apply xN (a:=C.length) (b:=20);(iterate 3 exact rfl)|apply ai (d:=31);exact rfl;exact hv2 rfl rfl|refine zZB ?_|refine sM fun _=>?_|refine sC ?_ ?_<;>intro hb<;>try omega|fail)
 rename_i g3;have hl' :G.length≤900:=by omega
 have hcy:=x.cyr hx hl' w;have hO2:=fun (H:List Blk) (hs:MSub x.H H)=>x.rorder26 hx hs w hl';generalize iq G=O at hO2 hn;repeat' (first|apply ak (f:=11);exact rfl;exact rfl;exact hO2 _ mS;rintro _ _ ⟨A1,c1,rfl,rfl⟩|refine zZM ?_|refine sM fun _=>?_|refine sC ?_ ?_<;>intro hb<;>try omega|fail)
 refine aI 35 2 ?_
 refine ay [1,2,7,9] rfl (fun y:Nat × List Rf × Option Nat × Nat=> [(11,sl y.2.2.1 y.2.1.length y.2.2.2),(12,.int .i64 ((y.1:Int) - 1))])
  (fun y=> .own y.2.2.1 35 2 y.2.1.length y.2.2.2 (y.2.1.flatMap aw):: .own A1 35 2 O.length c1 (O.flatMap aw):: .box g3 28 [x.pa,x.pb]::x.H)
  (fun y=>y.1≤O.length∧y.2.1.length+y.1≤O.length) (fun y=>y.1) (O.length,[],none,0) ⟨VA _,by simp⟩ sB mS ?_
 rintro ⟨j,S,A,c⟩ ⟨hj,hSl⟩;dsimp only at hj hSl ⊢;by_cases hj0:0<j
 ·obtain ⟨i,rfl⟩: ∃ i,j=i+1:=⟨j - 1,by omega⟩;have e1:(((i+1:Nat):Int) - 1)=(i:Int):=by omega
  rw [e1];refine ba (A:=A1) (.tl .hd) (by omega) fun gk hA=> ?_;subst hA;have hcell:((O.flatMap aw).drop (0+i*2)).take 2=aw O[i]:=by rw [VD];exact cj bS O i (by omega)
  generalize O[i]=a at hcell;repeat' (first|apply ai (d:=47);exact rfl;apply Ka (i:=i);exact rfl;exact rfl|apply ai (d:=48);exact rfl;apply NL (m:=i % 64);exact rfl;exact rfl;exact PY i|apply ai (d:=49);exact rfl;apply Kb;exact rfl;exact rfl;decide|apply ai (d:=50);exact rfl;apply Kc;exact rfl;exact rfl|apply ai (d:=54);exact rfl;apply aa (j:=i);exact rfl;exact rfl;omega|apply ai (d:=55);exact rfl;apply aD (ys:=aw a);exact rfl;exact pK;exact hcell;exact rfl|apply aG;(iterate 3 exact rfl);exact pK;exact pK;exact rfl;simp [aw,Value.oneCell'];omega;simp only [maxLen];omega;intro g8 c8|refine zZM ?_|refine sM fun _=>?_|refine sC ?_ ?_<;>intro hb<;>try omega|fail)
  all_goals first
   |omega
   | (have hb' : ¬ _ = (1 : Int) := hb
      refine ⟨(i,S,A,c),⟨by dsimp only;omega,by dsimp only;omega⟩,by dsimp only;omega,by exact sB,by exact sB,by exact mS⟩;done)
   | (have hb' : _ = (1 : Int) := hb
      have eL:(S++ [a]).length=S.length+1:=by simp
      have eF:(S++ [a]).flatMap aw=S.flatMap aw++aw a:=by rw [VF,WZ]
      refine ⟨(i,S++ [a],some g8,c8),⟨by dsimp only;omega,by dsimp only;omega⟩,by dsimp only;omega,?_,by exact sB,?_⟩
      ·dsimp only;rw [eL];exact sB
      ·dsimp only;rw [eL,eF];exact mS)
 ·have hX0:S.length≤900:=by omega
  have h20:(C.take 20).length≤20:=by rw [VQ];omega
  repeat' first|apply aJ (d:=61);exact rfl;exact rfl;intro w' hm;exact wM S _ w' (Reads.of_own (A:=A) (c:=c) hm pK) (by omega);rintro _ _ ⟨A5,c5,rfl,rfl⟩|apply dA (d:=63) (n' :=S.length) (c:=c5) (A:=A5) (m:=(C.take 20).length);(iterate 3 exact rfl);exact pK;intro w' hm;exact hC w' _ hm;exact bh bS _;exact Ko _;omega;simp only [maxLen];omega;intro A6 c6 hA6|refine zZB ?_|refine sM fun _=>?_|refine sC ?_ ?_<;>intro hb<;>try omega|fail
  rename_i gx;generalize C.take 20=D at*
  refine ay [7,64,65] rfl (fun k:Nat=> [(66,.int .i64 (k:Int))])
   (fun _=> .own (some gx) 23 1 3 3 [.slice A2 D.length c2,sl A S.length c,sl A6 (S.length+D.length) c6]:: .own A6 35 2 (S.length+D.length) c6 (S.flatMap aw++D.flatMap aw):: .own A 35 2 S.length c (S.flatMap aw):: .box g3 28 [x.pa,x.pb]::x.H)
   (fun k=>k≤3) (fun k=>3 - k) 0 (Vt _) sB mS ?_
  rintro k hk;by_cases hlt:k<3
  ·have hX: ∃ (xv:Value) (X:List Rf),[.slice A2 D.length c2,sl A S.length c,sl A6 (S.length+D.length) c6][0+k*1]? =some xv∧X.length≤1000∧ ∀ w' H',MSub (.own A6 35 2 (S.length+D.length) c6 (S.flatMap aw++D.flatMap aw):: .own A 35 2 S.length c (S.flatMap aw)::x.H) H' →Mem w w' H' →Reads w' xv X.length (X.flatMap aw):=by
    rcases (by omega:k=0∨k=1∨k=2) with rfl|rfl|rfl
    ·exact ⟨_,D,rfl,by omega,fun w' H' _ hm=>hC w' H' hm⟩
    ·exact ⟨_,S,rfl,by omega,fun w' H' hs hm=>Reads.of_own (hs.use hm) (.tl .hd)⟩
    ·refine ⟨_,S++D,rfl,by rw [Vn];omega,fun w' H' hs hm=> ?_⟩;rw [Vn,VF];exact Reads.of_own (hs.use hm) .hd
   obtain ⟨xv,X,hxv,hXl,hXr⟩:=hX;have hA1:=fun (H:List Blk) (hs:MSub x.H H) (lv:Value) hrd=>z6 hcy H hs X hXl lv hrd;have hA2:=fun (H:List Blk) (hs:MSub x.H H) hrd=>x.ramong26 hx hs w hl' X hXl xv hrd;generalize lA G X=M at hA1 hA2;generalize iA G X=e at hA1 hA2;repeat' (first|apply ai (d:=68);exact rfl;apply aa (j:=k);exact rfl;exact rfl;exact hlt|apply ai (d:=69);exact rfl;apply aq;exact rfl;exact pK;exact hxv|apply aJ (d:=71);exact rfl;exact rfl;intro w' hm;exact wM X _ w' (hXr w' _ mS hm) (by omega);rintro _ _ ⟨A7,c7,rfl,rfl⟩|apply ak (f:=13);exact rfl;exact rfl;exact hA1 _ mS _ (fun H w' hs hm=>Reads.of_own (A:=A7) (c:=c7) (hs.use hm) pK);rintro _ _ ⟨A8,c8,rfl,rfl⟩|apply ak (f:=14);exact rfl;exact rfl;exact hA2 _ mS (fun H' w' hs hm=>hXr w' H' (MSub.trans mS hs) hm);rintro _ _ ⟨A9,c9,rfl,rfl⟩|apply ai (d:=88);exact rfl;apply jK;exact rfl;exact rfl|apply ag (d:=92);exact rfl;exact rfl;intro w' hm;exact eG rfl (Reads.of_own (A:=A8) (c:=c8) hm pK) (Reads.of_own (A:=A9) (c:=c9) hm pK)|apply ag (d:=98);exact rfl;exact rfl;intro w' hm;exact eG rfl (Reads.of_own (A:=A7) (c:=c7) hm pK) (hXr w' _ mS hm)|apply ak (d:=102);exact rfl;exact rfl;exact FnIn.msub (Mg A8 _ c8 _ _ w) (MSub.pick pK (MSub.refl _));rintro _ _ ⟨rfl,y11,rfl⟩|refine zZA ?_|refine sM fun _=>?_|refine sC ?_ ?_<;>intro hb<;>try omega|fail)
   all_goals first
    |omega
    |refine ⟨k+1,by omega,by omega,by exact sB,by exact sB,by exact mS⟩;done
  ·repeat' first|apply ak (f:=17);exact rfl;exact rfl;exact SE x G hx hl' mS w;rintro _ _ ⟨rfl,rfl⟩|apply ag (f:=18);exact rfl;exact rfl;intro w' hm;exact sY w' (hW.next hm)|refine zZA ?_|refine sM fun _=>?_|refine sC ?_ ?_<;>intro hb<;>try omega|fail
   all_goals first
    |omega
    |(refine rT1 ?_);rfl
end Go.SL

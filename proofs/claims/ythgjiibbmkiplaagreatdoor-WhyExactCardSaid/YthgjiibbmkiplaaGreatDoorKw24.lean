/-
  Lemmas and walks, put together: Ra Rf Rg Nb0 Wp Rh Ri Wo Rj Rk.
-/
import Derived.Test.YthgjiibbmkiplaaGreatDoorKw18
import Derived.Test.YthgjiibbmkiplaaGreatDoorKw19
import Derived.Test.YthgjiibbmkiplaaGreatDoorKw23
set_option linter.unusedSimpArgs false
set_option linter.unusedVariables false
set_option maxRecDepth 20000
set_option maxHeartbeats 16000000
namespace Go.SL
open Go Go.Proofs
attribute [local irreducible] W WL WQ WG WA WX WLI WR WT WC WE VOp RW thn blk bA scp aY aX bw FnAt FnIn FnP ceP
theorem ra (L M:List Rct) (lv mv:Value) (w:World) (hl:Reads w lv L.length (L.flatMap ay)) (hm:Reads w mv M.length (M.flatMap ay)):
 aL Tryz.prog 26 [lv,mv] w (.bool (decide (L=M))):=by
 obtain ⟨Al,cl,rfl,hl1,hl2,hl3⟩:=hl;obtain ⟨Am,cm,rfl,hm1,hm2,hm3⟩:=hm;refine aB Tryz.func26 rfl Tryz.ntmps26 rfl ?_;by_cases hlen:L.length=M.length
 ·repeat' first|refine zZB ?_|refine sM fun _=>?_|refine sC ?_ ?_<;>intro hb<;>try omega|fail
  refine gI (fun i:Nat=> [(0,.slice Al L.length cl),(1,.slice Am M.length cm),(5,.int .i64 (i:Int))]) (fun _=> []) (fun i=>i≤L.length∧decide (L=M)=decide (L.drop i=M.drop i)) (fun i=>L.length - i) 0 ⟨by omega,rfl⟩ ?_ ?_ ?_
  ·exact sB
  ·exact mS
  ·rintro i ⟨hi,hrec⟩;by_cases hlt:i<L.length
   ·have hlt2:i<M.length:=by omega
    obtain ⟨gl,ol,rfl,hrl⟩:=hl3 (by omega);obtain ⟨gm,om,rfl,hrm⟩:=hm3 (by omega);have he1:=hrl.elem tN i hlt;have he2:=hrm.elem tN i hlt2;rw [qx hlt hlt2,← w9] at hrec;repeat' (first|apply aQ;exact rfl;apply ai;exact rfl;exact rfl;(first|exact hlt|exact hlt2)|apply aQ;exact rfl;apply aP;exact rfl;(first|exact he1|exact he2);exact rfl|apply aQ;exact rfl;apply NL;exact rfl;exact rfl|apply ak;exact rfl;apply gZ;exact rfl;exact rfl;simp only [maxLen] at*;omega|refine zZL ?_|refine sM fun _=>?_|refine sC ?_ ?_<;>intro hb<;>try omega|refine sCQ ?_ ?_<;>intro hb<;>try omega|fail)
    ·(refine rT1 ?_);rw [hrec];simp_all
    ·refine ⟨i+1,⟨by omega,?_⟩,by omega,?_,?_⟩
     ·rw [hrec];simp_all
     ·exact sB
     ·exact mS
   ·have e:i=L.length:=by omega
    subst e;repeat' (first|refine zZB ?_|refine sM fun _=>?_|refine sC ?_ ?_<;>intro hb<;>try omega|fail)
    (refine rT1 ?_);rw [hrec,X0,hlen,X0]
    rfl
 ·repeat' first|refine zZB ?_|refine sM fun _=>?_|refine sC ?_ ?_<;>intro hb<;>try omega|fail
  (refine rT1 ?_);rw [decide_eq_false];intro e;exact hlen (congrArg List.length e)
end Go.SL
namespace Go.SL
open Go Go.Proofs
theorem Ec {P:Program} {n:Fr} {w0:World} {Q:bK} {s:az} {H:List Blk} {ops:Array Oper} {rest:List Oper} {A:Option Nat} {t sz m cap:Nat} {xs:List Value} (hi:In (.own A t sz m cap xs) H) (h:m≤cap→WL P n w0 ops rest Q s H):WL P n w0 ops rest Q s H:=fun a w hs hmem=>
 h (hmem.on _ hi.mem).1.2.1 a w hs hmem
attribute [local irreducible] W WL WQ WG WA WX WLI WR WT WC WE VOp RW thn blk bA scp aY aX bw FnAt FnIn FnP ceP
def dnB (cb:Nat) (Ac:Option Nat) (cc:Nat) (K:List Rf) (sb gm tb:Nat) (S:List Rf) (q:Qu):List Blk:=
 [.box cb 36 [sl Ac K.length cc],.own Ac 34 2 K.length cc (K.flatMap aq),.box sb 117 [.map (some gm)],.obj gm (aK aC (dI S) S.length),.box tb 36 [q.v],.own (some q.g) 34 2 q.n q.c q.ys]
theorem DF (cb:Nat) (Ac:Option Nat) (cc sb gm tb:Nat) (G:Gr) (hG:GrOk G) (hGl:G.length≤900) (c x:Rf) (u:Us) (hu:u∈aG G x) (S0:List Rf) (q0:Qu) (todo0:List Rf) (hI:DnI G c S0 (x::todo0)) (hq:q0.ok aq 2 todo0) (hqn:q0.n≤10000) (F:List Blk) (w0:World):
 FnIn Tryz.prog 135 [.agg (ay u.rect).toArray,.pointer (some ⟨cb,0,none⟩),.pointer (some ⟨sb,0,none⟩),.pointer (some ⟨tb,0,none⟩)] w0 (dnB cb Ac cc (ap G) sb gm tb S0 q0++F) fun v H=>v= .tuple #[]∧ ∃ S q todo,H=dnB cb Ac cc (ap G) sb gm tb S q++F∧q.ok aq 2 todo∧DnI G c S (x::todo)∧S.length+todo0.length=S0.length+todo.length∧q.n+S0.length≤q0.n+S.length∧(∀ d∈S0,d∈S)∧ ∀ d∈ap G,aI u.rect d=true→d∈S:=by
 have hKl:(ap G).length=G.length:=by rw [ap,Xq]
 have hKm: ∀ i (h:i<(ap G).length),(ap G)[i]∈ap G:=fun i h=>XO h;have hKa: ∀ d∈ap G,∃ i,∃ h:i<(ap G).length,(ap G)[i]=d:=fun d hd=>YN hd;have hadd:=fun (S todo:List Rf) (d:Rf) (h:DnI G c S (x::todo)) hd hh hn=>DnI.add hG (d:=d) h hu hd hh hn;generalize hK:ap G=K at hKl hKm hKa hadd ⊢;refine bI Tryz.func135 rfl Tryz.ntmps135 rfl ?_;simp only [dnB,XH,Xc,Xd];repeat' (first|refine zZB ?_|refine sM fun _=>?_|refine sC ?_ ?_<;>intro hb<;>try omega|fail)
 rename_i g4;refine ax [2,3,4,7,8] rfl (fun y:Nat × List Rf × Qu × List Rf=> [(9,.int .i64 (y.1:Int))]) (fun y=> .box g4 31 (ay u.rect)::(dnB cb Ac cc K sb gm tb y.2.1 y.2.2.1++F)) (fun y=>y.1≤K.length∧DnI G c y.2.1 (x::y.2.2.2)∧y.2.2.1.ok aq 2 y.2.2.2∧(∀ j (h:j<K.length),j<y.1→aI u.rect K[j]=true→K[j]∈y.2.1)∧y.2.1.length+todo0.length=S0.length+y.2.2.2.length∧y.2.2.1.n+S0.length≤q0.n+y.2.1.length∧ ∀ d∈S0,d∈y.2.1) (fun y=>K.length - y.1) (0,S0,q0,todo0) ⟨Xn _,hI,hq,(fun j _ h=>absurd h (YY _)),rfl,Xy _,fun _ h=>h⟩ sB (by simp only [dnB,XH,Xc,Xd];exact mS) ?_;clear hI hq;rintro ⟨i,S,q,todo⟩ ⟨hi,hI,hq,hin,hsum,hqs,hsub⟩;dsimp only at hi hI hq hin hsum hqs hsub ⊢;have hSl:=hI.len hG.sort;by_cases hlt:i<K.length
 ·refine aU (A:=Ac) (by simp only [dnB,XH,Xc,Xd];exact pK) (by omega) fun gk hA=> ?_;subst hA;have hread:=uz hlt;have hd:=hKm i hlt;have hstep: ∀ (S' :List Rf),(∀ x∈S,x∈S')→(aI u.rect K[i]=true→K[i]∈S')→ ∀ j (h:j<K.length),j<i+1→aI u.rect K[j]=true→K[j]∈S' :=fun S' h1 h2 j h3 h4 h5=>by
   by_cases e:j=i
   ·subst e;exact h2 h5
   ·exact h1 _ (hin j h3 (by omega) h5)
  generalize K[i]=a at hread hd hstep;have hHas:=fun w=>jA u.rect a w;have hlook:=mD S a;simp only [dnB,XH,Xc,Xd]
  cases hh:aI u.rect a with
  |false=>
   rw [hh] at hHas;repeat' (first|apply ak;exact rfl;apply ai (j:=i);exact rfl;exact rfl;exact hlt|apply ak;exact rfl;apply au;exact rfl;exact pK;exact hread;exact rfl|apply aa (f:=28);exact rfl;exact rfl;intro w' _;exact hHas w'|refine zZA ?_|refine sM fun _=>?_|refine sC ?_ ?_<;>intro hb<;>try omega|fail)
   all_goals first
    |omega
    |refine ⟨(i+1,S,q,todo),⟨hlt,hI,hq,hstep S (fun _ h=>h) (fun h=>absurd (h.symm.trans hh) (by decide)),hsum,hqs,hsub⟩,(by dsimp only;omega),sB,sB,(by simp only [dnB,List.append_eq,List.cons_append,List.nil_append];exact mS)⟩
  |true=>
   rw [hh] at hHas;by_cases haS:a∈S
   ·rw [decide_eq_true haS] at hlook;repeat' (first|apply ak;exact rfl;apply ai (j:=i);exact rfl;exact rfl;exact hlt|apply ak;exact rfl;apply au;exact rfl;exact pK;exact hread;exact rfl|apply aa (f:=28);exact rfl;exact rfl;intro w' _;exact hHas w'|apply ak;exact rfl;apply bV (enc:=aC) (k:=a);exact rfl;exact rfl;exact pK;exact hlook|refine zZA ?_|refine sM fun _=>?_|refine sC ?_ ?_<;>intro hb<;>try omega|fail)
    all_goals first
     |omega
     |refine ⟨(i+1,S,q,todo),⟨hlt,hI,hq,hstep S (fun _ h=>h) (fun _=>haS),hsum,hqs,hsub⟩,(by dsimp only;omega),sB,sB,(by simp only [dnB,List.append_eq,List.cons_append,List.nil_append];exact mS)⟩
   ·rw [decide_eq_false haS] at hlook;have hput:=sZ haS;have hI2:=hadd S todo a hI hd hh haS;obtain ⟨qg,qoff,qk,qn,qc,qys⟩:=q;obtain ⟨hq1,hq2,hq3,hq4⟩:=hq;dsimp only at hq1 hq2 hq3 hq4 hqs ⊢;simp only [Qu.v];repeat' (first|apply ak;exact rfl;apply ai (j:=i);exact rfl;exact rfl;exact hlt|apply ak;exact rfl;apply au;exact rfl;exact pK;exact hread;exact rfl|apply aa (f:=28);exact rfl;exact rfl;intro w' _;exact hHas w'|apply ak;exact rfl;apply bV (enc:=aC) (k:=a);exact rfl;exact rfl;exact pK;exact hlook|apply cB (enc:=aC) (k:=a);(iterate 3 exact rfl);exact pK;rw [hput]|apply rr;exact rfl;exact rfl;exact hq1;exact hq2;exact rfl;exact pK;exact pK;exact rfl;simp [Value.oneCell',aq];omega;simp only [maxLen];omega;intro g' off' k' n2 c2 ys hk2 hoff2 hlen2 hn2 hys2|refine zZA ?_|refine sM fun _=>?_|refine sC ?_ ?_<;>intro hb<;>try omega|fail)
    all_goals first
     |omega
     |refine ⟨(i+1,S++ [a],⟨g',off',k',n2,c2,ys⟩,todo++ [a]),⟨hlt,hI2,⟨hk2,hoff2,(by rw [List.length_append];exact hlen2.trans (by rw [hq3];rfl)),(by rw [hys2,hq4,List.flatMap_append];rfl)⟩,hstep (S++ [a]) (fun _ h=>List.mem_append_left _ h) (fun _=>List.mem_append_right _ List.mem_cons_self),(by rw [List.length_append,List.length_append];simp only [List.length_cons,List.length_nil];omega),(by rw [List.length_append];simp only [List.length_cons,List.length_nil];omega),fun y hy=>List.mem_append_left _ (hsub y hy)⟩,(by dsimp only;omega),sB,sB,(by simp only [dnB,Qu.v,List.append_eq,List.cons_append,List.nil_append,List.length_append,List.length_cons,List.length_nil,Nat.zero_add];exact mS)⟩
 ·have hi2:i=K.length:=by omega
  subst hi2;simp only [dnB,XH,Xc,Xd];repeat' (first|refine zZA ?_|refine sM fun _=>?_|refine sC ?_ ?_<;>intro hb<;>try omega|fail)
  all_goals first
   |omega
   |exact fJ eIO rfl mS ⟨rfl,S,q,todo,rfl,hq,hI,hsum,hqs,hsub,fun d hd hh=>by obtain ⟨j,hj,rfl⟩:=hKa d hd;exact hin j hj hj hh⟩
theorem Qg (n:Nat) (h:n≤64) (i:Nat):(UV n).getLsbD i=decide (i<n):=by
 have h1: ∀ n:Fin 65,∀ i:Fin 64,(UV n.val).getLsbD i.val=decide (i.val<n.val):=by decide+kernel
 by_cases hi:i<64
 ·exact h1 ⟨n,by omega⟩ ⟨i,hi⟩
 ·rw [BitVec.getLsbD_of_ge _ _ (by omega),decide_eq_false (by omega)]
theorem Po {u b:Int} (h: ¬ (u<0∨64<u∨u=0)):gD (ku u).1 b=(decide (0≤b) && decide (b<u)):=by
 unfold ku gD;rw [if_neg (by omega)];rw [Qg _ (by omega),XY];simp only [Xo,decide_eq_true_eq];omega
theorem Ff: ∀ (R:List Rn) (lo:Int),(∀ x∈R,x.1≤x.2∧lo<x.1∧x.2≤1024)→R.Pairwise (fun x y=>x.2+1<y.1)→lo≤1024→(R.length:Int)≤1024 - lo
 | [],lo,_,_,h=>by simp;omega
 |x::R,lo,h1,h2,h=>by
  have hx:=h1 x Xb;have h3:=XG.1 h2;have:=Ff R x.2 (fun y hy=>by have:=h1 y (Xp _ hy);have:=h3.1 y hy;omega) h3.2 (by omega);rw [Xs];omega
theorem KI {L:List Rct} (hL: ∀ p∈L,aA p=true) (row:Int):(lC L row).length≤1024∧ ∀ x∈lC L row,1≤x.1∧x.1≤x.2∧x.2≤1024:=by
 have h:=xc (l:=L) (fun p hp=>(aV.1 (hL p hp)).2.1) row;have hin: ∀ c,yJ L row c→1≤c∧c≤1024:=fun c hc=>by
  obtain ⟨p,hp,hr⟩:=hc;have h1:=aV.1 (hL p hp);simp only [aI,Xo,decide_eq_true_eq] at hr;omega
 have hb: ∀ x∈lC L row,1≤x.1∧x.1≤x.2∧x.2≤1024:=fun x hx=>by
  have ho:=h.ord x hx;have h1:=hin x.1 ((h.mem x.1).1 ⟨x,hx,by omega,ho⟩);have h2:=hin x.2 ((h.mem x.2).1 ⟨x,hx,ho,by omega⟩);omega
 refine ⟨?_,hb⟩;have:=Ff (lC L row) 0 (fun x hx=>by have:=hb x hx;omega) h.gap (by omega);omega
theorem Fm {L:List Rct} (hL: ∀ p∈L,aA p=true): ∀ y∈dJ L,1≤y∧y≤1025:=fun y hy=>by
 obtain ⟨p,hp,h⟩:=Bf.1 hy;have h1:=aV.1 (hL p hp);rcases h with rfl|rfl<;>omega
def pI (O:List Rct) (f:Nat) (z:Int) (j:Nat):List Rct:=O.mapIdx fun i r=>if f≤i∧i<j then Ki z r else r
theorem y9 (O:List Rct) (f:Nat) (z:Int) (j:Nat):(pI O f z j).length=O.length:=by unfold pI;rw [List.length_mapIdx]
theorem Jy (O:List Rct) (f:Nat) (z:Int):pI O f z f=O:=by
 apply Yw;intro i;unfold pI;rw [Z2]
 cases O[i]? with
 |none=>rfl
 |some r=>rw [Ys,if_neg (by omega)]
theorem P4 {O:List Rct} {f:Nat} {z:Int} {j:Nat} (hf:f≤j) (hj:j<(pI O f z j).length):(pI O f z j).set j (Ki z (pI O f z j)[j])=pI O f z (j+1):=by
 apply Yw;intro i;rw [List.getElem?_set];by_cases e:j=i
 ·subst e;rw [if_pos rfl,if_pos hj];have hj2:j<O.length:=by rwa [y9] at hj
  simp only [pI,List.getElem_mapIdx,Z2,Xf hj2,Ys];rw [if_neg (by omega),if_pos ⟨hf,by omega⟩]
 ·rw [if_neg e];simp only [pI,Z2]
  cases O[i]? with
  |none=>rfl
  |some r=>
   simp only [Ys];by_cases h:f≤i∧i<j
   ·rw [if_pos h,if_pos ⟨h.1,by omega⟩]
   ·rw [if_neg h,if_neg (by omega)]
theorem P5 {st:Swp} (hf:st.first≤st.out.length) (row:Int):pI st.out st.first (row - 1) st.out.length=fq st row:=by
 apply Yw;intro i;unfold pI fq;rw [Z2];by_cases h:i<st.first
 ·rw [XW (by rw [XA];omega),List.getElem?_take,if_pos h]
  cases st.out[i]? with
  |none=>rfl
  |some r=>rw [Ys,if_neg (by omega)]
 ·rw [Yd (by rw [XA];omega),XA,YO hf,XN,Zo,show st.first+(i - st.first)=i by omega];by_cases hi:i<st.out.length
  ·rw [Xf hi,Ys,Ys,if_pos (by omega)]
  ·rw [Yx (by omega)];rfl
theorem MN {O:List Rct} {f:Nat} {z:Int} {j:Nat} (hf:f≤j) (hj:j<O.length):((pI O f z j).flatMap ay).set (0+j*4+3) (.int .i64 z)=(pI O f z (j+1)).flatMap ay:=by
 have hj2:j<(pI O f z j).length:=by rwa [y9]
 rw [← P4 hf hj2,Xv];exact uR bM _ j 3 hj2 (by decide) _ _ rfl
def l7 (L:List Rct) (k:Nat):Swp:=((dJ L).take k).foldl (l8 L) ⟨[],0,[]⟩
theorem AK {L:List Rct} {k:Nat} (hk:k<(dJ L).length):l7 L (k+1)=l8 L (l7 L k) (dJ L)[k]:=by
 unfold l7;rw [Xk hk,YG];rfl
theorem E3 (L:List Rct):(l7 L (dJ L).length).out=nn L:=by unfold l7;rw [XF];rfl
theorem CP {L:List Rct} (hL: ∀ p∈L,aA p=true): ∀ k,k≤(dJ L).length→(l7 L k).out.length≤1024*k∧(l7 L k).first≤(l7 L k).out.length∧(l7 L k).band.length≤1024
 |0,_=>by simp [l7]
 |k+1,h=>by
  obtain ⟨h1,h2,h3⟩:=CP hL k (by omega);rw [AK h];unfold l8;have hc:=(KI hL (dJ L)[k]).1;split
  ·exact ⟨by omega,h2,h3⟩
  ·simp only [Xa,Xq,nN];exact ⟨by omega,by omega,hc⟩
theorem F6: ∀ (R:List Int) (lo:Int),(∀ x∈R,lo<x∧x≤1025)→R.Pairwise (· < ·)→lo≤1025→(R.length:Int)≤1025 - lo
 | [],lo,_,_,h=>by simp;omega
 |x::R,lo,h1,h2,h=>by
  have hx:=h1 x Xb;have h3:=XG.1 h2;have:=F6 R x (fun y hy=>⟨h3.1 y hy,(h1 y (Xp _ hy)).2⟩) h3.2 hx.2;rw [Xs];omega
theorem AW {L:List Rct} (hL: ∀ p∈L,aA p=true):(dJ L).length≤1025:=by
 have:=F6 (dJ L) 0 (fun x hx=>by have:=Fm hL x hx;omega) (sL L) (by omega);omega
theorem Qa (gg:Nat) (G:Gr) (hG:GrOk G) (hGl:G.length≤900) (c:Rf) (B F:List Blk) (hB:MSub B F) (w0:World)
 (hFm: ∀ H,MSub B H→FnIn Tryz.prog 92 [.pointer (some ⟨gg,0,none⟩)] w0 H fun v H' => ∃ A cap,v=sl A (ap G).length cap∧H' = .own A 34 2 (ap G).length cap ((ap G).flatMap aq)::H)
 (hUs: ∀ d H,MSub B H→FnIn Tryz.prog 78 [.pointer (some ⟨gg,0,none⟩),aC d] w0 H fun v H' => ∃ A cap,v=sl A (aG G d).length cap∧H' = .own A 159 6 (aG G d).length cap ((aG G d).flatMap bP)::H)
 (hUl: ∀ d,(aG G d).length≤1000):
 FnIn Tryz.prog 97 [.pointer (some ⟨gg,0,none⟩),aC c] w0 F fun v H' => ∃ gm S,v= .map (some gm)∧H' = .obj gm (aK aC (dI S) S.length)::F∧DnI G c S []:=by
 refine bI Tryz.func97 rfl Tryz.ntmps97 rfl ?_;repeat' (first|apply aj (f:=92);exact rfl;exact rfl;exact hFm _ (MSub.trans hB mS);rintro _ _ ⟨Ac,cc,rfl,rfl⟩|apply cL (enc:=aC);exact rfl;intro gm|refine zZB ?_|refine sM fun _=>?_|refine sC ?_ ?_<;>intro hb<;>try omega|fail)
 rename_i xb cb sb qg tb;refine ax [0,6,7,8] rfl (fun _:List Rf × Qu × List Rf=> []) (fun y=>dnB cb Ac cc (ap G) sb gm tb y.1 y.2.1++F) (fun y=>DnI G c y.1 y.2.2∧y.2.1.ok aq 2 y.2.2∧y.2.1.n≤1+y.1.length) (fun y=>y.2.2.length+(G.length - y.1.length)) ([],⟨qg,0,0,1,1,aq c⟩,[c]) ⟨DnI.start G c,⟨Xn _,fun _=>by rw [Zt],rfl,rfl⟩,Xy _⟩ sB (by simp only [dnB,Qu.v,XH,Xc,Xd];exact mS) ?_;rintro ⟨S,q,todo⟩ ⟨hI,hq,hqn⟩;dsimp only at hI hq hqn ⊢;have hSl:=hI.len hG.sort;have hql:=hq.len;simp only [dnB,XH,Xc,Xd]
 cases todo with
 |nil=>
  rw [Yu] at hql;repeat' (first|refine zZB ?_|refine sM fun _=>?_|refine sC ?_ ?_<;>intro hb<;>try omega|fail)
  all_goals first
   |omega
   |exact bo eIO rfl rfl (H' := .obj gm (aK aC (dI S) S.length)::F) mS ⟨gm,S,rfl,rfl,hI⟩
 |cons x todo=>
  rw [Xs] at hql;refine K8 (A:=some q.g) pK fun hle=> ?_;have hhd:=hq.head rfl hle;have hp:=hq.pop rfl hle;have hU:=hUs x;have hUx:=hUl x;have hmem: ∀ i (h:i<(aG G x).length),(aG G x)[i]∈aG G x:=fun i h=>XO h;have hall: ∀ u∈aG G x,∃ i,∃ h:i<(aG G x).length,(aG G x)[i]=u:=fun u hu=>YN hu;have hlk:=fun u hu S0 q0 todo0 (h1:DnI G c S0 (x::todo0)) h2 h3 F=>DF cb Ac cc sb gm tb G hG hGl c x u hu S0 q0 todo0 h1 h2 h3 F w0;have hpop:=fun S todo (h:DnI G c S (x::todo))=>h.pop;generalize aG G x=U at hU hUx hmem hall hlk hpop;repeat' (first|apply ak;exact rfl;apply ai (j:=0);exact rfl;exact rfl;omega|apply ak;exact rfl;apply au;exact rfl;exact pK;exact hhd;exact rfl|apply ak;exact rfl;apply NI q;exact rfl;omega;exact hle|apply aj (f:=78);exact rfl;exact rfl;exact hU _ (MSub.trans hB mS);rintro _ _ ⟨Au,cu,rfl,rfl⟩|refine zZB ?_|refine sM fun _=>?_|refine sC ?_ ?_<;>intro hb<;>try omega|fail)
  refine ax [0,6,7,8,28,29] rfl (fun y:Nat × List Rf × Qu × List Rf=> [(30,.int .i64 (y.1:Int))]) (fun y=> .own Au 159 6 U.length cu (U.flatMap bP)::(dnB cb Ac cc (ap G) sb gm tb y.2.1 y.2.2.1++F)) (fun y=>y.1≤U.length∧DnI G c y.2.1 (x::y.2.2.2)∧y.2.2.1.ok aq 2 y.2.2.2∧(∀ j (h:j<U.length),j<y.1→ ∀ d∈ap G,aI U[j].rect d=true→d∈y.2.1)∧y.2.1.length+todo.length=S.length+y.2.2.2.length∧y.2.2.1.n+S.length≤q.n+y.2.1.length) (fun y=>U.length - y.1) (0,S,q.pop 2,todo) ⟨Xn _,hI,hp,(fun j _ h=>absurd h (YY _)),rfl,Xy _⟩ sB (by simp only [dnB,XH,Xc,Xd];exact mS) ?_;rintro ⟨i,S',q',todo'⟩ ⟨hi,hI',hq',hin,hsum,hqs⟩;dsimp only at hi hI' hq' hin hsum hqs ⊢;have hSl' :=hI'.len hG.sort;by_cases hlt:i<U.length
  ·refine aU (A:=Au) .hd (by omega) fun gk hA=> ?_;subst hA;have hread:=OC hlt;have hum:=hmem i hlt;have hstep: ∀ (S2:List Rf),(∀ y∈S',y∈S2)→(∀ d∈ap G,aI U[i].rect d=true→d∈S2)→ ∀ j (h:j<U.length),j<i+1→ ∀ d∈ap G,aI U[j].rect d=true→d∈S2:=fun S2 h1 h2 j h3 h4 d h5 h6=>by
    by_cases e:j=i
    ·subst e;exact h2 d h5 h6
    ·exact h1 _ (hin j h3 (by omega) d h5 h6)
   generalize U[i]=u at hread hum hstep;have hlook:=hlk u hum S' q' todo' hI' hq' (by omega);simp only [dnB,XH,Xc,Xd] at hlook ⊢;repeat' (first|apply ak;exact rfl;apply ai (j:=i);exact rfl;exact rfl;exact hlt|apply ak;exact rfl;apply au;exact rfl;exact pK;exact hread;exact rfl|apply fK;exact rfl;exact rfl;infer_instance;exact rfl;exact FnIn.msub (hlook (.own (some gk) 159 6 U.length cu (U.flatMap bP)::F)) mS;rintro _ _ ⟨rfl,S2,q2,todo2,rfl,hq2,hI2,hsum2,hqs2,hsub2,hall2⟩|refine zZA ?_|refine sM fun _=>?_|refine sC ?_ ?_<;>intro hb<;>try omega|fail)
   all_goals first
    |omega
    |refine ⟨(i+1,S2,q2,todo2),⟨hlt,hI2,hq2,hstep S2 hsub2 hall2,(by dsimp only;omega),(by dsimp only;omega)⟩,(by dsimp only;omega),sB,sB,(by simp only [dnB,List.append_eq,List.cons_append,List.nil_append];exact mS)⟩
  ·have hi2:i=U.length:=by omega
   subst hi2;have hI3:=hpop S' todo' hI' fun u hu d hd hh=>by
    obtain ⟨j,hj,rfl⟩:=hall u hu;exact hin j hj hj d hd hh
   simp only [dnB,XH,Xc,Xd];repeat' (first|refine zZA ?_|refine sM fun _=>?_|refine sC ?_ ?_<;>intro hb<;>try omega|fail)
   all_goals first
    |omega
    |refine ⟨(S',q',todo'),⟨hI3,hq',(by dsimp only;omega)⟩,(by dsimp only;rw [List.length_cons];omega),sB,sB,(by simp only [dnB,List.append_eq,List.cons_append,List.nil_append];exact mS)⟩
noncomputable def Qc (G:Gr) (c:Rf):List Rf:=if bS [c] []=0 then gM G c else []
theorem VI {L:List Rct} {k:Nat} (h:k<L.length):((L.flatMap ay).drop (0+k*4)).take 4=ay L[k]:=by
 rw [Xv];exact aM bM L k h
theorem Tv {L:List Rct} {a k:Nat} (h:a+k<L.length):((L.flatMap ay).drop (a*4+k*4)).take 4=ay L[a+k]:=by
 rw [← Y7];exact aM bM L (a+k) h
theorem JT (L:List Rct) (A:Option Nat) (cap:Nat) (hL:L.length≤1000000) (R:List Blk) (w0:World):
 FnIn Tryz.prog 102 [sl A L.length cap] w0 (.own A 31 4 L.length cap (L.flatMap ay)::R) fun v H=>v=sl A (i9 L).length cap∧H= .own A 31 4 (i9 L).length cap ((i9 L).flatMap ay)::R:=by
 refine bI Tryz.func102 rfl Tryz.ntmps102 rfl ?_;refine K8 (A:=A) .hd fun hle=> ?_;by_cases h2:L.length<2
 ·have hc:=GU (L:=L) (by omega);repeat' (first|refine zZA ?_|refine sM fun _=>?_|refine sC ?_ ?_<;>intro hb<;>try omega|fail)
  all_goals first
   |omega
   |refine bo eIO rfl rfl (.refl _) ?_;rw [hc];exact ⟨rfl,rfl⟩
 ·refine aU (A:=A) .hd (by omega) fun g hA=> ?_;subst hA;repeat' (first|refine zZA ?_|refine sM fun _=>?_|refine sC ?_ ?_<;>intro hb<;>try omega|fail)
  all_goals try omega
  refine ax [0] rfl (fun k:Nat=> [(3,.int .i64 (k:Int))]) (fun _=> .own (some g) 31 4 L.length cap (L.flatMap ay)::R) (fun k=>1≤k∧k≤L.length∧i9 (L.take k)=L.take k) (fun k=>L.length - k) 1 ⟨Xy _,by omega,GU (by rw [XA];omega)⟩ sB mS ?_;rintro k ⟨hk1,hk,hck⟩;by_cases hlt:k<L.length
  ·have hr1:=VI hlt;have hr2:=VI (L:=L) (k:=k - 1) (by omega);have hst:=BJ hlt hk1;have htk:L.take (k+1)=L.take k++ [L[k]]:=by rw [Xk hlt]
   obtain ⟨c,hc⟩: ∃ c,decide (L[k]=L[k - 1])=c:=⟨_,rfl⟩
   cases c with
   |false=>
     have hne: ¬ L[k]=L[k - 1]:=by simpa using hc
     rw [if_neg hne,hck,← htk] at hst;repeat' (first|apply aQ;exact rfl;apply cQ;exact rfl;exact rfl;omega;simp only [maxLen];omega|apply aQ;exact rfl;apply ai (j:=k);exact rfl;exact rfl;omega|apply aQ;exact rfl;apply ai (j:=k - 1);exact rfl;exact rfl;omega|apply aQ;exact rfl;apply au;exact rfl;exact pK;(first|exact hr1|exact hr2);exact rfl|apply aQ;exact rfl;apply pW hc;exact rfl;exact rfl|refine zZF ?_|refine sM fun _=>?_|refine sC ?_ ?_<;>intro hb<;>try omega|refine sCQ ?_ ?_<;>intro hb<;>try omega|fail)
     all_goals first
      |omega
      |refine ⟨k+1,⟨by omega,hlt,hst⟩,by omega,by exact sB,by exact sB,by exact mS⟩;done
   |true=>
     have hne:L[k]=L[k - 1]:=by simpa using hc
     rw [if_pos hne,hck] at hst;repeat' (first|apply aQ;exact rfl;apply cQ;exact rfl;exact rfl;omega;simp only [maxLen];omega|apply aQ;exact rfl;apply ai (j:=k);exact rfl;exact rfl;omega|apply aQ;exact rfl;apply ai (j:=k - 1);exact rfl;exact rfl;omega|apply aQ;exact rfl;apply au;exact rfl;exact pK;(first|exact hr1|exact hr2);exact rfl|apply aQ;exact rfl;apply pW hc;exact rfl;exact rfl|apply ak;exact rfl;apply pU (lo:=k);exact rfl;exact rfl;omega;exact hle|refine zZF ?_|refine sM fun _=>?_|refine sC ?_ ?_<;>intro hb<;>try omega|refine sCQ ?_ ?_<;>intro hb<;>try omega|fail)
     all_goals try omega
     refine ax [0,4] rfl (fun y:Nat × Nat × List Rct=> [(5,.int .i64 (y.1:Int)),(3,.int .i64 (y.2.1:Int))]) (fun y=> .own (some g) 31 4 L.length cap (y.2.2.flatMap ay)::R) (fun y=>1≤y.1∧k+y.1≤L.length∧y.2.1+1≤k+y.1∧y.2.2.length=L.length∧y.2.2.take y.2.1=i9 (L.take (k+y.1))∧ ∀ j,k+y.1≤j+1→y.2.2[j]? =L[j]?) (fun y=>L.length - y.1) (1,k,L) ⟨Xy _,by omega,Xy _,rfl,hst.symm,fun _ _=>rfl⟩ sB mS ?_;rintro ⟨i,k',ys⟩ ⟨hi1,hi2,hi3,hi4,hi5,hi6⟩;dsimp only at hi1 hi2 hi3 hi4 hi5 hi6 ⊢;by_cases hli:k+i<L.length
     ·have hy1:k+i<ys.length:=by omega
      have hr3:=Tv (L:=ys) (a:=k) (k:=i) hy1;have hr4:=Tv (L:=ys) (a:=k) (k:=i - 1) (by omega);have he1:ys[k+i]=L[k+i]:=by
       have:=hi6 (k+i) (by omega);rw [Xf hy1,Xf hli] at this;exact Option.some.inj this
      have he2:ys[k+(i - 1)]=L[k+i - 1]:=by
       have:=hi6 (k+(i - 1)) (by omega);rw [Xf (by omega),Xf (by omega)] at this;rw [Option.some.inj this];congr 1;omega
      rw [he1] at hr3;rw [he2] at hr4;have hst2:=BJ hli (by omega);obtain ⟨c,hc2⟩: ∃ c,decide (L[k+i]=L[k+i - 1])=c:=⟨_,rfl⟩
      cases c with
      |true=>
        rw [if_pos (by simpa using hc2)] at hst2;repeat' (first|apply aQ;exact rfl;apply cQ;exact rfl;exact rfl;omega;simp only [maxLen];omega|apply aQ;exact rfl;apply ai (j:=i);exact rfl;exact rfl;omega|apply aQ;exact rfl;apply ai (j:=i - 1);exact rfl;exact rfl;omega|apply aQ;exact rfl;apply au;exact rfl;exact pK;(first|exact hr3|exact hr4);exact rfl|apply aQ;exact rfl;apply pV hc2;exact rfl;exact rfl|refine zZF ?_|refine sM fun _=>?_|refine sC ?_ ?_<;>intro hb<;>try omega|refine sCQ ?_ ?_<;>intro hb<;>try omega|fail)
        all_goals first
         |omega
         |refine ⟨(i+1,k',ys),⟨by dsimp only;omega,by dsimp only;omega,by dsimp only;omega,hi4,by dsimp only;rw [hi5,← Nat.add_assoc,hst2],fun j hj=>hi6 j (by omega)⟩,by dsimp only;omega,by exact sB,by exact sB,by exact mS⟩;done
      |false=>
        rw [if_neg (by simpa using hc2)] at hst2;have hput:=Gi bM ys k' (by omega) L[k+i];repeat' (first|apply aQ;exact rfl;apply cQ;exact rfl;exact rfl;omega;simp only [maxLen];omega|apply aQ;exact rfl;apply ai (j:=i);exact rfl;exact rfl;omega|apply aQ;exact rfl;apply ai (j:=i - 1);exact rfl;exact rfl;omega|apply aQ;exact rfl;apply au;exact rfl;exact pK;(first|exact hr3|exact hr4);exact rfl|apply aQ;exact rfl;apply pV hc2;exact rfl;exact rfl|apply ak (d:=49);exact rfl;apply ai (j:=i);exact rfl;exact rfl;omega|apply ak (d:=51);exact rfl;apply ai (j:=k');exact rfl;exact rfl;omega|apply ak;exact rfl;apply au;exact rfl;exact pK;exact hr3;exact rfl|apply xo (vs:=ay L[k+i]) (off:=0+k' *4);exact rfl;exact rfl;exact pK;exact rfl;exact rfl;(intro u hu;simp [ay] at hu;rcases hu with rfl|rfl|rfl|rfl<;>rfl);rw [aR bM,hi4];omega;rw [Xv,hput]|refine zZF ?_|refine sM fun _=>?_|refine sC ?_ ?_<;>intro hb<;>try omega|refine sCQ ?_ ?_<;>intro hb<;>try omega|fail)
        all_goals first
         |omega
         | (refine ⟨(i + 1, k' + 1, ys.set k' L[k + i]), ⟨by dsimp only; omega, by dsimp only; omega, by dsimp only; omega, by dsimp only; rw [List.length_set, hi4], ?_, fun j hj => ?_⟩, by dsimp only; omega, by exact sB, by exact sB, by exact mS⟩
            ·dsimp only;rw [Xk (by rw [Z6];omega),List.take_set_of_le (Xy _),hi5,List.getElem_set_self,← Y8,hst2]
            ·dsimp only at hj ⊢;rw [List.getElem?_set_ne (by omega)];exact hi6 j (by omega))
     ·have hli2:k+i=L.length:=by omega
      rw [hli2,XF] at hi5;have hcl:(i9 L).length=k' :=by rw [← hi5,XA,hi4];omega
      have hk'L:k' <L.length:=by omega
      repeat' first|apply ak;exact rfl;apply pU (lo:=k');exact rfl;exact rfl;omega;exact hle|apply Ee (sz:=4) (k:=k') (n' :=L.length);exact rfl;omega;exact pK;intro u hu;simp [Value.cells] at hu;subst hu;rfl;exact rfl|apply ak;exact rfl;apply z8 (hi:=k');exact rfl;exact rfl;omega|refine zZA ?_|refine sM fun _=>?_|refine sC ?_ ?_<;>intro hb<;>try omega|fail
      all_goals first
       |omega
       | (refine bo eIO rfl rfl (H' := .own (some g) 31 4 k' cap ((ys.flatMap ay).take (k' * 4)) :: R) mS ?_
          rw [jv bM,hi5,hcl];exact ⟨rfl,rfl⟩)
  ·have hkl:k=L.length:=by omega
   rw [hkl,XF] at hck;repeat' (first|refine zZA ?_|refine sM fun _=>?_|refine sC ?_ ?_<;>intro hb<;>try omega|fail)
   all_goals first
    |omega
    |refine bo eIO rfl rfl (.refl _) ?_;rw [hck];exact ⟨rfl,rfl⟩
theorem Ur (Q:List Rn) (q:Rn):((Q++ [q]).flatMap cO)[0+Q.length*2+1]? =some (.int .i64 q.2):=by
 have h:=jw kE (Q++ [q]) Q.length 1 (by simp) (by decide);rw [Xv,h,List.getElem_append_right (Xy _)];simp [cO]
theorem Uq (Q:List Rn) (q:Rn) (t:Int):((Q++ [q]).flatMap cO).set (0+Q.length*2+1) (.int .i64 t)=(Q++ [(q.1,t)]).flatMap cO:=by
 rw [Xz,Xz,Xv];have hl:(Q.flatMap cO).length=Q.length*2:=aR kE Q;rw [ZG _ _ (by omega),show Q.length*2+1 - (Q.flatMap cO).length=1 by omega]
 rfl
theorem Jv {L:List Rct} {row:Int} {i:Nat} (h:i<L.length):iM (L.take (i+1)) row=iM (L.take i) row++if L[i].r1≤row∧row≤L[i].r2 then [(L[i].c1,L[i].c2)] else []:=by
 unfold iM;rw [Xk h,YX,XI,YA];congr 1;by_cases hc:L[i].r1≤row∧row≤L[i].r2
 ·rw [if_pos hc,if_pos (by simp [hc])];rfl
 ·rw [if_neg hc,if_neg (by simpa using hc)];rfl
theorem MG {L:List Rct} (hL: ∀ p∈L,aA p=true) {row:Int} {x:Rn} (h:x∈iM L row):1≤x.1∧x.1≤x.2∧x.2≤1024:=by
 obtain ⟨p,hp,rfl⟩:=Xu.1 h;have:=aV.1 (hL p (XM.1 hp).1);simp only;omega
theorem Oo {xs:List Rn} (h: ∀ x∈xs,1≤x.1∧x.1≤1024∧1≤x.2∧x.2≤1024): ∀ x∈gS xs,1≤x.1∧x.1≤1024∧1≤x.2∧x.2≤1024:=by
 induction xs using dh with
 |h0=>intro x hx;cases hx
 |h1 xs y ih=>
  have ih:=ih fun x hx=>h x (Xw _ hx);have hy:=h y (XB _ Xb);intro x hx;rw [nB] at hx;unfold IW at hx
  cases hq:(gS xs).getLast? with
  |none=>
   rw [hq] at hx;rw [Xl.1 hx];exact hy
  |some q=>
   rw [hq] at hx;have hqm:=ih q (List.mem_of_getLast? hq);have hs:=kW hq;dsimp only at hx;split at hx
   ·rcases Xr.1 hx with hx|hx
    ·exact ih x (by rw [← hs];exact Xw _ hx)
    ·rw [Xl.1 hx];simp only;omega
   ·rcases Xr.1 hx with hx|hx
    ·exact ih x hx
    ·rw [Xl.1 hx];exact hy
theorem Ju (L:List Rct) (hL: ∀ p∈L,aA p=true) (hlen:L.length≤4000000000000) (row:Int) (A:Option Nat) (c:Nat) (w0:World) (F:List Blk):FnIn Tryz.prog 56 [sl A L.length c,.int .i64 row] w0 (.own A 31 4 L.length c (L.flatMap ay)::F) fun v H' => ∃ A2 c2,v=sl A2 (lC L row).length c2∧H' = .own A2 127 2 (lC L row).length c2 ((lC L row).flatMap cO):: .own A 31 4 L.length c (L.flatMap ay)::F:=by
 refine bI Tryz.func56 rfl Tryz.ntmps56 rfl ?_;have hcl:(iM L row).length≤L.length:=by
  unfold iM;rw [Xq];exact XS _ _
 have hcm:=fun x (hx:x∈iM L row)=>MG hL hx;have hci:=fun M h1 h2=>Sz (l:=L) (row:=row) (xs:=M) (fun p hp=>(aV.1 (hL p hp)).2.1) h1 h2;refine aF 127 2 ?_;repeat' (first|refine zZB ?_|refine sM fun _=>?_|refine sC ?_ ?_<;>intro hb<;>try omega|fail)
 all_goals try omega
 refine ax [1,12,13] rfl (fun y:Nat × (Option Nat × Nat)=> [(5,sl y.2.1 (iM (L.take y.1) row).length y.2.2),(14,.int .i64 (y.1:Int))]) (fun y=> .own y.2.1 127 2 (iM (L.take y.1) row).length y.2.2 ((iM (L.take y.1) row).flatMap cO):: .own A 31 4 L.length c (L.flatMap ay)::F) (fun y=>y.1≤L.length) (fun y=>L.length - y.1) (0,(none,0)) (Xn _) sB mS ?_;rintro ⟨i,A7,c7⟩ hi;dsimp only at hi ⊢;have hcl2:(iM (L.take i) row).length≤L.length:=by
  unfold iM;rw [Xq];exact XU (XS _ _) (by rw [XA];omega)
 by_cases hlt:i<L.length
 ·refine aU (A:=A) pK (by omega) fun go hA=> ?_;subst hA;have hread:((L.flatMap ay).drop (0+i*4)).take 4=ay L[i]:=by rw [Xv];exact aM bM L i hlt
  have hsn:=Jv (row:=row) hlt;generalize L[i]=r at hread hsn;generalize iM (L.take i) row=V at hcl2 hsn ⊢;by_cases hin:r.r1≤row∧row≤r.r2
  ·rw [if_pos hin] at hsn;repeat' (first|apply ak (d:=16);exact rfl;apply ai (j:=i);exact rfl;exact rfl;exact hlt|apply ak (d:=17);exact rfl;apply au (ys:=ay r);exact rfl;exact pK;exact hread;exact rfl|apply aN (d:=35) (A:=A7) (m:=1);(iterate 3 exact rfl);exact pK;intro w hm;exact hm.cells_own pK;exact rfl;simp [Value.oneCell',sl];omega;simp only [maxLen];omega;intro B7 b7 hB7|refine zZA ?_|refine sM fun _=>?_|refine sC ?_ ?_<;>intro hb<;>try omega|fail)
   all_goals first
    |omega
    |(refine ⟨(i+1,(B7,b7)),hlt,by dsimp only;omega,?_,by exact sB,?_⟩<;>(dsimp only;rw [hsn];simp only [List.length_append,List.length_singleton,List.flatMap_append,List.flatMap_cons,List.flatMap_nil,List.append_nil])<;>first|exact sB;done|exact mS;done)
  ·rw [if_neg hin,Xm] at hsn;repeat' (first|apply ak (d:=16);exact rfl;apply ai (j:=i);exact rfl;exact rfl;exact hlt|apply ak (d:=17);exact rfl;apply au (ys:=ay r);exact rfl;exact pK;exact hread;exact rfl|refine zZA ?_|refine sM fun _=>?_|refine sC ?_ ?_<;>intro hb<;>try omega|fail)
   all_goals first
    |omega
    |(refine ⟨(i+1,(A7,c7)),hlt,by dsimp only;omega,?_,by exact sB,?_⟩<;>(dsimp only;rw [hsn])<;>first|exact sB;done|exact mS;done)
 have hi2:i=L.length:=by omega
 subst hi2;rw [XF] at hcl2 ⊢;have hsrt:=fun R=>Lz (iM L row) (fun x hx=>by have:=hcm x hx;omega) A7 c7 (by omega) R w0;refine aF 127 2 ?_;repeat' (first|apply aj (f:=106);exact rfl;exact rfl;exact FnIn.msub (hsrt _) (MSub.pick pK (MSub.refl _));rintro _ _ ⟨rfl,M,hMp,hMs,rfl⟩|refine zZA ?_|refine sM fun _=>?_|refine sC ?_ ?_<;>intro hb<;>try omega|fail)
 all_goals try omega
 have hMl:M.length=(iM L row).length:=hMp.length_eq;rw [← hMl] at hcl2 ⊢;have hMb: ∀ x∈M,1≤x.1∧x.1≤1024∧1≤x.2∧x.2≤1024:=fun x hx=>by have:=hcm x (hMp.mem_iff.1 hx);omega
 have hMr:=hci M hMp hMs;refine ax [39,40] rfl (fun y:Nat × (Option Nat × Nat)=> [(8,sl y.2.1 (gS (M.take y.1)).length y.2.2),(41,.int .i64 (y.1:Int))]) (fun y=> .own y.2.1 127 2 (gS (M.take y.1)).length y.2.2 ((gS (M.take y.1)).flatMap cO):: .own A7 127 2 M.length c7 (M.flatMap cO):: .own A 31 4 L.length c (L.flatMap ay)::F) (fun y=>y.1≤M.length) (fun y=>M.length - y.1) (0,(none,0)) (Xn _) sB mS ?_;rintro ⟨i,A8,c8⟩ hi;dsimp only at hi ⊢;have hql:(gS (M.take i)).length≤M.length:=XU (LK _) (by rw [XA];omega);have hqb:=Oo (xs:=M.take i) fun x hx=>hMb x (Zd hx);by_cases hlt:i<M.length
 ·refine aU (A:=A7) pK (by omega) fun go hA=> ?_;subst hA;have hread:((M.flatMap cO).drop (0+i*2)).take 2=cO M[i]:=by rw [Xv];exact aM kE M i hlt
  have hsn:gS (M.take (i+1))=IW (gS (M.take i)) M[i]:=by rw [Xk hlt,nB]
  have hxb:=hMb _ (XO hlt);generalize M[i]=x at hread hsn hxb;generalize gS (M.take i)=Q at hql hqb hsn ⊢;unfold IW at hsn
  cases hq:Q.getLast? with
  |none=>
   have hQ:=Zw.1 hq;subst hQ;rw [hq] at hsn;dsimp only at hsn;repeat' (first|apply ak (d:=43);exact rfl;apply ai (j:=i);exact rfl;exact rfl;exact hlt|apply ak (d:=44);exact rfl;apply au (ys:=cO x);exact rfl;exact pK;exact hread;exact rfl|apply aN (d:=78) (A:=A8) (m:=1);(iterate 3 exact rfl);exact pK;intro w hm;exact hm.cells_own pK;exact rfl;simp [Value.oneCell',sl];omega;simp only [maxLen];omega;intro B7 b7 hB7|refine zZF ?_|refine sM fun _=>?_|refine sC ?_ ?_<;>intro hb<;>try omega|refine sCQ ?_ ?_<;>intro hb<;>try omega|fail)
   all_goals first
    |omega
    |(refine ⟨(i+1,(B7,b7)),hlt,by dsimp only;omega,?_,by exact sB,?_⟩<;>(dsimp only;rw [hsn];simp only [List.length_nil,List.length_singleton,List.flatMap_cons,List.flatMap_nil,List.append_nil,List.nil_append,Nat.zero_add])<;>first|exact sB;done|exact mS;done)
  |some q=>
   have hs:=kW hq;rw [hq] at hsn;dsimp only at hsn;generalize Q.dropLast=T at hs hsn;subst hs;have hqq:=hqb q (XB _ Xb);have hget:=Ur T q;have hset:=Uq T q (max q.2 x.2);simp only [Xa,Xe] at hql ⊢;refine aU (A:=A8) pK (by omega) fun g8 hA=> ?_;subst hA;by_cases hle:x.1≤q.2+1
   ·rw [if_pos hle] at hsn;repeat' (first|apply ak (d:=43);exact rfl;apply ai (j:=i);exact rfl;exact rfl;exact hlt|apply ak (d:=44);exact rfl;apply au (ys:=cO x);exact rfl;exact pK;exact hread;exact rfl|apply kM (id:=14);exact rfl;decide+kernel|apply aQ (d:=54);exact rfl;apply cQ (a:=T.length+1);exact rfl;exact rfl;omega;simp only [maxLen];omega|apply aQ (d:=55);exact rfl;apply ai (j:=T.length);exact rfl;exact rfl;omega|apply aQ (d:=57);exact rfl;apply bB;exact rfl;exact pK;exact hget|refine sT ?_|refine sS ?_|refine sQ ?_|refine sN ?_|refine sNQ ?_|refine sJ ?_|refine sJQ ?_|refine sM fun _=>?_|refine sC ?_ ?_<;>intro hb<;>try omega|refine sCQ ?_ ?_<;>intro hb<;>try omega|fail)
    all_goals try omega
    rename_i g10 _;refine fw (id:=15) [8,14] [.box g10 127 (cO x)] 15 rfl rfl mS ?_;repeat' (first|apply ba (i:=0);(iterate 4 exact rfl);(iterate 3 decide+kernel);exact vC|apply ba (i:=1);(iterate 4 exact rfl);(iterate 3 decide+kernel);exact vC|apply ba (i:=2);(iterate 4 exact rfl);(iterate 3 decide+kernel);apply cQ (a:=T.length+1);exact rfl;exact rfl;omega;simp only [maxLen];omega|apply ba (i:=3);(iterate 4 exact rfl);(iterate 3 decide+kernel);exact vC|apply ba (i:=4);(iterate 4 exact rfl);(iterate 3 decide+kernel);exact vC|apply ba (i:=5);(iterate 4 exact rfl);(iterate 3 decide+kernel);apply cQ (a:=T.length+1);exact rfl;exact rfl;omega;simp only [maxLen];omega|apply ba (i:=6);(iterate 4 exact rfl);(iterate 3 decide+kernel);apply ai (j:=T.length);exact rfl;exact rfl;omega|apply ba (i:=7);(iterate 4 exact rfl);(iterate 3 decide+kernel);exact vC|apply ba (i:=9);(iterate 4 exact rfl);(iterate 3 decide+kernel);exact vC|apply ba (i:=10);(iterate 4 exact rfl);(iterate 3 decide+kernel);exact vC|apply ba (i:=11);(iterate 4 exact rfl);(iterate 3 decide+kernel);exact vC|apply ba (i:=12);(iterate 4 exact rfl);(iterate 3 decide+kernel);apply ai (j:=T.length);exact rfl;exact rfl;omega|apply ba (i:=13);(iterate 4 exact rfl);(iterate 3 decide+kernel);exact vC|apply bk (i:=8);(iterate 3 exact rfl);decide+kernel|apply bk (i:=14);(iterate 3 exact rfl);decide+kernel|apply fu;decide+kernel|apply rW;(focus (exact mS;done))|apply ak (d:=69);exact rfl;apply bB;exact rfl;exact pK;exact hget|apply eF;exact rfl;exact rfl;exact pK;exact rfl;exact (XJ.1 hget).1|refine zZA ?_|refine sM fun _=>?_|refine sC ?_ ?_<;>intro hb<;>try omega|fail)
    all_goals try omega
    rw [IY,hset];refine ⟨(i+1,(some g8,c8)),hlt,by dsimp only;omega,?_,by exact sB,?_⟩<;>(dsimp only;rw [hsn,List.length_append,List.length_singleton])
    ·exact sB
    ·exact mS
   ·rw [if_neg hle] at hsn;repeat' (first|apply ak (d:=43);exact rfl;apply ai (j:=i);exact rfl;exact rfl;exact hlt|apply ak (d:=44);exact rfl;apply au (ys:=cO x);exact rfl;exact pK;exact hread;exact rfl|apply aQ (d:=54);exact rfl;apply cQ (a:=T.length+1);exact rfl;exact rfl;omega;simp only [maxLen];omega|apply aQ (d:=55);exact rfl;apply ai (j:=T.length);exact rfl;exact rfl;omega|apply aQ (d:=57);exact rfl;apply bB;exact rfl;exact pK;exact hget|apply aN (d:=78) (A:=some g8) (m:=1);(iterate 3 exact rfl);exact pK;intro w hm;exact hm.cells_own pK;exact rfl;simp [Value.oneCell',sl];omega;simp only [maxLen];omega;intro B7 b7 hB7|refine sT ?_|refine sS ?_|refine sQ ?_|refine sN ?_|refine sNQ ?_|refine sJ ?_|refine sJQ ?_|refine sD ?_|refine sM fun _=>?_|refine sC ?_ ?_<;>intro hb<;>try omega|refine sCQ ?_ ?_<;>intro hb<;>try omega|fail)
    all_goals first
     |omega
     |(refine ⟨(i+1,(B7,b7)),hlt,by dsimp only;omega,?_,by exact sB,?_⟩<;>(dsimp only;rw [hsn];simp only [List.length_append,List.length_singleton,List.flatMap_append,List.flatMap_cons,List.flatMap_nil,List.append_nil])<;>first|exact sB;done|exact mS;done)
 ·have e:i=M.length:=by omega
  subst e;rw [XF,hMr];repeat' (first|refine zZB ?_|refine sM fun _=>?_|refine sC ?_ ?_<;>intro hb<;>try omega|fail)
  all_goals first
   |omega
   |refine bo eIO rfl rfl (H' := .own A8 127 2 (lC L row).length c8 ((lC L row).flatMap cO):: .own A 31 4 L.length c (L.flatMap ay)::F) mS ⟨A8,c8,rfl,rfl⟩;done
theorem Fz {S:List Rf} {a:Rf} (h:a∈S):gK a (.bool true) S.length (dI S)=(dI S,S.length):=by
 have hl:=mD S a;rw [decide_eq_true h] at hl;unfold gK
 cases hf:bH a (dI S) 0 with
 |none=>rw [hf] at hl;cases hl
 |some x=>
  obtain ⟨i,v⟩:=x;rw [hf] at hl;simp only at hl;obtain ⟨b,_,hb⟩:=kD hf;rw [YC] at hb;simp only [Prod.mk.injEq,and_true];apply Yw;intro j;rw [ZK];by_cases e:i=j
  ·subst e;rw [hb,hl];simp
  ·simp [e]
def zR (S:List Rf) (c:Rf):List Rf:=if c∈S then S else S++ [c]
theorem Qi (S:List Rf) (c:Rf):gK c (.bool true) S.length (dI S)=(dI (zR S c),(zR S c).length):=by
 unfold zR;split
 ·rename_i h;exact Fz h
 ·rename_i h;rw [sZ h,Xa,Xe]
theorem JE {S:List Rf} (h:S.Nodup) (c:Rf):(zR S c).Nodup:=by
 unfold zR;split
 ·exact h
 ·rename_i hn;exact YK.2 ⟨h,by simp,fun a ha b hb e=>hn (by rw [← Xl.1 hb,← e];exact ha)⟩
theorem O1 {S:List Rf} {c x:Rf}:x∈zR S c↔x=c∨x∈S:=by
 unfold zR;split
 ·rename_i h;exact ⟨.inr,fun h2=>h2.elim (fun e=>e ▸ h) id⟩
 ·rw [Xr,Xl,or_comm]
theorem Qj (S:List Rf) (c:Rf):(zR S c).length≤S.length+1:=by
 unfold zR;split
 ·omega
 ·rw [Xa,Xe];omega
def iy (G:Gr) (vis:List (Rf × Value × Nat)):List Rct:=vis.flatMap fun e=>(aG G e.1).map fun u=>u.rect
theorem Fw (G:Gr) (vis:List (Rf × Value × Nat)) (e:Rf × Value × Nat):iy G (vis++ [e])=iy G vis++(aG G e.1).map fun u=>u.rect:=by simp [iy]
theorem yc {G:Gr} (h: ∀ d,(aG G d).length≤1000): ∀ vis:List (Rf × Value × Nat),(iy G vis).length≤vis.length*1000
 | []=>Xn _
 |e::vis=>by
  have h1:=yc h vis;have h2:=h e.1;simp only [iy,Xx,Xa,Xq,Xs] at h1 ⊢;omega
noncomputable def ck (G:Gr) (c:Rf):List Rct:=if bS [c] []=0 then dl G c else []
theorem BW (gg:Nat) (G:Gr) (hG:GrOk G) (hGl:G.length≤900) (c:Rf) (B F:List Blk) (hB:MSub B F) (w0:World)
 (hFm: ∀ H,MSub B H→FnIn Tryz.prog 92 [.pointer (some ⟨gg,0,none⟩)] w0 H fun v H' => ∃ A cap,v=sl A (ap G).length cap∧H' = .own A 34 2 (ap G).length cap ((ap G).flatMap aq)::H)
 (hUs: ∀ d H,MSub B H→FnIn Tryz.prog 78 [.pointer (some ⟨gg,0,none⟩),aC d] w0 H fun v H' => ∃ A cap,v=sl A (aG G d).length cap∧H' = .own A 159 6 (aG G d).length cap ((aG G d).flatMap bP)::H)
 (hUl: ∀ d,(aG G d).length≤1000):
 FnIn Tryz.prog 52 [.pointer (some ⟨gg,0,none⟩),aC c] w0 F fun v H' => ∃ A cap,v= .tuple #[sl A (ck G c).length cap,.int .i64 (bS [c] [])]∧H' = .own A 31 4 (ck G c).length cap ((ck G c).flatMap ay)::F:=by
 refine bI Tryz.func52 rfl Tryz.ntmps52 rfl ?_;refine aF 31 4 ?_;have hck:=fun w (v:Value) (hr:Reads w v 1 (aq c))=>uX gg [c] [] v (.slice none 0 0) w (by simpa using hr) (bG w) (by simp) (by simp);have hbl:=fun F hB=>Qa gg G hG hGl c B F hB w0 hFm hUs hUl;unfold ck;by_cases hc0:bS [c] []=0
 ·rw [if_pos hc0];rw [hc0] at hck ⊢;repeat' (first|apply aa (f:=60);exact rfl;exact rfl;intro w' hm;exact hck w' _ (Reads.of_own (A:=some _) hm pK)|apply aj (f:=97);exact rfl;exact rfl;exact hbl _ (MSub.trans hB mS);rintro _ _ ⟨gm,S,rfl,rfl,hI⟩|apply cB (enc:=aC) (k:=c);(iterate 3 exact rfl);exact pK;rw [Qi]|apply dN (enc:=aC);exact rfl;exact rfl;exact pK;intro gi|refine zZB ?_|refine sM fun _=>?_|refine sC ?_ ?_<;>intro hb<;>try omega|fail)
  have hTn:=JE hI.nodup c;have hTm:=fun x=>O1 (S:=S) (c:=c) (x:=x);have hTl:=Qj S c;have hSl:=hI.len hG.sort;have hdone:=hI.done hG;generalize zR S c=T at hTn hTm hTl ⊢;have hok:=IB hTn;have hks:=l9 T;have hkl:=Fa T;generalize dI T=es at hok hks hkl ⊢;refine ax [0,25] rfl (fun y:List (Rf × Value × Nat) × Option Nat × Nat=> [(8,sl y.2.1 (iy G y.1).length y.2.2)]) (fun y=> .obj gi (je gm T.length (y.1.map fun e=>e.2.2)):: .own y.2.1 31 4 (iy G y.1).length y.2.2 ((iy G y.1).flatMap ay):: .obj gm (aK aC es T.length)::F) (fun y=>Vis es y.1) (fun y=>es.length - y.1.length) ([],none,0) (Vis.nil es) sB mS ?_;rintro ⟨vis,A,cap⟩ hv;dsimp only at hv ⊢;have hvl:=hv.len;have hrl:=yc hUl vis;have hS:=fun R' =>CQ (iy G vis) A cap (by omega) R' w0;have hsl:(sortRc (iy G vis)).length=(iy G vis).length:=(jJ _).length_eq;have hCp:=fun A cap R' =>JT (sortRc (iy G vis)) A cap (by omega) R' w0;rw [hsl] at hCp;repeat' (first|apply eC (enc:=aC);exact rfl;exact rfl;exact pK;exact pK;exact hok;intro e he hne|intro hall|apply ak;exact rfl;apply lH (enc:=aC);exact rfl;exact pK;exact pK;exact he;exact hok|apply aj (f:=78);exact rfl;exact rfl;exact hUs _ _ (MSub.trans hB mS);rintro _ _ ⟨Au,cu,rfl,rfl⟩|apply aj (f:=98);exact rfl;exact rfl;exact FnIn.msub (hS _) (MSub.pick pK (MSub.refl _));rintro _ _ ⟨rfl,rfl⟩|apply aj (f:=102);exact rfl;exact rfl;exact FnIn.msub (hCp _ _ _) (MSub.pick pK (MSub.refl _));rintro _ _ ⟨rfl,rfl⟩|refine zZB ?_|refine sM fun _=>?_|refine sC ?_ ?_<;>intro hb<;>try omega|fail)
  ·have hUx:=hUl e.1;have hsn:=Fw G vis e;generalize aG G e.1=U at hUx hsn;generalize iy G vis=M at hrl hsn;refine ax [0,25,32,33] rfl (fun y:Nat × Option Nat × Nat=> [(8,sl y.2.1 (M++(U.take y.1).map fun u=>u.rect).length y.2.2),(34,.int .i64 (y.1:Int))]) (fun y=> .obj gi (je gm T.length (vis.map (fun e=>e.2.2)++ [e.2.2])):: .own Au 159 6 U.length cu (U.flatMap bP):: .own y.2.1 31 4 (M++(U.take y.1).map fun u=>u.rect).length y.2.2 ((M++(U.take y.1).map fun u=>u.rect).flatMap ay):: .obj gm (aK aC es T.length)::F) (fun y=>y.1≤U.length) (fun y=>U.length - y.1) (0,A,cap) (Xn _) (by simp only [YF,XR,Xm];exact sB) (by simp only [YF,XR,Xm];exact mS) ?_;rintro ⟨i,A1,c1⟩ hi;dsimp only at hi ⊢;by_cases hlt:i<U.length
   ·refine aU (A:=Au) pK (by omega) fun gk hA=> ?_;subst hA;have hread:=OC hlt;have htk:(M++(U.take (i+1)).map fun u=>u.rect)=(M++(U.take i).map fun u=>u.rect)++ [U[i].rect]:=by rw [Xk hlt,XI,← XE];rfl
    have hml:(M++(U.take i).map fun u=>u.rect).length≤1000000:=by
     rw [Xa,Xq,XA];omega
    generalize U[i]=u at hread htk;generalize (M++(U.take i).map fun u=>u.rect)=M1 at htk hml;repeat' (first|apply ak;exact rfl;apply ai (j:=i);exact rfl;exact rfl;exact hlt|apply ak;exact rfl;apply au;exact rfl;exact pK;exact hread;exact rfl|apply aN;(iterate 3 exact rfl);(repeat first|exact .hd|apply Sel.tl|apply In.tl);intro w hm;exact hm.cells_own (by (repeat first|exact .hd|apply Sel.tl|apply In.tl));exact rfl;simp [Value.oneCell',sl];omega;simp only [maxLen];omega;intro A2 cap2 hA2|refine zZA ?_|refine sM fun _=>?_|refine sC ?_ ?_<;>intro hb<;>try omega|fail)
    all_goals first
     |omega
     | (refine ⟨(i + 1, A2, cap2), hlt, by dsimp only; omega, ?_, ?_, ?_⟩
        ·dsimp only;rw [htk,List.length_append];exact sB
        ·exact sB
        ·dsimp only;rw [htk,List.length_append,List.flatMap_append,List.flatMap_cons,List.flatMap_nil,List.append_nil];exact mS)
   ·have hi2:i=U.length:=by omega
    subst hi2;rw [XF,← hsn];repeat' (first|refine zZA ?_|refine sM fun _=>?_|refine sC ?_ ?_<;>intro hb<;>try omega|fail)
    all_goals first
     |omega
     | (refine ⟨(vis ++ [e], A1, c1), hv.step he hne, ?_, sB, sB, ?_⟩
        ·have:=hv.lt he hne;simp only [Xa,Xe];omega
        ·simp only [XI,XD,XR];exact mS)
  ·have hperm:=hv.perm hok hall;have hmem: ∀ r,r∈iy G vis↔ ∃ x,(x=c∨x∈gM G c)∧ ∃ u∈aG G x,u.rect=r:=fun r=>by
    unfold iy;simp only [XL,Xu];constructor
    ·rintro ⟨e,he,u,hu,rfl⟩;have h1:e.1∈T:=by
      rw [← hks];exact Xu.2 ⟨e,hv.sub e he,rfl⟩
     exact ⟨e.1,((hTm e.1).1 h1).imp id (hdone _).1,u,hu,rfl⟩
    ·rintro ⟨x,hx,u,hu,rfl⟩;have h1:x∈T:=(hTm x).2 (hx.imp id (hdone _).2);rw [← hks] at h1;obtain ⟨e,he,rfl⟩:=Xu.1 h1;exact ⟨e,hperm.mem_iff.2 he,u,hu,rfl⟩
   rw [Mc hmem]
   all_goals first
    |exact di eIO rfl rfl rfl (H' := .own A 31 4 (dl G c).length cap ((dl G c).flatMap ay)::F) mS ⟨A,cap,rfl,rfl⟩
 ·rw [if_neg hc0];repeat' (first|apply aa (f:=60);exact rfl;exact rfl;intro w' hm;exact hck w' _ (Reads.of_own (A:=some _) hm pK)|refine zZB ?_|refine sM fun _=>?_|refine sC ?_ ?_<;>intro hb<;>try omega|fail)
  all_goals first
   |omega
   |exact di eIO rfl rfl rfl (H' := .own none 31 4 0 0 []::F) mS ⟨none,0,rfl,rfl⟩
def tG (q:Rct→Bool) (L:List Rct):Int:=match L.findIdx? q with|some i=>(i:Int)|none=> -1
theorem vJ {G:Gr} {c:Rf} (hG:SortG G) (h: ∀ d,(aG G d).length≤1000):(dl G c).length≤(G.length+1)*1000:=by
 have h1: ∀ l:List Rf,(l.flatMap fun x=>(aG G x).map fun u=>u.rect).length≤l.length*1000:=fun l=>by
  induction l with
  |nil=>exact Xn _
  |cons a l ih=>
   have:=h a;simp only [Xx,Xa,Xq,Xs];omega
 have h2:=h1 (c::gM G c);have h3:=GV (sortRc ((c::gM G c).flatMap fun x=>(aG G x).map fun u=>u.rect));rw [(jJ _).length_eq] at h3;have h4:(gM G c).length≤G.length:=by
  have:=XS (fun d=> @decide (Rc G c (cE d.col d.row)) (Classical.propDecidable _)) (ap G);rw [show (ap G).length=G.length by rw [ap,Xq]] at this;exact this
 rw [Xs] at h2;unfold dl;have:((gM G c).length+1)*1000≤(G.length+1)*1000:=Zc _ (by omega);omega
end Go.SL

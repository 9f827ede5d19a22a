/-
  Lemmas and walks, put together: Zl Zn Zo Zp.
-/
import Derived.Test.YtpoafcnhplbkmaaGreatDoorKs27
import Derived.Test.YtpoafcnhplbkmaaGreatDoorKs28
set_option linter.unusedSimpArgs false
set_option linter.unusedVariables false
set_option maxRecDepth 20000
set_option maxHeartbeats 16000000
namespace Go.SL
open Go Go.Proofs Go.RowKit
attribute [local irreducible] W WL WQ WG WA WX WLI WR WT WC WE VOp RW thn blk bH scp aV bz bP FnAt FnIn FnP ceP
structure Cyr (gg:Nat) (G:Gr) (B:List Blk) (w0:World):Prop where
 g:GrOk G
 l:G.length≤900
 fm: ∀ H,MSub B H→FnIn Tryz.prog 29 [.pointer (some ⟨gg,0,none⟩)] w0 H fun v H' => ∃ A cap,v=sl A (aA G).length cap∧H' = .own A 28 2 (aA G).length cap ((aA G).flatMap aB)::H
 ed: ∀ H,MSub B H→FnIn Tryz.prog 55 [.pointer (some ⟨gg,0,none⟩)] w0 H fun v H' => ∃ A cap,v=sl A (bW G).length cap∧H' = .own A 114 4 (bW G).length cap ((bW G).flatMap cj)::H
theorem GOk.cyr {R:List Blk} {E:List En} {clock:Nat} {G:Gr} (h:GOk R E clock G) (hG:GrOk G) (hl:G.length≤900) (gg gm:Nat) (w0:World):Cyr gg G (gB gg gm (E.map En.m) clock++R) w0:=
 ⟨hG,hl,fun _ hs=>h.formulas_any gg gm hs w0 hl,fun _ hs=>h.edges_any gg gm hs w0 hl⟩
theorem Gp.cyr (x:Gp) {G:Gr} (h:x.ok G) (hl:G.length≤900) (w0:World):Cyr x.gg G x.H w0:=
 ⟨h.g,hl,fun _ hs=>x.formulas G h hs w0 hl,fun _ hs=>x.edges G h hs w0 hl⟩
def nxE (K:List Rf) (E:List (Rf × Rf)) (n:Nat):Nx:=(List.range n).map (fY K E)
theorem Ah (K:List Rf) (E:List (Rf × Rf)) (n:Nat):(nxE K E n).length=n:=by simp [nxE]
theorem Pq {K:List Rf} {E:List (Rf × Rf)} {n k:Nat} (h:k<n):au (nxE K E n) k=fY K E k:=by
 unfold au nxE;rw [Rj,RT h];rfl
theorem Nv (K:List Rf) (n:Nat):nxE K [] n=qZ n:=by
 unfold nxE qZ;apply Sz;intro k;by_cases h:k<n
 ·rw [Rj,RT h,TE,if_pos h];rfl
 ·rw [Ry (by simp;omega),Ry (by simp;omega)]
theorem Ld (K:List Rf) (E:List (Rf × Rf)) (n:Nat) (x:Rf × Rf):nxE K (E++ [x]) n=(nxE K E n).set (iA K x.1) (fY K E (iA K x.1)++ [iA K x.2]):=by
 apply Sz;intro j;by_cases hj:j<n
 ·unfold nxE;rw [Rj,RT hj,Uc];simp only [Sq];rw [FN];by_cases e:iA K x.1=j
  ·subst e;rw [if_pos rfl,if_pos rfl,if_pos (by simpa using hj)]
  ·rw [if_neg e,if_neg e,Rj,RT hj]
   rfl
 ·rw [Ry (by rw [Ah];omega),Ry (by rw [Su,Ah];omega)]
theorem Jf (K:List Rf) (E:List (Rf × Rf)) (i:Nat):(fY K E i).length≤E.length:=by
 unfold fY;rw [RA];exact SR _ _
theorem JH {G:Gr} {x:Rf × Rf} (h:x∈bW G):x.1∈aA G∧x.2∈aA G:=by
 unfold bW at h;obtain ⟨e,he,h2⟩:=TX.1 h;obtain ⟨f,hf,rfl⟩:=RG.1 h2;exact ⟨RG.2 ⟨e,he,rfl⟩,RG.2 ⟨f,(ST.1 hf).1,rfl⟩⟩
theorem FM {G:Gr} (i:Nat):(au (aM G) i).length≤G.length:=by
 unfold au aM;rw [Rj];by_cases h:i<G.length
 ·rw [RT h];have:=SR (fun k=>kF G i k) (List.range G.length);rwa [Sg] at this
 ·rw [Ry (by simpa using h)];exact QZ _
def cyV (n:Nat) (A:Option Nat) (c gm:Nat) (A2:Nat):Value:= .agg #[sl A n c,.map (some gm),.slice (some ⟨A2,0,none⟩) n n]
def cyB (G:Gr) (A:Option Nat) (c gm A2:Nat) (vs:List Value) (Z:List Blk):List Blk:=
 .own A 28 2 (aA G).length c ((aA G).flatMap aB):: .obj gm (dw dm (ia (aA G)) (aA G).length):: .own (some A2) 68 1 (aA G).length (aA G).length vs::Z
theorem uR {gg:Nat} {G:Gr} {B:List Blk} {w0:World} (hc:Cyr gg G B w0) (F:List Blk) (hB:MSub B F):
 FnIn Tryz.prog 33 [.pointer (some ⟨gg,0,none⟩)] w0 F fun v H=> ∃ A c gm A2 vs Z,v=cyV (aA G).length A c gm A2∧H=cyB G A c gm A2 vs Z∧MSub F Z∧JIn Z vs (aM G):=by
 refine bF Tryz.func33 rfl Tryz.ntmps33 rfl ?_;have hKn:=hc.g.sort.nodup;have hKl:(aA G).length≤900:=by rw [dE];exact hc.l
 have hEl:=xy G;have hEl2:G.length*G.length≤900*900:=Nat.mul_le_mul hc.l hc.l;have hnE:=Jg hc.g;rw [← dE] at hnE;have hek:=fun x (h:x∈bW G)=>JH h;have hnum:=fun (w' :World) (A c:Nat→Nat)=>True;generalize hK:aA G=K at*;generalize hE:bW G=E at*;have hfm:=hc.fm;have hed:=hc.ed;rw [hK] at hfm;rw [hE] at hed;repeat' (first|(apply ak (f:=29);exact rfl;exact rfl;exact hfm _ (MSub.trans hB mS);rintro _ _ ⟨A8,c8,rfl,rfl⟩)|(apply aK (f:=77);exact rfl;exact rfl;(intro w' hm;exact De K hKn (by omega) _ w' (Reads.of_own (A:=A8) (c:=c8) hm pK));rintro _ _ ⟨gm,rfl,rfl⟩)|(apply dH (c:=K.length);(iterate 3 exact rfl);omega;(simp only [maxLen];omega);intro gx;(try simp only [mC]))|(apply ak (f:=55);exact rfl;exact rfl;exact hed _ (MSub.trans hB mS);rintro _ _ ⟨A20,c20,rfl,rfl⟩)|refine zZF ?_|refine sM fun _=>?_|(refine sC ?_ ?_<;>intro hb<;>try omega)|fail)
 all_goals try (exfalso;omega)
 rename_i g2 g3;have hpA: ∀ (J L F:List Blk),MSub (L++(J++F)) (J++(L++F)):=fun J L F=>MSub.of_perm (SN J L F);refine kq 3 K.length ?_;rw [← DA,← Nv K]
 refine aw [0, 2, 3, 20, 21] rfl (fun z : Nat × JA × List Blk => [(22, .int .i64 (z.1 : Int))]) (fun z => .own A20 114 4 E.length c20 (E.flatMap cj) :: .box g3 66 [sl A8 K.length c8, .map (some gm), .slice (some ⟨gx, 0, none⟩) K.length K.length] :: .own (some gx) 68 1 K.length K.length (cK (nxE K (E.take z.1) K.length) z.2.1) :: .obj gm (dw dm (ia K) K.length) :: .own A8 28 2 K.length c8 (K.flatMap aB) :: .box g2 66 [.slice none 0 0, .map none, .slice none 0 0] :: z.2.2) (fun z => z.1 ≤ E.length ∧ z.2.1.length = K.length ∧ (jn (nxE K (E.take z.1) K.length) z.2.1 ++ F).Perm z.2.2) (fun z => E.length - z.1) (0, fA K.length, jn (nxE K [] K.length) (fA K.length) ++ F) ⟨QZ _, S9, .refl _⟩ sB (by
  dsimp only;rw [SK];exact hpA _ [_,_,_,_,_,_] F) ?_
 clear hpA;rintro ⟨j,As,Z⟩ ⟨hj,hAl,hZ⟩;dsimp only at hj hAl hZ ⊢;by_cases hlt:j<E.length
 ·have hread:((E.flatMap cj).drop (0+j*4)).take 4=cj E[j]:=by rw [Rv];exact fD o6 E j hlt
  have hmem:=hek E[j] (RL hlt);have hsnoc:=Ld K (E.take j) K.length E[j];rw [← Ra hlt] at hsnoc;generalize E[j]=e at hread hmem hsnoc;obtain ⟨e1,e2⟩:=e;dsimp only at hmem hsnoc;obtain ⟨hk1,hg1⟩:=ri hKn hmem.1;obtain ⟨hk2,hg2⟩:=ri hKn hmem.2;have hl1:=fun z=>wO hKn hk1 z;have hl2:=fun z=>wO hKn hk2 z;rw [hg1] at hl1;rw [hg2] at hl2;have hnl:=Jf K (E.take j) (iA K e1);have htl:(E.take j).length=j:=by rw [RI];omega
  have hX:=Ah K (E.take j) K.length;have hcell:=iS (X:=nxE K (E.take j) K.length) (As:=As) (i:=iA K e1) (by omega) (by omega);obtain ⟨Rs,hR1,hR2⟩:=mE (X:=nxE K (E.take j) K.length) (As:=As) (i:=iA K e1) (by omega) (by omega);have hvset:=fun a=>mD (X:=nxE K (E.take j) K.length) (As:=As) (i:=iA K e1) (fY K (E.take j) (iA K e1)++ [iA K e2]) a (by omega);have hvl:=kS (X:=nxE K (E.take j) K.length) (As:=As) (by omega);rw [Pq hk1] at hcell hR1;rcases hak:As[iA K e1] with ⟨a1,a2⟩;rw [hak] at hcell hR1;dsimp only at hcell hR1;clear hg1 hg2 hak;generalize iA K e1=k at*;generalize iA K e2=k2 at*;have hcell:(cK (nxE K (E.take j) K.length) As)[0+k*1]? =some (sl a1 (fY K (E.take j) k).length a2):=by rw [Rv,RV];exact hcell
  have hZ2:=hZ.symm.trans (hR1.append_right F);refine bg (A:=A20) .hd (by omega) fun ge hA=> ?_;subst hA;refine jJ (.own a1 3 1 (fY K (E.take j) k).length a2 (nzC (fY K (E.take j) k)):: .own (some ge) 114 4 E.length c20 (E.flatMap cj):: .box g3 66 [sl A8 K.length c8,.map (some gm),.slice (some ⟨gx,0,none⟩) K.length K.length]:: .own (some gx) 68 1 K.length K.length (cK (nxE K (E.take j) K.length) As):: .obj gm (dw dm (ia K) K.length):: .own A8 28 2 K.length c8 (K.flatMap aB):: .box g2 66 [.slice none 0 0,.map none,.slice none 0 0]::(Rs++F)) (MSub.trans (by exact mS:MSub _ (.own (some ge) 114 4 E.length c20 (E.flatMap cj):: .box g3 66 [sl A8 K.length c8,.map (some gm),.slice (some ⟨gx,0,none⟩) K.length K.length]:: .own (some gx) 68 1 K.length K.length (cK (nxE K (E.take j) K.length) As):: .obj gm (dw dm (ia K) K.length):: .own A8 28 2 K.length c8 (K.flatMap aB):: .box g2 66 [.slice none 0 0,.map none,.slice none 0 0]:: .own a1 3 1 (fY K (E.take j) k).length a2 (nzC (fY K (E.take j) k))::(Rs++F))) (MSub.of_perm ((((((hZ2.cons _).cons _).cons _).cons _).cons _).cons _))) ?_;have hone:nzC (fY K (E.take j) k)++ [.int .i64 (k2:Int)]=nzC (fY K (E.take j) k++ [k2]):=by simp [nzC]
  have hol:(fY K (E.take j) k++ [k2]).length=(fY K (E.take j) k).length+1:=by simp
  generalize fY K (E.take j) k=L at*;repeat' (first|(apply ai (d:=24);exact rfl;apply ag (j:=j);exact rfl;exact rfl;exact hlt)|(apply ai (d:=25);exact rfl;apply aO (ys:=cj (e1,e2));exact rfl;exact pK;exact hread;exact rfl)|(apply ai (d:=30);exact rfl;apply nQ (enc:=dm) (k:=e1);exact rfl;exact rfl;exact pK;exact hl1 _)|refine zZC ?_|refine sM fun _=>?_|(refine sC ?_ ?_<;>intro hb<;>try omega)|fail)
  all_goals try (exfalso;omega)
  rename_i g5;refine mT (id:=8) [7,13,14,16] [.box g5 114 (cj (e1,e2)),.box g3 66 [sl A8 K.length c8,.map (some gm),.slice (some ⟨gx,0,none⟩) K.length K.length],.obj gm (dw dm (ia K) K.length)] 17 rfl rfl mS ?_;repeat' (first|(apply bU (i:=6);(iterate 4 exact rfl);(iterate 3 decide+kernel);(apply ag (j:=k);exact rfl;exact rfl;exact hk1))|(apply bU (i:=15);(iterate 4 exact rfl);(iterate 3 decide+kernel);(apply ag (j:=k);exact rfl;exact rfl;exact hk1))|(apply bU (i:=12);(iterate 4 exact rfl);(iterate 3 decide+kernel);(apply nQ (enc:=dm) (k:=e2);exact rfl;exact rfl;exact pK;exact hl2 _))|(apply bU (i:=10);(iterate 4 exact rfl);(iterate 3 decide+kernel);(apply yx;(iterate 3 exact rfl)))|(apply bU (i:=0);(iterate 4 exact rfl);(iterate 3 decide+kernel);(exact vC))|(apply bU (i:=1);(iterate 4 exact rfl);(iterate 3 decide+kernel);(exact vC))|(apply bU (i:=2);(iterate 4 exact rfl);(iterate 3 decide+kernel);(exact vC))|(apply bU (i:=3);(iterate 4 exact rfl);(iterate 3 decide+kernel);(exact vC))|(apply bU (i:=4);(iterate 4 exact rfl);(iterate 3 decide+kernel);(exact vC))|(apply bU (i:=5);(iterate 4 exact rfl);(iterate 3 decide+kernel);(exact vC))|(apply bU (i:=8);(iterate 4 exact rfl);(iterate 3 decide+kernel);(exact vC))|(apply bU (i:=9);(iterate 4 exact rfl);(iterate 3 decide+kernel);(exact vC))|(apply bU (i:=11);(iterate 4 exact rfl);(iterate 3 decide+kernel);(exact vC))|(apply ve (i:=7) (j:=13);(iterate 6 exact rfl);decide+kernel)|(apply dI (i:=7);(iterate 3 exact rfl);decide+kernel)|(apply dI (i:=13);(iterate 3 exact rfl);decide+kernel)|(apply dI (i:=14);(iterate 3 exact rfl);decide+kernel)|(apply dI (i:=16);(iterate 3 exact rfl);decide+kernel)|(apply mR;decide+kernel)|(apply Ee;(focus (exact mS;done)))|(apply ai (d:=38);exact rfl;apply aq;exact rfl;exact pK;exact hcell)|(apply aD;(iterate 3 exact rfl);exact pK;exact pK;exact rfl;(simp [Value.oneCell']);omega;(simp only [maxLen];omega);intro g8 c8)|(apply aU (g:=gx);exact rfl;exact rfl;exact pK;exact rfl;(rw [hvl];omega);rw [Rv,RV])|refine zZF ?_|refine sM fun _=>?_|(refine sC ?_ ?_<;>intro hb<;>try omega)|fail)
  repeat' (first|refine zZC ?_|refine sM fun _=>?_|(refine sC ?_ ?_<;>intro hb<;>try omega)|fail)
  all_goals first
   |(exfalso;omega)
   | (have hv1 := hvset (some g8, c8)
      have hr1:=(hR2 (L++ [k2]) (some g8,c8)).append_right F;rw [← hsnoc] at hv1 hr1;refine ⟨(j+1,As.set k (some g8,c8),.own (some g8) 3 1 (L++ [k2]).length c8 (nzC (L++ [k2]))::(Rs++F)),⟨hlt,by dsimp only;rw [List.length_set];exact hAl,hr1⟩,by dsimp only;omega,by exact sB,by exact sB,?_⟩;dsimp only;rw [hv1,hol,← hone];exact mS)
 ·have hj2:j=E.length:=by omega
  subst hj2;rw [RS,show nxE K E K.length=aM G from hnE] at hZ ⊢;have hgl:(aM G).length=K.length:=by rw [cH,← dE,hK]
  have hJ:JIn Z (cK (aM G) As) (aM G):=(AB (X:=aM G) (As:=As) (by rw [hgl];exact hAl)).mono (MSub.trans (MSub.appL _ _) (MSub.of_perm hZ.symm));have hFZ:MSub F Z:=MSub.trans (MSub.appR _ _) (MSub.of_perm hZ.symm);repeat' (first|refine zZC ?_|refine sM fun _=>?_|(refine sC ?_ ?_<;>intro hb<;>try omega)|fail)
  all_goals first
   |(exfalso;omega)
   |exact Fb eIO rfl rfl pK rfl (H' :=cyB G A8 c8 gm gx (cK (aM G) As) Z) (by unfold cyB;rw [hK];exact mS) ⟨A8,c8,gm,gx,_,Z,rfl,rfl,hFZ,hJ⟩
theorem PH {X:Nx} {As:JA} {Z:List Blk} (h:As.length=X.length) (hZ:(jn X As).Perm Z): ∃ ja:Nat→Option Nat × Nat,(∀ x,x<X.length→(cK X As)[0+x*1]? =some (sl (ja x).1 (au X x).length (ja x).2))∧ ∀ x,x<X.length→Blk.own (ja x).1 3 1 (au X x).length (ja x).2 (nzC (au X x))∈Z:=by
 have hjx: ∀ x (hx:x<X.length),(As[x]?).getD (none,0)=As[x]'(by omega):=fun x hx=>by
  rw [QU (by omega)];rfl
 refine ⟨fun x=>(As[x]?).getD (none,0),fun x hx=> ?_,fun x hx=> ?_⟩
 ·have h1:=iS (X:=X) (As:=As) (i:=x) h hx;rw [Rv,RV,h1];dsimp only;rw [hjx x hx]
 ·have h1:=qY (X:=X) (As:=As) (i:=x) h hx;rw [← hjx x hx] at h1;exact hZ.mem_iff.1 h1
theorem Ea (X:Nx) (hX: ∀ i,∀ k∈au X i,k<X.length) (hlen:X.length≤1000) (hrl: ∀ i,(au X i).length≤1000) (Ac:Option Addr) (cc:Nat) (mv xv:Value) (w:World) (hv:JRd w xv X):
 FnAt Tryz.prog 36 [.agg #[.slice Ac X.length cc,mv,xv]] w fun v H=> ∃ g,v= .slice (some ⟨g,0,none⟩) X.length X.length∧H= [fO X.length g (rE X)]:=by
 have hLo:=fun (w' :World) (H:List Blk) (hm:Mem w w' H)=>xH X hX hlen hrl xv w' (hv.of_w0 hm);obtain ⟨vs0,hvl,⟨Av,cv,rfl,hm1,hm2,hm3⟩,hrow⟩:=hv;refine ay Tryz.func36 rfl Tryz.ntmps36 rfl ?_;repeat' (first|(apply dH (c:=X.length);(iterate 3 exact rfl);omega;(simp only [maxLen];omega);intro gx;(try simp only [kZ]);(try simp only [mC]))|refine zZB ?_|refine sM fun _=>?_|(refine sC ?_ ?_<;>intro hb<;>try omega)|fail)
 all_goals try (exfalso;omega)
 rename_i g1 go;refine kq 3 X.length ?_;rw [← DA,← qo];have hpA: ∀ (J L:List Blk),MSub (L++J) (J++L):=fun J L=>MSub.of_perm RO;refine aw [1,3,4,25,26] rfl (fun z:Nat × JA × List Blk=> [(27,.int .i64 (z.1:Int))]) (fun z=> .own (some go) 4 1 X.length X.length (aF X.length fun _=>false):: .own (some gx) 68 1 X.length X.length (cK (bV X z.1 0) z.2.1):: .box g1 66 [.slice Ac X.length cc,mv,.slice Av X.length cv]::z.2.2) (fun z=>z.1≤X.length∧z.2.1.length=X.length∧(jn (bV X z.1 0) z.2.1).Perm z.2.2) (fun z=>X.length - z.1) (0,fA X.length,jn (bV X 0 0) (fA X.length)) ⟨QZ _,S9,.refl _⟩ sB (MSub.trans (hpA _ [_,_,_]) (MSub.of_perm (List.Perm.append_left _ (by first|exact List.Perm.refl _|exact List.Perm.swap _ _ _)))) ?_;clear hpA;rintro ⟨i,As,Z⟩ ⟨hi,hAl,hZ⟩;dsimp only at hi hAl hZ ⊢;by_cases hlt:i<X.length
 ·obtain ⟨u,hu,⟨Ai,ci,rfl,hi1,hi2,hi3⟩⟩:=hrow i hlt;obtain ⟨gv,ov,rfl,hrv⟩:=hm3 (by omega);have hc:=hrv.cellV i hu;repeat' (first|(apply ai (d:=30);exact rfl;apply ag (j:=i);exact rfl;exact rfl;exact hlt)|(apply ai (d:=31);exact rfl;apply bp;exact rfl;exact hc)|refine zZA ?_|refine sM fun _=>?_|(refine sC ?_ ?_<;>intro hb<;>try omega)|fail)
  all_goals try (exfalso;omega)
  refine aw [1,3,4,5,6,25,26,27,32,33] rfl (fun z:Nat × JA × List Blk=> [(34,.int .i64 (z.1:Int))]) (fun z=> .own (some go) 4 1 X.length X.length (aF X.length fun _=>false):: .own (some gx) 68 1 X.length X.length (cK (bV X i z.1) z.2.1):: .box g1 66 [.slice Ac X.length cc,mv,.slice (some ⟨gv,ov,none⟩) X.length cv]::z.2.2) (fun z=>z.1≤(au X i).length∧z.2.1.length=X.length∧(jn (bV X i z.1) z.2.1).Perm z.2.2) (fun z=>(au X i).length - z.1) (0,As,Z) ⟨QZ _,hAl,hZ⟩ sB mS ?_;clear hZ hAl;rintro ⟨j,As,Z⟩ ⟨hj,hAl,hZ⟩;dsimp only at hj hAl hZ ⊢;by_cases hlj:j<(au X i).length
  ·obtain ⟨gi,oi,rfl,hri⟩:=hi3 (by omega);have he:=hri.natN j hlj;have hk:=hX i _ (db hlj);have hstep:=fun k (hk:atN (au X i) j=k)=>wZ hlj hk;generalize hke:atN (au X i) j=k at he hk;have hstep:=hstep k hke;have hfl:=oY hrl i j k;have hfl2:(i+1)*1000≤1000*1000:=Tn _ (by omega);have hGl:=oZ X i j;have hkA:k<As.length:=by omega
   have hcell:=iS (X:=bV X i j) (As:=As) (i:=k) (by omega) (by omega);obtain ⟨Rs,hR1,hR2⟩:=mE (X:=bV X i j) (As:=As) (i:=k) (by omega) (by omega);have hvset:=fun a=>mD (X:=bV X i j) (As:=As) (i:=k) (dx X i j k++ [i]) a (by omega);rw [rl hk] at hcell hR1;rcases hak:As[k] with ⟨a1,a2⟩;rw [hak] at hcell hR1;dsimp only at hcell hR1;have hcell:(cK (bV X i j) As)[0+k*1]? =some (sl a1 (dx X i j k).length a2):=by rw [Rv,RV];exact hcell
   have hvl:=kS (X:=bV X i j) (As:=As) (by omega);have hZ2:=hZ.symm.trans hR1;refine jJ (.own a1 3 1 (dx X i j k).length a2 (nzC (dx X i j k)):: .own (some go) 4 1 X.length X.length (aF X.length fun _=>false):: .own (some gx) 68 1 X.length X.length (cK (bV X i j) As):: .box g1 66 [.slice Ac X.length cc,mv,.slice (some ⟨gv,ov,none⟩) X.length cv]::Rs) (MSub.trans (by exact mS:MSub _ (.own (some go) 4 1 X.length X.length (aF X.length fun _=>false):: .own (some gx) 68 1 X.length X.length (cK (bV X i j) As):: .box g1 66 [.slice Ac X.length cc,mv,.slice (some ⟨gv,ov,none⟩) X.length cv]:: .own a1 3 1 (dx X i j k).length a2 (nzC (dx X i j k))::Rs)) (MSub.of_perm (((hZ2.cons _).cons _).cons _))) ?_;have hone:nzC (dx X i j k)++ [.int .i64 (i:Int)]=nzC (dx X i j k++ [i]):=by simp [nzC]
   have hol:(dx X i j k++ [i]).length=(dx X i j k).length+1:=by simp
   generalize dx X i j k=F at*;repeat' (first|(apply ai (d:=36);exact rfl;apply ag (j:=j);exact rfl;exact rfl;exact hlj)|(apply ai (d:=37);exact rfl;apply bp;exact rfl;exact he)|(apply ai (d:=42);exact rfl;apply ag (j:=k);exact rfl;exact rfl;exact hk)|(apply ai (d:=43);exact rfl;apply aq;exact rfl;exact pK;exact hcell)|(apply aD;(iterate 3 exact rfl);exact pK;exact pK;exact rfl;(simp [Value.oneCell']);omega;(simp only [maxLen];omega);intro g8 c8)|(apply ai (d:=47);exact rfl;apply ag (j:=k);exact rfl;exact rfl;exact hk)|(apply aU (g:=gx);exact rfl;exact rfl;exact pK;exact rfl;(rw [hvl];omega);rw [Rv,RV])|refine zZA ?_|refine sM fun _=>?_|(refine sC ?_ ?_<;>intro hb<;>try omega)|fail)
   all_goals first
    |(exfalso;omega)
    | (have hv1 := hvset (some g8, c8)
       have hr1:=hR2 (F++ [i]) (some g8,c8);rw [← hstep] at hv1 hr1;refine ⟨(j+1,As.set k (some g8,c8),.own (some g8) 3 1 (F++ [i]).length c8 (nzC (F++ [i]))::Rs),⟨hlj,by dsimp only;rw [List.length_set];exact hAl,hr1⟩,by dsimp only;omega,by exact sB,by exact sB,?_⟩;dsimp only;rw [hv1,hol,← hone];exact mS)
  ·have hj2:j=(au X i).length:=by omega
   subst hj2;rw [w5] at hZ ⊢;repeat' (first|refine zZA ?_|refine sM fun _=>?_|(refine sC ?_ ?_<;>intro hb<;>try omega)|fail)
   all_goals first
    |(exfalso;omega)
    |(refine ⟨(i+1,As,Z),⟨hlt,hAl,hZ⟩,by dsimp only;omega,by exact sB,by exact sB,by exact mS⟩;done)
 ·have e:i=X.length:=by omega
  subst e;rw [nF] at hZ ⊢;obtain ⟨ja,hcell,hblk⟩:=PH (X:=iV X) (As:=As) (by rw [kJ];exact hAl) hZ;rw [kJ] at hcell hblk;repeat' (first|(apply aK (f:=34);exact rfl;exact rfl;(intro w' hm;exact hLo w' _ hm);rintro _ _ ⟨A,c,l,Zl,rfl,rfl,hasc,hml⟩;refine mN (_::_) (MSub.pick .hd (MSub.appR _ Zl)) ?_)|refine zZA ?_|refine sM fun _=>?_|(refine sC ?_ ?_<;>intro hb<;>try omega)|fail)
  all_goals try (exfalso;omega)
  have hnd:l.Nodup:=hasc.imp fun hab e=>by rw [e] at hab;exact SS _ hab
  have hll:l.length≤X.length:=by
   have h2:=dR l (List.range X.length) hnd fun y hy=>RH.2 ((hml y).1 hy).1;rwa [Sg] at h2
  have hlx:=fun x (hx:x∈l)=>((hml x).1 hx).1;have hfin: ∀ M dn,WkI (iV X) (eX X) M [] dn→(∀ u∈l,M u=true)→aF X.length M=aF X.length (rE X):=fun M dn hI hb=>aP fun v _=>by
   rw [Sc,sZ];exact hI.circ hX (fun u hu=>hb u ((hml u).2 ⟨mX (Classical.choose_spec hu).1,hu⟩)) v
  have hI0:WkI (iV X) (eX X) (jS l) l []:=by
   refine ⟨fun v h=> ?_,fun v h=>(by cases h),fun v h=> .inr (by simpa [jS] using h)⟩;have h2:v∈l:=by simpa [jS] using h
   exact ⟨v,((hml v).1 h2).2,.refl v⟩
  have hlM: ∀ u∈l,jS l u=true:=fun u hu=>by simpa [jS] using hu
  have hcn0:=D0 hnd hlx
  refine aw [3, 4, 9, 56, 57] rfl (fun j : Nat => [(58, .int .i64 (j : Int))]) (fun j => .own (some go) 4 1 X.length X.length (aF X.length (jS (l.take j))) :: .own A 3 1 l.length c (nzC l) :: .own (some gx) 68 1 X.length X.length (cK (iV X) As) :: Z) (fun j => j ≤ l.length) (fun j => l.length - j) 0 (QZ _) sB (by
   rw [show aF X.length (jS (l.take 0))=aF X.length fun _=>false from aP fun v _=>by simp [jS]];exact mS) ?_
  rintro j hj;by_cases hlj:j<l.length
  ·refine bg (A:=A) pK (by omega) fun ga hA=> ?_;subst hA;have he:=cG hlj;have hkl:=hlx _ (db hlj);have hst:=eY (n:=X.length) (f:=jS (l.take j)) (k:=atN l j) (v:=true);rw [FP hlj] at hst;generalize atN l j=k at he hkl hst;repeat' (first|(apply ai (d:=60);exact rfl;apply ag (j:=j);exact rfl;exact rfl;exact hlj)|(apply ai (d:=61);exact rfl;apply aq;exact rfl;exact pK;exact he)|(apply ai (d:=64);exact rfl;apply ag (j:=k);exact rfl;exact rfl;exact hkl)|(apply aU (g:=go);exact rfl;exact rfl;exact pK;exact rfl;(rw [eD];omega);rw [hst])|refine zZA ?_|refine sM fun _=>?_|(refine sC ?_ ?_<;>intro hb<;>try omega)|fail)
   all_goals first
    |(exfalso;omega)
    |(refine ⟨j+1,hlj,by omega,by exact sB,by exact sB,by exact mS⟩;done)
  ·have hj2:j=l.length:=by omega
   subst hj2;rw [RS];rcases SY l.length with hz|hz
   ·have hl0:l= []:=Sl hz;subst hl0;rw [hfin _ _ hI0 hlM];repeat' (first|refine zZA ?_|refine sM fun _=>?_|(refine sC ?_ ?_<;>intro hb<;>try omega)|fail)
    all_goals try (exfalso;omega)
    refine aw [3,9] rfl (fun _:Unit=> []) (fun _=> [.own (some go) 4 1 X.length X.length (aF X.length (rE X))]) (fun _=>True) (fun _=>0) () trivial sB mS ?_;rintro ⟨⟩ _;repeat' (first|refine zZA ?_|refine sM fun _=>?_|(refine sC ?_ ?_<;>intro hb<;>try omega)|fail)
    all_goals first
     |(exfalso;omega)
     |(exact bJ eIO rfl rfl (by unfold fO;exact mS) ⟨go,rfl,rfl⟩)
   ·refine bg (A:=A) pK hz fun ga hA=> ?_;subst hA;repeat' (first|refine zZA ?_|refine sM fun _=>?_|(refine sC ?_ ?_<;>intro hb<;>try omega)|fail)
    all_goals try (exfalso;omega)
    refine aw [3,4] rfl (fun z:(Nat→Bool) × List Nat × List Nat × Qu=> [(9,z.2.2.2.v)]) (fun z=> .own (some z.2.2.2.g) 3 1 z.2.2.2.n z.2.2.2.c z.2.2.2.ys:: .own (some go) 4 1 X.length X.length (aF X.length z.1):: .own (some gx) 68 1 X.length X.length (cK (iV X) As)::Z) (fun z=>WkI (iV X) (eX X) z.1 z.2.1 z.2.2.1∧z.2.2.2.ok AX 1 z.2.1∧z.2.2.2.n≤lc X.length z.1∧(∀ x∈z.2.1,x<X.length∧eX X x)∧(∀ u∈l,z.1 u=true)) (fun z=>z.2.1.length+(X.length - lc X.length z.1)) (jS l,l,[],⟨ga,0,0,l.length,c,nzC l⟩) ⟨hI0,⟨Nat.zero_le _,fun _=>by rw [Nat.zero_mul],rfl,by rw [Nat.zero_mul,List.drop_zero,K9]⟩,by dsimp only;rw [hcn0];exact Nat.le_refl _,fun x hx=>⟨hlx x hx,⟨x,((hml x).1 hx).2,.refl x⟩⟩,hlM⟩ sB (by simp only [Qu.v];exact mS) ?_;clear hI0 hlM hcn0;rintro ⟨M,todo,dn,q⟩ ⟨hI,hq,hqn,htd,hin⟩;dsimp only at hI hq hqn htd hin ⊢;have hql:=hq.len;have hcn:=o7 X.length M
    cases todo with
    |nil=>
      rw [Ta] at hql;rw [hfin _ _ hI hin];repeat' (first|refine zZB ?_|refine sM fun _=>?_|(refine sC ?_ ?_<;>intro hb<;>try omega)|fail)
      all_goals first
       |(exfalso;omega)
       |(exact bJ eIO rfl rfl (by unfold fO;exact mS) ⟨go,rfl,rfl⟩)
    |cons k todo=>
      rw [Rk] at hql;refine P0 (A:=some q.g) pK fun hle=> ?_;have hhd:=OD hq hle;have hpo:=hq.pop (xp k) hle;obtain ⟨hkl,hkp⟩:=htd k QY;have htd' :=fun x (hx:x∈todo)=>htd x (Rh _ hx);have hc:=hcell k hkl;have hbk:=hblk k hkl;have hJ0:=hI.pop;have hpk: ∀ u∈au (iV X) k,u<X.length∧eX X u:=fun u hu=>⟨mX (zZ.1 hu).2,JO hkp hu⟩;have hrk:(au (iV X) k).length≤2000000:=by
       rw [← nF,rl hkl];have:=oY hrl X.length 0 k;have h2:(X.length+1)*1000≤1001*1000:=Tn _ (by omega);omega
      have hfinJ:=fun M todo (hJ:WkJ (iV X) (eX X) M k todo dn (au (iV X) k))=>hJ.fin;generalize au (iV X) k=L at*;generalize ja k=a at hc hbk;obtain ⟨a1,a2⟩:=a;dsimp only at hc hbk;repeat' (first|(apply ai (d:=70);exact rfl;apply ag (j:=0);exact rfl;exact rfl;omega)|(apply ai (d:=71);exact rfl;apply aq;exact rfl;exact pK;exact hhd)|(apply ai (d:=73);exact rfl;apply Ox q;exact rfl;omega;exact hle)|(apply ai (d:=76);exact rfl;apply ag (j:=k);exact rfl;exact rfl;exact hkl)|(apply ai (d:=77);exact rfl;apply aq;exact rfl;exact pK;exact hc)|refine zZB ?_|refine sM fun _=>?_|(refine sC ?_ ?_<;>intro hb<;>try omega)|fail)
      all_goals try (exfalso;omega)
      refine aw [3,4,77,78] rfl (fun z:Nat × (Nat→Bool) × List Nat × Qu=> [(79,.int .i64 (z.1:Int)),(9,z.2.2.2.v)]) (fun z=> .own (some z.2.2.2.g) 3 1 z.2.2.2.n z.2.2.2.c z.2.2.2.ys:: .own (some go) 4 1 X.length X.length (aF X.length z.2.1):: .own (some gx) 68 1 X.length X.length (cK (iV X) As)::Z) (fun z=>z.1≤L.length∧WkJ (iV X) (eX X) z.2.1 k z.2.2.1 dn (L.take z.1)∧z.2.2.2.ok AX 1 z.2.2.1∧z.2.2.2.n≤lc X.length z.2.1∧(∀ x∈z.2.2.1,x<X.length∧eX X x)∧z.2.2.1.length+lc X.length M=todo.length+lc X.length z.2.1∧(∀ u∈l,z.2.1 u=true)) (fun z=>L.length - z.1) (0,M,todo,q.pop 1) ⟨QZ _,hJ0,hpo,hqn,htd',rfl,hin⟩ sB (by simp only [Qu.pop];exact mS) ?_;clear hI hq hqn htd hin hql hhd hpo htd' hJ0 hle;rintro ⟨m,M1,todo1,q1⟩ ⟨hm,hJ,hq1,hqn1,htd1,hsum,hin1⟩;dsimp only at hm hJ hq1 hqn1 htd1 hsum hin1 ⊢;have hcn1:=o7 X.length M1;by_cases hlm:m<L.length
      ·have he:=cG hlm;obtain ⟨hul,hup⟩:=hpk _ (db hlm);have htk:L.take (m+1)=L.take m++ [atN L m]:=by rw [Ra hlm,dN hlm]
       refine bg (A:=a1) (.tl (.tl (.tl (In.of_mem hbk)))) (by omega) fun ga2 hA=> ?_;subst hA;have hinR: ∀ (b1 b2 b3:Blk),In (.own (some ga2) 3 1 L.length a2 (nzC L)) (b1::b2::b3::Z):=fun _ _ _=> .tl (.tl (.tl (In.of_mem hbk)));generalize atN L m=u at he hul hup htk;have hou:=bN (f:=M1) hul
       cases hMu:M1 u with
       |true=>
         rw [hMu] at hou;have hJ2:=hJ.old hMu;rw [← htk] at hJ2;repeat' (first|(apply ai (d:=81);exact rfl;apply ag (j:=m);exact rfl;exact rfl;exact hlm)|(apply ai (d:=82);exact rfl;apply aq;exact rfl;exact hinR _ _ _;exact he)|(apply ai (d:=85);exact rfl;apply ag (j:=u);exact rfl;exact rfl;exact hul)|(apply ai (d:=86);exact rfl;apply aq;exact rfl;exact pK;exact hou)|refine zZA ?_|refine sM fun _=>?_|(refine sC ?_ ?_<;>intro hb<;>try omega)|fail)
         all_goals first
          |(exfalso;omega)
          |(refine ⟨(m+1,M1,todo1,q1),⟨hlm,hJ2,hq1,hqn1,htd1,hsum,hin1⟩,by dsimp only;omega,by exact sB,by exact sB,by exact mS⟩;done)
       |false=>
         rw [hMu] at hou;have hJ2:=hJ.new hup;rw [← htk] at hJ2;have hcm:=zq hul hMu;have hst:=eY (n:=X.length) (f:=M1) (k:=u) (v:=true);obtain ⟨qg,qoff,qk,qn,qc,qys⟩:=q1;obtain ⟨hq3,hq4,hq5,hq6⟩:=hq1;dsimp only at hq3 hq4 hq5 hq6 hqn1 ⊢;simp only [Qu.v];repeat' (first|(apply ai (d:=81);exact rfl;apply ag (j:=m);exact rfl;exact rfl;exact hlm)|(apply ai (d:=82);exact rfl;apply aq;exact rfl;exact hinR _ _ _;exact he)|(apply ai (d:=85);exact rfl;apply ag (j:=u);exact rfl;exact rfl;exact hul)|(apply ai (d:=86);exact rfl;apply aq;exact rfl;exact pK;exact hou)|(apply ai (d:=90);exact rfl;apply ag (j:=u);exact rfl;exact rfl;exact hul)|(apply aU (g:=go);exact rfl;exact rfl;exact pK;exact rfl;(rw [eD];omega);rw [hst])|(apply u5;exact rfl;exact rfl;exact hq3;exact hq4;exact rfl;exact pK;exact pK;exact rfl;(simp [Value.oneCell']);omega;(simp only [maxLen];omega);intro g' off' k' n2 c2 ys hk2 hoff2 hlen2 hn2 hys2)|refine zZA ?_|refine sM fun _=>?_|(refine sC ?_ ?_<;>intro hb<;>try omega)|fail)
         all_goals first
          |(exfalso;omega)
          | (refine ⟨(m + 1, (fun x => if x = u then true else M1 x), todo1 ++ [u], ⟨g', off', k', n2, c2, ys⟩), ⟨hlm, hJ2, ⟨hk2, hoff2, (by rw [List.length_append]; exact hlen2.trans (by rw [hq5]; rfl)), (by rw [hys2, hq6, List.flatMap_append]; rfl)⟩, (by dsimp only; rw [hcm]; omega), (fun x hx => ?_), (by dsimp only; rw [List.length_append, hcm, List.length_singleton]; omega), fun y hy => ?_⟩, by dsimp only; omega, by exact sB, by exact sB, by exact mS⟩
             ·rcases Rz.1 hx with hx|hx
              ·exact htd1 x hx
              ·rw [Rd.1 hx];exact ⟨hul,hup⟩
             ·dsimp only;split
              ·rfl
              ·exact hin1 y hy)
      ·have hm2:m=L.length:=by omega
       subst hm2;rw [RS] at hJ;have hI2:=hfinJ _ _ hJ;repeat' (first|refine zZA ?_|refine sM fun _=>?_|(refine sC ?_ ?_<;>intro hb<;>try omega)|fail)
       all_goals first
        |(exfalso;omega)
        |(refine ⟨(M1,todo1,k::dn,q1),⟨hI2,hq1,hqn1,htd1,hin1⟩,by dsimp only;rw [List.length_cons];omega,by exact sB,by exact sB,by exact mS⟩;done)
theorem Mb {G:Gr} {A2:Nat} {vs:List Value} {Z:List Blk} (hJ:JIn Z vs (aM G)) {w0 w:World} {H:List Blk} (hs:MSub (.own (some A2) 68 1 (aA G).length (aA G).length vs::Z) H) (hm:Mem w0 w H):JRd w (.slice (some ⟨A2,0,none⟩) (aA G).length (aA G).length) (aM G):=by
 have h1:(aM G).length=(aA G).length:=by rw [cH,dE]
 have h2:=hs.use hm;rw [← h1] at h2 ⊢;exact hJ.rd h2
theorem uJ {G:Gr} (hl:G.length≤900) (i:Nat):(au (aM G) i).length≤1000:=RD (FM i) (by omega)
theorem Mc {G:Gr} (hl:G.length≤900) {A2:Nat} {vs:List Value} {Z:List Blk} (hJ:JIn Z vs (aM G)) {w0 w:World} {H:List Blk} (hs:MSub (.own (some A2) 68 1 (aA G).length (aA G).length vs::Z) H) (hm:Mem w0 w H):
 FnAt Tryz.prog 34 [.slice (some ⟨A2,0,none⟩) (aA G).length (aA G).length] w fun u H' => ∃ A c Z',u= .tuple #[sl A (lpC G).length c,.int .i64 0]∧H' = .own A 3 1 (lpC G).length c (nzC (lpC G))::Z' :=by
 refine (xH (aM G) qU (by rw [cH];omega) (uJ hl) _ w (Mb hJ hs hm)).mono ?_;rintro u H' ⟨A,c,l,Z',h1,h2,h3,h4⟩;have e:l=lpC G:=by rw [← ND];exact Ly h3 h4
 subst e;exact ⟨A,c,Z',h1,h2⟩
theorem AZ {G:Gr} (hl:G.length≤900) {A2:Nat} {vs:List Value} {Z:List Blk} (hJ:JIn Z vs (aM G)) {w0 w:World} {H:List Blk} (hs:MSub (.own (some A2) 68 1 (aA G).length (aA G).length vs::Z) H) (hm:Mem w0 w H) (A:Option Nat) (c:Nat) (mv:Value):
 FnAt Tryz.prog 36 [.agg #[sl A (aA G).length c,mv,.slice (some ⟨A2,0,none⟩) (aA G).length (aA G).length]] w fun v H=> ∃ g,v= .slice (some ⟨g,0,none⟩) (aA G).length (aA G).length∧H= [fO (aA G).length g (dq G)]:=by
 have h1:(aM G).length=(aA G).length:=by rw [cH,dE]
 have h:=Ea (aM G) qU (by rw [cH];omega) (uJ hl) (A.map fun g=>⟨g,0,none⟩) c mv _ w (Mb hJ hs hm);rw [h1,show rE (aM G)=dq G from funext fun i=>(zA (G:=G) (i:=i)).symm] at h;exact h
theorem PG {G:Gr} {i:Nat} (h:i∈lpC G):i<(aA G).length:=by
 rw [dE];exact RH.1 (ST.1 h).1
theorem l8 {n:Nat} (p:Nat→Bool):((List.range n).filter p).length≤n:=by
 have:=SR p (List.range n);rwa [Sg] at this
theorem xI {gg:Nat} {G:Gr} {B:List Blk} {w0:World} (hc:Cyr gg G B w0) (F:List Blk) (hB:MSub B F):
 FnIn Tryz.prog 8 [.pointer (some ⟨gg,0,none⟩)] w0 F fun v H=> ∃ A c,v= .tuple #[sl A (iz G).length c,.int .i64 0]∧H= .own A 28 2 (iz G).length c ((iz G).flatMap aB)::F:=by
 refine bF Tryz.func8 rfl Tryz.ntmps8 rfl ?_;have hl:=hc.l;have hof:=uR hc F hB;have hll:(lpC G).length≤1000000:=RD (l8 _) (by omega);repeat' (first|(apply ak (f:=33);exact rfl;exact rfl;exact hof;rintro _ _ ⟨A,c,gm,A2,vs,Z,rfl,rfl,hFZ,hJ⟩;simp only [cyV,cyB])|(apply aK (f:=34);exact rfl;exact rfl;(intro w' hm;exact Mc hl hJ mS hm);rintro _ _ ⟨A3,c3,Z3,rfl,rfl⟩;refine mN (_::_) (MSub.pick .hd (MSub.appR _ Z3)) ?_)|(apply aK (f:=35);exact rfl;exact rfl;(intro w' hm;exact JM (aA G) (lpC G) (fun i hi=>PG hi) hll _ _ _ _ w' (Reads.of_own (A:=A) (c:=c) hm pK) (Reads.of_own (A:=A3) (c:=c3) hm pK));rintro _ _ ⟨A5,c5,rfl,rfl⟩)|refine zZB ?_|refine sM fun _=>?_|(refine sC ?_ ?_<;>intro hb<;>try omega)|fail)
 all_goals first
  |(exfalso;omega)
  |(exact dB eIO rfl rfl rfl (MSub.pick pK (MSub.trans hFZ mS)) ⟨A5,c5,rfl,rfl⟩)
theorem pT {gg:Nat} {G:Gr} {B:List Blk} {w0:World} (hc:Cyr gg G B w0) (F:List Blk) (hB:MSub B F):
 FnIn Tryz.prog 9 [.pointer (some ⟨gg,0,none⟩)] w0 F fun v H=> ∃ A c,v= .tuple #[sl A (jH G).length c,.int .i64 0]∧H= .own A 28 2 (jH G).length c ((jH G).flatMap aB)::F:=by
 refine bF Tryz.func9 rfl Tryz.ntmps9 rfl ?_;have hl:=hc.l;have hof:=uR hc F hB;repeat' (first|(apply ak (f:=33);exact rfl;exact rfl;exact hof;rintro _ _ ⟨A,c,gm,A2,vs,Z,rfl,rfl,hFZ,hJ⟩;simp only [cyV,cyB])|(apply aK (f:=36);exact rfl;exact rfl;(intro w' hm;exact AZ hl hJ mS hm A c _);rintro _ _ ⟨g5,rfl,rfl⟩;simp only [fO])|refine zZB ?_|refine sM fun _=>?_|(refine sC ?_ ?_<;>intro hb<;>try omega)|fail)
 all_goals try (exfalso;omega)
 rename_i g4;refine aI 28 2 ?_;have hKl:(aA G).length=G.length:=dE G;generalize hK:aA G=K at*;refine aw [4,13,14] rfl (fun y:Nat × Option Nat × Nat=> [(5,sl y.2.1 ((List.range y.1).filter (dq G)).length y.2.2),(15,.int .i64 (y.1:Int))]) (fun y=> .own y.2.1 28 2 ((List.range y.1).filter (dq G)).length y.2.2 ((dD K ((List.range y.1).filter (dq G))).flatMap aB):: .own (some g5) 4 1 K.length K.length (aF K.length (dq G)):: .box g4 66 [sl A K.length c,.map (some gm),.slice (some ⟨A2,0,none⟩) K.length K.length]:: .own A 28 2 K.length c (K.flatMap aB)::Z) (fun y=>y.1≤K.length) (fun y=>K.length - y.1) (0,none,0) (QZ _) sB mS ?_;rintro ⟨i,A3,c3⟩ hi;dsimp only at hi ⊢;by_cases hlt:i<K.length
 ·refine bg (A:=A) pK (by omega) fun ga hA=> ?_;subst hA;have hb1:=bN (f:=dq G) hlt;have hcc:=Pf hlt;have hts:=gA (n:=i) (dq G);have hrl:=l8 (n:=i) (dq G);rw [← od hlt] at hcc
  cases hcir:dq G i with
  |true=>
    rw [hcir] at hb1;rw [if_pos hcir] at hts;have hns:=kw K ((List.range i).filter (dq G)) i;generalize pq K i=a at hcc hns;repeat' (first|(apply ai (d:=18);exact rfl;apply ag (j:=i);exact rfl;exact rfl;exact hlt)|(apply ai (d:=19);exact rfl;apply aq;exact rfl;exact pK;exact hb1)|(apply ai (d:=25);exact rfl;apply ag (j:=i);exact rfl;exact rfl;exact hlt)|(apply ai (d:=26);exact rfl;apply aO (ys:=aB a);exact rfl;exact pK;exact hcc;exact rfl)|(apply aD;(iterate 3 exact rfl);exact pK;exact pK;exact rfl;(simp [aB,Value.oneCell']);omega;(simp only [maxLen];omega);intro g8 c8)|refine zZA ?_|refine sM fun _=>?_|(refine sC ?_ ?_<;>intro hb<;>try omega)|fail)
    all_goals first
     |(exfalso;omega)
     | (refine ⟨(i + 1, some g8, c8), hlt, by dsimp only; omega, by dsimp only; rw [hts, List.length_append]; exact sB, by exact sB, ?_⟩
        dsimp only;rw [hts,hns,QT,Rp,Tt];exact mS)
  |false=>
    rw [hcir] at hb1;rw [if_neg (by rw [hcir];simp)] at hts;repeat' (first|(apply ai (d:=18);exact rfl;apply ag (j:=i);exact rfl;exact rfl;exact hlt)|(apply ai (d:=19);exact rfl;apply aq;exact rfl;exact pK;exact hb1)|refine zZA ?_|refine sM fun _=>?_|(refine sC ?_ ?_<;>intro hb<;>try omega)|fail)
    all_goals first
     |(exfalso;omega)
     |(refine ⟨(i+1,A3,c3),hlt,by dsimp only;omega,by dsimp only;rw [hts];exact sB,by exact sB,by dsimp only;rw [hts];exact mS⟩;done)
 ·have e:i=K.length:=by omega
  subst e;have hcf:jH G=dD K ((List.range K.length).filter (dq G)):=by
   unfold jH ccC;rw [hK,hKl]
  have hcl:=oC K ((List.range K.length).filter (dq G));rw [← hcf] at hcl;rw [hcf];rw [hcf] at hcl;repeat' (first|refine zZA ?_|refine sM fun _=>?_|(refine sC ?_ ?_<;>intro hb<;>try omega)|fail)
  all_goals first
   |(exfalso;omega)
   |(exact dB (H' := .own A3 28 2 (dD K ((List.range K.length).filter (dq G))).length c3 ((dD K ((List.range K.length).filter (dq G))).flatMap aB)::F) eIO rfl rfl rfl (by rw [hcl];exact MSub.pick pK (MSub.trans hFZ mS)) ⟨A3,c3,by rw [hcl],rfl⟩)
def cw (N:Nat) (f:Nat→List Nat) (n:Nat) (r:List Nat):Nx:=(List.range N).map fun p=>if p<n then f p else if p=n then r else []
theorem kv (N:Nat) (f:Nat→List Nat) (n:Nat) (r:List Nat):(cw N f n r).length=N:=by simp [cw]
theorem Cy {N:Nat} {f:Nat→List Nat} {n:Nat} {r:List Nat} (h:n<N):au (cw N f n r) n=r:=by
 unfold au cw;rw [Rj,RT h];simp
theorem yP {N:Nat} {f:Nat→List Nat} {n:Nat} {r r' :List Nat}:(cw N f n r).set n r' =cw N f n r' :=by
 apply Sz;intro j;by_cases hj:j<N
 ·rw [Uc];unfold cw;rw [Rj,Rj,RT hj];by_cases e:n=j
  ·subst e;rw [if_pos rfl,if_pos (by simpa using hj)];simp
  ·rw [if_neg e];simp only [Sq];by_cases h1:j<n
   ·rw [if_pos h1,if_pos h1]
   ·rw [if_neg h1,if_neg h1,if_neg (fun h=>e h.symm),if_neg (fun h=>e h.symm)]
 ·rw [Ry (by rw [Su,kv];omega),Ry (by rw [kv];omega)]
theorem mZ (N:Nat) (f:Nat→List Nat) (n:Nat):cw N f n (f n)=cw N f (n+1) []:=by
 unfold cw;refine Sx fun p _=> ?_;by_cases h1:p<n
 ·rw [if_pos h1,if_pos (by omega)]
 ·rw [if_neg h1];by_cases h2:p=n
  ·subst h2;rw [if_pos rfl,if_pos (Tz _)]
  ·rw [if_neg h2,if_neg (by omega)];split<;>rfl
theorem vW (N:Nat) (f:Nat→List Nat):cw N f 0 []=qZ N:=by
 unfold cw qZ;apply Sz;intro j;by_cases hj:j<N
 ·rw [Rj,RT hj,TE,if_pos hj];simp
 ·rw [Ry (by simp;omega),Ry (by simp;omega)]
theorem m7 (N:Nat) (f:Nat→List Nat):cw N f N []=(List.range N).map f:=by
 unfold cw;exact Sx fun p hp=>by rw [if_pos (RH.1 hp)]
def nL (X:Nx) (l:List Nat) (p:Nat):List Nat:=(au X (atN l p)).map (ic l)
theorem Da (X:Nx) (l:List Nat):(List.range l.length).map (nL X l)=cF X l:=rfl
theorem NI {l:List Nat} (hn:l.Pairwise (· < ·)) {k:Nat} (h:k∈l): ∃ hi:ic l k<l.length,l[ic l k]=k:=by
 obtain ⟨i,hi,rfl⟩:=SM.1 h;have e:=rf hn hi;exact ⟨by rw [e];exact hi,by simp only [e]⟩
theorem PW {l:List Nat} (ha:l.Pairwise (· < ·)) {k:Nat} (h:k∈l) (z:Value):(match cx ((k:Nat):Int) (ia (zK l)) 0 with|some (_,v)=>v|none=>z)= .int .i64 ((ic l k:Nat):Int):=by
 obtain ⟨hi,hg⟩:=NI ha h;have hnd:l.Nodup:=ha.imp fun hab e=>by rw [e] at hab;exact SS _ hab
 have h1:=wO (Bp hnd) (p:=ic l k) (by rw [zE];exact hi) z;have h2:(zK l)[ic l k]'(by rw [zE];exact hi)=((k:Nat):Int):=by
  simp only [zK,UV,hg]
 rwa [h2] at h1
theorem xF {gg:Nat} {G:Gr} {B:List Blk} {w0:World} (hc:Cyr gg G B w0) (F:List Blk) (hB:MSub B F):
 FnIn Tryz.prog 10 [.pointer (some ⟨gg,0,none⟩)] w0 F fun v H=> ∃ A c,v= .tuple #[sl A (mf G).length c,.int .i64 0]∧H= .own A 28 2 (mf G).length c ((mf G).flatMap aB)::F:=by
 refine bF Tryz.func10 rfl Tryz.ntmps10 rfl ?_;have hl:=hc.l;have hof:=uR hc F hB;repeat' (first|(apply ak (f:=33);exact rfl;exact rfl;exact hof;rintro _ _ ⟨A,c,gm,A2,vs,Z,rfl,rfl,hFZ,hJ⟩;simp only [cyV,cyB])|(apply aK (f:=36);exact rfl;exact rfl;(intro w' hm;exact AZ hl hJ mS hm A c _);rintro _ _ ⟨g5,rfl,rfl⟩;simp only [fO])|refine zZB ?_|refine sM fun _=>?_|(refine sC ?_ ?_<;>intro hb<;>try omega)|fail)
 all_goals try (exfalso;omega)
 rename_i g4;refine aI 3 1 ?_;have hKl:(aA G).length=G.length:=dE G;have hfa:=Hw G;have hfm:=fun i=>uO (G:=G) (i:=i);have hsub:=ww G;have hoe:=Ns G;have hup:=fun i k (hi:i∈frC G) (hk:k∈au (aM G) i)=>PJ hi hk;have hro:=fun i=>uJ hl i;have hfl: ∀ i,i≤G.length→((List.range i).filter fun v=> !dq G v).length≤900:=fun i hi=>RD (l8 _) (by omega);have hfe:(List.range G.length).filter (fun v=> !dq G v)=frC G:=rfl;have hJ2:=hJ.2;have hJ1:=hJ.1;have hgl:(aM G).length=G.length:=cH G;have hox:mf G=dD (aA G) (Pk G):=rfl;generalize hK:aA G=K at*;refine aw [4,24,25] rfl (fun y:Nat × Option Nat × Nat=> [(5,sl y.2.1 ((List.range y.1).filter fun v=> !dq G v).length y.2.2),(26,.int .i64 (y.1:Int))]) (fun y=> .own y.2.1 3 1 ((List.range y.1).filter fun v=> !dq G v).length y.2.2 (nzC ((List.range y.1).filter fun v=> !dq G v)):: .own (some g5) 4 1 K.length K.length (aF K.length (dq G)):: .box g4 66 [sl A K.length c,.map (some gm),.slice (some ⟨A2,0,none⟩) K.length K.length]:: .own A 28 2 K.length c (K.flatMap aB):: .own (some A2) 68 1 K.length K.length vs::Z) (fun y=>y.1≤K.length) (fun y=>K.length - y.1) (0,none,0) (QZ _) sB mS ?_;rintro ⟨i,A3,c3⟩ hi;dsimp only at hi ⊢;by_cases hlt:i<K.length
 ·have hb1:=bN (f:=dq G) hlt;have hts:=gA (n:=i) fun v=> !dq G v;have hrl:=hfl i (by omega)
  cases hcir:dq G i with
  |false=>
    rw [hcir] at hb1;rw [if_pos (by rw [hcir];rfl)] at hts;generalize ((List.range i).filter fun v=> !dq G v)=L at hts hrl;have hone:nzC L++ [.int .i64 (i:Int)]=nzC (L++ [i]):=by simp [nzC]
    repeat' (first|(apply ai (d:=29);exact rfl;apply ag (j:=i);exact rfl;exact rfl;exact hlt)|(apply ai (d:=30);exact rfl;apply aq;exact rfl;exact pK;exact hb1)|(apply aD;(iterate 3 exact rfl);exact pK;exact pK;exact rfl;(simp [Value.oneCell']);omega;(simp only [maxLen];omega);intro g8 c8)|refine zZA ?_|refine sM fun _=>?_|(refine sC ?_ ?_<;>intro hb<;>try omega)|fail)
    all_goals first
     |(exfalso;omega)
     | (refine ⟨(i + 1, some g8, c8), hlt, by dsimp only; omega, by dsimp only; rw [hts, List.length_append]; exact sB, by exact sB, ?_⟩
        dsimp only;rw [hts,QT,← hone];exact mS)
  |true=>
    rw [hcir] at hb1;rw [if_neg (by rw [hcir];simp)] at hts;repeat' (first|(apply ai (d:=29);exact rfl;apply ag (j:=i);exact rfl;exact rfl;exact hlt)|(apply ai (d:=30);exact rfl;apply aq;exact rfl;exact pK;exact hb1)|refine zZA ?_|refine sM fun _=>?_|(refine sC ?_ ?_<;>intro hb<;>try omega)|fail)
    all_goals first
     |(exfalso;omega)
     |(refine ⟨(i+1,A3,c3),hlt,by dsimp only;omega,by dsimp only;rw [hts];exact sB,by exact sB,by dsimp only;rw [hts];exact mS⟩;done)
 ·have e:i=K.length:=by omega
  subst e;rw [hKl,hfe,← hKl];have hll:(frC G).length≤900:=by have:=hfl G.length (Rg _);rwa [hfe] at this
  generalize hfr:frC G=l at*;have hnd:l.Nodup:=hfa.imp fun hab e=>by rw [e] at hab;exact SS _ hab
  repeat' (first|(apply aK (f:=37);exact rfl;exact rfl;(intro w' hm;exact Dd l hnd (by omega) _ w' (Reads.of_own (A:=A3) (c:=c3) hm pK));rintro _ _ ⟨gn,rfl,rfl⟩)|(apply dH (c:=l.length);(iterate 3 exact rfl);omega;(simp only [maxLen];omega);intro gx;(try simp only [mC]))|refine zZA ?_|refine sM fun _=>?_|(refine sC ?_ ?_<;>intro hb<;>try omega)|fail)
  all_goals try (exfalso;omega)
  have hpA: ∀ (J L:List Blk),MSub (L++(J++Z)) (J++(L++Z)):=fun J L=>MSub.of_perm (SN J L Z);refine kq 3 l.length ?_;rw [← DA,← vW l.length (nL (aM G) l)]
  refine aw [4, 5, 8, 9, 43, 44] rfl (fun z : Nat × JA × List Blk => [(45, .int .i64 (z.1 : Int))]) (fun z => .own (some gx) 68 1 l.length l.length (cK (cw l.length (nL (aM G) l) z.1 []) z.2.1) :: .obj gn (dw (fun z : Int => Value.int .i64 z) (ia (zK l)) l.length) :: .own A3 3 1 l.length c3 (nzC l) :: .box g4 66 [sl A K.length c, .map (some gm), .slice (some ⟨A2, 0, none⟩) K.length K.length] :: .own A 28 2 K.length c (K.flatMap aB) :: .own (some A2) 68 1 K.length K.length vs :: z.2.2) (fun z => z.1 ≤ l.length ∧ z.2.1.length = l.length ∧ (jn (cw l.length (nL (aM G) l) z.1 []) z.2.1 ++ Z).Perm z.2.2) (fun z => l.length - z.1) (0, fA l.length, jn (cw l.length (nL (aM G) l) 0 []) (fA l.length) ++ Z) ⟨QZ _, S9, .refl _⟩ sB (by
   dsimp only;refine MSub.trans (hpA _ [_,_,_,_,_,_]) ?_;obtain ⟨T,hT⟩:MSub (.own (some gx) 68 1 l.length l.length (cK (cw l.length (nL (aM G) l) 0 []) (fA l.length)):: .obj gn (dw (fun z:Int=>Value.int .i64 z) (ia (zK l)) l.length):: .own A3 3 1 l.length c3 (nzC l):: .box g4 66 [sl A K.length c,.map (some gm),.slice (some ⟨A2,0,none⟩) K.length K.length]:: .own A 28 2 K.length c (K.flatMap aB):: .own (some A2) 68 1 K.length K.length vs::Z) (.own (some gx) 68 1 l.length l.length (cK (cw l.length (nL (aM G) l) 0 []) (fA l.length))::([.obj gn (dw (fun z:Int=>Value.int .i64 z) (ia (zK l)) l.length)]++ .own A3 3 1 l.length c3 (nzC l):: .own (some g5) 4 1 K.length K.length (aF K.length (dq G)):: .box g4 66 [sl A K.length c,.map (some gm),.slice (some ⟨A2,0,none⟩) K.length K.length]:: .own A 28 2 K.length c (K.flatMap aB):: .own (some A2) 68 1 K.length K.length vs::Z)):=by exact mS
   exact ⟨T,by rw [Rx];exact hT.append_left _⟩) ?_
  clear hpA;rintro ⟨n,As,Zg⟩ ⟨hn,hAl,hZ⟩;dsimp only at hn hAl hZ ⊢;by_cases hnl:n<l.length
  ·have hi:=(hfm (atN l n)).1 (db hnl);have hik:atN l n<K.length:=by omega
   have hel:=cG hnl;have hupn:=fun k=>hup (atN l n) k (db hnl);obtain ⟨u,hu,hru⟩:=hJ2 (atN l n) (by omega);have hvu:vs[0+atN l n*1]? =some u:=by rw [Rv,RV];exact hu
   have hrn:=hro (atN l n);have hordn:nL (aM G) l n=(au (aM G) (atN l n)).map (ic l):=rfl;generalize au (aM G) (atN l n)=L at hru hrn hordn hupn;refine Ow (lv:=u) (m:=L.length) (fun w' hm=>hru w' ((MSub.trans (MSub.trans (MSub.appR _ _) (MSub.of_perm hZ.symm)) mS:MSub Z _).use hm)) fun Ar cr hlv=> ?_;refine bg (A:=A3) pK (by omega) fun g3 hA=> ?_;subst hA;generalize atN l n=i at hik hel hvu;repeat' (first|(apply ai (d:=48);exact rfl;apply ag (j:=n);exact rfl;exact rfl;exact hnl)|(apply ai (d:=49);exact rfl;apply aq;exact rfl;exact pK;exact hel)|(apply ai (d:=53);exact rfl;apply ag (j:=i);exact rfl;exact rfl;exact hik)|(apply ai (d:=54);exact rfl;apply aq;exact rfl;exact pK;exact hvu.trans (congrArg some hlv))|refine zZA ?_|refine sM fun _=>?_|(refine sC ?_ ?_<;>intro hb<;>try omega)|fail)
   all_goals try (exfalso;omega)
   subst hlv;refine aw [4,5,8,9,10,11,43,44,45,54,55] rfl (fun z:Nat × JA × List Blk=> [(56,.int .i64 (z.1:Int))]) (fun z=> .own (some gx) 68 1 l.length l.length (cK (cw l.length (nL (aM G) l) n ((L.take z.1).map (ic l))) z.2.1):: .obj gn (dw (fun z:Int=>Value.int .i64 z) (ia (zK l)) l.length):: .own (some g3) 3 1 l.length c3 (nzC l):: .box g4 66 [sl A K.length c,.map (some gm),.slice (some ⟨A2,0,none⟩) K.length K.length]:: .own A 28 2 K.length c (K.flatMap aB):: .own (some A2) 68 1 K.length K.length vs::z.2.2) (fun z=>z.1≤L.length∧z.2.1.length=l.length∧(jn (cw l.length (nL (aM G) l) n ((L.take z.1).map (ic l))) z.2.1++Z).Perm z.2.2) (fun z=>L.length - z.1) (0,As,Zg) ⟨QZ _,hAl,hZ⟩ sB mS ?_;clear hZ hAl;rintro ⟨m,As,Zg⟩ ⟨hm,hAl,hZ⟩;dsimp only at hm hAl hZ ⊢;by_cases hlm:m<L.length
   ·have hZs: ∀ (b1 b2 b3 b4 b5 b6:Blk),MSub Z (b1::b2::b3::b4::b5::b6::Zg):=fun _ _ _ _ _ _=>MSub.trans (MSub.trans (MSub.appR _ _) (MSub.of_perm hZ.symm)) mS;refine Kj (lv:= .slice Ar L.length cr) (m:=L.length) (fun w' hm=>hru w' ((hZs _ _ _ _ _ _).use hm)) (by omega) fun gr orr cr2 hlv=> ?_;injection hlv with e1 e2 e3;subst e1;have hcl: ∀ (H:List Blk),MSub Z H→ ∀ w',Mem w0 w' H→Cells w' gr orr (nzC L):=fun H hs w' hm=>xA (hru w' (hs.use hm)) (by omega);have hem:=sn hlm;have hkl:=hupn _ (db hlm);have htk:(L.take (m+1)).map (ic l)=(L.take m).map (ic l)++ [ic l (atN L m)]:=by rw [Ra hlm,dN hlm,Sh];rfl
    have hzl:=fun z=>PW hfa hkl z;have hX:=kv l.length (nL (aM G) l) n ((L.take m).map (ic l));have hcell:=iS (X:=cw l.length (nL (aM G) l) n ((L.take m).map (ic l))) (As:=As) (i:=n) (by omega) (by omega);obtain ⟨Rs,hR1,hR2⟩:=mE (X:=cw l.length (nL (aM G) l) n ((L.take m).map (ic l))) (As:=As) (i:=n) (by omega) (by omega);have hvset:=fun r a=>mD (X:=cw l.length (nL (aM G) l) n ((L.take m).map (ic l))) (As:=As) (i:=n) r a (by omega);have hvl:=kS (X:=cw l.length (nL (aM G) l) n ((L.take m).map (ic l))) (As:=As) (by omega);rw [Cy hnl] at hcell hR1;simp only [yP] at hR2 hvset;rcases hak:As[n] with ⟨a1,a2⟩;rw [hak] at hcell hR1;dsimp only at hcell hR1;have hcell:(cK (cw l.length (nL (aM G) l) n ((L.take m).map (ic l))) As)[0+n*1]? =some (sl a1 ((L.take m).map (ic l)).length a2):=by rw [Rv,RV];exact hcell
    have hZ2:=hZ.symm.trans (hR1.append_right Z);have hbl:((L.take m).map (ic l)).length≤1000:=by rw [RA,RI];omega
    have hRZ: ∀ (b1 b2 b3 b4 b5 b6 b7:Blk),MSub Z (b1::b2::b3::b4::b5::b6::b7::(Rs++Z)):=fun _ _ _ _ _ _ _=>MSub.trans (MSub.appR _ _) mS;refine jJ (.own a1 3 1 ((L.take m).map (ic l)).length a2 (nzC ((L.take m).map (ic l))):: .own (some gx) 68 1 l.length l.length (cK (cw l.length (nL (aM G) l) n ((L.take m).map (ic l))) As):: .obj gn (dw (fun z:Int=>Value.int .i64 z) (ia (zK l)) l.length):: .own (some g3) 3 1 l.length c3 (nzC l):: .box g4 66 [sl A K.length c,.map (some gm),.slice (some ⟨A2,0,none⟩) K.length K.length]:: .own A 28 2 K.length c (K.flatMap aB):: .own (some A2) 68 1 K.length K.length vs::(Rs++Z)) (MSub.trans (by exact mS:MSub _ (.own (some gx) 68 1 l.length l.length (cK (cw l.length (nL (aM G) l) n ((L.take m).map (ic l))) As):: .obj gn (dw (fun z:Int=>Value.int .i64 z) (ia (zK l)) l.length):: .own (some g3) 3 1 l.length c3 (nzC l):: .box g4 66 [sl A K.length c,.map (some gm),.slice (some ⟨A2,0,none⟩) K.length K.length]:: .own A 28 2 K.length c (K.flatMap aB):: .own (some A2) 68 1 K.length K.length vs:: .own a1 3 1 ((L.take m).map (ic l)).length a2 (nzC ((L.take m).map (ic l)))::(Rs++Z))) (MSub.of_perm ((((((hZ2.cons _).cons _).cons _).cons _).cons _).cons _))) ?_;clear hak hX;generalize atN L m=k at hem hkl htk hzl;generalize (L.take m).map (ic l)=Fr at*;generalize hp:ic l k=p at*;have hone:nzC Fr++ [.int .i64 (p:Int)]=nzC (Fr++ [p]):=by simp [nzC]
    have hol:(Fr++ [p]).length=Fr.length+1:=by simp
    repeat' (first|(apply ai (d:=58);exact rfl;apply ag (j:=m);exact rfl;exact rfl;exact hlm)|(apply ai (d:=59);exact rfl;apply l4 (off:=m*1);(intro w' hm;exact hcl _ (hRZ _ _ _ _ _ _ _) w' hm);exact rfl;(rw [RV];exact hem))|refine zZA ?_|refine sM fun _=>?_|(refine sC ?_ ?_<;>intro hb<;>try omega)|fail)
    all_goals try (exfalso;omega)
    refine mT (id:=19) [5,9,10,12] [.obj gn (dw (fun z:Int=>Value.int .i64 z) (ia (zK l)) l.length)] 13 rfl rfl mS ?_;repeat' (first|(apply bU (i:=4);(iterate 4 exact rfl);(iterate 3 decide+kernel);(apply ag (j:=n);exact rfl;exact rfl;exact hnl))|(apply bU (i:=11);(iterate 4 exact rfl);(iterate 3 decide+kernel);(apply ag (j:=n);exact rfl;exact rfl;exact hnl))|(apply bU (i:=8);(iterate 4 exact rfl);(iterate 3 decide+kernel);(apply nQ (enc:=fun z:Int=>Value.int .i64 z) (k:=(k:Int));exact rfl;exact rfl;exact pK;exact hzl _))|(apply bU (i:=0);(iterate 4 exact rfl);(iterate 3 decide+kernel);(exact vC))|(apply bU (i:=1);(iterate 4 exact rfl);(iterate 3 decide+kernel);(exact vC))|(apply bU (i:=2);(iterate 4 exact rfl);(iterate 3 decide+kernel);(exact vC))|(apply bU (i:=3);(iterate 4 exact rfl);(iterate 3 decide+kernel);(exact vC))|(apply bU (i:=6);(iterate 4 exact rfl);(iterate 3 decide+kernel);(exact vC))|(apply bU (i:=7);(iterate 4 exact rfl);(iterate 3 decide+kernel);(exact vC))|(apply ve (i:=5) (j:=9);(iterate 6 exact rfl);decide+kernel)|(apply dI (i:=5);(iterate 3 exact rfl);decide+kernel)|(apply dI (i:=9);(iterate 3 exact rfl);decide+kernel)|(apply dI (i:=10);(iterate 3 exact rfl);decide+kernel)|(apply dI (i:=12);(iterate 3 exact rfl);decide+kernel)|(apply mR;decide+kernel)|(apply Ee;(focus (exact mS;done)))|(apply ai (d:=65);exact rfl;apply aq;exact rfl;exact pK;exact hcell)|(apply aD;(iterate 3 exact rfl);exact pK;exact pK;exact rfl;(simp [Value.oneCell']);omega;(simp only [maxLen];omega);intro g8 c8)|(apply aU (g:=gx);exact rfl;exact rfl;exact pK;exact rfl;(rw [hvl,kv];omega);rw [Rv,RV])|refine zZB ?_|refine sM fun _=>?_|(refine sC ?_ ?_<;>intro hb<;>try omega)|fail)
    repeat' (first|refine zZA ?_|refine sM fun _=>?_|(refine sC ?_ ?_<;>intro hb<;>try omega)|fail)
    all_goals first
     |(exfalso;omega)
     | (have hv1 := hvset (Fr ++ [p]) (some g8, c8)
        have hr1:=(hR2 (Fr++ [p]) (some g8,c8)).append_right Z;refine ⟨(m+1,As.set n (some g8,c8),.own (some g8) 3 1 (Fr++ [p]).length c8 (nzC (Fr++ [p]))::(Rs++Z)),⟨hlm,by dsimp only;rw [List.length_set];exact hAl,by dsimp only;rw [htk];exact hr1⟩,by dsimp only;omega,by exact sB,by exact sB,?_⟩;dsimp only;rw [htk,hv1,hol,← hone];exact mS)
   ·have hm2:m=L.length:=by omega
    subst hm2;rw [RS,← hordn,mZ] at hZ;rw [RS,← hordn,mZ];repeat' (first|refine zZA ?_|refine sM fun _=>?_|(refine sC ?_ ?_<;>intro hb<;>try omega)|fail)
    all_goals first
     |(exfalso;omega)
     |(refine ⟨(n+1,As,Zg),⟨hnl,hAl,hZ⟩,by dsimp only;omega,by exact sB,by exact sB,by exact mS⟩;done)
  ·have hn2:n=l.length:=by omega
   subst hn2;rw [m7,Da] at hZ;rw [m7,Da];have hYl:(cF (aM G) l).length=l.length:=hsub.len;have hJY:JIn Zg (cK (cF (aM G) l) As) (cF (aM G) l):=(AB (X:=cF (aM G) l) (As:=As) (by rw [hYl];exact hAl)).mono (MSub.trans (MSub.appL _ _) (MSub.of_perm hZ.symm));have hFZg:MSub F Zg:=MSub.trans (MSub.trans hFZ (MSub.appR _ _)) (MSub.of_perm hZ.symm);have hYr: ∀ i,(au (cF (aM G) l) i).length≤1000:=fun i=>by
    unfold au cF;rw [Rj];by_cases h:i<l.length
    ·rw [RT h];show ((au (aM G) _).map _).length≤_;rw [RA];exact hro _
    ·rw [Ry (by simpa using h)];exact QZ _
   have hTo: ∀ (w' :World) (H:List Blk),MSub (.own (some gx) 68 1 l.length l.length (cK (cF (aM G) l) As)::Zg) H→Mem w0 w' H→FnAt Tryz.prog 38 [.slice (some ⟨gx,0,none⟩) l.length l.length] w' fun u H=> ∃ A c Z,u= .tuple #[sl A (cI (cF (aM G) l)).length c,.int .i64 0]∧H= .own A 3 1 (cI (cF (aM G) l)).length c (nzC (cI (cF (aM G) l)))::Z:=fun w' H hs hm=>by
    have h1:=hs.use hm;rw [← hYl] at h1 ⊢;exact HH (cF (aM G) l) (fun p q hq=>by rw [hYl];exact hsub.ok p q hq) (by omega) hYr (fun p hp=>hsub.acy p (by omega)) _ w' (hJY.rd h1)
   have hperm:=hsub.topo.2;have hTl:(cI (cF (aM G) l)).length=l.length:=by rw [hperm.length_eq,Sg]
   have hTm: ∀ x∈cI (cF (aM G) l),x<l.length:=fun x hx=>RH.1 (hperm.mem_iff.1 hx);have hfinal:dD K ((cI (cF (aM G) l)).map (atN l))=mf G:=by
    rw [hox,← hoe]
    rfl
   generalize cI (cF (aM G) l)=T at*;repeat' (first|(apply aK (f:=38);exact rfl;exact rfl;(intro w' hm;exact hTo w' _ mS hm);rintro _ _ ⟨A7,c7,Z7,rfl,rfl⟩;refine mN (_::_) (MSub.pick .hd (MSub.appR _ Z7)) ?_)|refine zZA ?_|refine sM fun _=>?_|(refine sC ?_ ?_<;>intro hb<;>try omega)|fail)
   all_goals try (exfalso;omega)
   refine aI 28 2 ?_;refine aw [4,5,15,79,80] rfl (fun y:Nat × Option Nat × Nat=> [(16,sl y.2.1 y.1 y.2.2),(81,.int .i64 (y.1:Int))]) (fun y=> .own y.2.1 28 2 y.1 y.2.2 ((dD K ((T.take y.1).map (atN l))).flatMap aB):: .own A7 3 1 T.length c7 (nzC T):: .own A3 3 1 l.length c3 (nzC l):: .box g4 66 [sl A K.length c,.map (some gm),.slice (some ⟨A2,0,none⟩) K.length K.length]:: .own A 28 2 K.length c (K.flatMap aB)::Zg) (fun y=>y.1≤T.length) (fun y=>T.length - y.1) (0,none,0) (QZ _) sB mS ?_;rintro ⟨t,A9,c9⟩ ht;dsimp only at ht ⊢;by_cases htl:t<T.length
   ·have hel:=cG htl;have hpl:=hTm _ (db htl);have hst:(T.take (t+1)).map (atN l)=(T.take t).map (atN l)++ [atN l (atN T t)]:=by rw [Ra htl,dN htl,Sh];rfl
    generalize atN T t=p at hel hpl hst;have hl1:=cG hpl;have hil:=((hfm (atN l p)).1 (db hpl)).1;have hiK:atN l p<K.length:=by omega
    have hcc:=Pf hiK;rw [← od hiK] at hcc;have hns:dD K ((T.take (t+1)).map (atN l))=dD K ((T.take t).map (atN l))++ [pq K (atN l p)]:=by rw [hst,kw]
    generalize atN l p=q at hl1 hiK hcc hns;generalize pq K q=a at hcc hns;refine bg (A:=A7) pK (by omega) fun g7 hA=> ?_;subst hA;refine bg (A:=A3) pK (by omega) fun g3 hA=> ?_;subst hA;refine bg (A:=A) pK (by omega) fun ga hA=> ?_;subst hA;repeat' (first|(apply ai (d:=83);exact rfl;apply ag (j:=t);exact rfl;exact rfl;exact htl)|(apply ai (d:=84);exact rfl;apply aq;exact rfl;exact pK;exact hel)|refine zZA ?_|refine sM fun _=>?_|(refine sC ?_ ?_<;>intro hb<;>try omega)|fail)
    all_goals try (exfalso;omega)
    refine mT (id:=27) [9,10] [.own (some g3) 3 1 l.length c3 (nzC l),.box g4 66 [sl (some ga) K.length c,.map (some gm),.slice (some ⟨A2,0,none⟩) K.length K.length],.own (some ga) 28 2 K.length c (K.flatMap aB)] 12 rfl rfl mS ?_;repeat' (first|(apply bU (i:=5);(iterate 4 exact rfl);(iterate 3 decide+kernel);(apply ag (j:=p);exact rfl;exact rfl;exact hpl))|(apply bU (i:=6);(iterate 4 exact rfl);(iterate 3 decide+kernel);(apply aq;exact rfl;exact pK;exact hl1))|(apply bU (i:=7);(iterate 4 exact rfl);(iterate 3 decide+kernel);(apply ag (j:=q);exact rfl;exact rfl;exact hiK))|(apply bU (i:=8);(iterate 4 exact rfl);(iterate 3 decide+kernel);(apply aO (ys:=aB a);exact rfl;exact pK;exact hcc;exact rfl))|(apply bU (i:=0);(iterate 4 exact rfl);(iterate 3 decide+kernel);(exact vC))|(apply bU (i:=1);(iterate 4 exact rfl);(iterate 3 decide+kernel);(exact vC))|(apply bU (i:=2);(iterate 4 exact rfl);(iterate 3 decide+kernel);(exact vC))|(apply bU (i:=3);(iterate 4 exact rfl);(iterate 3 decide+kernel);(exact vC))|(apply bU (i:=4);(iterate 4 exact rfl);(iterate 3 decide+kernel);(exact vC))|(apply bU (i:=11);(iterate 4 exact rfl);(iterate 3 decide+kernel);(apply vB;exact rfl))|(apply dI (i:=9);(iterate 3 exact rfl);decide+kernel)|(apply dI (i:=10);(iterate 3 exact rfl);decide+kernel)|(apply mR;decide+kernel)|(apply Ee;(focus (exact mS;done)))|(apply aD;(iterate 3 exact rfl);exact pK;exact pK;exact rfl;(simp [aB,Value.oneCell']);omega;(simp only [maxLen];omega);intro g8 c8)|refine zZB ?_|refine sM fun _=>?_|(refine sC ?_ ?_<;>intro hb<;>try omega)|fail)
    repeat' (first|refine zZA ?_|refine sM fun _=>?_|(refine sC ?_ ?_<;>intro hb<;>try omega)|fail)
    all_goals first
     |(exfalso;omega)
     | (refine ⟨(t + 1, some g8, c8), htl, by dsimp only; omega, by exact sB, by exact sB, ?_⟩
        dsimp only;rw [hns,Rp,Tt];exact mS)
   ·have ht2:t=T.length:=by omega
    subst ht2;rw [RS,hfinal];have hol2:(mf G).length=T.length:=by rw [← hfinal,oC,RA]
    repeat' (first|refine zZA ?_|refine sM fun _=>?_|(refine sC ?_ ?_<;>intro hb<;>try omega)|fail)
    all_goals first
     |(exfalso;omega)
     |(exact dB (H' := .own A9 28 2 (mf G).length c9 ((mf G).flatMap aB)::F) eIO rfl rfl rfl (by rw [hol2];exact MSub.pick pK (MSub.trans hFZg mS)) ⟨A9,c9,by rw [hol2],rfl⟩)
end Go.SL

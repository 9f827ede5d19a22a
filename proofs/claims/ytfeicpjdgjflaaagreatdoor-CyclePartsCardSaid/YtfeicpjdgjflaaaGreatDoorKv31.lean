/-
  Lemmas and walks, put together: Zo Zp Zv Ye Yg.
-/
import Derived.Test.YtfeicpjdgjflaaaGreatDoorKv30
set_option linter.unusedSimpArgs false
set_option linter.unusedVariables false
set_option maxRecDepth 20000
set_option maxHeartbeats 16000000
namespace Go.SL
open Go Go.Proofs Go.RowKit
attribute [local irreducible] W WL WQ WG WA WX WLI WR WT WC WE VOp RW thn blk bg scp aS aV bi FnAt FnIn FnP ceP
theorem PT {G:Gr} {A2:Nat} {vs:List Value} {Z:List Blk} (hJ:JIn Z vs (aP G)) {w0 w:World} {H:List Blk} (hs:MSub (.own (some A2) 104 1 (au G).length (au G).length vs::Z) H) (hm:Mem w0 w H):JRd w (.slice (some ⟨A2,0,none⟩) (au G).length (au G).length) (aP G):=by
 have h1:(aP G).length=(au G).length:=by rw [di,cC]
 have h2:=hs.use hm;rw [← h1] at h2 ⊢;exact hJ.rd h2
theorem xc {G:Gr} (hl:G.length≤900) (i:Nat):(ax (aP G) i).length≤1000:=VR (Jb i) (by omega)
theorem PU {G:Gr} (hl:G.length≤900) {A2:Nat} {vs:List Value} {Z:List Blk} (hJ:JIn Z vs (aP G)) {w0 w:World} {H:List Blk} (hs:MSub (.own (some A2) 104 1 (au G).length (au G).length vs::Z) H) (hm:Mem w0 w H):
 FnAt Tryz.prog 72 [.slice (some ⟨A2,0,none⟩) (au G).length (au G).length] w fun u H' => ∃ A c Z',u= .tuple #[sl A (lpC G).length c,.int .i64 0]∧H' = .own A 3 1 (lpC G).length c (nzC (lpC G))::Z' :=by
 refine (zV (aP G) tU (by rw [di];omega) (xc hl) _ w (PT hJ hs hm)).mono ?_;rintro u H' ⟨A,c,l,Z',h1,h2,h3,h4⟩;have e:l=lpC G:=by rw [← RM];exact O9 h3 h4
 subst e;exact ⟨A,c,Z',h1,h2⟩
theorem Ee {G:Gr} (hl:G.length≤900) {A2:Nat} {vs:List Value} {Z:List Blk} (hJ:JIn Z vs (aP G)) {w0 w:World} {H:List Blk} (hs:MSub (.own (some A2) 104 1 (au G).length (au G).length vs::Z) H) (hm:Mem w0 w H) (A:Option Nat) (c:Nat) (mv:Value):
 FnAt Tryz.prog 48 [.agg #[sl A (au G).length c,mv,.slice (some ⟨A2,0,none⟩) (au G).length (au G).length]] w fun v H=> ∃ g,v= .slice (some ⟨g,0,none⟩) (au G).length (au G).length∧H= [ig (au G).length g (ck G)]:=by
 have h1:(aP G).length=(au G).length:=by rw [di,cC]
 have h:=Hp (aP G) tU (by rw [di];omega) (xc hl) (A.map fun g=>⟨g,0,none⟩) c mv _ w (PT hJ hs hm);rw [h1,show uD (aP G)=ck G from funext fun i=>(CJ (G:=G) (i:=i)).symm] at h;exact h
theorem Uc {G:Gr} {i:Nat} (h:i∈lpC G):i<(au G).length:=by
 rw [cC];exact VT.1 (Wx.1 h).1
theorem nQ {n:Nat} (p:Nat→Bool):((List.range n).filter p).length≤n:=by
 have:=WD p (List.range n);rwa [We] at this
theorem zW {gg:Nat} {G:Gr} {B:List Blk} {w0:World} (hc:Cyr gg G B w0) (F:List Blk) (hB:MSub B F):
 FnIn Tryz.prog 23 [.pointer (some ⟨gg,0,none⟩)] w0 F fun v H=> ∃ A c,v= .tuple #[sl A (l5 G).length c,.int .i64 0]∧H= .own A 35 2 (l5 G).length c ((l5 G).flatMap aw)::F:=by
 refine bE Tryz.func23 rfl Tryz.ntmps23 rfl ?_;have hl:=hc.l;have hof:=xu hc F hB;have hll:(lpC G).length≤1000000:=VR (nQ _) (by omega);repeat' (first|apply ak (f:=47);exact rfl;exact rfl;exact hof;rintro _ _ ⟨A,c,gm,A2,vs,Z,rfl,rfl,hFZ,hJ⟩;simp only [cyV,cyB]|apply aJ (f:=72);exact rfl;exact rfl;intro w' hm;exact PU hl hJ mS hm;rintro _ _ ⟨A3,c3,Z3,rfl,rfl⟩;refine kU (_::_) (MSub.pick .hd (MSub.appR _ Z3)) ?_|apply aJ (f:=73);exact rfl;exact rfl;intro w' hm;exact MZ (au G) (lpC G) (fun i hi=>Uc hi) hll _ _ _ _ w' (Reads.of_own (A:=A) (c:=c) hm pK) (Reads.of_own (A:=A3) (c:=c3) hm pK);rintro _ _ ⟨A5,c5,rfl,rfl⟩|refine zZB ?_|refine sM fun _=>?_|refine sC ?_ ?_<;>intro hb<;>try omega|fail)
 all_goals first
  |omega
  |exact dm eIO rfl rfl rfl (MSub.pick pK (MSub.trans hFZ mS)) ⟨A5,c5,rfl,rfl⟩
theorem rO {gg:Nat} {G:Gr} {B:List Blk} {w0:World} (hc:Cyr gg G B w0) (F:List Blk) (hB:MSub B F):
 FnIn Tryz.prog 24 [.pointer (some ⟨gg,0,none⟩)] w0 F fun v H=> ∃ A c,v= .tuple #[sl A (mW G).length c,.int .i64 0]∧H= .own A 35 2 (mW G).length c ((mW G).flatMap aw)::F:=by
 refine bE Tryz.func24 rfl Tryz.ntmps24 rfl ?_;have hl:=hc.l;have hof:=xu hc F hB;repeat' (first|apply ak (f:=47);exact rfl;exact rfl;exact hof;rintro _ _ ⟨A,c,gm,A2,vs,Z,rfl,rfl,hFZ,hJ⟩;simp only [cyV,cyB]|apply aJ (f:=48);exact rfl;exact rfl;intro w' hm;exact Ee hl hJ mS hm A c _;rintro _ _ ⟨g5,rfl,rfl⟩;simp only [ig]|refine zZB ?_|refine sM fun _=>?_|refine sC ?_ ?_<;>intro hb<;>try omega|fail)
 all_goals try omega
 rename_i g4;refine aI 35 2 ?_;have hKl:(au G).length=G.length:=cC G;generalize hK:au G=K at*;refine ay [4,13,14] rfl (fun y:Nat × Option Nat × Nat=> [(5,sl y.2.1 ((List.range y.1).filter (ck G)).length y.2.2),(15,.int .i64 (y.1:Int))]) (fun y=> .own y.2.1 35 2 ((List.range y.1).filter (ck G)).length y.2.2 ((bQ K ((List.range y.1).filter (ck G))).flatMap aw):: .own (some g5) 4 1 K.length K.length (aH K.length (ck G)):: .box g4 101 [sl A K.length c,.map (some gm),.slice (some ⟨A2,0,none⟩) K.length K.length]:: .own A 35 2 K.length c (K.flatMap aw)::Z) (fun y=>y.1≤K.length) (fun y=>K.length - y.1) (0,none,0) (Vt _) sB mS ?_;rintro ⟨i,A3,c3⟩ hi;dsimp only at hi ⊢;by_cases hlt:i<K.length
 ·refine ba (A:=A) pK (by omega) fun ga hA=> ?_;subst hA;have hb1:=bV (f:=ck G) hlt;have hcc:=Rx hlt;have hts:=gZ (n:=i) (ck G);have hrl:=nQ (n:=i) (ck G);rw [← lW hlt] at hcc
  cases hcir:ck G i with
  |true=>
    rw [hcir] at hb1;rw [if_pos hcir] at hts;have hns:=lG K ((List.range i).filter (ck G)) i;generalize jq K i=a at hcc hns;repeat' (first|apply ai (d:=18);exact rfl;apply aa (j:=i);exact rfl;exact rfl;exact hlt|apply ai (d:=19);exact rfl;apply aq;exact rfl;exact pK;exact hb1|apply ai (d:=25);exact rfl;apply aa (j:=i);exact rfl;exact rfl;exact hlt|apply ai (d:=26);exact rfl;apply aD (ys:=aw a);exact rfl;exact pK;exact hcc;exact rfl|apply aG;(iterate 3 exact rfl);exact pK;exact pK;exact rfl;simp [aw,Value.oneCell'];omega;simp only [maxLen];omega;intro g8 c8|refine zZA ?_|refine sM fun _=>?_|refine sC ?_ ?_<;>intro hb<;>try omega|fail)
    all_goals first
     |omega
     | (refine ⟨(i + 1, some g8, c8), hlt, by dsimp only; omega, by dsimp only; rw [hts, List.length_append]; exact sB, by exact sB, ?_⟩
        dsimp only;rw [hts,hns,Vn,VF,WZ];exact mS)
  |false=>
    rw [hcir] at hb1;rw [if_neg (by rw [hcir];simp)] at hts;repeat' (first|apply ai (d:=18);exact rfl;apply aa (j:=i);exact rfl;exact rfl;exact hlt|apply ai (d:=19);exact rfl;apply aq;exact rfl;exact pK;exact hb1|refine zZA ?_|refine sM fun _=>?_|refine sC ?_ ?_<;>intro hb<;>try omega|fail)
    all_goals first
     |omega
     |refine ⟨(i+1,A3,c3),hlt,by dsimp only;omega,by dsimp only;rw [hts];exact sB,by exact sB,by dsimp only;rw [hts];exact mS⟩;done
 ·have e:i=K.length:=by omega
  subst e;have hcf:mW G=bQ K ((List.range K.length).filter (ck G)):=by
   unfold mW ccC;rw [hK,hKl]
  have hcl:=cQ K ((List.range K.length).filter (ck G));rw [← hcf] at hcl;rw [hcf];rw [hcf] at hcl;repeat' (first|refine zZA ?_|refine sM fun _=>?_|refine sC ?_ ?_<;>intro hb<;>try omega|fail)
  all_goals first
   |omega
   |exact dm (H' := .own A3 35 2 (bQ K ((List.range K.length).filter (ck G))).length c3 ((bQ K ((List.range K.length).filter (ck G))).flatMap aw)::F) eIO rfl rfl rfl (by rw [hcl];exact MSub.pick pK (MSub.trans hFZ mS)) ⟨A3,c3,by rw [hcl],rfl⟩
def cW (N:Nat) (f:Nat→List Nat) (n:Nat) (r:List Nat):Nx:=(List.range N).map fun p=>if p<n then f p else if p=n then r else []
theorem lF (N:Nat) (f:Nat→List Nat) (n:Nat) (r:List Nat):(cW N f n r).length=N:=by simp [cW]
theorem Fx {N:Nat} {f:Nat→List Nat} {n:Nat} {r:List Nat} (h:n<N):ax (cW N f n r) n=r:=by
 unfold ax cW;rw [VG,V7 h];simp
theorem BH {N:Nat} {f:Nat→List Nat} {n:Nat} {r r' :List Nat}:(cW N f n r).set n r' =cW N f n r' :=by
 apply WB;intro j;by_cases hj:j<N
 ·rw [Ya];unfold cW;rw [VG,VG,V7 hj];by_cases e:n=j
  ·subst e;rw [if_pos rfl,if_pos (by simpa using hj)];simp
  ·rw [if_neg e];simp only [Wq];by_cases h1:j<n
   ·rw [if_pos h1,if_pos h1]
   ·rw [if_neg h1,if_neg h1,if_neg (fun h=>e h.symm),if_neg (fun h=>e h.symm)]
 ·rw [VJ (by rw [Wr,lF];omega),VJ (by rw [lF];omega)]
theorem oQ (N:Nat) (f:Nat→List Nat) (n:Nat):cW N f n (f n)=cW N f (n+1) []:=by
 unfold cW;refine Wu fun p _=> ?_;by_cases h1:p<n
 ·rw [if_pos h1,if_pos (by omega)]
 ·rw [if_neg h1];by_cases h2:p=n
  ·subst h2;rw [if_pos rfl,if_pos (XH _)]
  ·rw [if_neg h2,if_neg (by omega)];split<;>rfl
theorem yg (N:Nat) (f:Nat→List Nat):cW N f 0 []=ub N:=by
 unfold cW ub;apply WB;intro j;by_cases hj:j<N
 ·rw [VG,V7 hj,XL,if_pos hj];simp
 ·rw [VJ (by simp;omega),VJ (by simp;omega)]
theorem oR (N:Nat) (f:Nat→List Nat):cW N f N []=(List.range N).map f:=by
 unfold cW;exact Wu fun p hp=>by rw [if_pos (VT.1 hp)]
def pI (X:Nx) (l:List Nat) (p:Nat):List Nat:=(ax X (atN l p)).map (iU l)
theorem F9 (X:Nx) (l:List Nat):(List.range l.length).map (pI X l)=df X l:=rfl
theorem RS {l:List Nat} (hn:l.Pairwise (· < ·)) {k:Nat} (h:k∈l): ∃ hi:iU l k<l.length,l[iU l k]=k:=by
 obtain ⟨i,hi,rfl⟩:=WM.1 h;have e:=ug hn hi;exact ⟨by rw [e];exact hi,by simp only [e]⟩
theorem Uo {l:List Nat} (ha:l.Pairwise (· < ·)) {k:Nat} (h:k∈l) (z:Value):(match co ((k:Nat):Int) (iR (zK l)) 0 with|some (_,v)=>v|none=>z)= .int .i64 ((iU l k:Nat):Int):=by
 obtain ⟨hi,hg⟩:=RS ha h;have hnd:l.Nodup:=ha.imp fun hab e=>by rw [e] at hab;exact W0 _ hab
 have h1:=y4 (EE hnd) (p:=iU l k) (by rw [CN];exact hi) z;have h2:(zK l)[iU l k]'(by rw [CN];exact hi)=((k:Nat):Int):=by
  simp only [zK,List.getElem_map,hg]
 rwa [h2] at h1
theorem sZ {gg:Nat} {G:Gr} {B:List Blk} {w0:World} (hc:Cyr gg G B w0) (F:List Blk) (hB:MSub B F):
 FnIn Tryz.prog 19 [.pointer (some ⟨gg,0,none⟩)] w0 F fun v H=> ∃ A c,v= .tuple #[sl A (iq G).length c,.int .i64 0]∧H= .own A 35 2 (iq G).length c ((iq G).flatMap aw)::F:=by
 refine bE Tryz.func19 rfl Tryz.ntmps19 rfl ?_;have hl:=hc.l;have hof:=xu hc F hB;repeat' (first|apply ak (f:=47);exact rfl;exact rfl;exact hof;rintro _ _ ⟨A,c,gm,A2,vs,Z,rfl,rfl,hFZ,hJ⟩;simp only [cyV,cyB]|apply aJ (f:=48);exact rfl;exact rfl;intro w' hm;exact Ee hl hJ mS hm A c _;rintro _ _ ⟨g5,rfl,rfl⟩;simp only [ig]|refine zZB ?_|refine sM fun _=>?_|refine sC ?_ ?_<;>intro hb<;>try omega|fail)
 all_goals try omega
 rename_i g4;refine aI 3 1 ?_;have hKl:(au G).length=G.length:=cC G;have hfa:=DN G;have hfm:=fun i=>xk (G:=G) (i:=i);have hsub:=yH G;have hoe:=RC G;have hup:=fun i k (hi:i∈frC G) (hk:k∈ax (aP G) i)=>Uf hi hk;have hro:=fun i=>xc hl i;have hfl: ∀ i,i≤G.length→((List.range i).filter fun v=> !ck G v).length≤900:=fun i hi=>VR (nQ _) (by omega);have hfe:(List.range G.length).filter (fun v=> !ck G v)=frC G:=rfl;have hJ2:=hJ.2;have hJ1:=hJ.1;have hgl:(aP G).length=G.length:=di G;have hox:iq G=bQ (au G) (AH G):=rfl;generalize hK:au G=K at*;refine ay [4,24,25] rfl (fun y:Nat × Option Nat × Nat=> [(5,sl y.2.1 ((List.range y.1).filter fun v=> !ck G v).length y.2.2),(26,.int .i64 (y.1:Int))]) (fun y=> .own y.2.1 3 1 ((List.range y.1).filter fun v=> !ck G v).length y.2.2 (nzC ((List.range y.1).filter fun v=> !ck G v)):: .own (some g5) 4 1 K.length K.length (aH K.length (ck G)):: .box g4 101 [sl A K.length c,.map (some gm),.slice (some ⟨A2,0,none⟩) K.length K.length]:: .own A 35 2 K.length c (K.flatMap aw):: .own (some A2) 104 1 K.length K.length vs::Z) (fun y=>y.1≤K.length) (fun y=>K.length - y.1) (0,none,0) (Vt _) sB mS ?_;rintro ⟨i,A3,c3⟩ hi;dsimp only at hi ⊢;by_cases hlt:i<K.length
 ·have hb1:=bV (f:=ck G) hlt;have hts:=gZ (n:=i) fun v=> !ck G v;have hrl:=hfl i (by omega)
  cases hcir:ck G i with
  |false=>
    rw [hcir] at hb1;rw [if_pos (by rw [hcir];rfl)] at hts;generalize ((List.range i).filter fun v=> !ck G v)=L at hts hrl;have hone:nzC L++ [.int .i64 (i:Int)]=nzC (L++ [i]):=by simp [nzC]
    repeat' first|apply ai (d:=29);exact rfl;apply aa (j:=i);exact rfl;exact rfl;exact hlt|apply ai (d:=30);exact rfl;apply aq;exact rfl;exact pK;exact hb1|apply aG;(iterate 3 exact rfl);exact pK;exact pK;exact rfl;simp [Value.oneCell'];omega;simp only [maxLen];omega;intro g8 c8|refine zZA ?_|refine sM fun _=>?_|refine sC ?_ ?_<;>intro hb<;>try omega|fail
    all_goals first
     |omega
     | (refine ⟨(i + 1, some g8, c8), hlt, by dsimp only; omega, by dsimp only; rw [hts, List.length_append]; exact sB, by exact sB, ?_⟩
        dsimp only;rw [hts,Vn,← hone];exact mS)
  |true=>
    rw [hcir] at hb1;rw [if_neg (by rw [hcir];simp)] at hts;repeat' (first|apply ai (d:=29);exact rfl;apply aa (j:=i);exact rfl;exact rfl;exact hlt|apply ai (d:=30);exact rfl;apply aq;exact rfl;exact pK;exact hb1|refine zZA ?_|refine sM fun _=>?_|refine sC ?_ ?_<;>intro hb<;>try omega|fail)
    all_goals first
     |omega
     |refine ⟨(i+1,A3,c3),hlt,by dsimp only;omega,by dsimp only;rw [hts];exact sB,by exact sB,by dsimp only;rw [hts];exact mS⟩;done
 ·have e:i=K.length:=by omega
  subst e;rw [hKl,hfe,← hKl];have hll:(frC G).length≤900:=by have:=hfl G.length (VA _);rwa [hfe] at this
  generalize hfr:frC G=l at*;have hnd:l.Nodup:=hfa.imp fun hab e=>by rw [e] at hab;exact W0 _ hab
  repeat' first|apply aJ (f:=68);exact rfl;exact rfl;intro w' hm;exact Gf l hnd (by omega) _ w' (Reads.of_own (A:=A3) (c:=c3) hm pK);rintro _ _ ⟨gn,rfl,rfl⟩|apply dK (c:=l.length);(iterate 3 exact rfl);omega;simp only [maxLen];omega;intro gx;(try simp only [og])|refine zZA ?_|refine sM fun _=>?_|refine sC ?_ ?_<;>intro hb<;>try omega|fail
  all_goals try omega
  have hpA: ∀ (J L:List Blk),MSub (L++(J++Z)) (J++(L++Z)):=fun J L=>MSub.of_perm (Xb J L Z);refine lB 3 l.length ?_;rw [← GM,← yg l.length (pI (aP G) l)]
  refine ay [4, 5, 8, 9, 43, 44] rfl (fun z : Nat × JA × List Blk => [(45, .int .i64 (z.1 : Int))]) (fun z => .own (some gx) 104 1 l.length l.length (dr (cW l.length (pI (aP G) l) z.1 []) z.2.1) :: .obj gn (cJ (fun z : Int => Value.int .i64 z) (iR (zK l)) l.length) :: .own A3 3 1 l.length c3 (nzC l) :: .box g4 101 [sl A K.length c, .map (some gm), .slice (some ⟨A2, 0, none⟩) K.length K.length] :: .own A 35 2 K.length c (K.flatMap aw) :: .own (some A2) 104 1 K.length K.length vs :: z.2.2) (fun z => z.1 ≤ l.length ∧ z.2.1.length = l.length ∧ (jT (cW l.length (pI (aP G) l) z.1 []) z.2.1 ++ Z).Perm z.2.2) (fun z => l.length - z.1) (0, fX l.length, jT (cW l.length (pI (aP G) l) 0 []) (fX l.length) ++ Z) ⟨Vt _, Xo, .refl _⟩ sB (by
   dsimp only;refine MSub.trans (hpA _ [_,_,_,_,_,_]) ?_;obtain ⟨T,hT⟩:MSub (.own (some gx) 104 1 l.length l.length (dr (cW l.length (pI (aP G) l) 0 []) (fX l.length)):: .obj gn (cJ (fun z:Int=>Value.int .i64 z) (iR (zK l)) l.length):: .own A3 3 1 l.length c3 (nzC l):: .box g4 101 [sl A K.length c,.map (some gm),.slice (some ⟨A2,0,none⟩) K.length K.length]:: .own A 35 2 K.length c (K.flatMap aw):: .own (some A2) 104 1 K.length K.length vs::Z) (.own (some gx) 104 1 l.length l.length (dr (cW l.length (pI (aP G) l) 0 []) (fX l.length))::([.obj gn (cJ (fun z:Int=>Value.int .i64 z) (iR (zK l)) l.length)]++ .own A3 3 1 l.length c3 (nzC l):: .own (some g5) 4 1 K.length K.length (aH K.length (ck G)):: .box g4 101 [sl A K.length c,.map (some gm),.slice (some ⟨A2,0,none⟩) K.length K.length]:: .own A 35 2 K.length c (K.flatMap aw):: .own (some A2) 104 1 K.length K.length vs::Z)):=by exact mS
   exact ⟨T,by rw [VC];exact hT.append_left _⟩) ?_
  clear hpA;rintro ⟨n,As,Zg⟩ ⟨hn,hAl,hZ⟩;dsimp only at hn hAl hZ ⊢;by_cases hnl:n<l.length
  ·have hi:=(hfm (atN l n)).1 (dM hnl);have hik:atN l n<K.length:=by omega
   have hel:=dh hnl;have hupn:=fun k=>hup (atN l n) k (dM hnl);obtain ⟨u,hu,hru⟩:=hJ2 (atN l n) (by omega);have hvu:vs[0+atN l n*1]? =some u:=by rw [VD,Wd];exact hu
   have hrn:=hro (atN l n);have hordn:pI (aP G) l n=(ax (aP G) (atN l n)).map (iU l):=rfl;generalize ax (aP G) (atN l n)=L at hru hrn hordn hupn;refine NI (lv:=u) (m:=L.length) (fun w' hm=>hru w' ((MSub.trans (MSub.trans (MSub.appR _ _) (MSub.of_perm hZ.symm)) mS:MSub Z _).use hm)) fun Ar cr hlv=> ?_;refine ba (A:=A3) pK (by omega) fun g3 hA=> ?_;subst hA;generalize atN l n=i at hik hel hvu;repeat' (first|apply ai (d:=48);exact rfl;apply aa (j:=n);exact rfl;exact rfl;exact hnl|apply ai (d:=49);exact rfl;apply aq;exact rfl;exact pK;exact hel|apply ai (d:=53);exact rfl;apply aa (j:=i);exact rfl;exact rfl;exact hik|apply ai (d:=54);exact rfl;apply aq;exact rfl;exact pK;exact hvu.trans (congrArg some hlv)|refine zZA ?_|refine sM fun _=>?_|refine sC ?_ ?_<;>intro hb<;>try omega|fail)
   all_goals try omega
   subst hlv;refine ay [4,5,8,9,10,11,43,44,45,54,55] rfl (fun z:Nat × JA × List Blk=> [(56,.int .i64 (z.1:Int))]) (fun z=> .own (some gx) 104 1 l.length l.length (dr (cW l.length (pI (aP G) l) n ((L.take z.1).map (iU l))) z.2.1):: .obj gn (cJ (fun z:Int=>Value.int .i64 z) (iR (zK l)) l.length):: .own (some g3) 3 1 l.length c3 (nzC l):: .box g4 101 [sl A K.length c,.map (some gm),.slice (some ⟨A2,0,none⟩) K.length K.length]:: .own A 35 2 K.length c (K.flatMap aw):: .own (some A2) 104 1 K.length K.length vs::z.2.2) (fun z=>z.1≤L.length∧z.2.1.length=l.length∧(jT (cW l.length (pI (aP G) l) n ((L.take z.1).map (iU l))) z.2.1++Z).Perm z.2.2) (fun z=>L.length - z.1) (0,As,Zg) ⟨Vt _,hAl,hZ⟩ sB mS ?_;clear hZ hAl;rintro ⟨m,As,Zg⟩ ⟨hm,hAl,hZ⟩;dsimp only at hm hAl hZ ⊢;by_cases hlm:m<L.length
   ·have hZs: ∀ (b1 b2 b3 b4 b5 b6:Blk),MSub Z (b1::b2::b3::b4::b5::b6::Zg):=fun _ _ _ _ _ _=>MSub.trans (MSub.trans (MSub.appR _ _) (MSub.of_perm hZ.symm)) mS;refine J6 (lv:= .slice Ar L.length cr) (m:=L.length) (fun w' hm=>hru w' ((hZs _ _ _ _ _ _).use hm)) (by omega) fun gr orr cr2 hlv=> ?_;injection hlv with e1 e2 e3;subst e1;have hcl: ∀ (H:List Blk),MSub Z H→ ∀ w',Mem w0 w' H→Cells w' gr orr (nzC L):=fun H hs w' hm=>uF (hru w' (hs.use hm)) (by omega);have hem:=vn hlm;have hkl:=hupn _ (dM hlm);have htk:(L.take (m+1)).map (iU l)=(L.take m).map (iU l)++ [iU l (atN L m)]:=by rw [Vu hlm,eE hlm,Wj];rfl
    have hzl:=fun z=>Uo hfa hkl z;have hX:=lF l.length (pI (aP G) l) n ((L.take m).map (iU l));have hcell:=jw (X:=cW l.length (pI (aP G) l) n ((L.take m).map (iU l))) (As:=As) (i:=n) (by omega) (by omega);obtain ⟨Rs,hR1,hR2⟩:=oo (X:=cW l.length (pI (aP G) l) n ((L.take m).map (iU l))) (As:=As) (i:=n) (by omega) (by omega);have hvset:=fun r a=>oh (X:=cW l.length (pI (aP G) l) n ((L.take m).map (iU l))) (As:=As) (i:=n) r a (by omega);have hvl:=l9 (X:=cW l.length (pI (aP G) l) n ((L.take m).map (iU l))) (As:=As) (by omega);rw [Fx hnl] at hcell hR1;simp only [BH] at hR2 hvset;rcases hak:As[n] with ⟨a1,a2⟩;rw [hak] at hcell hR1;dsimp only at hcell hR1;have hcell:(dr (cW l.length (pI (aP G) l) n ((L.take m).map (iU l))) As)[0+n*1]? =some (sl a1 ((L.take m).map (iU l)).length a2):=by rw [VD,Wd];exact hcell
    have hZ2:=hZ.symm.trans (hR1.append_right Z);have hbl:((L.take m).map (iU l)).length≤1000:=by rw [VK,VQ];omega
    have hRZ: ∀ (b1 b2 b3 b4 b5 b6 b7:Blk),MSub Z (b1::b2::b3::b4::b5::b6::b7::(Rs++Z)):=fun _ _ _ _ _ _ _=>MSub.trans (MSub.appR _ _) mS;refine kI (.own a1 3 1 ((L.take m).map (iU l)).length a2 (nzC ((L.take m).map (iU l))):: .own (some gx) 104 1 l.length l.length (dr (cW l.length (pI (aP G) l) n ((L.take m).map (iU l))) As):: .obj gn (cJ (fun z:Int=>Value.int .i64 z) (iR (zK l)) l.length):: .own (some g3) 3 1 l.length c3 (nzC l):: .box g4 101 [sl A K.length c,.map (some gm),.slice (some ⟨A2,0,none⟩) K.length K.length]:: .own A 35 2 K.length c (K.flatMap aw):: .own (some A2) 104 1 K.length K.length vs::(Rs++Z)) (MSub.trans (by exact mS:MSub _ (.own (some gx) 104 1 l.length l.length (dr (cW l.length (pI (aP G) l) n ((L.take m).map (iU l))) As):: .obj gn (cJ (fun z:Int=>Value.int .i64 z) (iR (zK l)) l.length):: .own (some g3) 3 1 l.length c3 (nzC l):: .box g4 101 [sl A K.length c,.map (some gm),.slice (some ⟨A2,0,none⟩) K.length K.length]:: .own A 35 2 K.length c (K.flatMap aw):: .own (some A2) 104 1 K.length K.length vs:: .own a1 3 1 ((L.take m).map (iU l)).length a2 (nzC ((L.take m).map (iU l)))::(Rs++Z))) (MSub.of_perm ((((((hZ2.cons _).cons _).cons _).cons _).cons _).cons _))) ?_;clear hak hX;generalize atN L m=k at hem hkl htk hzl;generalize (L.take m).map (iU l)=Fr at*;generalize hp:iU l k=p at*;have hone:nzC Fr++ [.int .i64 (p:Int)]=nzC (Fr++ [p]):=by simp [nzC]
    have hol:(Fr++ [p]).length=Fr.length+1:=by simp
    repeat' first|apply ai (d:=58);exact rfl;apply aa (j:=m);exact rfl;exact rfl;exact hlm|apply ai (d:=59);exact rfl;apply nJ (off:=m*1);intro w' hm;exact hcl _ (hRZ _ _ _ _ _ _ _) w' hm;exact rfl;rw [Wd];exact hem|refine zZA ?_|refine sM fun _=>?_|refine sC ?_ ?_<;>intro hb<;>try omega|fail
    all_goals try omega
    refine oJ (id:=19) [5,9,10,12] [.obj gn (cJ (fun z:Int=>Value.int .i64 z) (iR (zK l)) l.length)] 13 rfl rfl mS ?_;repeat' (first|apply cD (i:=4);(iterate 4 exact rfl);(iterate 3 decide+kernel);apply aa (j:=n);exact rfl;exact rfl;exact hnl|apply cD (i:=11);(iterate 4 exact rfl);(iterate 3 decide+kernel);apply aa (j:=n);exact rfl;exact rfl;exact hnl|apply cD (i:=8);(iterate 4 exact rfl);(iterate 3 decide+kernel);apply kv (enc:=fun z:Int=>Value.int .i64 z) (k:=(k:Int));exact rfl;exact rfl;exact pK;exact hzl _|apply cD (i:=0);(iterate 4 exact rfl);(iterate 3 decide+kernel);exact vC|apply cD (i:=1);(iterate 4 exact rfl);(iterate 3 decide+kernel);exact vC|apply cD (i:=2);(iterate 4 exact rfl);(iterate 3 decide+kernel);exact vC|apply cD (i:=3);(iterate 4 exact rfl);(iterate 3 decide+kernel);exact vC|apply cD (i:=6);(iterate 4 exact rfl);(iterate 3 decide+kernel);exact vC|apply cD (i:=7);(iterate 4 exact rfl);(iterate 3 decide+kernel);exact vC|apply xG (i:=5) (j:=9);(iterate 6 exact rfl);decide+kernel|apply ep (i:=5);(iterate 3 exact rfl);decide+kernel|apply ep (i:=9);(iterate 3 exact rfl);decide+kernel|apply ep (i:=10);(iterate 3 exact rfl);decide+kernel|apply ep (i:=12);(iterate 3 exact rfl);decide+kernel|apply oI;decide+kernel|apply Ht;(focus (exact mS;done))|apply ai (d:=65);exact rfl;apply aq;exact rfl;exact pK;exact hcell|apply aG;(iterate 3 exact rfl);exact pK;exact pK;exact rfl;simp [Value.oneCell'];omega;simp only [maxLen];omega;intro g8 c8|apply aW (g:=gx);exact rfl;exact rfl;exact pK;exact rfl;rw [hvl,lF];omega;rw [VD,Wd]|refine zZB ?_|refine sM fun _=>?_|refine sC ?_ ?_<;>intro hb<;>try omega|fail)
    repeat' first|refine zZA ?_|refine sM fun _=>?_|refine sC ?_ ?_<;>intro hb<;>try omega|fail
    all_goals first
     |omega
     | (have hv1 := hvset (Fr ++ [p]) (some g8, c8)
        have hr1:=(hR2 (Fr++ [p]) (some g8,c8)).append_right Z;refine ⟨(m+1,As.set n (some g8,c8),.own (some g8) 3 1 (Fr++ [p]).length c8 (nzC (Fr++ [p]))::(Rs++Z)),⟨hlm,by dsimp only;rw [List.length_set];exact hAl,by dsimp only;rw [htk];exact hr1⟩,by dsimp only;omega,by exact sB,by exact sB,?_⟩;dsimp only;rw [htk,hv1,hol,← hone];exact mS)
   ·have hm2:m=L.length:=by omega
    subst hm2;rw [V1,← hordn,oQ] at hZ;rw [V1,← hordn,oQ];repeat' (first|refine zZA ?_|refine sM fun _=>?_|refine sC ?_ ?_<;>intro hb<;>try omega|fail)
    all_goals first
     |omega
     |refine ⟨(n+1,As,Zg),⟨hnl,hAl,hZ⟩,by dsimp only;omega,by exact sB,by exact sB,by exact mS⟩;done
  ·have hn2:n=l.length:=by omega
   subst hn2;rw [oR,F9] at hZ;rw [oR,F9];have hYl:(df (aP G) l).length=l.length:=hsub.len;have hJY:JIn Zg (dr (df (aP G) l) As) (df (aP G) l):=(DF (X:=df (aP G) l) (As:=As) (by rw [hYl];exact hAl)).mono (MSub.trans (MSub.appL _ _) (MSub.of_perm hZ.symm));have hFZg:MSub F Zg:=MSub.trans (MSub.trans hFZ (MSub.appR _ _)) (MSub.of_perm hZ.symm);have hYr: ∀ i,(ax (df (aP G) l) i).length≤1000:=fun i=>by
    unfold ax df;rw [VG];by_cases h:i<l.length
    ·rw [V7 h];show ((ax (aP G) _).map _).length≤_;rw [VK];exact hro _
    ·rw [VJ (by simpa using h)];exact Vt _
   have hTo: ∀ (w' :World) (H:List Blk),MSub (.own (some gx) 104 1 l.length l.length (dr (df (aP G) l) As)::Zg) H→Mem w0 w' H→FnAt Tryz.prog 52 [.slice (some ⟨gx,0,none⟩) l.length l.length] w' fun u H=> ∃ A c Z,u= .tuple #[sl A (cV (df (aP G) l)).length c,.int .i64 0]∧H= .own A 3 1 (cV (df (aP G) l)).length c (nzC (cV (df (aP G) l)))::Z:=fun w' H hs hm=>by
    have h1:=hs.use hm;rw [← hYl] at h1 ⊢;exact KW (df (aP G) l) (fun p q hq=>by rw [hYl];exact hsub.ok p q hq) (by omega) hYr (fun p hp=>hsub.acy p (by omega)) _ w' (hJY.rd h1)
   have hperm:=hsub.topo.2;have hTl:(cV (df (aP G) l)).length=l.length:=by rw [hperm.length_eq,We]
   have hTm: ∀ x∈cV (df (aP G) l),x<l.length:=fun x hx=>VT.1 (hperm.mem_iff.1 hx);have hfinal:bQ K ((cV (df (aP G) l)).map (atN l))=iq G:=by
    rw [hox,← hoe]
    rfl
   generalize cV (df (aP G) l)=T at*;repeat' (first|apply aJ (f:=52);exact rfl;exact rfl;intro w' hm;exact hTo w' _ mS hm;rintro _ _ ⟨A7,c7,Z7,rfl,rfl⟩;refine kU (_::_) (MSub.pick .hd (MSub.appR _ Z7)) ?_|refine zZA ?_|refine sM fun _=>?_|refine sC ?_ ?_<;>intro hb<;>try omega|fail)
   all_goals try omega
   refine aI 35 2 ?_;refine ay [4,5,15,79,80] rfl (fun y:Nat × Option Nat × Nat=> [(16,sl y.2.1 y.1 y.2.2),(81,.int .i64 (y.1:Int))]) (fun y=> .own y.2.1 35 2 y.1 y.2.2 ((bQ K ((T.take y.1).map (atN l))).flatMap aw):: .own A7 3 1 T.length c7 (nzC T):: .own A3 3 1 l.length c3 (nzC l):: .box g4 101 [sl A K.length c,.map (some gm),.slice (some ⟨A2,0,none⟩) K.length K.length]:: .own A 35 2 K.length c (K.flatMap aw)::Zg) (fun y=>y.1≤T.length) (fun y=>T.length - y.1) (0,none,0) (Vt _) sB mS ?_;rintro ⟨t,A9,c9⟩ ht;dsimp only at ht ⊢;by_cases htl:t<T.length
   ·have hel:=dh htl;have hpl:=hTm _ (dM htl);have hst:(T.take (t+1)).map (atN l)=(T.take t).map (atN l)++ [atN l (atN T t)]:=by rw [Vu htl,eE htl,Wj];rfl
    generalize atN T t=p at hel hpl hst;have hl1:=dh hpl;have hil:=((hfm (atN l p)).1 (dM hpl)).1;have hiK:atN l p<K.length:=by omega
    have hcc:=Rx hiK;rw [← lW hiK] at hcc;have hns:bQ K ((T.take (t+1)).map (atN l))=bQ K ((T.take t).map (atN l))++ [jq K (atN l p)]:=by rw [hst,lG]
    generalize atN l p=q at hl1 hiK hcc hns;generalize jq K q=a at hcc hns;refine ba (A:=A7) pK (by omega) fun g7 hA=> ?_;subst hA;refine ba (A:=A3) pK (by omega) fun g3 hA=> ?_;subst hA;refine ba (A:=A) pK (by omega) fun ga hA=> ?_;subst hA;repeat' (first|apply ai (d:=83);exact rfl;apply aa (j:=t);exact rfl;exact rfl;exact htl|apply ai (d:=84);exact rfl;apply aq;exact rfl;exact pK;exact hel|refine zZA ?_|refine sM fun _=>?_|refine sC ?_ ?_<;>intro hb<;>try omega|fail)
    all_goals try omega
    refine oJ (id:=27) [9,10] [.own (some g3) 3 1 l.length c3 (nzC l),.box g4 101 [sl (some ga) K.length c,.map (some gm),.slice (some ⟨A2,0,none⟩) K.length K.length],.own (some ga) 35 2 K.length c (K.flatMap aw)] 12 rfl rfl mS ?_;repeat' (first|apply cD (i:=5);(iterate 4 exact rfl);(iterate 3 decide+kernel);apply aa (j:=p);exact rfl;exact rfl;exact hpl|apply cD (i:=6);(iterate 4 exact rfl);(iterate 3 decide+kernel);apply aq;exact rfl;exact pK;exact hl1|apply cD (i:=7);(iterate 4 exact rfl);(iterate 3 decide+kernel);apply aa (j:=q);exact rfl;exact rfl;exact hiK|apply cD (i:=8);(iterate 4 exact rfl);(iterate 3 decide+kernel);apply aD (ys:=aw a);exact rfl;exact pK;exact hcc;exact rfl|apply cD (i:=0);(iterate 4 exact rfl);(iterate 3 decide+kernel);exact vC|apply cD (i:=1);(iterate 4 exact rfl);(iterate 3 decide+kernel);exact vC|apply cD (i:=2);(iterate 4 exact rfl);(iterate 3 decide+kernel);exact vC|apply cD (i:=3);(iterate 4 exact rfl);(iterate 3 decide+kernel);exact vC|apply cD (i:=4);(iterate 4 exact rfl);(iterate 3 decide+kernel);exact vC|apply cD (i:=11);(iterate 4 exact rfl);(iterate 3 decide+kernel);apply xS;exact rfl|apply ep (i:=9);(iterate 3 exact rfl);decide+kernel|apply ep (i:=10);(iterate 3 exact rfl);decide+kernel|apply oI;decide+kernel|apply Ht;(focus (exact mS;done))|apply aG;(iterate 3 exact rfl);exact pK;exact pK;exact rfl;simp [aw,Value.oneCell'];omega;simp only [maxLen];omega;intro g8 c8|refine zZB ?_|refine sM fun _=>?_|refine sC ?_ ?_<;>intro hb<;>try omega|fail)
    repeat' first|refine zZA ?_|refine sM fun _=>?_|refine sC ?_ ?_<;>intro hb<;>try omega|fail
    all_goals first
     |omega
     | (refine ⟨(t + 1, some g8, c8), htl, by dsimp only; omega, by exact sB, by exact sB, ?_⟩
        dsimp only;rw [hns,VF,WZ];exact mS)
   ·have ht2:t=T.length:=by omega
    subst ht2;rw [V1,hfinal];have hol2:(iq G).length=T.length:=by rw [← hfinal,cQ,VK]
    repeat' first|refine zZA ?_|refine sM fun _=>?_|refine sC ?_ ?_<;>intro hb<;>try omega|fail
    all_goals first
     |omega
     |exact dm (H' := .own A9 35 2 (iq G).length c9 ((iq G).flatMap aw)::F) eIO rfl rfl rfl (by rw [hol2];exact MSub.pick pK (MSub.trans hFZg mS)) ⟨A9,c9,by rw [hol2],rfl⟩
theorem LX (c r:Int) (w:World):aF Tryz.prog 67 [.int .i64 c,.int .i64 r] w (.agg (aw ⟨c,r⟩).toArray):=by
 refine aA Tryz.func67 rfl Tryz.ntmps67 rfl ?_;repeat' (first|refine zZB ?_|refine sM fun _=>?_|refine sC ?_ ?_<;>intro hb<;>try omega|fail)
 all_goals ((refine eRC ?_);rfl)
theorem Kk {gg:Nat} {G:Gr} {B:List Blk} {w0:World} (hc:Cyr gg G B w0) (F:List Blk) (hB:MSub B F) {L1 L2 L3:List Rf} (h1:l5 G=L1) (h2:mW G=L2) (h3:iq G=L3) (a1 a2 a3:Value)
 (r1: ∀ H w,MSub F H→Mem w0 w H→Reads w a1 L1.length (L1.flatMap aw)) (r2: ∀ H w,MSub F H→Mem w0 w H→Reads w a2 L2.length (L2.flatMap aw)) (r3: ∀ H w,MSub F H→Mem w0 w H→Reads w a3 L3.length (L3.flatMap aw)):
 FnIn Tryz.prog 66 [.pointer (some ⟨gg,0,none⟩),a1,a2,a3] w0 F fun v H=>v= .bool true∧H=F:=by
 refine bE Tryz.func66 rfl Tryz.ntmps66 rfl ?_;have hl:=fun H (hs:MSub B H)=>zW hc H hs;have hci:=fun H (hs:MSub B H)=>rO hc H hs;have ho:=fun H (hs:MSub B H)=>sZ hc H hs;rw [h1] at hl;rw [h2] at hci;rw [h3] at ho;repeat' (first|apply ak (f:=23);exact rfl;exact rfl;exact hl _ (MSub.trans hB mS);rintro _ _ ⟨A1,c1,rfl,rfl⟩|apply ak (f:=24);exact rfl;exact rfl;exact hci _ (MSub.trans hB mS);rintro _ _ ⟨A2,c2,rfl,rfl⟩|apply ak (f:=19);exact rfl;exact rfl;exact ho _ (MSub.trans hB mS);rintro _ _ ⟨A3,c3,rfl,rfl⟩|apply ag (d:=43);exact rfl;exact rfl;intro w' hm;exact eG rfl (Reads.of_own (A:=A1) (c:=c1) hm pK) (r1 _ w' mS hm)|apply ag (d:=48);exact rfl;exact rfl;intro w' hm;exact eG rfl (Reads.of_own (A:=A2) (c:=c2) hm pK) (r2 _ w' mS hm)|apply ag (d:=53);exact rfl;exact rfl;intro w' hm;exact eG rfl (Reads.of_own (A:=A3) (c:=c3) hm pK) (r3 _ w' mS hm)|refine zZB ?_|refine sM fun _=>?_|refine sC ?_ ?_<;>intro hb<;>try omega|fail)
 all_goals first
  |omega
  |exact bp eIO rfl rfl mS ⟨rfl,rfl⟩
def UZ:ByteArray:=⟨#[61,65,52]⟩
def G9:Gr:=(gL exG ⟨2,3⟩ UZ).1
theorem TG:gL exG ⟨2,3⟩ UZ=(G9,0):=Prod.ext rfl (by decide+kernel)
theorem UL:l5 exG= []:=by decide+kernel
theorem UN:mW exG= []:=by decide+kernel
theorem UJ:iq exG= [⟨1,2⟩,⟨1,3⟩,⟨1,4⟩]:=by decide+kernel
theorem UK:l5 G9= [⟨1,3⟩,⟨2,3⟩,⟨1,4⟩]:=by decide+kernel
theorem UM:mW G9= [⟨1,3⟩,⟨2,3⟩,⟨1,4⟩]:=by decide+kernel
theorem UI:iq G9= [⟨1,2⟩]:=by decide+kernel
theorem JL {G:Gr} {L:List Rf} {S l:List Nat} {M:List Rf} (h:mA (au G) (ck G) L []=(S,0)) (hp:l.Perm S) (hs:l.Pairwise (· < ·)) (hr:bQ (au G) (dP G l)=M):lA G L=M∧iA G L=0:=by
 have he:iA G L=0:=by unfold iA;rw [h]
 have e:fB S=l:=by
  have h1:(fB S).Pairwise (· ≤ ·):=qI S;have hnd:(fB S).Nodup:=((dZ S).trans hp.symm).nodup_iff.2 (hs.imp fun hab e=>by rw [e] at hab;exact W0 _ hab);exact JK ((Yz.2 ⟨h1,hnd⟩).imp fun ⟨h4,h5⟩=>YO h4 h5) hs fun v=>((dZ S).trans hp.symm).mem_iff
 refine ⟨?_,he⟩;unfold lA;rw [if_pos he,h];dsimp only;rw [e,hr]
theorem Uh {G:Gr} {L:List Rf} {S:List Nat} {e:Int} (h:mA (au G) (ck G) L []=(S,e)) (h0:e≠0):lA G L= []∧iA G L=e:=by
 have he:iA G L=e:=by unfold iA;rw [h]
 exact ⟨if_neg (by rw [he];exact h0),he⟩
theorem Vk:lA exG [⟨1,4⟩,⟨1,2⟩]= [⟨1,2⟩,⟨1,4⟩]∧iA exG [⟨1,4⟩,⟨1,2⟩]=0:=JL (S:= [2,0]) (l:= [0,2]) (by decide+kernel) (by decide) (by decide) (by decide+kernel)
theorem Vj:lA exG [⟨1,4⟩,⟨1,3⟩]= [⟨1,3⟩,⟨1,4⟩]∧iA exG [⟨1,4⟩,⟨1,3⟩]=0:=JL (S:= [2,1]) (l:= [1,2]) (by decide+kernel) (by decide) (by decide) (by decide+kernel)
theorem Vi:lA G9 [⟨1,4⟩]= []∧iA G9 [⟨1,4⟩]=13:=Uh (S:= []) (by decide+kernel) (by decide)
section
variable {G:Gr}
theorem kA {i:Nat} (h:i<G.length): ∃ hk:i<(au G).length,jq (au G) i=(au G)[i]:=⟨by rw [cC];exact h,lW _⟩
open Classical in
theorem sq {a b:Nat} (ha:a<G.length) (hb:b<G.length):js G (jq (au G) a) (jq (au G) b)=aQ G G.length a b:=by
 obtain ⟨h1,e1⟩:=kA ha;obtain ⟨h2,e2⟩:=kA hb;rw [e1,e2,V3];unfold js;rw [decide_eq_true_eq];exact (P7 (Vo h1) (Vo h2)).symm
theorem si (hG:GrOk G) {a:Nat} (h:a<G.length):(jq (au G) a).valid=true:=by
 obtain ⟨h1,e1⟩:=kA h;rw [e1];exact qN hG (VL h1)
theorem uSP {l:List Nat} (h:SomeOk G l):(dP G l).Perm l:=by
 rw [← h.eq];have h1:=h.sub.topo.2.map fun p=>(l[p]?).getD 0;refine h1.trans ?_;have:(List.range l.length).map (fun p=>(l[p]?).getD 0)=l:=by
  apply WB;intro j;by_cases hj:j<l.length
  ·rw [VG,V7 hj,Vo hj];simp [hj]
  ·rw [VJ (by simp;omega),VJ (by omega)]
 rw [this]
theorem tQ {i:Nat}:i∈AH G↔i∈frC G:=(uSP (nu G)).mem_iff
end
section
variable {G:Gr}
theorem CC {i:Nat}:ck G i=true↔aQ G G.length i i=true∨ ∃ k,k<G.length∧kJ G i k=true∧ck G k=true:=by
 rw [oD,yZ];constructor
 ·rintro ⟨u,hu,r⟩
  cases r with
  |refl=>exact .inl hu
  |step h r=>exact .inr ⟨_,(qH (ju.1 h)).2,ju.1 h,oD.2 ⟨u,hu,r⟩⟩
 ·rintro (h|⟨k,_,ht,hc⟩)
  ·exact ⟨i,h,.refl i⟩
  ·obtain ⟨u,hu,r⟩:=oD.1 hc;exact ⟨u,hu,.step (ju.2 ht) r⟩
theorem tW (hG:GrOk G) {l:List Nat} (hl: ∀ j∈l,j<G.length) {i:Nat} (hi:i<(au G).length):((au G)[i]∈bQ (au G) l)↔i∈l:=by
 constructor
 ·intro h;obtain ⟨j,hj,e⟩:=VM.1 h;obtain ⟨hk,e2⟩:=kA (hl j hj);rw [e2] at e;have h1:=uh hG.sort.nodup hk;rw [e,uh hG.sort.nodup hi] at h1;rw [h1];exact hj
 ·intro h;refine VM.2 ⟨i,h,lW hi⟩
structure PrtF (G:Gr) (Lp C O K:List Rf):Prop where
 cnt:C.length+O.length=K.length
 nil:decide ((Lp.length:Int)=0)=decide ((C.length:Int)=0)
 lp: ∀ i (h:i<K.length),decide (K[i]∈Lp)=js G K[i] K[i]
 us: ∀ i (h:i<K.length),decide (K[i]∈C)=(decide (K[i]∈Lp)||C.any fun c=>decide (K[i]∈eU G (dU c.col c.row)))
 od: ∀ i (h:i<K.length),decide (K[i]∈O)= !decide (K[i]∈C)
theorem qM {i:Nat}:i∈lpC G↔i<G.length∧aQ G G.length i i=true:=by unfold lpC;rw [Wx,VT]
theorem mX {i:Nat}:i∈ccC G↔i<G.length∧ck G i=true:=by unfold ccC;rw [Wx,VT]
theorem Pw {i:Nat}:i∈frC G↔i<G.length∧ck G i=false:=by unfold frC;rw [Wx,VT,XO]
theorem G3 (p:Nat→Bool): ∀ l:List Nat,(l.filter p).length+(l.filter fun i=> !p i).length=l.length
 | []=>rfl
 |a::l=>by
  have h:=G3 p l;simp only [XC,Vw];cases p a<;>simp<;>omega
theorem UV (hG:GrOk G):PrtF G (l5 G) (mW G) (iq G) (au G):=by
 have hlt: ∀ {i} (h:i<(au G).length),i<G.length:=fun h=>by rwa [cC] at h
 refine ⟨?_,?_,fun i h=> ?_,fun i h=> ?_,fun i h=> ?_⟩
 ·unfold mW iq AH;rw [cQ,cQ,(nu G).sort_len,cC];have h1:=G3 (ck G) (List.range G.length);rw [We] at h1;exact h1
 ·unfold l5 mW;rw [cQ,cQ,decide_eq_decide];have e1: ∀ n:Nat,((n:Int)=0)↔n=0:=fun n=>by omega
  rw [e1,e1,WW,WW];constructor
  ·intro h;refine YB.2 fun i hi=> ?_;obtain ⟨h1,h2⟩:=mX.1 hi;obtain ⟨u,hu,r⟩:=oD.1 h2;have h3:aQ G G.length u u=true:=yZ.2 hu;have h4:u<G.length:=by
    obtain ⟨m,hm,_⟩:=hu;exact (qH (ju.1 hm)).1
   have h5:=qM.2 ⟨h4,h3⟩;rw [h] at h5;cases h5
  ·intro h;refine YB.2 fun i hi=> ?_;obtain ⟨h1,h2⟩:=qM.1 hi;have h5:=mX.2 ⟨h1,CC.2 (.inl h2)⟩;rw [h] at h5;cases h5
 ·have hi:=hlt h;have h1:=sq (G:=G) hi hi;rw [lW h] at h1;rw [h1,V3,decide_eq_true_eq];unfold l5;rw [tW hG (fun j hj=>(qM.1 hj).1) h,qM];exact ⟨fun h=>h.2,fun h2=>⟨hi,h2⟩⟩
 ·have hi:=hlt h;have hkm:(au G)[i]∈au G:=VL h;rw [V3,Xt,Xg,decide_eq_true_eq,decide_eq_true_eq];unfold mW l5;rw [tW hG (fun j hj=>(mX.1 hj).1) h,tW hG (fun j hj=>(qM.1 hj).1) h,mX,qM,CC];have hu: ∀ k,k<G.length→((au G)[i]∈eU G (dU (jq (au G) k).col (jq (au G) k).row)↔kJ G i k=true):=fun k hk=>by
   obtain ⟨h1,e1⟩:=kA hk;rw [Mx hG.sort (by rw [yt];exact si hG hk) hkm,pU];constructor
   ·intro h2;exact ⟨_,_,Vo h,Vo h1,by rw [← e1];exact h2⟩
   ·rintro ⟨c,d,h2,h3,h4⟩;rw [Vo h] at h2;rw [Vo h1] at h3;cases h2;cases h3;rw [e1];exact h4
  constructor
  ·rintro ⟨_,h2|⟨k,hk,ht,hc⟩⟩
   ·exact .inl ⟨hi,h2⟩
   ·exact .inr ⟨_,VM.2 ⟨k,mX.2 ⟨hk,hc⟩,rfl⟩,decide_eq_true ((hu k hk).2 ht)⟩
  ·rintro (⟨_,h2⟩|⟨c,hc,h2⟩)
   ·exact ⟨hi,.inl h2⟩
   ·obtain ⟨k,hk,rfl⟩:=VM.1 hc;obtain ⟨hk1,hk2⟩:=mX.1 hk;exact ⟨hi,.inr ⟨k,hk1,(hu k hk1).1 (of_decide_eq_true h2),hk2⟩⟩
 ·have hi:=hlt h;rw [V3,XO,decide_eq_true_eq,decide_eq_false_iff_not];unfold iq mW;rw [tW hG (fun j hj=>(nu G).lt j (tQ.1 hj)) h,tW hG (fun j hj=>(mX.1 hj).1) h,tQ,Pw,mX];constructor
  ·rintro ⟨_,h2⟩ ⟨_,h3⟩;rw [h2] at h3;cases h3
  ·intro h2;refine ⟨hi,?_⟩
   cases h3:ck G i with
   |false=>rfl
   |true=>exact absurd ⟨hi,h3⟩ h2
end
end Go.SL

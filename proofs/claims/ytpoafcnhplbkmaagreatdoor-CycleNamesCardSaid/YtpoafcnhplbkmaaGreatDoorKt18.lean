/-
  Lemmas and walks, put together: Zp Zv Zq Zw Zy.
-/
import Derived.Test.YtpoafcnhplbkmaaGreatDoorKt17
set_option linter.unusedSimpArgs false
set_option linter.unusedVariables false
set_option maxRecDepth 20000
set_option maxHeartbeats 16000000
namespace Go.SL
open Go Go.Proofs Go.RowKit
attribute [local irreducible] W WL WQ WG WA WX WLI WR WT WC WE VOp RW thn blk aW scp aJ aS bg FnAt FnIn FnP ceP
def aX (N:Nat) (f:Nat→List Nat) (n:Nat) (r:List Nat):Nx:=(List.range N).map fun p=>if p<n then f p else if p=n then r else []
theorem fM (N:Nat) (f:Nat→List Nat) (n:Nat) (r:List Nat):(aX N f n r).length=N:=by simp [aX]
theorem uI {N:Nat} {f:Nat→List Nat} {n:Nat} {r:List Nat} (h:n<N):aj (aX N f n r) n=r:=by
 unfold aj aX;rw [Iy,IY h];simp
theorem qO {N:Nat} {f:Nat→List Nat} {n:Nat} {r r' :List Nat}:(aX N f n r).set n r' =aX N f n r' :=by
 apply Js;intro j;by_cases hj:j<N
 ·rw [KF];unfold aX;rw [Iy,Iy,IY hj];by_cases e:n=j
  ·subst e;rw [if_pos rfl,if_pos (by simpa using hj)];simp
  ·rw [if_neg e];simp only [JB];by_cases h1:j<n
   ·rw [if_pos h1,if_pos h1]
   ·rw [if_neg h1,if_neg h1,if_neg (fun h=>e h.symm),if_neg (fun h=>e h.symm)]
 ·rw [IC (by rw [Jo,fM];omega),IC (by rw [fM];omega)]
theorem iX (N:Nat) (f:Nat→List Nat) (n:Nat):aX N f n (f n)=aX N f (n+1) []:=by
 unfold aX;refine Jj fun p _=> ?_;by_cases h1:p<n
 ·rw [if_pos h1,if_pos (by omega)]
 ·rw [if_neg h1];by_cases h2:p=n
  ·subst h2;rw [if_pos rfl,if_pos (Kd _)]
  ·rw [if_neg h2,if_neg (by omega)];split<;>rfl
theorem oO (N:Nat) (f:Nat→List Nat):aX N f 0 []=lG N:=by
 unfold aX lG;apply Js;intro j;by_cases hj:j<N
 ·rw [Iy,IY hj,JY,if_pos hj];simp
 ·rw [IC (by simp;omega),IC (by simp;omega)]
theorem iY (N:Nat) (f:Nat→List Nat):aX N f N []=(List.range N).map f:=by
 unfold aX;exact Jj fun p hp=>by rw [if_pos (IJ.1 hp)]
def jl (X:Nx) (l:List Nat) (p:Nat):List Nat:=(aj X (atN l p)).map (dM l)
theorem uU (X:Nx) (l:List Nat):(List.range l.length).map (jl X l)=aZ X l:=rfl
theorem Ez {l:List Nat} (hn:l.Pairwise (· < ·)) {k:Nat} (h:k∈l): ∃ hi:dM l k<l.length,l[dM l k]=k:=by
 obtain ⟨i,hi,rfl⟩:=JE.1 h;have e:=lI hn hi;exact ⟨by rw [e];exact hi,by simp only [e]⟩
theorem GZ {l:List Nat} (ha:l.Pairwise (· < ·)) {k:Nat} (h:k∈l) (z:Value):(match bn ((k:Nat):Int) (dK (zK l)) 0 with|some (_,v)=>v|none=>z)= .int .i64 ((dM l k:Nat):Int):=by
 obtain ⟨hi,hg⟩:=Ez ha h;have hnd:l.Nodup:=ha.imp fun hab e=>by rw [e] at hab;exact JO _ hab
 have h1:=pg (tK hnd) (p:=dM l k) (by rw [rE];exact hi) z;have h2:(zK l)[dM l k]'(by rw [rE];exact hi)=((k:Nat):Int):=by
  simp only [zK,List.getElem_map,hg]
 rwa [h2] at h1
theorem x6 {gg:Nat} {G:Gr} {B:List Blk} {w0:World} (hc:Cyr gg G B w0) (F:List Blk) (hB:MSub B F):
 FnIn Tryz.prog 10 [.pointer (some ⟨gg,0,none⟩)] w0 F fun v H=> ∃ A c,v= .tuple #[sl A (mg G).length c,.int .i64 0]∧H= .own A 28 2 (mg G).length c ((mg G).flatMap az)::F:=by
 refine cd Tryz.func10 rfl Tryz.ntmps10 rfl ?_;have hl:=hc.l;have hof:=nR hc F hB;repeat' (first|(apply ap (f:=33);exact rfl;exact rfl;exact hof;rintro _ _ ⟨A,c,gm,A2,vs,Z,rfl,rfl,hFZ,hJ⟩;simp only [cyV,cyB])|(apply aH (f:=36);exact rfl;exact rfl;(intro w' hm;exact tz hl hJ mS hm A c _);rintro _ _ ⟨g5,rfl,rfl⟩;simp only [oP])|refine zZB ?_|refine sM fun _=>?_|(refine sC ?_ ?_<;>intro hb<;>try omega)|fail)
 all_goals try (exfalso;omega)
 rename_i g4;refine aN 3 1 ?_;have hKl:(aw G).length=G.length:=bM G;have hfa:=EE G;have hfm:=fun i=>yQ (G:=G) (i:=i);have hsub:=oY G;have hoe:=El G;have hup:=fun i k (hi:i∈frC G) (hk:k∈aj (ay G) i)=>GK hi hk;have hro:=fun i=>nL hl i;have hfl: ∀ i,i≤G.length→((List.range i).filter fun v=> !bT G v).length≤900:=fun i hi=>Je (ib _) (by omega);have hfe:(List.range G.length).filter (fun v=> !bT G v)=frC G:=rfl;have hJ2:=hJ.2;have hJ1:=hJ.1;have hgl:(ay G).length=G.length:=bi G;have hox:mg G=cZ (aw G) (Gl G):=rfl;generalize hK:aw G=K at*;refine aB [4,24,25] rfl (fun y:Nat × Option Nat × Nat=> [(5,sl y.2.1 ((List.range y.1).filter fun v=> !bT G v).length y.2.2),(26,.int .i64 (y.1:Int))]) (fun y=> .own y.2.1 3 1 ((List.range y.1).filter fun v=> !bT G v).length y.2.2 (nzC ((List.range y.1).filter fun v=> !bT G v)):: .own (some g5) 4 1 K.length K.length (aL K.length (bT G)):: .box g4 66 [sl A K.length c,.map (some gm),.slice (some ⟨A2,0,none⟩) K.length K.length]:: .own A 28 2 K.length c (K.flatMap az):: .own (some A2) 68 1 K.length K.length vs::Z) (fun y=>y.1≤K.length) (fun y=>K.length - y.1) (0,none,0) (Iw _) sB mS ?_;rintro ⟨i,A3,c3⟩ hi;dsimp only at hi ⊢;by_cases hlt:i<K.length
 ·have hb1:=eU (f:=bT G) hlt;have hts:=dz (n:=i) fun v=> !bT G v;have hrl:=hfl i (by omega)
  cases hcir:bT G i with
  |false=>
    rw [hcir] at hb1;rw [if_pos (by rw [hcir];rfl)] at hts;generalize ((List.range i).filter fun v=> !bT G v)=L at hts hrl;have hone:nzC L++ [.int .i64 (i:Int)]=nzC (L++ [i]):=by simp [nzC]
    repeat' (first|(apply ai (d:=29);exact rfl;apply aa (j:=i);exact rfl;exact rfl;exact hlt)|(apply ai (d:=30);exact rfl;apply ak;exact rfl;exact pK;exact hb1)|(apply aF;(iterate 3 exact rfl);exact pK;exact pK;exact rfl;(simp [Value.oneCell']);omega;(simp only [maxLen];omega);intro g8 c8)|refine zZA ?_|refine sM fun _=>?_|(refine sC ?_ ?_<;>intro hb<;>try omega)|fail)
    all_goals first
     |(exfalso;omega)
     | (refine ⟨(i + 1, some g8, c8), hlt, by dsimp only; omega, by dsimp only; rw [hts, List.length_append]; exact sB, by exact sB, ?_⟩
        dsimp only;rw [hts,Iv,← hone];exact mS)
  |true=>
    rw [hcir] at hb1;rw [if_neg (by rw [hcir];simp)] at hts;repeat' (first|(apply ai (d:=29);exact rfl;apply aa (j:=i);exact rfl;exact rfl;exact hlt)|(apply ai (d:=30);exact rfl;apply ak;exact rfl;exact pK;exact hb1)|refine zZA ?_|refine sM fun _=>?_|(refine sC ?_ ?_<;>intro hb<;>try omega)|fail)
    all_goals first
     |(exfalso;omega)
     |(refine ⟨(i+1,A3,c3),hlt,by dsimp only;omega,by dsimp only;rw [hts];exact sB,by exact sB,by dsimp only;rw [hts];exact mS⟩;done)
 ·have e:i=K.length:=by omega
  subst e;rw [hKl,hfe,← hKl];have hll:(frC G).length≤900:=by have:=hfl G.length (IK _);rwa [hfe] at this
  generalize hfr:frC G=l at*;have hnd:l.Nodup:=hfa.imp fun hab e=>by rw [e] at hab;exact JO _ hab
  repeat' (first|(apply aH (f:=37);exact rfl;exact rfl;(intro w' hm;exact uY l hnd (by omega) _ w' (Reads.of_own (A:=A3) (c:=c3) hm pK));rintro _ _ ⟨gn,rfl,rfl⟩)|(apply cw (c:=l.length);(iterate 3 exact rfl);omega;(simp only [maxLen];omega);intro gx;(try simp only [iq]))|refine zZA ?_|refine sM fun _=>?_|(refine sC ?_ ?_<;>intro hb<;>try omega)|fail)
  all_goals try (exfalso;omega)
  have hpA: ∀ (J L:List Blk),MSub (L++(J++Z)) (J++(L++Z)):=fun J L=>MSub.of_perm (KR J L Z);refine fK 3 l.length ?_;rw [← vu,← oO l.length (jl (ay G) l)]
  refine aB [4, 5, 8, 9, 43, 44] rfl (fun z : Nat × JA × List Blk => [(45, .int .i64 (z.1 : Int))]) (fun z => .own (some gx) 68 1 l.length l.length (bo (aX l.length (jl (ay G) l) z.1 []) z.2.1) :: .obj gn (bC (fun z : Int => Value.int .i64 z) (dK (zK l)) l.length) :: .own A3 3 1 l.length c3 (nzC l) :: .box g4 66 [sl A K.length c, .map (some gm), .slice (some ⟨A2, 0, none⟩) K.length K.length] :: .own A 28 2 K.length c (K.flatMap az) :: .own (some A2) 68 1 K.length K.length vs :: z.2.2) (fun z => z.1 ≤ l.length ∧ z.2.1.length = l.length ∧ (eP (aX l.length (jl (ay G) l) z.1 []) z.2.1 ++ Z).Perm z.2.2) (fun z => l.length - z.1) (0, cI l.length, eP (aX l.length (jl (ay G) l) 0 []) (cI l.length) ++ Z) ⟨Iw _, JD, .refl _⟩ sB (by
   dsimp only;refine MSub.trans (hpA _ [_,_,_,_,_,_]) ?_;obtain ⟨T,hT⟩:MSub (.own (some gx) 68 1 l.length l.length (bo (aX l.length (jl (ay G) l) 0 []) (cI l.length)):: .obj gn (bC (fun z:Int=>Value.int .i64 z) (dK (zK l)) l.length):: .own A3 3 1 l.length c3 (nzC l):: .box g4 66 [sl A K.length c,.map (some gm),.slice (some ⟨A2,0,none⟩) K.length K.length]:: .own A 28 2 K.length c (K.flatMap az):: .own (some A2) 68 1 K.length K.length vs::Z) (.own (some gx) 68 1 l.length l.length (bo (aX l.length (jl (ay G) l) 0 []) (cI l.length))::([.obj gn (bC (fun z:Int=>Value.int .i64 z) (dK (zK l)) l.length)]++ .own A3 3 1 l.length c3 (nzC l):: .own (some g5) 4 1 K.length K.length (aL K.length (bT G)):: .box g4 66 [sl A K.length c,.map (some gm),.slice (some ⟨A2,0,none⟩) K.length K.length]:: .own A 28 2 K.length c (K.flatMap az):: .own (some A2) 68 1 K.length K.length vs::Z)):=by exact mS
   exact ⟨T,by rw [I1];exact hT.append_left _⟩) ?_
  clear hpA;rintro ⟨n,As,Zg⟩ ⟨hn,hAl,hZ⟩;dsimp only at hn hAl hZ ⊢;by_cases hnl:n<l.length
  ·have hi:=(hfm (atN l n)).1 (bw hnl);have hik:atN l n<K.length:=by omega
   have hel:=ba hnl;have hupn:=fun k=>hup (atN l n) k (bw hnl);obtain ⟨u,hu,hru⟩:=hJ2 (atN l n) (by omega);have hvu:vs[0+atN l n*1]? =some u:=by rw [IG,Jd];exact hu
   have hrn:=hro (atN l n);have hordn:jl (ay G) l n=(aj (ay G) (atN l n)).map (dM l):=rfl;generalize aj (ay G) (atN l n)=L at hru hrn hordn hupn;refine Fq (lv:=u) (m:=L.length) (fun w' hm=>hru w' ((MSub.trans (MSub.trans (MSub.appR _ _) (MSub.of_perm hZ.symm)) mS:MSub Z _).use hm)) fun Ar cr hlv=> ?_;refine bH (A:=A3) pK (by omega) fun g3 hA=> ?_;subst hA;generalize atN l n=i at hik hel hvu;repeat' (first|(apply ai (d:=48);exact rfl;apply aa (j:=n);exact rfl;exact rfl;exact hnl)|(apply ai (d:=49);exact rfl;apply ak;exact rfl;exact pK;exact hel)|(apply ai (d:=53);exact rfl;apply aa (j:=i);exact rfl;exact rfl;exact hik)|(apply ai (d:=54);exact rfl;apply ak;exact rfl;exact pK;exact hvu.trans (congrArg some hlv))|refine zZA ?_|refine sM fun _=>?_|(refine sC ?_ ?_<;>intro hb<;>try omega)|fail)
   all_goals try (exfalso;omega)
   subst hlv;refine aB [4,5,8,9,10,11,43,44,45,54,55] rfl (fun z:Nat × JA × List Blk=> [(56,.int .i64 (z.1:Int))]) (fun z=> .own (some gx) 68 1 l.length l.length (bo (aX l.length (jl (ay G) l) n ((L.take z.1).map (dM l))) z.2.1):: .obj gn (bC (fun z:Int=>Value.int .i64 z) (dK (zK l)) l.length):: .own (some g3) 3 1 l.length c3 (nzC l):: .box g4 66 [sl A K.length c,.map (some gm),.slice (some ⟨A2,0,none⟩) K.length K.length]:: .own A 28 2 K.length c (K.flatMap az):: .own (some A2) 68 1 K.length K.length vs::z.2.2) (fun z=>z.1≤L.length∧z.2.1.length=l.length∧(eP (aX l.length (jl (ay G) l) n ((L.take z.1).map (dM l))) z.2.1++Z).Perm z.2.2) (fun z=>L.length - z.1) (0,As,Zg) ⟨Iw _,hAl,hZ⟩ sB mS ?_;clear hZ hAl;rintro ⟨m,As,Zg⟩ ⟨hm,hAl,hZ⟩;dsimp only at hm hAl hZ ⊢;by_cases hlm:m<L.length
   ·have hZs: ∀ (b1 b2 b3 b4 b5 b6:Blk),MSub Z (b1::b2::b3::b4::b5::b6::Zg):=fun _ _ _ _ _ _=>MSub.trans (MSub.trans (MSub.appR _ _) (MSub.of_perm hZ.symm)) mS;refine Bx (lv:= .slice Ar L.length cr) (m:=L.length) (fun w' hm=>hru w' ((hZs _ _ _ _ _ _).use hm)) (by omega) fun gr orr cr2 hlv=> ?_;injection hlv with e1 e2 e3;subst e1;have hcl: ∀ (H:List Blk),MSub Z H→ ∀ w',Mem w0 w' H→Cells w' gr orr (nzC L):=fun H hs w' hm=>pT (hru w' (hs.use hm)) (by omega);have hem:=mh hlm;have hkl:=hupn _ (bw hlm);have htk:(L.take (m+1)).map (dM l)=(L.take m).map (dM l)++ [dM l (atN L m)]:=by rw [IA hlm,bS hlm,Jn];rfl
    have hzl:=fun z=>GZ hfa hkl z;have hX:=fM l.length (jl (ay G) l) n ((L.take m).map (dM l));have hcell:=eu (X:=aX l.length (jl (ay G) l) n ((L.take m).map (dM l))) (As:=As) (i:=n) (by omega) (by omega);obtain ⟨Rs,hR1,hR2⟩:=iy (X:=aX l.length (jl (ay G) l) n ((L.take m).map (dM l))) (As:=As) (i:=n) (by omega) (by omega);have hvset:=fun r a=>iw (X:=aX l.length (jl (ay G) l) n ((L.take m).map (dM l))) (As:=As) (i:=n) r a (by omega);have hvl:=fW (X:=aX l.length (jl (ay G) l) n ((L.take m).map (dM l))) (As:=As) (by omega);rw [uI hnl] at hcell hR1;simp only [qO] at hR2 hvset;rcases hak:As[n] with ⟨a1,a2⟩;rw [hak] at hcell hR1;dsimp only at hcell hR1;have hcell:(bo (aX l.length (jl (ay G) l) n ((L.take m).map (dM l))) As)[0+n*1]? =some (sl a1 ((L.take m).map (dM l)).length a2):=by rw [IG,Jd];exact hcell
    have hZ2:=hZ.symm.trans (hR1.append_right Z);have hbl:((L.take m).map (dM l)).length≤1000:=by rw [II,Jl];omega
    have hRZ: ∀ (b1 b2 b3 b4 b5 b6 b7:Blk),MSub Z (b1::b2::b3::b4::b5::b6::b7::(Rs++Z)):=fun _ _ _ _ _ _ _=>MSub.trans (MSub.appR _ _) mS;refine gK (.own a1 3 1 ((L.take m).map (dM l)).length a2 (nzC ((L.take m).map (dM l))):: .own (some gx) 68 1 l.length l.length (bo (aX l.length (jl (ay G) l) n ((L.take m).map (dM l))) As):: .obj gn (bC (fun z:Int=>Value.int .i64 z) (dK (zK l)) l.length):: .own (some g3) 3 1 l.length c3 (nzC l):: .box g4 66 [sl A K.length c,.map (some gm),.slice (some ⟨A2,0,none⟩) K.length K.length]:: .own A 28 2 K.length c (K.flatMap az):: .own (some A2) 68 1 K.length K.length vs::(Rs++Z)) (MSub.trans (by exact mS:MSub _ (.own (some gx) 68 1 l.length l.length (bo (aX l.length (jl (ay G) l) n ((L.take m).map (dM l))) As):: .obj gn (bC (fun z:Int=>Value.int .i64 z) (dK (zK l)) l.length):: .own (some g3) 3 1 l.length c3 (nzC l):: .box g4 66 [sl A K.length c,.map (some gm),.slice (some ⟨A2,0,none⟩) K.length K.length]:: .own A 28 2 K.length c (K.flatMap az):: .own (some A2) 68 1 K.length K.length vs:: .own a1 3 1 ((L.take m).map (dM l)).length a2 (nzC ((L.take m).map (dM l)))::(Rs++Z))) (MSub.of_perm ((((((hZ2.cons _).cons _).cons _).cons _).cons _).cons _))) ?_;clear hak hX;generalize atN L m=k at hem hkl htk hzl;generalize (L.take m).map (dM l)=Fr at*;generalize hp:dM l k=p at*;have hone:nzC Fr++ [.int .i64 (p:Int)]=nzC (Fr++ [p]):=by simp [nzC]
    have hol:(Fr++ [p]).length=Fr.length+1:=by simp
    repeat' (first|(apply ai (d:=58);exact rfl;apply aa (j:=m);exact rfl;exact rfl;exact hlm)|(apply ai (d:=59);exact rfl;apply gU (off:=m*1);(intro w' hm;exact hcl _ (hRZ _ _ _ _ _ _ _) w' hm);exact rfl;(rw [Jd];exact hem))|refine zZA ?_|refine sM fun _=>?_|(refine sC ?_ ?_<;>intro hb<;>try omega)|fail)
    all_goals try (exfalso;omega)
    refine iO (id:=19) [5,9,10,12] [.obj gn (bC (fun z:Int=>Value.int .i64 z) (dK (zK l)) l.length)] 13 rfl rfl mS ?_;repeat' (first|(apply aP (i:=4);(iterate 4 exact rfl);(iterate 3 decide+kernel);(apply aa (j:=n);exact rfl;exact rfl;exact hnl))|(apply aP (i:=11);(iterate 4 exact rfl);(iterate 3 decide+kernel);(apply aa (j:=n);exact rfl;exact rfl;exact hnl))|(apply aP (i:=8);(iterate 4 exact rfl);(iterate 3 decide+kernel);(apply lg (enc:=fun z:Int=>Value.int .i64 z) (k:=(k:Int));exact rfl;exact rfl;exact pK;exact hzl _))|(apply aP (i:=0);(iterate 4 exact rfl);(iterate 3 decide+kernel);(exact vC))|(apply aP (i:=1);(iterate 4 exact rfl);(iterate 3 decide+kernel);(exact vC))|(apply aP (i:=2);(iterate 4 exact rfl);(iterate 3 decide+kernel);(exact vC))|(apply aP (i:=3);(iterate 4 exact rfl);(iterate 3 decide+kernel);(exact vC))|(apply aP (i:=6);(iterate 4 exact rfl);(iterate 3 decide+kernel);(exact vC))|(apply aP (i:=7);(iterate 4 exact rfl);(iterate 3 decide+kernel);(exact vC))|(apply n8 (i:=5) (j:=9);(iterate 6 exact rfl);decide+kernel)|(apply bG (i:=5);(iterate 3 exact rfl);decide+kernel)|(apply bG (i:=9);(iterate 3 exact rfl);decide+kernel)|(apply bG (i:=10);(iterate 3 exact rfl);decide+kernel)|(apply bG (i:=12);(iterate 3 exact rfl);decide+kernel)|(apply iM;decide+kernel)|(apply v6;(focus (exact mS;done)))|(apply ai (d:=65);exact rfl;apply ak;exact rfl;exact pK;exact hcell)|(apply aF;(iterate 3 exact rfl);exact pK;exact pK;exact rfl;(simp [Value.oneCell']);omega;(simp only [maxLen];omega);intro g8 c8)|(apply aI (g:=gx);exact rfl;exact rfl;exact pK;exact rfl;(rw [hvl,fM];omega);rw [IG,Jd])|refine zZB ?_|refine sM fun _=>?_|(refine sC ?_ ?_<;>intro hb<;>try omega)|fail)
    repeat' (first|refine zZA ?_|refine sM fun _=>?_|(refine sC ?_ ?_<;>intro hb<;>try omega)|fail)
    all_goals first
     |(exfalso;omega)
     | (have hv1 := hvset (Fr ++ [p]) (some g8, c8)
        have hr1:=(hR2 (Fr++ [p]) (some g8,c8)).append_right Z;refine ⟨(m+1,As.set n (some g8,c8),.own (some g8) 3 1 (Fr++ [p]).length c8 (nzC (Fr++ [p]))::(Rs++Z)),⟨hlm,by dsimp only;rw [List.length_set];exact hAl,by dsimp only;rw [htk];exact hr1⟩,by dsimp only;omega,by exact sB,by exact sB,?_⟩;dsimp only;rw [htk,hv1,hol,← hone];exact mS)
   ·have hm2:m=L.length:=by omega
    subst hm2;rw [I5,← hordn,iX] at hZ;rw [I5,← hordn,iX];repeat' (first|refine zZA ?_|refine sM fun _=>?_|(refine sC ?_ ?_<;>intro hb<;>try omega)|fail)
    all_goals first
     |(exfalso;omega)
     |(refine ⟨(n+1,As,Zg),⟨hnl,hAl,hZ⟩,by dsimp only;omega,by exact sB,by exact sB,by exact mS⟩;done)
  ·have hn2:n=l.length:=by omega
   subst hn2;rw [iY,uU] at hZ;rw [iY,uU];have hYl:(aZ (ay G) l).length=l.length:=hsub.len;have hJY:JIn Zg (bo (aZ (ay G) l) As) (aZ (ay G) l):=(sK (X:=aZ (ay G) l) (As:=As) (by rw [hYl];exact hAl)).mono (MSub.trans (MSub.appL _ _) (MSub.of_perm hZ.symm));have hFZg:MSub F Zg:=MSub.trans (MSub.trans hFZ (MSub.appR _ _)) (MSub.of_perm hZ.symm);have hYr: ∀ i,(aj (aZ (ay G) l) i).length≤1000:=fun i=>by
    unfold aj aZ;rw [Iy];by_cases h:i<l.length
    ·rw [IY h];show ((aj (ay G) _).map _).length≤_;rw [II];exact hro _
    ·rw [IC (by simpa using h)];exact Iw _
   have hTo: ∀ (w' :World) (H:List Blk),MSub (.own (some gx) 68 1 l.length l.length (bo (aZ (ay G) l) As)::Zg) H→Mem w0 w' H→FnAt Tryz.prog 38 [.slice (some ⟨gx,0,none⟩) l.length l.length] w' fun u H=> ∃ A c Z,u= .tuple #[sl A (cV (aZ (ay G) l)).length c,.int .i64 0]∧H= .own A 3 1 (cV (aZ (ay G) l)).length c (nzC (cV (aZ (ay G) l)))::Z:=fun w' H hs hm=>by
    have h1:=hs.use hm;rw [← hYl] at h1 ⊢;exact yZ (aZ (ay G) l) (fun p q hq=>by rw [hYl];exact hsub.ok p q hq) (by omega) hYr (fun p hp=>hsub.acy p (by omega)) _ w' (hJY.rd h1)
   have hperm:=hsub.topo.2;have hTl:(cV (aZ (ay G) l)).length=l.length:=by rw [hperm.length_eq,Jc]
   have hTm: ∀ x∈cV (aZ (ay G) l),x<l.length:=fun x hx=>IJ.1 (hperm.mem_iff.1 hx);have hfinal:cZ K ((cV (aZ (ay G) l)).map (atN l))=mg G:=by
    rw [hox,← hoe]
    rfl
   generalize cV (aZ (ay G) l)=T at*;repeat' (first|(apply aH (f:=38);exact rfl;exact rfl;(intro w' hm;exact hTo w' _ mS hm);rintro _ _ ⟨A7,c7,Z7,rfl,rfl⟩;refine iJ (_::_) (MSub.pick .hd (MSub.appR _ Z7)) ?_)|refine zZA ?_|refine sM fun _=>?_|(refine sC ?_ ?_<;>intro hb<;>try omega)|fail)
   all_goals try (exfalso;omega)
   refine aN 28 2 ?_;refine aB [4,5,15,79,80] rfl (fun y:Nat × Option Nat × Nat=> [(16,sl y.2.1 y.1 y.2.2),(81,.int .i64 (y.1:Int))]) (fun y=> .own y.2.1 28 2 y.1 y.2.2 ((cZ K ((T.take y.1).map (atN l))).flatMap az):: .own A7 3 1 T.length c7 (nzC T):: .own A3 3 1 l.length c3 (nzC l):: .box g4 66 [sl A K.length c,.map (some gm),.slice (some ⟨A2,0,none⟩) K.length K.length]:: .own A 28 2 K.length c (K.flatMap az)::Zg) (fun y=>y.1≤T.length) (fun y=>T.length - y.1) (0,none,0) (Iw _) sB mS ?_;rintro ⟨t,A9,c9⟩ ht;dsimp only at ht ⊢;by_cases htl:t<T.length
   ·have hel:=ba htl;have hpl:=hTm _ (bw htl);have hst:(T.take (t+1)).map (atN l)=(T.take t).map (atN l)++ [atN l (atN T t)]:=by rw [IA htl,bS htl,Jn];rfl
    generalize atN T t=p at hel hpl hst;have hl1:=ba hpl;have hil:=((hfm (atN l p)).1 (bw hpl)).1;have hiK:atN l p<K.length:=by omega
    have hcc:=Gi hiK;rw [← lm hiK] at hcc;have hns:cZ K ((T.take (t+1)).map (atN l))=cZ K ((T.take t).map (atN l))++ [oR K (atN l p)]:=by rw [hst,jT]
    generalize atN l p=q at hl1 hiK hcc hns;generalize oR K q=a at hcc hns;refine bH (A:=A7) pK (by omega) fun g7 hA=> ?_;subst hA;refine bH (A:=A3) pK (by omega) fun g3 hA=> ?_;subst hA;refine bH (A:=A) pK (by omega) fun ga hA=> ?_;subst hA;repeat' (first|(apply ai (d:=83);exact rfl;apply aa (j:=t);exact rfl;exact rfl;exact htl)|(apply ai (d:=84);exact rfl;apply ak;exact rfl;exact pK;exact hel)|refine zZA ?_|refine sM fun _=>?_|(refine sC ?_ ?_<;>intro hb<;>try omega)|fail)
    all_goals try (exfalso;omega)
    refine iO (id:=27) [9,10] [.own (some g3) 3 1 l.length c3 (nzC l),.box g4 66 [sl (some ga) K.length c,.map (some gm),.slice (some ⟨A2,0,none⟩) K.length K.length],.own (some ga) 28 2 K.length c (K.flatMap az)] 12 rfl rfl mS ?_;repeat' (first|(apply aP (i:=5);(iterate 4 exact rfl);(iterate 3 decide+kernel);(apply aa (j:=p);exact rfl;exact rfl;exact hpl))|(apply aP (i:=6);(iterate 4 exact rfl);(iterate 3 decide+kernel);(apply ak;exact rfl;exact pK;exact hl1))|(apply aP (i:=7);(iterate 4 exact rfl);(iterate 3 decide+kernel);(apply aa (j:=q);exact rfl;exact rfl;exact hiK))|(apply aP (i:=8);(iterate 4 exact rfl);(iterate 3 decide+kernel);(apply dh (ys:=az a);exact rfl;exact pK;exact hcc;exact rfl))|(apply aP (i:=0);(iterate 4 exact rfl);(iterate 3 decide+kernel);(exact vC))|(apply aP (i:=1);(iterate 4 exact rfl);(iterate 3 decide+kernel);(exact vC))|(apply aP (i:=2);(iterate 4 exact rfl);(iterate 3 decide+kernel);(exact vC))|(apply aP (i:=3);(iterate 4 exact rfl);(iterate 3 decide+kernel);(exact vC))|(apply aP (i:=4);(iterate 4 exact rfl);(iterate 3 decide+kernel);(exact vC))|(apply aP (i:=11);(iterate 4 exact rfl);(iterate 3 decide+kernel);(apply oD;exact rfl))|(apply bG (i:=9);(iterate 3 exact rfl);decide+kernel)|(apply bG (i:=10);(iterate 3 exact rfl);decide+kernel)|(apply iM;decide+kernel)|(apply v6;(focus (exact mS;done)))|(apply aF;(iterate 3 exact rfl);exact pK;exact pK;exact rfl;(simp [az,Value.oneCell']);omega;(simp only [maxLen];omega);intro g8 c8)|refine zZB ?_|refine sM fun _=>?_|(refine sC ?_ ?_<;>intro hb<;>try omega)|fail)
    repeat' (first|refine zZA ?_|refine sM fun _=>?_|(refine sC ?_ ?_<;>intro hb<;>try omega)|fail)
    all_goals first
     |(exfalso;omega)
     | (refine ⟨(t + 1, some g8, c8), htl, by dsimp only; omega, by exact sB, by exact sB, ?_⟩
        dsimp only;rw [hns,Jk,J1];exact mS)
   ·have ht2:t=T.length:=by omega
    subst ht2;rw [I5,hfinal];have hol2:(mg G).length=T.length:=by rw [← hfinal,lB,II]
    repeat' (first|refine zZA ?_|refine sM fun _=>?_|(refine sC ?_ ?_<;>intro hb<;>try omega)|fail)
    all_goals first
     |(exfalso;omega)
     |(exact eX (H' := .own A9 28 2 (mg G).length c9 ((mg G).flatMap az)::F) eIO rfl rfl rfl (by rw [hol2];exact MSub.pick pK (MSub.trans hFZg mS)) ⟨A9,c9,by rw [hol2],rfl⟩)
end Go.SL
namespace Go.SL
open Go Go.Proofs
attribute [local irreducible] W WL WQ WG WA WX WLI WR WT WC WE VOp RW thn blk aW scp aJ aS bg FnAt FnIn FnP ceP
theorem qP (c r:Int) (w:World):aC Tryz.prog 12 [.int .i64 c,.int .i64 r] w (.agg (az ⟨c,r⟩).toArray):=by
 refine ax Tryz.func12 rfl Tryz.ntmps12 rfl ?_;repeat' (first|refine zZB ?_|refine sM fun _=>?_|(refine sC ?_ ?_<;>intro hb<;>try omega)|fail)
 all_goals ((refine eRC ?_);rfl)
theorem nK {gg:Nat} {G:Gr} {B:List Blk} {w0:World} (hc:Cyr gg G B w0) (F:List Blk) (hB:MSub B F) {L1 L2 L3:List Rf} (h1:jA G=L1) (h2:kB G=L2) (h3:mg G=L3) (a1 a2 a3:Value)
 (r1: ∀ H w,MSub F H→Mem w0 w H→Reads w a1 L1.length (L1.flatMap az)) (r2: ∀ H w,MSub F H→Mem w0 w H→Reads w a2 L2.length (L2.flatMap az)) (r3: ∀ H w,MSub F H→Mem w0 w H→Reads w a3 L3.length (L3.flatMap az)):
 FnIn Tryz.prog 16 [.pointer (some ⟨gg,0,none⟩),a1,a2,a3] w0 F fun v H=>v= .bool true∧H=F:=by
 refine cd Tryz.func16 rfl Tryz.ntmps16 rfl ?_;have hl:=fun H (hs:MSub B H)=>x7 hc H hs;have hci:=fun H (hs:MSub B H)=>qA hc H hs;have ho:=fun H (hs:MSub B H)=>x6 hc H hs;rw [h1] at hl;rw [h2] at hci;rw [h3] at ho;repeat' (first|(apply ap (f:=8);exact rfl;exact rfl;exact hl _ (MSub.trans hB mS);rintro _ _ ⟨A1,c1,rfl,rfl⟩)|(apply ap (f:=9);exact rfl;exact rfl;exact hci _ (MSub.trans hB mS);rintro _ _ ⟨A2,c2,rfl,rfl⟩)|(apply ap (f:=10);exact rfl;exact rfl;exact ho _ (MSub.trans hB mS);rintro _ _ ⟨A3,c3,rfl,rfl⟩)|(apply ag (d:=43);exact rfl;exact rfl;(intro w' hm;exact eD rfl (Reads.of_own (A:=A1) (c:=c1) hm pK) (r1 _ w' mS hm)))|(apply ag (d:=48);exact rfl;exact rfl;(intro w' hm;exact eD rfl (Reads.of_own (A:=A2) (c:=c2) hm pK) (r2 _ w' mS hm)))|(apply ag (d:=53);exact rfl;exact rfl;(intro w' hm;exact eD rfl (Reads.of_own (A:=A3) (c:=c3) hm pK) (r3 _ w' mS hm)))|refine zZB ?_|refine sM fun _=>?_|(refine sC ?_ ?_<;>intro hb<;>try omega)|fail)
 all_goals first
  |(exfalso;omega)
  |(exact bB eIO rfl rfl mS ⟨rfl,rfl⟩)
def Au:ByteArray:=⟨#[61,65,52]⟩
def HS:ByteArray:=⟨#[61,65,51]⟩
def vQ:Gr:=(fu exG ⟨2,3⟩ Au).1
def vO:Gr:=(fu exG ⟨1,1⟩ Au).1
def EN:Gr:=(fu vO ⟨1,1⟩ aA).1
def EL:Gr:=(fu EN ⟨2,3⟩ Au).1
def AF:Gr:=(fu EL ⟨2,4⟩ HS).1
theorem Gc:fu exG ⟨2,3⟩ Au=(vQ,0):=Prod.ext rfl (by decide+kernel)
theorem Gb:fu exG ⟨1,1⟩ Au=(vO,0):=Prod.ext rfl (by decide+kernel)
theorem Ga:fu vO ⟨1,1⟩ aA=(EN,0):=Prod.ext rfl (by decide+kernel)
theorem F9:fu EN ⟨2,3⟩ Au=(EL,0):=Prod.ext rfl (by decide+kernel)
theorem F8:fu EL ⟨2,4⟩ HS=(AF,0):=Prod.ext rfl (by decide+kernel)
theorem HB:jA exG= []:=by decide+kernel
theorem HG:kB exG= []:=by decide+kernel
theorem Hx:mg exG= [⟨1,2⟩,⟨1,3⟩,⟨1,4⟩]:=by decide+kernel
theorem HA:jA vQ= [⟨1,3⟩,⟨2,3⟩,⟨1,4⟩]:=by decide+kernel
theorem HF:kB vQ= [⟨1,3⟩,⟨2,3⟩,⟨1,4⟩]:=by decide+kernel
theorem Hw:mg vQ= [⟨1,2⟩]:=by decide+kernel
theorem Hz:jA vO= []:=by decide+kernel
theorem HE:kB vO= []:=by decide+kernel
theorem Hu:mg vO= [⟨1,3⟩,⟨1,4⟩,⟨1,1⟩,⟨1,2⟩]:=by decide+kernel
theorem Hy:jA AF= [⟨1,3⟩,⟨2,3⟩,⟨1,4⟩]:=by decide+kernel
theorem HC:kB AF= [⟨1,3⟩,⟨2,3⟩,⟨1,4⟩,⟨2,4⟩]:=by decide+kernel
theorem Ht:mg AF= [⟨1,2⟩]:=by decide+kernel
theorem xV {G:Gr} {L:List Rf} {S l:List Nat} {M:List Rf} (h:mL (aw G) (bT G) L []=(S,0)) (hp:l.Perm S) (hs:l.Pairwise (· < ·)) (hr:cZ (aw G) (lj G l)=M):kg G L=M∧fH G L=0:=by
 have he:fH G L=0:=by unfold fH;rw [h]
 have e:dI S=l:=by
  have h1:(dI S).Pairwise (· ≤ ·):=jQ S;have hnd:(dI S).Nodup:=((di S).trans hp.symm).nodup_iff.2 (hs.imp fun hab e=>by rw [e] at hab;exact JO _ hab);exact xU ((KH.2 ⟨h1,hnd⟩).imp fun ⟨h4,h5⟩=>KT h4 h5) hs fun v=>((di S).trans hp.symm).mem_iff
 refine ⟨?_,he⟩;unfold kg;rw [if_pos he,h];dsimp only;rw [e,hr]
theorem tD {G:Gr} {L:List Rf} {S:List Nat} {e:Int} (h:mL (aw G) (bT G) L []=(S,e)) (h0:e≠0):kg G L= []∧fH G L=e:=by
 have he:fH G L=e:=by unfold fH;rw [h]
 exact ⟨if_neg (by rw [he];exact h0),he⟩
theorem Im:kg exG [⟨1,4⟩,⟨1,2⟩]= [⟨1,2⟩,⟨1,4⟩]∧fH exG [⟨1,4⟩,⟨1,2⟩]=0:=xV (S:= [2,0]) (l:= [0,2]) (by decide+kernel) (by decide) (by decide) (by decide+kernel)
theorem Il:kg exG [⟨1,4⟩,⟨1,3⟩]= [⟨1,3⟩,⟨1,4⟩]∧fH exG [⟨1,4⟩,⟨1,3⟩]=0:=xV (S:= [2,1]) (l:= [1,2]) (by decide+kernel) (by decide) (by decide) (by decide+kernel)
theorem Ik:kg vQ [⟨1,4⟩]= []∧fH vQ [⟨1,4⟩]=13:=tD (S:= []) (by decide+kernel) (by decide)
theorem Ij:kg exG [⟨1,1⟩]= []∧fH exG [⟨1,1⟩]=6:=tD (S:= []) (by decide+kernel) (by decide)
theorem Ii:kg exG [⟨1,4⟩,⟨1,4⟩]= []∧fH exG [⟨1,4⟩,⟨1,4⟩]=8:=tD (S:= [2]) (by decide+kernel) (by decide)
theorem Ih:kg exG [⟨1,4⟩,⟨0,1⟩,⟨1,1⟩]= []∧fH exG [⟨1,4⟩,⟨0,1⟩,⟨1,1⟩]=3:=tD (S:= [2]) (by decide+kernel) (by decide)
theorem Ig:kg exG []= []∧fH exG []=0:=xV (S:= []) (l:= []) rfl (.refl _) List.Pairwise.nil (by decide+kernel)
end Go.SL
namespace Go.SL
open Go Go.Proofs Go.RowKit
attribute [local irreducible] W WL WQ WG WA WX WLI WR WT WC WE VOp RW thn blk aW scp aJ aS bg FnAt FnIn FnP ceP
theorem zW (a:Rf):oT (j9 a.col a.row)=if a.valid=true then 0 else 3:=by
 unfold oT;rw [uL];unfold Rf.valid;cases valid a.col a.row<;>rfl
theorem wm {G:Gr} (hn:(aw G).Nodup): ∀ (L:List Rf) (S:List Nat),AmgI G S→AmgI G (mL (aw G) (bT G) L S).1
 | [],S,h=>h
 |a::L,S,h=>by
  rw [mL];by_cases h1:a.valid=false
  ·rw [if_pos h1];exact h
  rw [if_neg h1];by_cases h2:a∉aw G
  ·rw [if_pos h2];exact h
  rw [if_neg h2];by_cases h3:bT G (dR (aw G) a)=true
  ·rw [if_pos h3];exact h
  rw [if_neg h3];by_cases h4:dR (aw G) a∈S
  ·rw [if_pos h4];exact h
  rw [if_neg h4];obtain ⟨hi,_⟩:=lJ hn (Decidable.not_not.1 h2);exact wm hn L _ (h.snoc (by rw [← bM];exact hi) (by simpa using h3) h4)
def da (G:Gr) (l:List Nat) (p m:Nat):List Nat:=(List.range m).filter fun q=>bh G G.length (atN l p) (atN l q)
theorem wk (G:Gr) (l:List Nat):(List.range l.length).map (fun p=>da G l p l.length)=bq (bh G G.length) l:=rfl
theorem Dj {G:Gr} (hl:G.length≤900) {A2:Nat} {vs:List Value} {Z:List Blk} (hJ:JIn Z vs (ay G)) {w0 w:World} {H:List Blk} (hs:MSub (.own (some A2) 68 1 (aw G).length (aw G).length vs::Z) H) (hm:Mem w0 w H) (A:Option Nat) (c:Nat) (mv:Value) (i:Nat) (hi:i<(aw G).length):
 FnAt Tryz.prog 42 [.agg #[sl A (aw G).length c,mv,.slice (some ⟨A2,0,none⟩) (aw G).length (aw G).length],.int .i64 (i:Int)] w fun v H=> ∃ g,v= .slice (some ⟨g,0,none⟩) (aw G).length (aw G).length∧H= [oP (aw G).length g (bh G G.length i)]:=by
 have h1:(ay G).length=(aw G).length:=by rw [bi,bM]
 have h:=w6 (ay G) lz (by rw [bi];omega) (nL hl) i (by rw [h1];exact hi) (A.map fun g=>⟨g,0,none⟩) c mv _ w (Dk hJ hs hm);rw [h1,show Cn (ay G) i=bh G G.length i from funext fun k=>by rw [Jp,uO,cM]] at h;exact h
theorem ye {gg:Nat} {G:Gr} {B:List Blk} {w0:World} (hc:Cyr gg G B w0) (F:List Blk) (hB:MSub B F) (Lr:List Rf) (hLr:Lr.length≤1000) (lv:Value) (hrd: ∀ H w,MSub F H→Mem w0 w H→Reads w lv Lr.length (Lr.flatMap az)):
 FnIn Tryz.prog 11 [.pointer (some ⟨gg,0,none⟩),lv] w0 F fun v H=> ∃ A c,v= .tuple #[sl A (kg G Lr).length c,.int .i64 (fH G Lr)]∧H= .own A 28 2 (kg G Lr).length c ((kg G Lr).flatMap az)::F:=by
 refine cd Tryz.func11 rfl Tryz.ntmps11 rfl ?_;have hl:=hc.l;have hof:=nR hc F hB;refine Fq (fun w' hm=>hrd F w' (MSub.refl F) hm) fun Al cl hlv=> ?_;subst hlv;repeat' (first|(apply ap (f:=33);exact rfl;exact rfl;exact hof;rintro _ _ ⟨A,c,gm,A2,vs,Z,rfl,rfl,hFZ,hJ⟩;simp only [cyV,cyB])|(apply aH (f:=36);exact rfl;exact rfl;(intro w' hm;exact tz hl hJ mS hm A c _);rintro _ _ ⟨g7,rfl,rfl⟩;simp only [oP])|refine zZB ?_|refine sM fun _=>?_|(refine sC ?_ ?_<;>intro hb<;>try omega)|fail)
 all_goals try (exfalso;omega)
 rename_i g6;refine aN 3 1 ?_;refine aN 28 2 ?_;have hKl:(aw G).length=G.length:=bM G;have hKn:=hc.g.sort.nodup;have hJ2:=hJ.2;have hJ1:=hJ.1;have hgl:(ay G).length=G.length:=bi G;have hinv:=wm hKn Lr [] (AmgI.nil G);have hre:=fun (i:Nat) (hi:i<(aw G).length) (w' :World) (H:List Blk) (hs:MSub (.own (some A2) 68 1 (aw G).length (aw G).length vs::Z) H) (hm:Mem w0 w' H)=>Dj hl hJ hs hm A c (.map (some gm)) i hi;have hlim:=fun S (h:AmgI G S)=>h.len;have hsnoc:=fun S i (h:AmgI G S) (h1:i<G.length) (h2:bT G i=false) (h3:i∉S)=>h.snoc h1 h2 h3;have haE:fH G Lr=(mL (aw G) (bT G) Lr []).2:=rfl;have haR:fH G Lr=0→kg G Lr=cZ (aw G) (lj G (dI (mL (aw G) (bT G) Lr []).1)):=fun h=>if_pos h;have haN:fH G Lr≠0→kg G Lr= []:=fun h=>if_neg h;generalize hK:aw G=K at*;refine aB [6,7,30,31] rfl (fun y:Nat × List Nat × Option Nat × Nat=> [(8,sl y.2.2.1 y.2.1.length y.2.2.2),(32,.int .i64 (y.1:Int))]) (fun y=> .own y.2.2.1 3 1 y.2.1.length y.2.2.2 (nzC y.2.1):: .own (some g7) 4 1 K.length K.length (aL K.length (bT G)):: .box g6 66 [sl A K.length c,.map (some gm),.slice (some ⟨A2,0,none⟩) K.length K.length]:: .obj gm (bC dE (dK K) K.length):: .own A 28 2 K.length c (K.flatMap az):: .own (some A2) 68 1 K.length K.length vs:: .own none 28 2 0 0 []::Z) (fun y=>y.1≤Lr.length∧AmgI G y.2.1∧mL K (bT G) Lr []=mL K (bT G) (Lr.drop y.1) y.2.1) (fun y=>Lr.length - y.1) (0,[],none,0) ⟨Iw _,AmgI.nil G,rfl⟩ sB mS ?_;rintro ⟨i,S,A3,c3⟩ ⟨hi,hS,hrec⟩;dsimp only at hi hS hrec ⊢;have hSl:=hlim S hS;by_cases hlt:i<Lr.length
 ·rw [IR hlt,mL] at hrec;have hFs: ∀ (b1 b2 b3 b4 b5 b6 b7:Blk),MSub F (b1::b2::b3::b4::b5::b6::b7::Z):=fun _ _ _ _ _ _ _=>MSub.trans hFZ mS;refine Bx (m:=Lr.length) (fun w' hm=>hrd _ w' (hFs _ _ _ _ _ _ _) hm) (by omega) fun gr orr cr hlv=> ?_;cases hlv;have hcl: ∀ (H:List Blk),MSub F H→ ∀ w',Mem w0 w' H→Cells w' gr orr (Lr.flatMap az):=fun H hs w' hm=>pT (hrd H w' hs hm) (by omega);have hel:((Lr.flatMap az).drop (i*2)).take 2=az Lr[i]:=dW bN Lr i hlt;generalize hae:Lr[i]=a at hrec hel;have hov:=zW a;have hloop:=hrec;by_cases hv:a.valid=true
  ·rw [if_pos hv] at hov;rw [if_neg (by rw [hv];simp)] at hrec;by_cases hmem:a∈K
   ·obtain ⟨hpk,hpg⟩:=lJ hKn hmem;rw [if_neg (fun h=>h hmem)] at hrec;have hlk:=fun z=>ph hKn hpk z;rw [hpg] at hlk;generalize hpe:dR K a=p at hrec hpk hlk;have hb1:=eU (f:=bT G) hpk
    cases hcir:bT G p with
    |true=>
      rw [hcir,if_pos rfl] at hrec;rw [hcir] at hb1;have he3:fH G Lr=13:=by rw [haE,hrec]
      have hn:=haN (by rw [he3];decide);rw [he3,hn];repeat' (first|(apply ai (d:=34);exact rfl;apply aa (j:=i);exact rfl;exact rfl;exact hlt)|(apply ai (d:=35);exact rfl;apply fQ (off:=i*2);(intro w' hm;exact hcl _ (hFs _ _ _ _ _ _ _) w' hm);exact rfl;exact hel;exact rfl)|(apply ai (d:=40);exact rfl;apply eH (enc:=dE) (k:=a);exact rfl;exact rfl;exact pK;exact hlk _)|(apply ag;exact rfl;exact rfl;(intro w hm;exact mM a w))|(apply ag (f:=39);exact rfl;exact rfl;(intro w' hm;exact jR _ w');rw [hov])|(apply ai (d:=54);exact rfl;apply aa (j:=p);exact rfl;exact rfl;exact hpk)|(apply ai (d:=55);exact rfl;apply ak;exact rfl;exact pK;exact hb1)|refine zZA ?_|refine sM fun _=>?_|(refine sC ?_ ?_<;>intro hb<;>try omega)|fail)
      all_goals first
       |(exfalso;omega)
       |(exact eX (H' := .own none 28 2 0 0 []::F) eIO rfl rfl rfl (MSub.pick pK (MSub.trans hFZ mS)) ⟨none,0,rfl,rfl⟩)
    |false=>
      rw [hcir,if_neg (by simp)] at hrec;rw [hcir] at hb1;have hct:=fun (w' :World) (H:List Blk) (hm:Mem w0 w' H) (hin:In (.own A3 3 1 S.length c3 (nzC S)) H)=>lT S p (by omega) (sl A3 S.length c3) w' (Reads.of_own hm hin);by_cases hpS:p∈S
      ·rw [if_pos hpS] at hrec;rw [decide_eq_true hpS] at hct;have he3:fH G Lr=8:=by rw [haE,hrec]
       have hn:=haN (by rw [he3];decide);rw [he3,hn];repeat' (first|(apply ai (d:=34);exact rfl;apply aa (j:=i);exact rfl;exact rfl;exact hlt)|(apply ai (d:=35);exact rfl;apply fQ (off:=i*2);(intro w' hm;exact hcl _ (hFs _ _ _ _ _ _ _) w' hm);exact rfl;exact hel;exact rfl)|(apply ai (d:=40);exact rfl;apply eH (enc:=dE) (k:=a);exact rfl;exact rfl;exact pK;exact hlk _)|(apply ag;exact rfl;exact rfl;(intro w hm;exact mM a w))|(apply ag (f:=39);exact rfl;exact rfl;(intro w' hm;exact jR _ w');rw [hov])|(apply ai (d:=54);exact rfl;apply aa (j:=p);exact rfl;exact rfl;exact hpk)|(apply ai (d:=55);exact rfl;apply ak;exact rfl;exact pK;exact hb1)|(apply ag (f:=40);exact rfl;exact rfl;(intro w' hm;exact hct w' _ hm pK))|refine zZA ?_|refine sM fun _=>?_|(refine sC ?_ ?_<;>intro hb<;>try omega)|fail)
       all_goals first
        |(exfalso;omega)
        |(exact eX (H' := .own none 28 2 0 0 []::F) eIO rfl rfl rfl (MSub.pick pK (MSub.trans hFZ mS)) ⟨none,0,rfl,rfl⟩)
      ·rw [if_neg hpS] at hrec;rw [decide_eq_false hpS] at hct;have hS2:=hsnoc S p hS (by omega) hcir hpS;have hone:nzC S++ [.int .i64 (p:Int)]=nzC (S++ [p]):=by simp [nzC]
       repeat' (first|(apply ai (d:=34);exact rfl;apply aa (j:=i);exact rfl;exact rfl;exact hlt)|(apply ai (d:=35);exact rfl;apply fQ (off:=i*2);(intro w' hm;exact hcl _ (hFs _ _ _ _ _ _ _) w' hm);exact rfl;exact hel;exact rfl)|(apply ai (d:=40);exact rfl;apply eH (enc:=dE) (k:=a);exact rfl;exact rfl;exact pK;exact hlk _)|(apply ag;exact rfl;exact rfl;(intro w hm;exact mM a w))|(apply ag (f:=39);exact rfl;exact rfl;(intro w' hm;exact jR _ w');rw [hov])|(apply ai (d:=54);exact rfl;apply aa (j:=p);exact rfl;exact rfl;exact hpk)|(apply ai (d:=55);exact rfl;apply ak;exact rfl;exact pK;exact hb1)|(apply ag (f:=40);exact rfl;exact rfl;(intro w' hm;exact hct w' _ hm pK))|(apply aF;(iterate 3 exact rfl);exact pK;exact pK;exact rfl;(simp [Value.oneCell']);omega;(simp only [maxLen];omega);intro g8 c8)|refine zZA ?_|refine sM fun _=>?_|(refine sC ?_ ?_<;>intro hb<;>try omega)|fail)
       all_goals first
        |(exfalso;omega)
        |(refine ⟨(i+1,S++ [p],some g8,c8),⟨hlt,hS2,hrec⟩,by dsimp only;omega,by dsimp only;rw [List.length_append];exact sB,by exact sB,by dsimp only;rw [List.length_append,← hone];exact mS⟩;done)
   ·rw [if_pos hmem] at hrec;have hlk:=fun z=>m3 hmem z;have he3:fH G Lr=6:=by rw [haE,hrec]
    have hn:=haN (by rw [he3];decide);rw [he3,hn];repeat' (first|(apply ai (d:=34);exact rfl;apply aa (j:=i);exact rfl;exact rfl;exact hlt)|(apply ai (d:=35);exact rfl;apply fQ (off:=i*2);(intro w' hm;exact hcl _ (hFs _ _ _ _ _ _ _) w' hm);exact rfl;exact hel;exact rfl)|(apply ai (d:=40);exact rfl;apply eH (enc:=dE) (k:=a);exact rfl;exact rfl;exact pK;exact hlk _)|(apply ag;exact rfl;exact rfl;(intro w hm;exact mM a w))|(apply ag (f:=39);exact rfl;exact rfl;(intro w' hm;exact jR _ w');rw [hov])|refine zZA ?_|refine sM fun _=>?_|(refine sC ?_ ?_<;>intro hb<;>try omega)|fail)
    all_goals first
     |(exfalso;omega)
     |(exact eX (H' := .own none 28 2 0 0 []::F) eIO rfl rfl rfl (MSub.pick pK (MSub.trans hFZ mS)) ⟨none,0,rfl,rfl⟩)
  ·rw [if_neg hv] at hov;rw [if_pos (by simpa using hv)] at hrec;have hlkx: ∃ t:Int × Bool,∀ z,(match bn a (dK K) 0 with|some (_,v)=>Value.tuple #[v,.bool true]|none=> .tuple #[z,.bool false])= .tuple #[if t.2=true then .int .i64 t.1 else z,.bool t.2]:=by
    by_cases hmem:a∈K
    ·obtain ⟨hpk,hpg⟩:=lJ hKn hmem;refine ⟨((dR K a:Nat),true),fun z=> ?_⟩;have h1:=ph hKn hpk z;rw [hpg] at h1;exact h1
    ·exact ⟨(0,false),fun z=>m3 hmem z⟩
   obtain ⟨⟨ti,tb⟩,hlk⟩:=hlkx;have he3:fH G Lr=3:=by rw [haE,hrec]
   have hn:=haN (by rw [he3];decide);rw [he3,hn];repeat' (first|(apply ai (d:=34);exact rfl;apply aa (j:=i);exact rfl;exact rfl;exact hlt)|(apply ai (d:=35);exact rfl;apply fQ (off:=i*2);(intro w' hm;exact hcl _ (hFs _ _ _ _ _ _ _) w' hm);exact rfl;exact hel;exact rfl)|(apply ai (d:=40);exact rfl;apply eH (enc:=dE) (k:=a);exact rfl;exact rfl;exact pK;exact hlk _)|(apply ag;exact rfl;exact rfl;(intro w hm;exact mM a w))|(apply ag (f:=39);exact rfl;exact rfl;(intro w' hm;exact jR _ w');rw [hov])|refine zZA ?_|refine sM fun _=>?_|(refine sC ?_ ?_<;>intro hb<;>try omega)|fail)
   all_goals first
    |(exfalso;omega)
    |(exact eX (H' := .own none 28 2 0 0 []::F) eIO rfl rfl rfl (MSub.pick pK (MSub.trans hFZ mS)) ⟨none,0,rfl,rfl⟩)
 ·have hi2:i=Lr.length:=by omega
  subst hi2;rw [JW,mL] at hrec;have he0:fH G Lr=0:=by rw [haE,hrec]
  have hR0:=haR he0;rw [hrec] at hR0;dsimp only at hR0;rw [he0,hR0];have hok:=hS.ok;have hSL:=(di S).length_eq;have hsrt:=fun R=>oJ S A3 c3 (by omega) R w0;rw [← hSL] at hsrt hSl ⊢;generalize dI S=l at*;have hsub:=hok.sub;have hoe:=hok.eq;have hlt:=hok.lt;repeat' (first|(apply ap (f:=41);exact rfl;exact rfl;exact FnIn.msub (hsrt _) (MSub.pick pK (MSub.refl _));rintro _ _ ⟨rfl,rfl⟩)|(apply cw (c:=l.length);(iterate 3 exact rfl);omega;(simp only [maxLen];omega);intro gx;(try simp only [iq]))|refine zZA ?_|refine sM fun _=>?_|(refine sC ?_ ?_<;>intro hb<;>try omega)|fail)
  all_goals try (exfalso;omega)
  have hpA: ∀ (J L:List Blk),MSub (L++(J++Z)) (J++(L++Z)):=fun J L=>MSub.of_perm (KR J L Z);refine gK (.own (some gx) 68 1 l.length l.length (bo (lG l.length) (cI l.length)):: .own A3 3 1 l.length c3 (nzC l):: .box g6 66 [sl A K.length c,.map (some gm),.slice (some ⟨A2,0,none⟩) K.length K.length]:: .own A 28 2 K.length c (K.flatMap az):: .own (some A2) 68 1 K.length K.length vs::Z) mS ?_;refine fK 3 l.length ?_;rw [← vu,← oO l.length (fun p=>da G l p l.length)];refine aB [6,8,13,70,71] rfl (fun z:Nat × JA × List Blk=> [(72,.int .i64 (z.1:Int))]) (fun z=> .own (some gx) 68 1 l.length l.length (bo (aX l.length (fun p=>da G l p l.length) z.1 []) z.2.1):: .own A3 3 1 l.length c3 (nzC l):: .box g6 66 [sl A K.length c,.map (some gm),.slice (some ⟨A2,0,none⟩) K.length K.length]:: .own A 28 2 K.length c (K.flatMap az):: .own (some A2) 68 1 K.length K.length vs::z.2.2) (fun z=>z.1≤l.length∧z.2.1.length=l.length∧(eP (aX l.length (fun p=>da G l p l.length) z.1 []) z.2.1++Z).Perm z.2.2) (fun z=>l.length - z.1) (0,cI l.length,eP (aX l.length (fun p=>da G l p l.length) 0 []) (cI l.length)++Z) ⟨Iw _,JD,.refl _⟩ sB (hpA _ [_,_,_,_,_]) ?_;clear hpA;rintro ⟨n,As,Zg⟩ ⟨hn,hAl,hZ⟩;dsimp only at hn hAl hZ ⊢;by_cases hnl:n<l.length
  ·have hel:=ba hnl;have hq:=hlt _ (bw hnl);have hqK:atN l n<K.length:=by omega
   have hZs: ∀ (b1 b2 b3 b4 b5:Blk),MSub Z (b1::b2::b3::b4::b5::Zg):=fun _ _ _ _ _=>MSub.trans (MSub.trans (MSub.appR _ _) (MSub.of_perm hZ.symm)) mS;have hreq:=hre (atN l n) hqK;have hamg: ∀ m,da G l n m=(List.range m).filter fun q=>bh G G.length (atN l n) (atN l q):=fun m=>rfl;refine bH (A:=A3) pK (by omega) fun g3 hA=> ?_;subst hA;generalize atN l n=q at hel hqK hreq hamg;repeat' (first|(apply ai (d:=75);exact rfl;apply aa (j:=n);exact rfl;exact rfl;exact hnl)|(apply ai (d:=76);exact rfl;apply ak;exact rfl;exact pK;exact hel)|(apply aH (f:=42);exact rfl;exact rfl;(intro w' hm;exact hreq w' _ (MSub.pick pK (MSub.trans (MSub.trans (MSub.appR _ _) (MSub.of_perm hZ.symm)) mS)) hm);rintro _ _ ⟨g16,rfl,rfl⟩;simp only [oP])|refine zZA ?_|refine sM fun _=>?_|(refine sC ?_ ?_<;>intro hb<;>try omega)|fail)
   all_goals try (exfalso;omega)
   have hz0:da G l n 0= []:=rfl;refine aB [6,8,13,14,16,70,71,72,80,81] rfl (fun z:Nat × JA × List Blk=> [(82,.int .i64 (z.1:Int))]) (fun z=> .own (some g16) 4 1 K.length K.length (aL K.length (bh G G.length q)):: .own (some gx) 68 1 l.length l.length (bo (aX l.length (fun p=>da G l p l.length) n (da G l n z.1)) z.2.1):: .own (some g3) 3 1 l.length c3 (nzC l):: .box g6 66 [sl A K.length c,.map (some gm),.slice (some ⟨A2,0,none⟩) K.length K.length]:: .own A 28 2 K.length c (K.flatMap az):: .own (some A2) 68 1 K.length K.length vs::z.2.2) (fun z=>z.1≤l.length∧z.2.1.length=l.length∧(eP (aX l.length (fun p=>da G l p l.length) n (da G l n z.1)) z.2.1++Z).Perm z.2.2) (fun z=>l.length - z.1) (0,As,Zg) ⟨Nat.zero_le _,hAl,hZ⟩ sB (by dsimp only;rw [hz0];exact mS) ?_;clear hZ hAl hZs;rintro ⟨m,As,Zg⟩ ⟨hm,hAl,hZ⟩;dsimp only at hm hAl hZ ⊢;by_cases hlm:m<l.length
   ·have hem:=ba hlm;have hkK:atN l m<K.length:=by have:=hlt _ (bw hlm);omega
    have hb1:=eU (f:=bh G G.length q) hkK;have hts:=dz (n:=m) fun x=>bh G G.length q (atN l x);rw [← hamg,← hamg] at hts;have hX:=fM l.length (fun p=>da G l p l.length) n (da G l n m);have hcell:=eu (X:=aX l.length (fun p=>da G l p l.length) n (da G l n m)) (As:=As) (i:=n) (by omega) (by omega);obtain ⟨Rs,hR1,hR2⟩:=iy (X:=aX l.length (fun p=>da G l p l.length) n (da G l n m)) (As:=As) (i:=n) (by omega) (by omega);have hvset:=fun r a=>iw (X:=aX l.length (fun p=>da G l p l.length) n (da G l n m)) (As:=As) (i:=n) r a (by omega);have hvl:=fW (X:=aX l.length (fun p=>da G l p l.length) n (da G l n m)) (As:=As) (by omega);rw [uI hnl] at hcell hR1;simp only [qO] at hR2 hvset;rcases hak:As[n] with ⟨a1,a2⟩;rw [hak] at hcell hR1;dsimp only at hcell hR1;have hcell:(bo (aX l.length (fun p=>da G l p l.length) n (da G l n m)) As)[0+n*1]? =some (sl a1 (da G l n m).length a2):=by rw [IG,Jd];exact hcell
    have hZ2:=hZ.symm.trans (hR1.append_right Z);have hbl:(da G l n m).length≤1000:=Je (ib _) (by omega)
    cases hap:bh G G.length q (atN l m) with
    |true=>
      rw [hap] at hb1;rw [if_pos hap] at hts;refine gK (.own a1 3 1 (da G l n m).length a2 (nzC (da G l n m)):: .own (some g16) 4 1 K.length K.length (aL K.length (bh G G.length q)):: .own (some gx) 68 1 l.length l.length (bo (aX l.length (fun p=>da G l p l.length) n (da G l n m)) As):: .own (some g3) 3 1 l.length c3 (nzC l):: .box g6 66 [sl A K.length c,.map (some gm),.slice (some ⟨A2,0,none⟩) K.length K.length]:: .own A 28 2 K.length c (K.flatMap az):: .own (some A2) 68 1 K.length K.length vs::(Rs++Z)) (MSub.trans (by exact mS:MSub _ (.own (some g16) 4 1 K.length K.length (aL K.length (bh G G.length q)):: .own (some gx) 68 1 l.length l.length (bo (aX l.length (fun p=>da G l p l.length) n (da G l n m)) As):: .own (some g3) 3 1 l.length c3 (nzC l):: .box g6 66 [sl A K.length c,.map (some gm),.slice (some ⟨A2,0,none⟩) K.length K.length]:: .own A 28 2 K.length c (K.flatMap az):: .own (some A2) 68 1 K.length K.length vs:: .own a1 3 1 (da G l n m).length a2 (nzC (da G l n m))::(Rs++Z))) (MSub.of_perm ((((((hZ2.cons _).cons _).cons _).cons _).cons _).cons _))) ?_;generalize atN l m=k at hem hkK hb1;clear hak hX;generalize da G l n m=Fr at*;have hone:nzC Fr++ [.int .i64 (m:Int)]=nzC (Fr++ [m]):=by simp [nzC]
      have hol:(Fr++ [m]).length=Fr.length+1:=by simp
      repeat' (first|(apply ai (d:=85);exact rfl;apply aa (j:=m);exact rfl;exact rfl;exact hlm)|(apply ai (d:=86);exact rfl;apply ak;exact rfl;exact pK;exact hem)|(apply ai (d:=89);exact rfl;apply aa (j:=k);exact rfl;exact rfl;exact hkK)|(apply ai (d:=90);exact rfl;apply ak;exact rfl;exact pK;exact hb1)|(apply ai (d:=95);exact rfl;apply aa (j:=n);exact rfl;exact rfl;exact hnl)|(apply ai (d:=96);exact rfl;apply ak;exact rfl;exact pK;exact hcell)|(apply aF;(iterate 3 exact rfl);exact pK;exact pK;exact rfl;(simp [Value.oneCell']);omega;(simp only [maxLen];omega);intro g8 c8)|(apply ai (d:=100);exact rfl;apply aa (j:=n);exact rfl;exact rfl;exact hnl)|(apply aI (g:=gx);exact rfl;exact rfl;exact pK;exact rfl;(rw [hvl,fM];omega);rw [IG,Jd])|refine zZA ?_|refine sM fun _=>?_|(refine sC ?_ ?_<;>intro hb<;>try omega)|fail)
      all_goals first
       |(exfalso;omega)
       | (have hv1 := hvset (Fr ++ [m]) (some g8, c8)
          have hr1:=(hR2 (Fr++ [m]) (some g8,c8)).append_right Z;refine ⟨(m+1,As.set n (some g8,c8),.own (some g8) 3 1 (Fr++ [m]).length c8 (nzC (Fr++ [m]))::(Rs++Z)),⟨hlm,by dsimp only;rw [List.length_set];exact hAl,by dsimp only;rw [hts];exact hr1⟩,by dsimp only;omega,by exact sB,by exact sB,?_⟩;dsimp only;rw [hts,hv1,hol,← hone];exact mS)
    |false=>
      rw [hap] at hb1;rw [if_neg (by rw [hap];simp)] at hts;generalize atN l m=k at hem hkK hb1;repeat' (first|(apply ai (d:=85);exact rfl;apply aa (j:=m);exact rfl;exact rfl;exact hlm)|(apply ai (d:=86);exact rfl;apply ak;exact rfl;exact pK;exact hem)|(apply ai (d:=89);exact rfl;apply aa (j:=k);exact rfl;exact rfl;exact hkK)|(apply ai (d:=90);exact rfl;apply ak;exact rfl;exact pK;exact hb1)|refine zZA ?_|refine sM fun _=>?_|(refine sC ?_ ?_<;>intro hb<;>try omega)|fail)
      all_goals first
       |(exfalso;omega)
       |(refine ⟨(m+1,As,Zg),⟨hlm,hAl,by dsimp only;rw [hts];exact hZ⟩,by dsimp only;omega,by exact sB,by exact sB,by dsimp only;rw [hts];exact mS⟩;done)
   ·have hm2:m=l.length:=by omega
    subst hm2;rw [iX l.length (fun p=>da G l p l.length)] at hZ;rw [iX l.length (fun p=>da G l p l.length)];repeat' (first|refine zZA ?_|refine sM fun _=>?_|(refine sC ?_ ?_<;>intro hb<;>try omega)|fail)
    all_goals first
     |(exfalso;omega)
     |(refine ⟨(n+1,As,Zg),⟨hnl,hAl,hZ⟩,by dsimp only;omega,by exact sB,by exact sB,by exact mS⟩;done)
  ·have hn2:n=l.length:=by omega
   subst hn2;rw [iY,wk] at hZ;rw [iY,wk];have hYl:(bq (bh G G.length) l).length=l.length:=hsub.len;have hJY:JIn Zg (bo (bq (bh G G.length) l) As) (bq (bh G G.length) l):=(sK (X:=bq (bh G G.length) l) (As:=As) (by rw [hYl];exact hAl)).mono (MSub.trans (MSub.appL _ _) (MSub.of_perm hZ.symm));have hFZg:MSub F Zg:=MSub.trans (MSub.trans hFZ (MSub.appR _ _)) (MSub.of_perm hZ.symm);have hYr: ∀ i,(aj (bq (bh G G.length) l) i).length≤1000:=fun i=>by
    unfold aj bq;rw [Iy];by_cases h:i<l.length
    ·rw [IY h];exact Je (ib _) (by omega)
    ·rw [IC (by simpa using h)];exact Iw _
   have hTo: ∀ (w' :World) (H:List Blk),MSub (.own (some gx) 68 1 l.length l.length (bo (bq (bh G G.length) l) As)::Zg) H→Mem w0 w' H→FnAt Tryz.prog 38 [.slice (some ⟨gx,0,none⟩) l.length l.length] w' fun u H=> ∃ A c Z,u= .tuple #[sl A (cV (bq (bh G G.length) l)).length c,.int .i64 0]∧H= .own A 3 1 (cV (bq (bh G G.length) l)).length c (nzC (cV (bq (bh G G.length) l)))::Z:=fun w' H hs hm=>by
    have h1:=hs.use hm;rw [← hYl] at h1 ⊢;exact yZ (bq (bh G G.length) l) (fun p q hq=>by rw [hYl];exact hsub.ok p q hq) (by omega) hYr (fun p hp=>hsub.acy p (by omega)) _ w' (hJY.rd h1)
   have hperm:=hsub.topo.2;have hTl:(cV (bq (bh G G.length) l)).length=l.length:=by rw [hperm.length_eq,Jc]
   have hTm: ∀ x∈cV (bq (bh G G.length) l),x<l.length:=fun x hx=>IJ.1 (hperm.mem_iff.1 hx);have hfinal:cZ K ((cV (bq (bh G G.length) l)).map (atN l))=cZ K (lj G l):=by
    rw [← hoe]
    rfl
   generalize cV (bq (bh G G.length) l)=T at*;repeat' (first|(apply aH (f:=38);exact rfl;exact rfl;(intro w' hm;exact hTo w' _ mS hm);rintro _ _ ⟨A7,c7,Z7,rfl,rfl⟩;refine iJ (_::_) (MSub.pick .hd (MSub.appR _ Z7)) ?_)|refine zZA ?_|refine sM fun _=>?_|(refine sC ?_ ?_<;>intro hb<;>try omega)|fail)
   all_goals try (exfalso;omega)
   refine aN 28 2 ?_;refine aB [6,8,20,108,109] rfl (fun y:Nat × Option Nat × Nat=> [(21,sl y.2.1 y.1 y.2.2),(110,.int .i64 (y.1:Int))]) (fun y=> .own y.2.1 28 2 y.1 y.2.2 ((cZ K ((T.take y.1).map (atN l))).flatMap az):: .own A7 3 1 T.length c7 (nzC T):: .own A3 3 1 l.length c3 (nzC l):: .box g6 66 [sl A K.length c,.map (some gm),.slice (some ⟨A2,0,none⟩) K.length K.length]:: .own A 28 2 K.length c (K.flatMap az)::Zg) (fun y=>y.1≤T.length) (fun y=>T.length - y.1) (0,none,0) (Iw _) sB mS ?_;rintro ⟨t,A9,c9⟩ ht;dsimp only at ht ⊢;by_cases htl:t<T.length
   ·have hel:=ba htl;have hpl:=hTm _ (bw htl);have hst:(T.take (t+1)).map (atN l)=(T.take t).map (atN l)++ [atN l (atN T t)]:=by rw [IA htl,bS htl,Jn];rfl
    generalize atN T t=p at hel hpl hst;have hl1:=ba hpl;have hil:=hlt _ (bw hpl);have hiK:atN l p<K.length:=by omega
    have hcc:=Gi hiK;rw [← lm hiK] at hcc;have hns:cZ K ((T.take (t+1)).map (atN l))=cZ K ((T.take t).map (atN l))++ [oR K (atN l p)]:=by rw [hst,jT]
    generalize atN l p=q at hl1 hiK hcc hns;generalize oR K q=a at hcc hns;refine bH (A:=A7) pK (by omega) fun g7 hA=> ?_;subst hA;refine bH (A:=A3) pK (by omega) fun g3 hA=> ?_;subst hA;refine bH (A:=A) pK (by omega) fun ga hA=> ?_;subst hA;repeat' (first|(apply ai (d:=112);exact rfl;apply aa (j:=t);exact rfl;exact rfl;exact htl)|(apply ai (d:=113);exact rfl;apply ak;exact rfl;exact pK;exact hel)|refine zZA ?_|refine sM fun _=>?_|(refine sC ?_ ?_<;>intro hb<;>try omega)|fail)
    all_goals try (exfalso;omega)
    refine iO (id:=38) [9,10] [.own (some g3) 3 1 l.length c3 (nzC l),.box g6 66 [sl (some ga) K.length c,.map (some gm),.slice (some ⟨A2,0,none⟩) K.length K.length],.own (some ga) 28 2 K.length c (K.flatMap az)] 12 rfl rfl mS ?_;repeat' (first|(apply aP (i:=5);(iterate 4 exact rfl);(iterate 3 decide+kernel);(apply aa (j:=p);exact rfl;exact rfl;exact hpl))|(apply aP (i:=6);(iterate 4 exact rfl);(iterate 3 decide+kernel);(apply ak;exact rfl;exact pK;exact hl1))|(apply aP (i:=7);(iterate 4 exact rfl);(iterate 3 decide+kernel);(apply aa (j:=q);exact rfl;exact rfl;exact hiK))|(apply aP (i:=8);(iterate 4 exact rfl);(iterate 3 decide+kernel);(apply dh (ys:=az a);exact rfl;exact pK;exact hcc;exact rfl))|(apply aP (i:=0);(iterate 4 exact rfl);(iterate 3 decide+kernel);(exact vC))|(apply aP (i:=1);(iterate 4 exact rfl);(iterate 3 decide+kernel);(exact vC))|(apply aP (i:=2);(iterate 4 exact rfl);(iterate 3 decide+kernel);(exact vC))|(apply aP (i:=3);(iterate 4 exact rfl);(iterate 3 decide+kernel);(exact vC))|(apply aP (i:=4);(iterate 4 exact rfl);(iterate 3 decide+kernel);(exact vC))|(apply aP (i:=11);(iterate 4 exact rfl);(iterate 3 decide+kernel);(apply oD;exact rfl))|(apply bG (i:=9);(iterate 3 exact rfl);decide+kernel)|(apply bG (i:=10);(iterate 3 exact rfl);decide+kernel)|(apply iM;decide+kernel)|(apply v6;(focus (exact mS;done)))|(apply aF;(iterate 3 exact rfl);exact pK;exact pK;exact rfl;(simp [az,Value.oneCell']);omega;(simp only [maxLen];omega);intro g8 c8)|refine zZB ?_|refine sM fun _=>?_|(refine sC ?_ ?_<;>intro hb<;>try omega)|fail)
    repeat' (first|refine zZA ?_|refine sM fun _=>?_|(refine sC ?_ ?_<;>intro hb<;>try omega)|fail)
    all_goals first
     |(exfalso;omega)
     | (refine ⟨(t + 1, some g8, c8), htl, by dsimp only; omega, by exact sB, by exact sB, ?_⟩
        dsimp only;rw [hns,Jk,J1];exact mS)
   ·have ht2:t=T.length:=by omega
    subst ht2;rw [I5,hfinal];have hol2:(cZ K (lj G l)).length=T.length:=by rw [← hfinal,lB,II]
    repeat' (first|refine zZA ?_|refine sM fun _=>?_|(refine sC ?_ ?_<;>intro hb<;>try omega)|fail)
    all_goals first
     |(exfalso;omega)
     |(exact eX (H' := .own A9 28 2 (cZ K (lj G l)).length c9 ((cZ K (lj G l)).flatMap az)::F) eIO rfl rfl rfl (by rw [hol2];exact MSub.pick pK (MSub.trans hFZg mS)) ⟨A9,c9,by rw [hol2],rfl⟩)
end Go.SL
namespace Go.SL
open Go Go.Proofs
attribute [local irreducible] W WL WQ WG WA WX WLI WR WT WC WE VOp RW thn blk aW scp aJ aS bg FnAt FnIn FnP ceP
theorem vN {w:World} (hW:Words w) (w' :World) (H:List Blk) (tv:Value) (hm:Mem w w' H) (ht:Reads w' tv exL.length (exL.flatMap ri)):FnAt Tryz.prog 13 [tv] w' fun v H=> ∃ gg gm E clock R,v= .tuple #[.pointer (some ⟨gg,0,none⟩),.int .i64 0]∧H=gB gg gm (E.map En.m) clock++R∧GOk R E clock exG:=by
 have h1:=GU exL tv w' ht (by decide) (hW.next hm);rw [C0] at h1;exact h1
theorem yS:GrOk vQ:=jg.set _ _
theorem yR:GrOk vO:=jg.set _ _
theorem EM:GrOk EN:=yR.set _ _
theorem EK:GrOk EL:=EM.set _ _
theorem EJ:GrOk AF:=EK.set _ _
theorem C8:vQ.length≤900:=by decide+kernel
theorem GM:vO.length≤900:=by decide+kernel
theorem GL:AF.length≤900:=by decide+kernel
theorem gj {gg:Nat} {G:Gr} {B:List Blk} {w0:World} (hc:Cyr gg G B w0) {F:List Blk} (hB:MSub B F) {Lr M:List Rf} {e:Int} (h:kg G Lr=M∧fH G Lr=e) (hl:Lr.length≤1000) (lv:Value) (hrd: ∀ H w,MSub F H→Mem w0 w H→Reads w lv Lr.length (Lr.flatMap az)):
 FnIn Tryz.prog 11 [.pointer (some ⟨gg,0,none⟩),lv] w0 F fun v H=> ∃ A c,v= .tuple #[sl A M.length c,.int .i64 e]∧H= .own A 28 2 M.length c (M.flatMap az)::F:=by
 have h1:=ye hc F hB Lr hl lv hrd;rw [h.1,h.2] at h1;exact h1
theorem ek {F:List Blk} {A:Option Nat} {n c:Nat} {xs:List Value} {w0:World} (hi:In (.own A 28 2 n c xs) F): ∀ H w,MSub F H→Mem w0 w H→Reads w (sl A n c) n xs:=fun H w hs hm=>Reads.of_own (hs.use hm) hi
theorem oU {F:List Blk} {w0:World}: ∀ H w,MSub F H→Mem w0 w H→Reads w (.slice none 0 0) ([]:List Rf).length (([]:List Rf).flatMap az):=fun _ _ _ _=>⟨none,0,rfl,IK _,Iw _,fun h=>absurd h (J7 _)⟩
theorem xR (w:World) (hW:Words w):aC Tryz.prog 18 [] w (.bool true):=by
 refine ax Tryz.func18 rfl Tryz.ntmps18 rfl ?_;repeat' (first|(apply aH (f:=14);exact rfl;exact rfl;(intro w' hm;exact pY w');rintro _ _ ⟨ge,rfl,rfl⟩)|(apply aH (f:=13);exact rfl;exact rfl;(intro w' hm;exact vN hW w' _ _ hm (Reads.of_own (A:=some _) hm pK));rintro _ _ ⟨gg,gm,E,clock,R,rfl,rfl,hG⟩;refine iJ (gB gg gm (E.map En.m) clock++R) (MSub.appL _ _) ?_)|(apply ag;exact rfl;exact rfl;(intro w hm;exact qP _ _ w))|(apply ap (d:=24);exact rfl;exact rfl;exact nK (hG.cyr jg (by decide) gg gm w) _ mS HB HG Hx _ _ _ oU oU (ek (A:=some _) pK);rintro _ _ ⟨rfl,rfl⟩)|(apply ap (d:=32);exact rfl;exact rfl;exact gj (hG.cyr jg (by decide) gg gm w) mS Im (by decide) _ (ek (A:=some _) pK);rintro _ _ ⟨A1,c1,rfl,rfl⟩)|(apply ap (d:=40);exact rfl;exact rfl;exact gj (hG.cyr jg (by decide) gg gm w) mS Il (by decide) _ (ek (A:=some _) pK);rintro _ _ ⟨A2,c2,rfl,rfl⟩)|(apply ag (d:=54);exact rfl;exact rfl;(intro w' hm;exact eD rfl (Reads.of_own (A:=A1) (c:=c1) hm pK) (Reads.of_own (A:=some _) hm pK)))|(apply ag (d:=62);exact rfl;exact rfl;(intro w' hm;exact eD rfl (Reads.of_own (A:=A2) (c:=c2) hm pK) (Reads.of_own (A:=some _) hm pK)))|(apply ap (f:=15);exact rfl;exact rfl;exact hG.set_to gg gm [] mS hW Gc;rintro _ _ ⟨rfl,E1,k1,R1,rfl,hG1⟩;rw [ID])|(apply ap (d:=75);exact rfl;exact rfl;exact gj (hG1.cyr yS C8 gg gm w) mS Ik (by decide) _ (ek (A:=some _) pK);rintro _ _ ⟨A3,c3,rfl,rfl⟩)|(apply ap (d:=90);exact rfl;exact rfl;exact nK (hG1.cyr yS C8 gg gm w) _ mS HA HF Hw _ _ _ (ek (A:=some _) pK) (ek (A:=some _) pK) (ek (A:=some _) pK);rintro _ _ ⟨rfl,rfl⟩)|refine zZB ?_|refine sM fun _=>?_|(refine sC ?_ ?_<;>intro hb<;>try omega)|fail)
 all_goals first
  |(exfalso;omega)
  |((refine rT1 ?_);rfl)
theorem wu (w:World):aC Tryz.prog 8 [.pointer none] w (.tuple #[.slice none 0 0,.int .i64 1]):=by
 refine ax Tryz.func8 rfl Tryz.ntmps8 rfl ?_;repeat' (first|refine sT ?_|refine sM fun _=>?_|(refine sC ?_ ?_<;>intro hb<;>try omega)|fail)
 all_goals first
  |((refine rT2 ?_);rfl)
theorem pZ (w:World):aC Tryz.prog 9 [.pointer none] w (.tuple #[.slice none 0 0,.int .i64 1]):=by
 refine ax Tryz.func9 rfl Tryz.ntmps9 rfl ?_;repeat' (first|refine sT ?_|refine sM fun _=>?_|(refine sC ?_ ?_<;>intro hb<;>try omega)|fail)
 all_goals first
  |((refine rT2 ?_);rfl)
theorem wt (w:World):aC Tryz.prog 10 [.pointer none] w (.tuple #[.slice none 0 0,.int .i64 1]):=by
 refine ax Tryz.func10 rfl Tryz.ntmps10 rfl ?_;repeat' (first|refine sT ?_|refine sM fun _=>?_|(refine sC ?_ ?_<;>intro hb<;>try omega)|fail)
 all_goals first
  |((refine rT2 ?_);rfl)
theorem wD (lv:Value) (w:World):aC Tryz.prog 11 [.pointer none,lv] w (.tuple #[.slice none 0 0,.int .i64 1]):=by
 refine ax Tryz.func11 rfl Tryz.ntmps11 rfl ?_;repeat' (first|refine sT ?_|refine sM fun _=>?_|(refine sC ?_ ?_<;>intro hb<;>try omega)|fail)
 all_goals first
  |((refine rT2 ?_);rfl)
theorem Eh (L:List Rf): ∀ u∈L.flatMap az,u.oneCell' =true:=fun u hu=>by
 obtain ⟨a,_,h⟩:=KK.1 hu;simp only [az,IP,K6,or_false] at h;rcases h with rfl|rfl<;>rfl
theorem wz (L:List Rf) (tv:Value) (w:World) (ht:Reads w tv L.length (L.flatMap az)) (hl:L.length≤1000000):
 FnAt Tryz.prog 17 [tv] w fun v H=> ∃ A cap,v=sl A L.length cap∧H= [.own A 28 2 L.length cap (L.flatMap az)]:=by
 refine ax Tryz.func17 rfl Tryz.ntmps17 rfl ?_;refine aN 28 2 ?_;repeat' (first|(apply eG (n' :=0) (c:=0) (A:=none) (m:=L.length);(iterate 3 exact rfl);exact pK;(intro w hm;exact ht.of_w0 hm);exact cE bN L;exact encFs_one L;omega;(simp only [maxLen];omega);intro A' cap' hA)|refine sT ?_|refine sM fun _=>?_|(refine sC ?_ ?_<;>intro hb<;>try omega)|fail)
 repeat' (first|(apply eG (n' :=0) (c:=0) (A:=none) (m:=L.length);(iterate 3 exact rfl);exact pK;(intro w hm;exact ht.of_w0 hm);exact cE bN L;exact Eh L;omega;(simp only [maxLen];omega);intro A' cap' hA)|refine sT ?_|refine sM fun _=>?_|(refine sC ?_ ?_<;>intro hb<;>try omega)|fail)
 ·exact bB (.inl rfl) Tryz.results17 rfl (H' := [.own A' 28 2 (0+L.length) cap' ([]++L.flatMap az)]) mS ⟨A',cap',by rw [IG],by rw [IG];rfl⟩
theorem qy (w:World) (hW:Words w):aC Tryz.prog 3 [] w (.bool true):=by
 refine ax Tryz.func3 rfl Tryz.ntmps3 rfl ?_;repeat' (first|(apply ag (f:=8);exact rfl;exact rfl;(intro w' hm;exact wu w'))|(apply ag (f:=9);exact rfl;exact rfl;(intro w' hm;exact pZ w'))|(apply ag (f:=10);exact rfl;exact rfl;(intro w' hm;exact wt w'))|(apply ag (d:=28);exact rfl;exact rfl;(intro w' hm;exact wD _ w'))|(apply aH (f:=14);exact rfl;exact rfl;(intro w' hm;exact pY w');rintro _ _ ⟨ge,rfl,rfl⟩)|(apply aH (f:=13);exact rfl;exact rfl;(intro w' hm;exact vN hW w' _ _ hm (Reads.of_own (A:=some _) hm pK));rintro _ _ ⟨gg,gm,E,clock,R,rfl,rfl,hG⟩;refine iJ (gB gg gm (E.map En.m) clock++R) (MSub.appL _ _) ?_)|(apply ag;exact rfl;exact rfl;(intro w hm;exact qP _ _ w))|(apply ap (d:=60);exact rfl;exact rfl;exact gj (hG.cyr jg (by decide) gg gm w) mS Ij (by decide) _ (ek (A:=some _) pK);rintro _ _ ⟨A1,c1,rfl,rfl⟩)|(apply ap (d:=68);exact rfl;exact rfl;exact gj (hG.cyr jg (by decide) gg gm w) mS Ii (by decide) _ (ek (A:=some _) pK);rintro _ _ ⟨A2,c2,rfl,rfl⟩)|(apply ap (d:=77);exact rfl;exact rfl;exact gj (hG.cyr jg (by decide) gg gm w) mS Ih (by decide) _ (ek (A:=some _) pK);rintro _ _ ⟨A3,c3,rfl,rfl⟩)|(apply ap (d:=82);exact rfl;exact rfl;exact gj (hG.cyr jg (by decide) gg gm w) mS Ig (by decide) _ oU;rintro _ _ ⟨A4,c4,rfl,rfl⟩)|(apply ap (d:=106);exact rfl;exact rfl;exact hG.set_to gg gm [] mS hW Gb;rintro _ _ ⟨rfl,E2,k2,R2,rfl,hG2⟩;rw [ID])|(apply ap (d:=115);exact rfl;exact rfl;exact nK (hG2.cyr yR GM gg gm w) _ mS Hz HE Hu _ _ _ oU oU (ek (A:=some _) pK);rintro _ _ ⟨rfl,rfl⟩)|(apply ap (d:=120);exact rfl;exact rfl;exact hG2.set_to gg gm [] mS hW Ga;rintro _ _ ⟨rfl,E3,k3,R3,rfl,hG3⟩;rw [ID])|(apply ap (d:=125);exact rfl;exact rfl;exact hG3.set_to gg gm [] mS hW F9;rintro _ _ ⟨rfl,E4,k4,R4,rfl,hG4⟩;rw [ID])|(apply ap (d:=131);exact rfl;exact rfl;exact hG4.set_to gg gm [] mS hW F8;rintro _ _ ⟨rfl,E5,k5,R5,rfl,hG5⟩;rw [ID])|(apply aH (d:=141);exact rfl;exact rfl;(intro w' hm;exact wz [⟨1,3⟩,⟨2,3⟩,⟨1,4⟩] _ w' (Reads.of_own (A:=some _) hm pK) (by decide));rintro _ _ ⟨A6,c6,rfl,rfl⟩)|(apply aF;(iterate 3 exact rfl);exact pK;exact pK;exact rfl;(simp [az,Value.oneCell']);decide;decide;intro g8 c8)|(apply ap (d:=147);exact rfl;exact rfl;exact nK (hG5.cyr EJ GL gg gm w) _ mS Hy HC Ht _ _ _ (ek (A:=some _) pK) (ek (A:=some _) pK) (ek (A:=some _) pK);rintro _ _ ⟨rfl,rfl⟩)|(apply ag (d:=149);exact rfl;exact rfl;(intro w' hm;exact xR w' (hW.next hm)))|refine zZB ?_|refine sM fun _=>?_|(refine sC ?_ ?_<;>intro hb<;>try omega)|fail)
 all_goals first
  |(exfalso;omega)
  |((refine rT1 ?_);rfl)
end Go.SL

/-
  Lemmas and walks, put together: Yb Yi.
-/
import Derived.Test.YthgjiibbmkiplaaGreatDoorKw25
import Derived.Test.YthgjiibbmkiplaaGreatDoorKw46
set_option linter.unusedSimpArgs false
set_option linter.unusedVariables false
set_option maxRecDepth 20000
set_option maxHeartbeats 16000000
namespace Go.SL
open Go Go.Proofs
attribute [local irreducible] W WL WQ WG WA WX WLI WR WT WC WE VOp RW thn blk bA scp aY aX bw FnAt FnIn FnP ceP
theorem zZ (b c:Bk) (x y:Bv) (w:World) (h:BRd w b x) (k:BRd w c y) (hW:Words w) (h1:b.ents.length≤1000000) (h2:c.ents.length≤1000000):aL Tryz.prog 31 [.agg (bg b x).toArray,.agg (bg c y).toArray] w (.int .i64 (jU b c)):=by
 refine aB Tryz.func31 rfl Tryz.ntmps31 rfl ?_;have hb:=fun (w' :World) (H:List Blk) (hm:Mem w w' H)=>nS b x w' (h.of_w0 hm) (hW.next hm) h1;have hc:=fun (w' :World) (H:List Blk) (hm:Mem w w' H)=>nS c y w' (k.of_w0 hm) (hW.next hm) h2;unfold jU;generalize bkE b=e at hb ⊢;generalize bkE c=f at hc ⊢;by_cases he:e≠0
 ·rw [if_pos he];repeat' (first|apply aa (d:=7);exact rfl;exact rfl;intro w' hm;exact hb w' _ hm|refine zZB ?_|refine sM fun _=>?_|refine sC ?_ ?_<;>intro hb<;>try omega|fail)
  all_goals first|omega|(refine rT1 ?_);rfl
 ·rw [if_neg he];repeat' (first|apply aa (d:=7);exact rfl;exact rfl;intro w' hm;exact hb w' _ hm|apply aa (d:=12);exact rfl;exact rfl;intro w' hm;exact hc w' _ hm|refine zZB ?_|refine sM fun _=>?_|refine sC ?_ ?_<;>intro hb<;>try omega|fail)
  all_goals first|omega|(refine rT1 ?_);rfl
def y8 (p:Et→Bool) (E:List Et) (i:Nat):List Rf:=((E.take i).filter p).map fun x=>x.at_
theorem MM {p:Et→Bool} {E:List Et} {i:Nat} (h:i<E.length):y8 p E (i+1)=y8 p E i++if p E[i]=true then [E[i].at_] else []:=by
 unfold y8;rw [Xk h,YX,XI,YA];congr 1;split<;>rfl
theorem P3 (p:Et→Bool) (E:List Et) (i:Nat):(y8 p E i).length≤E.length:=by
 unfold y8;rw [Xq];exact XU (XS _ _) (by rw [XA];omega)
theorem MZ {G:Gr} (hG:SortG G) (l:List Rct):(eX G l).Nodup∧(eX G l).length≤G.length:=by
 refine ⟨(nU hG l).imp fun h=>mF h,?_⟩;unfold eX;exact XU (XS _ _) (by rw [ap,Xq];exact Xy _)
theorem u7 {gg:Nat} {G:Gr} {B F:List Blk} {w0:World} (R:Rdr gg G B w0) (hB:MSub B F) (r:Rct) (hr:aA r=true) (b:Bk) (x:Bv) (hbl:b.ents.length≤1000000) (he: ∀ w',Mem w0 w' F→Reads w' (.slice x.ae b.ents.length x.ce) b.ents.length (b.ents.flatMap bN)):
 FnIn Tryz.prog 36 [.pointer (some ⟨gg,0,none⟩),.agg (ay r).toArray,.agg (bg b x).toArray] w0 F fun v H' => ∃ A c,v=sl A (ja G r b.ents).length c∧H' = .own A 34 2 (ja G r b.ents).length c ((ja G r b.ents).flatMap aq)::F:=by
 have hck:bS [] [r]=0:=by simp [bS,hr]
 have hab:=fun (F' :List Blk) (hs:MSub B F') (lv:Value) hrd=>R.above_to (F:=F') hs (rfl:eW G [r]=_) hck (by simp) lv hrd;have hfew:=MZ R.g.sort [r];have hGl:=R.l;have hM0:eW G [r]=eX G [r]:=by unfold eW;rw [if_pos hck]
 rw [← hM0] at hfew;unfold ja;generalize eW G [r]=M at hab hfew ⊢;obtain ⟨hnd,hml⟩:=hfew;have hha:=fun a w=>jA r a w;refine bI Tryz.func36 rfl Tryz.ntmps36 rfl ?_;obtain ⟨us,ents,rules,grants,log,rels,st⟩:=b;obtain ⟨ae,ar,ag,al,as_,ce,cr,cg,cl,cs⟩:=x;simp only [bg];dsimp only at he hbl ⊢;refine S9 (fun w' hm=>he w' hm) fun Al2 cl2 hlv=> ?_;cases hlv;repeat' (first|apply aj (f:=71);exact rfl;exact rfl;exact hab _ (MSub.trans hB mS) _ (fun w' hm=>Reads.of_own (A:=some _) hm pK);rintro _ _ ⟨A1,c1,rfl,rfl⟩|apply cL (enc:=aC);exact rfl;intro gm|refine zZB ?_|refine sM fun _=>?_|refine sC ?_ ?_<;>intro hb<;>try omega|fail)
 all_goals try omega
 rename_i g4 g5 gs;refine ax [4,5,9,23,24] rfl (fun i:Nat=> [(25,.int .i64 (i:Int))]) (fun i=> .own A1 34 2 M.length c1 (M.flatMap aq):: .obj gm (aK aC (dI (M.take i)) i):: .box g4 31 (ay r):: .box g5 28 [.int .i64 us,.slice ae ents.length ce,.slice ar rules.length cr,.slice ag grants.length cg,.slice al log.length cl,.slice as_ rels.length cs,.int .i64 st]::F) (fun i=>i≤M.length) (fun i=>M.length - i) 0 (Xn _) sB (by rw [YF];exact mS) ?_;intro i hi;by_cases hlt:i<M.length
 ·refine aU (A:=A1) pK (by omega) fun go hA=> ?_;subst hA;have hread:((M.flatMap aq).drop (0+i*2)).take 2=aq M[i]:=by rw [Xv];exact aM bD M i hlt
  have hni:M[i]∉M.take i:=fun h=>by
   have h1:=YD i M;have h2:=hnd;rw [← h1,YK] at h2;exact h2.2.2 M[i] h M[i] (by rw [XC hlt];exact Xb) rfl
  have hput:=sZ hni;rw [XA,YO hi,← Xk hlt] at hput;generalize M[i]=a at hread hni hput;repeat' (first|apply ak (d:=27);exact rfl;apply ai (j:=i);exact rfl;exact rfl;exact hlt|apply ak (d:=28);exact rfl;apply au (ys:=aq a);exact rfl;exact pK;exact hread;exact rfl|apply cB (enc:=aC) (k:=a);(iterate 3 exact rfl);exact pK;rw [hput]|refine zZA ?_|refine sM fun _=>?_|refine sC ?_ ?_<;>intro hb<;>try omega|fail)
  all_goals first
   |omega
   |refine ⟨i+1,hlt,by omega,by exact sB,by exact sB,by exact mS⟩;done
 ·have e:i=M.length:=by omega
  subst e;rw [XF];clear hab hnd;have hp: ∀ y:Et,(decide (y.at_∈M)||aI r y.at_)=(fun x:Et=>decide (x.at_∈M)||aI r x.at_) y:=fun _=>rfl;obtain ⟨p,hpe⟩: ∃ p:Et→Bool,(fun x:Et=>decide (x.at_∈M)||aI r x.at_)=p:=⟨_,rfl⟩;rw [hpe] at hp ⊢;refine aF 34 2 ?_;repeat' (first|refine zZA ?_|refine sM fun _=>?_|refine sC ?_ ?_<;>intro hb<;>try omega|fail)
  all_goals try omega
  refine ax [4,9,33,34] rfl (fun y:Nat × Option Nat × Nat=> [(12,sl y.2.1 (y8 p ents y.1).length y.2.2),(35,.int .i64 (y.1:Int))]) (fun y=> .own y.2.1 34 2 (y8 p ents y.1).length y.2.2 ((y8 p ents y.1).flatMap aq):: .obj gm (aK aC (dI M) M.length):: .box g4 31 (ay r)::F) (fun y=>y.1≤ents.length) (fun y=>ents.length - y.1) (0,none,0) (Xn _) sB mS ?_;rintro ⟨i,A2,c2⟩ hi;dsimp only at hi ⊢;by_cases hlt2:i<ents.length
  ·have hread:((ents.flatMap bN).drop (i*3)).take 3=bN ents[i]:=aM dx ents i hlt2;refine J3 (fun w' hm=>he w' (MSub.use mS hm)) (by omega) fun gr orr cr2 hlv=> ?_;cases hlv;have hcl:=fun (w' :World) (H:List Blk) (hs:MSub F H) (hm:Mem w0 w' H)=>pJ (he w' (hs.use hm)) (by omega);have hsn:=MM (p:=p) hlt2;have hol:=P3 p ents i;generalize y8 p ents i=O at hsn hol ⊢;have hpi:=hp ents[i];generalize ents[i]=et at hread hsn hpi;obtain ⟨a,inp⟩:=et;dsimp only [bN] at hread;dsimp only at hsn hpi;have hlk:=mD M a;generalize hq:p ⟨a,inp⟩=pv at hsn hpi;generalize decide (a∈M)=d1 at hpi hlk;have hha:=hha a;generalize aI r a=d2 at hpi hha
   cases pv with
   |true=>
    rw [if_pos rfl] at hsn;have hfl:(O++ [a]).flatMap aq=O.flatMap aq++aq a:=by rw [Xz];simp
    repeat' first|apply ak (d:=37);exact rfl;apply ai (j:=i);exact rfl;exact rfl;exact hlt2|apply ak (d:=38);exact rfl;apply eH (off:=i*3);intro w' hm;exact hcl w' _ mS hm;exact rfl;exact hread;exact rfl|apply ak (d:=42);exact rfl;apply bV (enc:=aC) (k:=a);exact rfl;exact rfl;exact pK;exact hlk|apply aa;exact rfl;exact rfl;intro w hm;exact hha w|apply aN (d:=53) (A:=A2) (m:=1);(iterate 3 exact rfl);exact pK;intro w hm;exact hm.cells_own pK;exact rfl;simp [Value.oneCell',sl];omega;simp only [maxLen];omega;intro B2 b2 hB2|refine zZA ?_|refine sM fun _=>?_|refine sC ?_ ?_<;>intro hb<;>try omega|fail
    all_goals first
     |omega
     |exfalso;simp_all;done
     |(refine ⟨(i+1,B2,b2),hlt2,by dsimp only;omega,?_,by exact sB,?_⟩<;>(dsimp only;rw [hsn])<;>first|rw [List.length_append,List.length_singleton];exact sB;done|rw [List.length_append,List.length_singleton,hfl];simp only [aq];exact mS;done)
   |false=>
    rw [if_neg (by decide),Xm] at hsn;repeat' (first|apply ak (d:=37);exact rfl;apply ai (j:=i);exact rfl;exact rfl;exact hlt2|apply ak (d:=38);exact rfl;apply eH (off:=i*3);intro w' hm;exact hcl w' _ mS hm;exact rfl;exact hread;exact rfl|apply ak (d:=42);exact rfl;apply bV (enc:=aC) (k:=a);exact rfl;exact rfl;exact pK;exact hlk|apply aa;exact rfl;exact rfl;intro w hm;exact hha w|refine zZA ?_|refine sM fun _=>?_|refine sC ?_ ?_<;>intro hb<;>try omega|fail)
    all_goals first
     |omega
     |exfalso;simp_all;done
     |(refine ⟨(i+1,A2,c2),hlt2,by dsimp only;omega,?_,by exact sB,?_⟩<;>(dsimp only;rw [hsn])<;>first|exact sB;done|exact mS;done)
  ·have e:i=ents.length:=by omega
   subst e;have hO:y8 p ents ents.length=(ents.filter p).map fun x=>x.at_:=by unfold y8;rw [XF]
   rw [hO];repeat' (first|refine zZA ?_|refine sM fun _=>?_|refine sC ?_ ?_<;>intro hb<;>try omega|fail)
   all_goals first
    |omega
    |refine bo eIO rfl rfl (H' := .own A2 34 2 ((ents.filter p).map fun x=>x.at_).length c2 (((ents.filter p).map fun x=>x.at_).flatMap aq)::F) mS ⟨A2,c2,rfl,rfl⟩;done
theorem SB (G:Gr) (r:Rct) (user:Int) (Z:List (Rf × BitVec 64)):y4 G r user Z=(Z.filter fun z=>decide (z.1∈Gb (oM user Z) (nX G r))).map fun z=>z.1:=by
 unfold y4 P0;generalize Gb (oM user Z) (nX G r)=S;unfold oM;rw [List.filter_map,YL];rfl
def y5 (S:List Rf) (Z:List (Rf × BitVec 64)) (i:Nat):List Rf:=((Z.take i).filter fun z=>decide (z.1∈S)).map fun z=>z.1
theorem MK {S:List Rf} {Z:List (Rf × BitVec 64)} {i:Nat} (h:i<Z.length):y5 S Z (i+1)=y5 S Z i++if decide (Z[i].1∈S)=true then [Z[i].1] else []:=by
 unfold y5;rw [Xk h,YX,XI,YA];congr 1;split<;>rfl
theorem P2 (S:List Rf) (Z:List (Rf × BitVec 64)) (i:Nat):(y5 S Z i).length≤Z.length:=by
 unfold y5;rw [Xq];exact XU (XS _ _) (by rw [XA];omega)
theorem Oi (user:Int) (Z:List (Rf × BitVec 64)):(oM user Z).length=Z.length:=by unfold oM;rw [Xq]
theorem Oj {user:Int} {Z:List (Rf × BitVec 64)} {i:Nat} (h:i<Z.length) (h2:i<(oM user Z).length):(oM user Z)[i]=(Z[i].1,gD Z[i].2 user):=by simp only [oM,ZZ]
theorem GP {gg:Nat} {G:Gr} {B F:List Blk} {w0:World} (R:Rdr gg G B w0) (hB:MSub B F) (r:Rct) (Aa:Option Nat) (ca:Nat) (As:Option Nat) (cs:Nat) (user:Int) (Z:List (Rf × BitVec 64)) (hZl:Z.length≤1000000):
 FnIn Tryz.prog 33 [.agg (yY gg r Aa Z.length ca As Z.length cs).toArray,.int .i64 user] w0 (.own Aa 34 2 Z.length ca ((Z.map fun z=>z.1).flatMap aq):: .own As 57 1 Z.length cs ((Z.map fun z=>z.2).map vS)::F) fun v H' => ∃ A c,v=sl A (y4 G r user Z).length c∧H' = .own A 34 2 (y4 G r user Z).length c ((y4 G r user Z).flatMap aq):: .own Aa 34 2 Z.length ca ((Z.map fun z=>z.1).flatMap aq):: .own As 57 1 Z.length cs ((Z.map fun z=>z.2).map vS)::F:=by
 have hnr:=fun (a:Rf) (S:List Rf) (hS:S.Nodup) (gm:Nat) (H:List Blk) (hs:MSub B H)=>RP R hs r Aa Z.length ca As Z.length cs a S hS gm;have hhs:=fun x w=>jc x user w;refine bI Tryz.func33 rfl Tryz.ntmps33 rfl ?_;rw [SB];simp only [yY] at hnr ⊢;have hlen:=Oi user Z;have hget:=fun {i:Nat} (h:i<Z.length) (h2:i<(oM user Z).length)=>Oj (user:=user) h h2;generalize oM user Z=A at hlen hget ⊢;repeat' (first|apply cL (enc:=aC);exact rfl;intro gm|refine zZB ?_|refine sM fun _=>?_|refine sC ?_ ?_<;>intro hb<;>try omega|fail)
 all_goals try omega
 rename_i g2;refine ax [1,2,5] rfl (fun _:List Rf=> []) (fun S=> .obj gm (aK aC (dI S) S.length):: .box g2 83 [.pointer (some ⟨gg,0,none⟩),.int .i64 r.c1,.int .i64 r.r1,.int .i64 r.c2,.int .i64 r.r2,sl Aa Z.length ca,sl As Z.length cs]:: .own Aa 34 2 Z.length ca ((Z.map fun z=>z.1).flatMap aq):: .own As 57 1 Z.length cs ((Z.map fun z=>z.2).map vS)::F) (fun S=>GrI A (nX G r) S) (fun S=>A.length - S.length) [] (GrI.nil _ _) sB mS ?_;intro S hI;have hSl:=hI.len;repeat' (first|refine zZA ?_|refine sM fun _=>?_|refine sC ?_ ?_<;>intro hb<;>try omega|fail)
 all_goals try omega
 refine ax [1,2,5,13,14] rfl (fun i:Nat=> [(15,.int .i64 (i:Int))]) (fun _=> .obj gm (aK aC (dI S) S.length):: .box g2 83 [.pointer (some ⟨gg,0,none⟩),.int .i64 r.c1,.int .i64 r.r1,.int .i64 r.c2,.int .i64 r.r2,sl Aa Z.length ca,sl As Z.length cs]:: .own Aa 34 2 Z.length ca ((Z.map fun z=>z.1).flatMap aq):: .own As 57 1 Z.length cs ((Z.map fun z=>z.2).map vS)::F) (fun i=>i≤Z.length∧ ∀ q (h:q<A.length),q<i→zQ (nX G r) S A[q]=false) (fun i=>Z.length - i) 0 ⟨Xn _,fun _ _ h=>absurd h (YY _)⟩ sB mS ?_;rintro i ⟨hi,hno⟩;by_cases hlt:i<Z.length
 ·refine aU (A:=Aa) pK (by omega) fun ga hA=> ?_;subst hA;refine aU (A:=As) pK (by omega) fun gs hA=> ?_;subst hA;have hltA:i<A.length:=by omega
  have hge:=hget hlt hltA;have hread:(((Z.map fun z=>z.1).flatMap aq).drop (0+i*2)).take 2=aq Z[i].1:=by
   have h1:=aM bD (Z.map fun z=>z.1) i (by rw [Xq];exact hlt);rw [ZZ] at h1;rw [Xv];exact h1
  have hrs:((Z.map fun z=>z.2).map vS)[0+i*1]? =some (vS Z[i].2):=by
   rw [Xv,YT,XN,XN,Xf hlt];rfl
  have hstep:zQ (nX G r) S A[i]=true→GrI A (nX G r) (S++ [A[i].1]):=fun h=>hI.step hltA hno h;have hnx:zQ (nX G r) S A[i]=false→ ∀ q (h:q<A.length),q<i+1→zQ (nX G r) S A[q]=false:=fun h0 q h hq=>by
   by_cases e:q=i
   ·subst e;exact h0
   ·exact hno q h (by omega)
  rw [hge] at hstep hnx;clear hno hge;generalize Z[i]=z at hread hrs hstep hnx;obtain ⟨a,x⟩:=z;dsimp only at hread hrs hstep hnx;unfold zQ at hstep hnx;dsimp only at hstep hnx;have hlk:=mD S a;have hput:=fun h:a∉S=>sZ h;have hnr:=fun gm H hs=>hnr a S hI.nd gm H hs;have hhs:=hhs x;generalize gD x user=bs at hhs hstep hnx;generalize nX G r a S=bn at hnr hstep hnx
  cases hd:decide (a∈S) with
  |true=>
   rw [hd] at hlk hnx;have hnx:=hnx rfl;repeat' (first|apply ak (d:=18);exact rfl;apply ai (j:=i);exact rfl;exact rfl;exact hlt|apply ak (d:=19);exact rfl;apply au (ys:=aq a);exact rfl;exact pK;exact hread;exact rfl|apply ak (d:=22);exact rfl;apply bV (enc:=aC) (k:=a);exact rfl;exact rfl;exact pK;exact hlk|refine zZA ?_|refine sM fun _=>?_|refine sC ?_ ?_<;>intro hb<;>try omega|fail)
   all_goals first
    |omega
    |refine ⟨i+1,⟨hlt,hnx⟩,by omega,by exact sB,by exact sB,by exact mS⟩;done
  |false=>
   rw [hd] at hlk hnx hstep;rw [aag,XT] at hnx hstep;have hput:=hput (of_decide_eq_false hd)
   cases bs with
   |false=>
    have hnx:=hnx rfl;repeat' (first|apply ak (d:=18);exact rfl;apply ai (j:=i);exact rfl;exact rfl;exact hlt|apply ak (d:=19);exact rfl;apply au (ys:=aq a);exact rfl;exact pK;exact hread;exact rfl|apply ak (d:=22);exact rfl;apply bV (enc:=aC) (k:=a);exact rfl;exact rfl;exact pK;exact hlk|apply ak (d:=28);exact rfl;apply ai (j:=i);exact rfl;exact rfl;exact hlt|apply ak (d:=29);exact rfl;apply bB;exact rfl;exact pK;exact hrs|apply aa (f:=65);exact rfl;exact rfl;intro w' hm;exact hhs w'|refine zZA ?_|refine sM fun _=>?_|refine sC ?_ ?_<;>intro hb<;>try omega|fail)
    all_goals first
     |omega
     |refine ⟨i+1,⟨hlt,hnx⟩,by omega,by exact sB,by exact sB,by exact mS⟩;done
   |true=>
    rw [XT] at hnx hstep
    cases bn with
    |false=>
     have hnx:=hnx rfl;repeat' (first|apply ak (d:=18);exact rfl;apply ai (j:=i);exact rfl;exact rfl;exact hlt|apply ak (d:=19);exact rfl;apply au (ys:=aq a);exact rfl;exact pK;exact hread;exact rfl|apply ak (d:=22);exact rfl;apply bV (enc:=aC) (k:=a);exact rfl;exact rfl;exact pK;exact hlk|apply ak (d:=28);exact rfl;apply ai (j:=i);exact rfl;exact rfl;exact hlt|apply ak (d:=29);exact rfl;apply bB;exact rfl;exact pK;exact hrs|apply aa (f:=65);exact rfl;exact rfl;intro w' hm;exact hhs w'|apply aj (f:=66);exact rfl;exact rfl;refine FnIn.msub (hnr _ _ ?_) (MSub.pick pK (MSub.refl _));(focus (exact MSub.trans hB mS));rintro _ _ ⟨rfl,rfl⟩|refine zZA ?_|refine sM fun _=>?_|refine sC ?_ ?_<;>intro hb<;>try omega|fail)
     all_goals first
      |omega
      |refine ⟨i+1,⟨hlt,hnx⟩,by omega,by exact sB,by exact sB,by exact mS⟩;done
    |true=>
     have hstep:=hstep rfl;have hsl2:=hstep.len;rw [Xa,Xe] at hsl2;repeat' (first|apply ak (d:=18);exact rfl;apply ai (j:=i);exact rfl;exact rfl;exact hlt|apply ak (d:=19);exact rfl;apply au (ys:=aq a);exact rfl;exact pK;exact hread;exact rfl|apply ak (d:=22);exact rfl;apply bV (enc:=aC) (k:=a);exact rfl;exact rfl;exact pK;exact hlk|apply ak (d:=28);exact rfl;apply ai (j:=i);exact rfl;exact rfl;exact hlt|apply ak (d:=29);exact rfl;apply bB;exact rfl;exact pK;exact hrs|apply aa (f:=65);exact rfl;exact rfl;intro w' hm;exact hhs w'|apply aj (f:=66);exact rfl;exact rfl;refine FnIn.msub (hnr _ _ ?_) (MSub.pick pK (MSub.refl _));(focus (exact MSub.trans hB mS));rintro _ _ ⟨rfl,rfl⟩|apply cB (enc:=aC) (k:=a);(iterate 3 exact rfl);exact pK;rw [hput]|refine zZA ?_|refine sM fun _=>?_|refine sC ?_ ?_<;>intro hb<;>try omega|fail)
     all_goals first
      |omega
      |refine ⟨S++ [a],hstep,by rw [Xa,Xe];omega,by exact sB,by exact sB,?_⟩;rw [Xa,Xe];exact mS;done
 ·have e:i=Z.length:=by omega
  have hdone:=hI.done fun q hq=>hno q hq (by omega);subst e;clear hnr hhs hno hSl;rw [← hdone];clear hdone hI;refine aF 34 2 ?_;repeat' (first|refine zZA ?_|refine sM fun _=>?_|refine sC ?_ ?_<;>intro hb<;>try omega|fail)
  all_goals try omega
  refine ax [2,5,43,44] rfl (fun y:Nat × Option Nat × Nat=> [(8,sl y.2.1 (y5 S Z y.1).length y.2.2),(45,.int .i64 (y.1:Int))]) (fun y=> .own y.2.1 34 2 (y5 S Z y.1).length y.2.2 ((y5 S Z y.1).flatMap aq):: .obj gm (aK aC (dI S) S.length):: .own Aa 34 2 Z.length ca ((Z.map fun z=>z.1).flatMap aq):: .own As 57 1 Z.length cs ((Z.map fun z=>z.2).map vS)::F) (fun y=>y.1≤Z.length) (fun y=>Z.length - y.1) (0,none,0) (Xn _) sB mS ?_;rintro ⟨j,A2,c2⟩ hj;dsimp only at hj ⊢;by_cases hlj:j<Z.length
  ·refine aU (A:=Aa) pK (by omega) fun ga hA=> ?_;subst hA;have hread:(((Z.map fun z=>z.1).flatMap aq).drop (0+j*2)).take 2=aq Z[j].1:=by
    have h1:=aM bD (Z.map fun z=>z.1) j (by rw [Xq];exact hlj);rw [ZZ] at h1;rw [Xv];exact h1
   have hsn:=MK (S:=S) hlj;have hol:=P2 S Z j;generalize y5 S Z j=O at hsn hol ⊢;generalize Z[j]=z at hread hsn;obtain ⟨a,x⟩:=z;dsimp only at hread hsn;have hlk:=mD S a;have hfl:(O++ [a]).flatMap aq=O.flatMap aq++aq a:=by rw [Xz];simp
   cases hd:decide (a∈S) with
   |true=>
    rw [hd] at hlk hsn;rw [if_pos rfl] at hsn;repeat' (first|apply ak (d:=47);exact rfl;apply ai (j:=j);exact rfl;exact rfl;exact hlj|apply ak (d:=48);exact rfl;apply au (ys:=aq a);exact rfl;exact pK;exact hread;exact rfl|apply ak (d:=51);exact rfl;apply bV (enc:=aC) (k:=a);exact rfl;exact rfl;exact pK;exact hlk|apply aN (d:=55) (A:=A2) (m:=1);(iterate 3 exact rfl);exact pK;intro w hm;exact hm.cells_own pK;exact rfl;simp [Value.oneCell',sl];omega;simp only [maxLen];omega;intro B2 b2 hB2|refine zZA ?_|refine sM fun _=>?_|refine sC ?_ ?_<;>intro hb<;>try omega|fail)
    all_goals first
     |omega
     |(refine ⟨(j+1,B2,b2),hlj,by dsimp only;omega,?_,by exact sB,?_⟩<;>(dsimp only;rw [hsn])<;>first|rw [List.length_append,List.length_singleton];exact sB;done|rw [List.length_append,List.length_singleton,hfl];simp only [aq];exact mS;done)
   |false=>
    rw [hd] at hlk hsn;rw [if_neg (by decide),Xm] at hsn;repeat' (first|apply ak (d:=47);exact rfl;apply ai (j:=j);exact rfl;exact rfl;exact hlj|apply ak (d:=48);exact rfl;apply au (ys:=aq a);exact rfl;exact pK;exact hread;exact rfl|apply ak (d:=51);exact rfl;apply bV (enc:=aC) (k:=a);exact rfl;exact rfl;exact pK;exact hlk|refine zZA ?_|refine sM fun _=>?_|refine sC ?_ ?_<;>intro hb<;>try omega|fail)
    all_goals first
     |omega
     |(refine ⟨(j+1,A2,c2),hlj,by dsimp only;omega,?_,by exact sB,?_⟩<;>(dsimp only;rw [hsn])<;>first|exact sB;done|exact mS;done)
  ·have e:j=Z.length:=by omega
   subst e;have hO:y5 S Z Z.length=(Z.filter fun z=>decide (z.1∈S)).map fun z=>z.1:=by unfold y5;rw [XF]
   rw [hO];generalize (Z.filter fun z=>decide (z.1∈S)).map (fun z=>z.1)=O;repeat' (first|refine zZA ?_|refine sM fun _=>?_|refine sC ?_ ?_<;>intro hb<;>try omega|fail)
   all_goals first
    |omega
    |refine bo eIO rfl rfl (H' := .own A2 34 2 O.length c2 (O.flatMap aq):: .own Aa 34 2 Z.length ca ((Z.map fun z=>z.1).flatMap aq):: .own As 57 1 Z.length cs ((Z.map fun z=>z.2).map vS)::F) mS ⟨A2,c2,rfl,rfl⟩;done
end Go.SL

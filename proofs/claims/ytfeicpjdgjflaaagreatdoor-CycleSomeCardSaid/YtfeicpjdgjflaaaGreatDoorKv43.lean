/-
  Lemmas and walks, put together: Ye Yf.
-/
import Derived.Test.YtfeicpjdgjflaaaGreatDoorKv34
import Derived.Test.YtfeicpjdgjflaaaGreatDoorKv41
set_option linter.unusedSimpArgs false
set_option linter.unusedVariables false
set_option maxRecDepth 20000
set_option maxHeartbeats 16000000
namespace Go.SL
open Go
section
variable {G:Gr}
open Classical in
theorem HB (hG:GrOk G): ∀ (S2 S1:List Nat),AmgI G (S1++S2)→mA (au G) (ck G) (bQ (au G) S2) S1=(S1++S2,0)
 | [],S1,_=>by rw [VB];rfl
 |i::S2,S1,h=>by
  have hi:i<G.length:=h.lt i (by simp);obtain ⟨hk,e⟩:=kA hi;have hc:ck G i=false:=by
   cases hc:ck G i with
   |false=>rfl
   |true=>exact absurd (oD.1 hc) (h.free i (by simp))
  have hn:i∉S1:=fun h1=>by
   have h2:=(Xq.1 h.nd).2.2 i h1 i (by simp);exact h2 rfl
  show mA (au G) (ck G) (jq (au G) i::bQ (au G) S2) S1=_;rw [mA,if_neg (by rw [si hG hi];simp),e,if_neg (not_not_intro (VL hk)),uh hG.sort.nodup hk,if_neg (by rw [hc];simp),if_neg hn];have h1:=HB hG S2 (S1++ [i]) (by rw [VC];exact h);rw [h1,VC];rfl
theorem P4 (hG:GrOk G) {S l:List Nat} (h:AmgI G S) (hp:l.Perm S) (hs:l.Pairwise (· < ·)):lA G (bQ (au G) S)=bQ (au G) (dP G l)∧iA G (bQ (au G) S)=0:=
 JL (S:=S) (l:=l) (HB hG S [] h) hp hs rfl
theorem yI (G:Gr):(AH G).Nodup:=(nu G).sort_perm.nodup_iff.2 (nu G).nodup
theorem Gb {S:List Nat} (h1:S.Nodup) (h2: ∀ i∈S,i∈AH G):AmgI G S:=
 ⟨h1,fun i hi=>(nu G).lt i (tQ.1 (h2 i hi)),fun i hi=>(nu G).free i (tQ.1 (h2 i hi))⟩
theorem Su (hG:GrOk G):lA G (iq G).reverse=iq G∧iA G (iq G).reverse=0:=by
 have h1:(iq G).reverse=bQ (au G) (AH G).reverse:=by unfold iq bQ;rw [List.map_reverse]
 rw [h1];exact P4 hG (Gb ((List.reverse_perm _).nodup_iff.2 (yI G)) fun i hi=>List.mem_reverse.1 hi) ((nu G).sort_perm.symm.trans (List.reverse_perm _).symm) (DN G)
theorem P3 (hG:GrOk G) {S:List Nat} (h:AmgI G S):lA G (bQ (au G) S)=bQ (au G) (dP G (fB S))∧iA G (bQ (au G) S)=0:=
 P4 hG h (dZ S) h.ok.asc
theorem Oi {S:List Nat} (h:AmgI G S):(bQ (au G) (dP G (fB S))).length=(bQ (au G) S).length:=by
 rw [cQ,cQ,h.ok.sort_len,(dZ S).length_eq]
theorem Oh {S:List Nat} (h:AmgI G S) {a:Rf} (ha:a∈bQ (au G) S):a∈bQ (au G) (dP G (fB S)):=by
 obtain ⟨i,hi,rfl⟩:=VM.1 ha;exact VM.2 ⟨i,h.ok.sort_perm.mem_iff.2 ((dZ S).mem_iff.2 hi),rfl⟩
end
open Go.Proofs
attribute [local irreducible] FnAt FnIn FnP RW VOp W WA WC WE WG WL WLI WQ WR WT WX aS aV bg bi blk ceP scp thn
theorem EA (L:List Pu) (tv:Value) (mk:Int) (w:World) (ht:Reads w tv L.length (L.flatMap mT)) (hW:Words w):
 aF Tryz.prog 4 [tv,.int .u64 mk] w (.bool true):=by
 have ht' :=ht;obtain ⟨At,ct,rfl,ht1,ht2,ht3⟩:=ht;refine aA Tryz.func4 rfl Tryz.ntmps4 rfl ?_;have hcut:=ht'.cut (lo:=0) (hi:=min L.length 25) (sz:=3) (by omega) (by omega);generalize hm:min L.length 25=m at hcut;have hm2:m≤25:=by omega
 have hmL:m≤L.length:=by omega
 have hl1:(L.take m).length=m:=by simp;omega
 have hl2:((L.flatMap mT).drop (0*3)).take ((m - 0)*3)=(L.take m).flatMap mT:=by
  rw [XV,WH,WU,jV qZ]
 rw [hl2,WU] at hcut;generalize L.take m=M at hl1 hcut;subst hl1;have hS:=fun (w' :World) (H:List Blk) (hm:Mem w w' H)=>vU M _ w' (hcut.of_w0 hm) (hW.next hm);have hGl:=rX M;generalize pX M=G at hS hGl;repeat' (first|apply ai;exact rfl;apply xN (a:=L.length) (b:=25);exact rfl;exact rfl;exact hm|apply ai;exact rfl;apply jY (lo:=0) (hi:=M.length);exact rfl;exact rfl;exact ⟨_,rfl⟩;omega;omega|apply aJ (f:=10);exact rfl;exact rfl;intro w' hm;exact hS w' _ hm;rintro _ _ ⟨x,rfl,rfl,hx⟩;refine kU _ (MSub.appS _ _) ?_|refine zZM ?_|refine sM fun _=>?_|refine sC ?_ ?_<;>intro hb<;>try omega|fail)
 rename_i g3;have hl' :G.length≤900:=by omega
 have hg:=hx.g;have hcy:=x.cyr hx hl' w;have hrd:=x.rdr hx hl' w;have hO1:=fun (H:List Blk) (hs:MSub x.H H)=>sZ hcy H hs;have hn:=Ga G;have hamg:=Su hg;have hNn:=yI G;have hNa:=fun S h1 h2=>Gb (G:=G) (S:=S) h1 h2;have hON:iq G=bQ (au G) (AH G):=rfl;have hpa:x.pa= .pointer (some ⟨x.gg,0,none⟩):=rfl;generalize AH G=N at hNn hNa hON;generalize iq G=O at hO1 hn hamg hON;have hOl:O.length=N.length:=by rw [hON,cQ]
 repeat' first|apply ak (f:=19);exact rfl;exact rfl;exact hO1 _ mS;rintro _ _ ⟨A1,c1,rfl,rfl⟩|refine zZM ?_|refine sM fun _=>?_|refine sC ?_ ?_<;>intro hb<;>try omega|fail
 refine aI 35 2 ?_;refine aI 35 2 ?_
 refine ay [1,5,7] rfl (fun y:Nat × List Nat × (Option Nat × Nat) × (Option Nat × Nat)=> [(9,sl y.2.2.1.1 (bQ (au G) y.2.1).length y.2.2.1.2),(10,sl y.2.2.2.1 (O.drop y.1).reverse.length y.2.2.2.2),(11,.int .i64 ((y.1:Int) - 1))])
  (fun y=> .own y.2.2.1.1 35 2 (bQ (au G) y.2.1).length y.2.2.1.2 ((bQ (au G) y.2.1).flatMap aw):: .own y.2.2.2.1 35 2 (O.drop y.1).reverse.length y.2.2.2.2 ((O.drop y.1).reverse.flatMap aw):: .own A1 35 2 O.length c1 (O.flatMap aw):: .box g3 28 [x.pa,x.pb]::x.H)
  (fun y=>y.1≤O.length∧y.2.1.length+y.1≤O.length∧y.2.1.Nodup∧ ∀ t∈y.2.1,t∈N.drop y.1) (fun y=>y.1) (O.length,[],(none,0),(none,0)) ⟨VA _,by simp,XN,fun _ h=>by cases h⟩ (by simp only [V8];exact sB) (by simp only [V8];exact mS) ?_
 rintro ⟨j,S,⟨A,c⟩,⟨Ab,cb⟩⟩ ⟨hj,hSl,hSn,hSd⟩;dsimp only at hj hSl hSn hSd ⊢;by_cases hj0:0<j
 ·obtain ⟨i,rfl⟩: ∃ i,j=i+1:=⟨j - 1,by omega⟩;have e1:(((i+1:Nat):Int) - 1)=(i:Int):=by omega
  rw [e1];refine ba (A:=A1) (.tl (.tl .hd)) (by omega) fun gk hA=> ?_;subst hA;have hiO:i<O.length:=by omega
  have hiN:i<N.length:=by omega
  have hcell:((O.flatMap aw).drop (0+i*2)).take 2=aw O[i]:=by rw [VD];exact cj bS O i hiO
  have hdr:(O.drop i).reverse=(O.drop (i+1)).reverse++ [O[i]]:=by rw [Vy hiO,List.reverse_cons]
  have hOi:O[i]=jq (au G) N[i]:=by simp [hON,bQ]
  have hdN:=Vy hiN;have hSn' :(S++ [N[i]]).Nodup:=by
   rw [Xq];refine ⟨hSn,by simp,fun a ha b hb e=> ?_⟩;rw [Vx.1 hb] at e;have h1:=hSd a ha;rw [e] at h1;have h2:=(hNn.sublist (List.drop_sublist i N));rw [hdN,Xe] at h2;exact h2.1 h1
  have hSd' : ∀ t∈S++ [N[i]],t∈N.drop i:=fun t h=>by
   rw [hdN];rcases VH.1 h with h|h
   ·exact Vv _ (hSd t h)
   ·rw [Vx.1 h];exact Vr
  have hSd2: ∀ t∈S,t∈N.drop i:=fun t h=>by rw [hdN];exact Vv _ (hSd t h)
  have eX:bQ (au G) (S++ [N[i]])=bQ (au G) S++ [O[i]]:=by rw [lG,hOi]
  have hbl:(O.drop (i+1)).reverse.length≤900:=by rw [List.length_reverse,VS];omega
  have hXl:(bQ (au G) S).length≤900:=by rw [cQ];omega
  generalize O[i]=a at hcell hdr eX;generalize N[i]=ni at hSn' hSd' eX;have eB1:(O.drop i).reverse.length=(O.drop (i+1)).reverse.length+1:=by rw [hdr];simp
  have eB2:(O.drop i).reverse.flatMap aw=(O.drop (i+1)).reverse.flatMap aw++aw a:=by rw [hdr,VF,WZ]
  have eX1:(bQ (au G) (S++ [ni])).length=(bQ (au G) S).length+1:=by rw [eX];simp
  have eX2:(bQ (au G) (S++ [ni])).flatMap aw=(bQ (au G) S).flatMap aw++aw a:=by rw [eX,VF,WZ]
  have hS1l:(S++ [ni]).length=S.length+1:=by simp
  repeat' first|apply ai (d:=51);exact rfl;apply Ka (i:=i);exact rfl;exact rfl|apply ai (d:=52);exact rfl;apply NL (m:=i % 64);exact rfl;exact rfl;exact PY i|apply ai (d:=53);exact rfl;apply Kb;exact rfl;exact rfl;decide|apply ai (d:=54);exact rfl;apply Kc;exact rfl;exact rfl|apply ai (d:=45);exact rfl;apply aa (j:=i);exact rfl;exact rfl;exact hiO|apply ai (d:=46);exact rfl;apply aD (ys:=aw a);exact rfl;exact pK;exact hcell;exact rfl|apply ai (d:=58);exact rfl;apply aa (j:=i);exact rfl;exact rfl;exact hiO|apply ai (d:=59);exact rfl;apply aD (ys:=aw a);exact rfl;exact pK;exact hcell;exact rfl|apply aG (d:=48);(iterate 3 exact rfl);exact pK;exact pK;exact rfl;simp [aw,Value.oneCell'];omega;simp only [maxLen];omega;intro g7 c7|apply aG (d:=61);(iterate 3 exact rfl);exact pK;exact pK;exact rfl;simp [aw,Value.oneCell'];omega;simp only [maxLen];omega;intro g8 c8|refine zZM ?_|refine sM fun _=>?_|refine sC ?_ ?_<;>intro hb<;>try omega|fail
  all_goals first
   |omega
   | (have hb' : ¬ _ = (1 : Int) := hb
      refine ⟨(i,S,(A,c),(some g7,c7)),⟨by dsimp only;omega,by dsimp only;omega,hSn,hSd2⟩,by dsimp only;omega,?_,by exact sB,?_⟩
      ·dsimp only;rw [eB1];exact sB
      ·dsimp only;rw [eB1,eB2];exact mS)
   | (have hb' : _ = (1 : Int) := hb
      refine ⟨(i,S++ [ni],(some g8,c8),(some g7,c7)),⟨by dsimp only;omega,by dsimp only;omega,hSn',hSd'⟩,by dsimp only;omega,?_,by exact sB,?_⟩
      ·dsimp only;rw [eB1,eX1];exact sB
      ·dsimp only;rw [eB1,eX1,eB2,eX2];exact mS)
 ·have hj00:j=0:=by omega
  subst hj00;rw [WH] at hSd ⊢;have hAm:=hNa S hSn hSd;obtain ⟨h5,h6⟩:=P3 hg hAm;have hlen:=Oi hAm;have hmem:=fun a=>Oh (a:=a) hAm;have hplc:=hAm.ok.plc hg hl';have hA1:=fun (H:List Blk) (hs:MSub x.H H) (lv:Value) hr=>qA hcy hs hamg (by rw [List.length_reverse];omega) lv hr;have hA2:=fun (H:List Blk) (hs:MSub x.H H) (lv:Value) hr=>qA hcy hs ⟨h5,h6⟩ (by rw [cQ];omega) lv hr;have hXl:(bQ (au G) S).length≤900:=by rw [cQ];omega
  generalize bQ (au G) (dP G (fB S))=Z at hlen hmem hplc hA2;generalize bQ (au G) S=X at hlen hmem hA2 hXl ⊢;have hP:=fun (H:List Blk) (A:Option Nat) (c:Nat) (hs:MSub (.own A 35 2 Z.length c (Z.flatMap aw)::x.H) H)=>tO hrd hplc hs;have hHas:=fun (a:Rf) (h:a∈X) (w' :World) (lv:Value) (hr:Reads w' lv Z.length (Z.flatMap aw))=>qo (M:=Z) (a:=a) (y:=true) (decide_eq_true (hmem a h)) hr;rw [hlen] at hA2 hP hHas;repeat' (first|apply ak (d:=66);exact rfl;exact rfl;exact hA1 _ mS _ (fun H w' hs hm=>Reads.of_own (A:=Ab) (c:=cb) (hs.use hm) pK);rintro _ _ ⟨A12,c12,rfl,rfl⟩|apply ak (d:=73);exact rfl;exact rfl;exact hA2 _ mS _ (fun H w' hs hm=>Reads.of_own (A:=A) (c:=c) (hs.use hm) pK);rintro _ _ ⟨A13,c13,rfl,rfl⟩|apply ag (d:=85);exact rfl;exact rfl;intro w' hm;exact eG rfl (Reads.of_own (A:=A12) (c:=c12) hm pK) (Reads.of_own (A:=A1) (c:=c1) hm pK)|apply ai (d:=93);exact rfl;apply jK;exact rfl;exact rfl|refine zZA ?_|refine sM fun _=>?_|refine sC ?_ ?_<;>intro hb<;>try omega|fail)
  refine ay [5,9,13] rfl (fun i:Nat=> [(15,.int .i64 (i:Int))]) (fun _=> .own A13 35 2 X.length c13 (Z.flatMap aw):: .own A 35 2 X.length c (X.flatMap aw):: .box g3 28 [x.pa,x.pb]::x.H) (fun i=>i≤X.length) (fun i=>X.length - i) 0 (Vt _) sB mS ?_;rintro i hi;by_cases hlt:i<X.length
  ·refine ba (A:=A) (.tl .hd) (by omega) fun gs hA=> ?_;subst hA;have hri:=u6 hlt;have hmi:X[i]∈X:=VL hlt;generalize X[i]=a at hri hmi;have hHas' :=fun w' lv hr=>hHas a hmi w' lv hr;repeat' (first|apply ai (d:=104);exact rfl;apply aa (j:=i);exact rfl;exact rfl;exact hlt|apply ai (d:=105);exact rfl;apply aD (ys:=aw a);exact rfl;exact pK;exact hri;exact rfl|apply ag (f:=20);exact rfl;exact rfl;intro w' hm;exact hHas' w' _ (Reads.of_own (A:=A13) (c:=c13) hm pK)|refine zZA ?_|refine sM fun _=>?_|refine sC ?_ ?_<;>intro hb<;>try omega|fail)
   all_goals first
    |omega
    |refine ⟨i+1,by omega,by omega,by exact sB,by exact sB,by exact mS⟩;done
  ·repeat' first|apply ak (f:=21);exact rfl;exact rfl;exact hP _ A13 c13 mS;rintro _ _ ⟨rfl,rfl⟩|apply ag (f:=18);exact rfl;exact rfl;intro w' hm;exact sY w' (hW.next hm)|refine zZA ?_|refine sM fun _=>?_|refine sC ?_ ?_<;>intro hb<;>try omega|fail
   all_goals first
    |omega
    |(refine rT1 ?_);rfl
end Go.SL

/-
  Lemmas and walks, put together: Zv Zq Zw Zx.
-/
import Derived.Test.YtpoafcnhplbkmaaGreatDoorKs29
set_option linter.unusedSimpArgs false
set_option linter.unusedVariables false
set_option maxRecDepth 20000
set_option maxHeartbeats 16000000
namespace Go.SL
open Go Go.Proofs
attribute [local irreducible] W WL WQ WG WA WX WLI WR WT WC WE VOp RW thn blk bH scp aV bz bP FnAt FnIn FnP ceP
theorem sm (A:Option Nat) (n cap:Nat) (xs:List Value) (R:List Blk) (w0:World):
 FnIn Tryz.prog 24 [sl A n cap] w0 (.own A 28 2 n cap xs::R) fun v H=>v= .tuple #[]∧ ∃ ys,H= .own A 28 2 n cap ys::R:=by
 refine bF Tryz.func24 rfl Tryz.ntmps24 rfl ?_;refine tu (A:=A) .hd fun hxl hle hcm=> ?_;repeat' (first|refine zZB ?_|refine sM fun _=>?_|(refine sC ?_ ?_<;>intro hb<;>try omega)|fail)
 refine aw [0] rfl (fun y:Nat × List Value=> [(2,.int .i64 (y.1:Int))]) (fun y=> .own A 28 2 n cap y.2::R) (fun y=>y.1≤n∧y.2.length=n*2) (fun y=>n - y.1) (0,xs) ⟨QZ _,hxl⟩ sB mS ?_;rintro ⟨i,ys⟩ ⟨hi,hys⟩;dsimp only at hi hys ⊢;by_cases hlt:i<n
 ·refine bg (A:=A) .hd (by omega) fun g hA=> ?_;subst hA;repeat' (first|(apply ai;exact rfl;apply ag (j:=i);exact rfl;exact rfl;exact hlt)|(apply mP (vs:= [.int .i64 0,.int .i64 0]) (off:=0+i*2);exact rfl;exact rfl;exact pK;exact rfl;exact rfl;(intro u hu;simp at hu;subst hu;rfl);(rw [hys];omega))|refine zZA ?_|refine sM fun _=>?_|(refine sC ?_ ?_<;>intro hb<;>try omega)|fail)
  all_goals first
   |(exfalso;omega)
   |(refine ⟨(i+1,_),⟨hlt,?_⟩,by dsimp only;omega,by exact sB,by exact sB,by exact mS⟩;dsimp only;simp only [List.length_append,List.length_take,List.length_drop,List.length_cons,List.length_nil];omega)
 ·repeat' (first|refine zZA ?_|refine sM fun _=>?_|(refine sC ?_ ?_<;>intro hb<;>try omega)|fail)
  all_goals first
   |(exfalso;omega)
   |(exact iP eIO rfl mS ⟨rfl,ys,rfl⟩)
theorem IL (c r:Int) (w:World):aC Tryz.prog 12 [.int .i64 c,.int .i64 r] w (.agg (aB ⟨c,r⟩).toArray):=by
 refine ay Tryz.func12 rfl Tryz.ntmps12 rfl ?_;repeat' (first|refine zZB ?_|refine sM fun _=>?_|(refine sC ?_ ?_<;>intro hb<;>try omega)|fail)
 all_goals ((refine eRC ?_);rfl)
theorem G0 {gg:Nat} {G:Gr} {B:List Blk} {w0:World} (hc:Cyr gg G B w0) (F:List Blk) (hB:MSub B F) {L1 L2 L3:List Rf} (h1:iz G=L1) (h2:jH G=L2) (h3:mf G=L3) (a1 a2 a3:Value)
 (r1: ∀ H w,MSub F H→Mem w0 w H→Reads w a1 L1.length (L1.flatMap aB)) (r2: ∀ H w,MSub F H→Mem w0 w H→Reads w a2 L2.length (L2.flatMap aB)) (r3: ∀ H w,MSub F H→Mem w0 w H→Reads w a3 L3.length (L3.flatMap aB)):
 FnIn Tryz.prog 16 [.pointer (some ⟨gg,0,none⟩),a1,a2,a3] w0 F fun v H=>v= .bool true∧H=F:=by
 refine bF Tryz.func16 rfl Tryz.ntmps16 rfl ?_;have hl:=fun H (hs:MSub B H)=>xI hc H hs;have hci:=fun H (hs:MSub B H)=>pT hc H hs;have ho:=fun H (hs:MSub B H)=>xF hc H hs;rw [h1] at hl;rw [h2] at hci;rw [h3] at ho;repeat' (first|(apply ak (f:=8);exact rfl;exact rfl;exact hl _ (MSub.trans hB mS);rintro _ _ ⟨A1,c1,rfl,rfl⟩)|(apply ak (f:=9);exact rfl;exact rfl;exact hci _ (MSub.trans hB mS);rintro _ _ ⟨A2,c2,rfl,rfl⟩)|(apply ak (f:=10);exact rfl;exact rfl;exact ho _ (MSub.trans hB mS);rintro _ _ ⟨A3,c3,rfl,rfl⟩)|(apply aa (d:=43);exact rfl;exact rfl;(intro w' hm;exact dO rfl (Reads.of_own (A:=A1) (c:=c1) hm pK) (r1 _ w' mS hm)))|(apply aa (d:=48);exact rfl;exact rfl;(intro w' hm;exact dO rfl (Reads.of_own (A:=A2) (c:=c2) hm pK) (r2 _ w' mS hm)))|(apply aa (d:=53);exact rfl;exact rfl;(intro w' hm;exact dO rfl (Reads.of_own (A:=A3) (c:=c3) hm pK) (r3 _ w' mS hm)))|refine zZB ?_|refine sM fun _=>?_|(refine sC ?_ ?_<;>intro hb<;>try omega)|fail)
 all_goals first
  |(exfalso;omega)
  |(exact bJ eIO rfl rfl mS ⟨rfl,rfl⟩)
def Qy:ByteArray:=⟨#[61,65,52]⟩
def DR:Gr:=(fN exG ⟨2,3⟩ Qy).1
theorem Pa:fN exG ⟨2,3⟩ Qy=(DR,0):=Prod.ext rfl (by decide+kernel)
theorem Qm:iz exG= []:=by decide+kernel
theorem Qo:jH exG= []:=by decide+kernel
theorem Qk:mf exG= [⟨1,2⟩,⟨1,3⟩,⟨1,4⟩]:=by decide+kernel
theorem Ql:iz DR= [⟨1,3⟩,⟨2,3⟩,⟨1,4⟩]:=by decide+kernel
theorem Qn:jH DR= [⟨1,3⟩,⟨2,3⟩,⟨1,4⟩]:=by decide+kernel
theorem Qj:mf DR= [⟨1,2⟩]:=by decide+kernel
theorem Ml {G:Gr} {L:List Rf} {S l:List Nat} {M:List Rf} (h:s8 (aA G) (dq G) L []=(S,0)) (hp:l.Perm S) (hs:l.Pairwise (· < ·)) (hr:dD (aA G) (iM G l)=M):uD G L=M∧mJ G L=0:=by
 have he:mJ G L=0:=by unfold mJ;rw [h]
 have e:gX S=l:=by
  have h1:(gX S).Pairwise (· ≤ ·):=oS S;have hnd:(gX S).Nodup:=((fU S).trans hp.symm).nodup_iff.2 (hs.imp fun hab e=>by rw [e] at hab;exact SS _ hab);exact Gn ((UB.2 ⟨h1,hnd⟩).imp fun ⟨h4,h5⟩=>UL h4 h5) hs fun v=>((fU S).trans hp.symm).mem_iff
 refine ⟨?_,he⟩;unfold uD;rw [if_pos he,h];dsimp only;rw [e,hr]
theorem PM {G:Gr} {L:List Rf} {S:List Nat} {e:Int} (h:s8 (aA G) (dq G) L []=(S,e)) (h0:e≠0):uD G L= []∧mJ G L=e:=by
 have he:mJ G L=e:=by unfold mJ;rw [h]
 exact ⟨if_neg (by rw [he];exact h0),he⟩
theorem QR:uD exG [⟨1,4⟩,⟨1,2⟩]= [⟨1,2⟩,⟨1,4⟩]∧mJ exG [⟨1,4⟩,⟨1,2⟩]=0:=Ml (S:= [2,0]) (l:= [0,2]) (by decide+kernel) (by decide) (by decide) (by decide+kernel)
theorem QQ:uD exG [⟨1,4⟩,⟨1,3⟩]= [⟨1,3⟩,⟨1,4⟩]∧mJ exG [⟨1,4⟩,⟨1,3⟩]=0:=Ml (S:= [2,1]) (l:= [1,2]) (by decide+kernel) (by decide) (by decide) (by decide+kernel)
theorem QP:uD DR [⟨1,4⟩]= []∧mJ DR [⟨1,4⟩]=13:=PM (S:= []) (by decide+kernel) (by decide)
end Go.SL
namespace Go.SL
open Go Go.Proofs Go.RowKit
attribute [local irreducible] W WL WQ WG WA WX WLI WR WT WC WE VOp RW thn blk bH scp aV bz bP FnAt FnIn FnP ceP
theorem I7 (a:Rf):pI (kN a.col a.row)=if a.valid=true then 0 else 3:=by
 unfold pI;rw [CN];unfold Rf.valid;cases valid a.col a.row<;>rfl
theorem Ek {G:Gr} (hn:(aA G).Nodup): ∀ (L:List Rf) (S:List Nat),AmgI G S→AmgI G (s8 (aA G) (dq G) L S).1
 | [],S,h=>h
 |a::L,S,h=>by
  rw [s8];by_cases h1:a.valid=false
  ·rw [if_pos h1];exact h
  rw [if_neg h1];by_cases h2:a∉aA G
  ·rw [if_pos h2];exact h
  rw [if_neg h2];by_cases h3:dq G (iA (aA G) a)=true
  ·rw [if_pos h3];exact h
  rw [if_neg h3];by_cases h4:iA (aA G) a∈S
  ·rw [if_pos h4];exact h
  rw [if_neg h4];obtain ⟨hi,_⟩:=ri hn (Decidable.not_not.1 h2);exact Ek hn L _ (h.snoc (by rw [← dE];exact hi) (by simpa using h3) h4)
def fP (G:Gr) (l:List Nat) (p m:Nat):List Nat:=(List.range m).filter fun q=>aQ G G.length (atN l p) (atN l q)
theorem Ej (G:Gr) (l:List Nat):(List.range l.length).map (fun p=>fP G l p l.length)=bX (aQ G G.length) l:=rfl
theorem Ma {G:Gr} (hl:G.length≤900) {A2:Nat} {vs:List Value} {Z:List Blk} (hJ:JIn Z vs (aM G)) {w0 w:World} {H:List Blk} (hs:MSub (.own (some A2) 68 1 (aA G).length (aA G).length vs::Z) H) (hm:Mem w0 w H) (A:Option Nat) (c:Nat) (mv:Value) (i:Nat) (hi:i<(aA G).length):
 FnAt Tryz.prog 42 [.agg #[sl A (aA G).length c,mv,.slice (some ⟨A2,0,none⟩) (aA G).length (aA G).length],.int .i64 (i:Int)] w fun v H=> ∃ g,v= .slice (some ⟨g,0,none⟩) (aA G).length (aA G).length∧H= [fO (aA G).length g (aQ G G.length i)]:=by
 have h1:(aM G).length=(aA G).length:=by rw [cH,dE]
 have h:=Fw (aM G) qU (by rw [cH];omega) (uJ hl) i (by rw [h1];exact hi) (A.map fun g=>⟨g,0,none⟩) c mv _ w (Mb hJ hs hm);rw [h1,show KT (aM G) i=aQ G G.length i from funext fun k=>by rw [Sc,CR,fG]] at h;exact h
theorem GI {gg:Nat} {G:Gr} {B:List Blk} {w0:World} (hc:Cyr gg G B w0) (F:List Blk) (hB:MSub B F) (Lr:List Rf) (hLr:Lr.length≤1000) (lv:Value) (hrd: ∀ H w,MSub F H→Mem w0 w H→Reads w lv Lr.length (Lr.flatMap aB)):
 FnIn Tryz.prog 11 [.pointer (some ⟨gg,0,none⟩),lv] w0 F fun v H=> ∃ A c,v= .tuple #[sl A (uD G Lr).length c,.int .i64 (mJ G Lr)]∧H= .own A 28 2 (uD G Lr).length c ((uD G Lr).flatMap aB)::F:=by
 refine bF Tryz.func11 rfl Tryz.ntmps11 rfl ?_;have hl:=hc.l;have hof:=uR hc F hB;refine Ow (fun w' hm=>hrd F w' (MSub.refl F) hm) fun Al cl hlv=> ?_;subst hlv;repeat' (first|(apply ak (f:=33);exact rfl;exact rfl;exact hof;rintro _ _ ⟨A,c,gm,A2,vs,Z,rfl,rfl,hFZ,hJ⟩;simp only [cyV,cyB])|(apply aK (f:=36);exact rfl;exact rfl;(intro w' hm;exact AZ hl hJ mS hm A c _);rintro _ _ ⟨g7,rfl,rfl⟩;simp only [fO])|refine zZB ?_|refine sM fun _=>?_|(refine sC ?_ ?_<;>intro hb<;>try omega)|fail)
 all_goals try (exfalso;omega)
 rename_i g6;refine aI 3 1 ?_;refine aI 28 2 ?_;have hKl:(aA G).length=G.length:=dE G;have hKn:=hc.g.sort.nodup;have hJ2:=hJ.2;have hJ1:=hJ.1;have hgl:(aM G).length=G.length:=cH G;have hinv:=Ek hKn Lr [] (AmgI.nil G);have hre:=fun (i:Nat) (hi:i<(aA G).length) (w' :World) (H:List Blk) (hs:MSub (.own (some A2) 68 1 (aA G).length (aA G).length vs::Z) H) (hm:Mem w0 w' H)=>Ma hl hJ hs hm A c (.map (some gm)) i hi;have hlim:=fun S (h:AmgI G S)=>h.len;have hsnoc:=fun S i (h:AmgI G S) (h1:i<G.length) (h2:dq G i=false) (h3:i∉S)=>h.snoc h1 h2 h3;have haE:mJ G Lr=(s8 (aA G) (dq G) Lr []).2:=rfl;have haR:mJ G Lr=0→uD G Lr=dD (aA G) (iM G (gX (s8 (aA G) (dq G) Lr []).1)):=fun h=>if_pos h;have haN:mJ G Lr≠0→uD G Lr= []:=fun h=>if_neg h;generalize hK:aA G=K at*;refine aw [6,7,30,31] rfl (fun y:Nat × List Nat × Option Nat × Nat=> [(8,sl y.2.2.1 y.2.1.length y.2.2.2),(32,.int .i64 (y.1:Int))]) (fun y=> .own y.2.2.1 3 1 y.2.1.length y.2.2.2 (nzC y.2.1):: .own (some g7) 4 1 K.length K.length (aF K.length (dq G)):: .box g6 66 [sl A K.length c,.map (some gm),.slice (some ⟨A2,0,none⟩) K.length K.length]:: .obj gm (dw dm (ia K) K.length):: .own A 28 2 K.length c (K.flatMap aB):: .own (some A2) 68 1 K.length K.length vs:: .own none 28 2 0 0 []::Z) (fun y=>y.1≤Lr.length∧AmgI G y.2.1∧s8 K (dq G) Lr []=s8 K (dq G) (Lr.drop y.1) y.2.1) (fun y=>Lr.length - y.1) (0,[],none,0) ⟨QZ _,AmgI.nil G,rfl⟩ sB mS ?_;rintro ⟨i,S,A3,c3⟩ ⟨hi,hS,hrec⟩;dsimp only at hi hS hrec ⊢;have hSl:=hlim S hS;by_cases hlt:i<Lr.length
 ·rw [Rn hlt,s8] at hrec;have hFs: ∀ (b1 b2 b3 b4 b5 b6 b7:Blk),MSub F (b1::b2::b3::b4::b5::b6::b7::Z):=fun _ _ _ _ _ _ _=>MSub.trans hFZ mS;refine Kj (m:=Lr.length) (fun w' hm=>hrd _ w' (hFs _ _ _ _ _ _ _) hm) (by omega) fun gr orr cr hlv=> ?_;cases hlv;have hcl: ∀ (H:List Blk),MSub F H→ ∀ w',Mem w0 w' H→Cells w' gr orr (Lr.flatMap aB):=fun H hs w' hm=>xA (hrd H w' hs hm) (by omega);have hel:((Lr.flatMap aB).drop (i*2)).take 2=aB Lr[i]:=fD eW Lr i hlt;generalize hae:Lr[i]=a at hrec hel;have hov:=I7 a;have hloop:=hrec;by_cases hv:a.valid=true
  ·rw [if_pos hv] at hov;rw [if_neg (by rw [hv];simp)] at hrec;by_cases hmem:a∈K
   ·obtain ⟨hpk,hpg⟩:=ri hKn hmem;rw [if_neg (fun h=>h hmem)] at hrec;have hlk:=fun z=>wP hKn hpk z;rw [hpg] at hlk;generalize hpe:iA K a=p at hrec hpk hlk;have hb1:=bN (f:=dq G) hpk
    cases hcir:dq G p with
    |true=>
      rw [hcir,if_pos rfl] at hrec;rw [hcir] at hb1;have he3:mJ G Lr=13:=by rw [haE,hrec]
      have hn:=haN (by rw [he3];decide);rw [he3,hn];repeat' (first|(apply ai (d:=34);exact rfl;apply ag (j:=i);exact rfl;exact rfl;exact hlt)|(apply ai (d:=35);exact rfl;apply kD (off:=i*2);(intro w' hm;exact hcl _ (hFs _ _ _ _ _ _ _) w' hm);exact rfl;exact hel;exact rfl)|(apply ai (d:=40);exact rfl;apply iy (enc:=dm) (k:=a);exact rfl;exact rfl;exact pK;exact hlk _)|(apply aa;exact rfl;exact rfl;(intro w hm;exact s9 a w))|(apply aa (f:=39);exact rfl;exact rfl;(intro w' hm;exact oU _ w');rw [hov])|(apply ai (d:=54);exact rfl;apply ag (j:=p);exact rfl;exact rfl;exact hpk)|(apply ai (d:=55);exact rfl;apply aq;exact rfl;exact pK;exact hb1)|refine zZA ?_|refine sM fun _=>?_|(refine sC ?_ ?_<;>intro hb<;>try omega)|fail)
      all_goals first
       |(exfalso;omega)
       |(exact dB (H' := .own none 28 2 0 0 []::F) eIO rfl rfl rfl (MSub.pick pK (MSub.trans hFZ mS)) ⟨none,0,rfl,rfl⟩)
    |false=>
      rw [hcir,if_neg (by simp)] at hrec;rw [hcir] at hb1;have hct:=fun (w' :World) (H:List Blk) (hm:Mem w0 w' H) (hin:In (.own A3 3 1 S.length c3 (nzC S)) H)=>rI S p (by omega) (sl A3 S.length c3) w' (Reads.of_own hm hin);by_cases hpS:p∈S
      ·rw [if_pos hpS] at hrec;rw [decide_eq_true hpS] at hct;have he3:mJ G Lr=8:=by rw [haE,hrec]
       have hn:=haN (by rw [he3];decide);rw [he3,hn];repeat' (first|(apply ai (d:=34);exact rfl;apply ag (j:=i);exact rfl;exact rfl;exact hlt)|(apply ai (d:=35);exact rfl;apply kD (off:=i*2);(intro w' hm;exact hcl _ (hFs _ _ _ _ _ _ _) w' hm);exact rfl;exact hel;exact rfl)|(apply ai (d:=40);exact rfl;apply iy (enc:=dm) (k:=a);exact rfl;exact rfl;exact pK;exact hlk _)|(apply aa;exact rfl;exact rfl;(intro w hm;exact s9 a w))|(apply aa (f:=39);exact rfl;exact rfl;(intro w' hm;exact oU _ w');rw [hov])|(apply ai (d:=54);exact rfl;apply ag (j:=p);exact rfl;exact rfl;exact hpk)|(apply ai (d:=55);exact rfl;apply aq;exact rfl;exact pK;exact hb1)|(apply aa (f:=40);exact rfl;exact rfl;(intro w' hm;exact hct w' _ hm pK))|refine zZA ?_|refine sM fun _=>?_|(refine sC ?_ ?_<;>intro hb<;>try omega)|fail)
       all_goals first
        |(exfalso;omega)
        |(exact dB (H' := .own none 28 2 0 0 []::F) eIO rfl rfl rfl (MSub.pick pK (MSub.trans hFZ mS)) ⟨none,0,rfl,rfl⟩)
      ·rw [if_neg hpS] at hrec;rw [decide_eq_false hpS] at hct;have hS2:=hsnoc S p hS (by omega) hcir hpS;have hone:nzC S++ [.int .i64 (p:Int)]=nzC (S++ [p]):=by simp [nzC]
       repeat' (first|(apply ai (d:=34);exact rfl;apply ag (j:=i);exact rfl;exact rfl;exact hlt)|(apply ai (d:=35);exact rfl;apply kD (off:=i*2);(intro w' hm;exact hcl _ (hFs _ _ _ _ _ _ _) w' hm);exact rfl;exact hel;exact rfl)|(apply ai (d:=40);exact rfl;apply iy (enc:=dm) (k:=a);exact rfl;exact rfl;exact pK;exact hlk _)|(apply aa;exact rfl;exact rfl;(intro w hm;exact s9 a w))|(apply aa (f:=39);exact rfl;exact rfl;(intro w' hm;exact oU _ w');rw [hov])|(apply ai (d:=54);exact rfl;apply ag (j:=p);exact rfl;exact rfl;exact hpk)|(apply ai (d:=55);exact rfl;apply aq;exact rfl;exact pK;exact hb1)|(apply aa (f:=40);exact rfl;exact rfl;(intro w' hm;exact hct w' _ hm pK))|(apply aD;(iterate 3 exact rfl);exact pK;exact pK;exact rfl;(simp [Value.oneCell']);omega;(simp only [maxLen];omega);intro g8 c8)|refine zZA ?_|refine sM fun _=>?_|(refine sC ?_ ?_<;>intro hb<;>try omega)|fail)
       all_goals first
        |(exfalso;omega)
        |(refine ⟨(i+1,S++ [p],some g8,c8),⟨hlt,hS2,hrec⟩,by dsimp only;omega,by dsimp only;rw [List.length_append];exact sB,by exact sB,by dsimp only;rw [List.length_append,← hone];exact mS⟩;done)
   ·rw [if_pos hmem] at hrec;have hlk:=fun z=>tO hmem z;have he3:mJ G Lr=6:=by rw [haE,hrec]
    have hn:=haN (by rw [he3];decide);rw [he3,hn];repeat' (first|(apply ai (d:=34);exact rfl;apply ag (j:=i);exact rfl;exact rfl;exact hlt)|(apply ai (d:=35);exact rfl;apply kD (off:=i*2);(intro w' hm;exact hcl _ (hFs _ _ _ _ _ _ _) w' hm);exact rfl;exact hel;exact rfl)|(apply ai (d:=40);exact rfl;apply iy (enc:=dm) (k:=a);exact rfl;exact rfl;exact pK;exact hlk _)|(apply aa;exact rfl;exact rfl;(intro w hm;exact s9 a w))|(apply aa (f:=39);exact rfl;exact rfl;(intro w' hm;exact oU _ w');rw [hov])|refine zZA ?_|refine sM fun _=>?_|(refine sC ?_ ?_<;>intro hb<;>try omega)|fail)
    all_goals first
     |(exfalso;omega)
     |(exact dB (H' := .own none 28 2 0 0 []::F) eIO rfl rfl rfl (MSub.pick pK (MSub.trans hFZ mS)) ⟨none,0,rfl,rfl⟩)
  ·rw [if_neg hv] at hov;rw [if_pos (by simpa using hv)] at hrec;have hlkx: ∃ t:Int × Bool,∀ z,(match cx a (ia K) 0 with|some (_,v)=>Value.tuple #[v,.bool true]|none=> .tuple #[z,.bool false])= .tuple #[if t.2=true then .int .i64 t.1 else z,.bool t.2]:=by
    by_cases hmem:a∈K
    ·obtain ⟨hpk,hpg⟩:=ri hKn hmem;refine ⟨((iA K a:Nat),true),fun z=> ?_⟩;have h1:=wP hKn hpk z;rw [hpg] at h1;exact h1
    ·exact ⟨(0,false),fun z=>tO hmem z⟩
   obtain ⟨⟨ti,tb⟩,hlk⟩:=hlkx;have he3:mJ G Lr=3:=by rw [haE,hrec]
   have hn:=haN (by rw [he3];decide);rw [he3,hn];repeat' (first|(apply ai (d:=34);exact rfl;apply ag (j:=i);exact rfl;exact rfl;exact hlt)|(apply ai (d:=35);exact rfl;apply kD (off:=i*2);(intro w' hm;exact hcl _ (hFs _ _ _ _ _ _ _) w' hm);exact rfl;exact hel;exact rfl)|(apply ai (d:=40);exact rfl;apply iy (enc:=dm) (k:=a);exact rfl;exact rfl;exact pK;exact hlk _)|(apply aa;exact rfl;exact rfl;(intro w hm;exact s9 a w))|(apply aa (f:=39);exact rfl;exact rfl;(intro w' hm;exact oU _ w');rw [hov])|refine zZA ?_|refine sM fun _=>?_|(refine sC ?_ ?_<;>intro hb<;>try omega)|fail)
   all_goals first
    |(exfalso;omega)
    |(exact dB (H' := .own none 28 2 0 0 []::F) eIO rfl rfl rfl (MSub.pick pK (MSub.trans hFZ mS)) ⟨none,0,rfl,rfl⟩)
 ·have hi2:i=Lr.length:=by omega
  subst hi2;rw [Sn,s8] at hrec;have he0:mJ G Lr=0:=by rw [haE,hrec]
  have hR0:=haR he0;rw [hrec] at hR0;dsimp only at hR0;rw [he0,hR0];have hok:=hS.ok;have hSL:=(fU S).length_eq;have hsrt:=fun R=>vN S A3 c3 (by omega) R w0;rw [← hSL] at hsrt hSl ⊢;generalize gX S=l at*;have hsub:=hok.sub;have hoe:=hok.eq;have hlt:=hok.lt;repeat' (first|(apply ak (f:=41);exact rfl;exact rfl;exact FnIn.msub (hsrt _) (MSub.pick pK (MSub.refl _));rintro _ _ ⟨rfl,rfl⟩)|(apply dH (c:=l.length);(iterate 3 exact rfl);omega;(simp only [maxLen];omega);intro gx;(try simp only [mC]))|refine zZA ?_|refine sM fun _=>?_|(refine sC ?_ ?_<;>intro hb<;>try omega)|fail)
  all_goals try (exfalso;omega)
  have hpA: ∀ (J L:List Blk),MSub (L++(J++Z)) (J++(L++Z)):=fun J L=>MSub.of_perm (SN J L Z);refine jJ (.own (some gx) 68 1 l.length l.length (cK (qZ l.length) (fA l.length)):: .own A3 3 1 l.length c3 (nzC l):: .box g6 66 [sl A K.length c,.map (some gm),.slice (some ⟨A2,0,none⟩) K.length K.length]:: .own A 28 2 K.length c (K.flatMap aB):: .own (some A2) 68 1 K.length K.length vs::Z) mS ?_;refine kq 3 l.length ?_;rw [← DA,← vW l.length (fun p=>fP G l p l.length)];refine aw [6,8,13,70,71] rfl (fun z:Nat × JA × List Blk=> [(72,.int .i64 (z.1:Int))]) (fun z=> .own (some gx) 68 1 l.length l.length (cK (cw l.length (fun p=>fP G l p l.length) z.1 []) z.2.1):: .own A3 3 1 l.length c3 (nzC l):: .box g6 66 [sl A K.length c,.map (some gm),.slice (some ⟨A2,0,none⟩) K.length K.length]:: .own A 28 2 K.length c (K.flatMap aB):: .own (some A2) 68 1 K.length K.length vs::z.2.2) (fun z=>z.1≤l.length∧z.2.1.length=l.length∧(jn (cw l.length (fun p=>fP G l p l.length) z.1 []) z.2.1++Z).Perm z.2.2) (fun z=>l.length - z.1) (0,fA l.length,jn (cw l.length (fun p=>fP G l p l.length) 0 []) (fA l.length)++Z) ⟨QZ _,S9,.refl _⟩ sB (hpA _ [_,_,_,_,_]) ?_;clear hpA;rintro ⟨n,As,Zg⟩ ⟨hn,hAl,hZ⟩;dsimp only at hn hAl hZ ⊢;by_cases hnl:n<l.length
  ·have hel:=cG hnl;have hq:=hlt _ (db hnl);have hqK:atN l n<K.length:=by omega
   have hZs: ∀ (b1 b2 b3 b4 b5:Blk),MSub Z (b1::b2::b3::b4::b5::Zg):=fun _ _ _ _ _=>MSub.trans (MSub.trans (MSub.appR _ _) (MSub.of_perm hZ.symm)) mS;have hreq:=hre (atN l n) hqK;have hamg: ∀ m,fP G l n m=(List.range m).filter fun q=>aQ G G.length (atN l n) (atN l q):=fun m=>rfl;refine bg (A:=A3) pK (by omega) fun g3 hA=> ?_;subst hA;generalize atN l n=q at hel hqK hreq hamg;repeat' (first|(apply ai (d:=75);exact rfl;apply ag (j:=n);exact rfl;exact rfl;exact hnl)|(apply ai (d:=76);exact rfl;apply aq;exact rfl;exact pK;exact hel)|(apply aK (f:=42);exact rfl;exact rfl;(intro w' hm;exact hreq w' _ (MSub.pick pK (MSub.trans (MSub.trans (MSub.appR _ _) (MSub.of_perm hZ.symm)) mS)) hm);rintro _ _ ⟨g16,rfl,rfl⟩;simp only [fO])|refine zZA ?_|refine sM fun _=>?_|(refine sC ?_ ?_<;>intro hb<;>try omega)|fail)
   all_goals try (exfalso;omega)
   have hz0:fP G l n 0= []:=rfl;refine aw [6,8,13,14,16,70,71,72,80,81] rfl (fun z:Nat × JA × List Blk=> [(82,.int .i64 (z.1:Int))]) (fun z=> .own (some g16) 4 1 K.length K.length (aF K.length (aQ G G.length q)):: .own (some gx) 68 1 l.length l.length (cK (cw l.length (fun p=>fP G l p l.length) n (fP G l n z.1)) z.2.1):: .own (some g3) 3 1 l.length c3 (nzC l):: .box g6 66 [sl A K.length c,.map (some gm),.slice (some ⟨A2,0,none⟩) K.length K.length]:: .own A 28 2 K.length c (K.flatMap aB):: .own (some A2) 68 1 K.length K.length vs::z.2.2) (fun z=>z.1≤l.length∧z.2.1.length=l.length∧(jn (cw l.length (fun p=>fP G l p l.length) n (fP G l n z.1)) z.2.1++Z).Perm z.2.2) (fun z=>l.length - z.1) (0,As,Zg) ⟨Nat.zero_le _,hAl,hZ⟩ sB (by dsimp only;rw [hz0];exact mS) ?_;clear hZ hAl hZs;rintro ⟨m,As,Zg⟩ ⟨hm,hAl,hZ⟩;dsimp only at hm hAl hZ ⊢;by_cases hlm:m<l.length
   ·have hem:=cG hlm;have hkK:atN l m<K.length:=by have:=hlt _ (db hlm);omega
    have hb1:=bN (f:=aQ G G.length q) hkK;have hts:=gA (n:=m) fun x=>aQ G G.length q (atN l x);rw [← hamg,← hamg] at hts;have hX:=kv l.length (fun p=>fP G l p l.length) n (fP G l n m);have hcell:=iS (X:=cw l.length (fun p=>fP G l p l.length) n (fP G l n m)) (As:=As) (i:=n) (by omega) (by omega);obtain ⟨Rs,hR1,hR2⟩:=mE (X:=cw l.length (fun p=>fP G l p l.length) n (fP G l n m)) (As:=As) (i:=n) (by omega) (by omega);have hvset:=fun r a=>mD (X:=cw l.length (fun p=>fP G l p l.length) n (fP G l n m)) (As:=As) (i:=n) r a (by omega);have hvl:=kS (X:=cw l.length (fun p=>fP G l p l.length) n (fP G l n m)) (As:=As) (by omega);rw [Cy hnl] at hcell hR1;simp only [yP] at hR2 hvset;rcases hak:As[n] with ⟨a1,a2⟩;rw [hak] at hcell hR1;dsimp only at hcell hR1;have hcell:(cK (cw l.length (fun p=>fP G l p l.length) n (fP G l n m)) As)[0+n*1]? =some (sl a1 (fP G l n m).length a2):=by rw [Rv,RV];exact hcell
    have hZ2:=hZ.symm.trans (hR1.append_right Z);have hbl:(fP G l n m).length≤1000:=RD (l8 _) (by omega)
    cases hap:aQ G G.length q (atN l m) with
    |true=>
      rw [hap] at hb1;rw [if_pos hap] at hts;refine jJ (.own a1 3 1 (fP G l n m).length a2 (nzC (fP G l n m)):: .own (some g16) 4 1 K.length K.length (aF K.length (aQ G G.length q)):: .own (some gx) 68 1 l.length l.length (cK (cw l.length (fun p=>fP G l p l.length) n (fP G l n m)) As):: .own (some g3) 3 1 l.length c3 (nzC l):: .box g6 66 [sl A K.length c,.map (some gm),.slice (some ⟨A2,0,none⟩) K.length K.length]:: .own A 28 2 K.length c (K.flatMap aB):: .own (some A2) 68 1 K.length K.length vs::(Rs++Z)) (MSub.trans (by exact mS:MSub _ (.own (some g16) 4 1 K.length K.length (aF K.length (aQ G G.length q)):: .own (some gx) 68 1 l.length l.length (cK (cw l.length (fun p=>fP G l p l.length) n (fP G l n m)) As):: .own (some g3) 3 1 l.length c3 (nzC l):: .box g6 66 [sl A K.length c,.map (some gm),.slice (some ⟨A2,0,none⟩) K.length K.length]:: .own A 28 2 K.length c (K.flatMap aB):: .own (some A2) 68 1 K.length K.length vs:: .own a1 3 1 (fP G l n m).length a2 (nzC (fP G l n m))::(Rs++Z))) (MSub.of_perm ((((((hZ2.cons _).cons _).cons _).cons _).cons _).cons _))) ?_;generalize atN l m=k at hem hkK hb1;clear hak hX;generalize fP G l n m=Fr at*;have hone:nzC Fr++ [.int .i64 (m:Int)]=nzC (Fr++ [m]):=by simp [nzC]
      have hol:(Fr++ [m]).length=Fr.length+1:=by simp
      repeat' (first|(apply ai (d:=85);exact rfl;apply ag (j:=m);exact rfl;exact rfl;exact hlm)|(apply ai (d:=86);exact rfl;apply aq;exact rfl;exact pK;exact hem)|(apply ai (d:=89);exact rfl;apply ag (j:=k);exact rfl;exact rfl;exact hkK)|(apply ai (d:=90);exact rfl;apply aq;exact rfl;exact pK;exact hb1)|(apply ai (d:=95);exact rfl;apply ag (j:=n);exact rfl;exact rfl;exact hnl)|(apply ai (d:=96);exact rfl;apply aq;exact rfl;exact pK;exact hcell)|(apply aD;(iterate 3 exact rfl);exact pK;exact pK;exact rfl;(simp [Value.oneCell']);omega;(simp only [maxLen];omega);intro g8 c8)|(apply ai (d:=100);exact rfl;apply ag (j:=n);exact rfl;exact rfl;exact hnl)|(apply aU (g:=gx);exact rfl;exact rfl;exact pK;exact rfl;(rw [hvl,kv];omega);rw [Rv,RV])|refine zZA ?_|refine sM fun _=>?_|(refine sC ?_ ?_<;>intro hb<;>try omega)|fail)
      all_goals first
       |(exfalso;omega)
       | (have hv1 := hvset (Fr ++ [m]) (some g8, c8)
          have hr1:=(hR2 (Fr++ [m]) (some g8,c8)).append_right Z;refine ⟨(m+1,As.set n (some g8,c8),.own (some g8) 3 1 (Fr++ [m]).length c8 (nzC (Fr++ [m]))::(Rs++Z)),⟨hlm,by dsimp only;rw [List.length_set];exact hAl,by dsimp only;rw [hts];exact hr1⟩,by dsimp only;omega,by exact sB,by exact sB,?_⟩;dsimp only;rw [hts,hv1,hol,← hone];exact mS)
    |false=>
      rw [hap] at hb1;rw [if_neg (by rw [hap];simp)] at hts;generalize atN l m=k at hem hkK hb1;repeat' (first|(apply ai (d:=85);exact rfl;apply ag (j:=m);exact rfl;exact rfl;exact hlm)|(apply ai (d:=86);exact rfl;apply aq;exact rfl;exact pK;exact hem)|(apply ai (d:=89);exact rfl;apply ag (j:=k);exact rfl;exact rfl;exact hkK)|(apply ai (d:=90);exact rfl;apply aq;exact rfl;exact pK;exact hb1)|refine zZA ?_|refine sM fun _=>?_|(refine sC ?_ ?_<;>intro hb<;>try omega)|fail)
      all_goals first
       |(exfalso;omega)
       |(refine ⟨(m+1,As,Zg),⟨hlm,hAl,by dsimp only;rw [hts];exact hZ⟩,by dsimp only;omega,by exact sB,by exact sB,by dsimp only;rw [hts];exact mS⟩;done)
   ·have hm2:m=l.length:=by omega
    subst hm2;rw [mZ l.length (fun p=>fP G l p l.length)] at hZ;rw [mZ l.length (fun p=>fP G l p l.length)];repeat' (first|refine zZA ?_|refine sM fun _=>?_|(refine sC ?_ ?_<;>intro hb<;>try omega)|fail)
    all_goals first
     |(exfalso;omega)
     |(refine ⟨(n+1,As,Zg),⟨hnl,hAl,hZ⟩,by dsimp only;omega,by exact sB,by exact sB,by exact mS⟩;done)
  ·have hn2:n=l.length:=by omega
   subst hn2;rw [m7,Ej] at hZ;rw [m7,Ej];have hYl:(bX (aQ G G.length) l).length=l.length:=hsub.len;have hJY:JIn Zg (cK (bX (aQ G G.length) l) As) (bX (aQ G G.length) l):=(AB (X:=bX (aQ G G.length) l) (As:=As) (by rw [hYl];exact hAl)).mono (MSub.trans (MSub.appL _ _) (MSub.of_perm hZ.symm));have hFZg:MSub F Zg:=MSub.trans (MSub.trans hFZ (MSub.appR _ _)) (MSub.of_perm hZ.symm);have hYr: ∀ i,(au (bX (aQ G G.length) l) i).length≤1000:=fun i=>by
    unfold au bX;rw [Rj];by_cases h:i<l.length
    ·rw [RT h];exact RD (l8 _) (by omega)
    ·rw [Ry (by simpa using h)];exact QZ _
   have hTo: ∀ (w' :World) (H:List Blk),MSub (.own (some gx) 68 1 l.length l.length (cK (bX (aQ G G.length) l) As)::Zg) H→Mem w0 w' H→FnAt Tryz.prog 38 [.slice (some ⟨gx,0,none⟩) l.length l.length] w' fun u H=> ∃ A c Z,u= .tuple #[sl A (cI (bX (aQ G G.length) l)).length c,.int .i64 0]∧H= .own A 3 1 (cI (bX (aQ G G.length) l)).length c (nzC (cI (bX (aQ G G.length) l)))::Z:=fun w' H hs hm=>by
    have h1:=hs.use hm;rw [← hYl] at h1 ⊢;exact HH (bX (aQ G G.length) l) (fun p q hq=>by rw [hYl];exact hsub.ok p q hq) (by omega) hYr (fun p hp=>hsub.acy p (by omega)) _ w' (hJY.rd h1)
   have hperm:=hsub.topo.2;have hTl:(cI (bX (aQ G G.length) l)).length=l.length:=by rw [hperm.length_eq,Sg]
   have hTm: ∀ x∈cI (bX (aQ G G.length) l),x<l.length:=fun x hx=>RH.1 (hperm.mem_iff.1 hx);have hfinal:dD K ((cI (bX (aQ G G.length) l)).map (atN l))=dD K (iM G l):=by
    rw [← hoe]
    rfl
   generalize cI (bX (aQ G G.length) l)=T at*;repeat' (first|(apply aK (f:=38);exact rfl;exact rfl;(intro w' hm;exact hTo w' _ mS hm);rintro _ _ ⟨A7,c7,Z7,rfl,rfl⟩;refine mN (_::_) (MSub.pick .hd (MSub.appR _ Z7)) ?_)|refine zZA ?_|refine sM fun _=>?_|(refine sC ?_ ?_<;>intro hb<;>try omega)|fail)
   all_goals try (exfalso;omega)
   refine aI 28 2 ?_;refine aw [6,8,20,108,109] rfl (fun y:Nat × Option Nat × Nat=> [(21,sl y.2.1 y.1 y.2.2),(110,.int .i64 (y.1:Int))]) (fun y=> .own y.2.1 28 2 y.1 y.2.2 ((dD K ((T.take y.1).map (atN l))).flatMap aB):: .own A7 3 1 T.length c7 (nzC T):: .own A3 3 1 l.length c3 (nzC l):: .box g6 66 [sl A K.length c,.map (some gm),.slice (some ⟨A2,0,none⟩) K.length K.length]:: .own A 28 2 K.length c (K.flatMap aB)::Zg) (fun y=>y.1≤T.length) (fun y=>T.length - y.1) (0,none,0) (QZ _) sB mS ?_;rintro ⟨t,A9,c9⟩ ht;dsimp only at ht ⊢;by_cases htl:t<T.length
   ·have hel:=cG htl;have hpl:=hTm _ (db htl);have hst:(T.take (t+1)).map (atN l)=(T.take t).map (atN l)++ [atN l (atN T t)]:=by rw [Ra htl,dN htl,Sh];rfl
    generalize atN T t=p at hel hpl hst;have hl1:=cG hpl;have hil:=hlt _ (db hpl);have hiK:atN l p<K.length:=by omega
    have hcc:=Pf hiK;rw [← od hiK] at hcc;have hns:dD K ((T.take (t+1)).map (atN l))=dD K ((T.take t).map (atN l))++ [pq K (atN l p)]:=by rw [hst,kw]
    generalize atN l p=q at hl1 hiK hcc hns;generalize pq K q=a at hcc hns;refine bg (A:=A7) pK (by omega) fun g7 hA=> ?_;subst hA;refine bg (A:=A3) pK (by omega) fun g3 hA=> ?_;subst hA;refine bg (A:=A) pK (by omega) fun ga hA=> ?_;subst hA;repeat' (first|(apply ai (d:=112);exact rfl;apply ag (j:=t);exact rfl;exact rfl;exact htl)|(apply ai (d:=113);exact rfl;apply aq;exact rfl;exact pK;exact hel)|refine zZA ?_|refine sM fun _=>?_|(refine sC ?_ ?_<;>intro hb<;>try omega)|fail)
    all_goals try (exfalso;omega)
    refine mT (id:=38) [9,10] [.own (some g3) 3 1 l.length c3 (nzC l),.box g6 66 [sl (some ga) K.length c,.map (some gm),.slice (some ⟨A2,0,none⟩) K.length K.length],.own (some ga) 28 2 K.length c (K.flatMap aB)] 12 rfl rfl mS ?_;repeat' (first|(apply bU (i:=5);(iterate 4 exact rfl);(iterate 3 decide+kernel);(apply ag (j:=p);exact rfl;exact rfl;exact hpl))|(apply bU (i:=6);(iterate 4 exact rfl);(iterate 3 decide+kernel);(apply aq;exact rfl;exact pK;exact hl1))|(apply bU (i:=7);(iterate 4 exact rfl);(iterate 3 decide+kernel);(apply ag (j:=q);exact rfl;exact rfl;exact hiK))|(apply bU (i:=8);(iterate 4 exact rfl);(iterate 3 decide+kernel);(apply aO (ys:=aB a);exact rfl;exact pK;exact hcc;exact rfl))|(apply bU (i:=0);(iterate 4 exact rfl);(iterate 3 decide+kernel);(exact vC))|(apply bU (i:=1);(iterate 4 exact rfl);(iterate 3 decide+kernel);(exact vC))|(apply bU (i:=2);(iterate 4 exact rfl);(iterate 3 decide+kernel);(exact vC))|(apply bU (i:=3);(iterate 4 exact rfl);(iterate 3 decide+kernel);(exact vC))|(apply bU (i:=4);(iterate 4 exact rfl);(iterate 3 decide+kernel);(exact vC))|(apply bU (i:=11);(iterate 4 exact rfl);(iterate 3 decide+kernel);(apply vB;exact rfl))|(apply dI (i:=9);(iterate 3 exact rfl);decide+kernel)|(apply dI (i:=10);(iterate 3 exact rfl);decide+kernel)|(apply mR;decide+kernel)|(apply Ee;(focus (exact mS;done)))|(apply aD;(iterate 3 exact rfl);exact pK;exact pK;exact rfl;(simp [aB,Value.oneCell']);omega;(simp only [maxLen];omega);intro g8 c8)|refine zZB ?_|refine sM fun _=>?_|(refine sC ?_ ?_<;>intro hb<;>try omega)|fail)
    repeat' (first|refine zZA ?_|refine sM fun _=>?_|(refine sC ?_ ?_<;>intro hb<;>try omega)|fail)
    all_goals first
     |(exfalso;omega)
     | (refine ⟨(t + 1, some g8, c8), htl, by dsimp only; omega, by exact sB, by exact sB, ?_⟩
        dsimp only;rw [hns,Rp,Tt];exact mS)
   ·have ht2:t=T.length:=by omega
    subst ht2;rw [RS,hfinal];have hol2:(dD K (iM G l)).length=T.length:=by rw [← hfinal,oC,RA]
    repeat' (first|refine zZA ?_|refine sM fun _=>?_|(refine sC ?_ ?_<;>intro hb<;>try omega)|fail)
    all_goals first
     |(exfalso;omega)
     |(exact dB (H' := .own A9 28 2 (dD K (iM G l)).length c9 ((dD K (iM G l)).flatMap aB)::F) eIO rfl rfl rfl (by rw [hol2];exact MSub.pick pK (MSub.trans hFZg mS)) ⟨A9,c9,by rw [hol2],rfl⟩)
end Go.SL
namespace Go.SL
open Go Go.Proofs
attribute [local irreducible] W WL WQ WG WA WX WLI WR WT WC WE VOp RW thn blk bH scp aV bz bP FnAt FnIn FnP ceP
theorem LS {w:World} (hW:Words w) (w' :World) (H:List Blk) (tv:Value) (hm:Mem w w' H) (ht:Reads w' tv exL.length (exL.flatMap pP)):FnAt Tryz.prog 13 [tv] w' fun v H=> ∃ gg gm E clock R,v= .tuple #[.pointer (some ⟨gg,0,none⟩),.int .i64 0]∧H=gB gg gm (E.map En.m) clock++R∧GOk R E clock exG:=by
 have h1:=Mt exL tv w' ht (by decide) (hW.next hm);rw [LR] at h1;exact h1
theorem Hx:GrOk DR:=AR.set _ _
theorem LU:DR.length≤900:=by decide+kernel
theorem xE {gg:Nat} {G:Gr} {B:List Blk} {w0:World} (hc:Cyr gg G B w0) {F:List Blk} (hB:MSub B F) {Lr M:List Rf} {e:Int} (h:uD G Lr=M∧mJ G Lr=e) (hl:Lr.length≤1000) (lv:Value) (hrd: ∀ H w,MSub F H→Mem w0 w H→Reads w lv Lr.length (Lr.flatMap aB)):
 FnIn Tryz.prog 11 [.pointer (some ⟨gg,0,none⟩),lv] w0 F fun v H=> ∃ A c,v= .tuple #[sl A M.length c,.int .i64 e]∧H= .own A 28 2 M.length c (M.flatMap aB)::F:=by
 have h1:=GI hc F hB Lr hl lv hrd;rw [h.1,h.2] at h1;exact h1
theorem qe {F:List Blk} {A:Option Nat} {n c:Nat} {xs:List Value} {w0:World} (hi:In (.own A 28 2 n c xs) F): ∀ H w,MSub F H→Mem w0 w H→Reads w (sl A n c) n xs:=fun H w hs hm=>Reads.of_own (hs.use hm) hi
theorem KS {F:List Blk} {w0:World}: ∀ H w,MSub F H→Mem w0 w H→Reads w (.slice none 0 0) ([]:List Rf).length (([]:List Rf).flatMap aB):=fun _ _ _ _=>⟨none,0,rfl,Rg _,QZ _,fun h=>absurd h (TF _)⟩
theorem Gk (w:World) (hW:Words w):aC Tryz.prog 18 [] w (.bool true):=by
 refine ay Tryz.func18 rfl Tryz.ntmps18 rfl ?_;repeat' (first|(apply aK (f:=14);exact rfl;exact rfl;(intro w' hm;exact GF w');rintro _ _ ⟨ge,rfl,rfl⟩)|(apply aK (f:=13);exact rfl;exact rfl;(intro w' hm;exact LS hW w' _ _ hm (Reads.of_own (A:=some _) hm pK));rintro _ _ ⟨gg,gm,E,clock,R,rfl,rfl,hG⟩;refine mN (gB gg gm (E.map En.m) clock++R) (MSub.appL _ _) ?_)|(apply aa;exact rfl;exact rfl;(intro w hm;exact IL _ _ w))|(apply ak (d:=24);exact rfl;exact rfl;exact G0 (hG.cyr AR (by decide) gg gm w) _ mS Qm Qo Qk _ _ _ KS KS (qe (A:=some _) pK);rintro _ _ ⟨rfl,rfl⟩)|(apply ak (d:=32);exact rfl;exact rfl;exact xE (hG.cyr AR (by decide) gg gm w) mS QR (by decide) _ (qe (A:=some _) pK);rintro _ _ ⟨A1,c1,rfl,rfl⟩)|(apply ak (d:=40);exact rfl;exact rfl;exact xE (hG.cyr AR (by decide) gg gm w) mS QQ (by decide) _ (qe (A:=some _) pK);rintro _ _ ⟨A2,c2,rfl,rfl⟩)|(apply aa (d:=54);exact rfl;exact rfl;(intro w' hm;exact dO rfl (Reads.of_own (A:=A1) (c:=c1) hm pK) (Reads.of_own (A:=some _) hm pK)))|(apply aa (d:=62);exact rfl;exact rfl;(intro w' hm;exact dO rfl (Reads.of_own (A:=A2) (c:=c2) hm pK) (Reads.of_own (A:=some _) hm pK)))|(apply ak (f:=15);exact rfl;exact rfl;exact hG.set_to gg gm [] mS hW Pa;rintro _ _ ⟨rfl,E1,k1,R1,rfl,hG1⟩;rw [QW])|(apply ak (d:=75);exact rfl;exact rfl;exact xE (hG1.cyr Hx LU gg gm w) mS QP (by decide) _ (qe (A:=some _) pK);rintro _ _ ⟨A3,c3,rfl,rfl⟩)|(apply ak (d:=90);exact rfl;exact rfl;exact G0 (hG1.cyr Hx LU gg gm w) _ mS Ql Qn Qj _ _ _ (qe (A:=some _) pK) (qe (A:=some _) pK) (qe (A:=some _) pK);rintro _ _ ⟨rfl,rfl⟩)|refine zZB ?_|refine sM fun _=>?_|(refine sC ?_ ?_<;>intro hb<;>try omega)|fail)
 all_goals first
  |(exfalso;omega)
  |((refine rT1 ?_);rfl)
theorem Gp.rloops26 (x:Gp) {G:Gr} (h:x.ok G) {H:List Blk} (hs:MSub x.H H) (w0:World) (hl:G.length≤900):
 FnIn Tryz.prog 20 [x.pb] w0 H fun v H' => ∃ A cap,v= .tuple #[sl A (iz G).length cap,.int .i64 0]∧H' = .own A 28 2 (iz G).length cap ((iz G).flatMap aB)::H:=by
 refine kK (B:=rgB x.gr x.A x.cap x.Q++x.R) (φ:=fun v A cap=>v= .tuple #[sl A (iz G).length cap,.int .i64 0]) (fun F=> ?_) (MSub.trans x.subB hs);have h1:=CX x.gr x.A x.cap x.Q G (x.R++F) w0 (h.b.sub (MSub.appL x.R F)) h.g (by rw [h.b.len];omega);rw [Rx];exact h1
theorem Gp.rcirc26 (x:Gp) {G:Gr} (h:x.ok G) {H:List Blk} (hs:MSub x.H H) (w0:World) (hl:G.length≤900):
 FnIn Tryz.prog 21 [x.pb] w0 H fun v H' => ∃ A cap,v= .tuple #[sl A (jH G).length cap,.int .i64 0]∧H' = .own A 28 2 (jH G).length cap ((jH G).flatMap aB)::H:=by
 refine kK (B:=rgB x.gr x.A x.cap x.Q++x.R) (φ:=fun v A cap=>v= .tuple #[sl A (jH G).length cap,.int .i64 0]) (fun F=> ?_) (MSub.trans x.subB hs);have h1:=Fx x.gr x.A x.cap x.Q G (x.R++F) w0 (h.b.sub (MSub.appL x.R F)) h.g (by rw [h.b.len];omega);rw [Rx];exact h1
theorem Gp.rorder26 (x:Gp) {G:Gr} (h:x.ok G) {H:List Blk} (hs:MSub x.H H) (w0:World) (hl:G.length≤900):
 FnIn Tryz.prog 22 [x.pb] w0 H fun v H' => ∃ A cap,v= .tuple #[sl A (mf G).length cap,.int .i64 0]∧H' = .own A 28 2 (mf G).length cap ((mf G).flatMap aB)::H:=by
 refine kK (B:=rgB x.gr x.A x.cap x.Q++x.R) (φ:=fun v A cap=>v= .tuple #[sl A (mf G).length cap,.int .i64 0]) (fun F=> ?_) (MSub.trans x.subB hs);have h1:=CV x.gr x.A x.cap x.Q G (x.R++F) w0 (h.b.sub (MSub.appL x.R F)) h.g (by rw [h.b.len];omega);rw [Rx];exact h1
theorem uE (L:List Pu) (tv:Value) (w:World) (ht:Reads w tv L.length (L.flatMap tX)) (hW:Words w):
 aC Tryz.prog 4 [tv] w (.bool true):=by
 refine ay Tryz.func4 rfl Tryz.ntmps4 rfl ?_;have hS:=fun (w' :World) (H:List Blk) (hm:Mem w w' H)=>J0 L tv w' (ht.of_w0 hm) (hW.next hm);have hGl:=EZ L;generalize rT L=G at hS hGl;repeat' (first|(apply aK (f:=19);exact rfl;exact rfl;(intro w' hm;exact hS w' _ hm);rintro _ _ ⟨x,rfl,rfl,hx⟩;refine mN _ (MSub.appS _ _) ?_)|refine sT ?_|refine sS ?_|refine sJ ?_|refine sM fun _=>?_|(refine sC ?_ ?_<;>intro hb<;>try omega)|fail)
 rename_i g3;have hl' :G.length≤900:=by omega
 have hcy:=x.cyr hx hl' w;refine aw [3] rfl (fun k:Nat=> [(5,.int .i64 (k:Int))]) (fun _=> .box g3 42 [x.pa,x.pb]::x.H) (fun k=>k≤2) (fun k=>2 - k) 0 (QZ _) sB mS ?_;rintro k hk;by_cases hlt:k<2
 ·have hL1:=fun (H:List Blk) (hs:MSub x.H H)=>xI hcy H hs;have hL2:=fun (H:List Blk) (hs:MSub x.H H)=>x.rloops26 hx hs w hl';have hC1:=fun (H:List Blk) (hs:MSub x.H H)=>pT hcy H hs;have hC2:=fun (H:List Blk) (hs:MSub x.H H)=>x.rcirc26 hx hs w hl';have hO1:=fun (H:List Blk) (hs:MSub x.H H)=>xF hcy H hs;have hO2:=fun (H:List Blk) (hs:MSub x.H H)=>x.rorder26 hx hs w hl';generalize iz G=Q1 at hL1 hL2;generalize jH G=Q2 at hC1 hC2;generalize mf G=Q3 at hO1 hO2;repeat' (first|(apply ak (f:=8);exact rfl;exact rfl;exact hL1 _ mS;rintro _ _ ⟨A1,c1,rfl,rfl⟩)|(apply ak (f:=20);exact rfl;exact rfl;exact hL2 _ mS;rintro _ _ ⟨A2,c2,rfl,rfl⟩)|(apply ak (f:=9);exact rfl;exact rfl;exact hC1 _ mS;rintro _ _ ⟨A3,c3,rfl,rfl⟩)|(apply ak (f:=21);exact rfl;exact rfl;exact hC2 _ mS;rintro _ _ ⟨A4,c4,rfl,rfl⟩)|(apply ak (f:=10);exact rfl;exact rfl;exact hO1 _ mS;rintro _ _ ⟨A5,c5,rfl,rfl⟩)|(apply ak (f:=22);exact rfl;exact rfl;exact hO2 _ mS;rintro _ _ ⟨A6,c6,rfl,rfl⟩)|(apply aa (d:=71);exact rfl;exact rfl;(intro w' hm;exact dO rfl (Reads.of_own (A:=A1) (c:=c1) hm pK) (Reads.of_own (A:=A2) (c:=c2) hm pK)))|(apply aa (d:=82);exact rfl;exact rfl;(intro w' hm;exact dO rfl (Reads.of_own (A:=A3) (c:=c3) hm pK) (Reads.of_own (A:=A4) (c:=c4) hm pK)))|(apply aa (d:=93);exact rfl;exact rfl;(intro w' hm;exact dO rfl (Reads.of_own (A:=A5) (c:=c5) hm pK) (Reads.of_own (A:=A6) (c:=c6) hm pK)))|(apply ak (d:=97);exact rfl;exact rfl;exact FnIn.msub (sm A1 _ c1 _ _ w) (MSub.pick pK (MSub.refl _));rintro _ _ ⟨rfl,y11,rfl⟩)|(apply ak (d:=99);exact rfl;exact rfl;exact FnIn.msub (sm A3 _ c3 _ _ w) (MSub.pick pK (MSub.refl _));rintro _ _ ⟨rfl,y12,rfl⟩)|(apply ak (d:=101);exact rfl;exact rfl;exact FnIn.msub (sm A5 _ c5 _ _ w) (MSub.pick pK (MSub.refl _));rintro _ _ ⟨rfl,y13,rfl⟩)|refine zZA ?_|refine sM fun _=>?_|(refine sC ?_ ?_<;>intro hb<;>try omega)|fail)
  all_goals first
   |(exfalso;omega)
   |(refine ⟨k+1,by omega,by omega,by exact sB,by exact sB,by exact mS⟩;done)
 ·repeat' (first|(apply ak (f:=25);exact rfl;exact rfl;exact Ok x G hx hl' mS w;rintro _ _ ⟨rfl,rfl⟩)|(apply aa (f:=18);exact rfl;exact rfl;(intro w' hm;exact Gk w' (hW.next hm)))|refine zZA ?_|refine sM fun _=>?_|(refine sC ?_ ?_<;>intro hb<;>try omega)|fail)
  all_goals first
   |(exfalso;omega)
   |((refine rT1 ?_);rfl)
end Go.SL

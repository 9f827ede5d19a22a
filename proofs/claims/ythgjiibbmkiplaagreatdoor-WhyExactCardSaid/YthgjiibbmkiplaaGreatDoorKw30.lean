/-
  Lemmas and walks, put together: Ng Wc.
-/
import Derived.Test.YthgjiibbmkiplaaGreatDoorKw24
import Derived.Test.YthgjiibbmkiplaaGreatDoorKw28
set_option linter.unusedSimpArgs false
set_option linter.unusedVariables false
set_option maxRecDepth 20000
set_option maxHeartbeats 16000000
namespace Go.SL
open Go
theorem BU {L:List Rl} (h:(eV 64 L).2=0): ∀ R∈L,aA R.rect=true:=by
 unfold eV at h;split at h
 ·cases h
 split at h
 ·cases h
 split at h
 ·cases h
 have hf: ∀ (M:List Rl) (i:Int),(jG 64 M i).2=0→ ∀ R∈M,aA R.rect=true:=by
  intro M
  induction M with
  |nil=>intro _ _ R hR;cases hR
  |cons r M ih=>
   intro i hi R hR;rw [jG] at hi;split at hi
   ·cases hi
   rename_i h1;split at hi
   ·cases hi
   rcases Xt.1 hR with rfl|hR
   ·simpa using h1
   ·exact ih _ hi R hR
 exact hf L 0 h
def rL (f:Rl→BitVec 64) (L:List Rl) (a:Rf):BitVec 64:=(L[iK L a]?.map f).getD 0#64
theorem UT {L:List Rl} (h:(eV 64 L).2=0) {a:Rf} (ha:a.valid=true):(atE a L).1.1=rL (fun x=>x.read) L a∧(atE a L).2=0:=by
 have hw:(wy a L).2=0:=by
  unfold wy;rw [if_neg (by rw [ha];decide),if_neg (by rw [h];decide)]
 unfold atE;rw [if_neg (by rw [hw];decide)];refine ⟨?_,rfl⟩;unfold atR rL;cases L[iK L a]? <;>rfl
theorem Uw {L:List Rl} (h:(eV 64 L).2=0) {r:Rct} (hr:aA r=true):ovE r L=((yq (fun x=>x.read) r L,yq (fun x=>x.write) r L,yq (fun x=>x.own) r L),0):=by
 have hz:dX r L=0:=by
  unfold dX;rw [if_neg (by rw [hr];decide)];exact h
 unfold ovE;rw [if_neg (by rw [hz];decide)]
theorem RN {L:List Rl} (h:(eV 64 L).2=0) {r:Rct} (hr:aA r=true) {i:Nat} (hi:i<64):(ovE r L).1.1.getLsbD i=true↔ ∀ a,aI r a=true→(rL (fun x=>x.read) L a).getLsbD i=true:=by
 rw [Uw h hr];exact OM hr (BU h) hi
theorem qq {r:Rct} {a:Rf} (hr:aA r=true) (ha:aI r a=true):a.valid=true:=by
 rw [aV] at hr;rw [aJ] at ha;show valid a.col a.row=true;rw [z1];omega
open Go.Proofs
attribute [local irreducible] FnAt FnIn FnP RW VOp W WA WC WE WG WL WLI WQ WR WT WX aX aY bA blk bw ceP scp thn
def FA (r:Rct) (L:List Rl):List Pz:=if dX r L≠0 then [] else bW r L []
def mN (p:Pz):List Value:=ay p.rect
def vPz (p:Pz):Value:= .int .i64 (p.a:Int)
theorem qe {r:Rct} {L:List Rl} (hlen:L.length≤64):(bW r L []).length≤1000000:=by
 have h1:=kP (A:=L) (B:= []) (xs:=cf r.c1 r.c2 (aW r L++aW r [])) (cf r.r1 r.r2 (bf r L++bf r []));have h2:=fU r.c1 r.c2 (aW r L++aW r []);have h3:=fU r.r1 r.r2 (bf r L++bf r []);have h4:=dC r L;have h5:=dC r [];have h6:=dA r L;have h7:=dA r [];rw [Xa] at h2 h3;rw [Yu] at h5 h7;exact XU h1 (XU (Nat.mul_le_mul (show _≤801 by omega) (show _≤801 by omega)) (by decide))
theorem BD (p:Pz): ∀ u∈mN p,u.oneCell' =true:=fun u hu=>by
 simp only [mN,ay,Xt,YQ,or_false] at hu;rcases hu with rfl|rfl|rfl|rfl<;>rfl
theorem Qv (r:Rct) (L:List Rl) (lv:Value) (w:World) (hl:Reads w lv L.length (L.flatMap bQ)):
 FnAt Tryz.prog 103 [.agg (ay r).toArray,lv] w fun v H=> ∃ A1 c1 A2 c2,v= .tuple #[sl A1 (FA r L).length c1,sl A2 (FA r L).length c2,.int .i64 (dX r L)]∧H= [.own A1 31 4 (FA r L).length c1 ((FA r L).flatMap mN),.own A2 3 1 (FA r L).length c2 ((FA r L).map vPz)]:=by
 refine aB Tryz.func103 rfl Tryz.ntmps103 rfl ?_;have hck:=fun (w' :World) (H:List Blk) (hm:Mem w w' H)=>BO r L lv w' (hl.of_w0 hm);unfold FA;by_cases hc:dX r L≠0
 ·rw [if_pos hc];refine aF 31 4 ?_;refine aF 3 1 ?_;repeat' (first|apply aa (f:=138);exact rfl;exact rfl;intro w' hm;exact hck w' _ hm|refine sT ?_|refine sM fun _=>?_|refine sC ?_ ?_<;>intro hb<;>try omega|fail)
  all_goals first
   |omega
   |exact Fu eIO rfl rfl rfl rfl (H' := [.own none 31 4 0 0 [],.own none 3 1 0 0 []]) mS ⟨none,0,none,0,rfl,rfl⟩
 rw [if_neg hc];obtain ⟨hr,hne,hlen⟩:=BN hc;have hP:=fun (w' :World) (H:List Blk) (hm:Mem w w' H)=>FG r hr L [] lv (.slice none 0 0) w' (hl.of_w0 hm) (bG w') (by omega) (by simp);have hpl:=qe (r:=r) hlen;have hc0:dX r L=0:=by omega
 rw [hc0] at hck ⊢;generalize bW r L []=PZ at hP hpl ⊢;refine aF 31 4 ?_;refine aF 3 1 ?_;repeat' (first|apply aa (f:=138);exact rfl;exact rfl;intro w' hm;exact hck w' _ hm|apply aw (f:=139);exact rfl;exact rfl;intro w' hm;exact hP w' _ hm;rintro _ _ ⟨Ap,cp,rfl,rfl⟩|refine zZB ?_|refine sM fun _=>?_|refine sC ?_ ?_<;>intro hb<;>try omega|fail)
 all_goals try omega
 rename_i g2;refine ax [18,19] rfl (fun y:Nat × (Option Nat × Nat) × (Option Nat × Nat)=> [(4,sl y.2.1.1 y.1 y.2.1.2),(5,sl y.2.2.1 y.1 y.2.2.2),(20,.int .i64 (y.1:Int))]) (fun y=> .own y.2.1.1 31 4 y.1 y.2.1.2 ((PZ.take y.1).flatMap mN):: .own y.2.2.1 3 1 y.1 y.2.2.2 ((PZ.take y.1).map vPz):: .own Ap 244 6 PZ.length cp (PZ.flatMap cK):: []) (fun y=>y.1≤PZ.length) (fun y=>PZ.length - y.1) (0,(none,0),(none,0)) (Xn _) sB mS ?_;rintro ⟨i,⟨A7,c7⟩,⟨A8,c8⟩⟩ hi;dsimp only at hi ⊢;by_cases hlt:i<PZ.length
 ·refine aU (A:=Ap) pK (by omega) fun gp hAp=> ?_;subst hAp;have hrd:((PZ.flatMap cK).drop (0+i*6)).take 6=cK PZ[i]:=by rw [Xv];exact aM cN PZ i hlt
  have hs1:(PZ.take (i+1)).flatMap mN=(PZ.take i).flatMap mN++mN PZ[i]:=by
   rw [Xk hlt,Xz,ZT]
  have hs2:(PZ.take (i+1)).map vPz=(PZ.take i).map vPz++ [vPz PZ[i]]:=by
   rw [Xk hlt,XI];rfl
  generalize PZ[i]=p at hrd hs1 hs2;repeat' (first|apply ak (d:=22);exact rfl;apply ai (j:=i);exact rfl;exact rfl;exact hlt|apply ak (d:=23);exact rfl;apply au (ys:=cK p);exact rfl;exact pK;exact hrd;exact rfl|refine zZN ?_|refine sM fun _=>?_|refine sC ?_ ?_<;>intro hb<;>try omega|fail)
  all_goals try omega
  rename_i g9;refine fw (id:=7) [3,4,9,10] [.box g9 244 (cK p)] 13 rfl rfl mS ?_;repeat' (first|apply ba (i:=7);(iterate 4 exact rfl);(iterate 3 decide+kernel);apply Ar;(iterate 3 exact rfl)|apply ba (i:=0);(iterate 4 exact rfl);(iterate 3 decide+kernel);exact vC|apply ba (i:=1);(iterate 4 exact rfl);(iterate 3 decide+kernel);exact vC|apply ba (i:=2);(iterate 4 exact rfl);(iterate 3 decide+kernel);exact vC|apply ba (i:=5);(iterate 4 exact rfl);(iterate 3 decide+kernel);exact vC|apply ba (i:=6);(iterate 4 exact rfl);(iterate 3 decide+kernel);exact vC|apply ba (i:=8);(iterate 4 exact rfl);(iterate 3 decide+kernel);exact vC|apply ba (i:=11);(iterate 4 exact rfl);(iterate 3 decide+kernel);apply eY;exact rfl|apply ba (i:=12);(iterate 4 exact rfl);(iterate 3 decide+kernel);apply eY;exact rfl|apply cF (i:=3) (j:=9);(iterate 6 exact rfl);decide+kernel|apply cF (i:=4) (j:=9);(iterate 6 exact rfl);decide+kernel|apply cF (i:=3) (j:=10);(iterate 6 exact rfl);decide+kernel|apply cF (i:=4) (j:=10);(iterate 6 exact rfl);decide+kernel|apply bk (i:=3);(iterate 3 exact rfl);decide+kernel|apply bk (i:=4);(iterate 3 exact rfl);decide+kernel|apply bk (i:=9);(iterate 3 exact rfl);decide+kernel|apply bk (i:=10);(iterate 3 exact rfl);decide+kernel|apply fu;decide+kernel|apply rW;(focus (exact mS;done))|apply aN (d:=28) (A:=A7) (m:=1);(iterate 3 exact rfl);exact pK;intro w hm;exact hm.cells_own pK;exact rfl;(first|exact BD p|simp [Value.oneCell',sl]);omega;simp only [maxLen];omega;intro B7 b7 hB7|apply aN (d:=34) (A:=A8) (m:=1);(iterate 3 exact rfl);exact pK;intro w hm;exact hm.cells_own pK;exact rfl;simp [Value.oneCell',sl];omega;simp only [maxLen];omega;intro B8 b8 hB8|refine zZA ?_|refine sM fun _=>?_|refine sC ?_ ?_<;>intro hb<;>try omega|fail)
  all_goals first
   |omega
   |refine ⟨(i+1,(B7,b7),(B8,b8)),hlt,by dsimp only;omega,by exact sB,by exact sB,?_⟩;dsimp only;rw [hs1,hs2];exact mS
 ·have e:i=PZ.length:=by omega
  subst e;rw [XF];repeat' (first|refine zZB ?_|refine sM fun _=>?_|refine sC ?_ ?_<;>intro hb<;>try omega|fail)
  all_goals first
   |omega
   |exact Fu eIO rfl rfl rfl rfl (H' := [.own A7 31 4 PZ.length c7 (PZ.flatMap mN),.own A8 3 1 PZ.length c8 (PZ.map vPz)]) mS ⟨A7,c7,A8,c8,rfl,rfl⟩
end Go.SL

/-
  Lemmas and walks, put together: Hk Hu Ng Hv Hm Ig Ie Hn Ja Nb.
-/
import Derived.Test.YtoanpdoacdpgeaaGreatDoorKq21
set_option linter.unusedSimpArgs false
set_option linter.unusedVariables false
set_option maxRecDepth 20000
namespace Go.SL
open Go Go.Proofs
attribute [local irreducible] W WL WQ WG WA WX WLI WR WT WC WE VOp RW thn blk bE scp aV bo bI aK FnIn FnP ceP
--
def je (r:Rct) (L:List Rl):Int:=if aD r=false then 3 else (dX 64 L).2
theorem IX (r:Rct) (L:List Rl) (lv:Value) (w:World) (hl:Reads w lv L.length (L.flatMap bu)):ay Tryz.prog 140 [.agg (bK r).toArray,lv] w (.int .i64 (je r L)):=by
 refine aq Tryz.func140 rfl Tryz.ntmps140 rfl ?_
 have h1:=fun w=>fT r w
 have h2:=fun (w' :World) (H:List Blk) (hm:Mem w w' H)=>ja 64 L lv w' (hl.of_w0 hm)
 unfold je
 repeat' (first|(apply aa;exact rfl;exact rfl;(intro w hm;exact h1 w))|(apply aa (f:=60);exact rfl;exact rfl;(intro w' hm;exact h2 w' _ hm))|refine sT ?_|refine sM fun _=> ?_|(refine sC ?_ ?_<;>intro hb<;>try omega)|fail)
 all_goals first
  |(exfalso;omega)
  |((refine rT1 ?_);rw [if_pos (iw hb)];done)
  |((refine rT1 ?_);rw [if_neg (fa hb)];done)
def ovE (r:Rct) (L:List Rl):(BitVec 64 × BitVec 64 × BitVec 64) × Int:=
 if je r L≠0 then ((0#64,0#64,0#64),je r L) else ((vk (fun x=>x.read) r L,vk (fun x=>x.write) r L,vk (fun x=>x.own) r L),0)
theorem IW {r:Rct} {L:List Rl} (h: ¬ je r L≠0):aD r=true∧L≠ []∧L.length≤64:=by
 unfold je at h
 split at h
 ·
  exact absurd (by decide) h
 ·
  rename_i hr
  refine ⟨by simpa using hr,?_⟩
  unfold dX at h
  split at h
  ·
   exact absurd (by decide) h
  ·
   rename_i h1
   have hn:L≠ []:=fun e=>h1 (.inr (.inr (.inr e)))
   split at h
   ·
    exact absurd (by decide) h
   ·
    exact ⟨hn,by omega⟩
def byN (f:Rl→BitVec 64) (L:List Rl) (p:Pz):BitVec 64:=(L[p.a]?.map f).getD 0#64
theorem y9 (f:Rl→BitVec 64) (r:Rct) (L:List Rl):vk f r L=tJ ((dJ r L []).map (byN f L)):=rfl
set_option maxHeartbeats 16000000 in
theorem zF (r:Rct) (L:List Rl) (lv:Value) (w:World) (hl:Reads w lv L.length (L.flatMap bu)):
  ay Tryz.prog 102 [.agg (bK r).toArray,lv] w (.tuple #[.agg #[vS (ovE r L).1.1,vS (ovE r L).1.2.1,vS (ovE r L).1.2.2],.int .i64 (ovE r L).2]):=by
 refine aq Tryz.func102 rfl Tryz.ntmps102 rfl ?_
 have hck:=fun (w' :World) (H:List Blk) (hm:Mem w w' H)=>IX r L lv w' (hl.of_w0 hm)
 unfold ovE
 by_cases hc:je r L≠0
 ·
  rw [if_pos hc]
  repeat' (first|(apply aa (f:=140);exact rfl;exact rfl;(intro w' hm;exact hck w' _ hm))|refine sT ?_|refine sT2 ?_|refine sM fun _=> ?_|(refine sC ?_ ?_<;>intro hb<;>try omega)|fail)
  all_goals first
   |(exfalso;omega)
   |((refine eQ ?_);rfl)
 rw [if_neg hc]
 obtain ⟨hr,hne,hlen⟩:=IW hc
 have hP:=fun (w' :World) (H:List Blk) (hm:Mem w w' H)=>Kj r hr L [] lv (.slice none 0 0) w' (hl.of_w0 hm) (HF w') (by omega) (by simp)
 have hpa: ∀ p∈dJ r L [],p.a<L.length:=fun p hp=>by
  have h1:p.a∈(dJ r L []).map (·.a):=RD.2 ⟨p,hp,rfl⟩
  obtain ⟨y,x,_,h2⟩:=y8.1 h1
  rw [h2]
  exact GK hne
 have hpl:(dJ r L []).length≤1000000:=by
  have h1:=lO (A:=L) (B:= []) (xs:=cG r.c1 r.c2 (aY r L++aY r [])) (cG r.r1 r.r2 (aX r L++aX r []))
  have h2:=iK r.c1 r.c2 (aY r L++aY r [])
  have h3:=iK r.r1 r.r2 (aX r L++aX r [])
  have h4:=eu r L
  have h5:=eu r []
  have h6:=dZ r L
  have h7:=dZ r []
  rw [QP] at h2 h3
  rw [Tp] at h5 h7
  exact Rt h1 (Rt (Nat.mul_le_mul (show _≤801 by omega) (show _≤801 by omega)) (by decide))
 rw [y9,y9,y9]
 have hc0:je r L=0:=by omega
 rw [hc0] at hck
 generalize dJ r L []=PZ at hP hpa hpl ⊢
 refine aH 33 1 ?_
 refine aH 33 1 ?_
 refine aH 33 1 ?_
 repeat' (first|(apply aa (f:=140);exact rfl;exact rfl;(intro w' hm;exact hck w' _ hm))|(apply aA (f:=141);exact rfl;exact rfl;(intro w' hm;exact hP w' _ hm);rintro _ _ ⟨Ap,cp,rfl,rfl⟩)|refine sT ?_|refine sS ?_|refine sT2 ?_|refine sM fun _=> ?_|(refine sC ?_ ?_<;>intro hb<;>try omega)|fail)
 all_goals try (exfalso;omega)
 rename_i g2 g4
 refine ax [1,4,22,23] rfl (fun y:Nat × (Option Nat × Nat) × (Option Nat × Nat) × (Option Nat × Nat)=> [(7,sl y.2.1.1 y.1 y.2.1.2),(8,sl y.2.2.1.1 y.1 y.2.2.1.2),(9,sl y.2.2.2.1 y.1 y.2.2.2.2),(24,.int .i64 (y.1:Int))]) (fun y=> .own y.2.1.1 33 1 y.1 y.2.1.2 (((PZ.take y.1).map (byN (fun x=>x.read) L)).map vS):: .own y.2.2.1.1 33 1 y.1 y.2.2.1.2 (((PZ.take y.1).map (byN (fun x=>x.write) L)).map vS):: .own y.2.2.2.1 33 1 y.1 y.2.2.2.2 (((PZ.take y.1).map (byN (fun x=>x.own) L)).map vS):: .own Ap 191 6 PZ.length cp (PZ.flatMap di):: .box g4 35 [vS 0#64,vS 0#64,vS 0#64]:: []) (fun y=>y.1≤PZ.length) (fun y=>PZ.length - y.1) (0,(none,0),(none,0),(none,0)) (QX _) sB mS ?_
 rintro ⟨i,⟨A7,c7⟩,⟨A8,c8⟩,⟨A9,c9⟩⟩ hi
 dsimp only at hi ⊢
 by_cases hlt:i<PZ.length
 ·
  refine eH (A:=Ap) pK (by omega) fun gp hAp=> ?_
  subst hAp
  have hrd:((PZ.flatMap di).drop (0+i*6)).take 6=di PZ[i]:=by rw [RB];exact dG cW PZ i hlt
  have hpi:=hpa _ (RQ hlt)
  have hsr: ∀ f:Rl→BitVec 64,((PZ.take (i+1)).map (byN f L)).map vS=((PZ.take i).map (byN f L)).map vS++ [vS (f (L[PZ[i].a]'hpi))]:=fun f=>by
   rw [Rg hlt,RX,RX]
   simp [byN,hpi]
  generalize PZ[i]=p at hrd hpi hsr
  have hl' :=hl
  obtain ⟨Al,cl,hlv,hl1,hl2,hl3⟩:=hl'
  subst hlv
  obtain ⟨gl,ol,rfl,hrl⟩:=hl3 (by omega)
  obtain ⟨_,_,_,_,hrr⟩:=Rl.ro (hrl.elem dm p.a hpi)
  generalize L[p.a]'hpi=x at hrr hsr
  repeat' (first|(apply ak (d:=26);exact rfl;apply aj (j:=i);exact rfl;exact rfl;exact hlt)|(apply ak (d:=27);exact rfl;apply aM (ys:=di p);exact rfl;exact pK;exact hrd;exact rfl)|(apply ak (d:=32);exact rfl;apply aj (j:=p.a);exact rfl;exact rfl;exact hpi)|refine sT ?_|refine sS ?_|refine sT2 ?_|refine sN ?_|refine sO ?_|refine sM fun _=> ?_|(refine sC ?_ ?_<;>intro hb<;>try omega)|fail)
  all_goals try (exfalso;omega)
  rename_i g11 g12
  refine pV (id:=9) [3,4,8,9,13,14] [.box g12 35 [vS x.read,vS x.write,vS x.own]] 18 rfl rfl mS ?_
  repeat' (first|(apply du (i:=0);(iterate 4 exact rfl);decide+kernel;decide+kernel;decide+kernel;(exact vC))|(apply du (i:=1);(iterate 4 exact rfl);decide+kernel;decide+kernel;decide+kernel;(exact vC))|(apply du (i:=2);(iterate 4 exact rfl);decide+kernel;decide+kernel;decide+kernel;(exact vC))|(apply du (i:=5);(iterate 4 exact rfl);decide+kernel;decide+kernel;decide+kernel;(exact vC))|(apply du (i:=6);(iterate 4 exact rfl);decide+kernel;decide+kernel;decide+kernel;(exact vC))|(apply du (i:=7);(iterate 4 exact rfl);decide+kernel;decide+kernel;decide+kernel;(exact vC))|(apply du (i:=10);(iterate 4 exact rfl);decide+kernel;decide+kernel;decide+kernel;(exact vC))|(apply du (i:=11);(iterate 4 exact rfl);decide+kernel;decide+kernel;decide+kernel;(exact vC))|(apply du (i:=12);(iterate 4 exact rfl);decide+kernel;decide+kernel;decide+kernel;(exact vC))|(apply du (i:=15);(iterate 4 exact rfl);decide+kernel;decide+kernel;decide+kernel;(apply iV;exact rfl))|(apply du (i:=16);(iterate 4 exact rfl);decide+kernel;decide+kernel;decide+kernel;(apply iV;exact rfl))|(apply du (i:=17);(iterate 4 exact rfl);decide+kernel;decide+kernel;decide+kernel;(apply iV;exact rfl))|(apply zZ (i:=3) (j:=8) (k:=13);(iterate 9 exact rfl);decide+kernel)|(apply zZ (i:=4) (j:=8) (k:=13);(iterate 9 exact rfl);decide+kernel)|(apply gZ (i:=3) (j:=13);(iterate 6 exact rfl);decide+kernel)|(apply gZ (i:=3) (j:=8);(iterate 6 exact rfl);decide+kernel)|(apply gZ (i:=8) (j:=13);(iterate 6 exact rfl);decide+kernel)|(apply gZ (i:=4) (j:=13);(iterate 6 exact rfl);decide+kernel)|(apply gZ (i:=4) (j:=8);(iterate 6 exact rfl);decide+kernel)|(apply gZ (i:=9) (j:=13);(iterate 6 exact rfl);decide+kernel)|(apply dw (i:=3);(iterate 3 exact rfl);decide+kernel)|(apply dw (i:=4);(iterate 3 exact rfl);decide+kernel)|(apply dw (i:=8);(iterate 3 exact rfl);decide+kernel)|(apply dw (i:=9);(iterate 3 exact rfl);decide+kernel)|(apply dw (i:=13);(iterate 3 exact rfl);decide+kernel)|(apply dw (i:=14);(iterate 3 exact rfl);decide+kernel)|(apply bR (d:=39) (A:=A7) (m:=1);(iterate 3 exact rfl);exact pK;(intro w hm;exact hm.cells_own pK);exact rfl;(simp [Value.oneCell',sl]);omega;(simp only [maxLen];omega);(intro B7 b7 hB7))|(apply bR (d:=44) (A:=A8) (m:=1);(iterate 3 exact rfl);exact pK;(intro w hm;exact hm.cells_own pK);exact rfl;(simp [Value.oneCell',sl]);omega;(simp only [maxLen];omega);(intro B8 b8 hB8))|(apply bR (d:=49) (A:=A9) (m:=1);(iterate 3 exact rfl);exact pK;(intro w hm;exact hm.cells_own pK);exact rfl;(simp [Value.oneCell',sl]);omega;(simp only [maxLen];omega);(intro B9 b9 hB9))|(apply pS;decide+kernel)|(apply IY;(focus (exact mS;done)))|refine sT ?_|refine sS ?_|refine sT2 ?_|refine sN ?_|refine sM fun _=> ?_|(refine sC ?_ ?_<;>intro hb<;>try omega)|fail)
  all_goals first
   |(exfalso;omega)
   |(refine ⟨(i+1,(B7,b7),(B8,b8),(B9,b9)),hlt,by dsimp only;omega,by exact sB,by exact sB,?_⟩;dsimp only;rw [hsr,hsr,hsr];exact mS)
 ·
  have e:i=PZ.length:=by omega
  subst e
  rw [Sc]
  have hM:=fun (f:Rl→BitVec 64) (w' :World) (lv:Value) (h:Reads w' lv PZ.length ((PZ.map (byN f L)).map vS))=>Jc (PZ.map (byN f L)) lv w' (by rw [RN];exact h)
  repeat' (first|(apply aa (d:=52);exact rfl;exact rfl;(intro w' hm;exact hM (fun x=>x.read) w' _ (Reads.of_own (A:=A7) hm pK)))|(apply aa (d:=54);exact rfl;exact rfl;(intro w' hm;exact hM (fun x=>x.write) w' _ (Reads.of_own (A:=A8) hm pK)))|(apply aa (d:=56);exact rfl;exact rfl;(intro w' hm;exact hM (fun x=>x.own) w' _ (Reads.of_own (A:=A9) hm pK)))|refine sT ?_|refine sS ?_|refine sT2 ?_|refine sM fun _=> ?_|(refine sC ?_ ?_<;>intro hb<;>try omega)|fail)
  all_goals first
   |(exfalso;omega)
   |((refine eQ ?_);rfl)
end Go.SL
namespace Go.SL
open Go
def zz (lo hi:Int) (ps:List (Int × Int)):List (Int × Int):=dK ((fS (tV (dg lo ps))).filter fun x=>decide (lo≤x) && decide (x≤hi)) hi
theorem I0:cG=zz:=by funext lo hi ps;unfold cG zz wu;rw [JV]
def Eh (r:Rct) (A B:List Rl):List Pz:=(zz r.r1 r.r2 (aX r A++aX r B)).flatMap fun y=>jO A B y (zz r.c1 r.c2 (aY r A++aY r B))
theorem HQ:dJ=Eh:=by funext r A B;unfold dJ Eh;rw [I0]
def BC (f:Rl→BitVec 64) (r:Rct) (L:List Rl):BitVec 64:=tJ ((Eh r L []).map fun p=>(L[p.a]?.map f).getD 0#64)
theorem Kn:vk=BC:=by funext f r L;unfold vk BC;rw [HQ]
def ovC (r:Rct) (L:List Rl):(BitVec 64 × BitVec 64 × BitVec 64) × Int:=
 if je r L≠0 then ((0#64,0#64,0#64),je r L) else ((BC (fun x=>x.read) r L,BC (fun x=>x.write) r L,BC (fun x=>x.own) r L),0)
theorem Ph:ovE=ovC:=by funext r L;unfold ovE ovC;rw [Kn]
def M3 (fn:Int) (r:Rct) (L:List Rl) (g:Gn):Bool:=decide (g.rect=r) && (m7 g.fns fn && (!g.rev && fZ (ovC g.rect L).1.2.2 g.by_))
def bkR:List Rl:= [⟨⟨1,1,1024,1024⟩,7#64,7#64,1#64⟩,⟨⟨2,1,2,3⟩,1#64,1#64,1#64⟩]
def bkN:List Gn:= [⟨⟨2,1,2,3⟩,1,2#64,0,false⟩]
set_option maxRecDepth 100000
theorem I6 {L:List Rl} (h:(dX 64 L).2=0): ∀ R∈L,aD R.rect=true:=by
 unfold dX at h
 split at h
 ·
  cases h
 split at h
 ·
  cases h
 split at h
 ·
  cases h
 have hf: ∀ (M:List Rl) (i:Int),(eP 64 M i).2=0→ ∀ R∈M,aD R.rect=true:=by
  intro M
  induction M with
  |nil=>intro _ _ R hR;cases hR
  |cons r M ih=>
   intro i hi R hR
   rw [eP] at hi
   split at hi
   ·
    cases hi
   rename_i h1
   split at hi
   ·
    cases hi
   rcases Rd.1 hR with rfl|hR
   ·
    simpa using h1
   ·
    exact ih _ hi R hR
 exact hf L 0 h
def vK (f:Rl→BitVec 64) (L:List Rl) (a:Rf):BitVec 64:=(L[gy L a]?.map f).getD 0#64
theorem LS {L:List Rl} (h:(dX 64 L).2=0) {a:Rf} (ha:a.valid=true):(atE a L).1.1=vK (fun x=>x.read) L a∧(atE a L).2=0:=by
 have hw:(tC a L).2=0:=by
  unfold tC
  rw [if_neg (by rw [ha];decide),if_neg (by rw [h];decide)]
 unfold atE
 rw [if_neg (by rw [hw];decide)]
 refine ⟨?_,rfl⟩
 unfold atR vK
 cases L[gy L a]? <;>rfl
theorem Pf {L:List Rl} (h:(dX 64 L).2=0) {r:Rct} (hr:aD r=true):ovE r L=((vk (fun x=>x.read) r L,vk (fun x=>x.write) r L,vk (fun x=>x.own) r L),0):=by
 have hz:je r L=0:=by
  unfold je
  rw [if_neg (by rw [hr];decide)];exact h
 unfold ovE
 rw [if_neg (by rw [hz];decide)]
theorem LP {x:BitVec 64} {i:Nat} (h:x.getLsbD i=true):i<64:=by
 refine Nat.lt_of_not_le fun hn=> ?_
 rw [BitVec.getLsbD_of_ge _ _ hn] at h
 cases h
theorem M7 {L:List Rl} (h:(dX 64 L).2=0) {r:Rct} (hr:aD r=true) {i:Nat} (hi:i<64):(ovE r L).1.2.2.getLsbD i=true↔ ∀ a,fj r a=true→(vK (fun x=>x.own) L a).getLsbD i=true:=by
 rw [Pf h hr]
 exact Km hr (I6 h) hi
end Go.SL
namespace Go.SL
open Go Go.Proofs
attribute [local irreducible] W WL WQ WG WA WX WLI WR WT WC WE VOp RW thn blk bE scp aV bo bI aK FnIn FnP ceP nQ iT kF
def xT:List Et:= [⟨⟨1,1⟩,⟨#[53]⟩⟩,⟨⟨2,1⟩,⟨#[49,48]⟩⟩,⟨⟨1,2⟩,inB⟩,⟨⟨2,2⟩,⟨#[50,48]⟩⟩,⟨⟨1,3⟩,inC⟩,⟨⟨1,4⟩,inD⟩]
theorem Lb:vv xT=(some exG,0):=by decide+kernel
theorem uP (w:World):ay Tryz.prog 84 [] w (.agg (bK ⟨1,1,1024,1024⟩).toArray):=by
 refine aq Tryz.func84 rfl Tryz.ntmps84 rfl ?_
 repeat' (first|refine sT ?_|refine sM fun _=> ?_|(refine sC ?_ ?_<;>intro hb<;>try omega)|fail)
 (refine eRC ?_)
 rfl
set_option maxHeartbeats 4000000 in
theorem Jg (w:World):aK Tryz.prog 116 [] w fun v H=> ∃ ge gr gn,v= .tuple #[.slice (some ⟨ge,0,none⟩) 6 6,.slice (some ⟨gr,0,none⟩) 2 2,.slice (some ⟨gn,0,none⟩) 1 1]∧H= [.own (some ge) 52 3 6 6 (xT.flatMap aJ),.own (some gr) 54 7 2 2 (bkR.flatMap bu),.own (some gn) 56 8 1 1 (bkN.flatMap bn)]:=by
 refine aq Tryz.func116 rfl Tryz.ntmps116 rfl ?_
 repeat' (first|(apply cj (id:=3) [0,6] [];kernel_rfl;kernel_rfl;kernel_rfl)|(apply cj (id:=4) [4] [];kernel_rfl;kernel_rfl;kernel_rfl)|(apply aa (f:=84);exact rfl;exact rfl;(intro w' _;exact uP w'))|refine sT ?_|refine sS ?_|refine sW ?_|refine sM fun _=> ?_|(refine sC ?_ ?_<;>intro hb<;>try omega)|(refine sCW ?_ ?_<;>intro hb<;>try omega)|fail)
 rename_i ge gr gn
 exact oD eIO rfl rfl rfl rfl (H' := [.own (some ge) 52 3 6 6 (xT.flatMap aJ),.own (some gr) 54 7 2 2 (bkR.flatMap bu),.own (some gn) 56 8 1 1 (bkN.flatMap bn)]) mS ⟨ge,gr,gn,rfl,rfl⟩
theorem ER (L:List Gn): ∀ u∈L.flatMap bn,u.oneCell' =true:=fun u hu=>by
 obtain ⟨a,_,h⟩:=RY.1 hu
 simp only [bn,Rd,S0,or_false] at h
 rcases h with rfl|rfl|rfl|rfl|rfl|rfl|rfl|rfl<;>rfl
end Go.SL
namespace Go.SL
open Go Go.Proofs
attribute [local irreducible] W WL WQ WG WA WX WLI WR WT WC WE VOp RW thn blk bE scp aV bo bI aK FnIn FnP ceP nQ iT kF
def BN (g:Gn) (L:List Rl):Bool:= !g.rev && fZ (ovE g.rect L).1.2.2 g.by_
theorem Nm (g:Gn) (L:List Rl) (lv:Value) (w:World) (hl:Reads w lv L.length (L.flatMap bu)):ay Tryz.prog 206 [.agg (bn g).toArray,lv] w (.bool (BN g L)):=by
 refine aq Tryz.func206 rfl Tryz.ntmps206 rfl ?_
 have h1:=fun (w' :World) (H:List Blk) (hm:Mem w w' H)=>zF g.rect L lv w' (hl.of_w0 hm)
 have h2:=fun w=>nT (ovE g.rect L).1.2.2 g.by_ w
 unfold BN
 generalize (ovE g.rect L).2=e at h1
 generalize (ovE g.rect L).1.1=s1 at h1
 generalize (ovE g.rect L).1.2.1=s2 at h1
 generalize (ovE g.rect L).1.2.2=s3 at h1 h2 ⊢
 generalize fZ s3 g.by_=b at h2
 repeat' (first|(apply aa (f:=102);exact rfl;exact rfl;(intro w' hm;exact h1 w' _ hm))|(apply aa;exact rfl;exact rfl;(intro w hm;exact h2 w))|refine sT ?_|refine sM fun _=> ?_|(refine sC ?_ ?_<;>intro hb<;>try omega)|fail)
 all_goals first
  |(exfalso;omega)
  |((refine rT1 ?_);rw [hb];rfl)
def xC (fn:Int) (r:Rct) (L:List Rl) (g:Gn):Bool:=decide (g.rect=r) && (m7 g.fns fn && BN g L)
def dB (fn:Int) (r:Rct) (L:List Rl):List Gn→Nat→List (Nat × Gn)
 | [],_=> []
 |g::G,i=>bif xC fn r L g then (i,g)::dB fn r L G (i+1) else dB fn r L G (i+1)
def Ow (x:Nat × Gn):List Value:= [.int .i64 (x.1:Int),.agg (bn x.2).toArray]
theorem mP (fn:Int) (r:Rct) (L:List Rl): ∀ (G:List Gn) (i:Nat),(dB fn r L G i).length≤G.length
 | [],_=>QV _
 |g::G,i=>by
  have:=mP fn r L G (i+1)
  rw [dB]
  cases xC fn r L g<;>simp<;>omega
set_option maxHeartbeats 8000000 in
theorem MZ (fn:Int) (r:Rct) (L:List Rl) (G:List Gn) (gv lv:Value) (w0:World) (hg:Reads w0 gv G.length (G.flatMap bn)) (hl:Reads w0 lv L.length (L.flatMap bu)) (hn:G.length≤1000000) (gg gr gf gl:Nat):
  N8 Tryz.prog 204 [.pointer (some ⟨gg,0,none⟩),.pointer (some ⟨gr,0,none⟩),.pointer (some ⟨gf,0,none⟩),.pointer (some ⟨gl,0,none⟩)] w0
   [.box gg 24 [gv],.box gr 32 (bK r),.box gf 5 [.int .u8 fn],.box gl 23 [lv]] (dB fn r L G 0) Ow:=by
 obtain ⟨Ag,cg,rfl,hg1,hg2,hg3⟩:=hg
 intro l I J H0 hy h0
 refine FnIn.msub (H' := [.box gg 24 [.slice Ag G.length cg],.box gr 32 (bK r),.box gf 5 [.int .u8 fn],.box gl 23 [lv]]++H0) ?_ (MSub.appC H0 [] _)
 refine dD Tryz.func204 rfl Tryz.ntmps204 rfl ?_
 repeat' (first|refine sT ?_|refine sS ?_|refine sM fun _=> ?_|(refine sC ?_ ?_<;>intro hb<;>try omega)|fail)
 refine ax [0,1,2,3,4,8,9] rfl (fun y:Nat × List (Nat × Gn) × List Blk=> [(10,.int .i64 (y.1:Int))]) (fun y=> [.box gg 24 [.slice Ag G.length cg],.box gr 32 (bK r),.box gf 5 [.int .u8 fn],.box gl 23 [lv]]++y.2.2) (fun y=>y.1≤G.length∧dB fn r L G 0=y.2.1++dB fn r L (G.drop y.1) y.1∧I y.2.1 y.2.2) (fun y=>G.length - y.1) (0,[],H0) ⟨QX _,rfl,h0⟩ sB (by exact MSub.refl _) ?_
 rintro ⟨i,pre,H1⟩ ⟨hi,hus,hI⟩
 dsimp only at hi hus hI ⊢
 simp only [QR,QU]
 by_cases hlt:i<G.length
 ·
  obtain ⟨ga,oa,rfl,hrl⟩:=hg3 (by omega)
  have he:=hrl.elem cX i hlt
  rw [QY hlt,dB] at hus
  generalize G[i]=g at hus he
  have hN:=fun w=>L9 g.fns fn w
  have hL:=fun (w' :World) (H:List Blk) (hm:Mem w0 w' H)=>Nm g L lv w' (hl.of_w0 hm)
  unfold xC at hus
  obtain ⟨c1,hc1⟩: ∃ c,decide (g.rect=r)=c:=⟨_,rfl⟩
  rw [hc1] at hus
  generalize m7 g.fns fn=c2 at hN hus
  generalize BN g L=c3 at hL hus
  repeat' (first|(apply kS (id:=3))|(apply Jp (d:=18);exact rfl;exact rfl;apply rj hc1;exact rfl;exact rfl)|(apply uf;exact rfl;exact rfl)|(apply yx;(iterate 4 exact rfl))|(apply Da<;>first|exact rfl|(intro hb;replace hb:=Tidy.out hb;try (exfalso;omega)))|(apply w5 (f:=205);(iterate 3 exact rfl);(intro w' hm;exact hN w'))|(apply w5 (f:=206);(iterate 3 exact rfl);(intro w' hm;exact hL w' _ hm))|refine sT ?_|refine sS ?_|refine sI ?_|refine sN ?_|refine sO ?_|refine sM fun _=> ?_|(refine sC ?_ ?_<;>intro hb<;>try omega)|fail)
  ·
   have hus2:dB fn r L G 0=pre++(i,g)::dB fn r L (G.drop (i+1)) (i+1):=by rw [hus];simp [*]
   rename_i g7 _ _
   (with_reducible apply jE)
   ·
    exact rfl
   ·
    exact rfl
   ·
    exact rfl
   ·
    exact MSub.appC [.box g7 56 (bn g)] [.box gg 24 [.slice (some ⟨ga,oa,none⟩) G.length cg],.box gr 32 (bK r),.box gf 5 [.int .u8 fn],.box gl 23 [lv]] H1
   ·
    exact fun w hm=>hy pre (i,g) _ hus2 H1 _ hI w hm
   intro bb H3 hq
   cases bb
   ·
    repeat' (first|(apply uf;exact rfl;exact rfl)|(apply yx;(iterate 4 exact rfl))|refine sT ?_|refine sS ?_|refine sI ?_|refine sM fun _=> ?_|(refine sC ?_ ?_<;>intro hb<;>try omega)|fail)
    exact fO eIO rfl (MSub.appE [.box g7 56 (bn g)] [.box gg 24 [.slice (some ⟨ga,oa,none⟩) G.length cg],.box gr 32 (bK r),.box gf 5 [.int .u8 fn],.box gl 23 [lv]] H3) ⟨H3,.inr ⟨_,hq⟩,MSub.refl _⟩
   ·
    repeat' (first|(apply uf;exact rfl;exact rfl)|(apply yx;(iterate 4 exact rfl))|refine sT ?_|refine sS ?_|refine sI ?_|refine sN ?_|refine sM fun _=> ?_|(refine sC ?_ ?_<;>intro hb<;>try omega)|fail)
    refine ⟨(i+1,_,H3),⟨hlt,hus2.trans (by rw [List.append_assoc];rfl),hq⟩,(by dsimp only;omega),sB,sB,?_⟩
    dsimp only
    exact MSub.trans (MSub.drop .hd (MSub.refl _)) (MSub.appD [.box g7 56 (bn g)] [.box gg 24 [.slice (some ⟨ga,oa,none⟩) G.length cg],.box gr 32 (bK r),.box gf 5 [.int .u8 fn],.box gl 23 [lv]] H3)
  all_goals
   refine ⟨(i+1,pre,H1),⟨hlt,by rw [hus];simp [*],hI⟩,(by dsimp only;omega),sB,sB,?_⟩
   exact MSub.drop .hd (MSub.refl _)
 ·
  have e:i=G.length:=by omega
  subst e
  rw [RE,dB,QW] at hus
  repeat' (first|refine sT ?_|refine sS ?_|refine sM fun _=> ?_|(refine sC ?_ ?_<;>intro hb<;>try omega)|fail)
  exact fO eIO rfl (.refl _) ⟨H1,.inl (hus ▸ hI),MSub.appS [.box gg 24 [.slice Ag G.length cg],.box gr 32 (bK r),.box gf 5 [.int .u8 fn],.box gl 23 [lv]] H1⟩
end Go.SL
namespace Go.SL
open Go Go.Proofs
attribute [local irreducible] W WL WQ WG WA WX WLI WR WT WC WE VOp RW thn blk bE scp aV bo bI aK FnIn FnP ceP
instance fldRt0:FldT Tryz.prog 35 0 33 0:=⟨_,_,Tryz.underlying35,rfl,rfl,rfl⟩
instance fldRt1:FldT Tryz.prog 35 1 33 1:=⟨_,_,Tryz.underlying35,rfl,rfl,rfl⟩
instance fldRt2:FldT Tryz.prog 35 2 33 2:=⟨_,_,Tryz.underlying35,rfl,rfl,rfl⟩
theorem Ox.ro {w:World} {g o:Nat} {x:Ox} (h:Ro w g o (bO x)):Ro w g (o+2) (bK x.rect)∧Ro w g (o+7) [vS x.rd,vS x.wr,vS x.ow]:=
 ⟨(h.drop (k:=2)).take (k:=4),(h.drop (k:=7)).take (k:=3)⟩
set_option maxHeartbeats 4000000 in
theorem IZ (b:Bk) (x:Bv) (r:Rct) (gp gb:Nat) (w:World) (hp:Ro w gp 0 [.pointer (some ⟨gb,0,none⟩)]) (hbk:Ro w gb 0 (aW b x)) (hr:BRd w b x):
  ay Tryz.prog 136 [.agg (bK r).toArray,.pointer (some ⟨gp,0,none⟩)] w (.agg #[vS (ovE r b.rules).1.1,vS (ovE r b.rules).1.2.1,vS (ovE r b.rules).1.2.2]):=by
 refine aq Tryz.func136 rfl Tryz.ntmps136 rfl ?_
 have h1:=fun (w' :World) (H:List Blk) (hm:Mem w w' H)=>zF r b.rules _ w' (hr.r.of_w0 hm)
 generalize (ovE r b.rules).2=e at h1
 generalize (ovE r b.rules).1.1=s1 at h1 ⊢
 generalize (ovE r b.rules).1.2.1=s2 at h1 ⊢
 generalize (ovE r b.rules).1.2.2=s3 at h1 ⊢
 obtain ⟨us,E,RU,G,L,M,st⟩:=b
 obtain ⟨ae1,ar1,ag1,al1,as1,ce1,cr1,cg1,cl1,cs1⟩:=x
 dsimp only at*
 simp only [aW] at hbk
 repeat' (first|refine sT ?_|refine sS ?_|refine sO ?_|refine sM fun _=> ?_|(refine sC ?_ ?_<;>intro hb<;>try omega)|fail)
 rename_i g2 g3
 refine pV (id:=1) [5,9,10] [.box g2 32 (bK r),.box g3 35 [.int .u64 0,.int .u64 0,.int .u64 0]] 12 rfl rfl mS ?_
 repeat' (first|(apply du (i:=1);(iterate 4 exact rfl);decide+kernel;decide+kernel;decide+kernel;apply eU;exact rfl;exact hp)|(apply du (i:=4);(iterate 4 exact rfl);decide+kernel;decide+kernel;decide+kernel;apply dx;exact rfl;exact hbk;exact rfl)|(apply du (i:=0);(iterate 4 exact rfl);decide+kernel;decide+kernel;decide+kernel;(exact vC))|(apply du (i:=2);(iterate 4 exact rfl);decide+kernel;decide+kernel;decide+kernel;(exact vC))|(apply du (i:=3);(iterate 4 exact rfl);decide+kernel;decide+kernel;decide+kernel;(exact vC))|(apply du (i:=6);(iterate 4 exact rfl);decide+kernel;decide+kernel;decide+kernel;(exact vC))|(apply du (i:=7);(iterate 4 exact rfl);decide+kernel;decide+kernel;decide+kernel;(exact vC))|(apply du (i:=8);(iterate 4 exact rfl);decide+kernel;decide+kernel;decide+kernel;(exact vC))|(apply du (i:=11);(iterate 4 exact rfl);decide+kernel;decide+kernel;decide+kernel;(apply iV;exact rfl))|(apply gZ (i:=5) (j:=9);(iterate 6 exact rfl);decide+kernel)|(apply dw (i:=5);(iterate 3 exact rfl);decide+kernel)|(apply dw (i:=9);(iterate 3 exact rfl);decide+kernel)|(apply dw (i:=10);(iterate 3 exact rfl);decide+kernel)|(apply pS;decide+kernel)|(apply IY;(focus (exact mS;done)))|(apply aa (f:=102);exact rfl;exact rfl;(intro w' hm;exact h1 w' _ hm))|refine sT ?_|refine sS ?_|refine sO ?_|refine sM fun _=> ?_|(refine sC ?_ ?_<;>intro hb<;>try omega)|fail)
 all_goals first
  |(exfalso;omega)
  |((refine eRC ?_);rfl)
def HA (b:Bk) (o:Ox):Bool:=
 if o.kind=3∨o.kind=4 then !fZ (ovE o.rect b.rules).1.2.1 o.user
 else if o.kind=6 then !fZ (ovE o.rect b.rules).1.1 o.user
 else if o.kind=7∨o.kind=8 then !fZ (ovE o.rect b.rules).1.2.2 o.user
 else if o.kind=9 then (match b.grants[o.idx.toNat]? with|some g=>decide (g.by_≠o.user) && !fZ (ovE g.rect b.rules).1.2.2 o.user|none=>false)
 else false
set_option maxHeartbeats 16000000 in
theorem uX (b:Bk) (x:Bv) (o:Ox) (gb:Nat) (w:World) (hbk:Ro w gb 0 (aW b x)) (hr:BRd w b x) (hi:o.kind=9→0≤o.idx∧o.idx<(b.grants.length:Int)):
  ay Tryz.prog 97 [.pointer (some ⟨gb,0,none⟩),.agg (bO o).toArray] w (.bool (HA b o)):=by
 refine aq Tryz.func97 rfl Tryz.ntmps97 rfl ?_
 have hO:=fun (r:Rct) (gp:Nat) (w' :World) (H:List Blk) (hi:In (.box gp 88 [.pointer (some ⟨gb,0,none⟩)]) H) (hm:Mem w w' H)=>IZ b x r gp gb w' (Ro.of_box hm hi) (hbk.next hm) (hr.of_w0 hm)
 unfold HA
 have hH:=fun (s:BitVec 64) w' =>nT s o.user w'
 by_cases k1:o.kind=3∨o.kind=4
 ·
  rw [if_pos k1]
  have hO1:=hO o.rect
  clear hO
  generalize (ovE o.rect b.rules).1.1=s1 at hO1 ⊢
  generalize (ovE o.rect b.rules).1.2.1=s2 at hO1 ⊢
  generalize (ovE o.rect b.rules).1.2.2=s3 at hO1 ⊢
  repeat' (first|(apply cj (id:=5) [3,7] [];kernel_rfl;kernel_rfl;kernel_rfl)|(apply da;(iterate 3 exact rfl);apply cO;exact rfl;exact rfl)|(apply bM (f:=136);exact rfl;exact rfl;infer_instance;exact rfl;(intro w' hm;exact hO1 _ w' _ pK hm))|(apply aa (f:=118);exact rfl;exact rfl;(intro w' _;exact hH _ w'))|refine sT ?_|refine sS ?_|refine sW ?_|refine sM fun _=> ?_|(refine sC ?_ ?_<;>intro hb<;>try omega)|(refine sCW ?_ ?_<;>intro hb<;>try omega)|fail)
  all_goals first|(exfalso;omega)|((refine rT1 ?_);rfl)
 rw [if_neg k1]
 by_cases k2:o.kind=6
 ·
  rw [if_pos k2]
  have hO1:=hO o.rect
  clear hO
  generalize (ovE o.rect b.rules).1.1=s1 at hO1 ⊢
  generalize (ovE o.rect b.rules).1.2.1=s2 at hO1 ⊢
  generalize (ovE o.rect b.rules).1.2.2=s3 at hO1 ⊢
  repeat' (first|(apply cj (id:=7) [3,7] [];kernel_rfl;kernel_rfl;kernel_rfl)|(apply da;(iterate 3 exact rfl);apply cO;exact rfl;exact rfl)|(apply bM (f:=136);exact rfl;exact rfl;infer_instance;exact rfl;(intro w' hm;exact hO1 _ w' _ pK hm))|(apply aa (f:=118);exact rfl;exact rfl;(intro w' _;exact hH _ w'))|refine sT ?_|refine sS ?_|refine sW ?_|refine sM fun _=> ?_|(refine sC ?_ ?_<;>intro hb<;>try omega)|(refine sCW ?_ ?_<;>intro hb<;>try omega)|fail)
  all_goals first|(exfalso;omega)|((refine rT1 ?_);rfl)
 rw [if_neg k2]
 by_cases k3:o.kind=7∨o.kind=8
 ·
  rw [if_pos k3]
  have hO1:=hO o.rect
  clear hO
  generalize (ovE o.rect b.rules).1.1=s1 at hO1 ⊢
  generalize (ovE o.rect b.rules).1.2.1=s2 at hO1 ⊢
  generalize (ovE o.rect b.rules).1.2.2=s3 at hO1 ⊢
  repeat' (first|(apply cj (id:=10) [3,7] [];kernel_rfl;kernel_rfl;kernel_rfl)|(apply da;(iterate 3 exact rfl);apply cO;exact rfl;exact rfl)|(apply bM (f:=136);exact rfl;exact rfl;infer_instance;exact rfl;(intro w' hm;exact hO1 _ w' _ pK hm))|(apply aa (f:=118);exact rfl;exact rfl;(intro w' _;exact hH _ w'))|refine sT ?_|refine sS ?_|refine sW ?_|refine sM fun _=> ?_|(refine sC ?_ ?_<;>intro hb<;>try omega)|(refine sCW ?_ ?_<;>intro hb<;>try omega)|fail)
  all_goals first|(exfalso;omega)|((refine rT1 ?_);rfl)
 rw [if_neg k3]
 by_cases k4:o.kind=9
 ·
  rw [if_pos k4]
  obtain ⟨hi1,hi2⟩:=hi k4
  obtain ⟨j,hj⟩: ∃ j:Nat,o.idx=(j:Int):=⟨o.idx.toNat,by omega⟩
  have hjl:j<b.grants.length:=by omega
  rw [hj,SD,QQ hjl]
  have hg:=hr.g
  obtain ⟨ae1,ar1,ag1,al1,as1,ce1,cr1,cg1,cl1,cs1⟩:=x
  dsimp only at*
  obtain ⟨Ag,cg2,eg,hg1,hg2,hg3⟩:=hg
  cases eg
  obtain ⟨gg,og,rfl,hrg⟩:=hg3 (by omega)
  have he:=hrg.elem cX j hjl
  generalize b.grants[j]=y at he ⊢
  have hO1:=hO y.rect
  clear hO
  generalize (ovE y.rect b.rules).1.1=s1 at hO1 ⊢
  generalize (ovE y.rect b.rules).1.2.1=s2 at hO1 ⊢
  generalize (ovE y.rect b.rules).1.2.2=s3 at hO1 ⊢
  obtain ⟨us,E,RU,G,L,M,st⟩:=b
  dsimp only at*
  simp only [aW] at hbk
  repeat' (first|(apply cj (id:=12) [8,9] [];kernel_rfl;kernel_rfl;kernel_rfl)|(apply cj (id:=13) [9,13] [];kernel_rfl;kernel_rfl;kernel_rfl)|(apply da;(iterate 3 exact rfl);apply dx;exact rfl;exact hbk;exact rfl)|(apply da;(iterate 3 exact rfl);apply aj (j:=j);exact rfl;(rw [hj];exact rfl);exact hjl)|(apply da;(iterate 3 exact rfl);apply aB;exact rfl;exact he;exact rfl)|(apply da;(iterate 3 exact rfl);apply cO;exact rfl;exact rfl)|(apply bM (f:=136);exact rfl;exact rfl;infer_instance;exact rfl;(intro w' hm;exact hO1 _ w' _ pK hm))|(apply aa (f:=118);exact rfl;exact rfl;(intro w' _;exact hH _ w'))|refine sT ?_|refine sS ?_|refine sW ?_|refine sM fun _=> ?_|(refine sC ?_ ?_<;>intro hb<;>try omega)|(refine sCW ?_ ?_<;>intro hb<;>try omega)|fail)
  all_goals first
   |(exfalso;omega)
   |((refine rT1 ?_);rw [decide_eq_false hb];rfl)
   |((refine rT1 ?_);rw [decide_eq_true hb];rfl)
 rw [if_neg k4]
 repeat' (first|refine sT ?_|refine sS ?_|refine sM fun _=> ?_|(refine sC ?_ ?_<;>intro hb<;>try omega)|fail)
 all_goals first|(exfalso;omega)|((refine rT1 ?_);rfl)
def ofS (u:Int):BitVec 64 × Int:=if u<0∨64≤u then (0#64,3) else (1#64<<<u.toNat,0)
theorem Od (u:Int) (lv:Value) (w:World) (hl:Reads w lv 1 [.int .i64 u]):ay Tryz.prog 103 [lv] w (.tuple #[vS (ofS u).1,.int .i64 (ofS u).2]):=by
 obtain ⟨Al,cl,rfl,hl1,hl2,hl3⟩:=hl
 obtain ⟨gl,ol,rfl,hrl⟩:=hl3 (by omega)
 have he1:=hrl.cellV 0 (v:= .int .i64 u) rfl
 refine aq Tryz.func103 rfl Tryz.ntmps103 rfl ?_
 by_cases h:u<0∨64≤u
 ·
  rw [ofS,if_pos h]
  repeat' (first|refine sT ?_|refine sS ?_|refine sO ?_|refine sM fun _=> ?_|(refine sC ?_ ?_<;>intro hb<;>try omega)|fail)
  refine ax [7,8] rfl (fun _:Unit=> [(4,.int .u64 0),(9,.int .i64 0)]) (fun _=> []) (fun _=>True) (fun _=>0) () trivial sB mS ?_
  rintro _ _
  repeat' (first|(apply ak;exact rfl;apply aj (j:=0);exact rfl;exact rfl;omega)|refine sT ?_|refine sS ?_|refine sO ?_|refine sM fun _=> ?_|(refine sC ?_ ?_<;>intro hb<;>try omega)|fail)
  all_goals first|(exfalso;omega)|((refine rT2 ?_);rfl)
 ·
  rw [ofS,if_neg h]
  obtain ⟨m,rfl⟩: ∃ m:Nat,u=(m:Int):=⟨u.toNat,by omega⟩
  repeat' (first|refine sT ?_|refine sS ?_|refine sO ?_|refine sM fun _=> ?_|(refine sC ?_ ?_<;>intro hb<;>try omega)|fail)
  refine ax [7,8] rfl (fun i:Nat=> [(4,vS (if i=0 then 0#64 else 1#64<<<m)),(9,.int .i64 (i:Int))]) (fun _=> []) (fun i=>i≤1) (fun i=>1 - i) 0 (by omega) sB mS ?_
  rintro i hi
  rcases (by omega:i=0∨i=1) with rfl|rfl
  ·
   repeat' (first|(apply ak;exact rfl;apply aj (j:=0);exact rfl;exact rfl;omega)|(apply ak;exact rfl;apply yL (a:=1#64) (m:=m);exact rfl;exact rfl;omega)|(apply ak;exact rfl;apply o9 (a:=0#64);exact rfl;exact rfl)|refine sT ?_|refine sS ?_|refine sN ?_|refine sO ?_|refine sM fun _=> ?_|(refine sC ?_ ?_<;>intro hb<;>try omega)|fail)
   all_goals first
    |(exfalso;omega)
    |(simp only [BitVec.zero_or];refine ⟨1,by omega,by omega,by exact sB,by exact sB,by exact mS⟩;done)
  ·
   repeat' (first|refine sT ?_|refine sS ?_|refine sO ?_|refine sM fun _=> ?_|(refine sC ?_ ?_<;>intro hb<;>try omega)|fail)
   all_goals first|(exfalso;omega)|((refine rT2 ?_);rfl)
def qQ:Ev:=⟨0,0,0,aL,false,0#64⟩
def evT (x:Ox) (N:List Gn):Rct:=if x.kind=9 then ((N[x.idx.toNat]?).map Gn.rect).getD aL else x.rect
def evO (step:Int) (x:Ox) (dn:Bool) (L:List Rl) (N:List Gn):Ev × Int:=
 if kH x.kind=false then (qQ,2)
 else if step<0∨opE x≠0∨x.user<0∨64≤x.user then (qQ,2)
 else if (dX 64 L).2≠0 then (qQ,(dX 64 L).2)
 else if (jS 64 N).2≠0 then (qQ,(jS 64 N).2)
 else if x.kind=9∧(x.idx<0∨(N.length:Int)≤x.idx) then (qQ,6)
 else if aD (evT x N)=false then (qQ,3)
 else (⟨step,x.user,x.kind,evT x N,dn,(ovE (evT x N) L).1.2.2|||(ofS x.user).1⟩,0)
set_option maxHeartbeats 16000000 in
theorem Mc (step:Int) (x:Ox) (dn:Bool) (L:List Rl) (N:List Gn) (lv nv:Value) (w:World) (hl:Reads w lv L.length (L.flatMap bu)) (hn:Reads w nv N.length (N.flatMap bn)):
  ay Tryz.prog 42 [.int .i64 step,.agg (bO x).toArray,.bool dn,lv,nv] w (.tuple #[.agg (bf (evO step x dn L N).1).toArray,.int .i64 (evO step x dn L N).2]):=by
 have hacl:=fun (w' :World) (H:List Blk) (hm:Mem w w' H)=>ja 64 L lv w' (hl.of_w0 hm)
 have hgnt:=fun (w' :World) (H:List Blk) (hm:Mem w w' H)=>nB 64 N nv w' (hn.of_w0 hm)
 have hov:=fun (r:Rct) (w' :World) (H:List Blk) (hm:Mem w w' H)=>zF r L lv w' (hl.of_w0 hm)
 obtain ⟨Al,cl,rfl,hl1,hl2,hl3⟩:=hl
 obtain ⟨An,cn,rfl,hn1,hn2,hn3⟩:=hn
 refine aq Tryz.func42 rfl Tryz.ntmps42 rfl ?_
 have hop:=fun w=>vo x w
 have hmu:=fun w=>pO x w
 unfold evO
 generalize kH x.kind=mk at hmu ⊢
 generalize opE x=oe at hop ⊢
 generalize dX 64 L=ae at hacl ⊢
 generalize jS 64 N=ne at hgnt ⊢
 cases mk with
 |false=>
  rw [if_pos rfl]
  repeat' (first|(apply aa;exact rfl;exact rfl;(intro w hm;exact hop w))|(apply aa;exact rfl;exact rfl;(intro w hm;exact hmu w))|refine sT ?_|refine sS ?_|refine sM fun _=> ?_|(refine sC ?_ ?_<;>intro hb<;>try omega)|fail)
  all_goals first|(exfalso;omega)|((refine eQ ?_);rfl)
 |true=>
  rw [if_neg (by decide)]
  by_cases h1:step<0∨oe≠0∨x.user<0∨64≤x.user
  ·
   rw [if_pos h1]
   repeat' (first|(apply aa;exact rfl;exact rfl;(intro w hm;exact hop w))|(apply aa;exact rfl;exact rfl;(intro w hm;exact hmu w))|refine sT ?_|refine sS ?_|refine sM fun _=> ?_|(refine sC ?_ ?_<;>intro hb<;>try omega)|fail)
   all_goals first|(exfalso;omega)|((refine eQ ?_);rfl)
  rw [if_neg h1]
  by_cases h2:ae.2≠0
  ·
   rw [if_pos h2]
   repeat' (first|(apply aa;exact rfl;exact rfl;(intro w hm;exact hop w))|(apply aa;exact rfl;exact rfl;(intro w hm;exact hmu w))|(apply aa (f:=60);exact rfl;exact rfl;(intro w' hm;exact hacl w' _ hm))|refine sT ?_|refine sS ?_|refine sM fun _=> ?_|(refine sC ?_ ?_<;>intro hb<;>try omega)|fail)
   all_goals first|(exfalso;omega)|((refine eQ ?_);rfl)
  rw [if_neg h2]
  by_cases h3:ne.2≠0
  ·
   rw [if_pos h3]
   repeat' (first|(apply aa;exact rfl;exact rfl;(intro w hm;exact hop w))|(apply aa;exact rfl;exact rfl;(intro w hm;exact hmu w))|(apply aa (f:=60);exact rfl;exact rfl;(intro w' hm;exact hacl w' _ hm))|(apply aa (f:=61);exact rfl;exact rfl;(intro w' hm;exact hgnt w' _ hm))|refine sT ?_|refine sS ?_|refine sM fun _=> ?_|(refine sC ?_ ?_<;>intro hb<;>try omega)|fail)
   all_goals first|(exfalso;omega)|((refine eQ ?_);rfl)
  rw [if_neg h3]
  obtain ⟨sa,has⟩: ∃ sa,sa=ofS x.user:=⟨_,rfl⟩
  have hof:=fun (w' :World) (g:Nat) (H:List Blk) (hi:In (.own (some g) 3 1 1 1 [.int .i64 x.user]) H) (hm:Mem w w' H)=>Od x.user (.slice (some ⟨g,0,none⟩) 1 1) w' (Reads.of_own (A:=some g) hm hi)
  rw [← has] at hof ⊢
  by_cases h9:x.kind=9
  ·
   by_cases h4:x.idx<0∨(N.length:Int)≤x.idx
   ·
    rw [if_pos ⟨h9,h4⟩]
    repeat' (first|(apply aa;exact rfl;exact rfl;(intro w hm;exact hop w))|(apply aa;exact rfl;exact rfl;(intro w hm;exact hmu w))|(apply aa (f:=60);exact rfl;exact rfl;(intro w' hm;exact hacl w' _ hm))|(apply aa (f:=61);exact rfl;exact rfl;(intro w' hm;exact hgnt w' _ hm))|refine sT ?_|refine sS ?_|refine sM fun _=> ?_|(refine sC ?_ ?_<;>intro hb<;>try omega)|fail)
    all_goals first|(exfalso;omega)|((refine eQ ?_);rfl)
   rw [if_neg (fun h=>h4 h.2)]
   obtain ⟨j,hj⟩: ∃ j:Nat,x.idx=(j:Int):=⟨x.idx.toNat,by omega⟩
   have hjl:j<N.length:=by omega
   obtain ⟨gn,on,rfl,hrn⟩:=hn3 (by omega)
   obtain ⟨hrr,_⟩:=Gn.ro (hrn.elem cX j hjl)
   have ht:evT x N=N[j].rect:=by unfold evT;rw [if_pos h9,hj,SD,QQ hjl];rfl
   rw [ht]
   generalize N[j].rect=t at hrr ⊢
   have hre:=fun w=>fT t w
   have hov' :=hov t
   generalize ovE t L=ov at hov' ⊢
   by_cases h5:aD t=false
   ·
    rw [if_pos h5]
    have h6:dh t≠0:=fun h=>fa (by simpa using h) h5
    repeat' (first|(apply aa;exact rfl;exact rfl;(intro w hm;exact hop w))|(apply aa;exact rfl;exact rfl;(intro w hm;exact hmu w))|(apply aa;exact rfl;exact rfl;(intro w hm;exact hre w))|(apply aa (f:=60);exact rfl;exact rfl;(intro w' hm;exact hacl w' _ hm))|(apply aa (f:=61);exact rfl;exact rfl;(intro w' hm;exact hgnt w' _ hm))|(apply ak;exact rfl;apply aj (j:=j);exact rfl;(rw [hj];exact rfl);exact hjl)|refine sT ?_|refine sS ?_|refine sO ?_|refine sM fun _=> ?_|(refine sC ?_ ?_<;>intro hb<;>try omega)|fail)
    all_goals first|(exfalso;omega)|((refine eQ ?_);rfl)
   ·
    rw [if_neg h5]
    repeat' (first|(apply aa;exact rfl;exact rfl;(intro w hm;exact hop w))|(apply aa;exact rfl;exact rfl;(intro w hm;exact hmu w))|(apply aa;exact rfl;exact rfl;(intro w hm;exact hre w))|(apply aa (f:=60);exact rfl;exact rfl;(intro w' hm;exact hacl w' _ hm))|(apply aa (f:=61);exact rfl;exact rfl;(intro w' hm;exact hgnt w' _ hm))|(apply aa (f:=102);exact rfl;exact rfl;(intro w' hm;exact hov' w' _ hm))|(apply aa (f:=103);exact rfl;exact rfl;(intro w' hm;exact hof w' _ _ pK hm))|(apply ak;exact rfl;apply aj (j:=j);exact rfl;(rw [hj];exact rfl);exact hjl)|(apply ak;exact rfl;apply o9;exact rfl;exact rfl)|refine sT ?_|refine sS ?_|refine sO ?_|refine sM fun _=> ?_|(refine sC ?_ ?_<;>intro hb<;>try omega)|fail)
    all_goals first|(exfalso;omega)|(exact absurd (iw hb) h5)|((refine eQ ?_);rfl)
  ·
   rw [if_neg (fun h=>h9 h.1)]
   have ht:evT x N=x.rect:=by unfold evT;rw [if_neg h9]
   rw [ht]
   have hre:=fun w=>fT x.rect w
   have hov' :=hov x.rect
   generalize ovE x.rect L=ov at hov' ⊢
   by_cases h5:aD x.rect=false
   ·
    rw [if_pos h5]
    repeat' (first|(apply aa;exact rfl;exact rfl;(intro w hm;exact hop w))|(apply aa;exact rfl;exact rfl;(intro w hm;exact hmu w))|(apply aa;exact rfl;exact rfl;(intro w hm;exact hre w))|(apply aa (f:=60);exact rfl;exact rfl;(intro w' hm;exact hacl w' _ hm))|(apply aa (f:=61);exact rfl;exact rfl;(intro w' hm;exact hgnt w' _ hm))|refine sT ?_|refine sS ?_|refine sO ?_|refine sM fun _=> ?_|(refine sC ?_ ?_<;>intro hb<;>try omega)|fail)
    all_goals first|(exfalso;omega)|(exact absurd h5 (fa ‹_›))|((refine eQ ?_);rfl)
   ·
    rw [if_neg h5]
    repeat' (first|(apply aa;exact rfl;exact rfl;(intro w hm;exact hop w))|(apply aa;exact rfl;exact rfl;(intro w hm;exact hmu w))|(apply aa;exact rfl;exact rfl;(intro w hm;exact hre w))|(apply aa (f:=60);exact rfl;exact rfl;(intro w' hm;exact hacl w' _ hm))|(apply aa (f:=61);exact rfl;exact rfl;(intro w' hm;exact hgnt w' _ hm))|(apply aa (f:=102);exact rfl;exact rfl;(intro w' hm;exact hov' w' _ hm))|(apply aa (f:=103);exact rfl;exact rfl;(intro w' hm;exact hof w' _ _ pK hm))|(apply ak;exact rfl;apply o9;exact rfl;exact rfl)|refine sT ?_|refine sS ?_|refine sO ?_|refine sM fun _=> ?_|(refine sC ?_ ?_<;>intro hb<;>try omega)|fail)
    all_goals first|(exfalso;omega)|(exact absurd (iw hb) h5)|((refine eQ ?_);rfl)
end Go.SL
namespace Go.SL
open Go Go.Proofs
attribute [local irreducible] W WL WQ WG WA WX WLI WR WT WC WE VOp RW thn blk bE scp aV bo bI aK FnIn FnP ceP nQ iT kF
def orS (l:List (BitVec 64)):BitVec 64:=l.foldl (· ||| ·) 0#64
theorem Ko {l:List (BitVec 64)} {x:BitVec 64}:orS (l++ [x])=orS l|||x:=by unfold orS;rw [TP];rfl
def mA (fn:Int) (r:Rct) (L:List Rl) (G:List Gn):BitVec 64 × List Nat × Int:=
 if fn<46∨50<fn then (0#64,[],2) else if dh r≠0 then (0#64,[],3) else if (dX 64 L).2≠0 then (0#64,[],(dX 64 L).2) else if (jS 64 G).2≠0 then (0#64,[],(jS 64 G).2)
 else (orS ((dB fn r L G 0).map fun x=>x.2.to),(dB fn r L G 0).map fun x=>x.1,0)
theorem yT (fn:Int) (r:Rct) (lv gv:Value) (w:World) {m1 m2:Nat} {x1 x2:List Value} (hl:Reads w lv m1 x1) (hg:Reads w gv m2 x2):aK Tryz.prog 158 [.int .u8 fn,.agg (bK r).toArray,lv,gv] w fun v H=> ∃ gg gr gf gl,v= .func (.func 204) #[] #[.pointer (some ⟨gg,0,none⟩),.pointer (some ⟨gr,0,none⟩),.pointer (some ⟨gf,0,none⟩),.pointer (some ⟨gl,0,none⟩)]∧H= [.box gg 24 [gv],.box gr 32 (bK r),.box gf 5 [.int .u8 fn],.box gl 23 [lv]]:=by
 obtain ⟨Al,cl,rfl,_⟩:=hl
 obtain ⟨Ag,cg,rfl,_⟩:=hg
 refine aq Tryz.func158 rfl Tryz.ntmps158 rfl ?_
 repeat' (first|refine sT ?_|refine sM fun _=> ?_|(refine sC ?_ ?_<;>intro hb<;>try omega)|fail)
 rename_i gf gr gl gg
 exact cH eIO rfl rfl (H' := [.box gg 24 [_],.box gr 32 (bK r),.box gf 5 [.int .u8 fn],.box gl 23 [_]]) mS ⟨gg,gr,gf,gl,rfl,rfl⟩
set_option maxHeartbeats 8000000 in
theorem PU (fn:Int) (r:Rct) (L:List Rl) (G:List Gn) (lv gv:Value) (w:World) (hl:Reads w lv L.length (L.flatMap bu)) (hg:Reads w gv G.length (G.flatMap bn)) (hn:G.length≤1000000):
    aK Tryz.prog 126 [.int .u8 fn,.agg (bK r).toArray,lv,gv] w fun v H=> ∃ A cap,v= .tuple #[vS (mA fn r L G).1,sl A (mA fn r L G).2.1.length cap,.int .i64 (mA fn r L G).2.2]∧H= [.own A 3 1 (mA fn r L G).2.1.length cap (lA (mA fn r L G).2.1)]:=by
  refine nD Tryz.func126 rfl Tryz.ntmps126 (by rfl) ?_
  have h1:=fun w=>fT r w
  have h2:=fun (w' :World) (H:List Blk) (hm:Mem w w' H)=>ja 64 L lv w' (hl.of_w0 hm)
  have h3:=fun (w' :World) (H:List Blk) (hm:Mem w w' H)=>nB 64 G gv w' (hg.of_w0 hm)
  have h4:=fun (w' :World) (H:List Blk) (hm:Mem w w' H)=>yT fn r lv gv w' (hl.of_w0 hm) (hg.of_w0 hm)
  have h5:=fun gg gr gf gl=>MZ fn r L G gv lv w hg hl hn gg gr gf gl
  have hrl:=mP fn r L G 0
  unfold mA
  generalize dh r=e1 at h1
  generalize (dX 64 L).2=e2 at h2
  generalize (jS 64 G).2=e3 at h3
  generalize dB fn r L G 0=us at h5 hrl
  refine pP ?_
  refine aH 3 1 ?_
  repeat' (first|(apply aa;exact rfl;exact rfl;(intro w hm;exact h1 w))|(apply aa (f:=60);exact rfl;exact rfl;(intro w' hm;exact h2 w' _ hm))|(apply aa (f:=61);exact rfl;exact rfl;(intro w' hm;exact h3 w' _ hm))|(apply aA (f:=158);exact rfl;exact rfl;(intro w' hm;exact h4 w' _ hm);rintro _ _ ⟨gg,gr,gf,gl,rfl,rfl⟩)|refine sT ?_|refine sS ?_|refine sR ?_|refine sM fun _=> ?_|(refine sC ?_ ?_<;>intro hb<;>try omega)|(refine sCR ?_ ?_<;>intro hb<;>try omega)|fail)
  all_goals first
    |(exfalso;omega)
    | (refine Gm ?_
       exact Kb eIO rfl rfl pK rfl pK rfl (H' := [.own none 3 1 0 0 []]) mS ⟨none,0,by first|(rw [if_pos (by omega)];exact ⟨rfl,rfl⟩)|(rw [if_neg (by omega),if_pos hb];exact ⟨rfl,rfl⟩)|(rw [if_neg (by omega),if_neg (by omega),if_pos hb];exact ⟨rfl,rfl⟩)|(rw [if_neg (by omega),if_neg (by omega),if_neg (by omega),if_pos hb];exact ⟨rfl,rfl⟩)⟩)
    |skip
  rename_i g5 g8 g9 k1 k2 k3 k4
  rw [if_neg (by omega),if_neg (by omega),if_neg (by omega),if_neg (by omega)]
  refine tZ (ps:= [47,48]) (us:=us) (encs:=Ow) (Hc:= [.box gg 24 [gv],.box gr 32 (bK r),.box gf 5 [.int .u8 fn],.box gl 23 [lv]]) (HU0:= [.box g8 33 [vS 0#64],.box g9 75 [.slice none 0 0],.own none 3 1 0 0 []]) rfl (fun _=>rfl) rfl (h5 gg gr gf gl)
    (fun pre HU=> ∃ A cap,HU= [.box g8 33 [vS (orS (pre.map fun x=>x.2.to))],.box g9 75 [sl A pre.length cap],.own A 3 1 pre.length cap (lA (pre.map fun x=>x.1))]) (fun _=>False) ?_ ⟨none,0,rfl⟩ ?_ ?_ ?_
  · exact mS
  · rintro l pre ⟨i,g⟩ post hus _ ⟨A,cap,rfl⟩ F F'
    have hlu:=congrArg List.length hus
    simp only [QP,Rp] at hlu
    change WR _ _ _ l _ _ ((48,Value.agg (bn g).toArray)::(47,Value.int .i64 (i:Int))::_) (.box g8 33 [vS (orS (pre.map fun x=>x.2.to))]:: .box g9 75 [sl A pre.length cap]:: .own A 3 1 pre.length cap (lA (pre.map fun x=>x.1))::F)
    repeat' (first|refine sT ?_|refine sR ?_|refine sM fun _=> ?_|(refine sC ?_ ?_<;>intro hb<;>try omega)|(refine sCR ?_ ?_<;>intro hb<;>try omega)|fail)
    rename_i g16
    refine wD ⟨[.box g16 56 (bn g),.box g8 33 [vS (orS (pre.map fun x=>x.2.to))],.box g9 75 [sl A pre.length cap],.own A 3 1 pre.length cap (lA (pre.map fun x=>x.1))],MSub.refl _,?_⟩
    change WR _ _ _ l _ _ _ (.box g16 56 (bn g):: .box g8 33 [vS (orS (pre.map fun x=>x.2.to))]:: .box g9 75 [sl A pre.length cap]:: .own A 3 1 pre.length cap (lA (pre.map fun x=>x.1))::F')
    repeat' (first|(apply ak;exact rfl;apply o9 (b:=g.to);exact rfl;exact rfl)|(apply bR;(iterate 3 exact rfl);(repeat first|exact .hd|apply Sel.tl|apply In.tl);(intro w hm;exact hm.cells_own (by (repeat first|exact .hd|apply Sel.tl|apply In.tl)));exact rfl;(simp [Value.oneCell',sl]);omega;(simp only [maxLen];omega);(intro A' cap' hA'))|refine sT ?_|refine sR ?_|refine sM fun _=> ?_|(refine sC ?_ ?_<;>intro hb<;>try omega)|(refine sCR ?_ ?_<;>intro hb<;>try omega)|fail)
    refine yS [.box g8 33 [vS (orS (pre.map fun x=>x.2.to)|||g.to)],.box g9 75 [sl A' (pre.length+1) cap'],.own A' 3 1 (pre.length+1) cap' (lA (pre.map fun x=>x.1)++ [.int .i64 (i:Int)])] ?_ ⟨A',cap',?_⟩
    · change MSub (_::_::_::F') _
      exact mS
    · simp only [RX,Rz,Sl,Ko,QP,QS,lA]
  · rintro D _ ⟨A,cap,rfl⟩
    change bI _ _ _ _ _ (iY D:: .box g8 33 [vS (orS (us.map fun x=>x.2.to))]:: .box g9 75 [sl A us.length cap]:: .own A 3 1 us.length cap (lA (us.map fun x=>x.1))::_)
    repeat' (first|refine sT ?_|refine sS ?_|refine sR ?_|refine sM fun _=> ?_|(refine sC ?_ ?_<;>intro hb<;>try omega)|(refine sCR ?_ ?_<;>intro hb<;>try omega)|fail)
    generalize orS (us.map fun x=>x.2.to)=o
    refine um (id:=16) [⟨2,g8,33,vS o,vS o⟩,⟨3,g9,75,sl A us.length cap,sl A us.length cap⟩] [iY D,.own A 3 1 us.length cap (lA (us.map fun x=>x.1))] (by kernel_rfl) (by kernel_rfl) rfl mS ?_
    repeat' (first|(refine tN ⟨2,g8,33,vS o,vS o⟩ (.head _) (f:=60) (j:=2) rfl (by decide+kernel) rfl rfl rfl ?_)|(refine tN ⟨3,g9,75,sl A us.length cap,sl A us.length cap⟩ (.tail _ (.head _)) (f:=60) (j:=3) rfl (by decide+kernel) rfl rfl rfl ?_)|(refine jX [] [⟨3,g9,75,sl A us.length cap,sl A us.length cap⟩] ⟨2,g8,33,vS o,vS o⟩ rfl rfl rfl rfl rfl rfl ?_)|(refine jX [⟨2,g8,33,vS o,vS o⟩] [] ⟨3,g9,75,sl A us.length cap,sl A us.length cap⟩ rfl rfl rfl rfl rfl rfl ?_)|(apply Fy;exact rfl;exact rfl;(exact vC))|refine sT ?_|refine sS ?_|refine sR ?_|refine sG ?_|refine sM fun _=> ?_|(refine sC ?_ ?_<;>intro hb<;>try omega)|(refine sCR ?_ ?_<;>intro hb<;>try omega)|fail)
    refine wh pK ?_
    exact Kb eIO rfl rfl pK rfl pK rfl (H' := [.own A 3 1 us.length cap (lA (us.map fun x=>x.1))]) mS ⟨A,cap,by dsimp only;rw [List.length_map],by dsimp only;rw [List.length_map]⟩
  · rintro D HU h
    exact h.elim
end Go.SL
namespace Go.SL
open Go Go.Proofs
attribute [local irreducible] W WL WQ WG WA WX WLI WR WT WC WE VOp RW thn blk bE scp aV bo bI aK FnIn FnP ceP
theorem I2 (n:Nat) (h:n<64):zC (n+1)=zC n|||1#64<<<n:=by
 have h1: ∀ n:Fin 64,zC (n.val+1)=zC n.val|||1#64<<<n.val:=by decide+kernel
 exact h1 ⟨n,h⟩
theorem xF (m:Nat) (h:m≤64) (w:World):ay Tryz.prog 112 [.int .i64 (m:Int)] w (vS (1#64<<<m)):=by
 refine aq Tryz.func112 rfl Tryz.ntmps112 rfl ?_
 repeat' (first|(apply ak;exact rfl;apply bW (c:=(m:Int));exact rfl;(simp only [IntKind.wrap_u64];omega))|(apply ak;exact rfl;apply yL (a:=1#64) (m:=m);exact rfl;exact rfl;omega)|refine sT ?_|refine sM fun _=> ?_|(refine sC ?_ ?_<;>intro hb<;>try omega)|fail)
 all_goals first|(exfalso;omega)|((refine rT1 ?_);rfl)
theorem Bh (u:Int) (w:World):ay Tryz.prog 132 [.int .i64 u] w (.tuple #[vS (cM u).1,.int .i64 (cM u).2]):=by
 refine aq Tryz.func132 rfl Tryz.ntmps132 rfl ?_
 by_cases h:u<0∨64<u
 ·
  rw [cM,if_pos h]
  repeat' (first|refine sT ?_|refine sM fun _=> ?_|(refine sC ?_ ?_<;>intro hb<;>try omega)|fail)
  all_goals first|(exfalso;omega)|((refine rT2 ?_);rfl)
 ·
  rw [cM,if_neg h]
  obtain ⟨m,rfl⟩: ∃ m:Nat,u=(m:Int):=⟨u.toNat,by omega⟩
  rw [SD]
  repeat' (first|refine sT ?_|refine sS ?_|refine sM fun _=> ?_|(refine sC ?_ ?_<;>intro hb<;>try omega)|fail)
  all_goals try (exfalso;omega)
  refine ax [0] rfl (fun i:Nat=> [(4,vS (zC i)),(5,.int .i64 (i:Int))]) (fun _=> []) (fun i=>i≤m) (fun i=>m - i) 0 (by omega) sB mS ?_
  rintro i hi
  by_cases hlt:i<m
  ·
   have hB:=fun w=>xF i (by omega) w
   have hs:=I2 i (by omega)
   repeat' (first|(apply aa;exact rfl;exact rfl;(intro w hm;exact hB w))|(apply ak;exact rfl;apply o9 (a:=zC i);exact rfl;exact rfl)|refine sT ?_|refine sS ?_|refine sN ?_|refine sM fun _=> ?_|(refine sC ?_ ?_<;>intro hb<;>try omega)|fail)
   all_goals first
    |(exfalso;omega)
    |(rw [← hs];refine ⟨i+1,hlt,by omega,by exact sB,by exact sB,by exact mS⟩;done)
  ·
   have e:i=m:=by omega
   subst e
   repeat' (first|refine sT ?_|refine sS ?_|refine sM fun _=> ?_|(refine sC ?_ ?_<;>intro hb<;>try omega)|fail)
   all_goals first|(exfalso;omega)|((refine rT2 ?_);rfl)
theorem js (x:BitVec 64) (u:Int) (w:World):ay Tryz.prog 86 [vS x,.int .i64 u] w (.bool (decide (x &&& ~~~(cM u).1=0#64))):=by
 refine aq Tryz.func86 rfl Tryz.ntmps86 rfl ?_
 have h1:=fun w=>Bh u w
 generalize (cM u).1=a at h1 ⊢
 generalize (cM u).2=e at h1
 repeat' (first|(apply aa;exact rfl;exact rfl;(intro w hm;exact h1 w))|(apply ak;exact rfl;apply dY (b:=a);exact rfl;exact rfl)|(apply ak;exact rfl;apply FI (b:=0#64);exact rfl;exact rfl)|refine sT ?_|refine sM fun _=> ?_|(refine sC ?_ ?_<;>intro hb<;>try omega)|fail)
 all_goals first|(exfalso;omega)|((refine rT1 ?_);rfl)
theorem j9 (r:Rct) (w:World):ay Tryz.prog 85 [.agg (bK r).toArray] w (.bool (aD r)):=by
 refine aq Tryz.func85 rfl Tryz.ntmps85 rfl ?_
 have h:aD r=true↔(1≤r.c1∧r.c1≤r.c2∧r.c2≤1024∧1≤r.r1∧r.r1≤r.r2∧r.r2≤1024):=by
  simp only [aD,valid,QZ,decide_eq_true_eq]
  omega
 by_cases hk:aD r=true
 ·
  have hk2:=h.1 hk
  rw [hk]
  repeat' (first|refine sT ?_|refine sM fun _=> ?_|(refine sC ?_ ?_<;>intro hb<;>try omega)|fail)
  all_goals first|(exfalso;omega)|((refine rT1 ?_);simp;omega)|((refine rT1 ?_);rfl)
 ·
  have hk2:=fun a=>hk (h.2 a)
  rw [show aD r=false by simpa using hk]
  repeat' (first|refine sT ?_|refine sM fun _=> ?_|(refine sC ?_ ?_<;>intro hb<;>try omega)|fail)
  all_goals first|(exfalso;omega)|((refine rT1 ?_);rfl)|((refine rT1 ?_);exact congrArg Value.bool (decide_eq_false fun hz=>hk2 ⟨by omega,by omega,by omega,by omega,by omega,by omega⟩))
theorem Kq (a b c s:BitVec 64):((a|||b|||c) &&& s=0#64)↔(a &&& s=0#64∧b &&& s=0#64∧c &&& s=0#64):=by
 have h: ∀ x:BitVec 64,(x=0#64)↔ ∀ i,x.getLsbD i=false:=fun x=>⟨fun h i=>by rw [h];simp,fun h=>TM fun i _=>by rw [h i];simp⟩
 simp only [h,Tg,BitVec.getLsbD_or,Sk,S9]
 constructor
 ·
  intro hh
  refine ⟨fun i=> ?_,fun i=> ?_,fun i=> ?_⟩<;>rcases hh i with ⟨⟨h1,h2⟩,h3⟩|h1<;>simp_all
 ·
  rintro ⟨h1,h2,h3⟩ i
  rcases h1 i with a|a
  ·
   rcases h2 i with b|b
   ·
    rcases h3 i with c|c
    ·
     exact .inl ⟨⟨a,b⟩,c⟩
    ·
     exact .inr c
   ·
    exact .inr b
  ·
   exact .inr a
theorem QA (r:Rl) (a:BitVec 64):((r.read|||r.write|||r.own) &&& ~~~a≠0#64)↔(r.read &&& ~~~a≠0#64∨r.write &&& ~~~a≠0#64∨r.own &&& ~~~a≠0#64):=by
 rw [ne_eq,Kq]
 constructor
 ·
  intro h
  by_cases h1:r.read &&& ~~~a=0#64
  ·
   by_cases h2:r.write &&& ~~~a=0#64
   ·
    exact .inr (.inr fun h3=>h ⟨h1,h2,h3⟩)
   ·
    exact .inr (.inl h2)
  ·
   exact .inl h1
 ·
  rintro (h|h|h) ⟨h1,h2,h3⟩
  ·
   exact h h1
  ·
   exact h h2
  ·
   exact h h3
set_option maxHeartbeats 8000000 in
theorem oQ (u:Int) (L:List Rl) (lv:Value) (w:World) (hl:Reads w lv L.length (L.flatMap bu)):ay Tryz.prog 34 [.int .i64 u,lv] w (.tuple #[.int .i64 (dX u L).1,.int .i64 (dX u L).2]):=by
 obtain ⟨Al,cl,rfl,hl1,hl2,hl3⟩:=hl
 refine aq Tryz.func34 rfl Tryz.ntmps34 rfl ?_
 unfold dX
 by_cases h1:u<0∨64<u∨u=0∨L= []
 ·
  rw [if_pos h1]
  have h1' :u<1∨64<u∨L.length=0:=by
   rcases h1 with h|h|h|h
   ·
    exact .inl (by omega)
   ·
    exact .inr (.inl h)
   ·
    exact .inl (by omega)
   ·
    exact .inr (.inr (by rw [h];rfl))
  repeat' (first|refine sT ?_|refine sM fun _=> ?_|(refine sC ?_ ?_<;>intro hb<;>try omega)|fail)
  all_goals first|(exfalso;omega)|((refine rT2 ?_);rfl)
 rw [if_neg h1]
 have hne:0<L.length:=by
  rcases Sf L.length with h|h
  ·
   exact absurd (.inr (.inr (.inr (RK h)))) h1
  ·
   exact h
 by_cases h64:64<L.length
 ·
  rw [if_pos h64]
  repeat' (first|refine sT ?_|refine sM fun _=> ?_|(refine sC ?_ ?_<;>intro hb<;>try omega)|fail)
  all_goals first|(exfalso;omega)|((refine rT2 ?_);rfl)
 rw [if_neg h64]
 obtain ⟨gl,ol,rfl,hrl⟩:=hl3 hne
 have hS:=fun w=>uP w
 obtain ⟨h0a,_⟩:=Rl.ro (hrl.elem dm 0 hne)
 have hhd:L.head?.map (·.rect)=some L[0].rect:=by rw [List.head?_eq_getElem?,QQ hne];rfl
 rw [hhd]
 by_cases hsh:some L[0].rect≠some mM
 ·
  rw [if_pos hsh]
  have hc:decide (L[0].rect=mM)=false:=decide_eq_false fun e=>hsh (congrArg some e)
  generalize L[0].rect=r0 at h0a hc
  repeat' (first|(apply cj (id:=5) [4] [];kernel_rfl;kernel_rfl;kernel_rfl)|(apply da;(iterate 3 exact rfl);apply aj (j:=0);exact rfl;exact rfl;omega)|(apply da;(iterate 3 exact rfl);apply aB;exact rfl;exact h0a;exact rfl)|(apply da;(iterate 3 exact rfl);apply nX hc;exact rfl;exact rfl)|(apply aa (f:=84);exact rfl;exact rfl;(intro w' _;exact hS w'))|refine sT ?_|refine sS ?_|refine sW ?_|refine sO ?_|refine sM fun _=> ?_|(refine sC ?_ ?_<;>intro hb<;>try omega)|(refine sCW ?_ ?_<;>intro hb<;>try omega)|fail)
  all_goals first|(exfalso;omega)|((refine rT2 ?_);rfl)
 rw [if_neg hsh]
 have hc:decide (L[0].rect=mM)=true:=decide_eq_true (Option.some.inj (Decidable.not_not.1 hsh))
 obtain ⟨ac,hac⟩: ∃ ac,eP u L 0=ac:=⟨_,rfl⟩
 rw [hac]
 generalize L[0].rect=r0 at h0a hc
 repeat' (first|(apply cj (id:=5) [4] [];kernel_rfl;kernel_rfl;kernel_rfl)|(apply da;(iterate 3 exact rfl);apply aj (j:=0);exact rfl;exact rfl;omega)|(apply da;(iterate 3 exact rfl);apply aB;exact rfl;exact h0a;exact rfl)|(apply da;(iterate 3 exact rfl);apply nX hc;exact rfl;exact rfl)|(apply aa (f:=84);exact rfl;exact rfl;(intro w' _;exact hS w'))|refine sT ?_|refine sS ?_|refine sW ?_|refine sO ?_|refine sM fun _=> ?_|(refine sC ?_ ?_<;>intro hb<;>try omega)|(refine sCW ?_ ?_<;>intro hb<;>try omega)|fail)
 all_goals try (exfalso;omega)
 refine ax [0,1] rfl (fun i:Nat=> [(6,.int .i64 (i:Int))]) (fun _=> []) (fun i=>i≤L.length∧ac=eP u (L.drop i) (i:Int)) (fun i=>L.length - i) 0 ⟨by omega,hac.symm⟩ sB mS ?_
 rintro i ⟨hi,hrec⟩
 by_cases hlt:i<L.length
 ·
  obtain ⟨hr1,_,_,_,hr2⟩:=Rl.ro (hrl.elem dm i hlt)
  rw [QY hlt,eP] at hrec
  simp only [QA] at hrec
  generalize L[i]=r at hr1 hr2 hrec
  have hR:=fun w=>j9 r.rect w
  have hW:=fun (x:BitVec 64) w=>js x u w
  generalize aD r.rect=ro at hR hrec
  generalize (cM u).1=sa at hW hrec
  by_cases h3:ro=false
  ·
   rw [if_pos h3] at hrec
   subst h3
   repeat' (first|(apply ak;exact rfl;apply aj (j:=i);exact rfl;exact rfl;omega)|(apply aa;exact rfl;exact rfl;(intro w hm;exact hR w))|refine sT ?_|refine sS ?_|refine sO ?_|refine sM fun _=> ?_|(refine sC ?_ ?_<;>intro hb<;>try omega)|fail)
   all_goals first|(exfalso;omega)|((refine rT2 ?_);rw [hrec];done)
  rw [if_neg h3] at hrec
  have h3' :ro=true:=by simpa using h3
  subst h3'
  by_cases h4:r.read &&& ~~~sa≠0#64∨r.write &&& ~~~sa≠0#64∨r.own &&& ~~~sa≠0#64
  ·
   rw [if_pos h4] at hrec
   repeat' (first|(apply ak;exact rfl;apply aj (j:=i);exact rfl;exact rfl;omega)|(apply ak;exact rfl;apply aB;exact rfl;exact hr2;exact rfl)|(apply aa;exact rfl;exact rfl;(intro w hm;exact hR w))|(apply aa (f:=86);exact rfl;exact rfl;(intro w' _;exact hW _ w'))|refine sT ?_|refine sS ?_|refine sO ?_|refine sM fun _=> ?_|(refine sC ?_ ?_<;>intro hb<;>try omega)|fail)
   all_goals first
    |(exfalso;omega)
    |((refine rT2 ?_);rw [hrec];done)
    |(exfalso;rcases h4 with h|h|h<;>exact h (by assumption))
  ·
   rw [if_neg h4] at hrec
   repeat' (first|(apply ak;exact rfl;apply aj (j:=i);exact rfl;exact rfl;omega)|(apply ak;exact rfl;apply aB;exact rfl;exact hr2;exact rfl)|(apply aa;exact rfl;exact rfl;(intro w hm;exact hR w))|(apply aa (f:=86);exact rfl;exact rfl;(intro w' _;exact hW _ w'))|refine sT ?_|refine sS ?_|refine sN ?_|refine sO ?_|refine sM fun _=> ?_|(refine sC ?_ ?_<;>intro hb<;>try omega)|fail)
   all_goals first
    |(exfalso;omega)
    |(exfalso;exact h4 (by first|exact .inl (by assumption)|exact .inr (.inl (by assumption))|exact .inr (.inr (by assumption))))
    |(refine ⟨i+1,⟨hlt,by rw [hrec];rfl⟩,by omega,by exact sB,by exact sB,by exact mS⟩;done)
 ·
  have e:i=L.length:=by omega
  subst e
  rw [RE,eP] at hrec
  rw [hrec]
  repeat' (first|refine sT ?_|refine sS ?_|refine sM fun _=> ?_|(refine sC ?_ ?_<;>intro hb<;>try omega)|fail)
  all_goals first|(exfalso;omega)|((refine rT2 ?_);rfl)
theorem CM (n:Nat) (h:n≤64) (i:Nat):(zC n).getLsbD i=decide (i<n):=by
 have h1: ∀ n:Fin 65,∀ i:Fin 64,(zC n.val).getLsbD i.val=decide (i.val<n.val):=by decide+kernel
 by_cases hi:i<64
 ·
  exact h1 ⟨n,by omega⟩ ⟨i,hi⟩
 ·
  rw [BitVec.getLsbD_of_ge _ _ (by omega),decide_eq_false (by omega)]
theorem qy {u b:Int} (h: ¬ (u<0∨64<u∨u=0)):fZ (cM u).1 b=(decide (0≤b) && decide (b<u)):=by
 unfold cM fZ
 rw [if_neg (by omega)]
 rw [CM _ (by omega),RP]
 simp only [QZ,decide_eq_true_eq]
 omega
set_option maxHeartbeats 8000000 in
theorem wW (u:Int) (L:List Gn) (lv:Value) (w:World) (hl:Reads w lv L.length (L.flatMap bn)):ay Tryz.prog 64 [.int .i64 u,lv] w (.tuple #[.int .i64 (jS u L).1,.int .i64 (jS u L).2]):=by
 obtain ⟨Al,cl,rfl,hl1,hl2,hl3⟩:=hl
 refine aq Tryz.func64 rfl Tryz.ntmps64 rfl ?_
 unfold jS
 by_cases h1:u<0∨64<u∨u=0
 ·
  rw [if_pos h1]
  repeat' (first|refine sT ?_|refine sM fun _=> ?_|(refine sC ?_ ?_<;>intro hb<;>try omega)|fail)
  all_goals first|(exfalso;omega)|((refine rT2 ?_);rfl)
 rw [if_neg h1]
 by_cases h64:64<L.length
 ·
  rw [if_pos h64]
  repeat' (first|refine sT ?_|refine sM fun _=> ?_|(refine sC ?_ ?_<;>intro hb<;>try omega)|fail)
  all_goals first|(exfalso;omega)|((refine rT2 ?_);rfl)
 rw [if_neg h64]
 obtain ⟨ac,hac⟩: ∃ ac,fU u L 0=ac:=⟨_,rfl⟩
 rw [hac]
 repeat' (first|refine sT ?_|refine sS ?_|refine sM fun _=> ?_|(refine sC ?_ ?_<;>intro hb<;>try omega)|fail)
 all_goals try (exfalso;omega)
 refine ax [0,1] rfl (fun i:Nat=> [(6,.int .i64 (i:Int))]) (fun _=> []) (fun i=>i≤L.length∧ac=fU u (L.drop i) (i:Int)) (fun i=>L.length - i) 0 ⟨by omega,hac.symm⟩ sB mS ?_
 rintro i ⟨hi,hrec⟩
 by_cases hlt:i<L.length
 ·
  obtain ⟨gl,ol,rfl,hrl⟩:=hl3 (by omega)
  have he1:=hrl.elem cX i hlt
  rw [QY hlt,fU,EA,qy h1] at hrec
  generalize L[i]=r at he1 hrec
  have hR:=fun w=>j9 r.rect w
  have hW:=fun w=>js r.to u w
  generalize aD r.rect=ro at hR hrec
  generalize (cM u).1=sa at hW hrec
  obtain ⟨wi,hwi⟩: ∃ wi,decide (r.to &&& ~~~sa=0#64)=wi:=⟨_,rfl⟩
  rw [hwi] at hW hrec
  cases ro with
  |false=>
   rw [if_pos rfl] at hrec
   repeat' (first|(apply ak;exact rfl;apply aj (j:=i);exact rfl;exact rfl;omega)|(apply aa;exact rfl;exact rfl;(intro w hm;exact hR w))|refine sT ?_|refine sS ?_|refine sO ?_|refine sM fun _=> ?_|(refine sC ?_ ?_<;>intro hb<;>try omega)|fail)
   all_goals first|(exfalso;omega)|((refine rT2 ?_);rw [hrec];done)
  |true=>
   rw [if_neg (by decide)] at hrec
   by_cases hg:1≤r.fns∧r.fns≤31∧wi=true∧0≤r.by_∧r.by_<u
   ·
    obtain ⟨g1,g2,rfl,g4,g5⟩:=hg
    rw [decide_eq_true g1,decide_eq_true g2,decide_eq_true g4,decide_eq_true g5] at hrec
    rw [if_neg (by decide)] at hrec
    repeat' (first|(apply ak;exact rfl;apply aj (j:=i);exact rfl;exact rfl;omega)|(apply aa;exact rfl;exact rfl;(intro w hm;exact hR w))|(apply aa;exact rfl;exact rfl;(intro w hm;exact hW w))|refine sT ?_|refine sS ?_|refine sN ?_|refine sO ?_|refine sM fun _=> ?_|(refine sC ?_ ?_<;>intro hb<;>try omega)|fail)
    all_goals first
     |(exfalso;omega)
     |(refine ⟨i+1,⟨hlt,by rw [hrec];rfl⟩,by omega,by exact sB,by exact sB,by exact mS⟩;done)
   ·
    rw [if_pos (by rw [← TW,QZ,QZ,QZ,QZ,decide_eq_true_eq,decide_eq_true_eq,decide_eq_true_eq,decide_eq_true_eq];rintro ⟨⟨⟨a1,a2⟩,a3⟩,a4,a5⟩;exact hg ⟨a1,a2,a3,a4,a5⟩)] at hrec
    cases wi
    all_goals
     repeat' (first|(apply ak;exact rfl;apply aj (j:=i);exact rfl;exact rfl;omega)|(apply aa;exact rfl;exact rfl;(intro w hm;exact hR w))|(apply aa;exact rfl;exact rfl;(intro w hm;exact hW w))|refine sT ?_|refine sS ?_|refine sN ?_|refine sO ?_|refine sM fun _=> ?_|(refine sC ?_ ?_<;>intro hb<;>try omega)|fail)
    all_goals first
     |(exfalso;omega)
     |(exfalso;exact hg ⟨by omega,by omega,rfl,by omega,by omega⟩)
     |((refine rT2 ?_);rw [hrec];done)
 ·
  have e:i=L.length:=by omega
  subst e
  rw [RE,fU] at hrec
  rw [hrec]
  repeat' (first|refine sT ?_|refine sS ?_|refine sM fun _=> ?_|(refine sC ?_ ?_<;>intro hb<;>try omega)|fail)
  all_goals first|(exfalso;omega)|((refine rT2 ?_);rfl)
theorem KA (L:List Et):(∃ e,e≠0∧vv L=(none,e))∨ ∃ G,vv L=(some G,0)∧GrOk G∧G.length≤L.length:=by
 rw [F8]
 split
 ·
  rename_i h;exact .inl ⟨_,h,rfl⟩
 ·
  refine .inr ⟨_,rfl,Cb L K5,?_⟩
  have:=xS L []
  rw [Tp] at this
  omega
end Go.SL

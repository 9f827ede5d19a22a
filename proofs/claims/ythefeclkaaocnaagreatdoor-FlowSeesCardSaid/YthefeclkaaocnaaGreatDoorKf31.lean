/-
  Lemmas and walks, put together: Hk Hl Sl34 Hm Sl35 Hn Ia Ho Pl4 Pl5 Pl6.
-/
import Derived.Test.YthefeclkaaocnaaGreatDoorKf30
set_option linter.unusedSimpArgs false
set_option linter.unusedVariables false
set_option maxRecDepth 20000
namespace Go.SL
open Go Go.Proofs
attribute [local irreducible] W WL WQ WG WA WX WLI WR WT WC WE VOp RW thn blk bF scp ba aZ bC FnAt FnIn FnP ceP
--
def iT (r:Rct) (L:List Rl):Int:=if aH r=false then 3 else (dw 64 L).2
theorem LG (r:Rct) (L:List Rl) (lv:Value) (w:World) (hl:Reads w lv L.length (L.flatMap bM)):aD Tryz.prog 81 [.agg (aN r).toArray,lv] w (.int .i64 (iT r L)):=by
 refine ax Tryz.func81 rfl Tryz.ntmps81 rfl ?_
 have h1:=fun w=>ko r w
 have h2:=fun (w' :World) (H:List Blk) (hm:Mem w w' H)=>lR 64 L lv w' (hl.of_w0 hm)
 unfold iT
 repeat' (first|(apply aa;exact rfl;exact rfl;(intro w hm;exact h1 w))|(apply aa (f:=51);exact rfl;exact rfl;(intro w' hm;exact h2 w' _ hm))|refine sT ?_|refine sM fun _=> ?_|(refine sC ?_ ?_<;>intro hb<;>try omega)|fail)
 all_goals first
  |(exfalso;omega)
  |((refine rT1 ?_);rw [if_pos (ui hb)];done)
  |((refine rT1 ?_);rw [if_neg (kR hb)];done)
  |trace_state
def ovE (r:Rct) (L:List Rl):(BitVec 64 × BitVec 64 × BitVec 64) × Int:=
 if iT r L≠0 then ((0#64,0#64,0#64),iT r L) else ((lW (fun x=>x.read) r L,lW (fun x=>x.write) r L,lW (fun x=>x.own) r L),0)
theorem LF {r:Rct} {L:List Rl} (h: ¬ iT r L≠0):aH r=true∧L≠ []∧L.length≤64:=by
 unfold iT at h
 split at h
 ·
  exact absurd (by decide) h
 ·
  rename_i hr
  refine ⟨by simpa using hr,?_⟩
  unfold dw at h
  split at h
  ·
   exact absurd (by decide) h
  ·
   rename_i h1
   have hn:L≠ []:=fun e=>h1 (.inr (.inr (.inr e)))
   split at h
   ·
    exact absurd (by decide) h
   ·
    exact ⟨hn,by omega⟩
def byN (f:Rl→BitVec 64) (L:List Rl) (p:Pz):BitVec 64:=(L[p.a]?.map f).getD 0#64
theorem Ce (f:Rl→BitVec 64) (r:Rct) (L:List Rl):lW f r L=wq ((eK r L []).map (byN f L)):=rfl
set_option maxHeartbeats 16000000 in
theorem wL (r:Rct) (L:List Rl) (lv:Value) (w:World) (hl:Reads w lv L.length (L.flatMap bM)):
  aD Tryz.prog 30 [.agg (aN r).toArray,lv] w (.tuple #[.agg #[vS (ovE r L).1.1,vS (ovE r L).1.2.1,vS (ovE r L).1.2.2],.int .i64 (ovE r L).2]):=by
 refine ax Tryz.func30 rfl Tryz.ntmps30 rfl ?_
 have hck:=fun (w' :World) (H:List Blk) (hm:Mem w w' H)=>LG r L lv w' (hl.of_w0 hm)
 unfold ovE
 by_cases hc:iT r L≠0
 ·
  rw [if_pos hc]
  repeat' (first|(apply aa (f:=81);exact rfl;exact rfl;(intro w' hm;exact hck w' _ hm))|refine sT ?_|refine sT2 ?_|refine sM fun _=> ?_|(refine sC ?_ ?_<;>intro hb<;>try omega)|fail)
  all_goals first
   |(exfalso;omega)
   |((refine jU ?_);rfl)
   |trace_state
 rw [if_neg hc]
 obtain ⟨hr,hne,hlen⟩:=LF hc
 have hP:=fun (w' :World) (H:List Blk) (hm:Mem w w' H)=>M6 r hr L [] lv (.slice none 0 0) w' (hl.of_w0 hm) (qd w') (by omega) (by simp)
 have hpa: ∀ p∈eK r L [],p.a<L.length:=fun p hp=>by
  have h1:p.a∈(eK r L []).map (·.a):=Ul.2 ⟨p,hp,rfl⟩
  obtain ⟨y,x,_,h2⟩:=Cc.1 h1
  rw [h2]
  exact J6 hne
 have hpl:(eK r L []).length≤1000000:=by
  have h1:=nu (A:=L) (B:= []) (xs:=cX r.c1 r.c2 (bg r L++bg r [])) (cX r.r1 r.r2 (bf r L++bf r []))
  have h2:=jw r.c1 r.c2 (bg r L++bg r [])
  have h3:=jw r.r1 r.r2 (bf r L++bf r [])
  have h4:=fG r L
  have h5:=fG r []
  have h6:=fw r L
  have h7:=fw r []
  rw [TG] at h2 h3
  rw [U2] at h5 h7
  exact Uo h1 (Uo (Nat.mul_le_mul (show _≤801 by omega) (show _≤801 by omega)) (by decide))
 rw [Ce,Ce,Ce]
 have hc0:iT r L=0:=by omega
 rw [hc0] at hck
 generalize eK r L []=PZ at hP hpa hpl ⊢
 refine aW 34 1 ?_
 refine aW 34 1 ?_
 refine aW 34 1 ?_
 repeat' (first|(apply aa (f:=81);exact rfl;exact rfl;(intro w' hm;exact hck w' _ hm))|(apply aF (f:=82);exact rfl;exact rfl;(intro w' hm;exact hP w' _ hm);rintro _ _ ⟨Ap,cp,rfl,rfl⟩)|refine sT ?_|refine sS ?_|refine sT2 ?_|refine sM fun _=> ?_|(refine sC ?_ ?_<;>intro hb<;>try omega)|fail)
 all_goals try (exfalso;omega)
 rename_i g2 g4
 refine ay [1,4,22,23] rfl (fun y:Nat × (Option Nat × Nat) × (Option Nat × Nat) × (Option Nat × Nat)=> [(7,sl y.2.1.1 y.1 y.2.1.2),(8,sl y.2.2.1.1 y.1 y.2.2.1.2),(9,sl y.2.2.2.1 y.1 y.2.2.2.2),(24,.int .i64 (y.1:Int))]) (fun y=> .own y.2.1.1 34 1 y.1 y.2.1.2 (((PZ.take y.1).map (byN (fun x=>x.read) L)).map vS):: .own y.2.2.1.1 34 1 y.1 y.2.2.1.2 (((PZ.take y.1).map (byN (fun x=>x.write) L)).map vS):: .own y.2.2.2.1 34 1 y.1 y.2.2.2.2 (((PZ.take y.1).map (byN (fun x=>x.own) L)).map vS):: .own Ap 145 6 PZ.length cp (PZ.flatMap dK):: .box g4 36 [vS 0#64,vS 0#64,vS 0#64]:: []) (fun y=>y.1≤PZ.length) (fun y=>PZ.length - y.1) (0,(none,0),(none,0),(none,0)) (TW _) sB mS ?_
 rintro ⟨i,⟨A7,c7⟩,⟨A8,c8⟩,⟨A9,c9⟩⟩ hi
 dsimp only at hi ⊢
 by_cases hlt:i<PZ.length
 ·
  refine bK (A:=Ap) pK (by omega) fun gp hAp=> ?_
  subst hAp
  have hrd:((PZ.flatMap dK).drop (0+i*6)).take 6=dK PZ[i]:=by rw [Uc];exact cf dA PZ i hlt
  have hpi:=hpa _ (UA hlt)
  have hsr: ∀ f:Rl→BitVec 64,((PZ.take (i+1)).map (byN f L)).map vS=((PZ.take i).map (byN f L)).map vS++ [vS (f (L[PZ[i].a]'hpi))]:=fun f=>by
   rw [TP hlt,UG,UG]
   simp [byN,hpi]
  generalize PZ[i]=p at hrd hpi hsr
  have hl' :=hl
  obtain ⟨Al,cl,hlv,hl1,hl2,hl3⟩:=hl'
  subst hlv
  obtain ⟨gl,ol,rfl,hrl⟩:=hl3 (by omega)
  obtain ⟨_,_,_,_,hrr⟩:=Rl.ro (hrl.elem dz p.a hpi)
  generalize L[p.a]'hpi=x at hrr hsr
  repeat' (first|(apply ak (d:=26);exact rfl;apply aj (j:=i);exact rfl;exact rfl;exact hlt)|(apply ak (d:=27);exact rfl;apply aA (ys:=dK p);exact rfl;exact pK;exact hrd;exact rfl)|(apply ak (d:=32);exact rfl;apply aj (j:=p.a);exact rfl;exact rfl;exact hpi)|refine sT ?_|refine sS ?_|refine sT2 ?_|refine sN ?_|refine sO ?_|refine sM fun _=> ?_|(refine sC ?_ ?_<;>intro hb<;>try omega)|fail)
  all_goals try (exfalso;omega)
  rename_i g11 g12
  refine ll (id:=9) [3,4,8,9,13,14] [.box g12 36 [vS x.read,vS x.write,vS x.own]] 18 rfl rfl mS ?_
  repeat' (first|(apply bY (i:=0);(iterate 4 exact rfl);decide+kernel;decide+kernel;decide+kernel;(exact vC))|(apply bY (i:=1);(iterate 4 exact rfl);decide+kernel;decide+kernel;decide+kernel;(exact vC))|(apply bY (i:=2);(iterate 4 exact rfl);decide+kernel;decide+kernel;decide+kernel;(exact vC))|(apply bY (i:=5);(iterate 4 exact rfl);decide+kernel;decide+kernel;decide+kernel;(exact vC))|(apply bY (i:=6);(iterate 4 exact rfl);decide+kernel;decide+kernel;decide+kernel;(exact vC))|(apply bY (i:=7);(iterate 4 exact rfl);decide+kernel;decide+kernel;decide+kernel;(exact vC))|(apply bY (i:=10);(iterate 4 exact rfl);decide+kernel;decide+kernel;decide+kernel;(exact vC))|(apply bY (i:=11);(iterate 4 exact rfl);decide+kernel;decide+kernel;decide+kernel;(exact vC))|(apply bY (i:=12);(iterate 4 exact rfl);decide+kernel;decide+kernel;decide+kernel;(exact vC))|(apply bY (i:=15);(iterate 4 exact rfl);decide+kernel;decide+kernel;decide+kernel;(apply fX;exact rfl))|(apply bY (i:=16);(iterate 4 exact rfl);decide+kernel;decide+kernel;decide+kernel;(apply fX;exact rfl))|(apply bY (i:=17);(iterate 4 exact rfl);decide+kernel;decide+kernel;decide+kernel;(apply fX;exact rfl))|(apply Dp (i:=3) (j:=8) (k:=13);(iterate 9 exact rfl);decide+kernel)|(apply Dp (i:=4) (j:=8) (k:=13);(iterate 9 exact rfl);decide+kernel)|(apply iq (i:=3) (j:=13);(iterate 6 exact rfl);decide+kernel)|(apply iq (i:=3) (j:=8);(iterate 6 exact rfl);decide+kernel)|(apply iq (i:=8) (j:=13);(iterate 6 exact rfl);decide+kernel)|(apply iq (i:=4) (j:=13);(iterate 6 exact rfl);decide+kernel)|(apply iq (i:=4) (j:=8);(iterate 6 exact rfl);decide+kernel)|(apply iq (i:=9) (j:=13);(iterate 6 exact rfl);decide+kernel)|(apply cG (i:=3);(iterate 3 exact rfl);decide+kernel)|(apply cG (i:=4);(iterate 3 exact rfl);decide+kernel)|(apply cG (i:=8);(iterate 3 exact rfl);decide+kernel)|(apply cG (i:=9);(iterate 3 exact rfl);decide+kernel)|(apply cG (i:=13);(iterate 3 exact rfl);decide+kernel)|(apply cG (i:=14);(iterate 3 exact rfl);decide+kernel)|(apply bi (d:=39) (A:=A7) (m:=1);(iterate 3 exact rfl);exact pK;(intro w hm;exact hm.cells_own pK);exact rfl;(simp [Value.oneCell',sl]);omega;(simp only [maxLen];omega);(intro B7 b7 hB7))|(apply bi (d:=44) (A:=A8) (m:=1);(iterate 3 exact rfl);exact pK;(intro w hm;exact hm.cells_own pK);exact rfl;(simp [Value.oneCell',sl]);omega;(simp only [maxLen];omega);(intro B8 b8 hB8))|(apply bi (d:=49) (A:=A9) (m:=1);(iterate 3 exact rfl);exact pK;(intro w hm;exact hm.cells_own pK);exact rfl;(simp [Value.oneCell',sl]);omega;(simp only [maxLen];omega);(intro B9 b9 hB9))|(apply lj;decide+kernel)|(apply CN;(focus (exact mS;done)))|refine sT ?_|refine sS ?_|refine sT2 ?_|refine sN ?_|refine sM fun _=> ?_|(refine sC ?_ ?_<;>intro hb<;>try omega)|fail)
  all_goals first
   |(exfalso;omega)
   |(refine ⟨(i+1,(B7,b7),(B8,b8),(B9,b9)),hlt,by dsimp only;omega,by exact sB,by exact sB,?_⟩;dsimp only;rw [hsr,hsr,hsr];exact mS)
   |trace_state
 ·
  have e:i=PZ.length:=by omega
  subst e
  rw [Ux]
  have hM:=fun (f:Rl→BitVec 64) (w' :World) (lv:Value) (h:Reads w' lv PZ.length ((PZ.map (byN f L)).map vS))=>LU (PZ.map (byN f L)) lv w' (by rw [Uf];exact h)
  repeat' (first|(apply aa (d:=52);exact rfl;exact rfl;(intro w' hm;exact hM (fun x=>x.read) w' _ (Reads.of_own (A:=A7) hm pK)))|(apply aa (d:=54);exact rfl;exact rfl;(intro w' hm;exact hM (fun x=>x.write) w' _ (Reads.of_own (A:=A8) hm pK)))|(apply aa (d:=56);exact rfl;exact rfl;(intro w' hm;exact hM (fun x=>x.own) w' _ (Reads.of_own (A:=A9) hm pK)))|refine sT ?_|refine sS ?_|refine sT2 ?_|refine sM fun _=> ?_|(refine sC ?_ ?_<;>intro hb<;>try omega)|fail)
  all_goals first
   |(exfalso;omega)
   |((refine jU ?_);rfl)
   |trace_state
set_option maxHeartbeats 4000000 in
theorem PQ (a:Rf) (L:List Rl) (lv:Value) (w:World) (hl:Reads w lv L.length (L.flatMap bM)) (hb:L.length≤1000000) (hpos:0<L.length):aD Tryz.prog 135 [.agg (aC a).toArray,lv] w (.int .i64 (gh L a:Int)):=by
 obtain ⟨Al,cl,rfl,hl1,hl2,hl3⟩:=hl
 refine ax Tryz.func135 rfl Tryz.ntmps135 rfl ?_
 repeat' (first|refine sT ?_|refine sS ?_|refine sN ?_|refine sM fun _=> ?_|(refine sC ?_ ?_<;>intro hb<;>try omega)|fail)
 rename_i g2
 obtain ⟨gl,ol,rfl,hrl⟩:=hl3 (by omega)
 refine ay [1,2] rfl (fun i:Nat=> [(5,.int .i64 (i:Int))]) (fun _=> [.box g2 51 (aC a)]) (fun i=>i<L.length∧gh L a=oo a L (i+1)) (fun i=>i) (L.length - 1) ⟨by omega,by rw [Wv (by omega)];rfl⟩ sB mS ?_
 rintro i ⟨hi,hrec⟩
 rw [oo,TJ hi] at hrec
 simp only [UH,VI] at hrec
 have hIn:=fun w=>IU L[i].rect a w
 obtain ⟨h0a,_⟩:=Rl.ro (hrl.elem dz i hi)
 obtain ⟨c,hcc⟩: ∃ c,cj L[i].rect a=c:=⟨_,rfl⟩
 simp only [hcc] at hIn hrec
 clear hcc
 generalize L[i].rect=x at h0a hIn
 by_cases hi0:i=0
 ·
  subst hi0
  have e:gh L a=0:=by rw [hrec];cases c<;>rfl
  rw [e]
  repeat' (first|refine sT ?_|refine sS ?_|refine sM fun _=> ?_|(refine sC ?_ ?_<;>intro hb<;>try omega)|fail)
  all_goals first|(exfalso;omega)|((refine rT1 ?_);rfl)|trace_state
 ·
  cases c
  ·
   rw [if_neg (by decide)] at hrec
   repeat' (first|(apply aO;exact rfl;apply aj (j:=i);exact rfl;exact rfl;exact hi)|(apply cY (f:=59);exact rfl;exact rfl;(intro w' _;exact hIn w'))|refine sT ?_|refine sS ?_|refine sQ ?_|refine sN ?_|refine sNQ ?_|refine sO ?_|refine sOQ ?_|refine sD ?_|refine sM fun _=> ?_|(refine sC ?_ ?_<;>intro hb<;>try omega)|(refine sCQ ?_ ?_<;>intro hb<;>try omega)|fail)
   all_goals first
    |(exfalso;omega)
    |(refine ⟨i - 1,⟨by omega,by rw [Wv (by omega)];exact hrec⟩,by omega,by exact sB,by exact sB,by exact mS⟩;done)
    |trace_state
  ·
   rw [if_pos rfl] at hrec
   rw [hrec]
   repeat' (first|(apply aO;exact rfl;apply aj (j:=i);exact rfl;exact rfl;exact hi)|(apply cY (f:=59);exact rfl;exact rfl;(intro w' _;exact hIn w'))|refine sT ?_|refine sS ?_|refine sQ ?_|refine sN ?_|refine sNQ ?_|refine sO ?_|refine sOQ ?_|refine sD ?_|refine sM fun _=> ?_|(refine sC ?_ ?_<;>intro hb<;>try omega)|(refine sCQ ?_ ?_<;>intro hb<;>try omega)|fail)
   all_goals first|(exfalso;omega)|((refine rT1 ?_);rfl)|trace_state
def rU (a:Rf) (L:List Rl):Int × Int:=if a.valid=false then (0,3) else if (dw 64 L).2≠0 then (0,(dw 64 L).2) else ((gh L a:Int),0)
theorem CY {L:List Rl} (h: ¬ (dw 64 L).2≠0):0<L.length∧L.length≤64:=by
 unfold dw at h
 split at h
 ·
  exact absurd (by decide) h
 ·
  rename_i h1
  have hn:L≠ []:=fun e=>h1 (.inr (.inr (.inr e)))
  split at h
  ·
   exact absurd (by decide) h
  ·
   exact ⟨UX.2 hn,by omega⟩
theorem IJ (a:Rf) (L:List Rl) (lv:Value) (w:World) (hl:Reads w lv L.length (L.flatMap bM)):aD Tryz.prog 84 [.agg (aC a).toArray,lv] w (.tuple #[.int .i64 (rU a L).1,.int .i64 (rU a L).2]):=by
 refine ax Tryz.func84 rfl Tryz.ntmps84 rfl ?_
 have h1:=fun w=>iJ a.col a.row w
 have h2:=fun (w' :World) (H:List Blk) (hm:Mem w w' H)=>lR 64 L lv w' (hl.of_w0 hm)
 have h3:=fun (hp:0<L.length) (hb:L.length≤64) (w' :World) (H:List Blk) (hm:Mem w w' H)=>PQ a L lv w' (hl.of_w0 hm) (by omega) hp
 have hv:a.valid=valid a.col a.row:=rfl
 unfold rU
 rw [hv]
 generalize valid a.col a.row=b at h1
 by_cases hc:(dw 64 L).2≠0
 ·
  rw [if_pos hc]
  cases b
  all_goals
   repeat' (first|(apply aa;exact rfl;exact rfl;(intro w hm;exact h1 w))|(apply aa (f:=51);exact rfl;exact rfl;(intro w' hm;exact h2 w' _ hm))|refine sT ?_|refine sM fun _=> ?_|(refine sC ?_ ?_<;>intro hb<;>try omega)|fail)
  all_goals first|(exfalso;omega)|((refine rT2 ?_);rfl)|trace_state
 ·
  obtain ⟨hp,hb⟩:=CY hc
  have h3:=h3 hp hb
  rw [if_neg hc]
  have hc0:(dw 64 L).2=0:=by omega
  rw [hc0] at h2
  cases b
  all_goals
   repeat' (first|(apply aa;exact rfl;exact rfl;(intro w hm;exact h1 w))|(apply aa (f:=51);exact rfl;exact rfl;(intro w' hm;exact h2 w' _ hm))|(apply aa (f:=135);exact rfl;exact rfl;(intro w' hm;exact h3 w' _ hm))|refine sT ?_|refine sM fun _=> ?_|(refine sC ?_ ?_<;>intro hb<;>try omega)|fail)
  all_goals first|(exfalso;omega)|((refine rT2 ?_);rfl)|trace_state
def atR (a:Rf) (L:List Rl):BitVec 64 × BitVec 64 × BitVec 64:=match L[gh L a]? with|some x=>(x.read,x.write,x.own)|none=>(0#64,0#64,0#64)
def atE (a:Rf) (L:List Rl):(BitVec 64 × BitVec 64 × BitVec 64) × Int:=if (rU a L).2≠0 then ((0#64,0#64,0#64),(rU a L).2) else (atR a L,0)
theorem OZ {a:Rf} {L:List Rl} (h: ¬ (rU a L).2≠0):a.valid=true∧(rU a L).1=gh L a∧ ∃ h:gh L a<L.length,atR a L=((L[gh L a]'h).read,(L[gh L a]'h).write,(L[gh L a]'h).own):=by
 unfold rU at h ⊢
 split at h
 ·
  exact absurd (by decide) h
 ·
  rename_i hv
  split at h
  ·
   rename_i h2;exact absurd h2 h
  ·
   rename_i h2
   have hp:=(CY h2).1
   have hlt:=NJ (a:=a) (L:=L) (UX.1 hp)
   refine ⟨by simpa using hv,?_,hlt,?_⟩
   ·
    simp only [hv,h2,Ur,if_false];rfl
   ·
    unfold atR;rw [TJ hlt]
set_option maxHeartbeats 1000000 in
theorem wN (a:Rf) (L:List Rl) (lv:Value) (w:World) (hl:Reads w lv L.length (L.flatMap bM)):aD Tryz.prog 31 [.agg (aC a).toArray,lv] w (.tuple #[.agg #[vS (atE a L).1.1,vS (atE a L).1.2.1,vS (atE a L).1.2.2],.int .i64 (atE a L).2]):=by
 refine ax Tryz.func31 rfl Tryz.ntmps31 rfl ?_
 have h1:=fun (w' :World) (H:List Blk) (hm:Mem w w' H)=>IJ a L lv w' (hl.of_w0 hm)
 unfold atE
 by_cases hc:(rU a L).2≠0
 ·
  rw [if_pos hc]
  repeat' (first|(apply aa (f:=84);exact rfl;exact rfl;(intro w' hm;exact h1 w' _ hm))|refine sT ?_|refine sM fun _=> ?_|(refine sC ?_ ?_<;>intro hb<;>try omega)|fail)
  all_goals first
   |(exfalso;omega)
   |((refine jU ?_);rfl)
   |trace_state
 ·
  rw [if_neg hc]
  obtain ⟨_,h2,hlt,h3⟩:=OZ hc
  have hc0:(rU a L).2=0:=by omega
  rw [h2,hc0] at h1
  rw [h3]
  obtain ⟨Al,cl,rfl,hl1,hl2,hl3⟩:=hl
  obtain ⟨gl,ol,rfl,hrl⟩:=hl3 (by omega)
  obtain ⟨_,_,_,_,hrr⟩:=Rl.ro (hrl.elem dz _ hlt)
  generalize L[gh L a]'hlt=x at hrr
  generalize gh L a=i at h1 hlt hrr
  repeat' (first|(apply aa (f:=84);exact rfl;exact rfl;(intro w' hm;exact h1 w' _ hm))|(apply ak (d:=20);exact rfl;apply aj (j:=i);exact rfl;exact rfl;exact hlt)|(apply ak (d:=22);exact rfl;apply aP (xs:= [vS x.read,vS x.write,vS x.own]);exact rfl;exact hrr;exact rfl)|refine sT ?_|refine sN ?_|refine sO ?_|refine sM fun _=> ?_|(refine sC ?_ ?_<;>intro hb<;>try omega)|fail)
  all_goals first
   |(exfalso;omega)
   |((refine jU ?_);rfl)
   |trace_state
end Go.SL
namespace Go.SL
open Go Go.RowKit
section
variable {P:Program} {n:Fr} {w0:World} {Q:ck} {s:aB} {H:List Blk} {l rest:List Oper} {ty:TypeId} {p:String} {af:Array Edge}
theorem l8 {op:Op} {dst:Option Tmp} {j d:Nat} {db:Bool} (hj:gd l j=some d) (hv:look s d=some (.bool db))
  (k:WLI P n w0 l.toArray (⟨dst,op,ty,p,af,none⟩::rest) Q s H):WLI P n w0 l.toArray (⟨dst,op,ty,p,af,some (j,db)⟩::rest) Q s H:=by
 intro a w hs hm
 have h:=k a w hs hm
 have hy:=ij hs hj hv
 unfold wpListIn at h ⊢
 simp only [Region.wanted,if_true] at h
 simp only [Region.wanted,hy,lg,beq_self_eq_true,if_true]
 exact h
theorem pV {op:Op} {dst j d:Nat} {db b:Bool} (hj:gd l j=some d) (hv:look s d=some (.bool b)) (hw:(b==db)=false) (hn:Nat.blt dst n.sz=true)
  (k:WLI P n w0 l.toArray rest Q ((dst,undef)::s) H):WLI P n w0 l.toArray (⟨some dst,op,ty,p,af,some (j,db)⟩::rest) Q s H:=by
 intro a w hs hm
 have hy:=ij hs hj hv
 have:(yielded l.toArray a.tmps j==some db)=false:=by rw [hy];simpa [lg] using hw
 unfold wpListIn
 simp only [Region.wanted,this]
 exact ⟨fun _ _=>trivial,k _ _ (hs.put (UI ▸ hn) _) hm⟩
theorem wQ {op:Op} {dst:Option Tmp} {j d:Nat} {db b:Bool} (_hj:gd l j=some d) (hv:look s d=some (.bool b))
  (k1:b=true→WLI P n w0 l.toArray (⟨dst,op,ty,p,af,some (j,db)⟩::rest) Q ((d,.bool true)::s) H)
  (k2:b=false→WLI P n w0 l.toArray (⟨dst,op,ty,p,af,some (j,db)⟩::rest) Q ((d,.bool false)::s) H):
  WLI P n w0 l.toArray (⟨dst,op,ty,p,af,some (j,db)⟩::rest) Q s H:=by
 intro a w hs hm
 cases b with
 |true=>exact k1 rfl a w (hs.shadow hv) hm
 |false=>exact k2 rfl a w (hs.shadow hv) hm
theorem tP {d:Nat} {f:FuncId} {xs:List Operand} {vs:List Value} {v:Value} {ts:Array TypeId} {ops:Array Oper} [Callable P f] (hnd:qh [⟨some d,.call { callee:= .value (.func f),args:=xs.toArray,argTypes:=ts },ty,p,af,none⟩]=true) (hn:Nat.blt d n.sz=true) (hx:evs s xs=some vs)
  (hF: ∀ w,Mem w0 w H→aD P f vs w v) (k:WLI P n w0 ops rest Q ((d,v)::s) H):
  WLI P n w0 ops (⟨some d,.call { callee:= .value (.func f),args:=xs.toArray,argTypes:=ts },ty,p,af,none⟩::rest) Q s H:=
 L9 hnd (aa hn hx hF (F9 ⟨rfl,k⟩))
end
end Go.SL
namespace Go.SL
open Go Go.Proofs
attribute [local irreducible] W WL WQ WG WA WX WLI WR WT WC WE VOp RW thn blk bF scp ba aZ bC FnAt FnIn FnP ceP gA cP dR
def vw (g:Gn) (L:List Rl):Bool:= !g.rev && v8 (ovE g.rect L).1.2.2 g.by_
theorem PN (g:Gn) (L:List Rl) (lv:Value) (w:World) (hl:Reads w lv L.length (L.flatMap bM)):aD Tryz.prog 146 [.agg (bp g).toArray,lv] w (.bool (vw g L)):=by
 refine ax Tryz.func146 rfl Tryz.ntmps146 rfl ?_
 have h1:=fun (w' :World) (H:List Blk) (hm:Mem w w' H)=>wL g.rect L lv w' (hl.of_w0 hm)
 have h2:=fun w=>FX (ovE g.rect L).1.2.2 g.by_ w
 unfold vw
 generalize (ovE g.rect L).2=e at h1
 generalize (ovE g.rect L).1.1=s1 at h1
 generalize (ovE g.rect L).1.2.1=s2 at h1
 generalize (ovE g.rect L).1.2.2=s3 at h1 h2 ⊢
 generalize v8 s3 g.by_=b at h2
 repeat' (first|(apply aa (f:=30);exact rfl;exact rfl;(intro w' hm;exact h1 w' _ hm))|(apply aa;exact rfl;exact rfl;(intro w hm;exact h2 w))|refine sT ?_|refine sM fun _=> ?_|(refine sC ?_ ?_<;>intro hb<;>try omega)|fail)
 all_goals first
  |(exfalso;omega)
  |((refine rT1 ?_);rw [hb];rfl)
  |trace_state
def xE (fn:Int) (r:Rct) (L:List Rl) (g:Gn):Bool:=decide (g.rect=r) && (o7 g.fns fn && vw g L)
def cJ (fn:Int) (r:Rct) (L:List Rl):List Gn→Nat→List (Nat × Gn)
 | [],_=> []
 |g::G,i=>bif xE fn r L g then (i,g)::cJ fn r L G (i+1) else cJ fn r L G (i+1)
def QH (x:Nat × Gn):List Value:= [.int .i64 (x.1:Int),.agg (bp x.2).toArray]
theorem ve (fn:Int) (r:Rct) (L:List Rl): ∀ (G:List Gn) (i:Nat),(cJ fn r L G i).length≤G.length
 | [],_=>TQ _
 |g::G,i=>by
  have:=ve fn r L G (i+1)
  rw [cJ]
  cases xE fn r L g<;>simp<;>omega
set_option maxHeartbeats 8000000 in
theorem PB (fn:Int) (r:Rct) (L:List Rl) (G:List Gn) (gv lv:Value) (w0:World) (hg:Reads w0 gv G.length (G.flatMap bp)) (hl:Reads w0 lv L.length (L.flatMap bM)) (hn:G.length≤1000000) (gg gr gf gl:Nat):
  Seqs Tryz.prog 144 [.pointer (some ⟨gg,0,none⟩),.pointer (some ⟨gr,0,none⟩),.pointer (some ⟨gf,0,none⟩),.pointer (some ⟨gl,0,none⟩)] w0
   [.box gg 24 [gv],.box gr 33 (aN r),.box gf 5 [.int .u8 fn],.box gl 23 [lv]] (cJ fn r L G 0) QH:=by
 obtain ⟨Ag,cg,rfl,hg1,hg2,hg3⟩:=hg
 intro l I J H0 hy h0
 refine FnIn.msub (H' := [.box gg 24 [.slice Ag G.length cg],.box gr 33 (aN r),.box gf 5 [.int .u8 fn],.box gl 23 [lv]]++H0) ?_ (MSub.appC H0 [] _)
 refine cF Tryz.func144 rfl Tryz.ntmps144 rfl ?_
 repeat' (first|refine sT ?_|refine sS ?_|refine sM fun _=> ?_|(refine sC ?_ ?_<;>intro hb<;>try omega)|fail)
 refine ay [0,1,2,3,4,8,9] rfl (fun y:Nat × List (Nat × Gn) × List Blk=> [(10,.int .i64 (y.1:Int))]) (fun y=> [.box gg 24 [.slice Ag G.length cg],.box gr 33 (aN r),.box gf 5 [.int .u8 fn],.box gl 23 [lv]]++y.2.2) (fun y=>y.1≤G.length∧cJ fn r L G 0=y.2.1++cJ fn r L (G.drop y.1) y.1∧I y.2.1 y.2.2) (fun y=>G.length - y.1) (0,[],H0) ⟨TW _,rfl,h0⟩ sB (by exact MSub.refl _) ?_
 rintro ⟨i,pre,H1⟩ ⟨hi,hus,hI⟩
 dsimp only at hi hus hI ⊢
 simp only [TK,TL]
 by_cases hlt:i<G.length
 ·
  obtain ⟨ga,oa,rfl,hrl⟩:=hg3 (by omega)
  have he:=hrl.elem mT i hlt
  rw [TN hlt,cJ] at hus
  generalize G[i]=g at hus he
  have hN:=fun w=>OH g.fns fn w
  have hL:=fun (w' :World) (H:List Blk) (hm:Mem w0 w' H)=>PN g L lv w' (hl.of_w0 hm)
  unfold xE at hus
  obtain ⟨c1,hc1⟩: ∃ c,decide (g.rect=r)=c:=⟨_,rfl⟩
  rw [hc1] at hus
  generalize o7 g.fns fn=c2 at hN hus
  generalize vw g L=c3 at hL hus
  repeat' (first|(apply je (id:=3))|(apply IZ (d:=18);exact rfl;exact rfl;apply p8 hc1;exact rfl;exact rfl)|(apply l8;exact rfl;exact rfl)|(apply pV;(iterate 4 exact rfl))|(apply wQ<;>first|exact rfl|(intro hb;replace hb:=Tidy.out hb;try (exfalso;omega)))|(apply tP (f:=145);(iterate 3 exact rfl);(intro w' hm;exact hN w'))|(apply tP (f:=146);(iterate 3 exact rfl);(intro w' hm;exact hL w' _ hm))|refine sT ?_|refine sS ?_|refine sI ?_|refine sN ?_|refine sO ?_|refine sM fun _=> ?_|(refine sC ?_ ?_<;>intro hb<;>try omega)|fail)
  ·
   have hus2:cJ fn r L G 0=pre++(i,g)::cJ fn r L (G.drop (i+1)) (i+1):=by rw [hus];simp [*]
   rename_i g7 _ _
   (with_reducible apply il)
   ·
    exact rfl
   ·
    exact rfl
   ·
    exact rfl
   ·
    exact MSub.appC [.box g7 56 (bp g)] [.box gg 24 [.slice (some ⟨ga,oa,none⟩) G.length cg],.box gr 33 (aN r),.box gf 5 [.int .u8 fn],.box gl 23 [lv]] H1
   ·
    exact fun w hm=>hy pre (i,g) _ hus2 H1 _ hI w hm
   intro bb H3 hq
   cases bb
   ·
    repeat' (first|(apply l8;exact rfl;exact rfl)|(apply pV;(iterate 4 exact rfl))|refine sT ?_|refine sS ?_|refine sI ?_|refine sM fun _=> ?_|(refine sC ?_ ?_<;>intro hb<;>try omega)|fail)
    exact fL eIO rfl (MSub.appE [.box g7 56 (bp g)] [.box gg 24 [.slice (some ⟨ga,oa,none⟩) G.length cg],.box gr 33 (aN r),.box gf 5 [.int .u8 fn],.box gl 23 [lv]] H3) ⟨H3,.inr ⟨_,hq⟩,MSub.refl _⟩
   ·
    repeat' (first|(apply l8;exact rfl;exact rfl)|(apply pV;(iterate 4 exact rfl))|refine sT ?_|refine sS ?_|refine sI ?_|refine sN ?_|refine sM fun _=> ?_|(refine sC ?_ ?_<;>intro hb<;>try omega)|fail)
    refine ⟨(i+1,_,H3),⟨hlt,hus2.trans (by rw [List.append_assoc];rfl),hq⟩,(by dsimp only;omega),sB,sB,?_⟩
    dsimp only
    exact MSub.trans (MSub.drop .hd (MSub.refl _)) (MSub.appD [.box g7 56 (bp g)] [.box gg 24 [.slice (some ⟨ga,oa,none⟩) G.length cg],.box gr 33 (aN r),.box gf 5 [.int .u8 fn],.box gl 23 [lv]] H3)
  all_goals
   refine ⟨(i+1,pre,H1),⟨hlt,by rw [hus];simp [*],hI⟩,(by dsimp only;omega),sB,sB,?_⟩
   exact MSub.drop .hd (MSub.refl _)
 ·
  have e:i=G.length:=by omega
  subst e
  rw [UB,cJ,TR] at hus
  repeat' (first|refine sT ?_|refine sS ?_|refine sM fun _=> ?_|(refine sC ?_ ?_<;>intro hb<;>try omega)|fail)
  exact fL eIO rfl (.refl _) ⟨H1,.inl (hus ▸ hI),MSub.appS [.box gg 24 [.slice Ag G.length cg],.box gr 33 (aN r),.box gf 5 [.int .u8 fn],.box gl 23 [lv]] H1⟩
end Go.SL
namespace Go.SL
open Go Go.RowKit
section
variable {P:Program} {n:Fr} {w0:World} {s:aB} {H:List Blk}
theorem MW {fn:Func} {R:Value→List Blk→Prop} {e:Exit} {t u q T U T' U' g h:Nat} {v x y:Value} (he:e= .ret∨e= .normal) (hr:fn.results= #[.cell t T,.cell u U,.tmp q]) [One P T] [One P U] (ht:look s t=some (.pointer (some ⟨g,0,none⟩))) (hi:In (.box g T' [v]) H)
  (hu:look s u=some (.pointer (some ⟨h,0,none⟩))) (hi' :In (.box h U' [x]) H) (hq:look s q=some y) {H' :List Blk} (hs:MSub H' H) (hR:R (.tuple #[v,x,y]) H'):ba P fn n w0 R e s H:=
 ⟨he,_,H',hs,fun a w hst hm=>by
  have h1:=mC (P:=P) (T:=T) hst hm ht hi
  have h2:=mC (P:=P) (T:=U) hst hm hu hi'
  have h3:=hst.has q _ hq
  simp only [results,hr]
  simp only [VX,Uu,Uw,Sem.run_bind,Sem.run_map] at h1 h2 ⊢
  simp only [h1,h2,Result.andThen_ok,Sem.run_pure]
  simp only [Uz,h3,VI]
  rfl,hR⟩
end
end Go.SL
namespace Go.SL
open Go Go.Proofs
attribute [local irreducible] W WL WQ WG WA WX WLI WR WT WC WE VOp RW thn blk bF scp ba aZ bC FnAt FnIn FnP ceP gA cP dR
def orS (l:List (BitVec 64)):BitVec 64:=l.foldl (· ||| ·) 0#64
theorem Nk {l:List (BitVec 64)} {x:BitVec 64}:orS (l++ [x])=orS l|||x:=by unfold orS;rw [U8];rfl
def dO (fn:Int) (r:Rct) (L:List Rl) (G:List Gn):BitVec 64 × List Nat × Int:=
 if fn<46∨50<fn then (0#64,[],2) else if dY r≠0 then (0#64,[],3) else if (dw 64 L).2≠0 then (0#64,[],(dw 64 L).2) else if (gQ 64 G).2≠0 then (0#64,[],(gQ 64 G).2)
 else (orS ((cJ fn r L G 0).map fun x=>x.2.to),(cJ fn r L G 0).map fun x=>x.1,0)
theorem BQ (fn:Int) (r:Rct) (lv gv:Value) (w:World) {m1 m2:Nat} {x1 x2:List Value} (hl:Reads w lv m1 x1) (hg:Reads w gv m2 x2):FnAt Tryz.prog 96 [.int .u8 fn,.agg (aN r).toArray,lv,gv] w fun v H=> ∃ gg gr gf gl,v= .func (.func 144) #[] #[.pointer (some ⟨gg,0,none⟩),.pointer (some ⟨gr,0,none⟩),.pointer (some ⟨gf,0,none⟩),.pointer (some ⟨gl,0,none⟩)]∧H= [.box gg 24 [gv],.box gr 33 (aN r),.box gf 5 [.int .u8 fn],.box gl 23 [lv]]:=by
 obtain ⟨Al,cl,rfl,_⟩:=hl
 obtain ⟨Ag,cg,rfl,_⟩:=hg
 refine ax Tryz.func96 rfl Tryz.ntmps96 rfl ?_
 repeat' (first|refine sT ?_|refine sM fun _=> ?_|(refine sC ?_ ?_<;>intro hb<;>try omega)|fail)
 rename_i gf gr gl gg
 exact cA eIO rfl rfl (H' := [.box gg 24 [_],.box gr 33 (aN r),.box gf 5 [.int .u8 fn],.box gl 23 [_]]) mS ⟨gg,gr,gf,gl,rfl,rfl⟩
set_option maxHeartbeats 8000000 in
theorem C9 (fn:Int) (r:Rct) (L:List Rl) (G:List Gn) (lv gv:Value) (w:World) (hl:Reads w lv L.length (L.flatMap bM)) (hg:Reads w gv G.length (G.flatMap bp)) (hn:G.length≤1000000):
    FnAt Tryz.prog 44 [.int .u8 fn,.agg (aN r).toArray,lv,gv] w fun v H=> ∃ A cap,v= .tuple #[vS (dO fn r L G).1,sl A (dO fn r L G).2.1.length cap,.int .i64 (dO fn r L G).2.2]∧H= [.own A 3 1 (dO fn r L G).2.1.length cap (fq (dO fn r L G).2.1)]:=by
  refine pL Tryz.func44 rfl Tryz.ntmps44 (by rfl) ?_
  have h1:=fun w=>ko r w
  have h2:=fun (w' :World) (H:List Blk) (hm:Mem w w' H)=>lR 64 L lv w' (hl.of_w0 hm)
  have h3:=fun (w' :World) (H:List Blk) (hm:Mem w w' H)=>vG 64 G gv w' (hg.of_w0 hm)
  have h4:=fun (w' :World) (H:List Blk) (hm:Mem w w' H)=>BQ fn r lv gv w' (hl.of_w0 hm) (hg.of_w0 hm)
  have h5:=fun gg gr gf gl=>PB fn r L G gv lv w hg hl hn gg gr gf gl
  have hrl:=ve fn r L G 0
  unfold dO
  generalize dY r=e1 at h1
  generalize (dw 64 L).2=e2 at h2
  generalize (gQ 64 G).2=e3 at h3
  generalize cJ fn r L G 0=us at h5 hrl
  refine oz ?_
  refine aW 3 1 ?_
  repeat' (first|(apply aa;exact rfl;exact rfl;(intro w hm;exact h1 w))|(apply aa (f:=51);exact rfl;exact rfl;(intro w' hm;exact h2 w' _ hm))|(apply aa (f:=52);exact rfl;exact rfl;(intro w' hm;exact h3 w' _ hm))|(apply aF (f:=96);exact rfl;exact rfl;(intro w' hm;exact h4 w' _ hm);rintro _ _ ⟨gg,gr,gf,gl,rfl,rfl⟩)|refine sT ?_|refine sS ?_|refine sR ?_|refine sM fun _=> ?_|(refine sC ?_ ?_<;>intro hb<;>try omega)|(refine sCR ?_ ?_<;>intro hb<;>try omega)|fail)
  all_goals first
    |(exfalso;omega)
    | (refine CJ ?_
       exact MW eIO rfl rfl pK rfl pK rfl (H' := [.own none 3 1 0 0 []]) mS ⟨none,0,by first|(rw [if_pos (by omega)];exact ⟨rfl,rfl⟩)|(rw [if_neg (by omega),if_pos hb];exact ⟨rfl,rfl⟩)|(rw [if_neg (by omega),if_neg (by omega),if_pos hb];exact ⟨rfl,rfl⟩)|(rw [if_neg (by omega),if_neg (by omega),if_neg (by omega),if_pos hb];exact ⟨rfl,rfl⟩)⟩)
    |skip
  rename_i g5 g8 g9 k1 k2 k3 k4
  rw [if_neg (by omega),if_neg (by omega),if_neg (by omega),if_neg (by omega)]
  refine rO (ps:= [47,48]) (us:=us) (encs:=QH) (Hc:= [.box gg 24 [gv],.box gr 33 (aN r),.box gf 5 [.int .u8 fn],.box gl 23 [lv]]) (HU0:= [.box g8 34 [vS 0#64],.box g9 102 [.slice none 0 0],.own none 3 1 0 0 []]) rfl (fun _=>rfl) rfl (h5 gg gr gf gl)
    (fun pre HU=> ∃ A cap,HU= [.box g8 34 [vS (orS (pre.map fun x=>x.2.to))],.box g9 102 [sl A pre.length cap],.own A 3 1 pre.length cap (fq (pre.map fun x=>x.1))]) (fun _=>False) ?_ ⟨none,0,rfl⟩ ?_ ?_ ?_
  · exact mS
  · rintro l pre ⟨i,g⟩ post hus _ ⟨A,cap,rfl⟩ F F'
    have hlu:=congrArg List.length hus
    simp only [TG,TZ] at hlu
    change WR _ _ _ l _ _ ((48,Value.agg (bp g).toArray)::(47,Value.int .i64 (i:Int))::_) (.box g8 34 [vS (orS (pre.map fun x=>x.2.to))]:: .box g9 102 [sl A pre.length cap]:: .own A 3 1 pre.length cap (fq (pre.map fun x=>x.1))::F)
    repeat' (first|refine sT ?_|refine sR ?_|refine sM fun _=> ?_|(refine sC ?_ ?_<;>intro hb<;>try omega)|(refine sCR ?_ ?_<;>intro hb<;>try omega)|fail)
    rename_i g16
    refine pU ⟨[.box g16 56 (bp g),.box g8 34 [vS (orS (pre.map fun x=>x.2.to))],.box g9 102 [sl A pre.length cap],.own A 3 1 pre.length cap (fq (pre.map fun x=>x.1))],MSub.refl _,?_⟩
    change WR _ _ _ l _ _ _ (.box g16 56 (bp g):: .box g8 34 [vS (orS (pre.map fun x=>x.2.to))]:: .box g9 102 [sl A pre.length cap]:: .own A 3 1 pre.length cap (fq (pre.map fun x=>x.1))::F')
    repeat' (first|(apply ak;exact rfl;apply rf (b:=g.to);exact rfl;exact rfl)|(apply bi;(iterate 3 exact rfl);(repeat first|exact .hd|apply Sel.tl|apply In.tl);(intro w hm;exact hm.cells_own (by (repeat first|exact .hd|apply Sel.tl|apply In.tl)));exact rfl;(simp [Value.oneCell',sl]);omega;(simp only [maxLen];omega);(intro A' cap' hA'))|refine sT ?_|refine sR ?_|refine sM fun _=> ?_|(refine sC ?_ ?_<;>intro hb<;>try omega)|(refine sCR ?_ ?_<;>intro hb<;>try omega)|fail)
    refine lz [.box g8 34 [vS (orS (pre.map fun x=>x.2.to)|||g.to)],.box g9 102 [sl A' (pre.length+1) cap'],.own A' 3 1 (pre.length+1) cap' (fq (pre.map fun x=>x.1)++ [.int .i64 (i:Int)])] ?_ ⟨A',cap',?_⟩
    · change MSub (_::_::_::F') _
      exact mS
    · simp only [UG,Ud,UQ,Nk,TG,TH,fq]
  · rintro D _ ⟨A,cap,rfl⟩
    change bC _ _ _ _ _ (dH D:: .box g8 34 [vS (orS (us.map fun x=>x.2.to))]:: .box g9 102 [sl A us.length cap]:: .own A 3 1 us.length cap (fq (us.map fun x=>x.1))::_)
    repeat' (first|refine sT ?_|refine sS ?_|refine sR ?_|refine sM fun _=> ?_|(refine sC ?_ ?_<;>intro hb<;>try omega)|(refine sCR ?_ ?_<;>intro hb<;>try omega)|fail)
    generalize orS (us.map fun x=>x.2.to)=o
    refine wW (id:=16) [⟨2,g8,34,vS o,vS o⟩,⟨3,g9,102,sl A us.length cap,sl A us.length cap⟩] [dH D,.own A 3 1 us.length cap (fq (us.map fun x=>x.1))] (by kernel_rfl) (by kernel_rfl) rfl mS ?_
    repeat' (first|(refine wz ⟨2,g8,34,vS o,vS o⟩ (.head _) (f:=60) (j:=2) rfl (by decide+kernel) rfl rfl rfl ?_)|(refine wz ⟨3,g9,102,sl A us.length cap,sl A us.length cap⟩ (.tail _ (.head _)) (f:=60) (j:=3) rfl (by decide+kernel) rfl rfl rfl ?_)|(refine li [] [⟨3,g9,102,sl A us.length cap,sl A us.length cap⟩] ⟨2,g8,34,vS o,vS o⟩ rfl rfl rfl rfl rfl rfl ?_)|(refine li [⟨2,g8,34,vS o,vS o⟩] [] ⟨3,g9,102,sl A us.length cap,sl A us.length cap⟩ rfl rfl rfl rfl rfl rfl ?_)|(apply I1;exact rfl;exact rfl;(exact vC))|refine sT ?_|refine sS ?_|refine sR ?_|refine sG ?_|refine sM fun _=> ?_|(refine sC ?_ ?_<;>intro hb<;>try omega)|(refine sCR ?_ ?_<;>intro hb<;>try omega)|fail)
    refine pP pK ?_
    exact MW eIO rfl rfl pK rfl pK rfl (H' := [.own A 3 1 us.length cap (fq (us.map fun x=>x.1))]) mS ⟨A,cap,by dsimp only;rw [List.length_map],by dsimp only;rw [List.length_map]⟩
  · rintro D HU h
    exact h.elim
end Go.SL
namespace Go.SL
open Go Go.Proofs
structure Cl where
 at_:Rf
 node:Int
structure Ev where
 step:Int
 user:Int
 kind:Int
 rect:Rct
 done:Bool
 to:BitVec 64
def Tf (x:Ev):List Value:= [.int .i64 x.step,.int .i64 x.user,.int .u8 x.kind,.int .i64 x.rect.c1,.int .i64 x.rect.r1,.int .i64 x.rect.c2,.int .i64 x.rect.r2,.bool x.done,vS x.to]
structure Rv where
 step:Int
 call:Cl
 fn:Int
 rect:Rct
 grant:Int
 to:BitVec 64
def Te (x:Rv):List Value:= [.int .i64 x.step,.int .i64 x.call.at_.col,.int .i64 x.call.at_.row,.int .i64 x.call.node,.int .u8 x.fn,.int .i64 x.rect.c1,.int .i64 x.rect.r1,.int .i64 x.rect.c2,.int .i64 x.rect.r2,.int .i64 x.grant,vS x.to]
structure Ox where
 kind:Int
 user:Int
 rect:Rct
 input:ByteArray
 rd:BitVec 64
 wr:BitVec 64
 ow:BitVec 64
 fns:Int
 to:BitVec 64
 idx:Int
def TE (x:Ox):List Value:= [.int .u8 x.kind,.int .i64 x.user,.int .i64 x.rect.c1,.int .i64 x.rect.r1,.int .i64 x.rect.c2,.int .i64 x.rect.r2,.string x.input,vS x.rd,vS x.wr,vS x.ow,.int .u8 x.fns,vS x.to,.int .i64 x.idx]
@[reducible] def iR (r:Rct):Value:= .agg (aN r).toArray
structure Ak where
 fn:Int
 rect:Rct
def pR (a:Ak):List Value:= [.int .u8 a.fn,.int .i64 a.rect.c1,.int .i64 a.rect.r1,.int .i64 a.rect.c2,.int .i64 a.rect.r2]
@[reducible] def kv (a:Ak):Value:= .agg (pR a).toArray
def Lj (a b:Ak):Bool:=decide (a.fn=b.fn) && eqR a.rect b.rect
theorem Fz {a b:Ak}:Lj a b=true↔a=b:=by
 obtain ⟨a1,a2⟩:=a
 obtain ⟨b1,b2⟩:=b
 simp [Lj,tB]
instance:DecidableEq Ak:=fun a b=>decidable_of_iff (Lj a b=true) Fz
theorem Od (a b:Ak):Lj a b=decide (a=b):=by rw [Uy,Fz];simp
theorem MT (w:World) (d:Nat) (a b:Ak):(Op.equalIn (d+5) 236 (.agg (pR a).toArray) (.agg (pR b).toArray)).run Tryz.prog w= .ok (Lj a b) w:=by
 rw [run_equalIn_agg w (d+4) 236 _ _ (by rw [Program.fieldsOf,Tryz.underlying236]) Tryz.stoodInHeld236]
 simp only [Program.fieldsOf,Tryz.underlying236]
 have hr: ∀ w,(Op.equalIn (d+4) 33 (.agg #[.int .i64 a.rect.c1,.int .i64 a.rect.r1,.int .i64 a.rect.c2,.int .i64 a.rect.r2]) (.agg #[.int .i64 b.rect.c1,.int .i64 b.rect.r1,.int .i64 b.rect.c2,.int .i64 b.rect.r2])).run Tryz.prog w= .ok (eqR a.rect b.rect) w:=fun w=>sv w (d+1) a.rect b.rect
 simp [Op.eqFields,pR,part,go_sem,FL,LJ,Lj,hr]
 by_cases h1:a.fn=b.fn<;>by_cases h2:eqR a.rect b.rect=true<;>simp [h1,h2]
theorem QF {K:TypeId} {κ:Type} [DecidableEq κ] {enc:κ→Value} {td:TypeDesc} (hu:Tryz.prog.underlying K=some td) (hns: ∀ (k e:κ) w,(Op.equalIn Op.maxDepth K (enc k) (enc e)).run Tryz.prog w= .ok (decide (k=e)) w)
  (hnow: ∀ (k:κ) (es:List (κ × Value × Nat)) w,(Instr.findAsking K (enc k) (es.map (fC enc)) 0).run Tryz.prog w= .ok (bJ k es 0) w→(Instr.findKey K (enc k) (es.map (fC enc))).run Tryz.prog w= .ok (bJ k es 0) w) (k:κ) (es:List (κ × Value × Nat)) (w:World):
  (Instr.findKey K (enc k) (es.map (fC enc))).run Tryz.prog w= .ok (bJ k es 0) w:=by
 refine hnow k es w ?_
 have hask: ∀ (es:List (κ × Value × Nat)) (i:Nat),(Instr.findAsking K (enc k) (es.map (fC enc)) i).run Tryz.prog w= .ok (bJ k es i) w:=by
  intro es
  induction es with
  |nil=>intro i;rfl
  |cons e es ih=>
   intro i
   have h:=hns k e.1 w
   simp only [Ud,Instr.findAsking,fC,Op.equal,Sem.run_bind,h,Result.andThen_ok,bJ]
   by_cases hk:k=e.1
   ·
    simp only [hk,decide_true,if_true,Sem.run_pure]
   ·
    simp only [hk,decide_false,if_false,Ur]
    exact ih _
 exact hask es 0
instance klaw_R:KLaw Tryz.prog 33 iR:={
 check:=fun e k w=>by
  have h: ∀ m,(Instr.checkKey e (m+2) 33 (.agg (aN k).toArray)).run Tryz.prog w= .ok () w:=fun m=>by
   simp [Instr.checkKey,aN,part,go_sem,Tryz.underlying33]
  exact h 9998
 find:=fun k es w=>by
  refine QF Tryz.underlying33 (fun k e w=>by have h:=sv w 9997 k e;rw [CH] at h;exact h) (fun k es w h=> ?_) k es w
  have hu:=run_underlying (P:=Tryz.prog) (w:=w) Tryz.underlying33
  cases es with
  |nil=>simp only [Instr.findKey,UQ,Instr.findNow,Sem.run_bind,hu,Result.andThen_ok,Sem.run_pure,bJ]
  |cons e es=>
   simp only [Ud] at h ⊢
   simp only [Instr.findKey,Instr.findNow,fC,Instr.sameNow,Sem.run_bind,hu,Result.andThen_ok]
   exact h
 stays:=fun k w=>by
  have h:Instr.sameBits 10000 (.agg (aN k).toArray) (.agg (aN k).toArray)=true:=by
   have h: ∀ m,Instr.sameBits (m+1) (.agg (aN k).toArray) (.agg (aN k).toArray)=true:=fun m=>by simp [Instr.sameBits,aN]
   exact h 9999
  simp only [Instr.keyThatStays,h,if_true,Sem.run_pure] }
instance klaw_A:KLaw Tryz.prog 236 kv:={
 check:=fun e k w=>by
  have h: ∀ m,(Instr.checkKey e (m+3) 236 (.agg (pR k).toArray)).run Tryz.prog w= .ok () w:=fun m=>by
   simp [Instr.checkKey,pR,part,go_sem,Tryz.underlying236,Tryz.underlying33]
  exact h 9997
 find:=fun k es w=>by
  refine QF Tryz.underlying236 (fun k e w=>by have h:=MT w 9995 k e;rw [Od] at h;exact h) (fun k es w h=> ?_) k es w
  have hu:=run_underlying (P:=Tryz.prog) (w:=w) Tryz.underlying236
  cases es with
  |nil=>simp only [Instr.findKey,UQ,Instr.findNow,Sem.run_bind,hu,Result.andThen_ok,Sem.run_pure,bJ]
  |cons e es=>
   simp only [Ud] at h ⊢
   simp only [Instr.findKey,Instr.findNow,fC,Instr.sameNow,Sem.run_bind,hu,Result.andThen_ok]
   exact h
 stays:=fun k w=>by
  have h:Instr.sameBits 10000 (.agg (pR k).toArray) (.agg (pR k).toArray)=true:=by
   have h: ∀ m,Instr.sameBits (m+1) (.agg (pR k).toArray) (.agg (pR k).toArray)=true:=fun m=>by simp [Instr.sameBits,pR]
   exact h 9999
  simp only [Instr.keyThatStays,h,if_true,Sem.run_pure] }
end Go.SL
namespace Go.SL
open Go
section
variable {G:Gr} (hG:GrOk G)
include hG
theorem zT {a b:Rf} (hb:b.valid=true):a∈eJ G (fR b.col b.row)↔a∈aq G∧cM (aK G a) (fR b.col b.row)=true:=by
 have hr:aH (fR b.col b.row)=true:=by rw [Eu];exact hb
 exact ⟨fun h=>⟨xd a h,(AF hG.sort hr (xd a h)).1 h⟩,fun h=>(AF hG.sort hr h.1).2 h.2⟩
theorem E0 {M:List Rf} (hn:M.Nodup) (hM: ∀ c∈M,c∈aq G):M.length≤G.length:=by
 have hp:M.Perm ((aq G).filter fun a=>decide (a∈M)):=kU hn (hG.sort.nodup.filter _) fun a=>by
  rw [Vb,decide_eq_true_eq]
  exact ⟨fun ha=>⟨hM a ha,ha⟩,fun ha=>ha.2⟩
 have h1:=hp.length_eq
 have h2:=VC (fun a=>decide (a∈M)) (aq G)
 have h3:(aq G).length=G.length:=by rw [aq,Uf]
 omega
open Classical in
open Classical in
open Classical in
open Classical in
end
end Go.SL

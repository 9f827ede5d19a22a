/-
  Lemmas and walks, put together: Ba.
-/
import Derived.Test.YthefeclkaaocnaaGreatDoorKl38
set_option linter.unusedSimpArgs false
set_option linter.unusedVariables false
set_option maxRecDepth 20000
namespace Go.SL
open Go Go.Proofs
attribute [local irreducible] W WL WQ WG WA WX WLI WR WT WC WE VOp RW thn blk bS scp bq bF cj aS FnIn FnP ceP
theorem Ed {a:Rf} {E:List Et} {i:Nat} (hlt:i<E.length):o4 a (E.drop i)=if E[i].at_=a then E[i].input else o4 a (E.drop (i+1)):=by
 rw [LJ hlt,o4,List.find?_cons]
 by_cases hh:E[i].at_=a
 ·
  rw [decide_eq_true hh,if_pos hh]
 ·
  rw [decide_eq_false hh,if_neg hh];rfl
set_option maxHeartbeats 4000000 in
theorem AP (E:List Et) (a:Rf) (lv:Value) (w:World) (hl:Reads w lv E.length (E.flatMap aH)):ay Tryz.prog 75 [lv,.agg (cB a).toArray] w (.string (o4 a E)):=by
 obtain ⟨Ae,ce,rfl,he1,he2,he3⟩:=hl
 refine aq Tryz.func75 rfl Tryz.ntmps75 rfl ?_
 repeat' (first|refine sT ?_|refine sS ?_|refine sM fun _=> ?_|(refine sC ?_ ?_<;>intro hb<;>try omega)|fail)
 rename_i g3
 refine ax [0,3] rfl (fun i:Nat=> [(5,.int .i64 (i:Int))]) (fun _=> [.box g3 51 (cB a)]) (fun i=>i≤E.length∧o4 a E=o4 a (E.drop i)) (fun i=>E.length - i) 0 ⟨by omega,rfl⟩ sB mS ?_
 rintro i ⟨hi,hrec⟩
 by_cases hlt:i<E.length
 ·
  obtain ⟨ge,oe,rfl,hre⟩:=he3 (by omega)
  have hre1:=hre.elem aW i hlt
  rw [Ed hlt] at hrec
  generalize E[i]=y at hre1 hrec
  have hra:Ro w ge (oe+i*3) (cB y.at_):=hre1.take (k:=2)
  have hri:Ro w ge (oe+i*3+2) [.string y.input]:=hre1.drop (k:=2)
  obtain ⟨c,hc⟩: ∃ c,decide (y.at_=a)=c:=⟨_,rfl⟩
  cases c with
  |true=>
   rw [if_pos (by simpa using hc)] at hrec
   rw [hrec]
   repeat' (first|(apply aK;exact rfl;apply aj (j:=i);exact rfl;exact rfl;exact hlt)|(apply aK (d:=16);exact rfl;apply aA;exact rfl;exact hra;exact rfl)|(apply aK;exact rfl;apply lM hc;exact rfl;exact rfl)|(apply ak;exact rfl;apply aj (j:=i);exact rfl;exact rfl;exact hlt)|(apply ak (d:=23);exact rfl;apply iP;exact rfl;exact hri)|refine sT ?_|refine sS ?_|refine sQ ?_|refine sN ?_|refine sNQ ?_|refine sD ?_|refine sM fun _=> ?_|(refine sC ?_ ?_<;>intro hb<;>try omega)|(refine sCQ ?_ ?_<;>intro hb<;>try omega)|fail)
   all_goals first|(exfalso;omega)|((refine rT1 ?_);rfl)|trace_state
  |false=>
   rw [if_neg (by simpa using hc)] at hrec
   repeat' (first|(apply aK;exact rfl;apply aj (j:=i);exact rfl;exact rfl;exact hlt)|(apply aK (d:=16);exact rfl;apply aA;exact rfl;exact hra;exact rfl)|(apply aK;exact rfl;apply lM hc;exact rfl;exact rfl)|refine sT ?_|refine sS ?_|refine sQ ?_|refine sN ?_|refine sNQ ?_|refine sD ?_|refine sM fun _=> ?_|(refine sC ?_ ?_<;>intro hb<;>try omega)|(refine sCQ ?_ ?_<;>intro hb<;>try omega)|fail)
   all_goals first
    |(exfalso;omega)
    |(refine ⟨i+1,⟨hlt,hrec⟩,by omega,by exact sB,by exact sB,by exact mS⟩;done)
    |trace_state
 ·
  have e:i=E.length:=by omega
  subst e
  rw [LU] at hrec
  rw [hrec]
  repeat' (first|refine sT ?_|refine sS ?_|refine sM fun _=> ?_|(refine sC ?_ ?_<;>intro hb<;>try omega)|fail)
  all_goals first|(exfalso;omega)|((refine rT1 ?_);rfl)|trace_state
set_option maxHeartbeats 4000000 in
theorem tD (b:Bk) (x:Bv) (a:Rf) (w:World) (h:BRd w b x) (hlen:b.ents.length≤1000000):ay Tryz.prog 27 [.agg (aP b x).toArray,.agg (cB a).toArray] w (.tuple #[.string (yI b a).1,.int .i64 (yI b a).2]):=by
 refine aq Tryz.func27 rfl Tryz.ntmps27 rfl ?_
 have hC:=fun (w' :World) (H:List Blk) (hm:Mem w w' H)=>l9 b x w' (h.of_w0 hm) hlen
 have hV: ∀ w',ay Tryz.prog 74 [.agg (cB a).toArray] w' (.bool a.valid):=fun w' =>nA a w'
 have hO:=fun (w' :World) (H:List Blk) (hm:Mem w w' H)=>AP b.ents a _ w' (h.e.of_w0 hm)
 unfold yI
 generalize bkE b=e at hC ⊢
 generalize o4 a b.ents=s at hO ⊢
 obtain ⟨us,E,RU,G,L,M,st⟩:=b
 dsimp only at hO
 simp only [aP] at hC ⊢
 by_cases he:e≠0
 ·
  rw [if_pos he]
  repeat' (first|(apply aa (f:=21);exact rfl;exact rfl;(intro w' hm;exact hC w' _ hm))|refine sT ?_|refine sS ?_|refine sM fun _=> ?_|(refine sC ?_ ?_<;>intro hb<;>try omega)|fail)
  all_goals first|(exfalso;omega)|((refine rT2 ?_);rfl)|trace_state
 rw [if_neg he]
 cases hv:a.valid
 ·
  rw [if_pos rfl]
  rw [hv] at hV
  repeat' (first|(apply aa (f:=21);exact rfl;exact rfl;(intro w' hm;exact hC w' _ hm))|(apply aa;exact rfl;exact rfl;(intro w hm;exact hV w))|refine sT ?_|refine sS ?_|refine sM fun _=> ?_|(refine sC ?_ ?_<;>intro hb<;>try omega)|fail)
  all_goals first|(exfalso;omega)|((refine rT2 ?_);rfl)|trace_state
 rw [if_neg (by decide)]
 rw [hv] at hV
 repeat' (first|(apply aa (f:=21);exact rfl;exact rfl;(intro w' hm;exact hC w' _ hm))|(apply aa (f:=75);exact rfl;exact rfl;(intro w' hm;exact hO w' _ hm))|(apply aa;exact rfl;exact rfl;(intro w hm;exact hV w))|refine sT ?_|refine sS ?_|refine sM fun _=> ?_|(refine sC ?_ ?_<;>intro hb<;>try omega)|fail)
 all_goals first|(exfalso;omega)|((refine rT2 ?_);rfl)|trace_state
def zRl:Rl:=⟨aL,0#64,0#64,0#64⟩
def zGn:Gn:=⟨aL,0,0#64,0,false⟩
def zRv:Rv:=⟨0,⟨⟨0,0⟩,0⟩,0,aL,0,0#64⟩
theorem uQ (b:Bk):wC b b=true:=y8.2 rfl
theorem tQ (b:Bk) {x y:Bv} {w:World} (h:BRd w b x) (k:BRd w b y):ay Tryz.prog 26 [.agg (aP b x).toArray,.agg (aP b y).toArray] w (.bool true):=by
 have:=mz b b x y w h k
 rwa [uQ] at this
theorem BF (b:Bk) {x y:Bv} {w:World} (h:BRd w b x) (k:BRd w b y):ay Tryz.prog 25 [.agg (aP b x).toArray,.agg (aP b y).toArray] w (.bool true):=by
 have:=sH b b x y w h k
 rwa [uQ] at this
set_option maxHeartbeats 16000000 in
theorem tT (b c:Bk) (x y:Bv) (L:List Rf) (v:Value) (w:World) (h:BRd w b x) (k:BRd w c y) (hv:Reads w v L.length (L.flatMap cB)) (hW:Words w):ay Tryz.prog 5 [.agg (aP b x).toArray,.agg (aP c y).toArray,v] w (.bool true):=by
 have hv0:=hv
 obtain ⟨Av,cv,rfl,hv1,hv2,hv3⟩:=hv
 refine aq Tryz.func5 rfl Tryz.ntmps5 rfl ?_
 have hS1:=fun (w' :World) (H:List Blk) (hm:Mem w w' H)=>sL b x w' (h.of_w0 hm)
 have hS2:=fun (w' :World) (H:List Blk) (hm:Mem w w' H)=>sL c y w' (k.of_w0 hm)
 have haw:=fun (w' :World) (H:List Blk) (hm:Mem w w' H)=>BI w' (hW.next hm)
 cases hs1:mE b with
 |false=>
  rw [hs1] at hS1
  repeat' (first|(apply aa (d:=20);exact rfl;exact rfl;(intro w' hm;exact hS1 w' _ hm))|refine sT ?_|refine sS ?_|refine sM fun _=> ?_|(refine sC ?_ ?_<;>intro hb<;>try omega)|fail)
  all_goals first|(exfalso;omega)|((refine rT1 ?_);rfl)|trace_state
 |true=>
 rw [hs1] at hS1
 cases hs2:mE c with
 |false=>
  rw [hs2] at hS2
  repeat' (first|(apply aa (d:=20);exact rfl;exact rfl;(intro w' hm;exact hS1 w' _ hm))|(apply aa (d:=24);exact rfl;exact rfl;(intro w' hm;exact hS2 w' _ hm))|refine sT ?_|refine sS ?_|refine sM fun _=> ?_|(refine sC ?_ ?_<;>intro hb<;>try omega)|fail)
  all_goals first|(exfalso;omega)|((refine rT1 ?_);rfl)|trace_state
 |true=>
 rw [hs2] at hS2
 have hm1:=Fu hs1
 by_cases hL20:20<L.length
 ·
  repeat' (first|(apply aa (d:=20);exact rfl;exact rfl;(intro w' hm;exact hS1 w' _ hm))|(apply aa (d:=24);exact rfl;exact rfl;(intro w' hm;exact hS2 w' _ hm))|refine sT ?_|refine sS ?_|refine sM fun _=> ?_|(refine sC ?_ ?_<;>intro hb<;>try omega)|fail)
  all_goals first|(exfalso;omega)|((refine rT1 ?_);rfl)|trace_state
 have hcp:=fun (w' :World) (H:List Blk) (hm:Mem w w' H)=>zD b x w' (h.of_w0 hm) hm1
 have hC1:=fun (a:Bo) (w' :World) (H:List Blk) (hm:Mem w w' H) (hr:BRd w' b a.v)=>mW b a.v w' hr (hW.next hm) hm1.e
 have hC2:=fun (w' :World) (H:List Blk) (hm:Mem w w' H)=>l9 b x w' (h.of_w0 hm) hm1.e
 have hE1:=fun (a:Bo) (w' :World) (H:List Blk) (hm:Mem w w' H) (hr:BRd w' b a.v)=>sH b c a.v y w' hr (k.of_w0 hm)
 have hE2:=fun (w' :World) (H:List Blk) (hm:Mem w w' H)=>mz b c x y w' (h.of_w0 hm) (k.of_w0 hm)
 have hE3:=fun (a:Bo) (w' :World) (H:List Blk) (hm:Mem w w' H) (hr:BRd w' b a.v)=>BF b hr (h.of_w0 hm)
 have hE4:=fun (a:Bo) (w' :World) (H:List Blk) (hm:Mem w w' H) (hr:BRd w' b a.v)=>tQ b hr (h.of_w0 hm)
 have hI1:=fun (a:Bo) (c:Rf) (w' :World) (H:List Blk) (hm:Mem w w' H) (hr:BRd w' b a.v)=>sF b a.v c w' hr (hW.next hm) hm1.e
 have hI2:=fun (c:Rf) (w' :World) (H:List Blk) (hm:Mem w w' H)=>tD b x c w' (h.of_w0 hm) hm1.e
 have hY:=fun (a:Bo) (w' :World) (H:List Blk) (hm:Mem w w' H) (hr:BRd w' b a.v)=>uZ b a.v w' hr hm1
 generalize wC b c=q at hE1 hE2
 generalize bkE b=e at hC1 hC2
 repeat' (first|(apply aa (d:=20);exact rfl;exact rfl;(intro w' hm;exact hS1 w' _ hm))|(apply aa (d:=24);exact rfl;exact rfl;(intro w' hm;exact hS2 w' _ hm))|(apply aG (f:=18);exact rfl;exact rfl;(intro w' hm;exact hcp w' _ hm);rintro _ _ ⟨a1,rfl,rfl⟩;unfold aM)|refine sT ?_|refine sS ?_|refine sM fun _=> ?_|(refine sC ?_ ?_<;>intro hb<;>try omega)|fail)
 all_goals try (exfalso;omega)
 rename_i g3 g4 g7
 refine JJ (.box g7 28 (aP b a1.v):: .box g4 28 (aP c y):: .box g3 28 (aP b x)::aM b a1) (by unfold aM;exact mS) ?_
 simp only [aM]
 cases q
 all_goals
  repeat' (first|((refine j6 (id:=4) [1,3,8,11,17,23] [] (.box g7 28 (aP b a1.v):: .box g4 28 (aP c y):: .box g3 28 (aP b x)::aM b a1) (by kernel_rfl) (by kernel_rfl) (by kernel_rfl) (by unfold aM;exact mS) ?_);unfold aM)|(apply aa (f:=12);exact rfl;exact rfl;(intro w' hm;exact hC1 a1 w' _ hm (BRd.of_rows hm pK pK pK pK pK)))|(apply aa (f:=21);exact rfl;exact rfl;(intro w' hm;exact hC2 w' _ hm))|(apply aa (d:=42);exact rfl;exact rfl;(intro w' hm;exact hE1 a1 w' _ hm (BRd.of_rows hm pK pK pK pK pK)))|(apply aa (d:=45);exact rfl;exact rfl;(intro w' hm;exact hE2 w' _ hm))|(apply aa (d:=51);exact rfl;exact rfl;(intro w' hm;exact hE3 a1 w' _ hm (BRd.of_rows hm pK pK pK pK pK)))|(apply aa (d:=57);exact rfl;exact rfl;(intro w' hm;exact hE4 a1 w' _ hm (BRd.of_rows hm pK pK pK pK pK)))|(apply dm (d:=38);(iterate 3 exact rfl);apply qI;exact rfl;exact rfl)|refine sT ?_|refine sS ?_|refine sW ?_|refine sM fun _=> ?_|(refine sC ?_ ?_<;>intro hb<;>try omega)|(refine sCW ?_ ?_<;>intro hb<;>try omega)|fail)
 all_goals try (exfalso;omega)
 all_goals
  refine ax [2,3,7] rfl (fun i:Nat=> [(8,.int .i64 (i:Int))]) (fun _=> .box g7 28 (aP b a1.v):: .box g3 28 (aP b x)::aM b a1) (fun i=>i≤L.length) (fun i=>L.length - i) 0 (LS _) sB (by unfold aM;exact mS) ?_
  rintro i hi
  try dsimp only at hi ⊢
  simp only [aM]
  by_cases hlt:i<L.length
  ·
   obtain ⟨gv,ov,rfl,hrv⟩:=hv3 (by omega)
   have hrv1:=hrv.elem (enc:=cB) (m:=2) (fun _=>rfl) i hlt
   generalize L[i]=a at hrv1
   have hI1:=fun (w' :World) (H:List Blk) (hm:Mem w w' H) (hr:BRd w' b a1.v)=>hI1 a1 a w' H hm hr
   have hI2:=fun (w' :World) (H:List Blk) (hm:Mem w w' H)=>hI2 a w' H hm
   generalize yI b a=r at hI1 hI2
   obtain ⟨r1,r2⟩:=r
   dsimp only at hI1 hI2
   repeat' (first|(apply bK (id:=9) [5] [];kernel_rfl;kernel_rfl;kernel_rfl)|(apply bK (id:=10) [5] [];kernel_rfl;kernel_rfl;kernel_rfl)|(apply dm;(iterate 3 exact rfl);apply aj (j:=i);exact rfl;exact rfl;exact hlt)|(apply dm (d:=71);(iterate 3 exact rfl);apply aA;exact rfl;exact hrv1;exact rfl)|(apply dm (d:=80);(iterate 3 exact rfl);apply aA;exact rfl;exact hrv1;exact rfl)|(apply aa (d:=72);exact rfl;exact rfl;(intro w' hm;exact hI1 w' _ hm (BRd.of_rows hm pK pK pK pK pK)))|(apply aa (d:=81);exact rfl;exact rfl;(intro w' hm;exact hI2 w' _ hm))|(apply ak (d:=86);exact rfl;apply xa;exact rfl;exact rfl)|(apply ak (d:=90);exact rfl;apply qI;exact rfl;exact rfl)|refine sT ?_|refine sS ?_|refine sW ?_|refine sN ?_|refine sWN ?_|refine sM fun _=> ?_|(refine sC ?_ ?_<;>intro hb<;>try omega)|(refine sCW ?_ ?_<;>intro hb<;>try omega)|fail)
   all_goals first
    |(exfalso;omega)
    |(refine ⟨i+1,hlt,by omega,by exact sB,by exact sB,by exact mS⟩;done)
    |trace_state
  repeat' (first|(apply aG (f:=28);exact rfl;exact rfl;(intro w' hm;exact hY a1 w' _ hm (BRd.of_rows hm pK pK pK pK pK));rintro _ _ ⟨⟨ae,ar,ag,al,as_,ce,cr,cg,cl,cs⟩,rfl,rfl⟩;unfold aM;dsimp only)|(apply aa (d:=96);exact rfl;exact rfl;(intro w' hm;exact hE4 ⟨ae,ar,ag,al,as_,ce,cr,cg,cl,cs⟩ w' _ hm (BRd.of_rows hm pK pK pK pK pK)))|refine sT ?_|refine sS ?_|refine sM fun _=> ?_|(refine sC ?_ ?_<;>intro hb<;>try omega)|fail)
  all_goals try (exfalso;omega)
  rename_i g13
  refine ax [3,7,13] rfl (fun y:Nat × List Value=> [(14,.int .i64 (y.1:Int))]) (fun y=> .own ae 53 3 b.ents.length ce y.2:: .own ar 38 7 b.rules.length cr (b.rules.flatMap bh):: .own ag 56 8 b.grants.length cg (b.grants.flatMap bg):: .own al 48 9 b.log.length cl (b.log.flatMap aQ):: .own as_ 70 11 b.rels.length cs (b.rels.flatMap bu):: .box g13 28 (aP b (Bo.v ⟨ae,ar,ag,al,as_,ce,cr,cg,cl,cs⟩)):: .box g7 28 (aP b a1.v):: .box g3 28 (aP b x)::aM b a1) (fun y=>y.1≤b.ents.length∧y.2.length=b.ents.length*3) (fun y=>b.ents.length - y.1) (0,b.ents.flatMap aH) ⟨LS _,aD aW _⟩ sB (by unfold aM;exact mS) ?_
  rintro ⟨i0,xs⟩ ⟨hi0,hxs⟩
  dsimp only at hi0 hxs ⊢
  simp only [aM]
  by_cases hlt0:i0<b.ents.length
  ·
   refine tX (A:=ae) .hd fun q1 q2 q3=> ?_
   refine dP (A:=ae) .hd (by omega) fun gp hA=> ?_
   subst hA
   repeat' (first|(apply ak;exact rfl;apply aj;exact rfl;exact rfl;exact hlt0)|(apply fA (vs:=aH EI);exact rfl;exact rfl;exact pK;exact rfl;exact rfl;decide;omega)|refine sT ?_|refine sS ?_|refine sN ?_|refine sM fun _=> ?_|(refine sC ?_ ?_<;>intro hb<;>try omega)|fail)
   refine ⟨(i0+1,xs.take (0+i0*3)++aH EI++xs.drop (0+i0*3+3)),?_,(by first|omega|(dsimp only;omega)),sB,sB,mS⟩
   refine ⟨hlt0,?_⟩
   simp only [LC,LP,LL,aW]
   omega
  repeat' (first|refine sT ?_|refine sS ?_|refine sM fun _=> ?_|(refine sC ?_ ?_<;>intro hb<;>try omega)|fail)
  all_goals try (exfalso;omega)
  refine ax [3,7,13] rfl (fun y:Nat × List Value=> [(15,.int .i64 (y.1:Int))]) (fun y=> .own ar 38 7 b.rules.length cr y.2:: .own ag 56 8 b.grants.length cg (b.grants.flatMap bg):: .own al 48 9 b.log.length cl (b.log.flatMap aQ):: .own as_ 70 11 b.rels.length cs (b.rels.flatMap bu):: .box g13 28 (aP b (Bo.v ⟨ae,ar,ag,al,as_,ce,cr,cg,cl,cs⟩)):: .box g7 28 (aP b a1.v):: .box g3 28 (aP b x)::aM b a1) (fun y=>y.1≤b.rules.length∧y.2.length=b.rules.length*7) (fun y=>b.rules.length - y.1) (0,b.rules.flatMap bh) ⟨LS _,aD bX _⟩ sB (by unfold aM;exact mS) ?_
  rintro ⟨i1,xs⟩ ⟨hi1,hxs⟩
  dsimp only at hi1 hxs ⊢
  simp only [aM]
  by_cases hlt1:i1<b.rules.length
  ·
   refine tX (A:=ar) .hd fun q1 q2 q3=> ?_
   refine dP (A:=ar) .hd (by omega) fun gp hA=> ?_
   subst hA
   repeat' (first|(apply ak;exact rfl;apply aj;exact rfl;exact rfl;exact hlt1)|(apply fA (vs:=bh zRl);exact rfl;exact rfl;exact pK;exact rfl;exact rfl;decide;omega)|refine sT ?_|refine sS ?_|refine sN ?_|refine sM fun _=> ?_|(refine sC ?_ ?_<;>intro hb<;>try omega)|fail)
   refine ⟨(i1+1,xs.take (0+i1*7)++bh zRl++xs.drop (0+i1*7+7)),?_,(by first|omega|(dsimp only;omega)),sB,sB,mS⟩
   refine ⟨hlt1,?_⟩
   simp only [LC,LP,LL,bX]
   omega
  repeat' (first|refine sT ?_|refine sS ?_|refine sM fun _=> ?_|(refine sC ?_ ?_<;>intro hb<;>try omega)|fail)
  all_goals try (exfalso;omega)
  refine ax [3,7,13] rfl (fun y:Nat × List Value=> [(16,.int .i64 (y.1:Int))]) (fun y=> .own ag 56 8 b.grants.length cg y.2:: .own al 48 9 b.log.length cl (b.log.flatMap aQ):: .own as_ 70 11 b.rels.length cs (b.rels.flatMap bu):: .box g13 28 (aP b (Bo.v ⟨ae,ar,ag,al,as_,ce,cr,cg,cl,cs⟩)):: .box g7 28 (aP b a1.v):: .box g3 28 (aP b x)::aM b a1) (fun y=>y.1≤b.grants.length∧y.2.length=b.grants.length*8) (fun y=>b.grants.length - y.1) (0,b.grants.flatMap bg) ⟨LS _,aD bR _⟩ sB (by unfold aM;exact mS) ?_
  rintro ⟨i2,xs⟩ ⟨hi2,hxs⟩
  dsimp only at hi2 hxs ⊢
  simp only [aM]
  by_cases hlt2:i2<b.grants.length
  ·
   refine tX (A:=ag) .hd fun q1 q2 q3=> ?_
   refine dP (A:=ag) .hd (by omega) fun gp hA=> ?_
   subst hA
   repeat' (first|(apply ak;exact rfl;apply aj;exact rfl;exact rfl;exact hlt2)|(apply fA (vs:=bg zGn);exact rfl;exact rfl;exact pK;exact rfl;exact rfl;decide;omega)|refine sT ?_|refine sS ?_|refine sN ?_|refine sM fun _=> ?_|(refine sC ?_ ?_<;>intro hb<;>try omega)|fail)
   refine ⟨(i2+1,xs.take (0+i2*8)++bg zGn++xs.drop (0+i2*8+8)),?_,(by first|omega|(dsimp only;omega)),sB,sB,mS⟩
   refine ⟨hlt2,?_⟩
   simp only [LC,LP,LL,bR]
   omega
  repeat' (first|refine sT ?_|refine sS ?_|refine sM fun _=> ?_|(refine sC ?_ ?_<;>intro hb<;>try omega)|fail)
  all_goals try (exfalso;omega)
  refine ax [3,7,13] rfl (fun y:Nat × List Value=> [(17,.int .i64 (y.1:Int))]) (fun y=> .own al 48 9 b.log.length cl y.2:: .own as_ 70 11 b.rels.length cs (b.rels.flatMap bu):: .box g13 28 (aP b (Bo.v ⟨ae,ar,ag,al,as_,ce,cr,cg,cl,cs⟩)):: .box g7 28 (aP b a1.v):: .box g3 28 (aP b x)::aM b a1) (fun y=>y.1≤b.log.length∧y.2.length=b.log.length*9) (fun y=>b.log.length - y.1) (0,b.log.flatMap aQ) ⟨LS _,aD cX _⟩ sB (by unfold aM;exact mS) ?_
  rintro ⟨i3,xs⟩ ⟨hi3,hxs⟩
  dsimp only at hi3 hxs ⊢
  simp only [aM]
  by_cases hlt3:i3<b.log.length
  ·
   refine tX (A:=al) .hd fun q1 q2 q3=> ?_
   refine dP (A:=al) .hd (by omega) fun gp hA=> ?_
   subst hA
   repeat' (first|(apply ak;exact rfl;apply aj;exact rfl;exact rfl;exact hlt3)|(apply fA (vs:=aQ fJ);exact rfl;exact rfl;exact pK;exact rfl;exact rfl;decide;omega)|refine sT ?_|refine sS ?_|refine sN ?_|refine sM fun _=> ?_|(refine sC ?_ ?_<;>intro hb<;>try omega)|fail)
   refine ⟨(i3+1,xs.take (0+i3*9)++aQ fJ++xs.drop (0+i3*9+9)),?_,(by first|omega|(dsimp only;omega)),sB,sB,mS⟩
   refine ⟨hlt3,?_⟩
   simp only [LC,LP,LL,cX]
   omega
  repeat' (first|refine sT ?_|refine sS ?_|refine sM fun _=> ?_|(refine sC ?_ ?_<;>intro hb<;>try omega)|fail)
  all_goals try (exfalso;omega)
  refine ax [3,7,13] rfl (fun y:Nat × List Value=> [(18,.int .i64 (y.1:Int))]) (fun y=> .own as_ 70 11 b.rels.length cs y.2:: .box g13 28 (aP b (Bo.v ⟨ae,ar,ag,al,as_,ce,cr,cg,cl,cs⟩)):: .box g7 28 (aP b a1.v):: .box g3 28 (aP b x)::aM b a1) (fun y=>y.1≤b.rels.length∧y.2.length=b.rels.length*11) (fun y=>b.rels.length - y.1) (0,b.rels.flatMap bu) ⟨LS _,aD cW _⟩ sB (by unfold aM;exact mS) ?_
  rintro ⟨i4,xs⟩ ⟨hi4,hxs⟩
  dsimp only at hi4 hxs ⊢
  simp only [aM]
  by_cases hlt4:i4<b.rels.length
  ·
   refine tX (A:=as_) .hd fun q1 q2 q3=> ?_
   refine dP (A:=as_) .hd (by omega) fun gp hA=> ?_
   subst hA
   repeat' (first|(apply ak;exact rfl;apply aj;exact rfl;exact rfl;exact hlt4)|(apply fA (vs:=bu zRv);exact rfl;exact rfl;exact pK;exact rfl;exact rfl;decide;omega)|refine sT ?_|refine sS ?_|refine sN ?_|refine sM fun _=> ?_|(refine sC ?_ ?_<;>intro hb<;>try omega)|fail)
   refine ⟨(i4+1,xs.take (0+i4*11)++bu zRv++xs.drop (0+i4*11+11)),?_,(by first|omega|(dsimp only;omega)),sB,sB,mS⟩
   refine ⟨hlt4,?_⟩
   simp only [LC,LP,LL,cW]
   omega
  repeat' (first|(apply aa (d:=160);exact rfl;exact rfl;(intro w' hm;exact hE4 a1 w' _ hm (BRd.of_rows hm pK pK pK pK pK)))|(apply aa (f:=24);exact rfl;exact rfl;(intro w' hm;exact haw w' _ hm))|refine sT ?_|refine sS ?_|refine sM fun _=> ?_|(refine sC ?_ ?_<;>intro hb<;>try omega)|fail)
  all_goals first|(exfalso;omega)|((refine rT1 ?_);rfl)|trace_state
end Go.SL

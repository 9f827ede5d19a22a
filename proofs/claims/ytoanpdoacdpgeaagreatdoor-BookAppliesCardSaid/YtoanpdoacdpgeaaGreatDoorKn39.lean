/-
  Lemmas and walks, put together: Ig Ih Ij Oc.
-/
import Derived.Test.YtoanpdoacdpgeaaGreatDoorKn36
import Derived.Test.YtoanpdoacdpgeaaGreatDoorKn38
set_option linter.unusedSimpArgs false
set_option linter.unusedVariables false
set_option maxRecDepth 20000
namespace Go.SL
open Go Go.Proofs
attribute [local irreducible] W WL WQ WG WA WX WLI WR WT WC WE VOp RW thn blk bE scp ba bo bL aP FnIn FnP ceP
instance fldRt0:FldT Tryz.prog 35 0 33 0:=⟨_,_,Tryz.underlying35,rfl,rfl,rfl⟩
instance fldRt1:FldT Tryz.prog 35 1 33 1:=⟨_,_,Tryz.underlying35,rfl,rfl,rfl⟩
instance fldRt2:FldT Tryz.prog 35 2 33 2:=⟨_,_,Tryz.underlying35,rfl,rfl,rfl⟩
theorem Ox.ro {w:World} {g o:Nat} {x:Ox} (h:Ro w g o (bi x)):Ro w g (o+2) (bH x.rect)∧Ro w g (o+7) [vS x.rd,vS x.wr,vS x.ow]:=
 ⟨(h.drop (k:=2)).take (k:=4),(h.drop (k:=7)).take (k:=3)⟩
set_option maxHeartbeats 4000000 in
theorem FI (b:Bk) (x:Bv) (r:Rct) (gp gb:Nat) (w:World) (hp:Ro w gp 0 [.pointer (some ⟨gb,0,none⟩)]) (hbk:Ro w gb 0 (aU b x)) (hr:BRd w b x):
  ay Tryz.prog 136 [.agg (bH r).toArray,.pointer (some ⟨gp,0,none⟩)] w (.agg #[vS (ovE r b.rules).1.1,vS (ovE r b.rules).1.2.1,vS (ovE r b.rules).1.2.2]):=by
 refine aq Tryz.func136 rfl Tryz.ntmps136 rfl ?_
 have h1:=fun (w' :World) (H:List Blk) (hm:Mem w w' H)=>D7 r b.rules _ w' (hr.r.of_w0 hm)
 generalize (ovE r b.rules).2=e at h1
 generalize (ovE r b.rules).1.1=s1 at h1 ⊢
 generalize (ovE r b.rules).1.2.1=s2 at h1 ⊢
 generalize (ovE r b.rules).1.2.2=s3 at h1 ⊢
 obtain ⟨us,E,RU,G,L,M,st⟩:=b
 obtain ⟨ae1,ar1,ag1,al1,as1,ce1,cr1,cg1,cl1,cs1⟩:=x
 dsimp only at*
 simp only [aU] at hbk
 repeat' (first|refine sT ?_|refine sS ?_|refine sO ?_|refine sM fun _=> ?_|(refine sC ?_ ?_<;>intro hb<;>try omega)|fail)
 rename_i g2 g3
 refine oh (id:=1) [5,9,10] [.box g2 32 (bH r),.box g3 35 [.int .u64 0,.int .u64 0,.int .u64 0]] 12 rfl rfl mS ?_
 repeat' (first|(apply cF (i:=1);(iterate 4 exact rfl);decide+kernel;decide+kernel;decide+kernel;apply dh;exact rfl;exact hp)|(apply cF (i:=4);(iterate 4 exact rfl);decide+kernel;decide+kernel;decide+kernel;apply dB;exact rfl;exact hbk;exact rfl)|(apply cF (i:=0);(iterate 4 exact rfl);decide+kernel;decide+kernel;decide+kernel;(exact vC))|(apply cF (i:=2);(iterate 4 exact rfl);decide+kernel;decide+kernel;decide+kernel;(exact vC))|(apply cF (i:=3);(iterate 4 exact rfl);decide+kernel;decide+kernel;decide+kernel;(exact vC))|(apply cF (i:=6);(iterate 4 exact rfl);decide+kernel;decide+kernel;decide+kernel;(exact vC))|(apply cF (i:=7);(iterate 4 exact rfl);decide+kernel;decide+kernel;decide+kernel;(exact vC))|(apply cF (i:=8);(iterate 4 exact rfl);decide+kernel;decide+kernel;decide+kernel;(exact vC))|(apply cF (i:=11);(iterate 4 exact rfl);decide+kernel;decide+kernel;decide+kernel;(apply eJ;exact rfl))|(apply iH (i:=5) (j:=9);(iterate 6 exact rfl);decide+kernel)|(apply dA (i:=5);(iterate 3 exact rfl);decide+kernel)|(apply dA (i:=9);(iterate 3 exact rfl);decide+kernel)|(apply dA (i:=10);(iterate 3 exact rfl);decide+kernel)|(apply od;decide+kernel)|(apply FG;(focus (exact mS;done)))|(apply aa (f:=102);exact rfl;exact rfl;(intro w' hm;exact h1 w' _ hm))|refine sT ?_|refine sS ?_|refine sO ?_|refine sM fun _=> ?_|(refine sC ?_ ?_<;>intro hb<;>try omega)|fail)
 all_goals first
  |(exfalso;omega)
  |((refine eRC ?_);rfl)
  |trace_state
def sw (b:Bk) (o:Ox):Bool:=
 if o.kind=3∨o.kind=4 then !fE (ovE o.rect b.rules).1.2.1 o.user
 else if o.kind=6 then !fE (ovE o.rect b.rules).1.1 o.user
 else if o.kind=7∨o.kind=8 then !fE (ovE o.rect b.rules).1.2.2 o.user
 else if o.kind=9 then (match b.grants[o.idx.toNat]? with|some g=>decide (g.by_≠o.user) && !fE (ovE g.rect b.rules).1.2.2 o.user|none=>false)
 else false
set_option maxHeartbeats 16000000 in
theorem sA (b:Bk) (x:Bv) (o:Ox) (gb:Nat) (w:World) (hbk:Ro w gb 0 (aU b x)) (hr:BRd w b x) (hi:o.kind=9→0≤o.idx∧o.idx<(b.grants.length:Int)):
  ay Tryz.prog 97 [.pointer (some ⟨gb,0,none⟩),.agg (bi o).toArray] w (.bool (sw b o)):=by
 refine aq Tryz.func97 rfl Tryz.ntmps97 rfl ?_
 have hO:=fun (r:Rct) (gp:Nat) (w' :World) (H:List Blk) (hi:In (.box gp 88 [.pointer (some ⟨gb,0,none⟩)]) H) (hm:Mem w w' H)=>FI b x r gp gb w' (Ro.of_box hm hi) (hbk.next hm) (hr.of_w0 hm)
 unfold sw
 have hH:=fun (s:BitVec 64) w' =>pG s o.user w'
 by_cases k1:o.kind=3∨o.kind=4
 ·
  rw [if_pos k1]
  have hO1:=hO o.rect
  clear hO
  generalize (ovE o.rect b.rules).1.1=s1 at hO1 ⊢
  generalize (ovE o.rect b.rules).1.2.1=s2 at hO1 ⊢
  generalize (ovE o.rect b.rules).1.2.2=s3 at hO1 ⊢
  repeat' (first|(apply bp (id:=5) [3,7] [];kernel_rfl;kernel_rfl;kernel_rfl)|(apply bZ;(iterate 3 exact rfl);apply cP;exact rfl;exact rfl)|(apply bI (f:=136);exact rfl;exact rfl;infer_instance;exact rfl;(intro w' hm;exact hO1 _ w' _ pK hm))|(apply aa (f:=118);exact rfl;exact rfl;(intro w' _;exact hH _ w'))|refine sT ?_|refine sS ?_|refine sW ?_|refine sM fun _=> ?_|(refine sC ?_ ?_<;>intro hb<;>try omega)|(refine sCW ?_ ?_<;>intro hb<;>try omega)|fail)
  all_goals first|(exfalso;omega)|((refine rT1 ?_);rfl)|trace_state
 rw [if_neg k1]
 by_cases k2:o.kind=6
 ·
  rw [if_pos k2]
  have hO1:=hO o.rect
  clear hO
  generalize (ovE o.rect b.rules).1.1=s1 at hO1 ⊢
  generalize (ovE o.rect b.rules).1.2.1=s2 at hO1 ⊢
  generalize (ovE o.rect b.rules).1.2.2=s3 at hO1 ⊢
  repeat' (first|(apply bp (id:=7) [3,7] [];kernel_rfl;kernel_rfl;kernel_rfl)|(apply bZ;(iterate 3 exact rfl);apply cP;exact rfl;exact rfl)|(apply bI (f:=136);exact rfl;exact rfl;infer_instance;exact rfl;(intro w' hm;exact hO1 _ w' _ pK hm))|(apply aa (f:=118);exact rfl;exact rfl;(intro w' _;exact hH _ w'))|refine sT ?_|refine sS ?_|refine sW ?_|refine sM fun _=> ?_|(refine sC ?_ ?_<;>intro hb<;>try omega)|(refine sCW ?_ ?_<;>intro hb<;>try omega)|fail)
  all_goals first|(exfalso;omega)|((refine rT1 ?_);rfl)|trace_state
 rw [if_neg k2]
 by_cases k3:o.kind=7∨o.kind=8
 ·
  rw [if_pos k3]
  have hO1:=hO o.rect
  clear hO
  generalize (ovE o.rect b.rules).1.1=s1 at hO1 ⊢
  generalize (ovE o.rect b.rules).1.2.1=s2 at hO1 ⊢
  generalize (ovE o.rect b.rules).1.2.2=s3 at hO1 ⊢
  repeat' (first|(apply bp (id:=10) [3,7] [];kernel_rfl;kernel_rfl;kernel_rfl)|(apply bZ;(iterate 3 exact rfl);apply cP;exact rfl;exact rfl)|(apply bI (f:=136);exact rfl;exact rfl;infer_instance;exact rfl;(intro w' hm;exact hO1 _ w' _ pK hm))|(apply aa (f:=118);exact rfl;exact rfl;(intro w' _;exact hH _ w'))|refine sT ?_|refine sS ?_|refine sW ?_|refine sM fun _=> ?_|(refine sC ?_ ?_<;>intro hb<;>try omega)|(refine sCW ?_ ?_<;>intro hb<;>try omega)|fail)
  all_goals first|(exfalso;omega)|((refine rT1 ?_);rfl)|trace_state
 rw [if_neg k3]
 by_cases k4:o.kind=9
 ·
  rw [if_pos k4]
  obtain ⟨hi1,hi2⟩:=hi k4
  obtain ⟨j,hj⟩: ∃ j:Nat,o.idx=(j:Int):=⟨o.idx.toNat,by omega⟩
  have hjl:j<b.grants.length:=by omega
  rw [hj,Ov,Nc hjl]
  have hg:=hr.g
  obtain ⟨ae1,ar1,ag1,al1,as1,ce1,cr1,cg1,cl1,cs1⟩:=x
  dsimp only at*
  obtain ⟨Ag,cg2,eg,hg1,hg2,hg3⟩:=hg
  cases eg
  obtain ⟨gg,og,rfl,hrg⟩:=hg3 (by omega)
  have he:=hrg.elem bW j hjl
  generalize b.grants[j]=y at he ⊢
  have hO1:=hO y.rect
  clear hO
  generalize (ovE y.rect b.rules).1.1=s1 at hO1 ⊢
  generalize (ovE y.rect b.rules).1.2.1=s2 at hO1 ⊢
  generalize (ovE y.rect b.rules).1.2.2=s3 at hO1 ⊢
  obtain ⟨us,E,RU,G,L,M,st⟩:=b
  dsimp only at*
  simp only [aU] at hbk
  repeat' (first|(apply bp (id:=12) [8,9] [];kernel_rfl;kernel_rfl;kernel_rfl)|(apply bp (id:=13) [9,13] [];kernel_rfl;kernel_rfl;kernel_rfl)|(apply bZ;(iterate 3 exact rfl);apply dB;exact rfl;exact hbk;exact rfl)|(apply bZ;(iterate 3 exact rfl);apply aj (j:=j);exact rfl;(rw [hj];exact rfl);exact hjl)|(apply bZ;(iterate 3 exact rfl);apply aA;exact rfl;exact he;exact rfl)|(apply bZ;(iterate 3 exact rfl);apply cP;exact rfl;exact rfl)|(apply bI (f:=136);exact rfl;exact rfl;infer_instance;exact rfl;(intro w' hm;exact hO1 _ w' _ pK hm))|(apply aa (f:=118);exact rfl;exact rfl;(intro w' _;exact hH _ w'))|refine sT ?_|refine sS ?_|refine sW ?_|refine sM fun _=> ?_|(refine sC ?_ ?_<;>intro hb<;>try omega)|(refine sCW ?_ ?_<;>intro hb<;>try omega)|fail)
  all_goals first
   |(exfalso;omega)
   |((refine rT1 ?_);rw [decide_eq_false hb];rfl)
   |((refine rT1 ?_);rw [decide_eq_true hb];rfl)
   |trace_state
 rw [if_neg k4]
 repeat' (first|refine sT ?_|refine sS ?_|refine sM fun _=> ?_|(refine sC ?_ ?_<;>intro hb<;>try omega)|fail)
 all_goals first|(exfalso;omega)|((refine rT1 ?_);rfl)|trace_state
def nk (r:Rct):Int:=if aI r=false then 0 else (r.c2 - r.c1+1)*(r.r2 - r.r1+1)
theorem zm (r:Rct) (w:World):ay Tryz.prog 101 [.agg (bH r).toArray] w (.tuple #[.int .i64 (nk r),.int .i64 (eP r)]):=by
 refine aq Tryz.func101 rfl Tryz.ntmps101 rfl ?_
 have h1:=fun w=>gA r w
 unfold nk
 by_cases h:aI r=false
 ·
  rw [if_pos h]
  have hne:eP r≠0:=fun e=>eO (by omega) h
  generalize eP r=e at h1 hne ⊢
  repeat' (first|(apply aa;exact rfl;exact rfl;(intro w hm;exact h1 w))|refine sT ?_|refine sM fun _=> ?_|(refine sC ?_ ?_<;>intro hb<;>try omega)|fail)
  all_goals first|(exfalso;omega)|((refine rT2 ?_);rfl)|trace_state
 ·
  rw [if_neg h]
  have hz:eP r=0:=by
   rcases Decidable.em (eP r=0) with e|e
   ·
    exact e
   ·
    exact absurd (gU e) h
  rw [hz] at h1 ⊢
  have hb:1≤r.c1∧r.c1≤r.c2∧r.c2≤1024∧1≤r.r1∧r.r1≤r.r2∧r.r2≤1024:=by
   have:aI r=true:=by simpa using h
   simp only [aI,valid,Nm,decide_eq_true_eq] at this
   omega
  have hm: -9223372036854775808≤(r.c2 - r.c1+1)*(r.r2 - r.r1+1)∧(r.c2 - r.c1+1)*(r.r2 - r.r1+1)≤9223372036854775807:=by
   have h1:(0:Int)≤(r.c2 - r.c1+1)*(r.r2 - r.r1+1):=Int.mul_nonneg (by omega) (by omega)
   have h2:(r.c2 - r.c1+1)*(r.r2 - r.r1+1)≤1024*1024:=Int.mul_le_mul (by omega) (by omega) (by omega) (by omega)
   omega
  repeat' (first|(apply aa;exact rfl;exact rfl;(intro w hm;exact h1 w))|(apply ak;exact rfl;apply qi;exact rfl;exact rfl;exact hm)|refine sT ?_|refine sJ ?_|refine sM fun _=> ?_|(refine sC ?_ ?_<;>intro hb<;>try omega)|fail)
  all_goals first|(exfalso;omega)|((refine rT2 ?_);rfl)|trace_state
def w5 (b:Bk) (o:Ox):Bool:=match b.grants[o.idx.toNat]? with|some g=>g.rev|none=>true
theorem DD {b:Bk} {o:Ox} {j:Nat} (hj:o.idx=(j:Int)) (hl:j<b.grants.length):w5 b o=b.grants[j].rev:=by
 unfold w5
 rw [hj,Ov,Nc hl]
def tst (b:Bk) (o:Ox):Nat→Bool
 |0=>decide (opE o≠0)
 |1=>decide (o.user<0)||decide (b.users≤o.user)
 |2=>(jm o).2 && decide (eP (jm o).1≠0)
 |3=>decide ((o.rd|||o.wr|||o.ow|||o.to) &&& ~~~(df b.users).1≠0#64)
 |4=>decide (o.kind=9) && (decide (o.idx<0)||decide ((b.grants.length:Int)≤o.idx)||w5 b o)
 |5=>sw b o
 |6=>decide (o.kind=3) && decide ((ofP o.input).2.2≠0)
 |7=>(decide (o.kind=5) && decide (1024<nk (jm o).1))||(decide (o.kind=7) && decide (64≤b.rules.length))||(decide (o.kind=8) && decide (64≤b.grants.length))
 |_=>false
def cdE (b:Bk) (o:Ox):Int × Int:=
 if tst b o 0 then (1,0) else if tst b o 1 then (2,0) else if tst b o 2 then (4,0) else if tst b o 3 then (2,0) else if tst b o 4 then (8,0)
 else if tst b o 5 then (5,0) else if tst b o 6 then (6,(ofP o.input).2.1) else if tst b o 7 then (7,0) else (0,0)
section
variable {b:Bk} {x:Bv} {o:Ox} {gb gp go:Nat} {w:World} (ho:Ro w go 0 (bi o)) (hp:Ro w gp 0 [.pointer (some ⟨gb,0,none⟩)]) (hbk:Ro w gb 0 (aU b x))
include ho
theorem IR:ay Tryz.prog 89 [.pointer (some ⟨go,0,none⟩)] w (.bool (tst b o 0)):=by
 refine aq Tryz.func89 rfl Tryz.ntmps89 rfl ?_
 have h1:=fun w=>tq o w
 unfold tst
 generalize opE o=e at h1 ⊢
 repeat' (first|(apply aa;exact rfl;exact rfl;(intro w hm;exact h1 w))|refine sT ?_|refine sS ?_|refine sO ?_|refine sM fun _=> ?_|(refine sC ?_ ?_<;>intro hb<;>try omega)|fail)
 all_goals first|(exfalso;omega)|((refine rT1 ?_);simp;done)|((refine rT1 ?_);rfl)|trace_state
include hp hbk
theorem IQ:ay Tryz.prog 91 [.pointer (some ⟨go,0,none⟩),.pointer (some ⟨gp,0,none⟩)] w (.bool (tst b o 1)):=by
 refine aq Tryz.func91 rfl Tryz.ntmps91 rfl ?_
 unfold tst
 simp only [bi] at ho
 simp only [aU] at hbk
 repeat' (first|refine sT ?_|refine sS ?_|refine sQ ?_|refine sO ?_|refine sOQ ?_|refine sD ?_|refine sM fun _=> ?_|(refine sC ?_ ?_<;>intro hb<;>try omega)|(refine sCQ ?_ ?_<;>intro hb<;>try omega)|fail)
 all_goals first|(exfalso;omega)|((refine rT1 ?_);simp_all;done)|((refine rT1 ?_);simp_all;omega)|trace_state
omit hbk hp in
theorem IP {g8 g9:Nat} (h8:Ro w g8 0 (bH (jm o).1)) (h9:Ro w g9 0 [.bool (jm o).2]):ay Tryz.prog 92 [.pointer (some ⟨g9,0,none⟩),.pointer (some ⟨g8,0,none⟩)] w (.bool (tst b o 2)):=by
 refine aq Tryz.func92 rfl Tryz.ntmps92 rfl ?_
 unfold tst
 have _hz:=ho
 clear _hz ho
 generalize (jm o).1=t at h8 ⊢
 generalize (jm o).2=c at h9 ⊢
 have h1:=fun w=>gA t w
 generalize eP t=e at h1 ⊢
 cases c
 ·
  repeat' (first|(apply aa;exact rfl;exact rfl;(intro w hm;exact h1 w))|refine sT ?_|refine sS ?_|refine sO ?_|refine sM fun _=> ?_|(refine sC ?_ ?_<;>intro hb<;>try omega)|fail)
  all_goals first|(exfalso;omega)|((refine rT1 ?_);rfl)|trace_state
 ·
  repeat' (first|(apply aa;exact rfl;exact rfl;(intro w hm;exact h1 w))|refine sT ?_|refine sS ?_|refine sO ?_|refine sM fun _=> ?_|(refine sC ?_ ?_<;>intro hb<;>try omega)|fail)
  all_goals first|(exfalso;omega)|((refine rT1 ?_);simp;done)|((refine rT1 ?_);rfl)|trace_state
omit hbk hp in
theorem IM {g6:Nat} (h6:Ro w g6 0 [vS (df b.users).1]):ay Tryz.prog 94 [.pointer (some ⟨go,0,none⟩),.pointer (some ⟨g6,0,none⟩)] w (.bool (tst b o 3)):=by
 refine aq Tryz.func94 rfl Tryz.ntmps94 rfl ?_
 unfold tst
 generalize (df b.users).1=a at h6 ⊢
 have ho7:=(Ox.ro ho).2
 simp only [bi] at ho
 repeat' (first|(apply ak;exact rfl;apply dg;exact rfl;exact rfl)|(apply ak;exact rfl;apply dR (b:=a);exact rfl;exact rfl)|(apply ak;exact rfl;apply ib (b:=0#64);exact rfl;exact rfl)|refine sT ?_|refine sS ?_|refine sO ?_|refine sM fun _=> ?_|(refine sC ?_ ?_<;>intro hb<;>try omega)|fail)
 all_goals first|(exfalso;omega)|((refine rT1 ?_);simp;done)|((refine rT1 ?_);rfl)|trace_state
end
section
variable {b:Bk} {x:Bv} {o:Ox} {gb gp go:Nat} {w:World} (ho:Ro w go 0 (bi o)) (hp:Ro w gp 0 [.pointer (some ⟨gb,0,none⟩)]) (hbk:Ro w gb 0 (aU b x)) (hr:BRd w b x)
include ho hp hbk hr
set_option maxHeartbeats 4000000 in
theorem IL:ay Tryz.prog 95 [.pointer (some ⟨go,0,none⟩),.pointer (some ⟨gp,0,none⟩)] w (.bool (tst b o 4)):=by
 refine aq Tryz.func95 rfl Tryz.ntmps95 rfl ?_
 have ht:tst b o 4=(decide (o.kind=9) && (decide (o.idx<0)||decide ((b.grants.length:Int)≤o.idx)||w5 b o)):=rfl
 rw [ht]
 clear ht
 by_cases h1:o.kind=9∧0≤o.idx∧o.idx<(b.grants.length:Int)
 ·
  obtain ⟨h9,hi1,hi2⟩:=h1
  obtain ⟨j,hj⟩: ∃ j:Nat,o.idx=(j:Int):=⟨o.idx.toNat,by omega⟩
  have hjl:j<b.grants.length:=by omega
  rw [DD hj hjl,decide_eq_true h9,decide_eq_false (show ¬ o.idx<0 by omega),decide_eq_false (show ¬ (b.grants.length:Int)≤o.idx by omega),NI,Bool.false_or,Bool.false_or]
  have hg:=hr.g
  obtain ⟨ae1,ar1,ag1,al1,as1,ce1,cr1,cg1,cl1,cs1⟩:=x
  dsimp only at*
  obtain ⟨Ag,cg2,eg,hg1,hg2,hg3⟩:=hg
  cases eg
  obtain ⟨gg,og,rfl,hrg⟩:=hg3 (by omega)
  obtain ⟨_,_,_,_,he⟩:=Gn.ro (hrg.elem bW j hjl)
  generalize b.grants[j].rev=rv at he ⊢
  obtain ⟨us,E,RU,G,L,M,st⟩:=b
  dsimp only at*
  simp only [aU] at hbk
  simp only [bi] at ho
  clear hr
  repeat' (first|(apply aS;exact rfl;apply aL (o:=0) (off:=0);exact ho;exact rfl;exact rfl)|(apply aS;exact rfl;apply aj (j:=j);exact rfl;(rw [← hj];exact rfl);exact hjl)|(apply aS;exact rfl;apply dh;exact rfl;exact he)|refine sT ?_|refine sS ?_|refine sQ ?_|refine sO ?_|refine sOQ ?_|refine sD ?_|refine sM fun _=> ?_|(refine sC ?_ ?_<;>intro hb<;>try omega)|(refine sCQ ?_ ?_<;>intro hb<;>try omega)|fail)
  all_goals first|(exfalso;omega)|((refine rT1 ?_);rfl)|((refine rT1 ?_);simp_all;done)|trace_state
 ·
  have he:(decide (o.kind=9) && (decide (o.idx<0)||decide ((b.grants.length:Int)≤o.idx)||w5 b o))=decide (o.kind=9):=by
   by_cases h9:o.kind=9
   ·
    by_cases hi:o.idx<0
    ·
     simp [hi]
    ·
     have:(b.grants.length:Int)≤o.idx:=by
      have:=fun h=>h1 ⟨h9,h⟩
      omega
     simp [this]
   ·
    simp [h9]
  rw [he]
  clear he
  obtain ⟨us,E,RU,G,L,M,st⟩:=b
  dsimp only at*
  simp only [aU] at hbk
  simp only [bi] at ho
  clear hr
  repeat' (first|(apply aS;exact rfl;apply aL (o:=0) (off:=0);exact ho;exact rfl;exact rfl)|refine sT ?_|refine sS ?_|refine sQ ?_|refine sO ?_|refine sOQ ?_|refine sD ?_|refine sM fun _=> ?_|(refine sC ?_ ?_<;>intro hb<;>try omega)|(refine sCQ ?_ ?_<;>intro hb<;>try omega)|fail)
  all_goals first|(exfalso;omega)|((refine rT1 ?_);simp_all;done)|trace_state
omit hp hbk hr in
theorem IK (h: ∀ w' H,Mem w w' H→ay Tryz.prog 97 [.pointer (some ⟨gb,0,none⟩),.agg (bi o).toArray] w' (.bool (sw b o))) (hp:Ro w gp 0 [.pointer (some ⟨gb,0,none⟩)]):ay Tryz.prog 96 [.pointer (some ⟨gp,0,none⟩),.pointer (some ⟨go,0,none⟩)] w (.bool (tst b o 5)):=by
 refine aq Tryz.func96 rfl Tryz.ntmps96 rfl ?_
 have ht:tst b o 5=sw b o:=rfl
 rw [ht]
 generalize sw b o=c at h ⊢
 repeat' (first|(apply aa (f:=97);exact rfl;exact rfl;(intro w' hm;exact h w' _ hm))|refine sT ?_|refine sS ?_|refine sO ?_|refine sM fun _=> ?_|(refine sC ?_ ?_<;>intro hb<;>try omega)|fail)
 all_goals first|(exfalso;omega)|((refine rT1 ?_);rfl)|trace_state
set_option maxHeartbeats 4000000 in
theorem II {g8:Nat} (h8:Ro w g8 0 (bH (jm o).1)):ay Tryz.prog 100 [.pointer (some ⟨g8,0,none⟩),.pointer (some ⟨go,0,none⟩),.pointer (some ⟨gp,0,none⟩)] w (.bool (tst b o 7)):=by
 refine aq Tryz.func100 rfl Tryz.ntmps100 rfl ?_
 have ht:tst b o 7=((decide (o.kind=5) && decide (1024<nk (jm o).1))||(decide (o.kind=7) && decide (64≤b.rules.length))||(decide (o.kind=8) && decide (64≤b.grants.length))):=rfl
 rw [ht]
 clear ht
 have hA:=fun w=>zm (jm o).1 w
 generalize nk (jm o).1=ar at hA ⊢
 generalize (jm o).1=t at h8 hA
 obtain ⟨us,E,RU,G,L,M,st⟩:=b
 dsimp only at*
 simp only [aU] at hbk
 simp only [bi] at ho
 clear hr
 repeat' (first|(apply ak;exact rfl;apply aL (o:=0) (off:=0);exact ho;exact rfl;exact rfl)|(apply aa;exact rfl;exact rfl;(intro w hm;exact hA w))|refine sT ?_|refine sS ?_|refine sQ ?_|refine sO ?_|refine sOQ ?_|refine sD ?_|refine sM fun _=> ?_|(refine sC ?_ ?_<;>intro hb<;>try omega)|(refine sCQ ?_ ?_<;>intro hb<;>try omega)|fail)
 all_goals first|(exfalso;omega)|((refine rT1 ?_);simp_all;done)|((refine rT1 ?_);simp_all;omega)|trace_state
end
section
variable {b:Bk} {o:Ox} {go gat:Nat} {w0:World} {H:List Blk}
set_option maxHeartbeats 4000000 in
theorem IJ (hW:Words w0) (hgo:In (.box go 37 (bi o)) H):FnIn Tryz.prog 98 [.pointer (some ⟨go,0,none⟩),.pointer (some ⟨gat,0,none⟩)] w0 (.box gat 3 [.int .i64 0]::H) fun v H' =>v= .bool (tst b o 6)∧H' = .box gat 3 [.int .i64 (if tst b o 6 then (ofP o.input).2.1 else 0)]::H:=by
 refine dZ Tryz.func98 rfl Tryz.ntmps98 rfl ?_
 have ht:tst b o 6=(decide (o.kind=3) && decide ((ofP o.input).2.2≠0)):=rfl
 rw [ht]
 clear ht
 have hO:=fun (w' :World) (H' :List Blk) (hm:Mem w0 w' H')=>KU o.input w' (hW.next hm)
 generalize ofP o.input=r at hO ⊢
 obtain ⟨⟨fm,v,t⟩,at_,e⟩:=r
 simp only [ofV,xN] at hO
 dsimp only at*
 by_cases h3:o.kind=3
 ·
  rw [decide_eq_true h3,NI]
  by_cases he:e≠0
  ·
   rw [decide_eq_true he,if_pos rfl]
   repeat' (first|(apply ak;exact rfl;apply dC;exact rfl;exact .tl hgo;exact rfl)|(apply aC (f:=99);exact rfl;exact rfl;(intro w' hm;exact hO w' _ hm);rintro _ _ ⟨A,cap,rfl,rfl⟩)|refine sT ?_|refine sS ?_|refine sM fun _=> ?_|(refine sC ?_ ?_<;>intro hb<;>try omega)|fail)
   all_goals first|(exfalso;omega)|(exact cG eIO rfl rfl (H' := .box gat 3 [.int .i64 at_]::H) mS ⟨congrArg Value.bool (by first|rfl|(simp [he];done)),rfl⟩)|trace_state
  ·
   rw [decide_eq_false he,if_neg (by decide)]
   repeat' (first|(apply ak;exact rfl;apply dC;exact rfl;exact .tl hgo;exact rfl)|(apply aC (f:=99);exact rfl;exact rfl;(intro w' hm;exact hO w' _ hm);rintro _ _ ⟨A,cap,rfl,rfl⟩)|refine sT ?_|refine sS ?_|refine sM fun _=> ?_|(refine sC ?_ ?_<;>intro hb<;>try omega)|fail)
   all_goals first|(exfalso;omega)|(exact cG eIO rfl rfl (H' := .box gat 3 [.int .i64 0]::H) mS ⟨congrArg Value.bool (by first|rfl|(simp [he];done)),rfl⟩)|trace_state
 ·
  rw [decide_eq_false h3,NY,if_neg (by decide)]
  repeat' (first|(apply ak;exact rfl;apply dC;exact rfl;exact .tl hgo;exact rfl)|refine sT ?_|refine sS ?_|refine sM fun _=> ?_|(refine sC ?_ ?_<;>intro hb<;>try omega)|fail)
  all_goals first|(exfalso;omega)|(exact cG eIO rfl rfl (H' := .box gat 3 [.int .i64 0]::H) mS ⟨rfl,rfl⟩)|trace_state
end
theorem AC (o:Ox) (e:Et) (go:Nat) (w:World) (ho:Ro w go 0 (bi o)):ay Tryz.prog 44 [.agg (aB e).toArray,.pointer (some ⟨go,0,none⟩)] w (.bool (dx o.rect e.at_)):=by
 refine aq Tryz.func44 rfl Tryz.ntmps44 rfl ?_
 have h1:=fun w=>Ma o.rect e.at_ w
 generalize dx o.rect e.at_=c at h1 ⊢
 have ho2:=(Ox.ro ho).1
 repeat' (first|(apply aa;exact rfl;exact rfl;(intro w hm;exact h1 w))|refine sT ?_|refine sO ?_|refine sM fun _=> ?_|(refine sC ?_ ?_<;>intro hb<;>try omega)|fail)
 all_goals first|(exfalso;omega)|((refine rT1 ?_);rfl)|trace_state
theorem G6 {L:List Et} {k:Nat} (h:k<L.length):((L.flatMap aB).drop (0+k*3)).take 3=aB L[k]:=by
 rw [Ny];exact ed bg L k h
section
variable (L:List Et) (o:Ox) (go:Nat) (cap:Nat) (R:List Blk) (w0:World)
def gI (o:Ox) (e:Et):Bool:= !dx o.rect e.at_
def HW (o:Ox) (L:List Et):Int:=match L.findIdx? (fun e=>dx o.rect e.at_) with|some i=>(i:Int)|none=> -1
theorem vX {o:Ox} {L:List Et} {i:Nat} (h:i<L.length) (hq:dx o.rect L[i].at_=true) (hno: ∀ j (h:j<L.length),j<i→dx o.rect L[j].at_=false):HW o L=(i:Int)∧L.filter (gI o)=L.take i++(L.drop (i+1)).filter (gI o):=by
 constructor
 ·
  have:L.findIdx? (fun e=>dx o.rect e.at_)=some i:=by
   rw [OW]
   exact ⟨h,hq,fun j hj=>by simpa using hno j (by omega) hj⟩
  unfold HW;rw [this]
 ·
  have h1:(L.take i).filter (gI o)=L.take i:=List.filter_eq_self.2 fun e he=>by
   obtain ⟨j,hj,rfl⟩:=PP.1 he
   rw [Nu] at hj
   rw [P1]
   simp [gI,hno j (by omega) (by omega)]
  conv=>lhs;rw [← N8 i L]
  rw [PW,h1,Nn h,List.filter_cons,if_neg (by simp [gI,hq])]
theorem vY {o:Ox} {L:List Et} (hno: ∀ j (h:j<L.length),dx o.rect L[j].at_=false):HW o L= -1∧L.filter (gI o)=L:=by
 constructor
 ·
  have:L.findIdx? (fun e=>dx o.rect e.at_)=none:=by
   rw [OJ]
   intro e he
   obtain ⟨j,hj,rfl⟩:=PP.1 he
   exact hno j hj
  unfold HW;rw [this]
 ·
  refine List.filter_eq_self.2 fun e he=> ?_
  obtain ⟨j,hj,rfl⟩:=PP.1 he
  simp [gI,hno j hj]
theorem HV (B:Option Addr) (cap:Nat) (fv:Value) (F:List Blk) (w0:World):
  FnIn Tryz.prog 104 [.slice B 0 cap,fv] w0 F fun v H=>v= .int .i64 (-1)∧H=F:=by
 refine dZ Tryz.func104 rfl Tryz.ntmps104 rfl ?_
 repeat' (first|refine sT ?_|refine sS ?_|refine sM fun _=> ?_|(refine sC ?_ ?_<;>intro hb<;>try omega)|fail)
 refine ax [7] rfl (fun _:Unit=> [(8,.int .i64 0)]) (fun _=>F) (fun _=>True) (fun _=>0) () trivial sB mS ?_
 rintro _ _
 repeat' (first|refine sT ?_|refine sS ?_|refine sM fun _=> ?_|(refine sC ?_ ?_<;>intro hb<;>try omega)|fail)
 all_goals first
  |(exfalso;omega)
  |(refine cG eIO rfl rfl (.refl _) ?_;exact ⟨rfl,rfl⟩)
  |trace_state
set_option maxHeartbeats 4000000 in
theorem Kd (g:Nat) (hL:L.length≤1000000) (hgo:In (.box go 37 (bi o)) R):
    FnIn Tryz.prog 104 [.slice (some ⟨g,0,none⟩) L.length cap,.func (.func 44) #[] #[.pointer (some ⟨go,0,none⟩)]] w0 (.own (some g) 52 3 L.length cap (L.flatMap aB)::R) fun v H=>v= .int .i64 (HW o L)∧H= .own (some g) 52 3 L.length cap (L.flatMap aB)::R:=by
  refine dZ Tryz.func104 rfl Tryz.ntmps104 rfl ?_
  have hP:=fun (e:Et) (w' :World) (H:List Blk) (hi:In (.box go 37 (bi o)) H) (hm:Mem w0 w' H)=>AC o e go w' (Ro.of_box hm hi)
  repeat' (first|refine sT ?_|refine sS ?_|refine sM fun _=> ?_|(refine sC ?_ ?_<;>intro hb<;>try omega)|fail)
  refine ax [0,1,7] rfl (fun i:Nat=> [(8,.int .i64 (i:Int))]) (fun _=> .own (some g) 52 3 L.length cap (L.flatMap aB)::R) (fun i=>i≤L.length∧ ∀ j (h:j<L.length),j<i→dx o.rect L[j].at_=false) (fun i=>L.length - i) 0 ⟨by omega,fun j _ h=>by omega⟩ sB mS ?_
  rintro i ⟨hi,hno⟩
  by_cases hlt:i<L.length
  · have hr1:=G6 hlt
    have hP1:=hP L[i]
    obtain ⟨c,hc⟩: ∃ c,dx o.rect L[i].at_=c:=⟨_,rfl⟩
    rw [hc] at hP1
    cases c
    · repeat' (first|(apply ak;exact rfl;apply aj (j:=i);exact rfl;exact rfl;omega)|(apply ak;exact rfl;apply aQ;exact rfl;exact pK;exact hr1;exact rfl)|(apply bI (f:=44);exact rfl;exact rfl;infer_instance;exact rfl;(intro w' hm;exact hP1 w' _ (.tl hgo) hm))|refine sT ?_|refine sS ?_|refine sN ?_|refine sM fun _=> ?_|(refine sC ?_ ?_<;>intro hb<;>try omega)|fail)
      all_goals first
        |(exfalso;omega)
        | (refine ⟨i + 1, ⟨hlt, fun j hj hji => ?_⟩, by omega, by exact sB, by exact sB, by exact mS⟩
           rcases (by omega:j<i∨j=i) with h|rfl
           · exact hno j hj h
           · exact hc)
        |trace_state
    · repeat' (first|(apply ak;exact rfl;apply aj (j:=i);exact rfl;exact rfl;omega)|(apply ak;exact rfl;apply aQ;exact rfl;exact pK;exact hr1;exact rfl)|(apply bI (f:=44);exact rfl;exact rfl;infer_instance;exact rfl;(intro w' hm;exact hP1 w' _ (.tl hgo) hm))|refine sT ?_|refine sS ?_|refine sN ?_|refine sM fun _=> ?_|(refine sC ?_ ?_<;>intro hb<;>try omega)|fail)
      all_goals first
        |(exfalso;omega)
        |(refine cG eIO rfl rfl (.refl _) ?_;rw [(vX hlt hc hno).1];exact ⟨rfl,rfl⟩)
        |trace_state
  · have e:=(vY (o:=o) (L:=L) fun j hj=>hno j hj (by omega)).1
    repeat' (first|refine sT ?_|refine sS ?_|refine sM fun _=> ?_|(refine sC ?_ ?_<;>intro hb<;>try omega)|fail)
    all_goals first
      |(exfalso;omega)
      |(refine cG eIO rfl rfl (.refl _) ?_;rw [e];exact ⟨rfl,rfl⟩)
      |trace_state
set_option maxHeartbeats 8000000 in
theorem Kr (A:Option Nat) (hL:L.length≤1000000) (hgo:In (.box go 37 (bi o)) R):
    FnIn Tryz.prog 43 [sl A L.length cap,.func (.func 44) #[] #[.pointer (some ⟨go,0,none⟩)]] w0 (.own A 52 3 L.length cap (L.flatMap aB)::R) fun v H=>v=sl A (L.filter (gI o)).length cap∧H= .own A 52 3 (L.filter (gI o)).length cap ((L.filter (gI o)).flatMap aB)::R:=by
  refine dZ Tryz.func43 rfl Tryz.ntmps43 rfl ?_
  refine K7 (A:=A) .hd fun hle=> ?_
  rcases N9 L.length with h0|hpos
  · have e:L= []:=NK h0
    subst e
    have hI:=HV (A.map fun g=>⟨g,0,none⟩) cap (.func (.func 44) #[] #[.pointer (some ⟨go,0,none⟩)]) (.own A 52 3 0 cap []::R) w0
    repeat' (first|(apply aw (f:=104);exact rfl;exact rfl;exact hI;rintro _ _ ⟨rfl,rfl⟩)|refine sT ?_|refine sS ?_|refine sN ?_|refine sM fun _=> ?_|(refine sC ?_ ?_<;>intro hb<;>try omega)|fail)
    all_goals first
      |(exfalso;omega)
      |(refine cG eIO rfl rfl (.refl _) ?_;exact ⟨rfl,rfl⟩)
      |trace_state
  · refine eG (A:=A) .hd hpos fun g hA=> ?_
    subst hA
    have hP:=fun (e:Et) (w' :World) (H:List Blk) (hi:In (.box go 37 (bi o)) H) (hm:Mem w0 w' H)=>AC o e go w' (Ro.of_box hm hi)
    have hI:=Kd L o go cap R w0 g hL hgo
    rcases hfi:L.findIdx? (fun e=>dx o.rect e.at_) with _|k
    · have hno: ∀ j (h:j<L.length),dx o.rect L[j].at_=false:=fun j hj=>by
        simpa using OJ.1 hfi L[j] (NW hj)
      obtain ⟨e1,e2⟩:=vY (o:=o) (L:=L) hno
      rw [e1] at hI
      rw [e2]
      repeat' (first|(apply aw (f:=104);exact rfl;exact rfl;exact hI;rintro _ _ ⟨rfl,rfl⟩)|refine sT ?_|refine sS ?_|refine sN ?_|refine sM fun _=> ?_|(refine sC ?_ ?_<;>intro hb<;>try omega)|fail)
      all_goals first
        |(exfalso;omega)
        |(refine cG eIO rfl rfl (.refl _) ?_;exact ⟨rfl,rfl⟩)
        |trace_state
    · obtain ⟨hkl,hq,hno⟩:=OW.1 hfi
      obtain ⟨e1,e2⟩:=vX (o:=o) (L:=L) hkl hq fun j hj hjk=>by simpa using hno j hjk
      rw [e1] at hI
      rw [e2]
      repeat' (first|(apply aw (f:=104);exact rfl;exact rfl;exact hI;rintro _ _ ⟨rfl,rfl⟩)|refine sT ?_|refine sS ?_|refine sN ?_|refine sM fun _=> ?_|(refine sC ?_ ?_<;>intro hb<;>try omega)|fail)
      all_goals try (exfalso;omega)
      refine ax [0,1] rfl (fun y:Nat × Nat × List Et=> [(6,.int .i64 (y.1:Int)),(5,.int .i64 (y.2.1:Int))]) (fun y=> .own (some g) 52 3 L.length cap (y.2.2.flatMap aB)::R) (fun y=>k+1≤y.1∧y.1≤L.length∧y.2.1<y.1∧y.2.2.length=L.length∧y.2.2.take y.2.1=L.take k++((L.drop (k+1)).take (y.1 - (k+1))).filter (gI o)∧ ∀ j,y.1≤j→y.2.2[j]? =L[j]?) (fun y=>L.length - y.1) (k+1,k,L) ⟨Ni _,by omega,Pn k,rfl,by simp,fun _ _=>rfl⟩ sB mS ?_
      rintro ⟨j,i,ys⟩ ⟨hj1,hj2,hij,hyl,hyt,hyj⟩
      dsimp only at hj1 hj2 hij hyl hyt hyj ⊢
      by_cases hlt:j<L.length
      · have hjy:j<ys.length:=by omega
        have hr1:=G6 (L:=ys) hjy
        have he1:ys[j]=L[j]:=by
          have:=hyj j (by omega)
          rw [Nc hjy,Nc hlt] at this
          exact Option.some.inj this
        rw [he1] at hr1
        have hst:((L.drop (k+1)).take (j+1 - (k+1))).filter (gI o)=((L.drop (k+1)).take (j - (k+1))).filter (gI o)++(if gI o L[j] then [L[j]] else []):=by
          rw [show j+1 - (k+1)=j - (k+1)+1 by omega,Nk (by rw [Nq];omega),PW,List.getElem_drop]
          congr 1
          rw [show L[k+1+(j - (k+1))]'(by omega)=L[j] by congr 1;omega,List.filter_cons,List.filter_nil]
        have hP1:=hP L[j]
        obtain ⟨c,hc⟩: ∃ c,dx o.rect L[j].at_=c:=⟨_,rfl⟩
        rw [hc] at hP1
        cases c with
        |true=>
          rw [if_neg (by simp [gI,hc]),Nl] at hst
          repeat' (first|(apply ak;exact rfl;apply aj (j:=j);exact rfl;exact rfl;omega)|(apply ak;exact rfl;apply aQ;exact rfl;exact pK;exact hr1;exact rfl)|(apply bI (f:=44);exact rfl;exact rfl;infer_instance;exact rfl;(intro w' hm;exact hP1 w' _ (.tl (.tl hgo)) hm))|refine sT ?_|refine sS ?_|refine sN ?_|refine sM fun _=> ?_|(refine sC ?_ ?_<;>intro hb<;>try omega)|fail)
          all_goals first
            |(exfalso;omega)
            |(refine ⟨(j+1,i,ys),⟨by dsimp only;omega,by dsimp only;omega,by dsimp only;omega,hyl,by dsimp only;rw [hyt,hst],fun t ht=>hyj t (by dsimp only at ht;omega)⟩,by dsimp only;omega,by exact sB,by exact sB,by exact mS⟩;done)
            |trace_state
        |false=>
          rw [if_pos (by simp [gI,hc])] at hst
          have hput:=zT bg ys i (by omega) L[j]
          repeat' (first|(apply ak;exact rfl;apply aj (j:=j);exact rfl;exact rfl;omega)|(apply ak;exact rfl;apply aj (j:=i);exact rfl;exact rfl;omega)|(apply ak;exact rfl;apply aQ;exact rfl;exact pK;exact hr1;exact rfl)|(apply bI (f:=44);exact rfl;exact rfl;infer_instance;exact rfl;(intro w' hm;exact hP1 w' _ (.tl (.tl hgo)) hm))|(apply rI (vs:=aB L[j]) (off:=0+i*3);exact rfl;exact rfl;exact pK;exact rfl;exact rfl;(intro u hu;simp [aB] at hu;rcases hu with rfl|rfl|rfl<;>rfl);(rw [aK bg,hyl];omega);rw [Ny,hput])|refine sT ?_|refine sS ?_|refine sN ?_|refine sM fun _=> ?_|(refine sC ?_ ?_<;>intro hb<;>try omega)|fail)
          all_goals first
            |(exfalso;omega)
            | (refine ⟨(j + 1, i + 1, ys.set i L[j]), ⟨by dsimp only; omega, by dsimp only; omega, by dsimp only; omega, by dsimp only; rw [List.length_set, hyl], ?_, fun t ht => ?_⟩, by dsimp only; omega, by exact sB, by exact sB, by exact mS⟩
               · dsimp only
                 rw [Nk (by rw [Ph];omega),List.take_set_of_le (Ni _),hyt,List.getElem_set_self,hst,NG]
               · dsimp only at ht ⊢
                 rw [List.getElem?_set_ne (by omega)]
                 exact hyj t (by omega))
            |trace_state
      · have hjl:j=L.length:=by omega
        have htk:(L.drop (k+1)).take (L.length - (k+1))=L.drop (k+1):=NQ (by rw [Nq];exact Ni _)
        rw [hjl,htk] at hyt
        have hcl:(L.take k++(L.drop (k+1)).filter (gI o)).length=i:=by rw [← hyt,Nu,hyl];omega
        have hiL:i<L.length:=by omega
        repeat' (first|(apply ak;exact rfl;apply pN (lo:=i);exact rfl;exact rfl;omega;exact hle)|(apply yn (sz:=3) (k:=i) (n' :=L.length);exact rfl;omega;exact pK;(intro u hu;simp [Value.cells] at hu;rcases hu with rfl|rfl<;>rfl);exact rfl)|(apply ak;exact rfl;apply vu (hi:=i);exact rfl;exact rfl;omega)|refine sT ?_|refine sS ?_|refine sN ?_|refine sM fun _=> ?_|(refine sC ?_ ?_<;>intro hb<;>try omega)|fail)
        all_goals first
          |(exfalso;omega)
          | (refine cG eIO rfl rfl (H' := .own (some g) 52 3 i cap ((ys.flatMap aB).take (i * 3)) :: R) mS ?_
             rw [jd bg,hyt,hcl]
             exact ⟨rfl,rfl⟩)
          |trace_state
end
end Go.SL
namespace Go.SL
open Go
structure BkOk (b:Bk):Prop where
 u:1≤b.users∧b.users≤64
 e:(gG b.ents).2=0
 r:(iF b.users b.rules).2=0
 g:(kB b.users b.grants).2=0
 l:qd b.users b.log b.rels=0
 s:0≤b.step∧b.step≤1099511627776
 le:m8 b.step b.log=false
 lr:m7 b.step b.rels=false
theorem LY {b:Bk}:bkE b=0↔BkOk b:=by
 constructor
 ·
  intro h
  unfold bkE at h
  split at h
  ·
   cases h
  split at h
  ·
   rename_i h2;exact absurd h h2
  split at h
  ·
   rename_i h2;exact absurd h h2
  split at h
  ·
   rename_i h2;exact absurd h h2
  split at h
  ·
   rename_i h2;exact absurd h h2
  split at h
  ·
   cases h
  split at h
  ·
   cases h
  split at h
  ·
   cases h
  exact ⟨by omega,by omega,by omega,by omega,by omega,by omega,by simp_all,by simp_all⟩
 ·
  intro h
  have h1:=h.u
  have h2:=h.s
  unfold bkE
  rw [if_neg (by omega),if_neg (by rw [h.e];decide),if_neg (by rw [h.r];decide),if_neg (by rw [h.g];decide),if_neg (by rw [h.l];decide),if_neg (by omega),if_neg (by rw [h.le];decide),if_neg (by rw [h.lr];decide)]
def WiU (u:Int) (x:BitVec 64):Prop:=x &&& ~~~(df u).1=0#64
theorem qP {u:Int}: ∀ {L:List Rl} {i:Int},(fS u L i).2=0↔ ∀ r∈L,aI r.rect=true∧WiU u (r.read|||r.write|||r.own)
 | [],_=>⟨fun _ _ h=>(by cases h),fun _=>rfl⟩
 |r::L,i=>by
  rw [fS]
  split
  ·
   rename_i h
   exact ⟨fun h=>(by cases h),fun h2=>by rw [(h2 r Nj).1] at h;cases h⟩
  split
  ·
   rename_i h
   exact ⟨fun h=>(by cases h),fun h2=>absurd (h2 r Nj).2 h⟩
  ·
   rename_i h1 h2
   rw [qP (L:=L)]
   refine ⟨fun h r' hr=> ?_,fun h r' hr=>h r' (Nv _ hr)⟩
   rcases NA.1 hr with rfl|hr
   ·
    exact ⟨by simpa using h1,Classical.not_not.1 h2⟩
   ·
    exact h r' hr
theorem xV {u:Int} {L:List Rl}:(iF u L).2=0↔(1≤u∧u≤64)∧L≠ []∧L.length≤64∧L.head?.map (fun x=>x.rect)=some lH∧ ∀ r∈L,aI r.rect=true∧WiU u (r.read|||r.write|||r.own):=by
 unfold iF
 split
 ·
  rename_i h
  refine ⟨fun h=>(by cases h),fun h2=> ?_⟩
  rcases h with h|h|h|h
  ·
   omega
  ·
   omega
  ·
   omega
  ·
   exact absurd h h2.2.1
 rename_i h1
 have hL:L≠ []:=fun e=>h1 (.inr (.inr (.inr e)))
 have hu:1≤u∧u≤64:=by omega
 split
 ·
  exact ⟨fun h=>(by cases h),fun h2=>by omega⟩
 split
 ·
  rename_i h3;exact ⟨fun h=>(by cases h),fun h2=>absurd h2.2.2.2.1 h3⟩
 ·
  rename_i h2 h3
  rw [qP]
  exact ⟨fun h=>⟨hu,hL,by omega,Decidable.not_not.1 h3,h⟩,fun h=>h.2.2.2.2⟩
theorem qF {u:Int}: ∀ {L:List Gn} {i:Int},(fQ u L i).2=0↔ ∀ g∈L,aI g.rect=true∧H4 u g=true
 | [],_=>⟨fun _ _ h=>(by cases h),fun _=>rfl⟩
 |r::L,i=>by
  rw [fQ]
  split
  ·
   rename_i h
   exact ⟨fun h=>(by cases h),fun h2=>by rw [(h2 r Nj).1] at h;cases h⟩
  split
  ·
   rename_i h
   exact ⟨fun h=>(by cases h),fun h2=>by rw [(h2 r Nj).2] at h;cases h⟩
  ·
   rename_i h1 h2
   rw [qF (L:=L)]
   refine ⟨fun h r' hr=> ?_,fun h r' hr=>h r' (Nv _ hr)⟩
   rcases NA.1 hr with rfl|hr
   ·
    exact ⟨by simpa using h1,by simpa using h2⟩
   ·
    exact h r' hr
theorem Kg {u:Int} {L:List Gn}:(kB u L).2=0↔(1≤u∧u≤64)∧L.length≤64∧ ∀ g∈L,aI g.rect=true∧H4 u g=true:=by
 unfold kB
 split
 ·
  exact ⟨fun h=>(by cases h),fun h2=>by omega⟩
 split
 ·
  exact ⟨fun h=>(by cases h),fun h2=>by omega⟩
 ·
  rw [qF]
  exact ⟨fun h=>⟨by omega,by omega,h⟩,fun h=>h.2.2⟩
def qJ (last:Int):List Ev→Int
 | []=>last
 |x::l=>qJ x.step l
theorem Ah: ∀ (L:List Ev) (last:Int),qJ last L=if L.length=0 then last else ((L[L.length - 1]?).map Ev.step).getD 0
 | [],_=>rfl
 | [x],_=>rfl
 |x::y::L,last=>by
  have ih:=Ah (y::L) x.step
  rw [show qJ last (x::y::L)=qJ x.step (y::L) from rfl,ih]
  simp
theorem D6 {u:Int} {L:List Ev} {M:List Rv}:qd u L M=0↔(1≤u∧u≤64)∧eV (df u).1 (-1) L=0∧fA (df u).1 (-1) M=0:=by
 unfold qd
 split
 ·
  exact ⟨fun h=>(by cases h),fun h=>by omega⟩
 split
 ·
  rename_i h;exact ⟨fun h2=>absurd h2 h,fun h2=>absurd h2.2.1 h⟩
 ·
  exact ⟨fun h=>⟨by omega,by omega,h⟩,fun h=>h.2.2⟩
theorem IX {b:Bk} {o:Ox} (h:(cdE b o).1=0∨(cdE b o).1=5): ∀ j,j<5→tst b o j=false:=by
 unfold cdE at h
 have hno: ∀ {x y:Int},x≠0→x≠5→ ¬ ((x,y).1=0∨(x,y).1=5):=fun h0 h5 h=>h.elim h0 h5
 split at h
 ·
  exact absurd h (hno (by decide) (by decide))
 split at h
 ·
  exact absurd h (hno (by decide) (by decide))
 split at h
 ·
  exact absurd h (hno (by decide) (by decide))
 split at h
 ·
  exact absurd h (hno (by decide) (by decide))
 split at h
 ·
  exact absurd h (hno (by decide) (by decide))
 rename_i h0 h1 h2 h3 h4
 intro j hj
 rcases (by omega:j=0∨j=1∨j=2∨j=3∨j=4) with rfl|rfl|rfl|rfl|rfl
 ·
  simpa using h0
 ·
  simpa using h1
 ·
  simpa using h2
 ·
  simpa using h3
 ·
  simpa using h4
theorem DZ {b:Bk} {o:Ox} (h:(cdE b o).1=0): ∀ j,j<8→tst b o j=false:=by
 have hf:=IX (.inl h)
 unfold cdE at h
 rw [if_neg (by rw [hf 0 (by decide)];decide),if_neg (by rw [hf 1 (by decide)];decide),if_neg (by rw [hf 2 (by decide)];decide),if_neg (by rw [hf 3 (by decide)];decide),if_neg (by rw [hf 4 (by decide)];decide)] at h
 split at h
 ·
  exact absurd h (by decide)
 split at h
 ·
  exact absurd h (by dsimp only;decide)
 split at h
 ·
  exact absurd h (by decide)
 rename_i h5 h6 h7
 intro j hj
 by_cases hj5:j<5
 ·
  exact hf j hj5
 rcases (by omega:j=5∨j=6∨j=7) with rfl|rfl|rfl
 ·
  simpa using h5
 ·
  simpa using h6
 ·
  simpa using h7
theorem Lp {b:Bk} {o:Ox} (h:tst b o 0=false):opE o=0:=by
 simp only [tst,decide_eq_false_iff_not] at h
 exact Decidable.not_not.1 h
theorem Hx {o:Ox} (h:opE o=0) (hk:o.kind≠3):o.input=au:=by
 unfold opE at h
 split at h
 ·
  cases h
 rename_i h1
 have h2:o=dM o:=Classical.not_not.1 fun hn=>h1 (.inr (.inr hn))
 have h3:=congrArg Ox.input h2
 rw [h3]
 unfold dM
 split
 ·
  rfl
 ·
  first|(dsimp only;done)|(dsimp only;rw [if_neg hk])
end Go.SL

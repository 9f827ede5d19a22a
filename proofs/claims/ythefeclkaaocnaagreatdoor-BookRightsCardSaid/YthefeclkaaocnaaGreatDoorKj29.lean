/-
  Lemmas and walks, put together: Fp Na Ig Ih Sl37 Ij.
-/
import Derived.Test.YthefeclkaaocnaaGreatDoorKj28
set_option linter.unusedSimpArgs false
set_option linter.unusedVariables false
set_option maxRecDepth 20000
namespace Go.SL
open Go Go.Proofs Go.ChangeShapes Go.WideShapes Go.ChangeAt Go.RowKit Go.Deep
section
variable {H:Type} {enc:TypeId × Value→H} {w:World} {base:Nat} {spare:Nat→Bool} {held:Bool}
set_option maxRecDepth 100000 in
theorem Kl {fuel:Nat} {cs:List Value} {x:DataW H × List MemPlace} (h:DataW.trod enc Tryz.prog w base spare held fuel 41 cs=some x): ∃ v:Ox,cs=bu v:=by
 obtain ⟨xs,n,_,_,hlen,hxl,hf⟩:=DataW.trod_struct Tryz.underlying41 h
 have eS:Tryz.prog.cellsOf 41=13:=by kernel_rfl
 have e_R:Tryz.prog.cellsOf 33=4:=by kernel_rfl
 have e_T:Tryz.prog.cellsOf 36=3:=by kernel_rfl
 have e_c:Tryz.prog.cellsOf 5=1:=by kernel_rfl
 have e_i:Tryz.prog.cellsOf 3=1:=by kernel_rfl
 have e_s:Tryz.prog.cellsOf 34=1:=by kernel_rfl
 have e_t:Tryz.prog.cellsOf 9=1:=by kernel_rfl
 rw [eS] at hlen
 match cs,hlen,xs,hxl with
 | [c0,c1,c2,c3,c4,c5,c6,c7,c8,c9,c10,c11,c12],_,[x0,x1,x2,x3,x4,x5,x6,x7],_=>
  have h0:DataW.trod enc Tryz.prog w base spare held n 5 ((([c0,c1,c2,c3,c4,c5,c6,c7,c8,c9,c10,c11,c12]:List Value).drop 0).take (Tryz.prog.cellsOf 5))=some x0:=hf 0 _ rfl
  rw [e_c] at h0
  obtain ⟨a0,rfl⟩:=pL (c:=c0) h0
  have h1:DataW.trod enc Tryz.prog w base spare held n 3 ((([(.int .u8 a0:Value),c1,c2,c3,c4,c5,c6,c7,c8,c9,c10,c11,c12]:List Value).drop 1).take (Tryz.prog.cellsOf 3))=some x1:=hf 1 _ rfl
  rw [e_i] at h1
  obtain ⟨a1,rfl,_⟩:=fF (c:=c1) h1
  have h2:DataW.trod enc Tryz.prog w base spare held n 33 ((([(.int .u8 a0:Value),(.int .i64 a1:Value),c2,c3,c4,c5,c6,c7,c8,c9,c10,c11,c12]:List Value).drop 2).take (Tryz.prog.cellsOf 33))=some x2:=hf 2 _ rfl
  rw [e_R] at h2
  obtain ⟨a2,q,_⟩:=lh (cs:= [c2,c3,c4,c5]) h2
  simp only [bQ,List.cons.injEq,and_true] at q
  obtain ⟨rfl,rfl,rfl,rfl⟩:=q
  have h3:DataW.trod enc Tryz.prog w base spare held n 9 ((([(.int .u8 a0:Value),(.int .i64 a1:Value),(.int .i64 a2.c1:Value),(.int .i64 a2.r1:Value),(.int .i64 a2.c2:Value),(.int .i64 a2.r2:Value),c6,c7,c8,c9,c10,c11,c12]:List Value).drop 6).take (Tryz.prog.cellsOf 9))=some x3:=hf 3 _ rfl
  rw [e_t] at h3
  obtain ⟨a3,rfl⟩:=L6 (c:=c6) h3
  have h4:DataW.trod enc Tryz.prog w base spare held n 36 ((([(.int .u8 a0:Value),(.int .i64 a1:Value),(.int .i64 a2.c1:Value),(.int .i64 a2.r1:Value),(.int .i64 a2.c2:Value),(.int .i64 a2.r2:Value),(.string a3:Value),c7,c8,c9,c10,c11,c12]:List Value).drop 7).take (Tryz.prog.cellsOf 36))=some x4:=hf 4 _ rfl
  rw [e_T] at h4
  obtain ⟨a4,q⟩:=rm (cs:= [c7,c8,c9]) h4
  simp only [Jp,List.cons.injEq,and_true] at q
  obtain ⟨rfl,rfl,rfl⟩:=q
  have h5:DataW.trod enc Tryz.prog w base spare held n 5 ((([(.int .u8 a0:Value),(.int .i64 a1:Value),(.int .i64 a2.c1:Value),(.int .i64 a2.r1:Value),(.int .i64 a2.c2:Value),(.int .i64 a2.r2:Value),(.string a3:Value),(vS a4.1:Value),(vS a4.2.1:Value),(vS a4.2.2:Value),c10,c11,c12]:List Value).drop 10).take (Tryz.prog.cellsOf 5))=some x5:=hf 5 _ rfl
  rw [e_c] at h5
  obtain ⟨a5,rfl⟩:=pL (c:=c10) h5
  have h6:DataW.trod enc Tryz.prog w base spare held n 34 ((([(.int .u8 a0:Value),(.int .i64 a1:Value),(.int .i64 a2.c1:Value),(.int .i64 a2.r1:Value),(.int .i64 a2.c2:Value),(.int .i64 a2.r2:Value),(.string a3:Value),(vS a4.1:Value),(vS a4.2.1:Value),(vS a4.2.2:Value),(.int .u8 a5:Value),c11,c12]:List Value).drop 11).take (Tryz.prog.cellsOf 34))=some x6:=hf 6 _ rfl
  rw [e_s] at h6
  obtain ⟨a6,rfl⟩:=jN (c:=c11) h6
  have h7:DataW.trod enc Tryz.prog w base spare held n 3 ((([(.int .u8 a0:Value),(.int .i64 a1:Value),(.int .i64 a2.c1:Value),(.int .i64 a2.r1:Value),(.int .i64 a2.c2:Value),(.int .i64 a2.r2:Value),(.string a3:Value),(vS a4.1:Value),(vS a4.2.1:Value),(vS a4.2.2:Value),(.int .u8 a5:Value),(vS a6:Value),c12]:List Value).drop 12).take (Tryz.prog.cellsOf 3))=some x7:=hf 7 _ rfl
  rw [e_i] at h7
  obtain ⟨a7,rfl,_⟩:=fF (c:=c12) h7
  exact ⟨⟨a0,a1,a2,a3,a4.1,a4.2.1,a4.2.2,a5,a6,a7⟩,rfl⟩
set_option maxRecDepth 100000 in
theorem FO {v:Value} {d:DataW H} {p:List MemPlace} (hv:Value.okWide Tryz.prog w .any base 65 v) (h:DataW.Trod enc Tryz.prog w 0 spare held 65 v d p): ∃ L:List Rf,Reads w v L.length (L.flatMap cu)∧ ∀ a∈L,okF a:=
 FP Tryz.underlying65 (by kernel_rfl) (by decide) Ba (fun _ _ _ h=>tN h) hv h
set_option maxRecDepth 100000 in
theorem KD {v:Value} {d:DataW H} {p:List MemPlace} (hv:Value.okWide Tryz.prog w .any base 41 v) (h:DataW.Trod enc Tryz.prog w 0 spare held 41 v d p): ∃ o:Ox,v= .agg (bu o).toArray:=by
 obtain ⟨fuel,hf⟩:=h
 obtain ⟨cs,rfl,_⟩:=okWide_struct Tryz.underlying41 hv
 obtain ⟨r,e⟩:=Kl hf
 exact ⟨r,by rw [← e];simp [Value.cells]⟩
end
end Go.SL
namespace Go.SL
open Go Go.Proofs
attribute [local irreducible] W WL WQ WG WA WX WLI WR WT WC WE VOp RW thn blk bG scp bg bi bT aQ FnIn FnP ceP
instance fldRt0:FldT Tryz.prog 36 0 34 0:=⟨_,_,Tryz.underlying36,rfl,rfl,rfl⟩
instance fldRt1:FldT Tryz.prog 36 1 34 1:=⟨_,_,Tryz.underlying36,rfl,rfl,rfl⟩
instance fldRt2:FldT Tryz.prog 36 2 34 2:=⟨_,_,Tryz.underlying36,rfl,rfl,rfl⟩
theorem Ox.ro {w:World} {g o:Nat} {x:Ox} (h:Ro w g o (bu x)):Ro w g (o+2) (bQ x.rect)∧Ro w g (o+7) [vS x.rd,vS x.wr,vS x.ow]:=
 ⟨(h.drop (k:=2)).take (k:=4),(h.drop (k:=7)).take (k:=3)⟩
set_option maxHeartbeats 4000000 in
theorem Gj (b:Bk) (x:Bv) (r:Rct) (gp gb:Nat) (w:World) (hp:Ro w gp 0 [.pointer (some ⟨gb,0,none⟩)]) (hbk:Ro w gb 0 (aW b x)) (hr:BRd w b x):
  ax Tryz.prog 155 [.agg (bQ r).toArray,.pointer (some ⟨gp,0,none⟩)] w (.agg #[vS (ovE r b.rules).1.1,vS (ovE r b.rules).1.2.1,vS (ovE r b.rules).1.2.2]):=by
 refine aq Tryz.func155 rfl Tryz.ntmps155 rfl ?_
 have h1:=fun (w' :World) (H:List Blk) (hm:Mem w w' H)=>yF r b.rules _ w' (hr.r.of_w0 hm)
 generalize (ovE r b.rules).2=e at h1
 generalize (ovE r b.rules).1.1=s1 at h1 ⊢
 generalize (ovE r b.rules).1.2.1=s2 at h1 ⊢
 generalize (ovE r b.rules).1.2.2=s3 at h1 ⊢
 obtain ⟨us,E,RU,G,L,M,st⟩:=b
 obtain ⟨ae1,ar1,ag1,al1,as1,ce1,cr1,cg1,cl1,cs1⟩:=x
 dsimp only at*
 simp only [aW] at hbk
 repeat' (first|refine sT ?_|refine sS ?_|refine sO ?_|refine sM fun _=> ?_|(refine sC ?_ ?_<;>intro hb<;>try omega)|fail)
 rename_i g2 g3
 refine xx (id:=1) [5,9,10] [.box g2 33 (bQ r),.box g3 36 [.int .u64 0,.int .u64 0,.int .u64 0]] 12 rfl rfl mS ?_
 repeat' (first|(apply gM (i:=1);(iterate 4 exact rfl);decide+kernel;decide+kernel;decide+kernel;apply gy;exact rfl;exact hp)|(apply gM (i:=4);(iterate 4 exact rfl);decide+kernel;decide+kernel;decide+kernel;apply cI;exact rfl;exact hbk;exact rfl)|(apply gM (i:=0);(iterate 4 exact rfl);decide+kernel;decide+kernel;decide+kernel;(exact vC))|(apply gM (i:=2);(iterate 4 exact rfl);decide+kernel;decide+kernel;decide+kernel;(exact vC))|(apply gM (i:=3);(iterate 4 exact rfl);decide+kernel;decide+kernel;decide+kernel;(exact vC))|(apply gM (i:=6);(iterate 4 exact rfl);decide+kernel;decide+kernel;decide+kernel;(exact vC))|(apply gM (i:=7);(iterate 4 exact rfl);decide+kernel;decide+kernel;decide+kernel;(exact vC))|(apply gM (i:=8);(iterate 4 exact rfl);decide+kernel;decide+kernel;decide+kernel;(exact vC))|(apply gM (i:=11);(iterate 4 exact rfl);decide+kernel;decide+kernel;decide+kernel;(apply mN;exact rfl))|(apply kF (i:=5) (j:=9);(iterate 6 exact rfl);decide+kernel)|(apply gq (i:=5);(iterate 3 exact rfl);decide+kernel)|(apply gq (i:=9);(iterate 3 exact rfl);decide+kernel)|(apply gq (i:=10);(iterate 3 exact rfl);decide+kernel)|(apply xv;decide+kernel)|(apply JG;(focus (exact mS;done)))|(apply aa (f:=30);exact rfl;exact rfl;(intro w' hm;exact h1 w' _ hm))|refine sT ?_|refine sS ?_|refine sO ?_|refine sM fun _=> ?_|(refine sC ?_ ?_<;>intro hb<;>try omega)|fail)
 all_goals first
  |(exfalso;omega)
  |((refine eRC ?_);rfl)
  |trace_state
def xM (b:Bk) (o:Ox):Bool:=
 if o.kind=3∨o.kind=4 then !eU (ovE o.rect b.rules).1.2.1 o.user
 else if o.kind=6 then !eU (ovE o.rect b.rules).1.1 o.user
 else if o.kind=7∨o.kind=8 then !eU (ovE o.rect b.rules).1.2.2 o.user
 else if o.kind=9 then (match b.grants[o.idx.toNat]? with|some g=>decide (g.by_≠o.user) && !eU (ovE g.rect b.rules).1.2.2 o.user|none=>false)
 else false
set_option maxHeartbeats 16000000 in
theorem tY (b:Bk) (x:Bv) (o:Ox) (gb:Nat) (w:World) (hbk:Ro w gb 0 (aW b x)) (hr:BRd w b x) (hi:o.kind=9→0≤o.idx∧o.idx<(b.grants.length:Int)):
  ax Tryz.prog 118 [.pointer (some ⟨gb,0,none⟩),.agg (bu o).toArray] w (.bool (xM b o)):=by
 refine aq Tryz.func118 rfl Tryz.ntmps118 rfl ?_
 have hO:=fun (r:Rct) (gp:Nat) (w' :World) (H:List Blk) (hi:In (.box gp 123 [.pointer (some ⟨gb,0,none⟩)]) H) (hm:Mem w w' H)=>Gj b x r gp gb w' (Ro.of_box hm hi) (hbk.next hm) (hr.of_w0 hm)
 unfold xM
 have hH:=fun (s:BitVec 64) w' =>qw s o.user w'
 by_cases k1:o.kind=3∨o.kind=4
 ·
  rw [if_pos k1]
  have hO1:=hO o.rect
  clear hO
  generalize (ovE o.rect b.rules).1.1=s1 at hO1 ⊢
  generalize (ovE o.rect b.rules).1.2.1=s2 at hO1 ⊢
  generalize (ovE o.rect b.rules).1.2.2=s3 at hO1 ⊢
  repeat' (first|(apply bZ (id:=5) [3,7] [];kernel_rfl;kernel_rfl;kernel_rfl)|(apply cC;(iterate 3 exact rfl);apply cU;exact rfl;exact rfl)|(apply bH (f:=155);exact rfl;exact rfl;infer_instance;exact rfl;(intro w' hm;exact hO1 _ w' _ pK hm))|(apply aa (f:=109);exact rfl;exact rfl;(intro w' _;exact hH _ w'))|refine sT ?_|refine sS ?_|refine sW ?_|refine sM fun _=> ?_|(refine sC ?_ ?_<;>intro hb<;>try omega)|(refine sCW ?_ ?_<;>intro hb<;>try omega)|fail)
  all_goals first|(exfalso;omega)|((refine rT1 ?_);rfl)|trace_state
 rw [if_neg k1]
 by_cases k2:o.kind=6
 ·
  rw [if_pos k2]
  have hO1:=hO o.rect
  clear hO
  generalize (ovE o.rect b.rules).1.1=s1 at hO1 ⊢
  generalize (ovE o.rect b.rules).1.2.1=s2 at hO1 ⊢
  generalize (ovE o.rect b.rules).1.2.2=s3 at hO1 ⊢
  repeat' (first|(apply bZ (id:=7) [3,7] [];kernel_rfl;kernel_rfl;kernel_rfl)|(apply cC;(iterate 3 exact rfl);apply cU;exact rfl;exact rfl)|(apply bH (f:=155);exact rfl;exact rfl;infer_instance;exact rfl;(intro w' hm;exact hO1 _ w' _ pK hm))|(apply aa (f:=109);exact rfl;exact rfl;(intro w' _;exact hH _ w'))|refine sT ?_|refine sS ?_|refine sW ?_|refine sM fun _=> ?_|(refine sC ?_ ?_<;>intro hb<;>try omega)|(refine sCW ?_ ?_<;>intro hb<;>try omega)|fail)
  all_goals first|(exfalso;omega)|((refine rT1 ?_);rfl)|trace_state
 rw [if_neg k2]
 by_cases k3:o.kind=7∨o.kind=8
 ·
  rw [if_pos k3]
  have hO1:=hO o.rect
  clear hO
  generalize (ovE o.rect b.rules).1.1=s1 at hO1 ⊢
  generalize (ovE o.rect b.rules).1.2.1=s2 at hO1 ⊢
  generalize (ovE o.rect b.rules).1.2.2=s3 at hO1 ⊢
  repeat' (first|(apply bZ (id:=10) [3,7] [];kernel_rfl;kernel_rfl;kernel_rfl)|(apply cC;(iterate 3 exact rfl);apply cU;exact rfl;exact rfl)|(apply bH (f:=155);exact rfl;exact rfl;infer_instance;exact rfl;(intro w' hm;exact hO1 _ w' _ pK hm))|(apply aa (f:=109);exact rfl;exact rfl;(intro w' _;exact hH _ w'))|refine sT ?_|refine sS ?_|refine sW ?_|refine sM fun _=> ?_|(refine sC ?_ ?_<;>intro hb<;>try omega)|(refine sCW ?_ ?_<;>intro hb<;>try omega)|fail)
  all_goals first|(exfalso;omega)|((refine rT1 ?_);rfl)|trace_state
 rw [if_neg k3]
 by_cases k4:o.kind=9
 ·
  rw [if_pos k4]
  obtain ⟨hi1,hi2⟩:=hi k4
  obtain ⟨j,hj⟩: ∃ j:Nat,o.idx=(j:Int):=⟨o.idx.toNat,by omega⟩
  have hjl:j<b.grants.length:=by omega
  rw [hj,OZ,NE hjl]
  have hg:=hr.g
  obtain ⟨ae1,ar1,ag1,al1,as1,ce1,cr1,cg1,cl1,cs1⟩:=x
  dsimp only at*
  obtain ⟨Ag,cg2,eg,hg1,hg2,hg3⟩:=hg
  cases eg
  obtain ⟨gg,og,rfl,hrg⟩:=hg3 (by omega)
  have he:=hrg.elem cX j hjl
  generalize b.grants[j]=y at he ⊢
  have hO1:=hO y.rect
  clear hO
  generalize (ovE y.rect b.rules).1.1=s1 at hO1 ⊢
  generalize (ovE y.rect b.rules).1.2.1=s2 at hO1 ⊢
  generalize (ovE y.rect b.rules).1.2.2=s3 at hO1 ⊢
  obtain ⟨us,E,RU,G,L,M,st⟩:=b
  dsimp only at*
  simp only [aW] at hbk
  repeat' (first|(apply bZ (id:=12) [8,9] [];kernel_rfl;kernel_rfl;kernel_rfl)|(apply bZ (id:=13) [9,13] [];kernel_rfl;kernel_rfl;kernel_rfl)|(apply cC;(iterate 3 exact rfl);apply cI;exact rfl;exact hbk;exact rfl)|(apply cC;(iterate 3 exact rfl);apply aj (j:=j);exact rfl;(rw [hj];exact rfl);exact hjl)|(apply cC;(iterate 3 exact rfl);apply aA;exact rfl;exact he;exact rfl)|(apply cC;(iterate 3 exact rfl);apply cU;exact rfl;exact rfl)|(apply bH (f:=155);exact rfl;exact rfl;infer_instance;exact rfl;(intro w' hm;exact hO1 _ w' _ pK hm))|(apply aa (f:=109);exact rfl;exact rfl;(intro w' _;exact hH _ w'))|refine sT ?_|refine sS ?_|refine sW ?_|refine sM fun _=> ?_|(refine sC ?_ ?_<;>intro hb<;>try omega)|(refine sCW ?_ ?_<;>intro hb<;>try omega)|fail)
  all_goals first
   |(exfalso;omega)
   |((refine rT1 ?_);rw [decide_eq_false hb];rfl)
   |((refine rT1 ?_);rw [decide_eq_true hb];rfl)
   |trace_state
 rw [if_neg k4]
 repeat' (first|refine sT ?_|refine sS ?_|refine sM fun _=> ?_|(refine sC ?_ ?_<;>intro hb<;>try omega)|fail)
 all_goals first|(exfalso;omega)|((refine rT1 ?_);rfl)|trace_state
def Bs (r:Rct):Int:=if aF r=false then 0 else (r.c2 - r.c1+1)*(r.r2 - r.r1+1)
theorem zO (r:Rct) (w:World):ax Tryz.prog 121 [.agg (bQ r).toArray] w (.tuple #[.int .i64 (Bs r),.int .i64 (dU r)]):=by
 refine aq Tryz.func121 rfl Tryz.ntmps121 rfl ?_
 have h1:=fun w=>gR r w
 unfold Bs
 by_cases h:aF r=false
 ·
  rw [if_pos h]
  have hne:dU r≠0:=fun e=>fg (by omega) h
  generalize dU r=e at h1 hne ⊢
  repeat' (first|(apply aa;exact rfl;exact rfl;(intro w hm;exact h1 w))|refine sT ?_|refine sM fun _=> ?_|(refine sC ?_ ?_<;>intro hb<;>try omega)|fail)
  all_goals first|(exfalso;omega)|((refine rT2 ?_);rfl)|trace_state
 ·
  rw [if_neg h]
  have hz:dU r=0:=by
   rcases Decidable.em (dU r=0) with e|e
   ·
    exact e
   ·
    exact absurd (iy e) h
  rw [hz] at h1 ⊢
  have hb:1≤r.c1∧r.c1≤r.c2∧r.c2≤1024∧1≤r.r1∧r.r1≤r.r2∧r.r2≤1024:=by
   have:aF r=true:=by simpa using h
   simp only [aF,valid,NK,decide_eq_true_eq] at this
   omega
  have hm: -9223372036854775808≤(r.c2 - r.c1+1)*(r.r2 - r.r1+1)∧(r.c2 - r.c1+1)*(r.r2 - r.r1+1)≤9223372036854775807:=by
   have h1:(0:Int)≤(r.c2 - r.c1+1)*(r.r2 - r.r1+1):=Int.mul_nonneg (by omega) (by omega)
   have h2:(r.c2 - r.c1+1)*(r.r2 - r.r1+1)≤1024*1024:=Int.mul_le_mul (by omega) (by omega) (by omega) (by omega)
   omega
  repeat' (first|(apply aa;exact rfl;exact rfl;(intro w hm;exact h1 w))|(apply ak;exact rfl;apply tE;exact rfl;exact rfl;exact hm)|refine sT ?_|refine sJ ?_|refine sM fun _=> ?_|(refine sC ?_ ?_<;>intro hb<;>try omega)|fail)
  all_goals first|(exfalso;omega)|((refine rT2 ?_);rfl)|trace_state
def FD (b:Bk) (o:Ox):Bool:=match b.grants[o.idx.toNat]? with|some g=>g.rev|none=>true
theorem EB {b:Bk} {o:Ox} {j:Nat} (hj:o.idx=(j:Int)) (hl:j<b.grants.length):FD b o=b.grants[j].rev:=by
 unfold FD
 rw [hj,OZ,NE hl]
def tst (b:Bk) (o:Ox):Nat→Bool
 |0=>decide (opE o≠0)
 |1=>decide (o.user<0)||decide (b.users≤o.user)
 |2=>(kM o).2 && decide (dU (kM o).1≠0)
 |3=>decide ((o.rd|||o.wr|||o.ow|||o.to) &&& ~~~(db b.users).1≠0#64)
 |4=>decide (o.kind=9) && (decide (o.idx<0)||decide ((b.grants.length:Int)≤o.idx)||FD b o)
 |5=>xM b o
 |6=>decide (o.kind=3) && decide ((ofP o.input).2.2≠0)
 |7=>(decide (o.kind=5) && decide (1024<Bs (kM o).1))||(decide (o.kind=7) && decide (64≤b.rules.length))||(decide (o.kind=8) && decide (64≤b.grants.length))
 |_=>false
def cdE (b:Bk) (o:Ox):Int × Int:=
 if tst b o 0 then (1,0) else if tst b o 1 then (2,0) else if tst b o 2 then (4,0) else if tst b o 3 then (2,0) else if tst b o 4 then (8,0)
 else if tst b o 5 then (5,0) else if tst b o 6 then (6,(ofP o.input).2.1) else if tst b o 7 then (7,0) else (0,0)
section
variable {b:Bk} {x:Bv} {o:Ox} {gb gp go:Nat} {w:World} (ho:Ro w go 0 (bu o)) (hp:Ro w gp 0 [.pointer (some ⟨gb,0,none⟩)]) (hbk:Ro w gb 0 (aW b x))
include ho
theorem JD:ax Tryz.prog 111 [.pointer (some ⟨go,0,none⟩)] w (.bool (tst b o 0)):=by
 refine aq Tryz.func111 rfl Tryz.ntmps111 rfl ?_
 have h1:=fun w=>uq o w
 unfold tst
 generalize opE o=e at h1 ⊢
 repeat' (first|(apply aa;exact rfl;exact rfl;(intro w hm;exact h1 w))|refine sT ?_|refine sS ?_|refine sO ?_|refine sM fun _=> ?_|(refine sC ?_ ?_<;>intro hb<;>try omega)|fail)
 all_goals first|(exfalso;omega)|((refine rT1 ?_);simp;done)|((refine rT1 ?_);rfl)|trace_state
include hp hbk
theorem JC:ax Tryz.prog 113 [.pointer (some ⟨go,0,none⟩),.pointer (some ⟨gp,0,none⟩)] w (.bool (tst b o 1)):=by
 refine aq Tryz.func113 rfl Tryz.ntmps113 rfl ?_
 unfold tst
 simp only [bu] at ho
 simp only [aW] at hbk
 repeat' (first|refine sT ?_|refine sS ?_|refine sQ ?_|refine sO ?_|refine sOQ ?_|refine sD ?_|refine sM fun _=> ?_|(refine sC ?_ ?_<;>intro hb<;>try omega)|(refine sCQ ?_ ?_<;>intro hb<;>try omega)|fail)
 all_goals first|(exfalso;omega)|((refine rT1 ?_);simp_all;done)|((refine rT1 ?_);simp_all;omega)|trace_state
omit hbk hp in
theorem JB {g8 g9:Nat} (h8:Ro w g8 0 (bQ (kM o).1)) (h9:Ro w g9 0 [.bool (kM o).2]):ax Tryz.prog 114 [.pointer (some ⟨g9,0,none⟩),.pointer (some ⟨g8,0,none⟩)] w (.bool (tst b o 2)):=by
 refine aq Tryz.func114 rfl Tryz.ntmps114 rfl ?_
 unfold tst
 have _hz:=ho
 clear _hz ho
 generalize (kM o).1=t at h8 ⊢
 generalize (kM o).2=c at h9 ⊢
 have h1:=fun w=>gR t w
 generalize dU t=e at h1 ⊢
 cases c
 ·
  repeat' (first|(apply aa;exact rfl;exact rfl;(intro w hm;exact h1 w))|refine sT ?_|refine sS ?_|refine sO ?_|refine sM fun _=> ?_|(refine sC ?_ ?_<;>intro hb<;>try omega)|fail)
  all_goals first|(exfalso;omega)|((refine rT1 ?_);rfl)|trace_state
 ·
  repeat' (first|(apply aa;exact rfl;exact rfl;(intro w hm;exact h1 w))|refine sT ?_|refine sS ?_|refine sO ?_|refine sM fun _=> ?_|(refine sC ?_ ?_<;>intro hb<;>try omega)|fail)
  all_goals first|(exfalso;omega)|((refine rT1 ?_);simp;done)|((refine rT1 ?_);rfl)|trace_state
omit hbk hp in
theorem JA {g6:Nat} (h6:Ro w g6 0 [vS (db b.users).1]):ax Tryz.prog 115 [.pointer (some ⟨go,0,none⟩),.pointer (some ⟨g6,0,none⟩)] w (.bool (tst b o 3)):=by
 refine aq Tryz.func115 rfl Tryz.ntmps115 rfl ?_
 unfold tst
 generalize (db b.users).1=a at h6 ⊢
 have ho7:=(Ox.ro ho).2
 simp only [bu] at ho
 repeat' (first|(apply ak;exact rfl;apply qE;exact rfl;exact rfl)|(apply ak;exact rfl;apply dY (b:=a);exact rfl;exact rfl)|(apply ak;exact rfl;apply iM (b:=0#64);exact rfl;exact rfl)|refine sT ?_|refine sS ?_|refine sO ?_|refine sM fun _=> ?_|(refine sC ?_ ?_<;>intro hb<;>try omega)|fail)
 all_goals first|(exfalso;omega)|((refine rT1 ?_);simp;done)|((refine rT1 ?_);rfl)|trace_state
end
section
variable {b:Bk} {x:Bv} {o:Ox} {gb gp go:Nat} {w:World} (ho:Ro w go 0 (bu o)) (hp:Ro w gp 0 [.pointer (some ⟨gb,0,none⟩)]) (hbk:Ro w gb 0 (aW b x)) (hr:BRd w b x)
include ho hp hbk hr
set_option maxHeartbeats 4000000 in
theorem Jz:ax Tryz.prog 116 [.pointer (some ⟨go,0,none⟩),.pointer (some ⟨gp,0,none⟩)] w (.bool (tst b o 4)):=by
 refine aq Tryz.func116 rfl Tryz.ntmps116 rfl ?_
 have ht:tst b o 4=(decide (o.kind=9) && (decide (o.idx<0)||decide ((b.grants.length:Int)≤o.idx)||FD b o)):=rfl
 rw [ht]
 clear ht
 by_cases h1:o.kind=9∧0≤o.idx∧o.idx<(b.grants.length:Int)
 ·
  obtain ⟨h9,hi1,hi2⟩:=h1
  obtain ⟨j,hj⟩: ∃ j:Nat,o.idx=(j:Int):=⟨o.idx.toNat,by omega⟩
  have hjl:j<b.grants.length:=by omega
  rw [EB hj hjl,decide_eq_true h9,decide_eq_false (show ¬ o.idx<0 by omega),decide_eq_false (show ¬ (b.grants.length:Int)≤o.idx by omega),O8,Bool.false_or,Bool.false_or]
  have hg:=hr.g
  obtain ⟨ae1,ar1,ag1,al1,as1,ce1,cr1,cg1,cl1,cs1⟩:=x
  dsimp only at*
  obtain ⟨Ag,cg2,eg,hg1,hg2,hg3⟩:=hg
  cases eg
  obtain ⟨gg,og,rfl,hrg⟩:=hg3 (by omega)
  obtain ⟨_,_,_,_,he⟩:=Gn.ro (hrg.elem cX j hjl)
  generalize b.grants[j].rev=rv at he ⊢
  obtain ⟨us,E,RU,G,L,M,st⟩:=b
  dsimp only at*
  simp only [aW] at hbk
  simp only [bu] at ho
  clear hr
  repeat' (first|(apply aK;exact rfl;apply aH (o:=0) (off:=0);exact ho;exact rfl;exact rfl)|(apply aK;exact rfl;apply aj (j:=j);exact rfl;(rw [← hj];exact rfl);exact hjl)|(apply aK;exact rfl;apply gy;exact rfl;exact he)|refine sT ?_|refine sS ?_|refine sQ ?_|refine sO ?_|refine sOQ ?_|refine sD ?_|refine sM fun _=> ?_|(refine sC ?_ ?_<;>intro hb<;>try omega)|(refine sCQ ?_ ?_<;>intro hb<;>try omega)|fail)
  all_goals first|(exfalso;omega)|((refine rT1 ?_);rfl)|((refine rT1 ?_);simp_all;done)|trace_state
 ·
  have he:(decide (o.kind=9) && (decide (o.idx<0)||decide ((b.grants.length:Int)≤o.idx)||FD b o))=decide (o.kind=9):=by
   by_cases h9:o.kind=9
   ·
    by_cases hi:o.idx<0
    ·
     simp [hi]
    ·
     have:(b.grants.length:Int)≤o.idx:=by
      have:=fun h=>h1 ⟨h9,h⟩
      omega
     simp [this]
   ·
    simp [h9]
  rw [he]
  clear he
  obtain ⟨us,E,RU,G,L,M,st⟩:=b
  dsimp only at*
  simp only [aW] at hbk
  simp only [bu] at ho
  clear hr
  repeat' (first|(apply aK;exact rfl;apply aH (o:=0) (off:=0);exact ho;exact rfl;exact rfl)|refine sT ?_|refine sS ?_|refine sQ ?_|refine sO ?_|refine sOQ ?_|refine sD ?_|refine sM fun _=> ?_|(refine sC ?_ ?_<;>intro hb<;>try omega)|(refine sCQ ?_ ?_<;>intro hb<;>try omega)|fail)
  all_goals first|(exfalso;omega)|((refine rT1 ?_);simp_all;done)|trace_state
omit hp hbk hr in
theorem Jy (h: ∀ w' H,Mem w w' H→ax Tryz.prog 118 [.pointer (some ⟨gb,0,none⟩),.agg (bu o).toArray] w' (.bool (xM b o))) (hp:Ro w gp 0 [.pointer (some ⟨gb,0,none⟩)]):ax Tryz.prog 117 [.pointer (some ⟨gp,0,none⟩),.pointer (some ⟨go,0,none⟩)] w (.bool (tst b o 5)):=by
 refine aq Tryz.func117 rfl Tryz.ntmps117 rfl ?_
 have ht:tst b o 5=xM b o:=rfl
 rw [ht]
 generalize xM b o=c at h ⊢
 repeat' (first|(apply aa (f:=118);exact rfl;exact rfl;(intro w' hm;exact h w' _ hm))|refine sT ?_|refine sS ?_|refine sO ?_|refine sM fun _=> ?_|(refine sC ?_ ?_<;>intro hb<;>try omega)|fail)
 all_goals first|(exfalso;omega)|((refine rT1 ?_);rfl)|trace_state
set_option maxHeartbeats 4000000 in
theorem Jv {g8:Nat} (h8:Ro w g8 0 (bQ (kM o).1)):ax Tryz.prog 120 [.pointer (some ⟨g8,0,none⟩),.pointer (some ⟨go,0,none⟩),.pointer (some ⟨gp,0,none⟩)] w (.bool (tst b o 7)):=by
 refine aq Tryz.func120 rfl Tryz.ntmps120 rfl ?_
 have ht:tst b o 7=((decide (o.kind=5) && decide (1024<Bs (kM o).1))||(decide (o.kind=7) && decide (64≤b.rules.length))||(decide (o.kind=8) && decide (64≤b.grants.length))):=rfl
 rw [ht]
 clear ht
 have hA:=fun w=>zO (kM o).1 w
 generalize Bs (kM o).1=ar at hA ⊢
 generalize (kM o).1=t at h8 hA
 obtain ⟨us,E,RU,G,L,M,st⟩:=b
 dsimp only at*
 simp only [aW] at hbk
 simp only [bu] at ho
 clear hr
 repeat' (first|(apply ak;exact rfl;apply aH (o:=0) (off:=0);exact ho;exact rfl;exact rfl)|(apply aa;exact rfl;exact rfl;(intro w hm;exact hA w))|refine sT ?_|refine sS ?_|refine sQ ?_|refine sO ?_|refine sOQ ?_|refine sD ?_|refine sM fun _=> ?_|(refine sC ?_ ?_<;>intro hb<;>try omega)|(refine sCQ ?_ ?_<;>intro hb<;>try omega)|fail)
 all_goals first|(exfalso;omega)|((refine rT1 ?_);simp_all;done)|((refine rT1 ?_);simp_all;omega)|trace_state
end
section
variable {b:Bk} {o:Ox} {go gat:Nat} {w0:World} {H:List Blk}
set_option maxHeartbeats 4000000 in
theorem Jw (hW:Words w0) (hgo:In (.box go 41 (bu o)) H):FnIn Tryz.prog 119 [.pointer (some ⟨go,0,none⟩),.pointer (some ⟨gat,0,none⟩)] w0 (.box gat 3 [.int .i64 0]::H) fun v H' =>v= .bool (tst b o 6)∧H' = .box gat 3 [.int .i64 (if tst b o 6 then (ofP o.input).2.1 else 0)]::H:=by
 refine eC Tryz.func119 rfl Tryz.ntmps119 rfl ?_
 have ht:tst b o 6=(decide (o.kind=3) && decide ((ofP o.input).2.2≠0)):=rfl
 rw [ht]
 clear ht
 have hO:=fun (w' :World) (H' :List Blk) (hm:Mem w0 w' H')=>LH o.input w' (hW.next hm)
 generalize ofP o.input=r at hO ⊢
 obtain ⟨⟨fm,v,t⟩,at_,e⟩:=r
 simp only [ofV,A0] at hO
 dsimp only at*
 by_cases h3:o.kind=3
 ·
  rw [decide_eq_true h3,O8]
  by_cases he:e≠0
  ·
   rw [decide_eq_true he,if_pos rfl]
   repeat' (first|(apply ak;exact rfl;apply bM;exact rfl;exact .tl hgo;exact rfl)|(apply aG (f:=106);exact rfl;exact rfl;(intro w' hm;exact hO w' _ hm);rintro _ _ ⟨A,cap,rfl,rfl⟩)|refine sT ?_|refine sS ?_|refine sM fun _=> ?_|(refine sC ?_ ?_<;>intro hb<;>try omega)|fail)
   all_goals first|(exfalso;omega)|(exact dF eIO rfl rfl (H' := .box gat 3 [.int .i64 at_]::H) mS ⟨congrArg Value.bool (by first|rfl|(simp [he];done)),rfl⟩)|trace_state
  ·
   rw [decide_eq_false he,if_neg (by decide)]
   repeat' (first|(apply ak;exact rfl;apply bM;exact rfl;exact .tl hgo;exact rfl)|(apply aG (f:=106);exact rfl;exact rfl;(intro w' hm;exact hO w' _ hm);rintro _ _ ⟨A,cap,rfl,rfl⟩)|refine sT ?_|refine sS ?_|refine sM fun _=> ?_|(refine sC ?_ ?_<;>intro hb<;>try omega)|fail)
   all_goals first|(exfalso;omega)|(exact dF eIO rfl rfl (H' := .box gat 3 [.int .i64 0]::H) mS ⟨congrArg Value.bool (by first|rfl|(simp [he];done)),rfl⟩)|trace_state
 ·
  rw [decide_eq_false h3,Bool.false_and,if_neg (by decide)]
  repeat' (first|(apply ak;exact rfl;apply bM;exact rfl;exact .tl hgo;exact rfl)|refine sT ?_|refine sS ?_|refine sM fun _=> ?_|(refine sC ?_ ?_<;>intro hb<;>try omega)|fail)
  all_goals first|(exfalso;omega)|(exact dF eIO rfl rfl (H' := .box gat 3 [.int .i64 0]::H) mS ⟨rfl,rfl⟩)|trace_state
end
end Go.SL
namespace Go.SL
open Go Go.RowKit
section
variable {P:Program} {n:Fr} {w0:World} {Q:bO} {s:az} {H:List Blk} {rest:List Oper} {ty:TypeId} {p:String} {af:Array Edge}
theorem BQ {d t e n' m c' g2 o2 sz by_:Nat} {B:Option Addr} {x y:Operand} {xs news:List Value} {ops:Array Oper} [ht:Und P t (.slice e)] [he:Elem P e sz by_] (hn:Nat.blt d n.sz=true)
  (hx:ev s x=some (.slice B n' n')) (hy:ev s y=some (.slice (some ⟨g2,o2,none⟩) m c')) (hread: ∀ w,Mem w0 w H→Reads w (.slice B n' n') n' xs) (hxl:xs.length=n' *sz)
  (hnews: ∀ w,Mem w0 w H→Cells w g2 o2 news) (hl:news.length=m*sz) (h1: ∀ u∈news,u.oneCell' =true) (hm0:0<m) (hby:(n' +m)*by_≤140737488355328) (h63:n' +m≤maxLen)
  (k: ∀ g' cap',WL P n w0 ops rest Q ((d,sl (some g') (n' +m) cap')::s) (.own (some g') e sz (n' +m) cap' (xs++news)::H)):
  WL P n w0 ops (⟨some d,.call { callee:= .builtin .append,args:= #[x,y],argTypes:= #[t,t] },ty,p,af,none⟩::rest) Q s H:=by
 intro a w hs hm
 obtain ⟨i,z,i1,i2,i3,i4,i5,i6⟩:=he.out
 subst i2
 subst i3
 have hsrc:Src P i.size t (.slice (some ⟨g2,o2,none⟩) m c') m news w:=Src.ofSlice w ht.out ⟨g2,o2,none⟩ m c' news hl (fun j u hu=>by rw [cH];exact hnews w hm j u hu) h1
 obtain ⟨B',c2,hB,_,_,hrd⟩:=hread w hm
 cases hB
 have hold:(Builtin.firstCells i.size n' (.slice B n' n')).run P w.drew= .ok xs.toArray w.drew:=by
  rcases OJ n' with rfl|hpos
  ·
   have e0:xs= []:=Oo (by rw [hxl,Nat.zero_mul])
   subst e0
   cases B with
   |none=>exact run_firstCells_none w.drew i.size 0 0 0
   |some b=>exact run_firstCells_some w.drew i.size 0 b 0 0 [] (by simp) (fun j u hu=>by simp at hu)
  ·
   obtain ⟨g,o,rfl,hro⟩:=hrd hpos
   refine run_firstCells_some w.drew i.size n' ⟨g,o,none⟩ n' n' _ hxl fun j u hu=> ?_
   rw [cH]
   exact hro.cells j u hu
 have hfits:Builtin.nextslicecap (n' +m) n' *i.bytes≤281474976710656:=growslice_fits (by omega) hby
 have hr:=run_append_grow_src (P:=P) w t t ty e i z ht.out i1 i4 B n' n' xs hold (.slice (some ⟨g2,o2,none⟩) m c') m news hsrc (by omega) (by simp only [maxLen] at h63;omega) hfits
 have hge:=grownCap_ge w (n' +m) n' e
 have hcm2:grownCap w (n' +m) n' e≤maxLen:=grownCap_le_maxLen w (n' +m) n' e (by omega)
 have hlen2:(xs++news).length=(n' +m)*i.size:=by rw [ND,hxl,hl,P6]
 refine wpList_plain rfl fun K hK=> ?_
 unfold Oper.wp execOp
 simp only [resolve,invoke,builtin,Sem.run_bind,Sem.run_pure,Result.andThen_ok,Pp,Ow,Pe,hs.eval x _ hx,hs.eval y _ hy,hr,Oper.upon]
 refine hK _ _ (k w.heap.size _ _ _ (hs.put (OH ▸ hn) _) ?_)
 refine hm.new ⟨rfl,rfl,rfl,by simp,fun k hk _=>heap_alloc_old w.drew _ hk⟩ ⟨hlen2,hge,hcm2,(Builtin.zeroCells z.cells (grownCap w (n' +m) n' e - (n' +m))).toList,?_,?_⟩ fun k hk=> ?_
 ·
  rw [ND,hlen2,Array.length_toList,size_zeroCells,i5,← P6]
  congr 1
  omega
 ·
  rw [show (xs++news++(Builtin.zeroCells z.cells (grownCap w (n' +m) n' e - (n' +m))).toList).toArray=(xs++news).toArray++Builtin.zeroCells z.cells (grownCap w (n' +m) n' e - (n' +m)) by apply Array.ext';simp]
  exact heap_alloc_new w.drew _
 ·
  cases hk
  exact NJ _
end
end Go.SL
namespace Go.SL
open Go Go.Proofs
attribute [local irreducible] W WL WQ WG WA WX WLI WR WT WC WE VOp RW thn blk bG scp bg bi bT aQ FnIn FnP ceP
theorem Bj (o:Ox) (e:Et) (go:Nat) (w:World) (ho:Ro w go 0 (bu o)):ax Tryz.prog 58 [.agg (aJ e).toArray,.pointer (some ⟨go,0,none⟩)] w (.bool (di o.rect e.at_)):=by
 refine aq Tryz.func58 rfl Tryz.ntmps58 rfl ?_
 have h1:=fun w=>JV o.rect e.at_ w
 generalize di o.rect e.at_=c at h1 ⊢
 have ho2:=(Ox.ro ho).1
 repeat' (first|(apply aa;exact rfl;exact rfl;(intro w hm;exact h1 w))|refine sT ?_|refine sO ?_|refine sM fun _=> ?_|(refine sC ?_ ?_<;>intro hb<;>try omega)|fail)
 all_goals first|(exfalso;omega)|((refine rT1 ?_);rfl)|trace_state
theorem Kw {L:List Et} {k:Nat} (h:k<L.length):((L.flatMap aJ).drop (0+k*3)).take 3=aJ L[k]:=by
 rw [N7];exact fw bo L k h
section
variable (L:List Et) (o:Ox) (go:Nat) (cap:Nat) (R:List Blk) (w0:World)
def eK (o:Ox) (e:Et):Bool:= !di o.rect e.at_
def I5 (o:Ox) (L:List Et):Int:=match L.findIdx? (fun e=>di o.rect e.at_) with|some i=>(i:Int)|none=> -1
theorem wN {o:Ox} {L:List Et} {i:Nat} (h:i<L.length) (hq:di o.rect L[i].at_=true) (hno: ∀ j (h:j<L.length),j<i→di o.rect L[j].at_=false):I5 o L=(i:Int)∧L.filter (eK o)=L.take i++(L.drop (i+1)).filter (eK o):=by
 constructor
 ·
  have:L.findIdx? (fun e=>di o.rect e.at_)=some i:=by
   rw [Pm]
   exact ⟨h,hq,fun j hj=>by simpa using hno j (by omega) hj⟩
  unfold I5;rw [this]
 ·
  have h1:(L.take i).filter (eK o)=L.take i:=List.filter_eq_self.2 fun e he=>by
   obtain ⟨j,hj,rfl⟩:=Qi.1 he
   rw [NZ] at hj
   rw [Qt]
   simp [eK,hno j (by omega) (by omega)]
  conv=>lhs;rw [← OE i L]
  rw [List.filter_append,h1,NL h,Qz,if_neg (by simp [eK,hq])]
theorem wO {o:Ox} {L:List Et} (hno: ∀ j (h:j<L.length),di o.rect L[j].at_=false):I5 o L= -1∧L.filter (eK o)=L:=by
 constructor
 ·
  have:L.findIdx? (fun e=>di o.rect e.at_)=none:=by
   rw [Pd]
   intro e he
   obtain ⟨j,hj,rfl⟩:=Qi.1 he
   exact hno j hj
  unfold I5;rw [this]
 ·
  refine List.filter_eq_self.2 fun e he=> ?_
  obtain ⟨j,hj,rfl⟩:=Qi.1 he
  simp [eK,hno j hj]
theorem I4 (B:Option Addr) (cap:Nat) (fv:Value) (F:List Blk) (w0:World):
  FnIn Tryz.prog 123 [.slice B 0 cap,fv] w0 F fun v H=>v= .int .i64 (-1)∧H=F:=by
 refine eC Tryz.func123 rfl Tryz.ntmps123 rfl ?_
 repeat' (first|refine sT ?_|refine sS ?_|refine sM fun _=> ?_|(refine sC ?_ ?_<;>intro hb<;>try omega)|fail)
 refine ay [7] rfl (fun _:Unit=> [(8,.int .i64 0)]) (fun _=>F) (fun _=>True) (fun _=>0) () trivial sB mS ?_
 rintro _ _
 repeat' (first|refine sT ?_|refine sS ?_|refine sM fun _=> ?_|(refine sC ?_ ?_<;>intro hb<;>try omega)|fail)
 all_goals first
  |(exfalso;omega)
  |(refine dF eIO rfl rfl (.refl _) ?_;exact ⟨rfl,rfl⟩)
  |trace_state
set_option maxHeartbeats 4000000 in
theorem KP (g:Nat) (hL:L.length≤1000000) (hgo:In (.box go 41 (bu o)) R):
    FnIn Tryz.prog 123 [.slice (some ⟨g,0,none⟩) L.length cap,.func (.func 58) #[] #[.pointer (some ⟨go,0,none⟩)]] w0 (.own (some g) 53 3 L.length cap (L.flatMap aJ)::R) fun v H=>v= .int .i64 (I5 o L)∧H= .own (some g) 53 3 L.length cap (L.flatMap aJ)::R:=by
  refine eC Tryz.func123 rfl Tryz.ntmps123 rfl ?_
  have hP:=fun (e:Et) (w' :World) (H:List Blk) (hi:In (.box go 41 (bu o)) H) (hm:Mem w0 w' H)=>Bj o e go w' (Ro.of_box hm hi)
  repeat' (first|refine sT ?_|refine sS ?_|refine sM fun _=> ?_|(refine sC ?_ ?_<;>intro hb<;>try omega)|fail)
  refine ay [0,1,7] rfl (fun i:Nat=> [(8,.int .i64 (i:Int))]) (fun _=> .own (some g) 53 3 L.length cap (L.flatMap aJ)::R) (fun i=>i≤L.length∧ ∀ j (h:j<L.length),j<i→di o.rect L[j].at_=false) (fun i=>L.length - i) 0 ⟨by omega,fun j _ h=>by omega⟩ sB mS ?_
  rintro i ⟨hi,hno⟩
  by_cases hlt:i<L.length
  · have hr1:=Kw hlt
    have hP1:=hP L[i]
    obtain ⟨c,hc⟩: ∃ c,di o.rect L[i].at_=c:=⟨_,rfl⟩
    rw [hc] at hP1
    cases c
    · repeat' (first|(apply ak;exact rfl;apply aj (j:=i);exact rfl;exact rfl;omega)|(apply ak;exact rfl;apply aR;exact rfl;exact pK;exact hr1;exact rfl)|(apply bH (f:=58);exact rfl;exact rfl;infer_instance;exact rfl;(intro w' hm;exact hP1 w' _ (.tl hgo) hm))|refine sT ?_|refine sS ?_|refine sN ?_|refine sM fun _=> ?_|(refine sC ?_ ?_<;>intro hb<;>try omega)|fail)
      all_goals first
        |(exfalso;omega)
        | (refine ⟨i + 1, ⟨hlt, fun j hj hji => ?_⟩, by omega, by exact sB, by exact sB, by exact mS⟩
           rcases (by omega:j<i∨j=i) with h|rfl
           · exact hno j hj h
           · exact hc)
        |trace_state
    · repeat' (first|(apply ak;exact rfl;apply aj (j:=i);exact rfl;exact rfl;omega)|(apply ak;exact rfl;apply aR;exact rfl;exact pK;exact hr1;exact rfl)|(apply bH (f:=58);exact rfl;exact rfl;infer_instance;exact rfl;(intro w' hm;exact hP1 w' _ (.tl hgo) hm))|refine sT ?_|refine sS ?_|refine sN ?_|refine sM fun _=> ?_|(refine sC ?_ ?_<;>intro hb<;>try omega)|fail)
      all_goals first
        |(exfalso;omega)
        |(refine dF eIO rfl rfl (.refl _) ?_;rw [(wN hlt hc hno).1];exact ⟨rfl,rfl⟩)
        |trace_state
  · have e:=(wO (o:=o) (L:=L) fun j hj=>hno j hj (by omega)).1
    repeat' (first|refine sT ?_|refine sS ?_|refine sM fun _=> ?_|(refine sC ?_ ?_<;>intro hb<;>try omega)|fail)
    all_goals first
      |(exfalso;omega)
      |(refine dF eIO rfl rfl (.refl _) ?_;rw [e];exact ⟨rfl,rfl⟩)
      |trace_state
set_option maxHeartbeats 8000000 in
theorem K5 (A:Option Nat) (hL:L.length≤1000000) (hgo:In (.box go 41 (bu o)) R):
    FnIn Tryz.prog 57 [sl A L.length cap,.func (.func 58) #[] #[.pointer (some ⟨go,0,none⟩)]] w0 (.own A 53 3 L.length cap (L.flatMap aJ)::R) fun v H=>v=sl A (L.filter (eK o)).length cap∧H= .own A 53 3 (L.filter (eK o)).length cap ((L.filter (eK o)).flatMap aJ)::R:=by
  refine eC Tryz.func57 rfl Tryz.ntmps57 rfl ?_
  refine LO (A:=A) .hd fun hle=> ?_
  rcases OJ L.length with h0|hpos
  · have e:L= []:=Oo h0
    subst e
    have hI:=I4 (A.map fun g=>⟨g,0,none⟩) cap (.func (.func 58) #[] #[.pointer (some ⟨go,0,none⟩)]) (.own A 53 3 0 cap []::R) w0
    repeat' (first|(apply aw (f:=123);exact rfl;exact rfl;exact hI;rintro _ _ ⟨rfl,rfl⟩)|refine sT ?_|refine sS ?_|refine sN ?_|refine sM fun _=> ?_|(refine sC ?_ ?_<;>intro hb<;>try omega)|fail)
    all_goals first
      |(exfalso;omega)
      |(refine dF eIO rfl rfl (.refl _) ?_;exact ⟨rfl,rfl⟩)
      |trace_state
  · refine gx (A:=A) .hd hpos fun g hA=> ?_
    subst hA
    have hP:=fun (e:Et) (w' :World) (H:List Blk) (hi:In (.box go 41 (bu o)) H) (hm:Mem w0 w' H)=>Bj o e go w' (Ro.of_box hm hi)
    have hI:=KP L o go cap R w0 g hL hgo
    rcases hfi:L.findIdx? (fun e=>di o.rect e.at_) with _|k
    · have hno: ∀ j (h:j<L.length),di o.rect L[j].at_=false:=fun j hj=>by
        simpa using Pd.1 hfi L[j] (OD hj)
      obtain ⟨e1,e2⟩:=wO (o:=o) (L:=L) hno
      rw [e1] at hI
      rw [e2]
      repeat' (first|(apply aw (f:=123);exact rfl;exact rfl;exact hI;rintro _ _ ⟨rfl,rfl⟩)|refine sT ?_|refine sS ?_|refine sN ?_|refine sM fun _=> ?_|(refine sC ?_ ?_<;>intro hb<;>try omega)|fail)
      all_goals first
        |(exfalso;omega)
        |(refine dF eIO rfl rfl (.refl _) ?_;exact ⟨rfl,rfl⟩)
        |trace_state
    · obtain ⟨hkl,hq,hno⟩:=Pm.1 hfi
      obtain ⟨e1,e2⟩:=wN (o:=o) (L:=L) hkl hq fun j hj hjk=>by simpa using hno j hjk
      rw [e1] at hI
      rw [e2]
      repeat' (first|(apply aw (f:=123);exact rfl;exact rfl;exact hI;rintro _ _ ⟨rfl,rfl⟩)|refine sT ?_|refine sS ?_|refine sN ?_|refine sM fun _=> ?_|(refine sC ?_ ?_<;>intro hb<;>try omega)|fail)
      all_goals try (exfalso;omega)
      refine ay [0,1] rfl (fun y:Nat × Nat × List Et=> [(6,.int .i64 (y.1:Int)),(5,.int .i64 (y.2.1:Int))]) (fun y=> .own (some g) 53 3 L.length cap (y.2.2.flatMap aJ)::R) (fun y=>k+1≤y.1∧y.1≤L.length∧y.2.1<y.1∧y.2.2.length=L.length∧y.2.2.take y.2.1=L.take k++((L.drop (k+1)).take (y.1 - (k+1))).filter (eK o)∧ ∀ j,y.1≤j→y.2.2[j]? =L[j]?) (fun y=>L.length - y.1) (k+1,k,L) ⟨NJ _,by omega,PQ k,rfl,by simp,fun _ _=>rfl⟩ sB mS ?_
      rintro ⟨j,i,ys⟩ ⟨hj1,hj2,hij,hyl,hyt,hyj⟩
      dsimp only at hj1 hj2 hij hyl hyt hyj ⊢
      by_cases hlt:j<L.length
      · have hjy:j<ys.length:=by omega
        have hr1:=Kw (L:=ys) hjy
        have he1:ys[j]=L[j]:=by
          have:=hyj j (by omega)
          rw [NE hjy,NE hlt] at this
          exact Option.some.inj this
        rw [he1] at hr1
        have hst:((L.drop (k+1)).take (j+1 - (k+1))).filter (eK o)=((L.drop (k+1)).take (j - (k+1))).filter (eK o)++(if eK o L[j] then [L[j]] else []):=by
          rw [show j+1 - (k+1)=j - (k+1)+1 by omega,NT (by rw [NP];omega),List.filter_append,List.getElem_drop]
          congr 1
          rw [show L[k+1+(j - (k+1))]'(by omega)=L[j] by congr 1;omega,Qz,List.filter_nil]
        have hP1:=hP L[j]
        obtain ⟨c,hc⟩: ∃ c,di o.rect L[j].at_=c:=⟨_,rfl⟩
        rw [hc] at hP1
        cases c with
        |true=>
          rw [if_neg (by simp [eK,hc]),NM] at hst
          repeat' (first|(apply ak;exact rfl;apply aj (j:=j);exact rfl;exact rfl;omega)|(apply ak;exact rfl;apply aR;exact rfl;exact pK;exact hr1;exact rfl)|(apply bH (f:=58);exact rfl;exact rfl;infer_instance;exact rfl;(intro w' hm;exact hP1 w' _ (.tl (.tl hgo)) hm))|refine sT ?_|refine sS ?_|refine sN ?_|refine sM fun _=> ?_|(refine sC ?_ ?_<;>intro hb<;>try omega)|fail)
          all_goals first
            |(exfalso;omega)
            |(refine ⟨(j+1,i,ys),⟨by dsimp only;omega,by dsimp only;omega,by dsimp only;omega,hyl,by dsimp only;rw [hyt,hst],fun t ht=>hyj t (by dsimp only at ht;omega)⟩,by dsimp only;omega,by exact sB,by exact sB,by exact mS⟩;done)
            |trace_state
        |false=>
          rw [if_pos (by simp [eK,hc])] at hst
          have hput:=AB bo ys i (by omega) L[j]
          repeat' (first|(apply ak;exact rfl;apply aj (j:=j);exact rfl;exact rfl;omega)|(apply ak;exact rfl;apply aj (j:=i);exact rfl;exact rfl;omega)|(apply ak;exact rfl;apply aR;exact rfl;exact pK;exact hr1;exact rfl)|(apply bH (f:=58);exact rfl;exact rfl;infer_instance;exact rfl;(intro w' hm;exact hP1 w' _ (.tl (.tl hgo)) hm))|(apply s8 (vs:=aJ L[j]) (off:=0+i*3);exact rfl;exact rfl;exact pK;exact rfl;exact rfl;(intro u hu;simp [aJ] at hu;rcases hu with rfl|rfl|rfl<;>rfl);(rw [aI bo,hyl];omega);rw [N7,hput])|refine sT ?_|refine sS ?_|refine sN ?_|refine sM fun _=> ?_|(refine sC ?_ ?_<;>intro hb<;>try omega)|fail)
          all_goals first
            |(exfalso;omega)
            | (refine ⟨(j + 1, i + 1, ys.set i L[j]), ⟨by dsimp only; omega, by dsimp only; omega, by dsimp only; omega, by dsimp only; rw [List.length_set, hyl], ?_, fun t ht => ?_⟩, by dsimp only; omega, by exact sB, by exact sB, by exact mS⟩
               · dsimp only
                 rw [NT (by rw [PX];omega),List.take_set_of_le (NJ _),hyt,List.getElem_set_self,hst,OA]
               · dsimp only at ht ⊢
                 rw [List.getElem?_set_ne (by omega)]
                 exact hyj t (by omega))
            |trace_state
      · have hjl:j=L.length:=by omega
        have htk:(L.drop (k+1)).take (L.length - (k+1))=L.drop (k+1):=N9 (by rw [NP];exact NJ _)
        rw [hjl,htk] at hyt
        have hcl:(L.take k++(L.drop (k+1)).filter (eK o)).length=i:=by rw [← hyt,NZ,hyl];omega
        have hiL:i<L.length:=by omega
        repeat' (first|(apply ak;exact rfl;apply qD (lo:=i);exact rfl;exact rfl;omega;exact hle)|(apply yV (sz:=3) (k:=i) (n' :=L.length);exact rfl;omega;exact pK;(intro u hu;simp [Value.cells] at hu;rcases hu with rfl|rfl<;>rfl);exact rfl)|(apply ak;exact rfl;apply wh (hi:=i);exact rfl;exact rfl;omega)|refine sT ?_|refine sS ?_|refine sN ?_|refine sM fun _=> ?_|(refine sC ?_ ?_<;>intro hb<;>try omega)|fail)
        all_goals first
          |(exfalso;omega)
          | (refine dF eIO rfl rfl (H' := .own (some g) 53 3 i cap ((ys.flatMap aJ).take (i * 3)) :: R) mS ?_
             rw [jF bo,hyt,hcl]
             exact ⟨rfl,rfl⟩)
          |trace_state
end
end Go.SL

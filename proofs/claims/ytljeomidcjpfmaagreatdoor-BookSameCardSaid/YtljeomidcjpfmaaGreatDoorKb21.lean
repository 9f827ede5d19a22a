/-
  Lemmas and walks, put together: Ig Ih Sl37 Ij.
-/
import Derived.Test.YtljeomidcjpfmaaGreatDoorKb20
set_option linter.unusedSimpArgs false
set_option linter.unusedVariables false
set_option maxRecDepth 20000
namespace Go.SL
open Go Go.Proofs
attribute [local irreducible] W WL WQ WG WA WX WLI WR WT WC WE VOp RW thn blk cutP scp retP retPP endB FnAt FnIn FnP ceP
instance fldRt0:FldT Tryz.prog 36 0 34 0:=⟨_,_,Tryz.underlying36,rfl,rfl,rfl⟩
instance fldRt1:FldT Tryz.prog 36 1 34 1:=⟨_,_,Tryz.underlying36,rfl,rfl,rfl⟩
instance fldRt2:FldT Tryz.prog 36 2 34 2:=⟨_,_,Tryz.underlying36,rfl,rfl,rfl⟩
theorem Ox.ro {w:World} {g o:Nat} {x:Ox} (h:Ro w g o (encOx x)):Ro w g (o+2) (encR x.rect)∧Ro w g (o+7) [vS x.rd,vS x.wr,vS x.ow]:=
 ⟨(h.drop (k:=2)).take (k:=4),(h.drop (k:=7)).take (k:=3)⟩
set_option maxHeartbeats 4000000 in
theorem bkOver_at (b:Bk) (x:Bv) (r:Rct) (gp gb:Nat) (w:World) (hp:Ro w gp 0 [.pointer (some ⟨gb,0,none⟩)]) (hbk:Ro w gb 0 (encBk b x)) (hr:BRd w b x):
  Pure Tryz.prog 215 [.agg (encR r).toArray,.pointer (some ⟨gp,0,none⟩)] w (.agg #[vS (ovE r b.rules).1.1,vS (ovE r b.rules).1.2.1,vS (ovE r b.rules).1.2.2]):=by
 refine fn_at Tryz.func215 rfl Tryz.ntmps215 rfl ?_
 have h1:=fun (w' :World) (H:List Blk) (hm:Mem w w' H)=>Over_at r b.rules _ w' (hr.r.of_w0 hm)
 generalize (ovE r b.rules).2=e at h1
 generalize (ovE r b.rules).1.1=s1 at h1 ⊢
 generalize (ovE r b.rules).1.2.1=s2 at h1 ⊢
 generalize (ovE r b.rules).1.2.2=s3 at h1 ⊢
 obtain ⟨us,E,RU,G,L,M,st⟩:=b
 obtain ⟨ae1,ar1,ag1,al1,as1,ce1,cr1,cg1,cl1,cs1⟩:=x
 dsimp only at*
 simp only [encBk] at hbk
 repeat' (first|refine sT ?_|refine sS ?_|refine sO ?_|refine sM fun _=> ?_|(refine sC ?_ ?_<;>intro hb<;>try omega)|fail)
 rename_i g2 g3
 refine w_drawE (id:=1) [5,9,10] [.box g2 33 (encR r),.box g3 36 [.int .u64 0,.int .u64 0,.int .u64 0]] 12 rfl rfl mS ?_
 repeat' (first|((with_reducible apply we_v (i:=1));(iterate 4 exact rfl);decide+kernel;decide+kernel;decide+kernel;(with_reducible apply v_load1_ro);exact rfl;exact hp)|((with_reducible apply we_v (i:=4));(iterate 4 exact rfl);decide+kernel;decide+kernel;decide+kernel;(with_reducible apply v_loadf_ro);exact rfl;exact hbk;exact rfl)|((with_reducible apply we_v (i:=0));(iterate 4 exact rfl);decide+kernel;decide+kernel;decide+kernel;(exact vC))|((with_reducible apply we_v (i:=2));(iterate 4 exact rfl);decide+kernel;decide+kernel;decide+kernel;(exact vC))|((with_reducible apply we_v (i:=3));(iterate 4 exact rfl);decide+kernel;decide+kernel;decide+kernel;(exact vC))|((with_reducible apply we_v (i:=6));(iterate 4 exact rfl);decide+kernel;decide+kernel;decide+kernel;(exact vC))|((with_reducible apply we_v (i:=7));(iterate 4 exact rfl);decide+kernel;decide+kernel;decide+kernel;(exact vC))|((with_reducible apply we_v (i:=8));(iterate 4 exact rfl);decide+kernel;decide+kernel;decide+kernel;(exact vC))|((with_reducible apply we_v (i:=11));(iterate 4 exact rfl);decide+kernel;decide+kernel;decide+kernel;((with_reducible apply v_assign);exact rfl))|((with_reducible apply we_two (i:=5) (j:=9));(iterate 6 exact rfl);decide+kernel)|((with_reducible apply we_one (i:=5));(iterate 3 exact rfl);decide+kernel)|((with_reducible apply we_one (i:=9));(iterate 3 exact rfl);decide+kernel)|((with_reducible apply we_one (i:=10));(iterate 3 exact rfl);decide+kernel)|((with_reducible apply we_done);decide+kernel)|((with_reducible apply ce_n);(focus (exact mS;done)))|((with_reducible apply wl_callp (f:=160));exact rfl;exact rfl;(intro w' hm;exact h1 w' _ hm))|refine sT ?_|refine sS ?_|refine sO ?_|refine sM fun _=> ?_|(refine sC ?_ ?_<;>intro hb<;>try omega)|fail)
 all_goals first
  |(exfalso;omega)
  |((refine eRC ?_);rfl)
  |trace_state
def rfsF (b:Bk) (o:Ox):Bool:=
 if o.kind=3∨o.kind=4 then !hasS (ovE o.rect b.rules).1.2.1 o.user
 else if o.kind=6 then !hasS (ovE o.rect b.rules).1.1 o.user
 else if o.kind=7∨o.kind=8 then !hasS (ovE o.rect b.rules).1.2.2 o.user
 else if o.kind=9 then (match b.grants[o.idx.toNat]? with|some g=>decide (g.by_≠o.user) && !hasS (ovE g.rect b.rules).1.2.2 o.user|none=>false)
 else false
set_option maxHeartbeats 16000000 in
theorem refused_at (b:Bk) (x:Bv) (o:Ox) (gb:Nat) (w:World) (hbk:Ro w gb 0 (encBk b x)) (hr:BRd w b x) (hi:o.kind=9→0≤o.idx∧o.idx<(b.grants.length:Int)):
  Pure Tryz.prog 156 [.pointer (some ⟨gb,0,none⟩),.agg (encOx o).toArray] w (.bool (rfsF b o)):=by
 refine fn_at Tryz.func156 rfl Tryz.ntmps156 rfl ?_
 have hO:=fun (r:Rct) (gp:Nat) (w' :World) (H:List Blk) (hi:In (.box gp 139 [.pointer (some ⟨gb,0,none⟩)]) H) (hm:Mem w w' H)=>bkOver_at b x r gp gb w' (Ro.of_box hm hi) (hbk.next hm) (hr.of_w0 hm)
 unfold rfsF
 have hH:=fun (s:BitVec 64) w' =>Has18_at s o.user w'
 by_cases k1:o.kind=3∨o.kind=4
 ·
  rw [if_pos k1]
  have hO1:=hO o.rect
  clear hO
  generalize (ovE o.rect b.rules).1.1=s1 at hO1 ⊢
  generalize (ovE o.rect b.rules).1.2.1=s2 at hO1 ⊢
  generalize (ovE o.rect b.rules).1.2.2=s3 at hO1 ⊢
  repeat' (first|((with_reducible apply w_drawC0 (id:=5) [3,7] []);kernel_rfl;kernel_rfl;kernel_rfl)|((with_reducible apply wc_v);(iterate 3 exact rfl);(with_reducible apply v_field);exact rfl;exact rfl)|((with_reducible apply wl_callvp (f:=215));exact rfl;exact rfl;infer_instance;exact rfl;(intro w' hm;exact hO1 _ w' _ pK hm))|((with_reducible apply wl_callp (f:=147));exact rfl;exact rfl;(intro w' _;exact hH _ w'))|refine sT ?_|refine sS ?_|refine sW ?_|refine sM fun _=> ?_|(refine sC ?_ ?_<;>intro hb<;>try omega)|(refine sCW ?_ ?_<;>intro hb<;>try omega)|fail)
  all_goals first|(exfalso;omega)|((refine rT1 ?_);rfl)|trace_state
 rw [if_neg k1]
 by_cases k2:o.kind=6
 ·
  rw [if_pos k2]
  have hO1:=hO o.rect
  clear hO
  generalize (ovE o.rect b.rules).1.1=s1 at hO1 ⊢
  generalize (ovE o.rect b.rules).1.2.1=s2 at hO1 ⊢
  generalize (ovE o.rect b.rules).1.2.2=s3 at hO1 ⊢
  repeat' (first|((with_reducible apply w_drawC0 (id:=7) [3,7] []);kernel_rfl;kernel_rfl;kernel_rfl)|((with_reducible apply wc_v);(iterate 3 exact rfl);(with_reducible apply v_field);exact rfl;exact rfl)|((with_reducible apply wl_callvp (f:=215));exact rfl;exact rfl;infer_instance;exact rfl;(intro w' hm;exact hO1 _ w' _ pK hm))|((with_reducible apply wl_callp (f:=147));exact rfl;exact rfl;(intro w' _;exact hH _ w'))|refine sT ?_|refine sS ?_|refine sW ?_|refine sM fun _=> ?_|(refine sC ?_ ?_<;>intro hb<;>try omega)|(refine sCW ?_ ?_<;>intro hb<;>try omega)|fail)
  all_goals first|(exfalso;omega)|((refine rT1 ?_);rfl)|trace_state
 rw [if_neg k2]
 by_cases k3:o.kind=7∨o.kind=8
 ·
  rw [if_pos k3]
  have hO1:=hO o.rect
  clear hO
  generalize (ovE o.rect b.rules).1.1=s1 at hO1 ⊢
  generalize (ovE o.rect b.rules).1.2.1=s2 at hO1 ⊢
  generalize (ovE o.rect b.rules).1.2.2=s3 at hO1 ⊢
  repeat' (first|((with_reducible apply w_drawC0 (id:=10) [3,7] []);kernel_rfl;kernel_rfl;kernel_rfl)|((with_reducible apply wc_v);(iterate 3 exact rfl);(with_reducible apply v_field);exact rfl;exact rfl)|((with_reducible apply wl_callvp (f:=215));exact rfl;exact rfl;infer_instance;exact rfl;(intro w' hm;exact hO1 _ w' _ pK hm))|((with_reducible apply wl_callp (f:=147));exact rfl;exact rfl;(intro w' _;exact hH _ w'))|refine sT ?_|refine sS ?_|refine sW ?_|refine sM fun _=> ?_|(refine sC ?_ ?_<;>intro hb<;>try omega)|(refine sCW ?_ ?_<;>intro hb<;>try omega)|fail)
  all_goals first|(exfalso;omega)|((refine rT1 ?_);rfl)|trace_state
 rw [if_neg k3]
 by_cases k4:o.kind=9
 ·
  rw [if_pos k4]
  obtain ⟨hi1,hi2⟩:=hi k4
  obtain ⟨j,hj⟩: ∃ j:Nat,o.idx=(j:Int):=⟨o.idx.toNat,by omega⟩
  have hjl:j<b.grants.length:=by omega
  rw [hj,Int.toNat_natCast,List.getElem?_eq_getElem hjl]
  have hg:=hr.g
  obtain ⟨ae1,ar1,ag1,al1,as1,ce1,cr1,cg1,cl1,cs1⟩:=x
  dsimp only at*
  obtain ⟨Ag,cg2,eg,hg1,hg2,hg3⟩:=hg
  cases eg
  obtain ⟨gg,og,rfl,hrg⟩:=hg3 (by omega)
  have he:=hrg.elem encGn_len j hjl
  generalize b.grants[j]=y at he ⊢
  have hO1:=hO y.rect
  clear hO
  generalize (ovE y.rect b.rules).1.1=s1 at hO1 ⊢
  generalize (ovE y.rect b.rules).1.2.1=s2 at hO1 ⊢
  generalize (ovE y.rect b.rules).1.2.2=s3 at hO1 ⊢
  obtain ⟨us,E,RU,G,L,M,st⟩:=b
  dsimp only at*
  simp only [encBk] at hbk
  repeat' (first|((with_reducible apply w_drawC0 (id:=12) [8,9] []);kernel_rfl;kernel_rfl;kernel_rfl)|((with_reducible apply w_drawC0 (id:=13) [9,13] []);kernel_rfl;kernel_rfl;kernel_rfl)|((with_reducible apply wc_v);(iterate 3 exact rfl);(with_reducible apply v_loadf_ro);exact rfl;exact hbk;exact rfl)|((with_reducible apply wc_v);(iterate 3 exact rfl);(with_reducible apply v_indexAddr (j:=j));exact rfl;(rw [hj];exact rfl);exact hjl)|((with_reducible apply wc_v);(iterate 3 exact rfl);(with_reducible apply v_loadw_ro);exact rfl;exact he;exact rfl)|((with_reducible apply wc_v);(iterate 3 exact rfl);(with_reducible apply v_field);exact rfl;exact rfl)|((with_reducible apply wl_callvp (f:=215));exact rfl;exact rfl;infer_instance;exact rfl;(intro w' hm;exact hO1 _ w' _ pK hm))|((with_reducible apply wl_callp (f:=147));exact rfl;exact rfl;(intro w' _;exact hH _ w'))|refine sT ?_|refine sS ?_|refine sW ?_|refine sM fun _=> ?_|(refine sC ?_ ?_<;>intro hb<;>try omega)|(refine sCW ?_ ?_<;>intro hb<;>try omega)|fail)
  all_goals first
   |(exfalso;omega)
   |((refine rT1 ?_);rw [decide_eq_false hb];rfl)
   |((refine rT1 ?_);rw [decide_eq_true hb];rfl)
   |trace_state
 rw [if_neg k4]
 repeat' (first|refine sT ?_|refine sS ?_|refine sM fun _=> ?_|(refine sC ?_ ?_<;>intro hb<;>try omega)|fail)
 all_goals first|(exfalso;omega)|((refine rT1 ?_);rfl)|trace_state
def areaF (r:Rct):Int:=if rectOk r=false then 0 else (r.c2 - r.c1+1)*(r.r2 - r.r1+1)
theorem rectArea_at (r:Rct) (w:World):Pure Tryz.prog 159 [.agg (encR r).toArray] w (.tuple #[.int .i64 (areaF r),.int .i64 (rectE r)]):=by
 refine fn_at Tryz.func159 rfl Tryz.ntmps159 rfl ?_
 have h1:=fun w=>rect_at r w
 unfold areaF
 by_cases h:rectOk r=false
 ·
  rw [if_pos h]
  have hne:rectE r≠0:=fun e=>rectE_good (by omega) h
  generalize rectE r=e at h1 hne ⊢
  repeat' (first|((with_reducible apply wl_callp);exact rfl;exact rfl;(intro w hm;exact h1 w))|refine sT ?_|refine sM fun _=> ?_|(refine sC ?_ ?_<;>intro hb<;>try omega)|fail)
  all_goals first|(exfalso;omega)|((refine rT2 ?_);rfl)|trace_state
 ·
  rw [if_neg h]
  have hz:rectE r=0:=by
   rcases Decidable.em (rectE r=0) with e|e
   ·
    exact e
   ·
    exact absurd (rectE_bad e) h
  rw [hz] at h1 ⊢
  have hb:1≤r.c1∧r.c1≤r.c2∧r.c2≤1024∧1≤r.r1∧r.r1≤r.r2∧r.r2≤1024:=by
   have:rectOk r=true:=by simpa using h
   simp only [rectOk,valid,Bool.and_eq_true,decide_eq_true_eq] at this
   omega
  have hm: -9223372036854775808≤(r.c2 - r.c1+1)*(r.r2 - r.r1+1)∧(r.c2 - r.c1+1)*(r.r2 - r.r1+1)≤9223372036854775807:=by
   have h1:(0:Int)≤(r.c2 - r.c1+1)*(r.r2 - r.r1+1):=Int.mul_nonneg (by omega) (by omega)
   have h2:(r.c2 - r.c1+1)*(r.r2 - r.r1+1)≤1024*1024:=Int.mul_le_mul (by omega) (by omega) (by omega) (by omega)
   omega
  repeat' (first|((with_reducible apply wl_callp);exact rfl;exact rfl;(intro w hm;exact h1 w))|((with_reducible apply wl_v);exact rfl;(with_reducible apply v_mul);exact rfl;exact rfl;exact hm)|refine sT ?_|refine sJ ?_|refine sM fun _=> ?_|(refine sC ?_ ?_<;>intro hb<;>try omega)|fail)
  all_goals first|(exfalso;omega)|((refine rT2 ?_);rfl)|trace_state
def revG (b:Bk) (o:Ox):Bool:=match b.grants[o.idx.toNat]? with|some g=>g.rev|none=>true
theorem revG_at {b:Bk} {o:Ox} {j:Nat} (hj:o.idx=(j:Int)) (hl:j<b.grants.length):revG b o=b.grants[j].rev:=by
 unfold revG
 rw [hj,Int.toNat_natCast,List.getElem?_eq_getElem hl]
def tst (b:Bk) (o:Ox):Nat→Bool
 |0=>decide (opE o≠0)
 |1=>decide (o.user<0)||decide (b.users≤o.user)
 |2=>(tgtO o).2 && decide (rectE (tgtO o).1≠0)
 |3=>decide ((o.rd|||o.wr|||o.ow|||o.to) &&& ~~~(allU b.users).1≠0#64)
 |4=>decide (o.kind=9) && (decide (o.idx<0)||decide ((b.grants.length:Int)≤o.idx)||revG b o)
 |5=>rfsF b o
 |6=>decide (o.kind=3) && decide ((ofP o.input).2.2≠0)
 |7=>(decide (o.kind=5) && decide (1024<areaF (tgtO o).1))||(decide (o.kind=7) && decide (64≤b.rules.length))||(decide (o.kind=8) && decide (64≤b.grants.length))
 |_=>false
def cdE (b:Bk) (o:Ox):Int × Int:=
 if tst b o 0 then (1,0) else if tst b o 1 then (2,0) else if tst b o 2 then (4,0) else if tst b o 3 then (2,0) else if tst b o 4 then (8,0)
 else if tst b o 5 then (5,0) else if tst b o 6 then (6,(ofP o.input).2.1) else if tst b o 7 then (7,0) else (0,0)
section
variable {b:Bk} {x:Bv} {o:Ox} {gb gp go:Nat} {w:World} (ho:Ro w go 0 (encOx o)) (hp:Ro w gp 0 [.pointer (some ⟨gb,0,none⟩)]) (hbk:Ro w gb 0 (encBk b x))
include ho
theorem code1_at:Pure Tryz.prog 149 [.pointer (some ⟨go,0,none⟩)] w (.bool (tst b o 0)):=by
 refine fn_at Tryz.func149 rfl Tryz.ntmps149 rfl ?_
 have h1:=fun w=>opCheck_at o w
 unfold tst
 generalize opE o=e at h1 ⊢
 repeat' (first|((with_reducible apply wl_callp);exact rfl;exact rfl;(intro w hm;exact h1 w))|refine sT ?_|refine sS ?_|refine sO ?_|refine sM fun _=> ?_|(refine sC ?_ ?_<;>intro hb<;>try omega)|fail)
 all_goals first|(exfalso;omega)|((refine rT1 ?_);simp;done)|((refine rT1 ?_);rfl)|trace_state
include hp hbk
theorem code2_at:Pure Tryz.prog 151 [.pointer (some ⟨go,0,none⟩),.pointer (some ⟨gp,0,none⟩)] w (.bool (tst b o 1)):=by
 refine fn_at Tryz.func151 rfl Tryz.ntmps151 rfl ?_
 unfold tst
 simp only [encOx] at ho
 simp only [encBk] at hbk
 repeat' (first|refine sT ?_|refine sS ?_|refine sQ ?_|refine sO ?_|refine sOQ ?_|refine sD ?_|refine sM fun _=> ?_|(refine sC ?_ ?_<;>intro hb<;>try omega)|(refine sCQ ?_ ?_<;>intro hb<;>try omega)|fail)
 all_goals first|(exfalso;omega)|((refine rT1 ?_);simp_all;done)|((refine rT1 ?_);simp_all;omega)|trace_state
omit hbk hp in
theorem code3_at {g8 g9:Nat} (h8:Ro w g8 0 (encR (tgtO o).1)) (h9:Ro w g9 0 [.bool (tgtO o).2]):Pure Tryz.prog 152 [.pointer (some ⟨g9,0,none⟩),.pointer (some ⟨g8,0,none⟩)] w (.bool (tst b o 2)):=by
 refine fn_at Tryz.func152 rfl Tryz.ntmps152 rfl ?_
 unfold tst
 have _hz:=ho
 clear _hz ho
 generalize (tgtO o).1=t at h8 ⊢
 generalize (tgtO o).2=c at h9 ⊢
 have h1:=fun w=>rect_at t w
 generalize rectE t=e at h1 ⊢
 cases c
 ·
  repeat' (first|((with_reducible apply wl_callp);exact rfl;exact rfl;(intro w hm;exact h1 w))|refine sT ?_|refine sS ?_|refine sO ?_|refine sM fun _=> ?_|(refine sC ?_ ?_<;>intro hb<;>try omega)|fail)
  all_goals first|(exfalso;omega)|((refine rT1 ?_);rfl)|trace_state
 ·
  repeat' (first|((with_reducible apply wl_callp);exact rfl;exact rfl;(intro w hm;exact h1 w))|refine sT ?_|refine sS ?_|refine sO ?_|refine sM fun _=> ?_|(refine sC ?_ ?_<;>intro hb<;>try omega)|fail)
  all_goals first|(exfalso;omega)|((refine rT1 ?_);simp;done)|((refine rT1 ?_);rfl)|trace_state
omit hbk hp in
theorem code4_at {g6:Nat} (h6:Ro w g6 0 [vS (allU b.users).1]):Pure Tryz.prog 153 [.pointer (some ⟨go,0,none⟩),.pointer (some ⟨g6,0,none⟩)] w (.bool (tst b o 3)):=by
 refine fn_at Tryz.func153 rfl Tryz.ntmps153 rfl ?_
 unfold tst
 generalize (allU b.users).1=a at h6 ⊢
 have ho7:=(Ox.ro ho).2
 simp only [encOx] at ho
 repeat' (first|((with_reducible apply wl_v);exact rfl;(with_reducible apply v_or64);exact rfl;exact rfl)|((with_reducible apply wl_v);exact rfl;(with_reducible apply v_andNot64 (b:=a));exact rfl;exact rfl)|((with_reducible apply wl_v);exact rfl;(with_reducible apply v_neq64 (b:=0#64));exact rfl;exact rfl)|refine sT ?_|refine sS ?_|refine sO ?_|refine sM fun _=> ?_|(refine sC ?_ ?_<;>intro hb<;>try omega)|fail)
 all_goals first|(exfalso;omega)|((refine rT1 ?_);simp;done)|((refine rT1 ?_);rfl)|trace_state
end
section
variable {b:Bk} {x:Bv} {o:Ox} {gb gp go:Nat} {w:World} (ho:Ro w go 0 (encOx o)) (hp:Ro w gp 0 [.pointer (some ⟨gb,0,none⟩)]) (hbk:Ro w gb 0 (encBk b x)) (hr:BRd w b x)
include ho hp hbk hr
set_option maxHeartbeats 4000000 in
theorem code5_at:Pure Tryz.prog 154 [.pointer (some ⟨go,0,none⟩),.pointer (some ⟨gp,0,none⟩)] w (.bool (tst b o 4)):=by
 refine fn_at Tryz.func154 rfl Tryz.ntmps154 rfl ?_
 have ht:tst b o 4=(decide (o.kind=9) && (decide (o.idx<0)||decide ((b.grants.length:Int)≤o.idx)||revG b o)):=rfl
 rw [ht]
 clear ht
 by_cases h1:o.kind=9∧0≤o.idx∧o.idx<(b.grants.length:Int)
 ·
  obtain ⟨h9,hi1,hi2⟩:=h1
  obtain ⟨j,hj⟩: ∃ j:Nat,o.idx=(j:Int):=⟨o.idx.toNat,by omega⟩
  have hjl:j<b.grants.length:=by omega
  rw [revG_at hj hjl,decide_eq_true h9,decide_eq_false (show ¬ o.idx<0 by omega),decide_eq_false (show ¬ (b.grants.length:Int)≤o.idx by omega),Bool.true_and,Bool.false_or,Bool.false_or]
  have hg:=hr.g
  obtain ⟨ae1,ar1,ag1,al1,as1,ce1,cr1,cg1,cl1,cs1⟩:=x
  dsimp only at*
  obtain ⟨Ag,cg2,eg,hg1,hg2,hg3⟩:=hg
  cases eg
  obtain ⟨gg,og,rfl,hrg⟩:=hg3 (by omega)
  obtain ⟨_,_,_,_,he⟩:=Gn.ro (hrg.elem encGn_len j hjl)
  generalize b.grants[j].rev=rv at he ⊢
  obtain ⟨us,E,RU,G,L,M,st⟩:=b
  dsimp only at*
  simp only [encBk] at hbk
  simp only [encOx] at ho
  clear hr
  repeat' (first|((with_reducible apply wq_v);exact rfl;(with_reducible apply v_load_ro (o:=0) (off:=0));exact ho;exact rfl;exact rfl)|((with_reducible apply wq_v);exact rfl;(with_reducible apply v_indexAddr (j:=j));exact rfl;(rw [← hj];exact rfl);exact hjl)|((with_reducible apply wq_v);exact rfl;(with_reducible apply v_load1_ro);exact rfl;exact he)|refine sT ?_|refine sS ?_|refine sQ ?_|refine sO ?_|refine sOQ ?_|refine sD ?_|refine sM fun _=> ?_|(refine sC ?_ ?_<;>intro hb<;>try omega)|(refine sCQ ?_ ?_<;>intro hb<;>try omega)|fail)
  all_goals first|(exfalso;omega)|((refine rT1 ?_);rfl)|((refine rT1 ?_);simp_all;done)|trace_state
 ·
  have he:(decide (o.kind=9) && (decide (o.idx<0)||decide ((b.grants.length:Int)≤o.idx)||revG b o))=decide (o.kind=9):=by
   by_cases h9:o.kind=9
   ·
    by_cases hi:o.idx<0
    ·
     simp [hi]
    ·
     have:(b.grants.length:Int)≤o.idx:=by
      have:=fun h=>h1 ⟨h9,h⟩
      omega
     simp [this]
   ·
    simp [h9]
  rw [he]
  clear he
  obtain ⟨us,E,RU,G,L,M,st⟩:=b
  dsimp only at*
  simp only [encBk] at hbk
  simp only [encOx] at ho
  clear hr
  repeat' (first|((with_reducible apply wq_v);exact rfl;(with_reducible apply v_load_ro (o:=0) (off:=0));exact ho;exact rfl;exact rfl)|refine sT ?_|refine sS ?_|refine sQ ?_|refine sO ?_|refine sOQ ?_|refine sD ?_|refine sM fun _=> ?_|(refine sC ?_ ?_<;>intro hb<;>try omega)|(refine sCQ ?_ ?_<;>intro hb<;>try omega)|fail)
  all_goals first|(exfalso;omega)|((refine rT1 ?_);simp_all;done)|trace_state
omit hp hbk hr in
theorem code6_at (h: ∀ w' H,Mem w w' H→Pure Tryz.prog 156 [.pointer (some ⟨gb,0,none⟩),.agg (encOx o).toArray] w' (.bool (rfsF b o))) (hp:Ro w gp 0 [.pointer (some ⟨gb,0,none⟩)]):Pure Tryz.prog 155 [.pointer (some ⟨gp,0,none⟩),.pointer (some ⟨go,0,none⟩)] w (.bool (tst b o 5)):=by
 refine fn_at Tryz.func155 rfl Tryz.ntmps155 rfl ?_
 have ht:tst b o 5=rfsF b o:=rfl
 rw [ht]
 generalize rfsF b o=c at h ⊢
 repeat' (first|((with_reducible apply wl_callp (f:=156));exact rfl;exact rfl;(intro w' hm;exact h w' _ hm))|refine sT ?_|refine sS ?_|refine sO ?_|refine sM fun _=> ?_|(refine sC ?_ ?_<;>intro hb<;>try omega)|fail)
 all_goals first|(exfalso;omega)|((refine rT1 ?_);rfl)|trace_state
set_option maxHeartbeats 4000000 in
theorem code8_at {g8:Nat} (h8:Ro w g8 0 (encR (tgtO o).1)):Pure Tryz.prog 158 [.pointer (some ⟨g8,0,none⟩),.pointer (some ⟨go,0,none⟩),.pointer (some ⟨gp,0,none⟩)] w (.bool (tst b o 7)):=by
 refine fn_at Tryz.func158 rfl Tryz.ntmps158 rfl ?_
 have ht:tst b o 7=((decide (o.kind=5) && decide (1024<areaF (tgtO o).1))||(decide (o.kind=7) && decide (64≤b.rules.length))||(decide (o.kind=8) && decide (64≤b.grants.length))):=rfl
 rw [ht]
 clear ht
 have hA:=fun w=>rectArea_at (tgtO o).1 w
 generalize areaF (tgtO o).1=ar at hA ⊢
 generalize (tgtO o).1=t at h8 hA
 obtain ⟨us,E,RU,G,L,M,st⟩:=b
 dsimp only at*
 simp only [encBk] at hbk
 simp only [encOx] at ho
 clear hr
 repeat' (first|((with_reducible apply wl_v);exact rfl;(with_reducible apply v_load_ro (o:=0) (off:=0));exact ho;exact rfl;exact rfl)|((with_reducible apply wl_callp);exact rfl;exact rfl;(intro w hm;exact hA w))|refine sT ?_|refine sS ?_|refine sQ ?_|refine sO ?_|refine sOQ ?_|refine sD ?_|refine sM fun _=> ?_|(refine sC ?_ ?_<;>intro hb<;>try omega)|(refine sCQ ?_ ?_<;>intro hb<;>try omega)|fail)
 all_goals first|(exfalso;omega)|((refine rT1 ?_);simp_all;done)|((refine rT1 ?_);simp_all;omega)|trace_state
end
section
variable {b:Bk} {o:Ox} {go gat:Nat} {w0:World} {H:List Blk}
set_option maxHeartbeats 4000000 in
theorem code7_in (hW:Words w0) (hgo:In (.box go 41 (encOx o)) H):FnIn Tryz.prog 157 [.pointer (some ⟨go,0,none⟩),.pointer (some ⟨gat,0,none⟩)] w0 (.box gat 3 [.int .i64 0]::H) fun v H' =>v= .bool (tst b o 6)∧H' = .box gat 3 [.int .i64 (if tst b o 6 then (ofP o.input).2.1 else 0)]::H:=by
 refine fn_in Tryz.func157 rfl Tryz.ntmps157 rfl ?_
 have ht:tst b o 6=(decide (o.kind=3) && decide ((ofP o.input).2.2≠0)):=rfl
 rw [ht]
 clear ht
 have hO:=fun (w' :World) (H' :List Blk) (hm:Mem w0 w' H')=>Of_at o.input w' (hW.next hm)
 generalize ofP o.input=r at hO ⊢
 obtain ⟨⟨fm,v,t⟩,at_,e⟩:=r
 simp only [ofV,encM] at hO
 dsimp only at*
 by_cases h3:o.kind=3
 ·
  rw [decide_eq_true h3,Bool.true_and]
  by_cases he:e≠0
  ·
   rw [decide_eq_true he,if_pos rfl]
   repeat' (first|((with_reducible apply wl_v);exact rfl;(with_reducible apply v_load_box);exact rfl;exact .tl hgo;exact rfl)|((with_reducible apply wl_call (f:=108));exact rfl;exact rfl;(intro w' hm;exact hO w' _ hm);rintro _ _ ⟨A,cap,rfl,rfl⟩)|refine sT ?_|refine sS ?_|refine sM fun _=> ?_|(refine sC ?_ ?_<;>intro hb<;>try omega)|fail)
   all_goals first|(exfalso;omega)|(exact ret1 eIO rfl rfl (H' := .box gat 3 [.int .i64 at_]::H) mS ⟨congrArg Value.bool (by first|rfl|(simp [he];done)),rfl⟩)|trace_state
  ·
   rw [decide_eq_false he,if_neg (by decide)]
   repeat' (first|((with_reducible apply wl_v);exact rfl;(with_reducible apply v_load_box);exact rfl;exact .tl hgo;exact rfl)|((with_reducible apply wl_call (f:=108));exact rfl;exact rfl;(intro w' hm;exact hO w' _ hm);rintro _ _ ⟨A,cap,rfl,rfl⟩)|refine sT ?_|refine sS ?_|refine sM fun _=> ?_|(refine sC ?_ ?_<;>intro hb<;>try omega)|fail)
   all_goals first|(exfalso;omega)|(exact ret1 eIO rfl rfl (H' := .box gat 3 [.int .i64 0]::H) mS ⟨congrArg Value.bool (by first|rfl|(simp [he];done)),rfl⟩)|trace_state
 ·
  rw [decide_eq_false h3,Bool.false_and,if_neg (by decide)]
  repeat' (first|((with_reducible apply wl_v);exact rfl;(with_reducible apply v_load_box);exact rfl;exact .tl hgo;exact rfl)|refine sT ?_|refine sS ?_|refine sM fun _=> ?_|(refine sC ?_ ?_<;>intro hb<;>try omega)|fail)
  all_goals first|(exfalso;omega)|(exact ret1 eIO rfl rfl (H' := .box gat 3 [.int .i64 0]::H) mS ⟨rfl,rfl⟩)|trace_state
end
end Go.SL
namespace Go.SL
open Go Go.RowKit
section
variable {P:Program} {n:Fr} {w0:World} {Q:Post} {s:Slots} {H:List Blk} {rest:List Oper} {ty:TypeId} {p:String} {af:Array Edge}
theorem wl_appendG {d t e n' m c' g2 o2 sz by_:Nat} {B:Option Addr} {x y:Operand} {xs news:List Value} {ops:Array Oper} [ht:Und P t (.slice e)] [he:Elem P e sz by_] (hn:Nat.blt d n.sz=true)
  (hx:ev s x=some (.slice B n' n')) (hy:ev s y=some (.slice (some ⟨g2,o2,none⟩) m c')) (hread: ∀ w,Mem w0 w H→Reads w (.slice B n' n') n' xs) (hxl:xs.length=n' *sz)
  (hnews: ∀ w,Mem w0 w H→Cells w g2 o2 news) (hl:news.length=m*sz) (h1: ∀ u∈news,u.oneCell' =true) (hm0:0<m) (hby:(n' +m)*by_≤140737488355328) (h63:n' +m≤maxLen)
  (k: ∀ g' cap',WL P n w0 ops rest Q ((d,sl (some g') (n' +m) cap')::s) (.own (some g') e sz (n' +m) cap' (xs++news)::H)):
  WL P n w0 ops (⟨some d,.call { callee:= .builtin .append,args:= #[x,y],argTypes:= #[t,t] },ty,p,af,none⟩::rest) Q s H:=by
 intro a w hs hm
 obtain ⟨i,z,i1,i2,i3,i4,i5,i6⟩:=he.out
 subst i2
 subst i3
 have hsrc:Src P i.size t (.slice (some ⟨g2,o2,none⟩) m c') m news w:=Src.ofSlice w ht.out ⟨g2,o2,none⟩ m c' news hl (fun j u hu=>by rw [addr_add];exact hnews w hm j u hu) h1
 obtain ⟨B',c2,hB,_,_,hrd⟩:=hread w hm
 cases hB
 have hold:(Builtin.firstCells i.size n' (.slice B n' n')).run P w.drew= .ok xs.toArray w.drew:=by
  rcases Nat.eq_zero_or_pos n' with rfl|hpos
  ·
   have e0:xs= []:=List.eq_nil_of_length_eq_zero (by rw [hxl,Nat.zero_mul])
   subst e0
   cases B with
   |none=>exact run_firstCells_none w.drew i.size 0 0 0
   |some b=>exact run_firstCells_some w.drew i.size 0 b 0 0 [] (by simp) (fun j u hu=>by simp at hu)
  ·
   obtain ⟨g,o,rfl,hro⟩:=hrd hpos
   refine run_firstCells_some w.drew i.size n' ⟨g,o,none⟩ n' n' _ hxl fun j u hu=> ?_
   rw [addr_add]
   exact hro.cells j u hu
 have hfits:Builtin.nextslicecap (n' +m) n' *i.bytes≤281474976710656:=growslice_fits (by omega) hby
 have hr:=run_append_grow_src (P:=P) w t t ty e i z ht.out i1 i4 B n' n' xs hold (.slice (some ⟨g2,o2,none⟩) m c') m news hsrc (by omega) (by simp only [maxLen] at h63;omega) hfits
 have hge:=grownCap_ge w (n' +m) n' e
 have hcm2:grownCap w (n' +m) n' e≤maxLen:=grownCap_le_maxLen w (n' +m) n' e (by omega)
 have hlen2:(xs++news).length=(n' +m)*i.size:=by rw [List.length_append,hxl,hl,Nat.add_mul]
 refine wpList_plain rfl fun K hK=> ?_
 unfold Oper.wp execOp
 simp only [resolve,invoke,builtin,Sem.run_bind,Sem.run_pure,Result.andThen_ok,List.map_toArray,List.map_cons,List.map_nil,hs.eval x _ hx,hs.eval y _ hy,hr,Oper.upon]
 refine hK _ _ (k w.heap.size _ _ _ (hs.put (Nat.blt_eq ▸ hn) _) ?_)
 refine hm.new ⟨rfl,rfl,rfl,by simp,fun k hk _=>heap_alloc_old w.drew _ hk⟩ ⟨hlen2,hge,hcm2,(Builtin.zeroCells z.cells (grownCap w (n' +m) n' e - (n' +m))).toList,?_,?_⟩ fun k hk=> ?_
 ·
  rw [List.length_append,hlen2,Array.length_toList,size_zeroCells,i5,← Nat.add_mul]
  congr 1
  omega
 ·
  rw [show (xs++news++(Builtin.zeroCells z.cells (grownCap w (n' +m) n' e - (n' +m))).toList).toArray=(xs++news).toArray++Builtin.zeroCells z.cells (grownCap w (n' +m) n' e - (n' +m)) by apply Array.ext';simp]
  exact heap_alloc_new w.drew _
 ·
  cases hk
  exact Nat.le_refl _
end
end Go.SL
namespace Go.SL
open Go Go.Proofs
attribute [local irreducible] W WL WQ WG WA WX WLI WR WT WC WE VOp RW thn blk cutP scp retP retPP endB FnAt FnIn FnP ceP
theorem bkHas_at (o:Ox) (e:Et) (go:Nat) (w:World) (ho:Ro w go 0 (encOx o)):Pure Tryz.prog 80 [.agg (encEt e).toArray,.pointer (some ⟨go,0,none⟩)] w (.bool (hasR o.rect e.at_)):=by
 refine fn_at Tryz.func80 rfl Tryz.ntmps80 rfl ?_
 have h1:=fun w=>Has_at o.rect e.at_ w
 generalize hasR o.rect e.at_=c at h1 ⊢
 have ho2:=(Ox.ro ho).1
 repeat' (first|((with_reducible apply wl_callp);exact rfl;exact rfl;(intro w hm;exact h1 w))|refine sT ?_|refine sO ?_|refine sM fun _=> ?_|(refine sC ?_ ?_<;>intro hb<;>try omega)|fail)
 all_goals first|(exfalso;omega)|((refine rT1 ?_);rfl)|trace_state
theorem refE {L:List Et} {k:Nat} (h:k<L.length):((L.flatMap encEt).drop (0+k*3)).take 3=encEt L[k]:=by
 rw [Nat.zero_add];exact flat_elem encEt_len L k h
section
variable (L:List Et) (o:Ox) (go:Nat) (cap:Nat) (R:List Blk) (w0:World)
def delK (o:Ox) (e:Et):Bool:= !hasR o.rect e.at_
def idxE (o:Ox) (L:List Et):Int:=match L.findIdx? (fun e=>hasR o.rect e.at_) with|some i=>(i:Int)|none=> -1
theorem idxE_some {o:Ox} {L:List Et} {i:Nat} (h:i<L.length) (hq:hasR o.rect L[i].at_=true) (hno: ∀ j (h:j<L.length),j<i→hasR o.rect L[j].at_=false):idxE o L=(i:Int)∧L.filter (delK o)=L.take i++(L.drop (i+1)).filter (delK o):=by
 constructor
 ·
  have:L.findIdx? (fun e=>hasR o.rect e.at_)=some i:=by
   rw [List.findIdx?_eq_some_iff_getElem]
   exact ⟨h,hq,fun j hj=>by simpa using hno j (by omega) hj⟩
  unfold idxE;rw [this]
 ·
  have h1:(L.take i).filter (delK o)=L.take i:=List.filter_eq_self.2 fun e he=>by
   obtain ⟨j,hj,rfl⟩:=List.mem_iff_getElem.1 he
   rw [List.length_take] at hj
   rw [List.getElem_take]
   simp [delK,hno j (by omega) (by omega)]
  conv=>lhs;rw [← List.take_append_drop i L]
  rw [List.filter_append,h1,List.drop_eq_getElem_cons h,List.filter_cons,if_neg (by simp [delK,hq])]
theorem idxE_none {o:Ox} {L:List Et} (hno: ∀ j (h:j<L.length),hasR o.rect L[j].at_=false):idxE o L= -1∧L.filter (delK o)=L:=by
 constructor
 ·
  have:L.findIdx? (fun e=>hasR o.rect e.at_)=none:=by
   rw [List.findIdx?_eq_none_iff]
   intro e he
   obtain ⟨j,hj,rfl⟩:=List.mem_iff_getElem.1 he
   exact hno j hj
  unfold idxE;rw [this]
 ·
  refine List.filter_eq_self.2 fun e he=> ?_
  obtain ⟨j,hj,rfl⟩:=List.mem_iff_getElem.1 he
  simp [delK,hno j hj]
theorem idxF0_in (B:Option Addr) (cap:Nat) (fv:Value) (F:List Blk) (w0:World):
  FnIn Tryz.prog 162 [.slice B 0 cap,fv] w0 F fun v H=>v= .int .i64 (-1)∧H=F:=by
 refine fn_in Tryz.func162 rfl Tryz.ntmps162 rfl ?_
 repeat' (first|refine sT ?_|refine sS ?_|refine sM fun _=> ?_|(refine sC ?_ ?_<;>intro hb<;>try omega)|fail)
 refine w_loopK [7] rfl (fun _:Unit=> [(8,.int .i64 0)]) (fun _=>F) (fun _=>True) (fun _=>0) () trivial sB mS ?_
 rintro _ _
 repeat' (first|refine sT ?_|refine sS ?_|refine sM fun _=> ?_|(refine sC ?_ ?_<;>intro hb<;>try omega)|fail)
 all_goals first
  |(exfalso;omega)
  |(refine ret1 eIO rfl rfl (.refl _) ?_;exact ⟨rfl,rfl⟩)
  |trace_state
set_option maxHeartbeats 4000000 in
theorem idxF_in (g : Nat) (hL : L.length ≤ 1000000) (hgo : In (.box go 41 (encOx o)) R) :
    FnIn Tryz.prog 162 [.slice (some ⟨g, 0, none⟩) L.length cap, .func (.func 80) #[] #[.pointer (some ⟨go, 0, none⟩)]] w0 (.own (some g) 53 3 L.length cap (L.flatMap encEt) :: R) fun v H => v = .int .i64 (idxE o L) ∧ H = .own (some g) 53 3 L.length cap (L.flatMap encEt) :: R := by
  refine fn_in Tryz.func162 rfl Tryz.ntmps162 rfl ?_
  have hP := fun (e : Et) (w' : World) (H : List Blk) (hi : In (.box go 41 (encOx o)) H) (hm : Mem w0 w' H) => bkHas_at o e go w' (Ro.of_box hm hi)
  repeat' (first | refine sT ?_ | refine sS ?_ | refine sM fun _ => ?_ | (refine sC ?_ ?_ <;> intro hb <;> try omega) | fail)
  refine w_loopK [0, 1, 7] rfl (fun i : Nat => [(8, .int .i64 (i : Int))]) (fun _ => .own (some g) 53 3 L.length cap (L.flatMap encEt) :: R) (fun i => i ≤ L.length ∧ ∀ j (h : j < L.length), j < i → hasR o.rect L[j].at_ = false) (fun i => L.length - i) 0 ⟨by omega, fun j _ h => by omega⟩ sB mS ?_
  rintro i ⟨hi, hno⟩
  by_cases hlt : i < L.length
  · have hr1 := refE hlt
    have hP1 := hP L[i]
    obtain ⟨c, hc⟩ : ∃ c, hasR o.rect L[i].at_ = c := ⟨_, rfl⟩
    rw [hc] at hP1
    cases c
    · repeat' (first | ((with_reducible apply wl_v); exact rfl; (with_reducible apply v_indexAddr (j := i)); exact rfl; exact rfl; omega) | ((with_reducible apply wl_v); exact rfl; (with_reducible apply v_loads_own); exact rfl; exact pK; exact hr1; exact rfl) | ((with_reducible apply wl_callvp (f := 80)); exact rfl; exact rfl; infer_instance; exact rfl; (intro w' hm; exact hP1 w' _ (.tl hgo) hm)) | refine sT ?_ | refine sS ?_ | refine sN ?_ | refine sM fun _ => ?_ | (refine sC ?_ ?_ <;> intro hb <;> try omega) | fail)
      all_goals first
        | (exfalso; omega)
        | (refine ⟨i + 1, ⟨hlt, fun j hj hji => ?_⟩, by omega, by exact sB, by exact sB, by exact mS⟩
           rcases (by omega : j < i ∨ j = i) with h | rfl
           · exact hno j hj h
           · exact hc)
        | trace_state
    · repeat' (first | ((with_reducible apply wl_v); exact rfl; (with_reducible apply v_indexAddr (j := i)); exact rfl; exact rfl; omega) | ((with_reducible apply wl_v); exact rfl; (with_reducible apply v_loads_own); exact rfl; exact pK; exact hr1; exact rfl) | ((with_reducible apply wl_callvp (f := 80)); exact rfl; exact rfl; infer_instance; exact rfl; (intro w' hm; exact hP1 w' _ (.tl hgo) hm)) | refine sT ?_ | refine sS ?_ | refine sN ?_ | refine sM fun _ => ?_ | (refine sC ?_ ?_ <;> intro hb <;> try omega) | fail)
      all_goals first
        | (exfalso; omega)
        | (refine ret1 eIO rfl rfl (.refl _) ?_; rw [(idxE_some hlt hc hno).1]; exact ⟨rfl, rfl⟩)
        | trace_state
  · have e := (idxE_none (o := o) (L := L) fun j hj => hno j hj (by omega)).1
    repeat' (first | refine sT ?_ | refine sS ?_ | refine sM fun _ => ?_ | (refine sC ?_ ?_ <;> intro hb <;> try omega) | fail)
    all_goals first
      | (exfalso; omega)
      | (refine ret1 eIO rfl rfl (.refl _) ?_; rw [e]; exact ⟨rfl, rfl⟩)
      | trace_state
set_option maxHeartbeats 8000000 in
theorem delF_in (A : Option Nat) (hL : L.length ≤ 1000000) (hgo : In (.box go 41 (encOx o)) R) :
    FnIn Tryz.prog 79 [sl A L.length cap, .func (.func 80) #[] #[.pointer (some ⟨go, 0, none⟩)]] w0 (.own A 53 3 L.length cap (L.flatMap encEt) :: R) fun v H => v = sl A (L.filter (delK o)).length cap ∧ H = .own A 53 3 (L.filter (delK o)).length cap ((L.filter (delK o)).flatMap encEt) :: R := by
  refine fn_in Tryz.func79 rfl Tryz.ntmps79 rfl ?_
  refine w_le (A := A) .hd fun hle => ?_
  rcases Nat.eq_zero_or_pos L.length with h0 | hpos
  · have e : L = [] := List.eq_nil_of_length_eq_zero h0
    subst e
    have hI := idxF0_in (A.map fun g => ⟨g, 0, none⟩) cap (.func (.func 80) #[] #[.pointer (some ⟨go, 0, none⟩)]) (.own A 53 3 0 cap [] :: R) w0
    repeat' (first | ((with_reducible apply wl_callin (f := 162)); exact rfl; exact rfl; exact hI; rintro _ _ ⟨rfl, rfl⟩) | refine sT ?_ | refine sS ?_ | refine sN ?_ | refine sM fun _ => ?_ | (refine sC ?_ ?_ <;> intro hb <;> try omega) | fail)
    all_goals first
      | (exfalso; omega)
      | (refine ret1 eIO rfl rfl (.refl _) ?_; exact ⟨rfl, rfl⟩)
      | trace_state
  · refine w_some (A := A) .hd hpos fun g hA => ?_
    subst hA
    have hP := fun (e : Et) (w' : World) (H : List Blk) (hi : In (.box go 41 (encOx o)) H) (hm : Mem w0 w' H) => bkHas_at o e go w' (Ro.of_box hm hi)
    have hI := idxF_in L o go cap R w0 g hL hgo
    rcases hfi : L.findIdx? (fun e => hasR o.rect e.at_) with _ | k
    · have hno : ∀ j (h : j < L.length), hasR o.rect L[j].at_ = false := fun j hj => by
        simpa using List.findIdx?_eq_none_iff.1 hfi L[j] (List.getElem_mem hj)
      obtain ⟨e1, e2⟩ := idxE_none (o := o) (L := L) hno
      rw [e1] at hI
      rw [e2]
      repeat' (first | ((with_reducible apply wl_callin (f := 162)); exact rfl; exact rfl; exact hI; rintro _ _ ⟨rfl, rfl⟩) | refine sT ?_ | refine sS ?_ | refine sN ?_ | refine sM fun _ => ?_ | (refine sC ?_ ?_ <;> intro hb <;> try omega) | fail)
      all_goals first
        | (exfalso; omega)
        | (refine ret1 eIO rfl rfl (.refl _) ?_; exact ⟨rfl, rfl⟩)
        | trace_state
    · obtain ⟨hkl, hq, hno⟩ := List.findIdx?_eq_some_iff_getElem.1 hfi
      obtain ⟨e1, e2⟩ := idxE_some (o := o) (L := L) hkl hq fun j hj hjk => by simpa using hno j hjk
      rw [e1] at hI
      rw [e2]
      repeat' (first | ((with_reducible apply wl_callin (f := 162)); exact rfl; exact rfl; exact hI; rintro _ _ ⟨rfl, rfl⟩) | refine sT ?_ | refine sS ?_ | refine sN ?_ | refine sM fun _ => ?_ | (refine sC ?_ ?_ <;> intro hb <;> try omega) | fail)
      all_goals first | (exfalso; omega) | skip
      refine w_loopK [0, 1] rfl (fun y : Nat × Nat × List Et => [(6, .int .i64 (y.1 : Int)), (5, .int .i64 (y.2.1 : Int))]) (fun y => .own (some g) 53 3 L.length cap (y.2.2.flatMap encEt) :: R) (fun y => k + 1 ≤ y.1 ∧ y.1 ≤ L.length ∧ y.2.1 < y.1 ∧ y.2.2.length = L.length ∧ y.2.2.take y.2.1 = L.take k ++ ((L.drop (k + 1)).take (y.1 - (k + 1))).filter (delK o) ∧ ∀ j, y.1 ≤ j → y.2.2[j]? = L[j]?) (fun y => L.length - y.1) (k + 1, k, L) ⟨Nat.le_refl _, by omega, Nat.lt_succ_self k, rfl, by simp, fun _ _ => rfl⟩ sB mS ?_
      rintro ⟨j, i, ys⟩ ⟨hj1, hj2, hij, hyl, hyt, hyj⟩
      dsimp only at hj1 hj2 hij hyl hyt hyj ⊢
      by_cases hlt : j < L.length
      · have hjy : j < ys.length := by omega
        have hr1 := refE (L := ys) hjy
        have he1 : ys[j] = L[j] := by
          have := hyj j (by omega)
          rw [List.getElem?_eq_getElem hjy, List.getElem?_eq_getElem hlt] at this
          exact Option.some.inj this
        rw [he1] at hr1
        have hst : ((L.drop (k + 1)).take (j + 1 - (k + 1))).filter (delK o) = ((L.drop (k + 1)).take (j - (k + 1))).filter (delK o) ++ (if delK o L[j] then [L[j]] else []) := by
          rw [show j + 1 - (k + 1) = j - (k + 1) + 1 by omega, List.take_succ_eq_append_getElem (by rw [List.length_drop]; omega), List.filter_append, List.getElem_drop]
          congr 1
          rw [show L[k + 1 + (j - (k + 1))]'(by omega) = L[j] by congr 1; omega, List.filter_cons, List.filter_nil]
        have hP1 := hP L[j]
        obtain ⟨c, hc⟩ : ∃ c, hasR o.rect L[j].at_ = c := ⟨_, rfl⟩
        rw [hc] at hP1
        cases c with
        | true =>
          rw [if_neg (by simp [delK, hc]), List.append_nil] at hst
          repeat' (first | ((with_reducible apply wl_v); exact rfl; (with_reducible apply v_indexAddr (j := j)); exact rfl; exact rfl; omega) | ((with_reducible apply wl_v); exact rfl; (with_reducible apply v_loads_own); exact rfl; exact pK; exact hr1; exact rfl) | ((with_reducible apply wl_callvp (f := 80)); exact rfl; exact rfl; infer_instance; exact rfl; (intro w' hm; exact hP1 w' _ (.tl (.tl hgo)) hm)) | refine sT ?_ | refine sS ?_ | refine sN ?_ | refine sM fun _ => ?_ | (refine sC ?_ ?_ <;> intro hb <;> try omega) | fail)
          all_goals first
            | (exfalso; omega)
            | (refine ⟨(j + 1, i, ys), ⟨by dsimp only; omega, by dsimp only; omega, by dsimp only; omega, hyl, by dsimp only; rw [hyt, hst], fun t ht => hyj t (by dsimp only at ht; omega)⟩, by dsimp only; omega, by exact sB, by exact sB, by exact mS⟩; done)
            | trace_state
        | false =>
          rw [if_pos (by simp [delK, hc])] at hst
          have hput := flat_set encEt_len ys i (by omega) L[j]
          repeat' (first | ((with_reducible apply wl_v); exact rfl; (with_reducible apply v_indexAddr (j := j)); exact rfl; exact rfl; omega) | ((with_reducible apply wl_v); exact rfl; (with_reducible apply v_indexAddr (j := i)); exact rfl; exact rfl; omega) | ((with_reducible apply wl_v); exact rfl; (with_reducible apply v_loads_own); exact rfl; exact pK; exact hr1; exact rfl) | ((with_reducible apply wl_callvp (f := 80)); exact rfl; exact rfl; infer_instance; exact rfl; (intro w' hm; exact hP1 w' _ (.tl (.tl hgo)) hm)) | ((with_reducible apply wl_put_own (vs := encEt L[j]) (off := 0 + i * 3)); exact rfl; exact rfl; exact pK; exact rfl; exact rfl; (intro u hu; simp [encEt] at hu; rcases hu with rfl | rfl | rfl <;> rfl); (rw [flat_length' encEt_len, hyl]; omega); rw [Nat.zero_add, hput]) | refine sT ?_ | refine sS ?_ | refine sN ?_ | refine sM fun _ => ?_ | (refine sC ?_ ?_ <;> intro hb <;> try omega) | fail)
          all_goals first
            | (exfalso; omega)
            | (refine ⟨(j + 1, i + 1, ys.set i L[j]), ⟨by dsimp only; omega, by dsimp only; omega, by dsimp only; omega, by dsimp only; rw [List.length_set, hyl], ?_, fun t ht => ?_⟩, by dsimp only; omega, by exact sB, by exact sB, by exact mS⟩
               · dsimp only
                 rw [List.take_succ_eq_append_getElem (by rw [List.length_set]; omega), List.take_set_of_le (Nat.le_refl _), hyt, List.getElem_set_self, hst, List.append_assoc]
               · dsimp only at ht ⊢
                 rw [List.getElem?_set_ne (by omega)]
                 exact hyj t (by omega))
            | trace_state
      · have hjl : j = L.length := by omega
        have htk : (L.drop (k + 1)).take (L.length - (k + 1)) = L.drop (k + 1) := List.take_of_length_le (by rw [List.length_drop]; exact Nat.le_refl _)
        rw [hjl, htk] at hyt
        have hcl : (L.take k ++ (L.drop (k + 1)).filter (delK o)).length = i := by rw [← hyt, List.length_take, hyl]; omega
        have hiL : i < L.length := by omega
        repeat' (first | ((with_reducible apply wl_v); exact rfl; (with_reducible apply v_sliceLo (lo := i)); exact rfl; exact rfl; omega; exact hle) | ((with_reducible apply wl_clear (sz := 3) (k := i) (n' := L.length)); exact rfl; omega; exact pK; (intro u hu; simp [Value.cells] at hu; rcases hu with rfl | rfl <;> rfl); exact rfl) | ((with_reducible apply wl_v); exact rfl; (with_reducible apply v_sliceHi (hi := i)); exact rfl; exact rfl; omega) | refine sT ?_ | refine sS ?_ | refine sN ?_ | refine sM fun _ => ?_ | (refine sC ?_ ?_ <;> intro hb <;> try omega) | fail)
        all_goals first
          | (exfalso; omega)
          | (refine ret1 eIO rfl rfl (H' := .own (some g) 53 3 i cap ((ys.flatMap encEt).take (i * 3)) :: R) mS ?_
             rw [flat_take encEt_len, hyt, hcl]
             exact ⟨rfl, rfl⟩)
          | trace_state
end
end Go.SL

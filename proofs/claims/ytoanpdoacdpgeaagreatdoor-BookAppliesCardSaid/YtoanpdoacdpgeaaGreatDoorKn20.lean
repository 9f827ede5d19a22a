/-
  Lemmas and walks, put together: Lu G2 Ic Og Uc.
-/
import Derived.Test.YtoanpdoacdpgeaaGreatDoorKn13
import Derived.Test.YtoanpdoacdpgeaaGreatDoorKn14
import Derived.Test.YtoanpdoacdpgeaaGreatDoorKn19
set_option linter.unusedSimpArgs false
set_option linter.unusedVariables false
set_option maxRecDepth 20000
namespace Go.SL
open Go
structure EntOk (e:Rf × List Nd × List Us):Prop where
 at_:e.1.valid=true
 tree:jX e.2.1=0
 uses:e.2.2=Ms e.2.1
 len:e.2.1.length≤256
structure GrOk (G:Gr):Prop where
 sort:SortG G
 ent: ∀ e∈G,EntOk e
theorem Ep {c r:Int}:valid c r=true↔1≤c∧c≤1024∧1≤r∧r≤1024:=by
 simp only [valid,Nm,decide_eq_true_eq]
 omega
end Go.SL
namespace Go.SL
open Go Go.Proofs
attribute [local irreducible] W WL WQ WG WA WX WLI WR WT WC VOp RW thn blk bE scp ba bo bL aP FnP ceP
structure Gp where
 gg:Nat
 gm:Nat
 E:List En
 clock:Nat
 gr:Nat
 A:Option Nat
 cap:Nat
 Q:List En
 R:List Blk
end Go.SL
namespace Go.SL
open Go Go.Proofs
attribute [local irreducible] W WL WQ WG WA WX WLI WR WT WC WE VOp RW thn blk bE scp ba bo bL aP FnIn FnP ceP
def jx (k:Int):Bool:=decide (k=3)||decide (k=4)||decide (k=7)||decide (k=8)||decide (k=9)
def mL (k:Int):Bool:=decide (k=3)||decide (k=4)||decide (k=5)||decide (k=6)||decide (k=7)||decide (k=8)
def pH (k:Int):Ox:=⟨k,0,aO,au,0#64,0#64,0#64,0,0#64,0⟩
def jm (x:Ox):Rct × Bool:=if mL x.kind then (x.rect,true) else (aO,false)
def dM (x:Ox):Ox:=
 if x.kind<1∨10<x.kind then pH x.kind
 else ⟨x.kind,x.user,(jm x).1,if x.kind=3 then x.input else au,if x.kind=7 then x.rd else 0#64,if x.kind=7 then x.wr else 0#64,if x.kind=7 then x.ow else 0#64,if x.kind=8 then x.fns else 0,if x.kind=8 then x.to else 0#64,if x.kind=9 then x.idx else 0⟩
def opE (x:Ox):Int:=
 if x.kind<1∨10<x.kind∨x≠dM x then 4
 else if x.kind=3∨x.kind=6 then (if x.rect.c1=x.rect.c2∧x.rect.r1=x.rect.r2 then (if eB x.input≠0 then 4 else 0) else 4)
 else if x.kind=8 then (if x.fns<1∨31<x.fns then 4 else 0) else 0
theorem nZ (x:Ox) (w:World):ay Tryz.prog 41 [.agg (bi x).toArray] w (.bool (jx x.kind)):=by
 refine aq Tryz.func41 rfl Tryz.ntmps41 rfl ?_
 repeat' (first|refine sT ?_|refine sS ?_|refine sM fun _=> ?_|(refine sC ?_ ?_<;>intro hb<;>try omega)|fail)
 all_goals first
  |(exfalso;omega)
  |((refine rT1 ?_);simp_all [jx];done)
  |trace_state
theorem AP (k:Int) (w:World):ay Tryz.prog 41 [.agg (bi (pH k)).toArray] w (.bool (jx k)):=nZ (pH k) w
theorem wG (x:Ox) (w:World):ay Tryz.prog 88 [.agg (bi x).toArray] w (.tuple #[.agg (bH (jm x).1).toArray,.bool (jm x).2]):=by
 refine aq Tryz.func88 rfl Tryz.ntmps88 rfl ?_
 by_cases h:mL x.kind=true
 ·
  rw [jm,if_pos h]
  repeat' (first|refine sT ?_|refine sS ?_|refine sM fun _=> ?_|(refine sC ?_ ?_<;>intro hb<;>try omega)|fail)
  all_goals first
   |(exfalso;omega)
   |((refine du ?_);rfl)
   |(exfalso;simp_all [mL];done)
   |trace_state
 ·
  rw [jm,if_neg h]
  repeat' (first|refine sT ?_|refine sS ?_|refine sM fun _=> ?_|(refine sC ?_ ?_<;>intro hb<;>try omega)|fail)
  all_goals first
   |(exfalso;omega)
   |(exfalso;simp_all [mL];done)
   |((refine du ?_);rfl)
   |trace_state
set_option maxHeartbeats 4000000 in
theorem I7 (x:Ox) (w:World):ay Tryz.prog 133 [.agg (bi x).toArray] w (.agg (bi (dM x)).toArray):=by
 refine aq Tryz.func133 rfl Tryz.ntmps133 rfl ?_
 have hT:=fun w=>wG x w
 unfold dM
 obtain ⟨⟨t,tb⟩,ht⟩: ∃ t,jm x=t:=⟨_,rfl⟩
 rw [ht] at hT ⊢
 by_cases h8:x.kind=8
 ·
  repeat' (first|(apply aa;exact rfl;exact rfl;(intro w hm;exact hT w))|refine sT ?_|refine sS ?_|refine sM fun _=> ?_|(refine sC ?_ ?_<;>intro hb<;>try omega)|fail)
  all_goals try (exfalso;omega)
  rename_i g1 g2 g3 _ _ _ _
  refine fP (id:=12) [5,7] [] [.box g1 37 (bi x)] (by kernel_rfl) (by kernel_rfl) (by kernel_rfl) mS ?_
  repeat' (first|refine sT ?_|refine sS ?_|refine sW ?_|refine sM fun _=> ?_|(refine sC ?_ ?_<;>intro hb<;>try omega)|(refine sCW ?_ ?_<;>intro hb<;>try omega)|fail)
  all_goals first
   |(exfalso;omega)
   |((refine eRC ?_);rw [if_neg (by omega)];simp_all [bi,au,vS];done)
   |trace_state
 ·
  repeat' (first|(apply aa;exact rfl;exact rfl;(intro w hm;exact hT w))|refine sT ?_|refine sS ?_|refine sM fun _=> ?_|(refine sC ?_ ?_<;>intro hb<;>try omega)|fail)
  all_goals first
   |(exfalso;omega)
   |((refine eRC ?_);rw [if_pos (by omega)];simp_all [bi,pH,aO,au,vS];done)
   |((refine eRC ?_);rw [if_neg (by omega)];simp_all [bi,au,vS];done)
   |trace_state
set_option maxHeartbeats 4000000 in
theorem tq (x:Ox) (w:World):ay Tryz.prog 90 [.agg (bi x).toArray] w (.int .i64 (opE x)):=by
 refine aq Tryz.func90 rfl Tryz.ntmps90 rfl ?_
 have hP:=fun w=>I7 x w
 have hG:=fun w=>tP x.input w
 unfold opE
 obtain ⟨c,hc⟩: ∃ c,z8 x (dM x)=c:=⟨_,rfl⟩
 have hc' :x≠dM x↔c=false:=by
  rw [← hc,← P5,tX]
 simp only [hc']
 clear hc'
 generalize eB x.input=ge at hG
 generalize dM x=p at hP hc
 repeat' (first|(apply bp (id:=1) [11] [];kernel_rfl;kernel_rfl;kernel_rfl)|(apply bZ;(iterate 3 exact rfl);apply wU (b:=p);exact rfl;exact rfl)|(apply aa (f:=133);exact rfl;exact rfl;(intro w' _;exact hP w'))|(apply aa;exact rfl;exact rfl;(intro w hm;exact hG w))|refine sT ?_|refine sS ?_|refine sW ?_|refine sM fun _=> ?_|(refine sC ?_ ?_<;>intro hb<;>try omega)|(refine sCW ?_ ?_<;>intro hb<;>try omega)|fail)
 all_goals first
  |(exfalso;omega)
  |((refine rT1 ?_);simp_all;done)
  |((refine rT1 ?_);simp_all;omega)
  |trace_state
end Go.SL
namespace Go.SL
open Go Go.Proofs
theorem LF {o:Ox} (h:opE o=0) (hk:o.kind=3):o.rect.c1=o.rect.c2∧o.rect.r1=o.rect.r2:=by
 unfold opE at h
 split at h
 ·
  cases h
 rw [if_pos (show o.kind=3∨o.kind=6 from .inl hk)] at h
 by_cases hc:o.rect.c1=o.rect.c2∧o.rect.r1=o.rect.r2
 ·
  exact hc
 ·
  rw [if_neg hc] at h;cases h
end Go.SL
namespace Go.SL
open Go Go.Proofs
attribute [local irreducible] W WL WQ WG WA WX WLI WR WT WC WE VOp RW thn blk bE scp ba bo bL aP FnIn FnP ceP
def jk (k:Int):Int:=if k=1∨k=2∨k=10 then 1 else if k=3 then 7 else if k=4∨k=5∨k=6 then 3 else if k=7 then 11 else if k=8 then 51 else if k=9 then 65 else 0
def DK (x:Ox) (m:Int):Ox:=
 ⟨x.kind,if m=0 then 0 else x.user,if m=3∨m=7∨m=11∨m=51 then x.rect else aO,if m=7 then x.input else au,if m=11 then x.rd else 0#64,if m=11 then x.wr else 0#64,if m=11 then x.ow else 0#64,if m=51 then x.fns else 0,if m=51 then x.to else 0#64,if m=65 then x.idx else 0⟩
theorem Cq (x:Ox):DK x (jk x.kind)=dM x:=by
 unfold dM jk jm
 by_cases h:x.kind<1∨10<x.kind
 ·
  rw [if_pos h,if_neg (by omega),if_neg (by omega),if_neg (by omega),if_neg (by omega),if_neg (by omega),if_neg (by omega)]
  rfl
 ·
  rw [if_neg h]
  have hk:x.kind=1∨x.kind=2∨x.kind=3∨x.kind=4∨x.kind=5∨x.kind=6∨x.kind=7∨x.kind=8∨x.kind=9∨x.kind=10:=by omega
  rcases hk with hk|hk|hk|hk|hk|hk|hk|hk|hk|hk<;>simp [hk,DK,mL]
theorem EA (k:Int):jk k=0∨jk k=1∨jk k=3∨jk k=7∨jk k=11∨jk k=51∨jk k=65:=by
 unfold jk
 split
 ·
  exact .inr (.inl rfl)
 split
 ·
  exact .inr (.inr (.inr (.inl rfl)))
 split
 ·
  exact .inr (.inr (.inl rfl))
 split
 ·
  exact .inr (.inr (.inr (.inr (.inl rfl))))
 split
 ·
  exact .inr (.inr (.inr (.inr (.inr (.inl rfl)))))
 split
 ·
  exact .inr (.inr (.inr (.inr (.inr (.inr rfl)))))
 ·
  exact .inl rfl
def opR (x:Ox):Int:=
 if x.kind<1∨10<x.kind∨dM x≠x then 4
 else if (x.kind=3∨x.kind=6)∧ ¬ (x.rect.c1=x.rect.c2∧x.rect.r1=x.rect.r2) then 4
 else if 256<x.input.size∨gC x.input=false then 4
 else if x.kind=8∧(x.fns<1∨31<x.fns) then 4 else 0
theorem zQ:eB au=0:=by decide+kernel
theorem Fm (b:ByteArray):eB b≠0↔(256<b.size∨gC b=false):=by
 unfold eB
 by_cases h1:256<b.size
 ·
  simp [h1]
 ·
  cases h2:gC b<;>simp [h1]
theorem LH (x:Ox):opR x=opE x:=by
 have hne:dM x≠x↔x≠dM x:=⟨fun h e=>h e.symm,fun h e=>h e.symm⟩
 unfold opR opE
 simp only [hne]
 by_cases h:x.kind<1∨10<x.kind∨x≠dM x
 ·
  rw [if_pos h,if_pos h]
 ·
  rw [if_neg h,if_neg h]
  have hp:x=dM x:=Classical.not_not.1 fun hn=>h (.inr (.inr hn))
  have hk: ¬ (x.kind<1∨10<x.kind):=fun hh=>h (hh.elim .inl fun h=> .inr (.inl h))
  have hin:x.kind≠3→x.input=au:=fun h3=>by
   have:=congrArg Ox.input hp
   unfold dM at this
   rw [if_neg hk] at this
   dsimp only at this
   rw [if_neg h3] at this
   exact this
  have hgl:=Fm x.input
  by_cases h36:x.kind=3∨x.kind=6
  ·
   rw [if_pos h36]
   by_cases hone:x.rect.c1=x.rect.c2∧x.rect.r1=x.rect.r2
   ·
    rw [if_neg (show ¬ ((x.kind=3∨x.kind=6)∧ ¬ (x.rect.c1=x.rect.c2∧x.rect.r1=x.rect.r2)) from fun hh=>hh.2 hone),if_pos hone]
    by_cases hg:eB x.input≠0
    ·
     rw [if_pos (hgl.1 hg),if_pos hg]
    ·
     rw [if_neg (show ¬ (256<x.input.size∨gC x.input=false) from fun hh=>hg (hgl.2 hh)),if_neg hg,if_neg (show ¬ (x.kind=8∧(x.fns<1∨31<x.fns)) by omega)]
   ·
    rw [if_pos ⟨h36,hone⟩,if_neg hone]
  ·
   rw [if_neg (show ¬ ((x.kind=3∨x.kind=6)∧ ¬ (x.rect.c1=x.rect.c2∧x.rect.r1=x.rect.r2)) from fun hh=>h36 hh.1),if_neg h36]
   have hg: ¬ (256<x.input.size∨gC x.input=false):=fun hh=>hgl.2 hh (by rw [hin (fun h3=>h36 (.inl h3))];exact zQ)
   rw [if_neg hg]
   by_cases h8:x.kind=8
   ·
    rw [if_pos h8]
    by_cases hf:x.fns<1∨31<x.fns
    ·
     rw [if_pos ⟨h8,hf⟩,if_pos hf]
    ·
     rw [if_neg (show ¬ (x.kind=8∧(x.fns<1∨31<x.fns)) from fun hh=>hf hh.2),if_neg hf]
   ·
    rw [if_neg (show ¬ (x.kind=8∧(x.fns<1∨31<x.fns)) from fun hh=>h8 hh.1),if_neg h8]
theorem xe (k:Int) (w:World):ay Tryz.prog 187 [.int .u8 k] w (.int .i64 (jk k)):=by
 refine aq Tryz.func187 rfl Tryz.ntmps187 rfl ?_
 repeat' (first|refine sT ?_|refine sS ?_|refine sM fun _=> ?_|(refine sC ?_ ?_<;>intro hb<;>try omega)|fail)
 all_goals first
  |(exfalso;omega)
  |((refine rT1 ?_);unfold jk;simp_all;done)
  |((refine rT1 ?_);unfold jk;split<;>omega)
  |trace_state
set_option maxHeartbeats 8000000 in
theorem xg (x:Ox) (m:Int) (hm:m=0∨m=1∨m=3∨m=7∨m=11∨m=51∨m=65) (w:World):ay Tryz.prog 186 [.agg (bi x).toArray,.int .i64 m] w (.agg (bi (DK x m)).toArray):=by
 refine aq Tryz.func186 rfl Tryz.ntmps186 rfl ?_
 rcases hm with rfl|rfl|rfl|rfl|rfl|rfl|rfl
 all_goals
  repeat' (first|(apply ak;exact rfl;apply Ln;exact rfl;exact rfl)|refine sT ?_|refine sS ?_|refine sM fun _=> ?_|(refine sC ?_ ?_<;>intro hb<;>try omega)|fail)
 all_goals first
  |(exfalso;omega)
  |((refine eRC ?_);rfl)
  |((refine eRC ?_);simp_all [bi,DK,au,vS];done)
  |trace_state
theorem uX (x:Ox) (w:World):ay Tryz.prog 143 [.agg (bi x).toArray] w (.agg (bi (dM x)).toArray):=by
 refine aq Tryz.func143 rfl Tryz.ntmps143 rfl ?_
 have hU:=fun w=>xe x.kind w
 have hO:=fun w=>xg x (jk x.kind) (EA _) w
 rw [Cq] at hO
 generalize jk x.kind=m at hU hO
 repeat' (first|refine sT ?_|refine sS ?_|refine sM fun _=> ?_|(refine sC ?_ ?_<;>intro hb<;>try omega)|fail)
 rename_i g1 g2
 refine fP (id:=1) [3,4,5] [] [.box g1 37 (bi x)] (by kernel_rfl) (by kernel_rfl) (by kernel_rfl) mS ?_
 repeat' (first|(apply aa;exact rfl;exact rfl;(intro w hm;exact hU w))|(apply aa;exact rfl;exact rfl;(intro w hm;exact hO w))|refine sT ?_|refine sS ?_|refine sW ?_|refine sM fun _=> ?_|(refine sC ?_ ?_<;>intro hb<;>try omega)|(refine sCW ?_ ?_<;>intro hb<;>try omega)|fail)
 all_goals first
  |(exfalso;omega)
  |((refine eRC ?_);rfl)
  |trace_state
set_option maxHeartbeats 8000000 in
theorem mW (x:Ox) (w:World):ay Tryz.prog 105 [.agg (bi x).toArray] w (.int .i64 (opE x)):=by
 refine aq Tryz.func105 rfl Tryz.ntmps105 rfl ?_
 have hP:=fun w=>uX x w
 have hG:=fun (h:x.input.size≤256) w=>qt x.input h w
 rw [← LH]
 unfold opR
 obtain ⟨c,hc⟩: ∃ c,z8 (dM x) x=c:=⟨_,rfl⟩
 have hc' :dM x≠x↔c=false:=by
  rw [← hc,← P5,tX]
 simp only [hc']
 clear hc'
 generalize gC x.input=pb at hG
 generalize dM x=p at hP hc
 by_cases hsz:256<x.input.size
 ·
  repeat' (first|(apply bp (id:=1) [10] [];kernel_rfl;kernel_rfl;kernel_rfl)|(apply bZ;(iterate 3 exact rfl);apply wU (a:=p) (b:=x);exact rfl;exact rfl)|(apply aa;exact rfl;exact rfl;(intro w hm;exact hP w))|refine sT ?_|refine sS ?_|refine sW ?_|refine sM fun _=> ?_|(refine sC ?_ ?_<;>intro hb<;>try omega)|(refine sCW ?_ ?_<;>intro hb<;>try omega)|fail)
  all_goals first
   |(exfalso;omega)
   |((refine rT1 ?_);simp_all;done)
   |((refine rT1 ?_);simp_all;omega)
   |trace_state
 ·
  have hG:=hG (by omega)
  repeat' (first|(apply bp (id:=1) [10] [];kernel_rfl;kernel_rfl;kernel_rfl)|(apply bZ;(iterate 3 exact rfl);apply wU (a:=p) (b:=x);exact rfl;exact rfl)|(apply aa;exact rfl;exact rfl;(intro w hm;exact hP w))|(apply aa;exact rfl;exact rfl;(intro w hm;exact hG w))|refine sT ?_|refine sS ?_|refine sW ?_|refine sM fun _=> ?_|(refine sC ?_ ?_<;>intro hb<;>try omega)|(refine sCW ?_ ?_<;>intro hb<;>try omega)|fail)
  all_goals first
   |(exfalso;omega)
   |((refine rT1 ?_);simp_all;done)
   |((refine rT1 ?_);simp_all;omega)
   |trace_state
end Go.SL

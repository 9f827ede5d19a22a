/-
  Lemmas and walks, put together: Ii.
-/
import Derived.Test.YthefeclkaaocnaaGreatDoorKc29
set_option linter.unusedSimpArgs false
set_option linter.unusedVariables false
set_option maxRecDepth 20000
namespace Go.SL
open Go Go.Proofs
attribute [local irreducible] W WL WQ WG WA WX WLI WR WT WC WE VOp RW thn blk bL scp bi bz bY aQ FnIn FnP ceP
def Mc:Nat→Int
 |0=>1|1=>2|2=>4|3=>2|4=>8|5=>5|6=>6|_=>7
theorem LD {b:Bk} {o:Ox} {i:Nat} (hi:i<8) (h:tst b o i=true) (hno: ∀ j,j<i→tst b o j=false):cdE b o=(Mc i,if i=6 then (ofP o.input).2.1 else 0):=by
 rcases (by omega:i=0∨i=1∨i=2∨i=3∨i=4∨i=5∨i=6∨i=7) with rfl|rfl|rfl|rfl|rfl|rfl|rfl|rfl
 ·
  unfold cdE;rw [h];rfl
 ·
  unfold cdE;rw [hno 0 (by omega),h];rfl
 ·
  unfold cdE;rw [hno 0 (by omega),hno 1 (by omega),h];rfl
 ·
  unfold cdE;rw [hno 0 (by omega),hno 1 (by omega),hno 2 (by omega),h];rfl
 ·
  unfold cdE;rw [hno 0 (by omega),hno 1 (by omega),hno 2 (by omega),hno 3 (by omega),h];rfl
 ·
  unfold cdE;rw [hno 0 (by omega),hno 1 (by omega),hno 2 (by omega),hno 3 (by omega),hno 4 (by omega),h];rfl
 ·
  unfold cdE;rw [hno 0 (by omega),hno 1 (by omega),hno 2 (by omega),hno 3 (by omega),hno 4 (by omega),hno 5 (by omega),h];rfl
 ·
  unfold cdE;rw [hno 0 (by omega),hno 1 (by omega),hno 2 (by omega),hno 3 (by omega),hno 4 (by omega),hno 5 (by omega),hno 6 (by omega),h];rfl
theorem LC {b:Bk} {o:Ox} (hno: ∀ j,j<8→tst b o j=false):cdE b o=(0,0):=by
 unfold cdE
 rw [hno 0 (by omega),hno 1 (by omega),hno 2 (by omega),hno 3 (by omega),hno 4 (by omega),hno 5 (by omega),hno 6 (by omega),hno 7 (by omega)]
 rfl
theorem KX {b:Bk} {o:Ox} (h:tst b o 4=false) (h9:o.kind=9):0≤o.idx∧o.idx<(b.grants.length:Int):=by
 have ht:tst b o 4=(decide (o.kind=9) && (decide (o.idx<0)||decide ((b.grants.length:Int)≤o.idx)||Ea b o)):=rfl
 rw [ht,decide_eq_true h9,Ns,OT,OT,decide_eq_false_iff_not,decide_eq_false_iff_not] at h
 omega
theorem EJ {b:Bk} {o:Ox} {go gat:Nat} {w0:World} {H T:List Blk} (hW:Words w0) (hs:Sel (.box gat 3 [.int .i64 0]) H T) (hgo:In (.box go 41 (bE o)) T):
  FnIn Tryz.prog 119 [.pointer (some ⟨go,0,none⟩),.pointer (some ⟨gat,0,none⟩)] w0 H fun v H' =>v= .bool (tst b o 6)∧H' = .box gat 3 [.int .i64 (if tst b o 6 then (ofP o.input).2.1 else 0)]::T:=
 FnIn.msub (HT hW hgo) (MSub.pick hs (MSub.refl _))
set_option maxHeartbeats 16000000 in
theorem J4 (b:Bk) (x:Bv) (o:Ox) (gb:Nat) (w:World) (hbk:Ro w gb 0 (bG b x)) (hr:BRd w b x) (hW:Words w):ax Tryz.prog 54 [.pointer (some ⟨gb,0,none⟩),.agg (bE o).toArray] w (.tuple #[.int .u8 (cdE b o).1,.int .i64 (cdE b o).2]):=by
 refine aq Tryz.func54 rfl Tryz.ntmps54 rfl ?_
 have hA:=fun w=>xq b.users w
 have hT:=fun w=>vQ o w
 have hbk' :=hbk
 simp only [bG] at hbk
 repeat' (first|(apply aj;exact rfl;apply di;exact rfl;exact hbk;exact rfl)|(apply aj;exact rfl;apply aH (o:=0) (off:=0);exact hbk;exact rfl;exact rfl)|(apply aa;exact rfl;exact rfl;(intro w hm;exact hA w))|(apply aa;exact rfl;exact rfl;(intro w hm;exact hT w))|refine sT ?_|refine sS ?_|refine sM fun _=> ?_|(refine sC ?_ ?_<;>intro hb<;>try omega)|fail)
 rename_i g2 g3 g6 g8 g9 g10 gs
 have hR:=fun (h5:tst b o 4=false) (w' :World) (H:List Blk) (hm:Mem w w' H)=>rI b x o gb w' (hbk'.next hm) (hr.of_w0 hm) (KX h5)
 refine ay [2,3,6,8,9,10,42,43] rfl (fun i:Nat=> [(44,.int .i64 (i:Int))]) (fun _=> [.own (some gs) 200 2 8 8 [.int .u8 1,.func (.func 111) #[] #[.pointer (some ⟨g3,0,none⟩)],.int .u8 2,.func (.func 113) #[] #[.pointer (some ⟨g3,0,none⟩),.pointer (some ⟨g2,0,none⟩)],.int .u8 4,.func (.func 114) #[] #[.pointer (some ⟨g9,0,none⟩),.pointer (some ⟨g8,0,none⟩)],.int .u8 2,.func (.func 115) #[] #[.pointer (some ⟨g3,0,none⟩),.pointer (some ⟨g6,0,none⟩)],.int .u8 8,.func (.func 116) #[] #[.pointer (some ⟨g3,0,none⟩),.pointer (some ⟨g2,0,none⟩)],.int .u8 5,.func (.func 117) #[] #[.pointer (some ⟨g2,0,none⟩),.pointer (some ⟨g3,0,none⟩)],.int .u8 6,.func (.func 119) #[] #[.pointer (some ⟨g3,0,none⟩),.pointer (some ⟨g10,0,none⟩)],.int .u8 7,.func (.func 120) #[] #[.pointer (some ⟨g8,0,none⟩),.pointer (some ⟨g3,0,none⟩),.pointer (some ⟨g2,0,none⟩)]],.box g10 3 [.int .i64 0],.box g9 4 [.bool (jG o).2],.box g8 33 (bK (jG o).1),.box g6 34 [vS (cN b.users).1],.box g3 41 (bE o),.box g2 123 [.pointer (some ⟨gb,0,none⟩)]]) (fun i=>i≤8∧ ∀ j,j<i→tst b o j=false) (fun i=>8 - i) 0 ⟨by omega,fun j h=>by omega⟩ sB mS ?_
 rintro i ⟨hi,hno⟩
 by_cases hlt:i<8
 ·
  obtain ⟨c,hc⟩: ∃ c,tst b o i=c:=⟨_,rfl⟩
  have hcd:c=true→cdE b o=(Mc i,if i=6 then (ofP o.input).2.1 else 0):=fun e=>LD hlt (hc.trans e) hno
  have hnx:c=false→ ∀ j,j<i+1→tst b o j=false:=fun e j hj=>by
   rcases (by omega:j<i∨j=i) with h|rfl
   ·
    exact hno j h
   ·
    exact hc.trans e
  rcases (by omega:i=0∨i=1∨i=2∨i=3∨i=4∨i=5∨i=6∨i=7) with rfl|rfl|rfl|rfl|rfl|rfl|rfl|rfl
  ·
   cases c
   all_goals
    repeat' (first|(apply aj;exact rfl;apply ak (j:=0);exact rfl;exact rfl;omega)|(apply aj;exact rfl;apply aR;exact rfl;exact pK;exact rfl;exact rfl)|(apply bA (f:=111);exact rfl;exact rfl;infer_instance;exact rfl;(intro w' hm;exact hc ▸ H5 (b:=b) (go:=g3) (Ro.of_box hm pK)))|refine sT ?_|refine sS ?_|refine sQ ?_|refine sN ?_|refine sNQ ?_|refine sD ?_|refine sM fun _=> ?_|(refine sC ?_ ?_<;>intro hb<;>try omega)|(refine sCQ ?_ ?_<;>intro hb<;>try omega)|fail)
   all_goals first
    |(exfalso;omega)
    |(refine ⟨1,⟨by omega,hnx rfl⟩,by omega,by exact sB,by exact sB,by exact mS⟩;done)
    |((refine rT2 ?_);rw [hcd rfl];rfl)
    |trace_state
  ·
   cases c
   all_goals
    repeat' (first|(apply aj;exact rfl;apply ak (j:=1);exact rfl;exact rfl;omega)|(apply aj;exact rfl;apply aR;exact rfl;exact pK;exact rfl;exact rfl)|(apply bA (f:=113);exact rfl;exact rfl;infer_instance;exact rfl;(intro w' hm;exact hc ▸ H4 (go:=g3) (gp:=g2) (Ro.of_box hm pK) (Ro.of_box hm pK) (hbk'.next hm)))|refine sT ?_|refine sS ?_|refine sQ ?_|refine sN ?_|refine sNQ ?_|refine sD ?_|refine sM fun _=> ?_|(refine sC ?_ ?_<;>intro hb<;>try omega)|(refine sCQ ?_ ?_<;>intro hb<;>try omega)|fail)
   all_goals first
    |(exfalso;omega)
    |(refine ⟨2,⟨by omega,hnx rfl⟩,by omega,by exact sB,by exact sB,by exact mS⟩;done)
    |((refine rT2 ?_);rw [hcd rfl];rfl)
    |trace_state
  ·
   cases c
   all_goals
    repeat' (first|(apply aj;exact rfl;apply ak (j:=2);exact rfl;exact rfl;omega)|(apply aj;exact rfl;apply aR;exact rfl;exact pK;exact rfl;exact rfl)|(apply bA (f:=114);exact rfl;exact rfl;infer_instance;exact rfl;(intro w' hm;exact hc ▸ HZ (b:=b) (go:=g3) (g8:=g8) (g9:=g9) (Ro.of_box hm pK) (Ro.of_box hm pK) (Ro.of_box hm pK)))|refine sT ?_|refine sS ?_|refine sQ ?_|refine sN ?_|refine sNQ ?_|refine sD ?_|refine sM fun _=> ?_|(refine sC ?_ ?_<;>intro hb<;>try omega)|(refine sCQ ?_ ?_<;>intro hb<;>try omega)|fail)
   all_goals first
    |(exfalso;omega)
    |(refine ⟨3,⟨by omega,hnx rfl⟩,by omega,by exact sB,by exact sB,by exact mS⟩;done)
    |((refine rT2 ?_);rw [hcd rfl];rfl)
    |trace_state
  ·
   cases c
   all_goals
    repeat' (first|(apply aj;exact rfl;apply ak (j:=3);exact rfl;exact rfl;omega)|(apply aj;exact rfl;apply aR;exact rfl;exact pK;exact rfl;exact rfl)|(apply bA (f:=115);exact rfl;exact rfl;infer_instance;exact rfl;(intro w' hm;exact hc ▸ HY (b:=b) (go:=g3) (g6:=g6) (Ro.of_box hm pK) (Ro.of_box hm pK)))|refine sT ?_|refine sS ?_|refine sQ ?_|refine sN ?_|refine sNQ ?_|refine sD ?_|refine sM fun _=> ?_|(refine sC ?_ ?_<;>intro hb<;>try omega)|(refine sCQ ?_ ?_<;>intro hb<;>try omega)|fail)
   all_goals first
    |(exfalso;omega)
    |(refine ⟨4,⟨by omega,hnx rfl⟩,by omega,by exact sB,by exact sB,by exact mS⟩;done)
    |((refine rT2 ?_);rw [hcd rfl];rfl)
    |trace_state
  ·
   cases c
   all_goals
    repeat' (first|(apply aj;exact rfl;apply ak (j:=4);exact rfl;exact rfl;omega)|(apply aj;exact rfl;apply aR;exact rfl;exact pK;exact rfl;exact rfl)|(apply bA (f:=116);exact rfl;exact rfl;infer_instance;exact rfl;(intro w' hm;exact hc ▸ HW (go:=g3) (gp:=g2) (Ro.of_box hm pK) (Ro.of_box hm pK) (hbk'.next hm) (hr.of_w0 hm)))|refine sT ?_|refine sS ?_|refine sQ ?_|refine sN ?_|refine sNQ ?_|refine sD ?_|refine sM fun _=> ?_|(refine sC ?_ ?_<;>intro hb<;>try omega)|(refine sCQ ?_ ?_<;>intro hb<;>try omega)|fail)
   all_goals first
    |(exfalso;omega)
    |(refine ⟨5,⟨by omega,hnx rfl⟩,by omega,by exact sB,by exact sB,by exact mS⟩;done)
    |((refine rT2 ?_);rw [hcd rfl];rfl)
    |trace_state
  ·
   cases c
   all_goals
    repeat' (first|(apply aj;exact rfl;apply ak (j:=5);exact rfl;exact rfl;omega)|(apply aj;exact rfl;apply aR;exact rfl;exact pK;exact rfl;exact rfl)|(apply bA (f:=117);exact rfl;exact rfl;infer_instance;exact rfl;(intro w' hm;exact hc ▸ HV (b:=b) (gb:=gb) (gp:=g2) (go:=g3) (Ro.of_box hm pK) (fun w2 H2 hm2=>rI b x o gb w2 ((hbk'.next hm).next hm2) ((hr.of_w0 hm).of_w0 hm2) (KX (hno 4 (by omega)))) (Ro.of_box hm pK)))|refine sT ?_|refine sS ?_|refine sQ ?_|refine sN ?_|refine sNQ ?_|refine sD ?_|refine sM fun _=> ?_|(refine sC ?_ ?_<;>intro hb<;>try omega)|(refine sCQ ?_ ?_<;>intro hb<;>try omega)|fail)
   all_goals first
    |(exfalso;omega)
    |(refine ⟨6,⟨by omega,hnx rfl⟩,by omega,by exact sB,by exact sB,by exact mS⟩;done)
    |((refine rT2 ?_);rw [hcd rfl];rfl)
    |trace_state
  ·
   cases c
   all_goals
    repeat' (first|(apply aj;exact rfl;apply ak (j:=6);exact rfl;exact rfl;omega)|(apply aj;exact rfl;apply aR;exact rfl;exact pK;exact rfl;exact rfl)|(apply jS (f:=119);exact rfl;exact rfl;infer_instance;exact rfl;exact hc ▸ EJ (b:=b) (o:=o) (go:=g3) (gat:=g10) hW pK pK;rintro _ _ ⟨rfl,rfl⟩)|refine sT ?_|refine sS ?_|refine sQ ?_|refine sN ?_|refine sNQ ?_|refine sD ?_|refine sM fun _=> ?_|(refine sC ?_ ?_<;>intro hb<;>try omega)|(refine sCQ ?_ ?_<;>intro hb<;>try omega)|fail)
   all_goals first
    |(exfalso;omega)
    |(refine ⟨7,⟨by omega,hnx rfl⟩,by omega,by exact sB,by exact sB,by exact mS⟩;done)
    |((refine rT2 ?_);rw [hcd rfl];rfl)
    |trace_state
  ·
   cases c
   all_goals
    repeat' (first|(apply aj;exact rfl;apply ak (j:=7);exact rfl;exact rfl;omega)|(apply aj;exact rfl;apply aR;exact rfl;exact pK;exact rfl;exact rfl)|(apply bA (f:=120);exact rfl;exact rfl;infer_instance;exact rfl;(intro w' hm;exact hc ▸ HS (go:=g3) (gp:=g2) (g8:=g8) (Ro.of_box hm pK) (Ro.of_box hm pK) (hbk'.next hm) (hr.of_w0 hm) (Ro.of_box hm pK)))|refine sT ?_|refine sS ?_|refine sQ ?_|refine sN ?_|refine sNQ ?_|refine sD ?_|refine sM fun _=> ?_|(refine sC ?_ ?_<;>intro hb<;>try omega)|(refine sCQ ?_ ?_<;>intro hb<;>try omega)|fail)
   all_goals first
    |(exfalso;omega)
    |(refine ⟨8,⟨by omega,hnx rfl⟩,by omega,by exact sB,by exact sB,by exact mS⟩;done)
    |((refine rT2 ?_);rw [hcd rfl];rfl)
    |trace_state
 ·
  have e:i=8:=by omega
  subst e
  rw [LC hno]
  repeat' (first|refine sT ?_|refine sS ?_|refine sM fun _=> ?_|(refine sC ?_ ?_<;>intro hb<;>try omega)|fail)
  all_goals first|(exfalso;omega)|((refine rT2 ?_);rfl)|trace_state
end Go.SL

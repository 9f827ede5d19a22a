/-
  Lemmas and walks, put together: Ii.
-/
import Derived.Test.YtoanpdoacdpgeaaGreatDoorKn39
set_option linter.unusedSimpArgs false
set_option linter.unusedVariables false
set_option maxRecDepth 20000
namespace Go.SL
open Go Go.Proofs
attribute [local irreducible] W WL WQ WG WA WX WLI WR WT WC WE VOp RW thn blk bE scp ba bo bL aP FnIn FnP ceP
def Mu:Nat→Int
 |0=>1|1=>2|2=>4|3=>2|4=>8|5=>5|6=>6|_=>7
theorem LX {b:Bk} {o:Ox} {i:Nat} (hi:i<8) (h:tst b o i=true) (hno: ∀ j,j<i→tst b o j=false):cdE b o=(Mu i,if i=6 then (ofP o.input).2.1 else 0):=by
 rcases (by omega:i=0∨i=1∨i=2∨i=3∨i=4∨i=5∨i=6∨i=7) with rfl|rfl|rfl|rfl|rfl|rfl|rfl|rfl
 ·
  unfold cdE;rw [h];rfl
 ·
  unfold cdE;rw [hno 0 (by omega),h];rfl
 ·
  unfold cdE;rw [hno 0 (by omega),hno 1 (by omega),h];rfl
 ·
  unfold cdE;rw [hno 0 (by omega),hno 1 (by omega),hno 2 (by omega),h];rfl
 ·
  unfold cdE;rw [hno 0 (by omega),hno 1 (by omega),hno 2 (by omega),hno 3 (by omega),h];rfl
 ·
  unfold cdE;rw [hno 0 (by omega),hno 1 (by omega),hno 2 (by omega),hno 3 (by omega),hno 4 (by omega),h];rfl
 ·
  unfold cdE;rw [hno 0 (by omega),hno 1 (by omega),hno 2 (by omega),hno 3 (by omega),hno 4 (by omega),hno 5 (by omega),h];rfl
 ·
  unfold cdE;rw [hno 0 (by omega),hno 1 (by omega),hno 2 (by omega),hno 3 (by omega),hno 4 (by omega),hno 5 (by omega),hno 6 (by omega),h];rfl
theorem LW {b:Bk} {o:Ox} (hno: ∀ j,j<8→tst b o j=false):cdE b o=(0,0):=by
 unfold cdE
 rw [hno 0 (by omega),hno 1 (by omega),hno 2 (by omega),hno 3 (by omega),hno 4 (by omega),hno 5 (by omega),hno 6 (by omega),hno 7 (by omega)]
 rfl
theorem JL {b:Bk} {o:Ox} (h:tst b o 4=false) (h9:o.kind=9):0≤o.idx∧o.idx<(b.grants.length:Int):=by
 have ht:tst b o 4=(decide (o.kind=9) && (decide (o.idx<0)||decide ((b.grants.length:Int)≤o.idx)||w5 b o)):=rfl
 rw [ht,decide_eq_true h9,NI,Pf,Pf,decide_eq_false_iff_not,decide_eq_false_iff_not] at h
 omega
theorem FB {b:Bk} {o:Ox} {go gat:Nat} {w0:World} {H T:List Blk} (hW:Words w0) (hs:Sel (.box gat 3 [.int .i64 0]) H T) (hgo:In (.box go 37 (bi o)) T):
  FnIn Tryz.prog 98 [.pointer (some ⟨go,0,none⟩),.pointer (some ⟨gat,0,none⟩)] w0 H fun v H' =>v= .bool (tst b o 6)∧H' = .box gat 3 [.int .i64 (if tst b o 6 then (ofP o.input).2.1 else 0)]::T:=
 FnIn.msub (IJ hW hgo) (MSub.pick hs (MSub.refl _))
set_option maxHeartbeats 16000000 in
theorem Ku (b:Bk) (x:Bv) (o:Ox) (gb:Nat) (w:World) (hbk:Ro w gb 0 (aU b x)) (hr:BRd w b x) (hW:Words w):ay Tryz.prog 40 [.pointer (some ⟨gb,0,none⟩),.agg (bi o).toArray] w (.tuple #[.int .u8 (cdE b o).1,.int .i64 (cdE b o).2]):=by
 refine aq Tryz.func40 rfl Tryz.ntmps40 rfl ?_
 have hA:=fun w=>x9 b.users w
 have hT:=fun w=>wG o w
 have hbk' :=hbk
 simp only [aU] at hbk
 repeat' (first|(apply ak;exact rfl;apply dB;exact rfl;exact hbk;exact rfl)|(apply ak;exact rfl;apply aL (o:=0) (off:=0);exact hbk;exact rfl;exact rfl)|(apply aa;exact rfl;exact rfl;(intro w hm;exact hA w))|(apply aa;exact rfl;exact rfl;(intro w hm;exact hT w))|refine sT ?_|refine sS ?_|refine sM fun _=> ?_|(refine sC ?_ ?_<;>intro hb<;>try omega)|fail)
 rename_i g2 g3 g6 g8 g9 g10 gs
 have hR:=fun (h5:tst b o 4=false) (w' :World) (H:List Blk) (hm:Mem w w' H)=>sA b x o gb w' (hbk'.next hm) (hr.of_w0 hm) (JL h5)
 refine ax [2,3,6,8,9,10,42,43] rfl (fun i:Nat=> [(44,.int .i64 (i:Int))]) (fun _=> [.own (some gs) 123 2 8 8 [.int .u8 1,.func (.func 89) #[] #[.pointer (some ⟨g3,0,none⟩)],.int .u8 2,.func (.func 91) #[] #[.pointer (some ⟨g3,0,none⟩),.pointer (some ⟨g2,0,none⟩)],.int .u8 4,.func (.func 92) #[] #[.pointer (some ⟨g9,0,none⟩),.pointer (some ⟨g8,0,none⟩)],.int .u8 2,.func (.func 94) #[] #[.pointer (some ⟨g3,0,none⟩),.pointer (some ⟨g6,0,none⟩)],.int .u8 8,.func (.func 95) #[] #[.pointer (some ⟨g3,0,none⟩),.pointer (some ⟨g2,0,none⟩)],.int .u8 5,.func (.func 96) #[] #[.pointer (some ⟨g2,0,none⟩),.pointer (some ⟨g3,0,none⟩)],.int .u8 6,.func (.func 98) #[] #[.pointer (some ⟨g3,0,none⟩),.pointer (some ⟨g10,0,none⟩)],.int .u8 7,.func (.func 100) #[] #[.pointer (some ⟨g8,0,none⟩),.pointer (some ⟨g3,0,none⟩),.pointer (some ⟨g2,0,none⟩)]],.box g10 3 [.int .i64 0],.box g9 4 [.bool (jm o).2],.box g8 32 (bH (jm o).1),.box g6 33 [vS (df b.users).1],.box g3 37 (bi o),.box g2 88 [.pointer (some ⟨gb,0,none⟩)]]) (fun i=>i≤8∧ ∀ j,j<i→tst b o j=false) (fun i=>8 - i) 0 ⟨by omega,fun j h=>by omega⟩ sB mS ?_
 rintro i ⟨hi,hno⟩
 by_cases hlt:i<8
 ·
  obtain ⟨c,hc⟩: ∃ c,tst b o i=c:=⟨_,rfl⟩
  have hcd:c=true→cdE b o=(Mu i,if i=6 then (ofP o.input).2.1 else 0):=fun e=>LX hlt (hc.trans e) hno
  have hnx:c=false→ ∀ j,j<i+1→tst b o j=false:=fun e j hj=>by
   rcases (by omega:j<i∨j=i) with h|rfl
   ·
    exact hno j h
   ·
    exact hc.trans e
  rcases (by omega:i=0∨i=1∨i=2∨i=3∨i=4∨i=5∨i=6∨i=7) with rfl|rfl|rfl|rfl|rfl|rfl|rfl|rfl
  ·
   cases c
   all_goals
    repeat' (first|(apply ak;exact rfl;apply aj (j:=0);exact rfl;exact rfl;omega)|(apply ak;exact rfl;apply aQ;exact rfl;exact pK;exact rfl;exact rfl)|(apply bI (f:=89);exact rfl;exact rfl;infer_instance;exact rfl;(intro w' hm;exact hc ▸ IR (b:=b) (go:=g3) (Ro.of_box hm pK)))|refine sT ?_|refine sS ?_|refine sQ ?_|refine sN ?_|refine sNQ ?_|refine sD ?_|refine sM fun _=> ?_|(refine sC ?_ ?_<;>intro hb<;>try omega)|(refine sCQ ?_ ?_<;>intro hb<;>try omega)|fail)
   all_goals first
    |(exfalso;omega)
    |(refine ⟨1,⟨by omega,hnx rfl⟩,by omega,by exact sB,by exact sB,by exact mS⟩;done)
    |((refine rT2 ?_);rw [hcd rfl];rfl)
    |trace_state
  ·
   cases c
   all_goals
    repeat' (first|(apply ak;exact rfl;apply aj (j:=1);exact rfl;exact rfl;omega)|(apply ak;exact rfl;apply aQ;exact rfl;exact pK;exact rfl;exact rfl)|(apply bI (f:=91);exact rfl;exact rfl;infer_instance;exact rfl;(intro w' hm;exact hc ▸ IQ (go:=g3) (gp:=g2) (Ro.of_box hm pK) (Ro.of_box hm pK) (hbk'.next hm)))|refine sT ?_|refine sS ?_|refine sQ ?_|refine sN ?_|refine sNQ ?_|refine sD ?_|refine sM fun _=> ?_|(refine sC ?_ ?_<;>intro hb<;>try omega)|(refine sCQ ?_ ?_<;>intro hb<;>try omega)|fail)
   all_goals first
    |(exfalso;omega)
    |(refine ⟨2,⟨by omega,hnx rfl⟩,by omega,by exact sB,by exact sB,by exact mS⟩;done)
    |((refine rT2 ?_);rw [hcd rfl];rfl)
    |trace_state
  ·
   cases c
   all_goals
    repeat' (first|(apply ak;exact rfl;apply aj (j:=2);exact rfl;exact rfl;omega)|(apply ak;exact rfl;apply aQ;exact rfl;exact pK;exact rfl;exact rfl)|(apply bI (f:=92);exact rfl;exact rfl;infer_instance;exact rfl;(intro w' hm;exact hc ▸ IP (b:=b) (go:=g3) (g8:=g8) (g9:=g9) (Ro.of_box hm pK) (Ro.of_box hm pK) (Ro.of_box hm pK)))|refine sT ?_|refine sS ?_|refine sQ ?_|refine sN ?_|refine sNQ ?_|refine sD ?_|refine sM fun _=> ?_|(refine sC ?_ ?_<;>intro hb<;>try omega)|(refine sCQ ?_ ?_<;>intro hb<;>try omega)|fail)
   all_goals first
    |(exfalso;omega)
    |(refine ⟨3,⟨by omega,hnx rfl⟩,by omega,by exact sB,by exact sB,by exact mS⟩;done)
    |((refine rT2 ?_);rw [hcd rfl];rfl)
    |trace_state
  ·
   cases c
   all_goals
    repeat' (first|(apply ak;exact rfl;apply aj (j:=3);exact rfl;exact rfl;omega)|(apply ak;exact rfl;apply aQ;exact rfl;exact pK;exact rfl;exact rfl)|(apply bI (f:=94);exact rfl;exact rfl;infer_instance;exact rfl;(intro w' hm;exact hc ▸ IM (b:=b) (go:=g3) (g6:=g6) (Ro.of_box hm pK) (Ro.of_box hm pK)))|refine sT ?_|refine sS ?_|refine sQ ?_|refine sN ?_|refine sNQ ?_|refine sD ?_|refine sM fun _=> ?_|(refine sC ?_ ?_<;>intro hb<;>try omega)|(refine sCQ ?_ ?_<;>intro hb<;>try omega)|fail)
   all_goals first
    |(exfalso;omega)
    |(refine ⟨4,⟨by omega,hnx rfl⟩,by omega,by exact sB,by exact sB,by exact mS⟩;done)
    |((refine rT2 ?_);rw [hcd rfl];rfl)
    |trace_state
  ·
   cases c
   all_goals
    repeat' (first|(apply ak;exact rfl;apply aj (j:=4);exact rfl;exact rfl;omega)|(apply ak;exact rfl;apply aQ;exact rfl;exact pK;exact rfl;exact rfl)|(apply bI (f:=95);exact rfl;exact rfl;infer_instance;exact rfl;(intro w' hm;exact hc ▸ IL (go:=g3) (gp:=g2) (Ro.of_box hm pK) (Ro.of_box hm pK) (hbk'.next hm) (hr.of_w0 hm)))|refine sT ?_|refine sS ?_|refine sQ ?_|refine sN ?_|refine sNQ ?_|refine sD ?_|refine sM fun _=> ?_|(refine sC ?_ ?_<;>intro hb<;>try omega)|(refine sCQ ?_ ?_<;>intro hb<;>try omega)|fail)
   all_goals first
    |(exfalso;omega)
    |(refine ⟨5,⟨by omega,hnx rfl⟩,by omega,by exact sB,by exact sB,by exact mS⟩;done)
    |((refine rT2 ?_);rw [hcd rfl];rfl)
    |trace_state
  ·
   cases c
   all_goals
    repeat' (first|(apply ak;exact rfl;apply aj (j:=5);exact rfl;exact rfl;omega)|(apply ak;exact rfl;apply aQ;exact rfl;exact pK;exact rfl;exact rfl)|(apply bI (f:=96);exact rfl;exact rfl;infer_instance;exact rfl;(intro w' hm;exact hc ▸ IK (b:=b) (gb:=gb) (gp:=g2) (go:=g3) (Ro.of_box hm pK) (fun w2 H2 hm2=>sA b x o gb w2 ((hbk'.next hm).next hm2) ((hr.of_w0 hm).of_w0 hm2) (JL (hno 4 (by omega)))) (Ro.of_box hm pK)))|refine sT ?_|refine sS ?_|refine sQ ?_|refine sN ?_|refine sNQ ?_|refine sD ?_|refine sM fun _=> ?_|(refine sC ?_ ?_<;>intro hb<;>try omega)|(refine sCQ ?_ ?_<;>intro hb<;>try omega)|fail)
   all_goals first
    |(exfalso;omega)
    |(refine ⟨6,⟨by omega,hnx rfl⟩,by omega,by exact sB,by exact sB,by exact mS⟩;done)
    |((refine rT2 ?_);rw [hcd rfl];rfl)
    |trace_state
  ·
   cases c
   all_goals
    repeat' (first|(apply ak;exact rfl;apply aj (j:=6);exact rfl;exact rfl;omega)|(apply ak;exact rfl;apply aQ;exact rfl;exact pK;exact rfl;exact rfl)|(apply j0 (f:=98);exact rfl;exact rfl;infer_instance;exact rfl;exact hc ▸ FB (b:=b) (o:=o) (go:=g3) (gat:=g10) hW pK pK;rintro _ _ ⟨rfl,rfl⟩)|refine sT ?_|refine sS ?_|refine sQ ?_|refine sN ?_|refine sNQ ?_|refine sD ?_|refine sM fun _=> ?_|(refine sC ?_ ?_<;>intro hb<;>try omega)|(refine sCQ ?_ ?_<;>intro hb<;>try omega)|fail)
   all_goals first
    |(exfalso;omega)
    |(refine ⟨7,⟨by omega,hnx rfl⟩,by omega,by exact sB,by exact sB,by exact mS⟩;done)
    |((refine rT2 ?_);rw [hcd rfl];rfl)
    |trace_state
  ·
   cases c
   all_goals
    repeat' (first|(apply ak;exact rfl;apply aj (j:=7);exact rfl;exact rfl;omega)|(apply ak;exact rfl;apply aQ;exact rfl;exact pK;exact rfl;exact rfl)|(apply bI (f:=100);exact rfl;exact rfl;infer_instance;exact rfl;(intro w' hm;exact hc ▸ II (go:=g3) (gp:=g2) (g8:=g8) (Ro.of_box hm pK) (Ro.of_box hm pK) (hbk'.next hm) (hr.of_w0 hm) (Ro.of_box hm pK)))|refine sT ?_|refine sS ?_|refine sQ ?_|refine sN ?_|refine sNQ ?_|refine sD ?_|refine sM fun _=> ?_|(refine sC ?_ ?_<;>intro hb<;>try omega)|(refine sCQ ?_ ?_<;>intro hb<;>try omega)|fail)
   all_goals first
    |(exfalso;omega)
    |(refine ⟨8,⟨by omega,hnx rfl⟩,by omega,by exact sB,by exact sB,by exact mS⟩;done)
    |((refine rT2 ?_);rw [hcd rfl];rfl)
    |trace_state
 ·
  have e:i=8:=by omega
  subst e
  rw [LW hno]
  repeat' (first|refine sT ?_|refine sS ?_|refine sM fun _=> ?_|(refine sC ?_ ?_<;>intro hb<;>try omega)|fail)
  all_goals first|(exfalso;omega)|((refine rT2 ?_);rfl)|trace_state
end Go.SL

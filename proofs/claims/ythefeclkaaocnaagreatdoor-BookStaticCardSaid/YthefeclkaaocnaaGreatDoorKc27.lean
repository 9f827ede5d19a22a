/-
  Lemmas and walks, put together: Ro Hp Mp Hq Pf2 Hr Hs Ht Hu Hv Ib Ic Id Ie If.
-/
import Derived.Test.YthefeclkaaocnaaGreatDoorKc26
set_option linter.unusedSimpArgs false
set_option linter.unusedVariables false
set_option maxRecDepth 20000
namespace Go.SL
open Go Go.Proofs
attribute [local irreducible] W WL WQ WG WA WX WLI WR WT WC WE VOp RW thn blk bL scp bi bz bY aQ FnIn FnP ceP
structure Rdr (gg:Nat) (G:Gr) (B:List Blk) (w0:World):Prop where
 g:GrOk G
 l:G.length≤900
 ur: ∀ r H,MSub B H→FnIn Tryz.prog 139 [.pointer (some ⟨gg,0,none⟩),.agg (bK r).toArray] w0 H fun v H' => ∃ A cap,v=sl A (AE G r).length cap∧H' = .own A 51 2 (AE G r).length cap ((AE G r).flatMap db)::H
 fm: ∀ H,MSub B H→FnIn Tryz.prog 34 [.pointer (some ⟨gg,0,none⟩)] w0 H fun v H' => ∃ A cap,v=sl A (ze G).length cap∧H' = .own A 51 2 (ze G).length cap ((ze G).flatMap db)::H
 us: ∀ d H,MSub B H→FnIn Tryz.prog 42 [.pointer (some ⟨gg,0,none⟩),Mu d] w0 H fun v H' => ∃ A cap,v=sl A (xQ G d).length cap∧H' = .own A 100 6 (xQ G d).length cap ((xQ G d).flatMap My)::H
end Go.SL
namespace Go.SL
open Go
def xb (lo hi:Int) (ps:List (Int × Int)):List (Int × Int):=dq ((fD (qD (cR lo ps))).filter fun x=>decide (lo≤x) && decide (x≤hi)) hi
theorem ES:cf=xb:=by funext lo hi ps;unfold cf xb tu;rw [FV]
def Bz (r:Rct) (A B:List Rl):List Pz:=(xb r.r1 r.r2 (aS r A++aS r B)).flatMap fun y=>je A B y (xb r.c1 r.c2 (aU r A++aU r B))
theorem Ei:dm=Bz:=by funext r A B;unfold dm Bz;rw [ES]
def yX (f:Rl→BitVec 64) (r:Rct) (L:List Rl):BitVec 64:=qp ((Bz r L []).map fun p=>(L[p.a]?.map f).getD 0#64)
theorem Gl:rR=yX:=by funext f r L;unfold rR yX;rw [Ei]
def ovC (r:Rct) (L:List Rl):(BitVec 64 × BitVec 64 × BitVec 64) × Int:=
 if iC r L≠0 then ((0#64,0#64,0#64),iC r L) else ((yX (fun x=>x.read) r L,yX (fun x=>x.write) r L,yX (fun x=>x.own) r L),0)
theorem Lb:ovE=ovC:=by funext r L;unfold ovE ovC;rw [Gl]
def bkR:List Rl:= [⟨⟨1,1,1024,1024⟩,7#64,7#64,1#64⟩,⟨⟨2,1,2,3⟩,1#64,1#64,1#64⟩]
def bkN:List Gn:= [⟨⟨2,1,2,3⟩,1,2#64,0,false⟩]
set_option maxRecDepth 100000
end Go.SL
namespace Go.SL
open Go Go.Proofs
attribute [local irreducible] W WL WQ WG WA WX WLI WR WT WC WE VOp RW thn blk bL scp bi bz bY aQ FnIn FnP ceP vK oN o6
def G9:List Et:= [⟨⟨1,1⟩,⟨#[53]⟩⟩,⟨⟨2,1⟩,⟨#[49,48]⟩⟩,⟨⟨1,2⟩,inB⟩,⟨⟨2,2⟩,⟨#[50,48]⟩⟩,⟨⟨1,3⟩,inC⟩,⟨⟨1,4⟩,inD⟩]
theorem rF (w:World):ax Tryz.prog 105 [] w (.agg (bK ⟨1,1,1024,1024⟩).toArray):=by
 refine aq Tryz.func105 rfl Tryz.ntmps105 rfl ?_
 repeat' (first|refine sT ?_|refine sM fun _=> ?_|(refine sC ?_ ?_<;>intro hb<;>try omega)|fail)
 (refine eRC ?_)
 rfl
set_option maxHeartbeats 4000000 in
theorem E7 (w:World):aQ Tryz.prog 49 [] w fun v H=> ∃ ge gr gn,v= .tuple #[.slice (some ⟨ge,0,none⟩) 6 6,.slice (some ⟨gr,0,none⟩) 2 2,.slice (some ⟨gn,0,none⟩) 1 1]∧H= [.own (some ge) 53 3 6 6 (G9.flatMap aJ),.own (some gr) 38 7 2 2 (bkR.flatMap bf),.own (some gn) 56 8 1 1 (bkN.flatMap bg)]:=by
 refine aq Tryz.func49 rfl Tryz.ntmps49 rfl ?_
 repeat' (first|(apply bS (id:=3) [0,6] [];kernel_rfl;kernel_rfl;kernel_rfl)|(apply bS (id:=4) [4] [];kernel_rfl;kernel_rfl;kernel_rfl)|(apply aa (f:=105);exact rfl;exact rfl;(intro w' _;exact rF w'))|refine sT ?_|refine sS ?_|refine sW ?_|refine sM fun _=> ?_|(refine sC ?_ ?_<;>intro hb<;>try omega)|(refine sCW ?_ ?_<;>intro hb<;>try omega)|fail)
 rename_i ge gr gn
 exact mC eIO rfl rfl rfl rfl (H' := [.own (some ge) 53 3 6 6 (G9.flatMap aJ),.own (some gr) 38 7 2 2 (bkR.flatMap bf),.own (some gn) 56 8 1 1 (bkN.flatMap bg)]) mS ⟨ge,gr,gn,rfl,rfl⟩
theorem tj (L:List Gn): ∀ u∈L.flatMap bg,u.oneCell' =true:=fun u hu=>by
 obtain ⟨a,_,h⟩:=NR.1 hu
 simp only [bg,M8,OZ,or_false] at h
 rcases h with rfl|rfl|rfl|rfl|rfl|rfl|rfl|rfl<;>rfl
theorem ut (L:List Gn) (tv:Value) (w:World) (ht:Reads w tv L.length (L.flatMap bg)) (hlen:L.length≤1000000):
  aQ Tryz.prog 46 [tv] w fun v H=> ∃ A cap,v=sl A L.length cap∧H= [.own A 56 8 L.length cap (L.flatMap bg)]:=by
 refine aq Tryz.func46 rfl Tryz.ntmps46 rfl ?_
 have hl:(L.flatMap bg).length=L.length*8:=aK cW L
 refine aI 56 8 ?_
 repeat' (first|(apply cy (n' :=0) (c:=0) (A:=none) (m:=L.length);(iterate 3 exact rfl);exact pK;(intro w hm;exact ht.of_w0 hm);exact hl;exact tj L;omega;(simp only [maxLen];omega);intro A' cap' hA)|refine sT ?_|refine sM fun _=> ?_|(refine sC ?_ ?_<;>intro hb<;>try omega)|fail)
 exact cP (.inl rfl) Tryz.results46 rfl (H' := [.own A' 56 8 (0+L.length) cap' ([]++L.flatMap bg)]) mS ⟨A',cap',by rw [Nm],by rw [Nm];rfl⟩
end Go.SL
namespace Go.SL
open Go Go.Proofs
attribute [local irreducible] W WL WQ WG WA WX WLI WR WT WC WE VOp RW thn blk bL scp bi bz bY aQ FnIn FnP ceP
theorem Ct (L:List Et) (tv:Value) (w:World) (ht:Reads w tv L.length (L.flatMap aJ)) (hlen:L.length≤1000000):
  aQ Tryz.prog 76 [tv] w fun v H=> ∃ A cap,v=sl A L.length cap∧H= [.own A 53 3 L.length cap (L.flatMap aJ)]:=by
 have ht' :=ht
 obtain ⟨At,ct,rfl,ht1,ht2,ht3⟩:=ht
 refine aq Tryz.func76 rfl Tryz.ntmps76 rfl ?_
 have hl:(L.flatMap aJ).length=L.length*3:=aK bC L
 refine aI 53 3 ?_
 repeat' (first|(apply aj;exact rfl;apply lg;exact rfl)|(apply dx;exact rfl;intro gb)|(apply cy (n' :=0) (c:=0) (A:=some _) (m:=L.length);(iterate 3 exact rfl);exact pK;(intro w hm;exact ht'.of_w0 hm);exact hl;exact nu L;omega;(simp only [maxLen];omega);intro A' cap' hA)|refine sT ?_|refine sM fun _=> ?_|(refine sC ?_ ?_<;>intro hb<;>try omega)|fail)
 ·
  have e:L.length=0:=by
   rcases NP L.length with h|h
   ·
    exact h
   ·
    obtain ⟨g,o,rfl,_⟩:=ht3 h
    cases hb
  have e' :L= []:=Nw e
  subst e'
  exact cP (.inl rfl) Tryz.results76 rfl (.refl _) ⟨none,0,rfl,rfl⟩
 ·
  exact cP (.inl rfl) Tryz.results76 rfl (H' := [.own A' 53 3 (0+L.length) cap' ([]++L.flatMap aJ)]) mS ⟨A',cap',by rw [Nm],by rw [Nm];rfl⟩
theorem Cq (L:List Rl) (tv:Value) (w:World) (ht:Reads w tv L.length (L.flatMap bf)) (hlen:L.length≤1000000):
  aQ Tryz.prog 77 [tv] w fun v H=> ∃ A cap,v=sl A L.length cap∧H= [.own A 38 7 L.length cap (L.flatMap bf)]:=by
 have ht' :=ht
 obtain ⟨At,ct,rfl,ht1,ht2,ht3⟩:=ht
 refine aq Tryz.func77 rfl Tryz.ntmps77 rfl ?_
 have hl:(L.flatMap bf).length=L.length*7:=aK dg L
 refine aI 38 7 ?_
 repeat' (first|(apply aj;exact rfl;apply lg;exact rfl)|(apply dx;exact rfl;intro gb)|(apply cy (n' :=0) (c:=0) (A:=some _) (m:=L.length);(iterate 3 exact rfl);exact pK;(intro w hm;exact ht'.of_w0 hm);exact hl;exact s9 L;omega;(simp only [maxLen];omega);intro A' cap' hA)|refine sT ?_|refine sM fun _=> ?_|(refine sC ?_ ?_<;>intro hb<;>try omega)|fail)
 ·
  have e:L.length=0:=by
   rcases NP L.length with h|h
   ·
    exact h
   ·
    obtain ⟨g,o,rfl,_⟩:=ht3 h
    cases hb
  have e' :L= []:=Nw e
  subst e'
  exact cP (.inl rfl) Tryz.results77 rfl (.refl _) ⟨none,0,rfl,rfl⟩
 ·
  exact cP (.inl rfl) Tryz.results77 rfl (H' := [.own A' 38 7 (0+L.length) cap' ([]++L.flatMap bf)]) mS ⟨A',cap',by rw [Nm],by rw [Nm];rfl⟩
theorem Cr (L:List Gn) (tv:Value) (w:World) (ht:Reads w tv L.length (L.flatMap bg)) (hlen:L.length≤1000000):
  aQ Tryz.prog 78 [tv] w fun v H=> ∃ A cap,v=sl A L.length cap∧H= [.own A 56 8 L.length cap (L.flatMap bg)]:=by
 have ht' :=ht
 obtain ⟨At,ct,rfl,ht1,ht2,ht3⟩:=ht
 refine aq Tryz.func78 rfl Tryz.ntmps78 rfl ?_
 have hl:(L.flatMap bg).length=L.length*8:=aK cW L
 refine aI 56 8 ?_
 repeat' (first|(apply aj;exact rfl;apply lg;exact rfl)|(apply dx;exact rfl;intro gb)|(apply cy (n' :=0) (c:=0) (A:=some _) (m:=L.length);(iterate 3 exact rfl);exact pK;(intro w hm;exact ht'.of_w0 hm);exact hl;exact tj L;omega;(simp only [maxLen];omega);intro A' cap' hA)|refine sT ?_|refine sM fun _=> ?_|(refine sC ?_ ?_<;>intro hb<;>try omega)|fail)
 ·
  have e:L.length=0:=by
   rcases NP L.length with h|h
   ·
    exact h
   ·
    obtain ⟨g,o,rfl,_⟩:=ht3 h
    cases hb
  have e' :L= []:=Nw e
  subst e'
  exact cP (.inl rfl) Tryz.results78 rfl (.refl _) ⟨none,0,rfl,rfl⟩
 ·
  exact cP (.inl rfl) Tryz.results78 rfl (H' := [.own A' 56 8 (0+L.length) cap' ([]++L.flatMap bg)]) mS ⟨A',cap',by rw [Nm],by rw [Nm];rfl⟩
theorem Cs (L:List Ev) (tv:Value) (w:World) (ht:Reads w tv L.length (L.flatMap aO)) (hlen:L.length≤1000000):
  aQ Tryz.prog 79 [tv] w fun v H=> ∃ A cap,v=sl A L.length cap∧H= [.own A 48 9 L.length cap (L.flatMap aO)]:=by
 have ht' :=ht
 obtain ⟨At,ct,rfl,ht1,ht2,ht3⟩:=ht
 refine aq Tryz.func79 rfl Tryz.ntmps79 rfl ?_
 have hl:(L.flatMap aO).length=L.length*9:=aK eP L
 refine aI 48 9 ?_
 repeat' (first|(apply aj;exact rfl;apply lg;exact rfl)|(apply dx;exact rfl;intro gb)|(apply cy (n' :=0) (c:=0) (A:=some _) (m:=L.length);(iterate 3 exact rfl);exact pK;(intro w hm;exact ht'.of_w0 hm);exact hl;exact tq L;omega;(simp only [maxLen];omega);intro A' cap' hA)|refine sT ?_|refine sM fun _=> ?_|(refine sC ?_ ?_<;>intro hb<;>try omega)|fail)
 ·
  have e:L.length=0:=by
   rcases NP L.length with h|h
   ·
    exact h
   ·
    obtain ⟨g,o,rfl,_⟩:=ht3 h
    cases hb
  have e' :L= []:=Nw e
  subst e'
  exact cP (.inl rfl) Tryz.results79 rfl (.refl _) ⟨none,0,rfl,rfl⟩
 ·
  exact cP (.inl rfl) Tryz.results79 rfl (H' := [.own A' 48 9 (0+L.length) cap' ([]++L.flatMap aO)]) mS ⟨A',cap',by rw [Nm],by rw [Nm];rfl⟩
theorem Cp (L:List Rv) (tv:Value) (w:World) (ht:Reads w tv L.length (L.flatMap ck)) (hlen:L.length≤1000000):
  aQ Tryz.prog 80 [tv] w fun v H=> ∃ A cap,v=sl A L.length cap∧H= [.own A 70 11 L.length cap (L.flatMap ck)]:=by
 have ht' :=ht
 obtain ⟨At,ct,rfl,ht1,ht2,ht3⟩:=ht
 refine aq Tryz.func80 rfl Tryz.ntmps80 rfl ?_
 have hl:(L.flatMap ck).length=L.length*11:=aK gR L
 refine aI 70 11 ?_
 repeat' (first|(apply aj;exact rfl;apply lg;exact rfl)|(apply dx;exact rfl;intro gb)|(apply cy (n' :=0) (c:=0) (A:=some _) (m:=L.length);(iterate 3 exact rfl);exact pK;(intro w hm;exact ht'.of_w0 hm);exact hl;exact s8 L;omega;(simp only [maxLen];omega);intro A' cap' hA)|refine sT ?_|refine sM fun _=> ?_|(refine sC ?_ ?_<;>intro hb<;>try omega)|fail)
 ·
  have e:L.length=0:=by
   rcases NP L.length with h|h
   ·
    exact h
   ·
    obtain ⟨g,o,rfl,_⟩:=ht3 h
    cases hb
  have e' :L= []:=Nw e
  subst e'
  exact cP (.inl rfl) Tryz.results80 rfl (.refl _) ⟨none,0,rfl,rfl⟩
 ·
  exact cP (.inl rfl) Tryz.results80 rfl (H' := [.own A' 70 11 (0+L.length) cap' ([]++L.flatMap ck)]) mS ⟨A',cap',by rw [Nm],by rw [Nm];rfl⟩
def jf (k:Int):Bool:=decide (k=3)||decide (k=4)||decide (k=7)||decide (k=8)||decide (k=9)
def DZ (k:Int):Bool:=decide (k=3)||decide (k=4)||decide (k=5)||decide (k=6)||decide (k=7)||decide (k=8)
def oQ (k:Int):Ox:=⟨k,0,aL,av,0#64,0#64,0#64,0,0#64,0⟩
def jG (x:Ox):Rct × Bool:=if DZ x.kind then (x.rect,true) else (aL,false)
def lA (x:Ox):Ox:=
 if x.kind<1∨10<x.kind then oQ x.kind
 else ⟨x.kind,x.user,(jG x).1,if x.kind=3 then x.input else av,if x.kind=7 then x.rd else 0#64,if x.kind=7 then x.wr else 0#64,if x.kind=7 then x.ow else 0#64,if x.kind=8 then x.fns else 0,if x.kind=8 then x.to else 0#64,if x.kind=9 then x.idx else 0⟩
def opE (x:Ox):Int:=
 if x.kind<1∨10<x.kind∨x≠lA x then 4
 else if x.kind=3∨x.kind=6 then (if x.rect.c1=x.rect.c2∧x.rect.r1=x.rect.r2 then (if f9 x.input≠0 then 4 else 0) else 4)
 else if x.kind=8 then (if x.fns<1∨31<x.fns then 4 else 0) else 0
theorem ny (x:Ox) (w:World):ax Tryz.prog 55 [.agg (bE x).toArray] w (.bool (jf x.kind)):=by
 refine aq Tryz.func55 rfl Tryz.ntmps55 rfl ?_
 repeat' (first|refine sT ?_|refine sS ?_|refine sM fun _=> ?_|(refine sC ?_ ?_<;>intro hb<;>try omega)|fail)
 all_goals first
  |(exfalso;omega)
  |((refine rT1 ?_);simp_all [jf];done)
  |trace_state
theorem zR (k:Int) (w:World):ax Tryz.prog 55 [.agg (bE (oQ k)).toArray] w (.bool (jf k)):=ny (oQ k) w
theorem vQ (x:Ox) (w:World):ax Tryz.prog 110 [.agg (bE x).toArray] w (.tuple #[.agg (bK (jG x).1).toArray,.bool (jG x).2]):=by
 refine aq Tryz.func110 rfl Tryz.ntmps110 rfl ?_
 by_cases h:DZ x.kind=true
 ·
  rw [jG,if_pos h]
  repeat' (first|refine sT ?_|refine sS ?_|refine sM fun _=> ?_|(refine sC ?_ ?_<;>intro hb<;>try omega)|fail)
  all_goals first
   |(exfalso;omega)
   |((refine eQ ?_);rfl)
   |(exfalso;simp_all [DZ];done)
   |trace_state
 ·
  rw [jG,if_neg h]
  repeat' (first|refine sT ?_|refine sS ?_|refine sM fun _=> ?_|(refine sC ?_ ?_<;>intro hb<;>try omega)|fail)
  all_goals first
   |(exfalso;omega)
   |(exfalso;simp_all [DZ];done)
   |((refine eQ ?_);rfl)
   |trace_state
set_option maxHeartbeats 4000000 in
theorem IB (x:Ox) (w:World):ax Tryz.prog 154 [.agg (bE x).toArray] w (.agg (bE (lA x)).toArray):=by
 refine aq Tryz.func154 rfl Tryz.ntmps154 rfl ?_
 have hT:=fun w=>vQ x w
 unfold lA
 obtain ⟨⟨t,tb⟩,ht⟩: ∃ t,jG x=t:=⟨_,rfl⟩
 rw [ht] at hT ⊢
 by_cases h8:x.kind=8
 ·
  repeat' (first|(apply aa;exact rfl;exact rfl;(intro w hm;exact hT w))|refine sT ?_|refine sS ?_|refine sM fun _=> ?_|(refine sC ?_ ?_<;>intro hb<;>try omega)|fail)
  all_goals try (exfalso;omega)
  rename_i g1 g2 g3 _ _ _ _
  refine l8 (id:=12) [5,7] [] [.box g1 41 (bE x)] (by kernel_rfl) (by kernel_rfl) (by kernel_rfl) mS ?_
  repeat' (first|refine sT ?_|refine sS ?_|refine sW ?_|refine sM fun _=> ?_|(refine sC ?_ ?_<;>intro hb<;>try omega)|(refine sCW ?_ ?_<;>intro hb<;>try omega)|fail)
  all_goals first
   |(exfalso;omega)
   |((refine eRC ?_);rw [if_neg (by omega)];simp_all [bE,av,vS];done)
   |trace_state
 ·
  repeat' (first|(apply aa;exact rfl;exact rfl;(intro w hm;exact hT w))|refine sT ?_|refine sS ?_|refine sM fun _=> ?_|(refine sC ?_ ?_<;>intro hb<;>try omega)|fail)
  all_goals first
   |(exfalso;omega)
   |((refine eRC ?_);rw [if_pos (by omega)];simp_all [bE,oQ,aL,av,vS];done)
   |((refine eRC ?_);rw [if_neg (by omega)];simp_all [bE,av,vS];done)
   |trace_state
set_option maxHeartbeats 4000000 in
theorem rT (x:Ox) (w:World):ax Tryz.prog 112 [.agg (bE x).toArray] w (.int .i64 (opE x)):=by
 refine aq Tryz.func112 rfl Tryz.ntmps112 rfl ?_
 have hP:=fun w=>IB x w
 have hG:=fun w=>sx x.input w
 unfold opE
 obtain ⟨c,hc⟩: ∃ c,BV x (lA x)=c:=⟨_,rfl⟩
 have hc' :x≠lA x↔c=false:=by
  rw [← hc,← Bool.not_eq_true,zw]
 simp only [hc']
 clear hc'
 generalize f9 x.input=ge at hG
 generalize lA x=p at hP hc
 repeat' (first|(apply bS (id:=1) [11] [];kernel_rfl;kernel_rfl;kernel_rfl)|(apply dO;(iterate 3 exact rfl);apply I6 (b:=p);exact rfl;exact rfl)|(apply aa (f:=154);exact rfl;exact rfl;(intro w' _;exact hP w'))|(apply aa;exact rfl;exact rfl;(intro w hm;exact hG w))|refine sT ?_|refine sS ?_|refine sW ?_|refine sM fun _=> ?_|(refine sC ?_ ?_<;>intro hb<;>try omega)|(refine sCW ?_ ?_<;>intro hb<;>try omega)|fail)
 all_goals first
  |(exfalso;omega)
  |((refine rT1 ?_);simp_all;done)
  |((refine rT1 ?_);simp_all;omega)
  |trace_state
def dM (all:BitVec 64):Int→List Ev→Int
 |_,[]=>0
 |last,x::l=>if x.step≤last then 12 else if (jf x.kind && fA all x.user)=false then 2 else if aG x.rect=false then 3 else if (decide (x.to &&& ~~~all=0#64) && fA x.to x.user)=false then 2 else dM all x.step l
def FZ (all:BitVec 64) (x:Rv):Bool:=decide (0≤x.call.node) && decide (x.call.node<256) && decide (46≤x.fn) && decide (x.fn≤50) && decide (0≤x.grant) && decide (x.grant<64) && decide (x.to &&& ~~~all=0#64)
def eY (all:BitVec 64):Int→List Rv→Int
 |_,[]=>0
 |last,x::l=>if x.step<last then 12 else if (x.call.at_.valid && aG x.rect)=false then 3 else if FZ all x=false then 2 else eY all x.step l
def pE (u:Int) (L:List Ev) (M:List Rv):Int:=
 if u<0∨64<u∨u=0 then 2 else if dM (cN u).1 (-1) L≠0 then dM (cN u).1 (-1) L else eY (cN u).1 (-1) M
theorem uU {r:Rct}:aG r=false↔dC r≠0:=⟨fun h=>by rw [dC,h];decide,gL⟩
theorem Ev.ro {w:World} {g o:Nat} {r:Ev} (h:Ro w g o (aO r)):Ro w g o [.int .i64 r.step]∧Ro w g (o+1) [.int .i64 r.user]∧Ro w g (o+2) [.int .u8 r.kind]∧Ro w g (o+3) (bK r.rect)∧Ro w g (o+7) [.bool r.done]∧Ro w g (o+8) [vS r.to]:=
 ⟨h.take (k:=1),(h.drop (k:=1)).take (k:=1),(h.drop (k:=2)).take (k:=1),(h.drop (k:=3)).take (k:=4),(h.drop (k:=7)).take (k:=1),h.drop (k:=8)⟩
def jI (L:List Ev) (i:Nat):Int:=if i=0 then -1 else ((L[i - 1]?).map Ev.step).getD 0
def jH (L:List Rv) (i:Nat):Int:=if i=0 then -1 else ((L[i - 1]?).map Rv.step).getD 0
set_option maxHeartbeats 8000000 in
theorem zL (u:Int) (L:List Ev) (M:List Rv) (lv mv:Value) (w:World) (hl:Reads w lv L.length (L.flatMap aO)) (hm:Reads w mv M.length (M.flatMap ck)):ax Tryz.prog 53 [.int .i64 u,lv,mv] w (.int .i64 (pE u L M)):=by
 obtain ⟨Al,cl,rfl,hl1,hl2,hl3⟩:=hl
 obtain ⟨Am,cm,rfl,hm1,hm2,hm3⟩:=hm
 refine aq Tryz.func53 rfl Tryz.ntmps53 rfl ?_
 have hA:=fun w=>xq u w
 unfold pE
 have hE:(cN u).2=if u<0∨64<u then 3 else 0:=by unfold cN;split<;>rfl
 obtain ⟨sa,has⟩: ∃ sa,sa=(cN u).1:=⟨_,rfl⟩
 rw [← has,hE] at hA
 rw [← has]
 by_cases h1:u<0∨64<u∨u=0
 ·
  rw [if_pos h1]
  by_cases h2:u<0∨64<u
  ·
   rw [if_pos h2] at hA
   repeat' (first|(apply aa;exact rfl;exact rfl;(intro w hm;exact hA w))|refine sT ?_|refine sM fun _=> ?_|(refine sC ?_ ?_<;>intro hb<;>try omega)|fail)
   all_goals first|(exfalso;omega)|((refine rT1 ?_);rfl)|trace_state
  ·
   rw [if_neg h2] at hA
   repeat' (first|(apply aa;exact rfl;exact rfl;(intro w hm;exact hA w))|refine sT ?_|refine sM fun _=> ?_|(refine sC ?_ ?_<;>intro hb<;>try omega)|fail)
   all_goals first|(exfalso;omega)|((refine rT1 ?_);rfl)|trace_state
 rw [if_neg h1]
 rw [if_neg (by omega)] at hA
 repeat' (first|(apply aa;exact rfl;exact rfl;(intro w hm;exact hA w))|refine sT ?_|refine sM fun _=> ?_|(refine sC ?_ ?_<;>intro hb<;>try omega)|fail)
 all_goals try (exfalso;omega)
 obtain ⟨ef,hef⟩: ∃ ef,dM sa (-1) L=ef:=⟨_,rfl⟩
 rw [hef]
 refine ay [0,1,2,7,25,26] rfl (fun i:Nat=> [(9,.int .i64 (jI L i)),(27,.int .i64 (i:Int))]) (fun _=> []) (fun i=>i≤L.length∧ef=dM sa (jI L i) (L.drop i)) (fun i=>L.length - i) 0 ⟨Nl _,hef.symm⟩ sB mS ?_
 rintro i ⟨hi,hrec⟩
 by_cases hlt:i<L.length
 ·
  obtain ⟨gl,ol,rfl,hrl⟩:=hl3 (by omega)
  have he1:=hrl.elem eP i hlt
  have hnext:jI L (i+1)=L[i].step:=by unfold jI;rw [if_neg (by omega),Ot,MV hlt];rfl
  rw [M3 hlt,dM] at hrec
  generalize jI L i=last at hrec
  generalize L[i]=r at hnext he1 hrec
  have hck:=fun w=>fY r.rect w
  have hhs:=fun w=>oP sa r.user w
  have hht:=fun w=>oP r.to r.user w
  have hmu:=fun w=>zR r.kind w
  simp only [uU] at hrec
  generalize dC r.rect=re at hck hrec
  clear has
  generalize jf r.kind=mk at hmu hrec
  generalize fA sa r.user=hb1 at hhs hrec
  generalize fA r.to r.user=hb2 at hht hrec
  repeat' (first|(apply aj;exact rfl;apply aA;exact rfl;exact he1;exact rfl)|(apply aa;exact rfl;exact rfl;(intro w hm;exact hmu w))|(apply aa (f:=109);exact rfl;exact rfl;(intro w' _;first|exact hhs w' |exact hht w'))|(apply aa;exact rfl;exact rfl;(intro w hm;exact hck w))|(apply aj;exact rfl;apply dG (b:=sa);exact rfl;exact rfl)|(apply aj;exact rfl;apply gU (b:=0#64);exact rfl;exact rfl)|refine sT ?_|refine sS ?_|refine sN ?_|refine sO ?_|refine sM fun _=> ?_|(refine sC ?_ ?_<;>intro hb<;>try omega)|fail)
  all_goals try (have hnl: ¬ r.step≤last:=by omega)
  all_goals first
   |(exfalso;omega)
   |(refine ⟨i+1,⟨hlt,?_⟩,by omega,by (try simp only [hnext]);exact sB,by (try simp only [hnext]);exact sB,by exact mS⟩;rw [hnext];simp_all;done)
   |((refine rT1 ?_);simp_all;done)
   |trace_state
 ·
  have e:i=L.length:=by omega
  subst e
  rw [ND,dM] at hrec
  subst hrec
  rw [if_neg (by decide)]
  obtain ⟨rf,hrf⟩: ∃ rf,eY sa (-1) M=rf:=⟨_,rfl⟩
  rw [hrf]
  repeat' (first|refine sT ?_|refine sM fun _=> ?_|(refine sC ?_ ?_<;>intro hb<;>try omega)|fail)
  refine ay [0,2,7,71,72] rfl (fun i:Nat=> [(9,.int .i64 (jH M i)),(73,.int .i64 (i:Int))]) (fun _=> []) (fun i=>i≤M.length∧rf=eY sa (jH M i) (M.drop i)) (fun i=>M.length - i) 0 ⟨Nl _,hrf.symm⟩ sB mS ?_
  rintro i ⟨hi,hrec⟩
  by_cases hlt:i<M.length
  ·
   obtain ⟨gm,om,rfl,hrm⟩:=hm3 (by omega)
   have he1:=hrm.elem gR i hlt
   have hnext:jH M (i+1)=M[i].step:=by unfold jH;rw [if_neg (by omega),Ot,MV hlt];rfl
   rw [M3 hlt,eY] at hrec
   generalize jH M i=last at hrec
   generalize M[i]=r at hnext he1 hrec
   have hck:=fun w=>fY r.rect w
   have hV: ∀ w',ax Tryz.prog 64 [.agg (db r.call.at_).toArray] w' (.bool r.call.at_.valid):=fun w' =>jU r.call.at_.col r.call.at_.row w'
   have hok:FZ sa r=false↔(r.call.node<0∨256≤r.call.node∨r.fn<46∨50<r.fn∨r.grant<0∨64≤r.grant∨r.to &&& ~~~sa≠0#64):=by
    simp only [FZ,NU,decide_eq_false_iff_not,Int.not_le,Int.not_lt,or_assoc]
   simp only [hok] at hrec
   clear hok
   simp only [NU,uU] at hrec
   generalize dC r.rect=re at hck hrec
   clear has
   generalize r.call.at_.valid=vd at hV hrec
   by_cases h12:r.step<last
   ·
    rw [if_pos h12] at hrec
    repeat' (first|(apply aj;exact rfl;apply aA;exact rfl;exact he1;exact rfl)|(apply aa;exact rfl;exact rfl;(intro w hm;exact hV w))|(apply aa;exact rfl;exact rfl;(intro w hm;exact hck w))|(apply aj;exact rfl;apply dG (b:=sa);exact rfl;exact rfl)|(apply aj;exact rfl;apply gU (b:=0#64);exact rfl;exact rfl)|refine sT ?_|refine sS ?_|refine sN ?_|refine sO ?_|refine sM fun _=> ?_|(refine sC ?_ ?_<;>intro hb<;>try omega)|fail)
    all_goals first|(exfalso;omega)|((refine rT1 ?_);rw [hrec];done)|trace_state
   rw [if_neg h12] at hrec
   by_cases h3:vd=false∨re≠0
   ·
    rw [if_pos h3] at hrec
    repeat' (first|(apply aj;exact rfl;apply aA;exact rfl;exact he1;exact rfl)|(apply aa;exact rfl;exact rfl;(intro w hm;exact hV w))|(apply aa;exact rfl;exact rfl;(intro w hm;exact hck w))|(apply aj;exact rfl;apply dG (b:=sa);exact rfl;exact rfl)|(apply aj;exact rfl;apply gU (b:=0#64);exact rfl;exact rfl)|refine sT ?_|refine sS ?_|refine sN ?_|refine sO ?_|refine sM fun _=> ?_|(refine sC ?_ ?_<;>intro hb<;>try omega)|fail)
    all_goals first
     |(exfalso;omega)
     |(exfalso;rcases h3 with h3|h3<;>simp_all;done)
     |((refine rT1 ?_);rw [hrec];done)
     |trace_state
   rw [if_neg h3] at hrec
   obtain ⟨h31,h32⟩:=not_or.1 h3
   have h31:vd=true:=by simpa using h31
   have h32:re=0:=by omega
   subst h31;subst h32
   by_cases hD:r.call.node<0∨256≤r.call.node∨r.fn<46∨50<r.fn∨r.grant<0∨64≤r.grant∨r.to &&& ~~~sa≠0#64
   ·
    rw [if_pos hD] at hrec
    repeat' (first|(apply aj;exact rfl;apply aA;exact rfl;exact he1;exact rfl)|(apply aa;exact rfl;exact rfl;(intro w hm;exact hV w))|(apply aa;exact rfl;exact rfl;(intro w hm;exact hck w))|(apply aj;exact rfl;apply dG (b:=sa);exact rfl;exact rfl)|(apply aj;exact rfl;apply gU (b:=0#64);exact rfl;exact rfl)|refine sT ?_|refine sS ?_|refine sN ?_|refine sO ?_|refine sM fun _=> ?_|(refine sC ?_ ?_<;>intro hb<;>try omega)|fail)
    all_goals first
     |(exfalso;omega)
     |((refine rT1 ?_);rw [hrec];done)
     |(exfalso;rcases hD with h|h|h|h|h|h|h<;>first|omega|exact absurd ‹_› h)
     |trace_state
   ·
    rw [if_neg hD] at hrec
    repeat' (first|(apply aj;exact rfl;apply aA;exact rfl;exact he1;exact rfl)|(apply aa;exact rfl;exact rfl;(intro w hm;exact hV w))|(apply aa;exact rfl;exact rfl;(intro w hm;exact hck w))|(apply aj;exact rfl;apply dG (b:=sa);exact rfl;exact rfl)|(apply aj;exact rfl;apply gU (b:=0#64);exact rfl;exact rfl)|refine sT ?_|refine sS ?_|refine sN ?_|refine sO ?_|refine sM fun _=> ?_|(refine sC ?_ ?_<;>intro hb<;>try omega)|fail)
    all_goals first
     |(exfalso;omega)
     |(exfalso;exact hD (.inr (.inr (.inr (.inr (.inr (.inr hb)))))))
     |(refine ⟨i+1,⟨hlt,?_⟩,by omega,by (try simp only [hnext]);exact sB,by (try simp only [hnext]);exact sB,by exact mS⟩;rw [hnext,hrec];done)
     |trace_state
  ·
   have e:i=M.length:=by omega
   subst e
   rw [ND,eY] at hrec
   subst hrec
   repeat' (first|refine sT ?_|refine sM fun _=> ?_|(refine sC ?_ ?_<;>intro hb<;>try omega)|fail)
   all_goals first|(exfalso;omega)|((refine rT1 ?_);rfl)|trace_state
def ofS (u:Int):BitVec 64 × Int:=if u<0∨64≤u then (0#64,3) else (1#64<<<u.toNat,0)
theorem Kh (u:Int) (lv:Value) (w:World) (hl:Reads w lv 1 [.int .i64 u]):ax Tryz.prog 122 [lv] w (.tuple #[vS (ofS u).1,.int .i64 (ofS u).2]):=by
 obtain ⟨Al,cl,rfl,hl1,hl2,hl3⟩:=hl
 obtain ⟨gl,ol,rfl,hrl⟩:=hl3 (by omega)
 have he1:=hrl.cellV 0 (v:= .int .i64 u) rfl
 refine aq Tryz.func122 rfl Tryz.ntmps122 rfl ?_
 by_cases h:u<0∨64≤u
 ·
  rw [ofS,if_pos h]
  repeat' (first|refine sT ?_|refine sS ?_|refine sO ?_|refine sM fun _=> ?_|(refine sC ?_ ?_<;>intro hb<;>try omega)|fail)
  refine ay [7,8] rfl (fun _:Unit=> [(4,.int .u64 0),(9,.int .i64 0)]) (fun _=> []) (fun _=>True) (fun _=>0) () trivial sB mS ?_
  rintro _ _
  repeat' (first|(apply aj;exact rfl;apply ak (j:=0);exact rfl;exact rfl;omega)|refine sT ?_|refine sS ?_|refine sO ?_|refine sM fun _=> ?_|(refine sC ?_ ?_<;>intro hb<;>try omega)|fail)
  all_goals first|(exfalso;omega)|((refine rT2 ?_);rfl)|trace_state
 ·
  rw [ofS,if_neg h]
  obtain ⟨m,rfl⟩: ∃ m:Nat,u=(m:Int):=⟨u.toNat,by omega⟩
  repeat' (first|refine sT ?_|refine sS ?_|refine sO ?_|refine sM fun _=> ?_|(refine sC ?_ ?_<;>intro hb<;>try omega)|fail)
  refine ay [7,8] rfl (fun i:Nat=> [(4,vS (if i=0 then 0#64 else 1#64<<<m)),(9,.int .i64 (i:Int))]) (fun _=> []) (fun i=>i≤1) (fun i=>1 - i) 0 (by omega) sB mS ?_
  rintro i hi
  rcases (by omega:i=0∨i=1) with rfl|rfl
  ·
   repeat' (first|(apply aj;exact rfl;apply ak (j:=0);exact rfl;exact rfl;omega)|(apply aj;exact rfl;apply wo (a:=1#64) (m:=m);exact rfl;exact rfl;omega)|(apply aj;exact rfl;apply oX (a:=0#64);exact rfl;exact rfl)|refine sT ?_|refine sS ?_|refine sN ?_|refine sO ?_|refine sM fun _=> ?_|(refine sC ?_ ?_<;>intro hb<;>try omega)|fail)
   all_goals first
    |(exfalso;omega)
    |(simp only [BitVec.zero_or];refine ⟨1,by omega,by omega,by exact sB,by exact sB,by exact mS⟩;done)
    |trace_state
  ·
   repeat' (first|refine sT ?_|refine sS ?_|refine sO ?_|refine sM fun _=> ?_|(refine sC ?_ ?_<;>intro hb<;>try omega)|fail)
   all_goals first|(exfalso;omega)|((refine rT2 ?_);rfl)|trace_state
def iy:Ev:=⟨0,0,0,aL,false,0#64⟩
def evT (x:Ox) (N:List Gn):Rct:=if x.kind=9 then ((N[x.idx.toNat]?).map Gn.rect).getD aL else x.rect
def evO (step:Int) (x:Ox) (dn:Bool) (L:List Rl) (N:List Gn):Ev × Int:=
 if jf x.kind=false then (iy,2)
 else if step<0∨opE x≠0∨x.user<0∨64≤x.user then (iy,2)
 else if (fP 64 L).2≠0 then (iy,(fP 64 L).2)
 else if (jL 64 N).2≠0 then (iy,(jL 64 N).2)
 else if x.kind=9∧(x.idx<0∨(N.length:Int)≤x.idx) then (iy,6)
 else if aG (evT x N)=false then (iy,3)
 else (⟨step,x.user,x.kind,evT x N,dn,(ovE (evT x N) L).1.2.2|||(ofS x.user).1⟩,0)
set_option maxHeartbeats 16000000 in
theorem IE (step:Int) (x:Ox) (dn:Bool) (L:List Rl) (N:List Gn) (lv nv:Value) (w:World) (hl:Reads w lv L.length (L.flatMap bf)) (hn:Reads w nv N.length (N.flatMap bg)):
  ax Tryz.prog 56 [.int .i64 step,.agg (bE x).toArray,.bool dn,lv,nv] w (.tuple #[.agg (aO (evO step x dn L N).1).toArray,.int .i64 (evO step x dn L N).2]):=by
 have hacl:=fun (w' :World) (H:List Blk) (hm:Mem w w' H)=>lY 64 L lv w' (hl.of_w0 hm)
 have hgnt:=fun (w' :World) (H:List Blk) (hm:Mem w w' H)=>pZ 64 N nv w' (hn.of_w0 hm)
 have hov:=fun (r:Rct) (w' :World) (H:List Blk) (hm:Mem w w' H)=>Dn r L lv w' (hl.of_w0 hm)
 obtain ⟨Al,cl,rfl,hl1,hl2,hl3⟩:=hl
 obtain ⟨An,cn,rfl,hn1,hn2,hn3⟩:=hn
 refine aq Tryz.func56 rfl Tryz.ntmps56 rfl ?_
 have hop:=fun w=>rT x w
 have hmu:=fun w=>ny x w
 unfold evO
 generalize jf x.kind=mk at hmu ⊢
 generalize opE x=oe at hop ⊢
 generalize fP 64 L=ae at hacl ⊢
 generalize jL 64 N=ne at hgnt ⊢
 cases mk with
 |false=>
  rw [if_pos rfl]
  repeat' (first|(apply aa;exact rfl;exact rfl;(intro w hm;exact hop w))|(apply aa;exact rfl;exact rfl;(intro w hm;exact hmu w))|refine sT ?_|refine sS ?_|refine sM fun _=> ?_|(refine sC ?_ ?_<;>intro hb<;>try omega)|fail)
  all_goals first|(exfalso;omega)|((refine eQ ?_);rfl)|trace_state
 |true=>
  rw [if_neg (by decide)]
  by_cases h1:step<0∨oe≠0∨x.user<0∨64≤x.user
  ·
   rw [if_pos h1]
   repeat' (first|(apply aa;exact rfl;exact rfl;(intro w hm;exact hop w))|(apply aa;exact rfl;exact rfl;(intro w hm;exact hmu w))|refine sT ?_|refine sS ?_|refine sM fun _=> ?_|(refine sC ?_ ?_<;>intro hb<;>try omega)|fail)
   all_goals first|(exfalso;omega)|((refine eQ ?_);rfl)|trace_state
  rw [if_neg h1]
  by_cases h2:ae.2≠0
  ·
   rw [if_pos h2]
   repeat' (first|(apply aa;exact rfl;exact rfl;(intro w hm;exact hop w))|(apply aa;exact rfl;exact rfl;(intro w hm;exact hmu w))|(apply aa (f:=51);exact rfl;exact rfl;(intro w' hm;exact hacl w' _ hm))|refine sT ?_|refine sS ?_|refine sM fun _=> ?_|(refine sC ?_ ?_<;>intro hb<;>try omega)|fail)
   all_goals first|(exfalso;omega)|((refine eQ ?_);rfl)|trace_state
  rw [if_neg h2]
  by_cases h3:ne.2≠0
  ·
   rw [if_pos h3]
   repeat' (first|(apply aa;exact rfl;exact rfl;(intro w hm;exact hop w))|(apply aa;exact rfl;exact rfl;(intro w hm;exact hmu w))|(apply aa (f:=51);exact rfl;exact rfl;(intro w' hm;exact hacl w' _ hm))|(apply aa (f:=52);exact rfl;exact rfl;(intro w' hm;exact hgnt w' _ hm))|refine sT ?_|refine sS ?_|refine sM fun _=> ?_|(refine sC ?_ ?_<;>intro hb<;>try omega)|fail)
   all_goals first|(exfalso;omega)|((refine eQ ?_);rfl)|trace_state
  rw [if_neg h3]
  obtain ⟨sa,has⟩: ∃ sa,sa=ofS x.user:=⟨_,rfl⟩
  have hof:=fun (w' :World) (g:Nat) (H:List Blk) (hi:In (.own (some g) 3 1 1 1 [.int .i64 x.user]) H) (hm:Mem w w' H)=>Kh x.user (.slice (some ⟨g,0,none⟩) 1 1) w' (Reads.of_own (A:=some g) hm hi)
  rw [← has] at hof ⊢
  by_cases h9:x.kind=9
  ·
   by_cases h4:x.idx<0∨(N.length:Int)≤x.idx
   ·
    rw [if_pos ⟨h9,h4⟩]
    repeat' (first|(apply aa;exact rfl;exact rfl;(intro w hm;exact hop w))|(apply aa;exact rfl;exact rfl;(intro w hm;exact hmu w))|(apply aa (f:=51);exact rfl;exact rfl;(intro w' hm;exact hacl w' _ hm))|(apply aa (f:=52);exact rfl;exact rfl;(intro w' hm;exact hgnt w' _ hm))|refine sT ?_|refine sS ?_|refine sM fun _=> ?_|(refine sC ?_ ?_<;>intro hb<;>try omega)|fail)
    all_goals first|(exfalso;omega)|((refine eQ ?_);rfl)|trace_state
   rw [if_neg (fun h=>h4 h.2)]
   obtain ⟨j,hj⟩: ∃ j:Nat,x.idx=(j:Int):=⟨x.idx.toNat,by omega⟩
   have hjl:j<N.length:=by omega
   obtain ⟨gn,on,rfl,hrn⟩:=hn3 (by omega)
   obtain ⟨hrr,_⟩:=Gn.ro (hrn.elem cW j hjl)
   have ht:evT x N=N[j].rect:=by unfold evT;rw [if_pos h9,hj,Om,MV hjl];rfl
   rw [ht]
   generalize N[j].rect=t at hrr ⊢
   have hre:=fun w=>fY t w
   have hov' :=hov t
   generalize ovE t L=ov at hov' ⊢
   by_cases h5:aG t=false
   ·
    rw [if_pos h5]
    have h6:dC t≠0:=fun h=>eD (by simpa using h) h5
    repeat' (first|(apply aa;exact rfl;exact rfl;(intro w hm;exact hop w))|(apply aa;exact rfl;exact rfl;(intro w hm;exact hmu w))|(apply aa;exact rfl;exact rfl;(intro w hm;exact hre w))|(apply aa (f:=51);exact rfl;exact rfl;(intro w' hm;exact hacl w' _ hm))|(apply aa (f:=52);exact rfl;exact rfl;(intro w' hm;exact hgnt w' _ hm))|(apply aj;exact rfl;apply ak (j:=j);exact rfl;(rw [hj];exact rfl);exact hjl)|refine sT ?_|refine sS ?_|refine sO ?_|refine sM fun _=> ?_|(refine sC ?_ ?_<;>intro hb<;>try omega)|fail)
    all_goals first|(exfalso;omega)|((refine eQ ?_);rfl)|trace_state
   ·
    rw [if_neg h5]
    repeat' (first|(apply aa;exact rfl;exact rfl;(intro w hm;exact hop w))|(apply aa;exact rfl;exact rfl;(intro w hm;exact hmu w))|(apply aa;exact rfl;exact rfl;(intro w hm;exact hre w))|(apply aa (f:=51);exact rfl;exact rfl;(intro w' hm;exact hacl w' _ hm))|(apply aa (f:=52);exact rfl;exact rfl;(intro w' hm;exact hgnt w' _ hm))|(apply aa (f:=30);exact rfl;exact rfl;(intro w' hm;exact hov' w' _ hm))|(apply aa (f:=122);exact rfl;exact rfl;(intro w' hm;exact hof w' _ _ pK hm))|(apply aj;exact rfl;apply ak (j:=j);exact rfl;(rw [hj];exact rfl);exact hjl)|(apply aj;exact rfl;apply oX;exact rfl;exact rfl)|refine sT ?_|refine sS ?_|refine sO ?_|refine sM fun _=> ?_|(refine sC ?_ ?_<;>intro hb<;>try omega)|fail)
    all_goals first|(exfalso;omega)|(exact absurd (gL hb) h5)|((refine eQ ?_);rfl)|trace_state
  ·
   rw [if_neg (fun h=>h9 h.1)]
   have ht:evT x N=x.rect:=by unfold evT;rw [if_neg h9]
   rw [ht]
   have hre:=fun w=>fY x.rect w
   have hov' :=hov x.rect
   generalize ovE x.rect L=ov at hov' ⊢
   by_cases h5:aG x.rect=false
   ·
    rw [if_pos h5]
    repeat' (first|(apply aa;exact rfl;exact rfl;(intro w hm;exact hop w))|(apply aa;exact rfl;exact rfl;(intro w hm;exact hmu w))|(apply aa;exact rfl;exact rfl;(intro w hm;exact hre w))|(apply aa (f:=51);exact rfl;exact rfl;(intro w' hm;exact hacl w' _ hm))|(apply aa (f:=52);exact rfl;exact rfl;(intro w' hm;exact hgnt w' _ hm))|refine sT ?_|refine sS ?_|refine sO ?_|refine sM fun _=> ?_|(refine sC ?_ ?_<;>intro hb<;>try omega)|fail)
    all_goals first|(exfalso;omega)|(exact absurd h5 (eD ‹_›))|((refine eQ ?_);rfl)|trace_state
   ·
    rw [if_neg h5]
    repeat' (first|(apply aa;exact rfl;exact rfl;(intro w hm;exact hop w))|(apply aa;exact rfl;exact rfl;(intro w hm;exact hmu w))|(apply aa;exact rfl;exact rfl;(intro w hm;exact hre w))|(apply aa (f:=51);exact rfl;exact rfl;(intro w' hm;exact hacl w' _ hm))|(apply aa (f:=52);exact rfl;exact rfl;(intro w' hm;exact hgnt w' _ hm))|(apply aa (f:=30);exact rfl;exact rfl;(intro w' hm;exact hov' w' _ hm))|(apply aa (f:=122);exact rfl;exact rfl;(intro w' hm;exact hof w' _ _ pK hm))|(apply aj;exact rfl;apply oX;exact rfl;exact rfl)|refine sT ?_|refine sS ?_|refine sO ?_|refine sM fun _=> ?_|(refine sC ?_ ?_<;>intro hb<;>try omega)|fail)
    all_goals first|(exfalso;omega)|(exact absurd (gL hb) h5)|((refine eQ ?_);rfl)|trace_state
structure Bk where
 users:Int
 ents:List Et
 rules:List Rl
 grants:List Gn
 log:List Ev
 rels:List Rv
 step:Int
structure Bv where
 ae:Option Addr
 ar:Option Addr
 ag:Option Addr
 al:Option Addr
 as_:Option Addr
 ce:Nat
 cr:Nat
 cg:Nat
 cl:Nat
 cs:Nat
def bG (b:Bk) (x:Bv):List Value:= [.int .i64 b.users,.slice x.ae b.ents.length x.ce,.slice x.ar b.rules.length x.cr,.slice x.ag b.grants.length x.cg,.slice x.al b.log.length x.cl,.slice x.as_ b.rels.length x.cs,.int .i64 b.step]
structure BRd (w:World) (b:Bk) (x:Bv):Prop where
 e:Reads w (.slice x.ae b.ents.length x.ce) b.ents.length (b.ents.flatMap aJ)
 r:Reads w (.slice x.ar b.rules.length x.cr) b.rules.length (b.rules.flatMap bf)
 g:Reads w (.slice x.ag b.grants.length x.cg) b.grants.length (b.grants.flatMap bg)
 l:Reads w (.slice x.al b.log.length x.cl) b.log.length (b.log.flatMap aO)
 s:Reads w (.slice x.as_ b.rels.length x.cs) b.rels.length (b.rels.flatMap ck)
theorem BRd.of_w0 {w w' :World} {b:Bk} {x:Bv} {H:List Blk} (h:BRd w b x) (hm:Mem w w' H):BRd w' b x:=⟨h.e.of_w0 hm,h.r.of_w0 hm,h.g.of_w0 hm,h.l.of_w0 hm,h.s.of_w0 hm⟩
def il (s:Int) (L:List Ev):Bool:=if 0<L.length then decide (s≤((L[L.length - 1]?).map Ev.step).getD 0) else false
def kg (s:Int) (L:List Rv):Bool:=if 0<L.length then decide (s≤((L[L.length - 1]?).map Rv.step).getD 0) else false
def bkE (b:Bk):Int:=
 if b.users<1∨64<b.users then 2
 else if (eR b.ents).2≠0 then (eR b.ents).2
 else if (fP b.users b.rules).2≠0 then (fP b.users b.rules).2
 else if (jL b.users b.grants).2≠0 then (jL b.users b.grants).2
 else if pE b.users b.log b.rels≠0 then pE b.users b.log b.rels
 else if b.step<0∨1099511627776<b.step then 2
 else if il b.step b.log=true then 2
 else if kg b.step b.rels=true then 2 else 0
theorem Rv.ro1 {w:World} {g o:Nat} {r:Rv} (h:Ro w g o (ck r)):Ro w g o [.int .i64 r.step]:=h.take (k:=1)
set_option maxHeartbeats 16000000 in
theorem tF (b:Bk) (x:Bv) (w:World) (h:BRd w b x) (hW:Words w) (hlen:b.ents.length≤1000000):ax Tryz.prog 12 [.agg (bG b x).toArray] w (.int .i64 (bkE b)):=by
 have hent:=fun (w' :World) (H:List Blk) (hm:Mem w w' H)=>uh b.ents _ w' (h.e.of_w0 hm) hlen (hW.next hm)
 have hacl:=fun (w' :World) (H:List Blk) (hm:Mem w w' H)=>lY b.users b.rules _ w' (h.r.of_w0 hm)
 have hgnt:=fun (w' :World) (H:List Blk) (hm:Mem w w' H)=>pZ b.users b.grants _ w' (h.g.of_w0 hm)
 have haud:=fun (w' :World) (H:List Blk) (hm:Mem w w' H)=>zL b.users b.log b.rels _ _ w' (h.l.of_w0 hm) (h.s.of_w0 hm)
 refine aq Tryz.func12 rfl Tryz.ntmps12 rfl ?_
 unfold bkE
 obtain ⟨Al,cl,el,hl1,hl2,hl3⟩:=h.l
 obtain ⟨Am,cm,em,hm1,hm2,hm3⟩:=h.s
 have hl3' :0<b.log.length→ ∃ g o,x.al=some ⟨g,o,none⟩∧Ro w g o (b.log.flatMap aO):=by
  cases el
  exact hl3
 have hm3' :0<b.rels.length→ ∃ g o,x.as_=some ⟨g,o,none⟩∧Ro w g o (b.rels.flatMap ck):=by
  cases em
  exact hm3
 have hLm:b.log.length≤maxLen:=Nt hl1 hl2
 have hMm:b.rels.length≤maxLen:=Nt hm1 hm2
 clear hl1 hl2 hl3 hm1 hm2 hm3 el em
 generalize eR b.ents=ce at hent ⊢
 generalize fP b.users b.rules=ae at hacl ⊢
 generalize jL b.users b.grants=ge at hgnt ⊢
 generalize pE b.users b.log b.rels=ue at haud ⊢
 obtain ⟨us,E,RU,G,L,M,st⟩:=b
 obtain ⟨ae1,ar1,ag1,al1,as1,ce1,cr1,cg1,cl1,cs1⟩:=x
 dsimp only at*
 simp only [bG] at*
 have hL:(L.length=0∧il st L=false)∨(0<L.length∧ ∃ g o s,al1=some ⟨g,o,none⟩∧Ro w g (o+(L.length - 1)*9) [.int .i64 s]∧il st L=decide (st≤s)):=by
  rcases NP L.length with h0|hp
  ·
   exact .inl ⟨h0,by unfold il;rw [if_neg (by omega)]⟩
  ·
   obtain ⟨g,o,e,hr⟩:=hl3' hp
   have hlt:L.length - 1<L.length:=by omega
   exact .inr ⟨hp,g,o,L[L.length - 1].step,e,(Ev.ro (hr.elem eP (L.length - 1) hlt)).1,by unfold il;rw [if_pos hp,MV hlt];rfl⟩
 have hM:(M.length=0∧kg st M=false)∨(0<M.length∧ ∃ g o s,as1=some ⟨g,o,none⟩∧Ro w g (o+(M.length - 1)*11) [.int .i64 s]∧kg st M=decide (st≤s)):=by
  rcases NP M.length with h0|hp
  ·
   exact .inl ⟨h0,by unfold kg;rw [if_neg (by omega)]⟩
  ·
   obtain ⟨g,o,e,hr⟩:=hm3' hp
   have hlt:M.length - 1<M.length:=by omega
   exact .inr ⟨hp,g,o,M[M.length - 1].step,e,Rv.ro1 (hr.elem gR (M.length - 1) hlt),by unfold kg;rw [if_pos hp,MV hlt];rfl⟩
 generalize il st L=le at hL ⊢
 generalize kg st M=lr at hM ⊢
 clear hl3' hm3'
 generalize L.length=nl at*
 generalize M.length=nm at*
 generalize E.length=nE at*
 generalize RU.length=nR at*
 generalize G.length=nG at*
 rcases hL with ⟨hL,rfl⟩|⟨hL,g1,o1,s1,rfl,hr1,rfl⟩<;>rcases hM with ⟨hM,rfl⟩|⟨hM,g2,o2,s2,rfl,hr2,rfl⟩
 all_goals
  repeat' (first|(apply aa (f:=50);exact rfl;exact rfl;(intro w' hm;exact hent w' _ hm))|(apply aa (f:=51);exact rfl;exact rfl;(intro w' hm;exact hacl w' _ hm))|(apply aa (f:=52);exact rfl;exact rfl;(intro w' hm;exact hgnt w' _ hm))|(apply aa (f:=53);exact rfl;exact rfl;(intro w' hm;exact haud w' _ hm))|(apply aP;exact rfl;apply du;exact rfl;exact rfl;omega;(simp only [maxLen] at*;omega))|(apply aP;exact rfl;apply ak (j:=nl - 1);exact rfl;exact rfl;omega)|(apply aP;exact rfl;apply ak (j:=nm - 1);exact rfl;exact rfl;omega)|refine sT ?_|refine sS ?_|refine sQ ?_|refine sN ?_|refine sNQ ?_|refine sO ?_|refine sOQ ?_|refine sD ?_|refine sM fun _=> ?_|(refine sC ?_ ?_<;>intro hb<;>try omega)|(refine sCQ ?_ ?_<;>intro hb<;>try omega)|fail)
 all_goals first
  |(exfalso;omega)
  |((refine rT1 ?_);simp_all;done)
  |((refine rT1 ?_);simp_all;omega)
  |trace_state
end Go.SL

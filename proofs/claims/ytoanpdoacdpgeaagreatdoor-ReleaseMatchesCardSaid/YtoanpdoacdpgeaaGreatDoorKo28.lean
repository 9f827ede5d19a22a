/-
  Lemmas and walks, put together: Ik Im Jb Jn Ba Jm.
-/
import Derived.Test.YtoanpdoacdpgeaaGreatDoorKo23
import Derived.Test.YtoanpdoacdpgeaaGreatDoorKo26
set_option linter.unusedSimpArgs false
set_option linter.unusedVariables false
set_option maxRecDepth 20000
namespace Go.SL
open Go Go.Proofs
attribute [local irreducible] W WL WQ WG WA WX WLI WR WT WC WE VOp RW thn blk bp scp aR ba bE aF FnIn FnP ceP
structure Bo where
 e:Option Nat
 r:Option Nat
 g:Option Nat
 l:Option Nat
 s:Option Nat
 ce:Nat
 cr:Nat
 cg:Nat
 cl:Nat
 cs:Nat
def adr (A:Option Nat):Option Addr:=A.map fun g=>⟨g,0,none⟩
def Bo.v (a:Bo):Bv:=⟨adr a.e,adr a.r,adr a.g,adr a.l,adr a.s,a.ce,a.cr,a.cg,a.cl,a.cs⟩
def bR (b:Bk) (a:Bo):List Blk:= [.own a.e 52 3 b.ents.length a.ce (b.ents.flatMap cF),.own a.r 54 7 b.rules.length a.cr (b.rules.flatMap bM),.own a.g 56 8 b.grants.length a.cg (b.grants.flatMap bX),.own a.l 58 9 b.log.length a.cl (b.log.flatMap dK),.own a.s 62 11 b.rels.length a.cs (b.rels.flatMap aJ)]
theorem BRd.of_rows {w0 w:World} {H:List Blk} {b:Bk} {a:Bo} (hm:Mem w0 w H) (h1:In (.own a.e 52 3 b.ents.length a.ce (b.ents.flatMap cF)) H) (h2:In (.own a.r 54 7 b.rules.length a.cr (b.rules.flatMap bM)) H) (h3:In (.own a.g 56 8 b.grants.length a.cg (b.grants.flatMap bX)) H) (h4:In (.own a.l 58 9 b.log.length a.cl (b.log.flatMap dK)) H) (h5:In (.own a.s 62 11 b.rels.length a.cs (b.rels.flatMap aJ)) H):BRd w b a.v:=
 ⟨Reads.of_own (A:=a.e) hm h1,Reads.of_own (A:=a.r) hm h2,Reads.of_own (A:=a.g) hm h3,Reads.of_own (A:=a.l) hm h4,Reads.of_own (A:=a.s) hm h5⟩
structure Small (b:Bk):Prop where
 e:b.ents.length≤1000000
 r:b.rules.length≤1000000
 g:b.grants.length≤1000000
 l:b.log.length≤1000000
 s:b.rels.length≤1000000
set_option maxHeartbeats 4000000 in
theorem JQ (b:Bk) (x:Bv) (w:World) (h:BRd w b x) (hs:Small b):aF Tryz.prog 20 [.agg (aY b x).toArray] w fun v H=> ∃ a:Bo,v= .agg (aY b a.v).toArray∧H=bR b a:=by
 refine aq Tryz.func20 rfl Tryz.ntmps20 rfl ?_
 have h1:=fun (w' :World) (H:List Blk) (hm:Mem w w' H)=>GF b.ents _ w' (h.e.of_w0 hm) hs.e
 have h2:=fun (w' :World) (H:List Blk) (hm:Mem w w' H)=>Gz b.rules _ w' (h.r.of_w0 hm) hs.r
 have h3:=fun (w' :World) (H:List Blk) (hm:Mem w w' H)=>GA b.grants _ w' (h.g.of_w0 hm) hs.g
 have h4:=fun (w' :World) (H:List Blk) (hm:Mem w w' H)=>GD b.log _ w' (h.l.of_w0 hm) hs.l
 have h5:=fun (w' :World) (H:List Blk) (hm:Mem w w' H)=>Gy b.rels _ w' (h.s.of_w0 hm) hs.s
 repeat' (first|(apply ay (f:=74);exact rfl;exact rfl;(intro w' hm;exact h1 w' _ hm);rintro _ _ ⟨A1,c1,rfl,rfl⟩)|(apply ay (f:=75);exact rfl;exact rfl;(intro w' hm;exact h2 w' _ hm);rintro _ _ ⟨A2,c2,rfl,rfl⟩)|(apply ay (f:=76);exact rfl;exact rfl;(intro w' hm;exact h3 w' _ hm);rintro _ _ ⟨A3,c3,rfl,rfl⟩)|(apply ay (f:=77);exact rfl;exact rfl;(intro w' hm;exact h4 w' _ hm);rintro _ _ ⟨A4,c4,rfl,rfl⟩)|(apply ay (f:=78);exact rfl;exact rfl;(intro w' hm;exact h5 w' _ hm);rintro _ _ ⟨A5,c5,rfl,rfl⟩)|refine sT ?_|refine sS ?_|refine sM fun _=> ?_|(refine sC ?_ ?_<;>intro hb<;>try omega)|fail)
 exact vZ (.inl rfl) rfl rfl pK rfl (H' :=bR b ⟨A1,A2,A3,A4,A5,c1,c2,c3,c4,c5⟩) (by unfold bR;exact mS) ⟨⟨A1,A2,A3,A4,A5,c1,c2,c3,c4,c5⟩,rfl,rfl⟩
def Mh (a b:Bk):Bool:=decide (a.users=b.users) && decide (a.step=b.step) && decide (a.ents=b.ents) && decide (a.rules=b.rules) && decide (a.grants=b.grants) && decide (a.log=b.log) && decide (a.rels=b.rels)
theorem Mg {a b:Bk}:Mh a b=true↔a=b:=by
 obtain ⟨a1,a2,a3,a4,a5,a6,a7⟩:=a
 obtain ⟨b1,b2,b3,b4,b5,b6,b7⟩:=b
 simp only [Mh,Rk,decide_eq_true_eq,Bk.mk.injEq]
 exact ⟨fun ⟨⟨⟨⟨⟨⟨h1,h2⟩,h3⟩,h4⟩,h5⟩,h6⟩,h7⟩=>⟨h1,h3,h4,h5,h6,h7,h2⟩,fun ⟨h1,h3,h4,h5,h6,h7,h2⟩=>⟨⟨⟨⟨⟨⟨h1,h2⟩,h3⟩,h4⟩,h5⟩,h6⟩,h7⟩⟩
end Go.SL
namespace Go.SL
open Go Go.Proofs
attribute [local irreducible] W WL WQ WG WA WX WLI WR WT WC WE VOp RW thn blk bp scp aR ba bE aF FnIn FnP ceP
def Ew:Bk:=⟨0,[],[],[],[],[],0⟩
def zz:Bo:=⟨none,none,none,none,none,0,0,0,0,0⟩
theorem rX {b:Bk} (h: ¬ bkE b≠0):0≤b.step∧b.step≤1099511627776∧b.rules.length≤64∧b.grants.length≤64:=by
 have h:=Decidable.not_not.1 h
 unfold bkE at h
 split at h
 ·
  exact absurd h (by decide)
 split at h
 ·
  rename_i h2;exact absurd h h2
 split at h
 ·
  rename_i h2;exact absurd h h2
 rename_i hacl
 split at h
 ·
  rename_i h2;exact absurd h h2
 rename_i hgnt
 split at h
 ·
  rename_i h2;exact absurd h h2
 split at h
 ·
  exact absurd h (by decide)
 refine ⟨by omega,by omega,?_,?_⟩
 ·
  unfold eP at hacl
  split at hacl
  ·
   exact absurd (by decide) hacl
  split at hacl
  ·
   exact absurd (by decide) hacl
  ·
   omega
 ·
  unfold i9 at hgnt
  split at hgnt
  ·
   exact absurd (by decide) hgnt
  split at hgnt
  ·
   exact absurd (by decide) hgnt
  ·
   omega
end Go.SL
namespace Go.SL
open Go Go.Proofs
attribute [local irreducible] W WL WQ WG WA WX WLI WR WT WC WE VOp RW thn blk bp scp aR ba bE aF FnIn FnP ceP
def NX:Bk:=⟨3,ze,bkR,[],[],[],0⟩
theorem Bl (w:World):aF Tryz.prog 57 [] w fun v H=> ∃ a:Bo,v= .agg (aY NX a.v).toArray∧H=bR NX a:=by
 refine aq Tryz.func57 rfl Tryz.ntmps57 rfl ?_
 refine aB 56 8 ?_
 refine aB 58 9 ?_
 refine aB 62 11 ?_
 repeat' (first|(apply ay (f:=116);exact rfl;exact rfl;(intro w' hm;exact J4 w');rintro _ _ ⟨ge,gr,gn,rfl,rfl⟩)|refine sT ?_|refine sS ?_|refine sM fun _=> ?_|(refine sC ?_ ?_<;>intro hb<;>try omega)|fail)
 exact vZ (.inl rfl) rfl rfl pK rfl (H' :=bR NX ⟨some ge,some gr,none,none,none,6,2,0,0,0⟩) (by unfold bR;exact mS) ⟨⟨some ge,some gr,none,none,none,6,2,0,0,0⟩,rfl,rfl⟩
def sL (b:Bk):Bool:=
 decide (b.ents.length≤40) && (decide (b.rules.length≤10)||(decide ((eP b.users b.rules).2≠0) && decide (b.rules.length<70))) && (decide (b.grants.length≤10)||(decide (64<b.grants.length) && decide (b.grants.length<70))) && decide (b.log.length≤60) && decide (b.rels.length≤60)
theorem yK {b:Bk} (h:sL b=true):b.ents.length≤40∧b.rules.length<70∧b.grants.length<70∧b.log.length≤60∧b.rels.length≤60:=by
 simp only [sL,Rk,Td,decide_eq_true_eq] at h
 omega
set_option maxHeartbeats 8000000 in
theorem xE (b:Bk) (x:Bv) (w:World) (h:BRd w b x):aA Tryz.prog 9 [.agg (aY b x).toArray] w (.bool (sL b)):=by
 refine aq Tryz.func9 rfl Tryz.ntmps9 rfl ?_
 have h1:=fun (w' :World) (H:List Blk) (hm:Mem w w' H)=>jh b.users b.rules _ w' (h.r.of_w0 hm)
 unfold sL
 generalize eP b.users b.rules=ae at h1 ⊢
 obtain ⟨us,E,RU,G,L,M,st⟩:=b
 obtain ⟨ae1,ar1,ag1,al1,as1,ce1,cr1,cg1,cl1,cs1⟩:=x
 dsimp only at*
 clear h
 simp only [aY]
 generalize E.length=nE
 generalize RU.length=nR at h1 ⊢
 generalize G.length=nG
 generalize L.length=nL
 generalize M.length=nM
 repeat' (first|(apply aa (f:=34);exact rfl;exact rfl;(intro w' hm;exact h1 w' _ hm))|refine sT ?_|refine sS ?_|refine sM fun _=> ?_|(refine sC ?_ ?_<;>intro hb<;>try omega)|fail)
 all_goals first
  |(exfalso;omega)
  |((refine rT1 ?_);refine congrArg Value.bool (RQ.2 ?_);simp only [Rk,Td,decide_eq_true_eq,Sa,true_iff,false_iff];omega)
theorem Eh (L M:List Rl) (lv mv:Value) (w:World) (hl:Reads w lv L.length (L.flatMap bM)) (hm:Reads w mv M.length (M.flatMap bM)):
  aA Tryz.prog 54 [lv,mv] w (.bool (decide (L=M))):=by
 obtain ⟨Al,cl,rfl,hl1,hl2,hl3⟩:=hl
 obtain ⟨Am,cm,rfl,hm1,hm2,hm3⟩:=hm
 refine aq Tryz.func54 rfl Tryz.ntmps54 rfl ?_
 by_cases hlen:L.length=M.length
 ·
  repeat' (first|refine sT ?_|refine sS ?_|refine sM fun _=> ?_|(refine sC ?_ ?_<;>intro hb<;>try omega)|fail)
  refine fD (fun i:Nat=> [(0,.slice Al L.length cl),(1,.slice Am M.length cm),(5,.int .i64 (i:Int))]) (fun _=> []) (fun i=>i≤L.length∧decide (L=M)=decide (L.drop i=M.drop i)) (fun i=>L.length - i) 0 ⟨by omega,rfl⟩ ?_ ?_ ?_
  ·
   exact sB
  ·
   exact mS
  ·
   rintro i ⟨hi,hrec⟩
   by_cases hlt:i<L.length
   ·
    have hlt2:i<M.length:=by omega
    obtain ⟨gl,ol,rfl,hrl⟩:=hl3 (by omega)
    obtain ⟨gm,om,rfl,hrm⟩:=hm3 (by omega)
    have he1:=hrl.elem bV i hlt
    have he2:=hrm.elem bV i hlt2
    rw [rN hlt hlt2,← Ma] at hrec
    repeat' (first|(apply aK;exact rfl;apply aj;exact rfl;exact rfl;(first|exact hlt|exact hlt2))|(apply aK;exact rfl;apply aC;exact rfl;(first|exact he1|exact he2);exact rfl)|(apply aK;exact rfl;apply M0;exact rfl;exact rfl)|(apply ak;exact rfl;apply gJ;exact rfl;exact rfl;(simp only [maxLen] at*;omega))|refine sT ?_|refine sS ?_|refine sQ ?_|refine sD ?_|refine sM fun _=> ?_|(refine sC ?_ ?_<;>intro hb<;>try omega)|(refine sCQ ?_ ?_<;>intro hb<;>try omega)|fail)
    all_goals first
     |(exfalso;omega)
     |((refine rT1 ?_);rw [hrec];simp_all;done)
     |(refine ⟨i+1,⟨by omega,?_⟩,by omega,by exact sB,by exact mS⟩;rw [hrec];simp_all;done)
   ·
    have e:i=L.length:=by omega
    subst e
    repeat' (first|refine sT ?_|refine sS ?_|refine sM fun _=> ?_|(refine sC ?_ ?_<;>intro hb<;>try omega)|fail)
    (refine rT1 ?_)
    rw [hrec,RK,hlen,RK]
    rfl
 ·
  repeat' (first|refine sT ?_|refine sS ?_|refine sM fun _=> ?_|(refine sC ?_ ?_<;>intro hb<;>try omega)|fail)
  (refine rT1 ?_)
  rw [decide_eq_false]
  intro e
  exact hlen (congrArg List.length e)
theorem uB (L M:List Rv) (lv mv:Value) (w:World) (hl:Reads w lv L.length (L.flatMap aJ)) (hm:Reads w mv M.length (M.flatMap aJ)):
  aA Tryz.prog 23 [lv,mv] w (.bool (decide (L=M))):=by
 obtain ⟨Al,cl,rfl,hl1,hl2,hl3⟩:=hl
 obtain ⟨Am,cm,rfl,hm1,hm2,hm3⟩:=hm
 refine aq Tryz.func23 rfl Tryz.ntmps23 rfl ?_
 by_cases hlen:L.length=M.length
 ·
  repeat' (first|refine sT ?_|refine sS ?_|refine sM fun _=> ?_|(refine sC ?_ ?_<;>intro hb<;>try omega)|fail)
  refine fD (fun i:Nat=> [(0,.slice Al L.length cl),(1,.slice Am M.length cm),(5,.int .i64 (i:Int))]) (fun _=> []) (fun i=>i≤L.length∧decide (L=M)=decide (L.drop i=M.drop i)) (fun i=>L.length - i) 0 ⟨by omega,rfl⟩ ?_ ?_ ?_
  ·
   exact sB
  ·
   exact mS
  ·
   rintro i ⟨hi,hrec⟩
   by_cases hlt:i<L.length
   ·
    have hlt2:i<M.length:=by omega
    obtain ⟨gl,ol,rfl,hrl⟩:=hl3 (by omega)
    obtain ⟨gm,om,rfl,hrm⟩:=hm3 (by omega)
    have he1:=hrl.elem cQ i hlt
    have he2:=hrm.elem cQ i hlt2
    rw [rN hlt hlt2,← L9] at hrec
    repeat' (first|(apply aK;exact rfl;apply aj;exact rfl;exact rfl;(first|exact hlt|exact hlt2))|(apply aK;exact rfl;apply aC;exact rfl;(first|exact he1|exact he2);exact rfl)|(apply aK;exact rfl;apply MZ;exact rfl;exact rfl)|(apply ak;exact rfl;apply gJ;exact rfl;exact rfl;(simp only [maxLen] at*;omega))|refine sT ?_|refine sS ?_|refine sQ ?_|refine sD ?_|refine sM fun _=> ?_|(refine sC ?_ ?_<;>intro hb<;>try omega)|(refine sCQ ?_ ?_<;>intro hb<;>try omega)|fail)
    all_goals first
     |(exfalso;omega)
     |((refine rT1 ?_);rw [hrec];simp_all;done)
     |(refine ⟨i+1,⟨by omega,?_⟩,by omega,by exact sB,by exact mS⟩;rw [hrec];simp_all;done)
   ·
    have e:i=L.length:=by omega
    subst e
    repeat' (first|refine sT ?_|refine sS ?_|refine sM fun _=> ?_|(refine sC ?_ ?_<;>intro hb<;>try omega)|fail)
    (refine rT1 ?_)
    rw [hrec,RK,hlen,RK]
    rfl
 ·
  repeat' (first|refine sT ?_|refine sS ?_|refine sM fun _=> ?_|(refine sC ?_ ?_<;>intro hb<;>try omega)|fail)
  (refine rT1 ?_)
  rw [decide_eq_false]
  intro e
  exact hlen (congrArg List.length e)
set_option maxHeartbeats 8000000 in
theorem yg (a b:Bk) (x y:Bv) (w:World) (h:BRd w a x) (k:BRd w b y):aA Tryz.prog 13 [.agg (aY a x).toArray,.agg (aY b y).toArray] w (.bool (Mh a b)):=by
 refine aq Tryz.func13 rfl Tryz.ntmps13 rfl ?_
 have h1:=fun (w' :World) (H:List Blk) (hm:Mem w w' H)=>uN a.ents b.ents _ _ w' (h.e.of_w0 hm) (k.e.of_w0 hm)
 have h2:=fun (w' :World) (H:List Blk) (hm:Mem w w' H)=>Eh a.rules b.rules _ _ w' (h.r.of_w0 hm) (k.r.of_w0 hm)
 have h3:=fun (w' :World) (H:List Blk) (hm:Mem w w' H)=>Ei a.grants b.grants _ _ w' (h.g.of_w0 hm) (k.g.of_w0 hm)
 have h4:=fun (w' :World) (H:List Blk) (hm:Mem w w' H)=>Ej a.log b.log _ _ w' (h.l.of_w0 hm) (k.l.of_w0 hm)
 have h5:=fun (w' :World) (H:List Blk) (hm:Mem w w' H)=>uB a.rels b.rels _ _ w' (h.s.of_w0 hm) (k.s.of_w0 hm)
 unfold Mh
 generalize decide (a.ents=b.ents)=c1 at h1 ⊢
 generalize decide (a.rules=b.rules)=c2 at h2 ⊢
 generalize decide (a.grants=b.grants)=c3 at h3 ⊢
 generalize decide (a.log=b.log)=c4 at h4 ⊢
 generalize decide (a.rels=b.rels)=c5 at h5 ⊢
 repeat' (first|(apply aa (f:=53);exact rfl;exact rfl;(intro w' hm;exact h1 w' _ hm))|(apply aa (f:=54);exact rfl;exact rfl;(intro w' hm;exact h2 w' _ hm))|(apply aa (f:=55);exact rfl;exact rfl;(intro w' hm;exact h3 w' _ hm))|(apply aa (f:=56);exact rfl;exact rfl;(intro w' hm;exact h4 w' _ hm))|(apply aa (f:=23);exact rfl;exact rfl;(intro w' hm;exact h5 w' _ hm))|refine sT ?_|refine sS ?_|refine sM fun _=> ?_|(refine sC ?_ ?_<;>intro hb<;>try omega)|fail)
 all_goals first
  |(exfalso;omega)
  |((refine rT1 ?_);simp_all;done)
theorem JC (b:Bk):Mh b b=true:=Mg.2 rfl
theorem lB (b:Bk) {x y:Bv} {w:World} (h:BRd w b x) (k:BRd w b y):aA Tryz.prog 13 [.agg (aY b x).toArray,.agg (aY b y).toArray] w (.bool true):=by
 have:=yg b b x y w h k
 rwa [JC] at this
theorem Bm (L:List Rl) (tv:Value) (w:World) (ht:Reads w tv L.length (L.flatMap bM)) (hlen:L.length≤1000000):
  aF Tryz.prog 36 [tv] w fun v H=> ∃ A cap,v=sl A L.length cap∧H= [.own A 54 7 L.length cap (L.flatMap bM)]:=by
 refine aq Tryz.func36 rfl Tryz.ntmps36 rfl ?_
 have hl:(L.flatMap bM).length=L.length*7:=aM bV L
 refine aB 54 7 ?_
 repeat' (first|(apply bS (n' :=0) (c:=0) (A:=none) (m:=L.length);(iterate 3 exact rfl);exact pK;(intro w hm;exact ht.of_w0 hm);exact hl;exact xm L;omega;(simp only [maxLen];omega);intro A' cap' hA)|refine sT ?_|refine sM fun _=> ?_|(refine sC ?_ ?_<;>intro hb<;>try omega)|fail)
 exact cA (.inl rfl) Tryz.results36 rfl (H' := [.own A' 54 7 (0+L.length) cap' ([]++L.flatMap bM)]) mS ⟨A',cap',by rw [Rt],by rw [Rt];rfl⟩
theorem ym (L:List Ev) (tv:Value) (w:World) (ht:Reads w tv L.length (L.flatMap dK)) (hlen:L.length≤1000000):
  aF Tryz.prog 38 [tv] w fun v H=> ∃ A cap,v=sl A L.length cap∧H= [.own A 58 9 L.length cap (L.flatMap dK)]:=by
 refine aq Tryz.func38 rfl Tryz.ntmps38 rfl ?_
 have hl:(L.flatMap dK).length=L.length*9:=aM fS L
 refine aB 58 9 ?_
 repeat' (first|(apply bS (n' :=0) (c:=0) (A:=none) (m:=L.length);(iterate 3 exact rfl);exact pK;(intro w hm;exact ht.of_w0 hm);exact hl;exact xp L;omega;(simp only [maxLen];omega);intro A' cap' hA)|refine sT ?_|refine sM fun _=> ?_|(refine sC ?_ ?_<;>intro hb<;>try omega)|fail)
 exact cA (.inl rfl) Tryz.results38 rfl (H' := [.own A' 58 9 (0+L.length) cap' ([]++L.flatMap dK)]) mS ⟨A',cap',by rw [Rt],by rw [Rt];rfl⟩
theorem uO (L:List Rv) (tv:Value) (w:World) (ht:Reads w tv L.length (L.flatMap aJ)) (hlen:L.length≤1000000):
  aF Tryz.prog 39 [tv] w fun v H=> ∃ A cap,v=sl A L.length cap∧H= [.own A 62 11 L.length cap (L.flatMap aJ)]:=by
 refine aq Tryz.func39 rfl Tryz.ntmps39 rfl ?_
 have hl:(L.flatMap aJ).length=L.length*11:=aM cQ L
 refine aB 62 11 ?_
 repeat' (first|(apply bS (n' :=0) (c:=0) (A:=none) (m:=L.length);(iterate 3 exact rfl);exact pK;(intro w hm;exact ht.of_w0 hm);exact hl;exact mP L;omega;(simp only [maxLen];omega);intro A' cap' hA)|refine sT ?_|refine sM fun _=> ?_|(refine sC ?_ ?_<;>intro hb<;>try omega)|fail)
 exact cA (.inl rfl) Tryz.results39 rfl (H' := [.own A' 62 11 (0+L.length) cap' ([]++L.flatMap aJ)]) mS ⟨A',cap',by rw [Rt],by rw [Rt];rfl⟩
set_option maxHeartbeats 8000000 in
theorem oK (b:Bk) (x:Bv) (w:World) (h:BRd w b x) (hs:Small b):aF Tryz.prog 10 [.agg (aY b x).toArray] w fun v H=> ∃ a:Bo,v= .agg (aY b a.v).toArray∧H=bR b a:=by
 refine aq Tryz.func10 rfl Tryz.ntmps10 rfl ?_
 have h1:=fun (w' :World) (H:List Blk) (hm:Mem w w' H)=>xG b.ents _ w' (h.e.of_w0 hm) hs.e
 have h2:=fun (w' :World) (H:List Blk) (hm:Mem w w' H)=>Bm b.rules _ w' (h.r.of_w0 hm) hs.r
 have h3:=fun (w' :World) (H:List Blk) (hm:Mem w w' H)=>yj b.grants _ w' (h.g.of_w0 hm) hs.g
 have h4:=fun (w' :World) (H:List Blk) (hm:Mem w w' H)=>ym b.log _ w' (h.l.of_w0 hm) hs.l
 have h5:=fun (w' :World) (H:List Blk) (hm:Mem w w' H)=>uO b.rels _ w' (h.s.of_w0 hm) hs.s
 simp only [aY]
 repeat' (first|refine sT ?_|refine sS ?_|refine sM fun _=> ?_|(refine sC ?_ ?_<;>intro hb<;>try omega)|fail)
 rename_i g1 g2
 refine aB 0 0 ?_
 refine aB 0 0 ?_
 refine aB 0 0 ?_
 refine aB 0 0 ?_
 refine aB 0 0 ?_
 refine Ku (id:=1) (fun|2=>some fun g=>sl g.1 b.ents.length g.2|5=>some fun g=>sl g.1 b.rules.length g.2|8=>some fun g=>sl g.1 b.grants.length g.2|11=>some fun g=>sl g.1 b.log.length g.2|14=>some fun g=>sl g.1 b.rels.length g.2|_=>none)
  (fun (D:gS) (q:Nat→Gh)=> .box g1 28 [.int .i64 b.users,bif D 16 then sl (q 2).1 b.ents.length (q 2).2 else .slice x.ae b.ents.length x.ce,bif D 18 then sl (q 5).1 b.rules.length (q 5).2 else .slice x.ar b.rules.length x.cr,bif D 20 then sl (q 8).1 b.grants.length (q 8).2 else .slice x.ag b.grants.length x.cg,bif D 22 then sl (q 11).1 b.log.length (q 11).2 else .slice x.al b.log.length x.cl,bif D 24 then sl (q 14).1 b.rels.length (q 14).2 else .slice x.as_ b.rels.length x.cs,.int .i64 b.step]:: .box g2 28 [.int .i64 0,.slice none 0 0,.slice none 0 0,.slice none 0 0,.slice none 0 0,.slice none 0 0,.int .i64 0]::(bif D 2 then Blk.own (q 2).1 52 3 b.ents.length (q 2).2 (b.ents.flatMap cF) else Lz)::(bif D 5 then Blk.own (q 5).1 54 7 b.rules.length (q 5).2 (b.rules.flatMap bM) else Lz)::(bif D 8 then Blk.own (q 8).1 56 8 b.grants.length (q 8).2 (b.grants.flatMap bX) else Lz)::(bif D 11 then Blk.own (q 11).1 58 9 b.log.length (q 11).2 (b.log.flatMap dK) else Lz)::(bif D 14 then Blk.own (q 14).1 62 11 b.rels.length (q 14).2 (b.rels.flatMap aJ) else Lz):: []) ?_ ?_ ?_ ?_
 ·
  kernel_rfl
 ·
  kernel_rfl
 ·
  intro γ
  exact mS
 intro γ
 repeat' (first|(apply Bn (d:=4);(iterate 3 exact rfl);(intro D ht;(have n16:D 16=false:=ht.late (j:=16) (f:=60) (by decide+kernel));(simp only [gat,put,upd,Nat.reduceEqDiff,Nat.reduceAdd,reduceIte,n16,cond_true,cond_false,QW,QU,Si,Sh,RX,Sr]);apply gP;exact rfl;exact pK;exact rfl);exact fun _=>rfl)|refine sT ?_|refine sS ?_|refine sX ?_|refine sM fun _=> ?_|(refine sC ?_ ?_<;>intro hb<;>try omega)|(refine sCX ?_ ?_<;>intro hb<;>try omega)|fail)
 refine u5 rfl rfl rfl (fun D ht=> ?_) ?_
 ·
  have n2:D 2=false:=ht.not
  have n5:D 5=false:=ht.late (j:=5) (f:=60) (by decide+kernel)
  have n8:D 8=false:=ht.late (j:=8) (f:=60) (by decide+kernel)
  have n11:D 11=false:=ht.late (j:=11) (f:=60) (by decide+kernel)
  have n14:D 14=false:=ht.late (j:=14) (f:=60) (by decide+kernel)
  have n16:D 16=false:=ht.late (j:=16) (f:=60) (by decide+kernel)
  have n18:D 18=false:=ht.late (j:=18) (f:=60) (by decide+kernel)
  have n20:D 20=false:=ht.late (j:=20) (f:=60) (by decide+kernel)
  have n22:D 22=false:=ht.late (j:=22) (f:=60) (by decide+kernel)
  have n24:D 24=false:=ht.late (j:=24) (f:=60) (by decide+kernel)
  (simp only [gat,put,upd,Nat.reduceEqDiff,Nat.reduceAdd,reduceIte,n2,n5,n8,n11,n14,n16,n18,n20,n22,n24,cond_true,cond_false,QW,QU,Si,Sh,RX,Sr])
  (with_reducible apply ay (f:=35));exact rfl;exact rfl;(intro w' hm;exact h1 w' _ hm);rintro _ _ ⟨A',c',rfl,rfl⟩
  refine mZ ⟨rfl,(A',c'),rfl,?_⟩
  (simp only [gat,put,upd,Nat.reduceEqDiff,Nat.reduceAdd,reduceIte,n2,n5,n8,n11,n14,n16,n18,n20,n22,n24,cond_true,cond_false,QW,QU,Si,Sh,RX,Sr])
  exact mS
 repeat' (first|(apply Bn (d:=7);(iterate 3 exact rfl);(intro D ht;(have n18:D 18=false:=ht.late (j:=18) (f:=60) (by decide+kernel));(simp only [gat,put,upd,Nat.reduceEqDiff,Nat.reduceAdd,reduceIte,n18,cond_true,cond_false,QW,QU,Si,Sh,RX,Sr]);apply gP;exact rfl;exact pK;exact rfl);exact fun _=>rfl)|refine sT ?_|refine sS ?_|refine sX ?_|refine sM fun _=> ?_|(refine sC ?_ ?_<;>intro hb<;>try omega)|(refine sCX ?_ ?_<;>intro hb<;>try omega)|fail)
 refine u5 rfl rfl rfl (fun D ht=> ?_) ?_
 ·
  have n5:D 5=false:=ht.not
  have n2:D 2=true:=ht.early (i:=2) (f:=60) (by decide+kernel)
  have n8:D 8=false:=ht.late (j:=8) (f:=60) (by decide+kernel)
  have n11:D 11=false:=ht.late (j:=11) (f:=60) (by decide+kernel)
  have n14:D 14=false:=ht.late (j:=14) (f:=60) (by decide+kernel)
  have n16:D 16=false:=ht.late (j:=16) (f:=60) (by decide+kernel)
  have n18:D 18=false:=ht.late (j:=18) (f:=60) (by decide+kernel)
  have n20:D 20=false:=ht.late (j:=20) (f:=60) (by decide+kernel)
  have n22:D 22=false:=ht.late (j:=22) (f:=60) (by decide+kernel)
  have n24:D 24=false:=ht.late (j:=24) (f:=60) (by decide+kernel)
  (simp only [gat,put,upd,Nat.reduceEqDiff,Nat.reduceAdd,reduceIte,n2,n5,n8,n11,n14,n16,n18,n20,n22,n24,cond_true,cond_false,QW,QU,Si,Sh,RX,Sr])
  (with_reducible apply ay (f:=36));exact rfl;exact rfl;(intro w' hm;exact h2 w' _ hm);rintro _ _ ⟨A',c',rfl,rfl⟩
  refine mZ ⟨rfl,(A',c'),rfl,?_⟩
  (simp only [gat,put,upd,Nat.reduceEqDiff,Nat.reduceAdd,reduceIte,n2,n5,n8,n11,n14,n16,n18,n20,n22,n24,cond_true,cond_false,QW,QU,Si,Sh,RX,Sr])
  exact mS
 repeat' (first|(apply Bn (d:=10);(iterate 3 exact rfl);(intro D ht;(have n20:D 20=false:=ht.late (j:=20) (f:=60) (by decide+kernel));(simp only [gat,put,upd,Nat.reduceEqDiff,Nat.reduceAdd,reduceIte,n20,cond_true,cond_false,QW,QU,Si,Sh,RX,Sr]);apply gP;exact rfl;exact pK;exact rfl);exact fun _=>rfl)|refine sT ?_|refine sS ?_|refine sX ?_|refine sM fun _=> ?_|(refine sC ?_ ?_<;>intro hb<;>try omega)|(refine sCX ?_ ?_<;>intro hb<;>try omega)|fail)
 refine u5 rfl rfl rfl (fun D ht=> ?_) ?_
 ·
  have n8:D 8=false:=ht.not
  have n2:D 2=true:=ht.early (i:=2) (f:=60) (by decide+kernel)
  have n5:D 5=true:=ht.early (i:=5) (f:=60) (by decide+kernel)
  have n11:D 11=false:=ht.late (j:=11) (f:=60) (by decide+kernel)
  have n14:D 14=false:=ht.late (j:=14) (f:=60) (by decide+kernel)
  have n16:D 16=false:=ht.late (j:=16) (f:=60) (by decide+kernel)
  have n18:D 18=false:=ht.late (j:=18) (f:=60) (by decide+kernel)
  have n20:D 20=false:=ht.late (j:=20) (f:=60) (by decide+kernel)
  have n22:D 22=false:=ht.late (j:=22) (f:=60) (by decide+kernel)
  have n24:D 24=false:=ht.late (j:=24) (f:=60) (by decide+kernel)
  (simp only [gat,put,upd,Nat.reduceEqDiff,Nat.reduceAdd,reduceIte,n2,n5,n8,n11,n14,n16,n18,n20,n22,n24,cond_true,cond_false,QW,QU,Si,Sh,RX,Sr])
  (with_reducible apply ay (f:=37));exact rfl;exact rfl;(intro w' hm;exact h3 w' _ hm);rintro _ _ ⟨A',c',rfl,rfl⟩
  refine mZ ⟨rfl,(A',c'),rfl,?_⟩
  (simp only [gat,put,upd,Nat.reduceEqDiff,Nat.reduceAdd,reduceIte,n2,n5,n8,n11,n14,n16,n18,n20,n22,n24,cond_true,cond_false,QW,QU,Si,Sh,RX,Sr])
  exact mS
 repeat' (first|(apply Bn (d:=13);(iterate 3 exact rfl);(intro D ht;(have n22:D 22=false:=ht.late (j:=22) (f:=60) (by decide+kernel));(simp only [gat,put,upd,Nat.reduceEqDiff,Nat.reduceAdd,reduceIte,n22,cond_true,cond_false,QW,QU,Si,Sh,RX,Sr]);apply gP;exact rfl;exact pK;exact rfl);exact fun _=>rfl)|refine sT ?_|refine sS ?_|refine sX ?_|refine sM fun _=> ?_|(refine sC ?_ ?_<;>intro hb<;>try omega)|(refine sCX ?_ ?_<;>intro hb<;>try omega)|fail)
 refine u5 rfl rfl rfl (fun D ht=> ?_) ?_
 ·
  have n11:D 11=false:=ht.not
  have n2:D 2=true:=ht.early (i:=2) (f:=60) (by decide+kernel)
  have n5:D 5=true:=ht.early (i:=5) (f:=60) (by decide+kernel)
  have n8:D 8=true:=ht.early (i:=8) (f:=60) (by decide+kernel)
  have n14:D 14=false:=ht.late (j:=14) (f:=60) (by decide+kernel)
  have n16:D 16=false:=ht.late (j:=16) (f:=60) (by decide+kernel)
  have n18:D 18=false:=ht.late (j:=18) (f:=60) (by decide+kernel)
  have n20:D 20=false:=ht.late (j:=20) (f:=60) (by decide+kernel)
  have n22:D 22=false:=ht.late (j:=22) (f:=60) (by decide+kernel)
  have n24:D 24=false:=ht.late (j:=24) (f:=60) (by decide+kernel)
  (simp only [gat,put,upd,Nat.reduceEqDiff,Nat.reduceAdd,reduceIte,n2,n5,n8,n11,n14,n16,n18,n20,n22,n24,cond_true,cond_false,QW,QU,Si,Sh,RX,Sr])
  (with_reducible apply ay (f:=38));exact rfl;exact rfl;(intro w' hm;exact h4 w' _ hm);rintro _ _ ⟨A',c',rfl,rfl⟩
  refine mZ ⟨rfl,(A',c'),rfl,?_⟩
  (simp only [gat,put,upd,Nat.reduceEqDiff,Nat.reduceAdd,reduceIte,n2,n5,n8,n11,n14,n16,n18,n20,n22,n24,cond_true,cond_false,QW,QU,Si,Sh,RX,Sr])
  exact mS
 repeat' (first|(apply Bn (d:=16);(iterate 3 exact rfl);(intro D ht;(have n24:D 24=false:=ht.late (j:=24) (f:=60) (by decide+kernel));(simp only [gat,put,upd,Nat.reduceEqDiff,Nat.reduceAdd,reduceIte,n24,cond_true,cond_false,QW,QU,Si,Sh,RX,Sr]);apply gP;exact rfl;exact pK;exact rfl);exact fun _=>rfl)|refine sT ?_|refine sS ?_|refine sX ?_|refine sM fun _=> ?_|(refine sC ?_ ?_<;>intro hb<;>try omega)|(refine sCX ?_ ?_<;>intro hb<;>try omega)|fail)
 refine u5 rfl rfl rfl (fun D ht=> ?_) ?_
 ·
  have n14:D 14=false:=ht.not
  have n2:D 2=true:=ht.early (i:=2) (f:=60) (by decide+kernel)
  have n5:D 5=true:=ht.early (i:=5) (f:=60) (by decide+kernel)
  have n8:D 8=true:=ht.early (i:=8) (f:=60) (by decide+kernel)
  have n11:D 11=true:=ht.early (i:=11) (f:=60) (by decide+kernel)
  have n16:D 16=false:=ht.late (j:=16) (f:=60) (by decide+kernel)
  have n18:D 18=false:=ht.late (j:=18) (f:=60) (by decide+kernel)
  have n20:D 20=false:=ht.late (j:=20) (f:=60) (by decide+kernel)
  have n22:D 22=false:=ht.late (j:=22) (f:=60) (by decide+kernel)
  have n24:D 24=false:=ht.late (j:=24) (f:=60) (by decide+kernel)
  (simp only [gat,put,upd,Nat.reduceEqDiff,Nat.reduceAdd,reduceIte,n2,n5,n8,n11,n14,n16,n18,n20,n22,n24,cond_true,cond_false,QW,QU,Si,Sh,RX,Sr])
  (with_reducible apply ay (f:=39));exact rfl;exact rfl;(intro w' hm;exact h5 w' _ hm);rintro _ _ ⟨A',c',rfl,rfl⟩
  refine mZ ⟨rfl,(A',c'),rfl,?_⟩
  (simp only [gat,put,upd,Nat.reduceEqDiff,Nat.reduceAdd,reduceIte,n2,n5,n8,n11,n14,n16,n18,n20,n22,n24,cond_true,cond_false,QW,QU,Si,Sh,RX,Sr])
  exact mS
 repeat' (first|refine sT ?_|refine sS ?_|refine sX ?_|refine sM fun _=> ?_|(refine sC ?_ ?_<;>intro hb<;>try omega)|(refine sCX ?_ ?_<;>intro hb<;>try omega)|fail)
 refine u4 (T:=28) (vs:= [sl (γ 2).1 b.ents.length (γ 2).2]) rfl rfl rfl rfl rfl rfl rfl (fun D ht=> ?_) ?_
 ·
  have n16:D 16=false:=ht.not
  have n2:D 2=true:=ht.early (i:=2) (f:=60) (by decide+kernel)
  have n5:D 5=true:=ht.early (i:=5) (f:=60) (by decide+kernel)
  have n8:D 8=true:=ht.early (i:=8) (f:=60) (by decide+kernel)
  have n11:D 11=true:=ht.early (i:=11) (f:=60) (by decide+kernel)
  have n14:D 14=true:=ht.early (i:=14) (f:=60) (by decide+kernel)
  (simp only [gat,put,upd,Nat.reduceEqDiff,Nat.reduceAdd,reduceIte,n2,n5,n8,n11,n14,n16,cond_true,cond_false,QW,QU,Si,Sh,RX,Sr])
  refine ⟨_,_,.hd,?_,?_⟩
  ·
   exact SZ rfl
  ·
   exact mS
 repeat' (first|refine sT ?_|refine sS ?_|refine sX ?_|refine sM fun _=> ?_|(refine sC ?_ ?_<;>intro hb<;>try omega)|(refine sCX ?_ ?_<;>intro hb<;>try omega)|fail)
 refine u4 (T:=28) (vs:= [sl (γ 5).1 b.rules.length (γ 5).2]) rfl rfl rfl rfl rfl rfl rfl (fun D ht=> ?_) ?_
 ·
  have n18:D 18=false:=ht.not
  have n2:D 2=true:=ht.early (i:=2) (f:=60) (by decide+kernel)
  have n5:D 5=true:=ht.early (i:=5) (f:=60) (by decide+kernel)
  have n8:D 8=true:=ht.early (i:=8) (f:=60) (by decide+kernel)
  have n11:D 11=true:=ht.early (i:=11) (f:=60) (by decide+kernel)
  have n14:D 14=true:=ht.early (i:=14) (f:=60) (by decide+kernel)
  (simp only [gat,put,upd,Nat.reduceEqDiff,Nat.reduceAdd,reduceIte,n2,n5,n8,n11,n14,n18,cond_true,cond_false,QW,QU,Si,Sh,RX,Sr])
  refine ⟨_,_,.hd,?_,?_⟩
  ·
   exact SZ rfl
  ·
   exact mS
 repeat' (first|refine sT ?_|refine sS ?_|refine sX ?_|refine sM fun _=> ?_|(refine sC ?_ ?_<;>intro hb<;>try omega)|(refine sCX ?_ ?_<;>intro hb<;>try omega)|fail)
 refine u4 (T:=28) (vs:= [sl (γ 8).1 b.grants.length (γ 8).2]) rfl rfl rfl rfl rfl rfl rfl (fun D ht=> ?_) ?_
 ·
  have n20:D 20=false:=ht.not
  have n2:D 2=true:=ht.early (i:=2) (f:=60) (by decide+kernel)
  have n5:D 5=true:=ht.early (i:=5) (f:=60) (by decide+kernel)
  have n8:D 8=true:=ht.early (i:=8) (f:=60) (by decide+kernel)
  have n11:D 11=true:=ht.early (i:=11) (f:=60) (by decide+kernel)
  have n14:D 14=true:=ht.early (i:=14) (f:=60) (by decide+kernel)
  (simp only [gat,put,upd,Nat.reduceEqDiff,Nat.reduceAdd,reduceIte,n2,n5,n8,n11,n14,n20,cond_true,cond_false,QW,QU,Si,Sh,RX,Sr])
  refine ⟨_,_,.hd,?_,?_⟩
  ·
   exact SZ rfl
  ·
   exact mS
 repeat' (first|refine sT ?_|refine sS ?_|refine sX ?_|refine sM fun _=> ?_|(refine sC ?_ ?_<;>intro hb<;>try omega)|(refine sCX ?_ ?_<;>intro hb<;>try omega)|fail)
 refine u4 (T:=28) (vs:= [sl (γ 11).1 b.log.length (γ 11).2]) rfl rfl rfl rfl rfl rfl rfl (fun D ht=> ?_) ?_
 ·
  have n22:D 22=false:=ht.not
  have n2:D 2=true:=ht.early (i:=2) (f:=60) (by decide+kernel)
  have n5:D 5=true:=ht.early (i:=5) (f:=60) (by decide+kernel)
  have n8:D 8=true:=ht.early (i:=8) (f:=60) (by decide+kernel)
  have n11:D 11=true:=ht.early (i:=11) (f:=60) (by decide+kernel)
  have n14:D 14=true:=ht.early (i:=14) (f:=60) (by decide+kernel)
  (simp only [gat,put,upd,Nat.reduceEqDiff,Nat.reduceAdd,reduceIte,n2,n5,n8,n11,n14,n22,cond_true,cond_false,QW,QU,Si,Sh,RX,Sr])
  refine ⟨_,_,.hd,?_,?_⟩
  ·
   exact SZ rfl
  ·
   exact mS
 repeat' (first|refine sT ?_|refine sS ?_|refine sX ?_|refine sM fun _=> ?_|(refine sC ?_ ?_<;>intro hb<;>try omega)|(refine sCX ?_ ?_<;>intro hb<;>try omega)|fail)
 refine u4 (T:=28) (vs:= [sl (γ 14).1 b.rels.length (γ 14).2]) rfl rfl rfl rfl rfl rfl rfl (fun D ht=> ?_) ?_
 ·
  have n24:D 24=false:=ht.not
  have n2:D 2=true:=ht.early (i:=2) (f:=60) (by decide+kernel)
  have n5:D 5=true:=ht.early (i:=5) (f:=60) (by decide+kernel)
  have n8:D 8=true:=ht.early (i:=8) (f:=60) (by decide+kernel)
  have n11:D 11=true:=ht.early (i:=11) (f:=60) (by decide+kernel)
  have n14:D 14=true:=ht.early (i:=14) (f:=60) (by decide+kernel)
  (simp only [gat,put,upd,Nat.reduceEqDiff,Nat.reduceAdd,reduceIte,n2,n5,n8,n11,n14,n24,cond_true,cond_false,QW,QU,Si,Sh,RX,Sr])
  refine ⟨_,_,.hd,?_,?_⟩
  ·
   exact SZ rfl
  ·
   exact mS
 repeat' (first|refine sT ?_|refine sS ?_|refine sX ?_|refine sM fun _=> ?_|(refine sC ?_ ?_<;>intro hb<;>try omega)|(refine sCX ?_ ?_<;>intro hb<;>try omega)|fail)
 intro D hD
 have n2:=hD 2 (by decide)
 have n5:=hD 5 (by decide)
 have n8:=hD 8 (by decide)
 have n11:=hD 11 (by decide)
 have n14:=hD 14 (by decide)
 have n16:=hD 16 (by decide)
 have n18:=hD 18 (by decide)
 have n20:=hD 20 (by decide)
 have n22:=hD 22 (by decide)
 have n24:=hD 24 (by decide)
 (simp only [gat,put,upd,Nat.reduceEqDiff,Nat.reduceAdd,reduceIte,n2,n5,n8,n11,n14,n16,n18,n20,n22,n24,cond_true,cond_false,QW,QU,Si,Sh,RX,Sr])
 repeat' (first|refine sT ?_|refine sS ?_|refine sM fun _=> ?_|(refine sC ?_ ?_<;>intro hb<;>try omega)|fail)
 exact vZ (.inl rfl) rfl rfl pK rfl (H' :=bR b ⟨(γ 2).1,(γ 5).1,(γ 8).1,(γ 11).1,(γ 14).1,(γ 2).2,(γ 5).2,(γ 8).2,(γ 11).2,(γ 14).2⟩) (by unfold bR;exact mS) ⟨⟨(γ 2).1,(γ 5).1,(γ 8).1,(γ 11).1,(γ 14).1,(γ 2).2,(γ 5).2,(γ 8).2,(γ 11).2,(γ 14).2⟩,rfl,rfl⟩
end Go.SL

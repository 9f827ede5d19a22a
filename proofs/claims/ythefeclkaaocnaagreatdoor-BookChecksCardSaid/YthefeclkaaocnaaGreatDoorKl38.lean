/-
  Lemmas and walks, put together: Jj Jn Jm Oe Og.
-/
import Derived.Test.YthefeclkaaocnaaGreatDoorKl37
set_option linter.unusedSimpArgs false
set_option linter.unusedVariables false
set_option maxRecDepth 20000
namespace Go.SL
open Go Go.Proofs
attribute [local irreducible] W WL WQ WG WA WX WLI WR WT WC WE VOp RW thn blk bS scp bq bF cj aS FnIn FnP ceP
theorem zB (L M:List Ev) (lv mv:Value) (w:World) (hl:Reads w lv L.length (L.flatMap aQ)) (hm:Reads w mv M.length (M.flatMap aQ)):
  ay Tryz.prog 15 [lv,mv] w (.bool (decide (L=M))):=by
 obtain ⟨Al,cl,rfl,hl1,hl2,hl3⟩:=hl
 obtain ⟨Am,cm,rfl,hm1,hm2,hm3⟩:=hm
 refine aq Tryz.func15 rfl Tryz.ntmps15 rfl ?_
 by_cases hlen:L.length=M.length
 ·
  repeat' (first|refine sT ?_|refine sS ?_|refine sM fun _=> ?_|(refine sC ?_ ?_<;>intro hb<;>try omega)|fail)
  refine eM (fun i:Nat=> [(0,.slice Al L.length cl),(1,.slice Am M.length cm),(5,.int .i64 (i:Int))]) (fun _=> []) (fun i=>i≤L.length∧decide (L=M)=decide (L.drop i=M.drop i)) (fun i=>L.length - i) 0 ⟨by omega,rfl⟩ ?_ ?_ ?_
  ·
   exact sB
  ·
   exact mS
  ·
   rintro i ⟨hi,hrec⟩
   by_cases hlt:i<L.length
   ·
    have hlt2:i<M.length:=by omega
    obtain ⟨gl,ol,rfl,hrl⟩:=hl3 (by omega)
    obtain ⟨gm,om,rfl,hrm⟩:=hm3 (by omega)
    have he1:=hrl.elem cX i hlt
    have he2:=hrm.elem cX i hlt2
    rw [gR hlt hlt2,← y7] at hrec
    repeat' (first|(apply aK;exact rfl;apply aj;exact rfl;exact rfl;(first|exact hlt|exact hlt2))|(apply aK;exact rfl;apply aA;exact rfl;(first|exact he1|exact he2);exact rfl)|(apply aK;exact rfl;apply Cn;exact rfl;exact rfl)|(apply ak;exact rfl;apply dr;exact rfl;exact rfl;(simp only [maxLen] at*;omega))|refine sT ?_|refine sS ?_|refine sQ ?_|refine sD ?_|refine sM fun _=> ?_|(refine sC ?_ ?_<;>intro hb<;>try omega)|(refine sCQ ?_ ?_<;>intro hb<;>try omega)|fail)
    all_goals first
     |(exfalso;omega)
     |((refine rT1 ?_);rw [hrec];simp_all;done)
     |(refine ⟨i+1,⟨by omega,?_⟩,by omega,by exact sB,by exact mS⟩;rw [hrec];simp_all;done)
     |trace_state
   ·
    have e:i=L.length:=by omega
    subst e
    repeat' (first|refine sT ?_|refine sS ?_|refine sM fun _=> ?_|(refine sC ?_ ?_<;>intro hb<;>try omega)|fail)
    (refine rT1 ?_)
    rw [hrec,LU,hlen,LU]
    rfl
 ·
  repeat' (first|refine sT ?_|refine sS ?_|refine sM fun _=> ?_|(refine sC ?_ ?_<;>intro hb<;>try omega)|fail)
  (refine rT1 ?_)
  rw [decide_eq_false]
  intro e
  exact hlen (congrArg List.length e)
theorem zA (L M:List Gn) (lv mv:Value) (w:World) (hl:Reads w lv L.length (L.flatMap bg)) (hm:Reads w mv M.length (M.flatMap bg)):
  ay Tryz.prog 17 [lv,mv] w (.bool (decide (L=M))):=by
 obtain ⟨Al,cl,rfl,hl1,hl2,hl3⟩:=hl
 obtain ⟨Am,cm,rfl,hm1,hm2,hm3⟩:=hm
 refine aq Tryz.func17 rfl Tryz.ntmps17 rfl ?_
 by_cases hlen:L.length=M.length
 ·
  repeat' (first|refine sT ?_|refine sS ?_|refine sM fun _=> ?_|(refine sC ?_ ?_<;>intro hb<;>try omega)|fail)
  refine eM (fun i:Nat=> [(0,.slice Al L.length cl),(1,.slice Am M.length cm),(5,.int .i64 (i:Int))]) (fun _=> []) (fun i=>i≤L.length∧decide (L=M)=decide (L.drop i=M.drop i)) (fun i=>L.length - i) 0 ⟨by omega,rfl⟩ ?_ ?_ ?_
  ·
   exact sB
  ·
   exact mS
  ·
   rintro i ⟨hi,hrec⟩
   by_cases hlt:i<L.length
   ·
    have hlt2:i<M.length:=by omega
    obtain ⟨gl,ol,rfl,hrl⟩:=hl3 (by omega)
    obtain ⟨gm,om,rfl,hrm⟩:=hm3 (by omega)
    have he1:=hrl.elem bR i hlt
    have he2:=hrm.elem bR i hlt2
    rw [gR hlt hlt2,← y5] at hrec
    repeat' (first|(apply aK;exact rfl;apply aj;exact rfl;exact rfl;(first|exact hlt|exact hlt2))|(apply aK;exact rfl;apply aA;exact rfl;(first|exact he1|exact he2);exact rfl)|(apply aK;exact rfl;apply Cm;exact rfl;exact rfl)|(apply ak;exact rfl;apply dr;exact rfl;exact rfl;(simp only [maxLen] at*;omega))|refine sT ?_|refine sS ?_|refine sQ ?_|refine sD ?_|refine sM fun _=> ?_|(refine sC ?_ ?_<;>intro hb<;>try omega)|(refine sCQ ?_ ?_<;>intro hb<;>try omega)|fail)
    all_goals first
     |(exfalso;omega)
     |((refine rT1 ?_);rw [hrec];simp_all;done)
     |(refine ⟨i+1,⟨by omega,?_⟩,by omega,by exact sB,by exact mS⟩;rw [hrec];simp_all;done)
     |trace_state
   ·
    have e:i=L.length:=by omega
    subst e
    repeat' (first|refine sT ?_|refine sS ?_|refine sM fun _=> ?_|(refine sC ?_ ?_<;>intro hb<;>try omega)|fail)
    (refine rT1 ?_)
    rw [hrec,LU,hlen,LU]
    rfl
 ·
  repeat' (first|refine sT ?_|refine sS ?_|refine sM fun _=> ?_|(refine sC ?_ ?_<;>intro hb<;>try omega)|fail)
  (refine rT1 ?_)
  rw [decide_eq_false]
  intro e
  exact hlen (congrArg List.length e)
theorem zz (L M:List Rl) (lv mv:Value) (w:World) (hl:Reads w lv L.length (L.flatMap bh)) (hm:Reads w mv M.length (M.flatMap bh)):
  ay Tryz.prog 23 [lv,mv] w (.bool (decide (L=M))):=by
 obtain ⟨Al,cl,rfl,hl1,hl2,hl3⟩:=hl
 obtain ⟨Am,cm,rfl,hm1,hm2,hm3⟩:=hm
 refine aq Tryz.func23 rfl Tryz.ntmps23 rfl ?_
 by_cases hlen:L.length=M.length
 ·
  repeat' (first|refine sT ?_|refine sS ?_|refine sM fun _=> ?_|(refine sC ?_ ?_<;>intro hb<;>try omega)|fail)
  refine eM (fun i:Nat=> [(0,.slice Al L.length cl),(1,.slice Am M.length cm),(5,.int .i64 (i:Int))]) (fun _=> []) (fun i=>i≤L.length∧decide (L=M)=decide (L.drop i=M.drop i)) (fun i=>L.length - i) 0 ⟨by omega,rfl⟩ ?_ ?_ ?_
  ·
   exact sB
  ·
   exact mS
  ·
   rintro i ⟨hi,hrec⟩
   by_cases hlt:i<L.length
   ·
    have hlt2:i<M.length:=by omega
    obtain ⟨gl,ol,rfl,hrl⟩:=hl3 (by omega)
    obtain ⟨gm,om,rfl,hrm⟩:=hm3 (by omega)
    have he1:=hrl.elem bX i hlt
    have he2:=hrm.elem bX i hlt2
    rw [gR hlt hlt2,← yY] at hrec
    repeat' (first|(apply aK;exact rfl;apply aj;exact rfl;exact rfl;(first|exact hlt|exact hlt2))|(apply aK;exact rfl;apply aA;exact rfl;(first|exact he1|exact he2);exact rfl)|(apply aK;exact rfl;apply Ck;exact rfl;exact rfl)|(apply ak;exact rfl;apply dr;exact rfl;exact rfl;(simp only [maxLen] at*;omega))|refine sT ?_|refine sS ?_|refine sQ ?_|refine sD ?_|refine sM fun _=> ?_|(refine sC ?_ ?_<;>intro hb<;>try omega)|(refine sCQ ?_ ?_<;>intro hb<;>try omega)|fail)
    all_goals first
     |(exfalso;omega)
     |((refine rT1 ?_);rw [hrec];simp_all;done)
     |(refine ⟨i+1,⟨by omega,?_⟩,by omega,by exact sB,by exact mS⟩;rw [hrec];simp_all;done)
     |trace_state
   ·
    have e:i=L.length:=by omega
    subst e
    repeat' (first|refine sT ?_|refine sS ?_|refine sM fun _=> ?_|(refine sC ?_ ?_<;>intro hb<;>try omega)|fail)
    (refine rT1 ?_)
    rw [hrec,LU,hlen,LU]
    rfl
 ·
  repeat' (first|refine sT ?_|refine sS ?_|refine sM fun _=> ?_|(refine sC ?_ ?_<;>intro hb<;>try omega)|fail)
  (refine rT1 ?_)
  rw [decide_eq_false]
  intro e
  exact hlen (congrArg List.length e)
theorem zy (L M:List Rv) (lv mv:Value) (w:World) (hl:Reads w lv L.length (L.flatMap bu)) (hm:Reads w mv M.length (M.flatMap bu)):
  ay Tryz.prog 29 [lv,mv] w (.bool (decide (L=M))):=by
 obtain ⟨Al,cl,rfl,hl1,hl2,hl3⟩:=hl
 obtain ⟨Am,cm,rfl,hm1,hm2,hm3⟩:=hm
 refine aq Tryz.func29 rfl Tryz.ntmps29 rfl ?_
 by_cases hlen:L.length=M.length
 ·
  repeat' (first|refine sT ?_|refine sS ?_|refine sM fun _=> ?_|(refine sC ?_ ?_<;>intro hb<;>try omega)|fail)
  refine eM (fun i:Nat=> [(0,.slice Al L.length cl),(1,.slice Am M.length cm),(5,.int .i64 (i:Int))]) (fun _=> []) (fun i=>i≤L.length∧decide (L=M)=decide (L.drop i=M.drop i)) (fun i=>L.length - i) 0 ⟨by omega,rfl⟩ ?_ ?_ ?_
  ·
   exact sB
  ·
   exact mS
  ·
   rintro i ⟨hi,hrec⟩
   by_cases hlt:i<L.length
   ·
    have hlt2:i<M.length:=by omega
    obtain ⟨gl,ol,rfl,hrl⟩:=hl3 (by omega)
    obtain ⟨gm,om,rfl,hrm⟩:=hm3 (by omega)
    have he1:=hrl.elem cW i hlt
    have he2:=hrm.elem cW i hlt2
    rw [gR hlt hlt2,← yV] at hrec
    repeat' (first|(apply aK;exact rfl;apply aj;exact rfl;exact rfl;(first|exact hlt|exact hlt2))|(apply aK;exact rfl;apply aA;exact rfl;(first|exact he1|exact he2);exact rfl)|(apply aK;exact rfl;apply Cj;exact rfl;exact rfl)|(apply ak;exact rfl;apply dr;exact rfl;exact rfl;(simp only [maxLen] at*;omega))|refine sT ?_|refine sS ?_|refine sQ ?_|refine sD ?_|refine sM fun _=> ?_|(refine sC ?_ ?_<;>intro hb<;>try omega)|(refine sCQ ?_ ?_<;>intro hb<;>try omega)|fail)
    all_goals first
     |(exfalso;omega)
     |((refine rT1 ?_);rw [hrec];simp_all;done)
     |(refine ⟨i+1,⟨by omega,?_⟩,by omega,by exact sB,by exact mS⟩;rw [hrec];simp_all;done)
     |trace_state
   ·
    have e:i=L.length:=by omega
    subst e
    repeat' (first|refine sT ?_|refine sS ?_|refine sM fun _=> ?_|(refine sC ?_ ?_<;>intro hb<;>try omega)|fail)
    (refine rT1 ?_)
    rw [hrec,LU,hlen,LU]
    rfl
 ·
  repeat' (first|refine sT ?_|refine sS ?_|refine sM fun _=> ?_|(refine sC ?_ ?_<;>intro hb<;>try omega)|fail)
  (refine rT1 ?_)
  rw [decide_eq_false]
  intro e
  exact hlen (congrArg List.length e)
set_option maxHeartbeats 8000000 in
theorem mz (a b:Bk) (x y:Bv) (w:World) (h:BRd w a x) (k:BRd w b y):ay Tryz.prog 26 [.agg (aP a x).toArray,.agg (aP b y).toArray] w (.bool (wC a b)):=by
 refine aq Tryz.func26 rfl Tryz.ntmps26 rfl ?_
 have h1:=fun (w' :World) (H:List Blk) (hm:Mem w w' H)=>qa a.ents b.ents _ _ w' (h.e.of_w0 hm) (k.e.of_w0 hm)
 have h2:=fun (w' :World) (H:List Blk) (hm:Mem w w' H)=>zz a.rules b.rules _ _ w' (h.r.of_w0 hm) (k.r.of_w0 hm)
 have h3:=fun (w' :World) (H:List Blk) (hm:Mem w w' H)=>zA a.grants b.grants _ _ w' (h.g.of_w0 hm) (k.g.of_w0 hm)
 have h4:=fun (w' :World) (H:List Blk) (hm:Mem w w' H)=>zB a.log b.log _ _ w' (h.l.of_w0 hm) (k.l.of_w0 hm)
 have h5:=fun (w' :World) (H:List Blk) (hm:Mem w w' H)=>zy a.rels b.rels _ _ w' (h.s.of_w0 hm) (k.s.of_w0 hm)
 unfold wC
 generalize decide (a.ents=b.ents)=c1 at h1 ⊢
 generalize decide (a.rules=b.rules)=c2 at h2 ⊢
 generalize decide (a.grants=b.grants)=c3 at h3 ⊢
 generalize decide (a.log=b.log)=c4 at h4 ⊢
 generalize decide (a.rels=b.rels)=c5 at h5 ⊢
 repeat' (first|(apply aa (f:=16);exact rfl;exact rfl;(intro w' hm;exact h1 w' _ hm))|(apply aa (f:=23);exact rfl;exact rfl;(intro w' hm;exact h2 w' _ hm))|(apply aa (f:=17);exact rfl;exact rfl;(intro w' hm;exact h3 w' _ hm))|(apply aa (f:=15);exact rfl;exact rfl;(intro w' hm;exact h4 w' _ hm))|(apply aa (f:=29);exact rfl;exact rfl;(intro w' hm;exact h5 w' _ hm))|refine sT ?_|refine sS ?_|refine sM fun _=> ?_|(refine sC ?_ ?_<;>intro hb<;>try omega)|fail)
 all_goals first
  |(exfalso;omega)
  |((refine rT1 ?_);simp_all;done)
  |trace_state
theorem wN (L:List Rl) (tv:Value) (w:World) (ht:Reads w tv L.length (L.flatMap bh)) (hlen:L.length≤1000000):
  aS Tryz.prog 47 [tv] w fun v H=> ∃ A cap,v=sl A L.length cap∧H= [.own A 38 7 L.length cap (L.flatMap bh)]:=by
 refine aq Tryz.func47 rfl Tryz.ntmps47 rfl ?_
 have hl:(L.flatMap bh).length=L.length*7:=aD bX L
 refine aJ 38 7 ?_
 repeat' (first|(apply cy (n' :=0) (c:=0) (A:=none) (m:=L.length);(iterate 3 exact rfl);exact pK;(intro w hm;exact ht.of_w0 hm);exact hl;exact sn L;omega;(simp only [maxLen];omega);intro A' cap' hA)|refine sT ?_|refine sM fun _=> ?_|(refine sC ?_ ?_<;>intro hb<;>try omega)|fail)
 exact cQ (.inl rfl) Tryz.results47 rfl (H' := [.own A' 38 7 (0+L.length) cap' ([]++L.flatMap bh)]) mS ⟨A',cap',by rw [LZ],by rw [LZ];rfl⟩
theorem tS (L:List Ev) (tv:Value) (w:World) (ht:Reads w tv L.length (L.flatMap aQ)) (hlen:L.length≤1000000):
  aS Tryz.prog 62 [tv] w fun v H=> ∃ A cap,v=sl A L.length cap∧H= [.own A 48 9 L.length cap (L.flatMap aQ)]:=by
 refine aq Tryz.func62 rfl Tryz.ntmps62 rfl ?_
 have hl:(L.flatMap aQ).length=L.length*9:=aD cX L
 refine aJ 48 9 ?_
 repeat' (first|(apply cy (n' :=0) (c:=0) (A:=none) (m:=L.length);(iterate 3 exact rfl);exact pK;(intro w hm;exact ht.of_w0 hm);exact hl;exact sr L;omega;(simp only [maxLen];omega);intro A' cap' hA)|refine sT ?_|refine sM fun _=> ?_|(refine sC ?_ ?_<;>intro hb<;>try omega)|fail)
 exact cQ (.inl rfl) Tryz.results62 rfl (H' := [.own A' 48 9 (0+L.length) cap' ([]++L.flatMap aQ)]) mS ⟨A',cap',by rw [LZ],by rw [LZ];rfl⟩
theorem qb (L:List Rv) (tv:Value) (w:World) (ht:Reads w tv L.length (L.flatMap bu)) (hlen:L.length≤1000000):
  aS Tryz.prog 63 [tv] w fun v H=> ∃ A cap,v=sl A L.length cap∧H= [.own A 70 11 L.length cap (L.flatMap bu)]:=by
 refine aq Tryz.func63 rfl Tryz.ntmps63 rfl ?_
 have hl:(L.flatMap bu).length=L.length*11:=aD cW L
 refine aJ 70 11 ?_
 repeat' (first|(apply cy (n' :=0) (c:=0) (A:=none) (m:=L.length);(iterate 3 exact rfl);exact pK;(intro w hm;exact ht.of_w0 hm);exact hl;exact sm L;omega;(simp only [maxLen];omega);intro A' cap' hA)|refine sT ?_|refine sM fun _=> ?_|(refine sC ?_ ?_<;>intro hb<;>try omega)|fail)
 exact cQ (.inl rfl) Tryz.results63 rfl (H' := [.own A' 70 11 (0+L.length) cap' ([]++L.flatMap bu)]) mS ⟨A',cap',by rw [LZ],by rw [LZ];rfl⟩
set_option maxHeartbeats 8000000 in
theorem zD (b:Bk) (x:Bv) (w:World) (h:BRd w b x) (hs:Small b):aS Tryz.prog 18 [.agg (aP b x).toArray] w fun v H=> ∃ a:Bo,v= .agg (aP b a.v).toArray∧H=aM b a:=by
 refine aq Tryz.func18 rfl Tryz.ntmps18 rfl ?_
 have h1:=fun (w' :World) (H:List Blk) (hm:Mem w w' H)=>sV b.ents _ w' (h.e.of_w0 hm) hs.e
 have h2:=fun (w' :World) (H:List Blk) (hm:Mem w w' H)=>wN b.rules _ w' (h.r.of_w0 hm) hs.r
 have h3:=fun (w' :World) (H:List Blk) (hm:Mem w w' H)=>tR b.grants _ w' (h.g.of_w0 hm) hs.g
 have h4:=fun (w' :World) (H:List Blk) (hm:Mem w w' H)=>tS b.log _ w' (h.l.of_w0 hm) hs.l
 have h5:=fun (w' :World) (H:List Blk) (hm:Mem w w' H)=>qb b.rels _ w' (h.s.of_w0 hm) hs.s
 simp only [aP]
 repeat' (first|refine sT ?_|refine sS ?_|refine sM fun _=> ?_|(refine sC ?_ ?_<;>intro hb<;>try omega)|fail)
 rename_i g1 g2
 refine aJ 0 0 ?_
 refine aJ 0 0 ?_
 refine aJ 0 0 ?_
 refine aJ 0 0 ?_
 refine aJ 0 0 ?_
 refine E5 (id:=1) (fun|2=>some fun g=>sl g.1 b.ents.length g.2|5=>some fun g=>sl g.1 b.rules.length g.2|8=>some fun g=>sl g.1 b.grants.length g.2|11=>some fun g=>sl g.1 b.log.length g.2|14=>some fun g=>sl g.1 b.rels.length g.2|_=>none)
  (fun (D:fE) (q:Nat→Gh)=> .box g1 28 [.int .i64 b.users,bif D 16 then sl (q 2).1 b.ents.length (q 2).2 else .slice x.ae b.ents.length x.ce,bif D 18 then sl (q 5).1 b.rules.length (q 5).2 else .slice x.ar b.rules.length x.cr,bif D 20 then sl (q 8).1 b.grants.length (q 8).2 else .slice x.ag b.grants.length x.cg,bif D 22 then sl (q 11).1 b.log.length (q 11).2 else .slice x.al b.log.length x.cl,bif D 24 then sl (q 14).1 b.rels.length (q 14).2 else .slice x.as_ b.rels.length x.cs,.int .i64 b.step]:: .box g2 28 [.int .i64 0,.slice none 0 0,.slice none 0 0,.slice none 0 0,.slice none 0 0,.slice none 0 0,.int .i64 0]::(bif D 2 then Blk.own (q 2).1 53 3 b.ents.length (q 2).2 (b.ents.flatMap aH) else FX)::(bif D 5 then Blk.own (q 5).1 38 7 b.rules.length (q 5).2 (b.rules.flatMap bh) else FX)::(bif D 8 then Blk.own (q 8).1 56 8 b.grants.length (q 8).2 (b.grants.flatMap bg) else FX)::(bif D 11 then Blk.own (q 11).1 48 9 b.log.length (q 11).2 (b.log.flatMap aQ) else FX)::(bif D 14 then Blk.own (q 14).1 70 11 b.rels.length (q 14).2 (b.rels.flatMap bu) else FX):: []) ?_ ?_ ?_ ?_
 ·
  kernel_rfl
 ·
  kernel_rfl
 ·
  intro γ
  exact mS
 intro γ
 repeat' (first|(apply wQ (d:=4);(iterate 3 exact rfl);(intro D ht;(have n16:D 16=false:=ht.late (j:=16) (f:=60) (by decide+kernel));(simp only [gat,put,upd,Nat.reduceEqDiff,Nat.reduceAdd,reduceIte,n16,cond_true,cond_false,LG,LD,Ms,Mq,Mi,Mu]);apply di;exact rfl;exact pK;exact rfl);exact fun _=>rfl)|refine sT ?_|refine sS ?_|refine sX ?_|refine sM fun _=> ?_|(refine sC ?_ ?_<;>intro hb<;>try omega)|(refine sCX ?_ ?_<;>intro hb<;>try omega)|fail)
 refine qx rfl rfl rfl (fun D ht=> ?_) ?_
 ·
  have n2:D 2=false:=ht.not
  have n5:D 5=false:=ht.late (j:=5) (f:=60) (by decide+kernel)
  have n8:D 8=false:=ht.late (j:=8) (f:=60) (by decide+kernel)
  have n11:D 11=false:=ht.late (j:=11) (f:=60) (by decide+kernel)
  have n14:D 14=false:=ht.late (j:=14) (f:=60) (by decide+kernel)
  have n16:D 16=false:=ht.late (j:=16) (f:=60) (by decide+kernel)
  have n18:D 18=false:=ht.late (j:=18) (f:=60) (by decide+kernel)
  have n20:D 20=false:=ht.late (j:=20) (f:=60) (by decide+kernel)
  have n22:D 22=false:=ht.late (j:=22) (f:=60) (by decide+kernel)
  have n24:D 24=false:=ht.late (j:=24) (f:=60) (by decide+kernel)
  (simp only [gat,put,upd,Nat.reduceEqDiff,Nat.reduceAdd,reduceIte,n2,n5,n8,n11,n14,n16,n18,n20,n22,n24,cond_true,cond_false,LG,LD,Ms,Mq,Mi,Mu])
  (with_reducible apply aG (f:=22));exact rfl;exact rfl;(intro w' hm;exact h1 w' _ hm);rintro _ _ ⟨A',c',rfl,rfl⟩
  refine mB ⟨rfl,(A',c'),rfl,?_⟩
  (simp only [gat,put,upd,Nat.reduceEqDiff,Nat.reduceAdd,reduceIte,n2,n5,n8,n11,n14,n16,n18,n20,n22,n24,cond_true,cond_false,LG,LD,Ms,Mq,Mi,Mu])
  exact mS
 repeat' (first|(apply wQ (d:=7);(iterate 3 exact rfl);(intro D ht;(have n18:D 18=false:=ht.late (j:=18) (f:=60) (by decide+kernel));(simp only [gat,put,upd,Nat.reduceEqDiff,Nat.reduceAdd,reduceIte,n18,cond_true,cond_false,LG,LD,Ms,Mq,Mi,Mu]);apply di;exact rfl;exact pK;exact rfl);exact fun _=>rfl)|refine sT ?_|refine sS ?_|refine sX ?_|refine sM fun _=> ?_|(refine sC ?_ ?_<;>intro hb<;>try omega)|(refine sCX ?_ ?_<;>intro hb<;>try omega)|fail)
 refine qx rfl rfl rfl (fun D ht=> ?_) ?_
 ·
  have n5:D 5=false:=ht.not
  have n2:D 2=true:=ht.early (i:=2) (f:=60) (by decide+kernel)
  have n8:D 8=false:=ht.late (j:=8) (f:=60) (by decide+kernel)
  have n11:D 11=false:=ht.late (j:=11) (f:=60) (by decide+kernel)
  have n14:D 14=false:=ht.late (j:=14) (f:=60) (by decide+kernel)
  have n16:D 16=false:=ht.late (j:=16) (f:=60) (by decide+kernel)
  have n18:D 18=false:=ht.late (j:=18) (f:=60) (by decide+kernel)
  have n20:D 20=false:=ht.late (j:=20) (f:=60) (by decide+kernel)
  have n22:D 22=false:=ht.late (j:=22) (f:=60) (by decide+kernel)
  have n24:D 24=false:=ht.late (j:=24) (f:=60) (by decide+kernel)
  (simp only [gat,put,upd,Nat.reduceEqDiff,Nat.reduceAdd,reduceIte,n2,n5,n8,n11,n14,n16,n18,n20,n22,n24,cond_true,cond_false,LG,LD,Ms,Mq,Mi,Mu])
  (with_reducible apply aG (f:=47));exact rfl;exact rfl;(intro w' hm;exact h2 w' _ hm);rintro _ _ ⟨A',c',rfl,rfl⟩
  refine mB ⟨rfl,(A',c'),rfl,?_⟩
  (simp only [gat,put,upd,Nat.reduceEqDiff,Nat.reduceAdd,reduceIte,n2,n5,n8,n11,n14,n16,n18,n20,n22,n24,cond_true,cond_false,LG,LD,Ms,Mq,Mi,Mu])
  exact mS
 repeat' (first|(apply wQ (d:=10);(iterate 3 exact rfl);(intro D ht;(have n20:D 20=false:=ht.late (j:=20) (f:=60) (by decide+kernel));(simp only [gat,put,upd,Nat.reduceEqDiff,Nat.reduceAdd,reduceIte,n20,cond_true,cond_false,LG,LD,Ms,Mq,Mi,Mu]);apply di;exact rfl;exact pK;exact rfl);exact fun _=>rfl)|refine sT ?_|refine sS ?_|refine sX ?_|refine sM fun _=> ?_|(refine sC ?_ ?_<;>intro hb<;>try omega)|(refine sCX ?_ ?_<;>intro hb<;>try omega)|fail)
 refine qx rfl rfl rfl (fun D ht=> ?_) ?_
 ·
  have n8:D 8=false:=ht.not
  have n2:D 2=true:=ht.early (i:=2) (f:=60) (by decide+kernel)
  have n5:D 5=true:=ht.early (i:=5) (f:=60) (by decide+kernel)
  have n11:D 11=false:=ht.late (j:=11) (f:=60) (by decide+kernel)
  have n14:D 14=false:=ht.late (j:=14) (f:=60) (by decide+kernel)
  have n16:D 16=false:=ht.late (j:=16) (f:=60) (by decide+kernel)
  have n18:D 18=false:=ht.late (j:=18) (f:=60) (by decide+kernel)
  have n20:D 20=false:=ht.late (j:=20) (f:=60) (by decide+kernel)
  have n22:D 22=false:=ht.late (j:=22) (f:=60) (by decide+kernel)
  have n24:D 24=false:=ht.late (j:=24) (f:=60) (by decide+kernel)
  (simp only [gat,put,upd,Nat.reduceEqDiff,Nat.reduceAdd,reduceIte,n2,n5,n8,n11,n14,n16,n18,n20,n22,n24,cond_true,cond_false,LG,LD,Ms,Mq,Mi,Mu])
  (with_reducible apply aG (f:=46));exact rfl;exact rfl;(intro w' hm;exact h3 w' _ hm);rintro _ _ ⟨A',c',rfl,rfl⟩
  refine mB ⟨rfl,(A',c'),rfl,?_⟩
  (simp only [gat,put,upd,Nat.reduceEqDiff,Nat.reduceAdd,reduceIte,n2,n5,n8,n11,n14,n16,n18,n20,n22,n24,cond_true,cond_false,LG,LD,Ms,Mq,Mi,Mu])
  exact mS
 repeat' (first|(apply wQ (d:=13);(iterate 3 exact rfl);(intro D ht;(have n22:D 22=false:=ht.late (j:=22) (f:=60) (by decide+kernel));(simp only [gat,put,upd,Nat.reduceEqDiff,Nat.reduceAdd,reduceIte,n22,cond_true,cond_false,LG,LD,Ms,Mq,Mi,Mu]);apply di;exact rfl;exact pK;exact rfl);exact fun _=>rfl)|refine sT ?_|refine sS ?_|refine sX ?_|refine sM fun _=> ?_|(refine sC ?_ ?_<;>intro hb<;>try omega)|(refine sCX ?_ ?_<;>intro hb<;>try omega)|fail)
 refine qx rfl rfl rfl (fun D ht=> ?_) ?_
 ·
  have n11:D 11=false:=ht.not
  have n2:D 2=true:=ht.early (i:=2) (f:=60) (by decide+kernel)
  have n5:D 5=true:=ht.early (i:=5) (f:=60) (by decide+kernel)
  have n8:D 8=true:=ht.early (i:=8) (f:=60) (by decide+kernel)
  have n14:D 14=false:=ht.late (j:=14) (f:=60) (by decide+kernel)
  have n16:D 16=false:=ht.late (j:=16) (f:=60) (by decide+kernel)
  have n18:D 18=false:=ht.late (j:=18) (f:=60) (by decide+kernel)
  have n20:D 20=false:=ht.late (j:=20) (f:=60) (by decide+kernel)
  have n22:D 22=false:=ht.late (j:=22) (f:=60) (by decide+kernel)
  have n24:D 24=false:=ht.late (j:=24) (f:=60) (by decide+kernel)
  (simp only [gat,put,upd,Nat.reduceEqDiff,Nat.reduceAdd,reduceIte,n2,n5,n8,n11,n14,n16,n18,n20,n22,n24,cond_true,cond_false,LG,LD,Ms,Mq,Mi,Mu])
  (with_reducible apply aG (f:=62));exact rfl;exact rfl;(intro w' hm;exact h4 w' _ hm);rintro _ _ ⟨A',c',rfl,rfl⟩
  refine mB ⟨rfl,(A',c'),rfl,?_⟩
  (simp only [gat,put,upd,Nat.reduceEqDiff,Nat.reduceAdd,reduceIte,n2,n5,n8,n11,n14,n16,n18,n20,n22,n24,cond_true,cond_false,LG,LD,Ms,Mq,Mi,Mu])
  exact mS
 repeat' (first|(apply wQ (d:=16);(iterate 3 exact rfl);(intro D ht;(have n24:D 24=false:=ht.late (j:=24) (f:=60) (by decide+kernel));(simp only [gat,put,upd,Nat.reduceEqDiff,Nat.reduceAdd,reduceIte,n24,cond_true,cond_false,LG,LD,Ms,Mq,Mi,Mu]);apply di;exact rfl;exact pK;exact rfl);exact fun _=>rfl)|refine sT ?_|refine sS ?_|refine sX ?_|refine sM fun _=> ?_|(refine sC ?_ ?_<;>intro hb<;>try omega)|(refine sCX ?_ ?_<;>intro hb<;>try omega)|fail)
 refine qx rfl rfl rfl (fun D ht=> ?_) ?_
 ·
  have n14:D 14=false:=ht.not
  have n2:D 2=true:=ht.early (i:=2) (f:=60) (by decide+kernel)
  have n5:D 5=true:=ht.early (i:=5) (f:=60) (by decide+kernel)
  have n8:D 8=true:=ht.early (i:=8) (f:=60) (by decide+kernel)
  have n11:D 11=true:=ht.early (i:=11) (f:=60) (by decide+kernel)
  have n16:D 16=false:=ht.late (j:=16) (f:=60) (by decide+kernel)
  have n18:D 18=false:=ht.late (j:=18) (f:=60) (by decide+kernel)
  have n20:D 20=false:=ht.late (j:=20) (f:=60) (by decide+kernel)
  have n22:D 22=false:=ht.late (j:=22) (f:=60) (by decide+kernel)
  have n24:D 24=false:=ht.late (j:=24) (f:=60) (by decide+kernel)
  (simp only [gat,put,upd,Nat.reduceEqDiff,Nat.reduceAdd,reduceIte,n2,n5,n8,n11,n14,n16,n18,n20,n22,n24,cond_true,cond_false,LG,LD,Ms,Mq,Mi,Mu])
  (with_reducible apply aG (f:=63));exact rfl;exact rfl;(intro w' hm;exact h5 w' _ hm);rintro _ _ ⟨A',c',rfl,rfl⟩
  refine mB ⟨rfl,(A',c'),rfl,?_⟩
  (simp only [gat,put,upd,Nat.reduceEqDiff,Nat.reduceAdd,reduceIte,n2,n5,n8,n11,n14,n16,n18,n20,n22,n24,cond_true,cond_false,LG,LD,Ms,Mq,Mi,Mu])
  exact mS
 repeat' (first|refine sT ?_|refine sS ?_|refine sX ?_|refine sM fun _=> ?_|(refine sC ?_ ?_<;>intro hb<;>try omega)|(refine sCX ?_ ?_<;>intro hb<;>try omega)|fail)
 refine qw (T:=28) (vs:= [sl (γ 2).1 b.ents.length (γ 2).2]) rfl rfl rfl rfl rfl rfl rfl (fun D ht=> ?_) ?_
 ·
  have n16:D 16=false:=ht.not
  have n2:D 2=true:=ht.early (i:=2) (f:=60) (by decide+kernel)
  have n5:D 5=true:=ht.early (i:=5) (f:=60) (by decide+kernel)
  have n8:D 8=true:=ht.early (i:=8) (f:=60) (by decide+kernel)
  have n11:D 11=true:=ht.early (i:=11) (f:=60) (by decide+kernel)
  have n14:D 14=true:=ht.early (i:=14) (f:=60) (by decide+kernel)
  (simp only [gat,put,upd,Nat.reduceEqDiff,Nat.reduceAdd,reduceIte,n2,n5,n8,n11,n14,n16,cond_true,cond_false,LG,LD,Ms,Mq,Mi,Mu])
  refine ⟨_,_,.hd,?_,?_⟩
  ·
   exact MW rfl
  ·
   exact mS
 repeat' (first|refine sT ?_|refine sS ?_|refine sX ?_|refine sM fun _=> ?_|(refine sC ?_ ?_<;>intro hb<;>try omega)|(refine sCX ?_ ?_<;>intro hb<;>try omega)|fail)
 refine qw (T:=28) (vs:= [sl (γ 5).1 b.rules.length (γ 5).2]) rfl rfl rfl rfl rfl rfl rfl (fun D ht=> ?_) ?_
 ·
  have n18:D 18=false:=ht.not
  have n2:D 2=true:=ht.early (i:=2) (f:=60) (by decide+kernel)
  have n5:D 5=true:=ht.early (i:=5) (f:=60) (by decide+kernel)
  have n8:D 8=true:=ht.early (i:=8) (f:=60) (by decide+kernel)
  have n11:D 11=true:=ht.early (i:=11) (f:=60) (by decide+kernel)
  have n14:D 14=true:=ht.early (i:=14) (f:=60) (by decide+kernel)
  (simp only [gat,put,upd,Nat.reduceEqDiff,Nat.reduceAdd,reduceIte,n2,n5,n8,n11,n14,n18,cond_true,cond_false,LG,LD,Ms,Mq,Mi,Mu])
  refine ⟨_,_,.hd,?_,?_⟩
  ·
   exact MW rfl
  ·
   exact mS
 repeat' (first|refine sT ?_|refine sS ?_|refine sX ?_|refine sM fun _=> ?_|(refine sC ?_ ?_<;>intro hb<;>try omega)|(refine sCX ?_ ?_<;>intro hb<;>try omega)|fail)
 refine qw (T:=28) (vs:= [sl (γ 8).1 b.grants.length (γ 8).2]) rfl rfl rfl rfl rfl rfl rfl (fun D ht=> ?_) ?_
 ·
  have n20:D 20=false:=ht.not
  have n2:D 2=true:=ht.early (i:=2) (f:=60) (by decide+kernel)
  have n5:D 5=true:=ht.early (i:=5) (f:=60) (by decide+kernel)
  have n8:D 8=true:=ht.early (i:=8) (f:=60) (by decide+kernel)
  have n11:D 11=true:=ht.early (i:=11) (f:=60) (by decide+kernel)
  have n14:D 14=true:=ht.early (i:=14) (f:=60) (by decide+kernel)
  (simp only [gat,put,upd,Nat.reduceEqDiff,Nat.reduceAdd,reduceIte,n2,n5,n8,n11,n14,n20,cond_true,cond_false,LG,LD,Ms,Mq,Mi,Mu])
  refine ⟨_,_,.hd,?_,?_⟩
  ·
   exact MW rfl
  ·
   exact mS
 repeat' (first|refine sT ?_|refine sS ?_|refine sX ?_|refine sM fun _=> ?_|(refine sC ?_ ?_<;>intro hb<;>try omega)|(refine sCX ?_ ?_<;>intro hb<;>try omega)|fail)
 refine qw (T:=28) (vs:= [sl (γ 11).1 b.log.length (γ 11).2]) rfl rfl rfl rfl rfl rfl rfl (fun D ht=> ?_) ?_
 ·
  have n22:D 22=false:=ht.not
  have n2:D 2=true:=ht.early (i:=2) (f:=60) (by decide+kernel)
  have n5:D 5=true:=ht.early (i:=5) (f:=60) (by decide+kernel)
  have n8:D 8=true:=ht.early (i:=8) (f:=60) (by decide+kernel)
  have n11:D 11=true:=ht.early (i:=11) (f:=60) (by decide+kernel)
  have n14:D 14=true:=ht.early (i:=14) (f:=60) (by decide+kernel)
  (simp only [gat,put,upd,Nat.reduceEqDiff,Nat.reduceAdd,reduceIte,n2,n5,n8,n11,n14,n22,cond_true,cond_false,LG,LD,Ms,Mq,Mi,Mu])
  refine ⟨_,_,.hd,?_,?_⟩
  ·
   exact MW rfl
  ·
   exact mS
 repeat' (first|refine sT ?_|refine sS ?_|refine sX ?_|refine sM fun _=> ?_|(refine sC ?_ ?_<;>intro hb<;>try omega)|(refine sCX ?_ ?_<;>intro hb<;>try omega)|fail)
 refine qw (T:=28) (vs:= [sl (γ 14).1 b.rels.length (γ 14).2]) rfl rfl rfl rfl rfl rfl rfl (fun D ht=> ?_) ?_
 ·
  have n24:D 24=false:=ht.not
  have n2:D 2=true:=ht.early (i:=2) (f:=60) (by decide+kernel)
  have n5:D 5=true:=ht.early (i:=5) (f:=60) (by decide+kernel)
  have n8:D 8=true:=ht.early (i:=8) (f:=60) (by decide+kernel)
  have n11:D 11=true:=ht.early (i:=11) (f:=60) (by decide+kernel)
  have n14:D 14=true:=ht.early (i:=14) (f:=60) (by decide+kernel)
  (simp only [gat,put,upd,Nat.reduceEqDiff,Nat.reduceAdd,reduceIte,n2,n5,n8,n11,n14,n24,cond_true,cond_false,LG,LD,Ms,Mq,Mi,Mu])
  refine ⟨_,_,.hd,?_,?_⟩
  ·
   exact MW rfl
  ·
   exact mS
 repeat' (first|refine sT ?_|refine sS ?_|refine sX ?_|refine sM fun _=> ?_|(refine sC ?_ ?_<;>intro hb<;>try omega)|(refine sCX ?_ ?_<;>intro hb<;>try omega)|fail)
 intro D hD
 have n2:=hD 2 (by decide)
 have n5:=hD 5 (by decide)
 have n8:=hD 8 (by decide)
 have n11:=hD 11 (by decide)
 have n14:=hD 14 (by decide)
 have n16:=hD 16 (by decide)
 have n18:=hD 18 (by decide)
 have n20:=hD 20 (by decide)
 have n22:=hD 22 (by decide)
 have n24:=hD 24 (by decide)
 (simp only [gat,put,upd,Nat.reduceEqDiff,Nat.reduceAdd,reduceIte,n2,n5,n8,n11,n14,n16,n18,n20,n22,n24,cond_true,cond_false,LG,LD,Ms,Mq,Mi,Mu])
 repeat' (first|refine sT ?_|refine sS ?_|refine sM fun _=> ?_|(refine sC ?_ ?_<;>intro hb<;>try omega)|fail)
 exact vO (.inl rfl) rfl rfl pK rfl (H' :=aM b ⟨(γ 2).1,(γ 5).1,(γ 8).1,(γ 11).1,(γ 14).1,(γ 2).2,(γ 5).2,(γ 8).2,(γ 11).2,(γ 14).2⟩) (by unfold aM;exact mS) ⟨⟨(γ 2).1,(γ 5).1,(γ 8).1,(γ 11).1,(γ 14).1,(γ 2).2,(γ 5).2,(γ 8).2,(γ 11).2,(γ 14).2⟩,rfl,rfl⟩
theorem Fu {b:Bk} (h:mE b=true):Small b:=by
 have:=Dz h
 exact ⟨by omega,by omega,by omega,by omega,by omega⟩
end Go.SL
namespace Go.SL
open Go Go.Proofs
section
variable {w0:World} {s:az} {H:List Blk} {ty t' :TypeId} {x y:Operand}
theorem xa {a:ByteArray} {t:TypeId} (hx:ev s x=some (.string a)) (hy:ev s y=some (.string a)):VOp Tryz.prog w0 s H (.binOp .neq t x y t') ty (.bool false):=by
 have h:=oN (P:=Tryz.prog) (w0:=w0) (H:=H) (ty:=ty) (t:=t) (t' :=t') hx hy
 simpa using h
end
end Go.SL

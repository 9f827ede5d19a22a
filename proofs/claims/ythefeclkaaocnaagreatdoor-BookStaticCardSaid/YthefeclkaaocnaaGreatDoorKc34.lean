/-
  Lemmas and walks, put together: Jm Oe.
-/
import Derived.Test.YthefeclkaaocnaaGreatDoorKc33
set_option linter.unusedSimpArgs false
set_option linter.unusedVariables false
set_option maxRecDepth 20000
namespace Go.SL
open Go Go.Proofs
attribute [local irreducible] W WL WQ WG WA WX WLI WR WT WC WE VOp RW thn blk bL scp bi bz bY aQ FnIn FnP ceP
theorem xp (L:List Rl) (tv:Value) (w:World) (ht:Reads w tv L.length (L.flatMap bf)) (hlen:L.length≤1000000):
  aQ Tryz.prog 47 [tv] w fun v H=> ∃ A cap,v=sl A L.length cap∧H= [.own A 38 7 L.length cap (L.flatMap bf)]:=by
 refine aq Tryz.func47 rfl Tryz.ntmps47 rfl ?_
 have hl:(L.flatMap bf).length=L.length*7:=aK dg L
 refine aI 38 7 ?_
 repeat' (first|(apply cy (n' :=0) (c:=0) (A:=none) (m:=L.length);(iterate 3 exact rfl);exact pK;(intro w hm;exact ht.of_w0 hm);exact hl;exact s9 L;omega;(simp only [maxLen];omega);intro A' cap' hA)|refine sT ?_|refine sM fun _=> ?_|(refine sC ?_ ?_<;>intro hb<;>try omega)|fail)
 exact cP (.inl rfl) Tryz.results47 rfl (H' := [.own A' 38 7 (0+L.length) cap' ([]++L.flatMap bf)]) mS ⟨A',cap',by rw [Nm],by rw [Nm];rfl⟩
theorem uu (L:List Ev) (tv:Value) (w:World) (ht:Reads w tv L.length (L.flatMap aO)) (hlen:L.length≤1000000):
  aQ Tryz.prog 62 [tv] w fun v H=> ∃ A cap,v=sl A L.length cap∧H= [.own A 48 9 L.length cap (L.flatMap aO)]:=by
 refine aq Tryz.func62 rfl Tryz.ntmps62 rfl ?_
 have hl:(L.flatMap aO).length=L.length*9:=aK eP L
 refine aI 48 9 ?_
 repeat' (first|(apply cy (n' :=0) (c:=0) (A:=none) (m:=L.length);(iterate 3 exact rfl);exact pK;(intro w hm;exact ht.of_w0 hm);exact hl;exact tq L;omega;(simp only [maxLen];omega);intro A' cap' hA)|refine sT ?_|refine sM fun _=> ?_|(refine sC ?_ ?_<;>intro hb<;>try omega)|fail)
 exact cP (.inl rfl) Tryz.results62 rfl (H' := [.own A' 48 9 (0+L.length) cap' ([]++L.flatMap aO)]) mS ⟨A',cap',by rw [Nm],by rw [Nm];rfl⟩
theorem qq (L:List Rv) (tv:Value) (w:World) (ht:Reads w tv L.length (L.flatMap ck)) (hlen:L.length≤1000000):
  aQ Tryz.prog 63 [tv] w fun v H=> ∃ A cap,v=sl A L.length cap∧H= [.own A 70 11 L.length cap (L.flatMap ck)]:=by
 refine aq Tryz.func63 rfl Tryz.ntmps63 rfl ?_
 have hl:(L.flatMap ck).length=L.length*11:=aK gR L
 refine aI 70 11 ?_
 repeat' (first|(apply cy (n' :=0) (c:=0) (A:=none) (m:=L.length);(iterate 3 exact rfl);exact pK;(intro w hm;exact ht.of_w0 hm);exact hl;exact s8 L;omega;(simp only [maxLen];omega);intro A' cap' hA)|refine sT ?_|refine sM fun _=> ?_|(refine sC ?_ ?_<;>intro hb<;>try omega)|fail)
 exact cP (.inl rfl) Tryz.results63 rfl (H' := [.own A' 70 11 (0+L.length) cap' ([]++L.flatMap ck)]) mS ⟨A',cap',by rw [Nm],by rw [Nm];rfl⟩
set_option maxHeartbeats 8000000 in
theorem zZ (b:Bk) (x:Bv) (w:World) (h:BRd w b x) (hs:Small b):aQ Tryz.prog 18 [.agg (bG b x).toArray] w fun v H=> ∃ a:Bo,v= .agg (bG b a.v).toArray∧H=bw b a:=by
 refine aq Tryz.func18 rfl Tryz.ntmps18 rfl ?_
 have h1:=fun (w' :World) (H:List Blk) (hm:Mem w w' H)=>l3 b.ents _ w' (h.e.of_w0 hm) hs.e
 have h2:=fun (w' :World) (H:List Blk) (hm:Mem w w' H)=>xp b.rules _ w' (h.r.of_w0 hm) hs.r
 have h3:=fun (w' :World) (H:List Blk) (hm:Mem w w' H)=>ut b.grants _ w' (h.g.of_w0 hm) hs.g
 have h4:=fun (w' :World) (H:List Blk) (hm:Mem w w' H)=>uu b.log _ w' (h.l.of_w0 hm) hs.l
 have h5:=fun (w' :World) (H:List Blk) (hm:Mem w w' H)=>qq b.rels _ w' (h.s.of_w0 hm) hs.s
 simp only [bG]
 repeat' (first|refine sT ?_|refine sS ?_|refine sM fun _=> ?_|(refine sC ?_ ?_<;>intro hb<;>try omega)|fail)
 rename_i g1 g2
 refine aI 0 0 ?_
 refine aI 0 0 ?_
 refine aI 0 0 ?_
 refine aI 0 0 ?_
 refine aI 0 0 ?_
 refine FC (id:=1) (fun|2=>some fun g=>sl g.1 b.ents.length g.2|5=>some fun g=>sl g.1 b.rules.length g.2|8=>some fun g=>sl g.1 b.grants.length g.2|11=>some fun g=>sl g.1 b.log.length g.2|14=>some fun g=>sl g.1 b.rels.length g.2|_=>none)
  (fun (D:fK) (q:Nat→Gh)=> .box g1 28 [.int .i64 b.users,bif D 16 then sl (q 2).1 b.ents.length (q 2).2 else .slice x.ae b.ents.length x.ce,bif D 18 then sl (q 5).1 b.rules.length (q 5).2 else .slice x.ar b.rules.length x.cr,bif D 20 then sl (q 8).1 b.grants.length (q 8).2 else .slice x.ag b.grants.length x.cg,bif D 22 then sl (q 11).1 b.log.length (q 11).2 else .slice x.al b.log.length x.cl,bif D 24 then sl (q 14).1 b.rels.length (q 14).2 else .slice x.as_ b.rels.length x.cs,.int .i64 b.step]:: .box g2 28 [.int .i64 0,.slice none 0 0,.slice none 0 0,.slice none 0 0,.slice none 0 0,.slice none 0 0,.int .i64 0]::(bif D 2 then Blk.own (q 2).1 53 3 b.ents.length (q 2).2 (b.ents.flatMap aJ) else Gz)::(bif D 5 then Blk.own (q 5).1 38 7 b.rules.length (q 5).2 (b.rules.flatMap bf) else Gz)::(bif D 8 then Blk.own (q 8).1 56 8 b.grants.length (q 8).2 (b.grants.flatMap bg) else Gz)::(bif D 11 then Blk.own (q 11).1 48 9 b.log.length (q 11).2 (b.log.flatMap aO) else Gz)::(bif D 14 then Blk.own (q 14).1 70 11 b.rels.length (q 14).2 (b.rels.flatMap ck) else Gz):: []) ?_ ?_ ?_ ?_
 ·
  kernel_rfl
 ·
  kernel_rfl
 ·
  intro γ
  exact mS
 intro γ
 repeat' (first|(apply xv (d:=4);(iterate 3 exact rfl);(intro D ht;(have n16:D 16=false:=ht.late (j:=16) (f:=60) (by decide+kernel));(simp only [gat,put,upd,Nat.reduceEqDiff,Nat.reduceAdd,reduceIte,n16,cond_true,cond_false,MW,MU,NI,NH,Ns,NM]);apply dl;exact rfl;exact pK;exact rfl);exact fun _=>rfl)|refine sT ?_|refine sS ?_|refine sX ?_|refine sM fun _=> ?_|(refine sC ?_ ?_<;>intro hb<;>try omega)|(refine sCX ?_ ?_<;>intro hb<;>try omega)|fail)
 refine qK rfl rfl rfl (fun D ht=> ?_) ?_
 ·
  have n2:D 2=false:=ht.not
  have n5:D 5=false:=ht.late (j:=5) (f:=60) (by decide+kernel)
  have n8:D 8=false:=ht.late (j:=8) (f:=60) (by decide+kernel)
  have n11:D 11=false:=ht.late (j:=11) (f:=60) (by decide+kernel)
  have n14:D 14=false:=ht.late (j:=14) (f:=60) (by decide+kernel)
  have n16:D 16=false:=ht.late (j:=16) (f:=60) (by decide+kernel)
  have n18:D 18=false:=ht.late (j:=18) (f:=60) (by decide+kernel)
  have n20:D 20=false:=ht.late (j:=20) (f:=60) (by decide+kernel)
  have n22:D 22=false:=ht.late (j:=22) (f:=60) (by decide+kernel)
  have n24:D 24=false:=ht.late (j:=24) (f:=60) (by decide+kernel)
  (simp only [gat,put,upd,Nat.reduceEqDiff,Nat.reduceAdd,reduceIte,n2,n5,n8,n11,n14,n16,n18,n20,n22,n24,cond_true,cond_false,MW,MU,NI,NH,Ns,NM])
  (with_reducible apply aC (f:=22));exact rfl;exact rfl;(intro w' hm;exact h1 w' _ hm);rintro _ _ ⟨A',c',rfl,rfl⟩
  refine mU ⟨rfl,(A',c'),rfl,?_⟩
  (simp only [gat,put,upd,Nat.reduceEqDiff,Nat.reduceAdd,reduceIte,n2,n5,n8,n11,n14,n16,n18,n20,n22,n24,cond_true,cond_false,MW,MU,NI,NH,Ns,NM])
  exact mS
 repeat' (first|(apply xv (d:=7);(iterate 3 exact rfl);(intro D ht;(have n18:D 18=false:=ht.late (j:=18) (f:=60) (by decide+kernel));(simp only [gat,put,upd,Nat.reduceEqDiff,Nat.reduceAdd,reduceIte,n18,cond_true,cond_false,MW,MU,NI,NH,Ns,NM]);apply dl;exact rfl;exact pK;exact rfl);exact fun _=>rfl)|refine sT ?_|refine sS ?_|refine sX ?_|refine sM fun _=> ?_|(refine sC ?_ ?_<;>intro hb<;>try omega)|(refine sCX ?_ ?_<;>intro hb<;>try omega)|fail)
 refine qK rfl rfl rfl (fun D ht=> ?_) ?_
 ·
  have n5:D 5=false:=ht.not
  have n2:D 2=true:=ht.early (i:=2) (f:=60) (by decide+kernel)
  have n8:D 8=false:=ht.late (j:=8) (f:=60) (by decide+kernel)
  have n11:D 11=false:=ht.late (j:=11) (f:=60) (by decide+kernel)
  have n14:D 14=false:=ht.late (j:=14) (f:=60) (by decide+kernel)
  have n16:D 16=false:=ht.late (j:=16) (f:=60) (by decide+kernel)
  have n18:D 18=false:=ht.late (j:=18) (f:=60) (by decide+kernel)
  have n20:D 20=false:=ht.late (j:=20) (f:=60) (by decide+kernel)
  have n22:D 22=false:=ht.late (j:=22) (f:=60) (by decide+kernel)
  have n24:D 24=false:=ht.late (j:=24) (f:=60) (by decide+kernel)
  (simp only [gat,put,upd,Nat.reduceEqDiff,Nat.reduceAdd,reduceIte,n2,n5,n8,n11,n14,n16,n18,n20,n22,n24,cond_true,cond_false,MW,MU,NI,NH,Ns,NM])
  (with_reducible apply aC (f:=47));exact rfl;exact rfl;(intro w' hm;exact h2 w' _ hm);rintro _ _ ⟨A',c',rfl,rfl⟩
  refine mU ⟨rfl,(A',c'),rfl,?_⟩
  (simp only [gat,put,upd,Nat.reduceEqDiff,Nat.reduceAdd,reduceIte,n2,n5,n8,n11,n14,n16,n18,n20,n22,n24,cond_true,cond_false,MW,MU,NI,NH,Ns,NM])
  exact mS
 repeat' (first|(apply xv (d:=10);(iterate 3 exact rfl);(intro D ht;(have n20:D 20=false:=ht.late (j:=20) (f:=60) (by decide+kernel));(simp only [gat,put,upd,Nat.reduceEqDiff,Nat.reduceAdd,reduceIte,n20,cond_true,cond_false,MW,MU,NI,NH,Ns,NM]);apply dl;exact rfl;exact pK;exact rfl);exact fun _=>rfl)|refine sT ?_|refine sS ?_|refine sX ?_|refine sM fun _=> ?_|(refine sC ?_ ?_<;>intro hb<;>try omega)|(refine sCX ?_ ?_<;>intro hb<;>try omega)|fail)
 refine qK rfl rfl rfl (fun D ht=> ?_) ?_
 ·
  have n8:D 8=false:=ht.not
  have n2:D 2=true:=ht.early (i:=2) (f:=60) (by decide+kernel)
  have n5:D 5=true:=ht.early (i:=5) (f:=60) (by decide+kernel)
  have n11:D 11=false:=ht.late (j:=11) (f:=60) (by decide+kernel)
  have n14:D 14=false:=ht.late (j:=14) (f:=60) (by decide+kernel)
  have n16:D 16=false:=ht.late (j:=16) (f:=60) (by decide+kernel)
  have n18:D 18=false:=ht.late (j:=18) (f:=60) (by decide+kernel)
  have n20:D 20=false:=ht.late (j:=20) (f:=60) (by decide+kernel)
  have n22:D 22=false:=ht.late (j:=22) (f:=60) (by decide+kernel)
  have n24:D 24=false:=ht.late (j:=24) (f:=60) (by decide+kernel)
  (simp only [gat,put,upd,Nat.reduceEqDiff,Nat.reduceAdd,reduceIte,n2,n5,n8,n11,n14,n16,n18,n20,n22,n24,cond_true,cond_false,MW,MU,NI,NH,Ns,NM])
  (with_reducible apply aC (f:=46));exact rfl;exact rfl;(intro w' hm;exact h3 w' _ hm);rintro _ _ ⟨A',c',rfl,rfl⟩
  refine mU ⟨rfl,(A',c'),rfl,?_⟩
  (simp only [gat,put,upd,Nat.reduceEqDiff,Nat.reduceAdd,reduceIte,n2,n5,n8,n11,n14,n16,n18,n20,n22,n24,cond_true,cond_false,MW,MU,NI,NH,Ns,NM])
  exact mS
 repeat' (first|(apply xv (d:=13);(iterate 3 exact rfl);(intro D ht;(have n22:D 22=false:=ht.late (j:=22) (f:=60) (by decide+kernel));(simp only [gat,put,upd,Nat.reduceEqDiff,Nat.reduceAdd,reduceIte,n22,cond_true,cond_false,MW,MU,NI,NH,Ns,NM]);apply dl;exact rfl;exact pK;exact rfl);exact fun _=>rfl)|refine sT ?_|refine sS ?_|refine sX ?_|refine sM fun _=> ?_|(refine sC ?_ ?_<;>intro hb<;>try omega)|(refine sCX ?_ ?_<;>intro hb<;>try omega)|fail)
 refine qK rfl rfl rfl (fun D ht=> ?_) ?_
 ·
  have n11:D 11=false:=ht.not
  have n2:D 2=true:=ht.early (i:=2) (f:=60) (by decide+kernel)
  have n5:D 5=true:=ht.early (i:=5) (f:=60) (by decide+kernel)
  have n8:D 8=true:=ht.early (i:=8) (f:=60) (by decide+kernel)
  have n14:D 14=false:=ht.late (j:=14) (f:=60) (by decide+kernel)
  have n16:D 16=false:=ht.late (j:=16) (f:=60) (by decide+kernel)
  have n18:D 18=false:=ht.late (j:=18) (f:=60) (by decide+kernel)
  have n20:D 20=false:=ht.late (j:=20) (f:=60) (by decide+kernel)
  have n22:D 22=false:=ht.late (j:=22) (f:=60) (by decide+kernel)
  have n24:D 24=false:=ht.late (j:=24) (f:=60) (by decide+kernel)
  (simp only [gat,put,upd,Nat.reduceEqDiff,Nat.reduceAdd,reduceIte,n2,n5,n8,n11,n14,n16,n18,n20,n22,n24,cond_true,cond_false,MW,MU,NI,NH,Ns,NM])
  (with_reducible apply aC (f:=62));exact rfl;exact rfl;(intro w' hm;exact h4 w' _ hm);rintro _ _ ⟨A',c',rfl,rfl⟩
  refine mU ⟨rfl,(A',c'),rfl,?_⟩
  (simp only [gat,put,upd,Nat.reduceEqDiff,Nat.reduceAdd,reduceIte,n2,n5,n8,n11,n14,n16,n18,n20,n22,n24,cond_true,cond_false,MW,MU,NI,NH,Ns,NM])
  exact mS
 repeat' (first|(apply xv (d:=16);(iterate 3 exact rfl);(intro D ht;(have n24:D 24=false:=ht.late (j:=24) (f:=60) (by decide+kernel));(simp only [gat,put,upd,Nat.reduceEqDiff,Nat.reduceAdd,reduceIte,n24,cond_true,cond_false,MW,MU,NI,NH,Ns,NM]);apply dl;exact rfl;exact pK;exact rfl);exact fun _=>rfl)|refine sT ?_|refine sS ?_|refine sX ?_|refine sM fun _=> ?_|(refine sC ?_ ?_<;>intro hb<;>try omega)|(refine sCX ?_ ?_<;>intro hb<;>try omega)|fail)
 refine qK rfl rfl rfl (fun D ht=> ?_) ?_
 ·
  have n14:D 14=false:=ht.not
  have n2:D 2=true:=ht.early (i:=2) (f:=60) (by decide+kernel)
  have n5:D 5=true:=ht.early (i:=5) (f:=60) (by decide+kernel)
  have n8:D 8=true:=ht.early (i:=8) (f:=60) (by decide+kernel)
  have n11:D 11=true:=ht.early (i:=11) (f:=60) (by decide+kernel)
  have n16:D 16=false:=ht.late (j:=16) (f:=60) (by decide+kernel)
  have n18:D 18=false:=ht.late (j:=18) (f:=60) (by decide+kernel)
  have n20:D 20=false:=ht.late (j:=20) (f:=60) (by decide+kernel)
  have n22:D 22=false:=ht.late (j:=22) (f:=60) (by decide+kernel)
  have n24:D 24=false:=ht.late (j:=24) (f:=60) (by decide+kernel)
  (simp only [gat,put,upd,Nat.reduceEqDiff,Nat.reduceAdd,reduceIte,n2,n5,n8,n11,n14,n16,n18,n20,n22,n24,cond_true,cond_false,MW,MU,NI,NH,Ns,NM])
  (with_reducible apply aC (f:=63));exact rfl;exact rfl;(intro w' hm;exact h5 w' _ hm);rintro _ _ ⟨A',c',rfl,rfl⟩
  refine mU ⟨rfl,(A',c'),rfl,?_⟩
  (simp only [gat,put,upd,Nat.reduceEqDiff,Nat.reduceAdd,reduceIte,n2,n5,n8,n11,n14,n16,n18,n20,n22,n24,cond_true,cond_false,MW,MU,NI,NH,Ns,NM])
  exact mS
 repeat' (first|refine sT ?_|refine sS ?_|refine sX ?_|refine sM fun _=> ?_|(refine sC ?_ ?_<;>intro hb<;>try omega)|(refine sCX ?_ ?_<;>intro hb<;>try omega)|fail)
 refine qJ (T:=28) (vs:= [sl (γ 2).1 b.ents.length (γ 2).2]) rfl rfl rfl rfl rfl rfl rfl (fun D ht=> ?_) ?_
 ·
  have n16:D 16=false:=ht.not
  have n2:D 2=true:=ht.early (i:=2) (f:=60) (by decide+kernel)
  have n5:D 5=true:=ht.early (i:=5) (f:=60) (by decide+kernel)
  have n8:D 8=true:=ht.early (i:=8) (f:=60) (by decide+kernel)
  have n11:D 11=true:=ht.early (i:=11) (f:=60) (by decide+kernel)
  have n14:D 14=true:=ht.early (i:=14) (f:=60) (by decide+kernel)
  (simp only [gat,put,upd,Nat.reduceEqDiff,Nat.reduceAdd,reduceIte,n2,n5,n8,n11,n14,n16,cond_true,cond_false,MW,MU,NI,NH,Ns,NM])
  refine ⟨_,_,.hd,?_,?_⟩
  ·
   exact Oy rfl
  ·
   exact mS
 repeat' (first|refine sT ?_|refine sS ?_|refine sX ?_|refine sM fun _=> ?_|(refine sC ?_ ?_<;>intro hb<;>try omega)|(refine sCX ?_ ?_<;>intro hb<;>try omega)|fail)
 refine qJ (T:=28) (vs:= [sl (γ 5).1 b.rules.length (γ 5).2]) rfl rfl rfl rfl rfl rfl rfl (fun D ht=> ?_) ?_
 ·
  have n18:D 18=false:=ht.not
  have n2:D 2=true:=ht.early (i:=2) (f:=60) (by decide+kernel)
  have n5:D 5=true:=ht.early (i:=5) (f:=60) (by decide+kernel)
  have n8:D 8=true:=ht.early (i:=8) (f:=60) (by decide+kernel)
  have n11:D 11=true:=ht.early (i:=11) (f:=60) (by decide+kernel)
  have n14:D 14=true:=ht.early (i:=14) (f:=60) (by decide+kernel)
  (simp only [gat,put,upd,Nat.reduceEqDiff,Nat.reduceAdd,reduceIte,n2,n5,n8,n11,n14,n18,cond_true,cond_false,MW,MU,NI,NH,Ns,NM])
  refine ⟨_,_,.hd,?_,?_⟩
  ·
   exact Oy rfl
  ·
   exact mS
 repeat' (first|refine sT ?_|refine sS ?_|refine sX ?_|refine sM fun _=> ?_|(refine sC ?_ ?_<;>intro hb<;>try omega)|(refine sCX ?_ ?_<;>intro hb<;>try omega)|fail)
 refine qJ (T:=28) (vs:= [sl (γ 8).1 b.grants.length (γ 8).2]) rfl rfl rfl rfl rfl rfl rfl (fun D ht=> ?_) ?_
 ·
  have n20:D 20=false:=ht.not
  have n2:D 2=true:=ht.early (i:=2) (f:=60) (by decide+kernel)
  have n5:D 5=true:=ht.early (i:=5) (f:=60) (by decide+kernel)
  have n8:D 8=true:=ht.early (i:=8) (f:=60) (by decide+kernel)
  have n11:D 11=true:=ht.early (i:=11) (f:=60) (by decide+kernel)
  have n14:D 14=true:=ht.early (i:=14) (f:=60) (by decide+kernel)
  (simp only [gat,put,upd,Nat.reduceEqDiff,Nat.reduceAdd,reduceIte,n2,n5,n8,n11,n14,n20,cond_true,cond_false,MW,MU,NI,NH,Ns,NM])
  refine ⟨_,_,.hd,?_,?_⟩
  ·
   exact Oy rfl
  ·
   exact mS
 repeat' (first|refine sT ?_|refine sS ?_|refine sX ?_|refine sM fun _=> ?_|(refine sC ?_ ?_<;>intro hb<;>try omega)|(refine sCX ?_ ?_<;>intro hb<;>try omega)|fail)
 refine qJ (T:=28) (vs:= [sl (γ 11).1 b.log.length (γ 11).2]) rfl rfl rfl rfl rfl rfl rfl (fun D ht=> ?_) ?_
 ·
  have n22:D 22=false:=ht.not
  have n2:D 2=true:=ht.early (i:=2) (f:=60) (by decide+kernel)
  have n5:D 5=true:=ht.early (i:=5) (f:=60) (by decide+kernel)
  have n8:D 8=true:=ht.early (i:=8) (f:=60) (by decide+kernel)
  have n11:D 11=true:=ht.early (i:=11) (f:=60) (by decide+kernel)
  have n14:D 14=true:=ht.early (i:=14) (f:=60) (by decide+kernel)
  (simp only [gat,put,upd,Nat.reduceEqDiff,Nat.reduceAdd,reduceIte,n2,n5,n8,n11,n14,n22,cond_true,cond_false,MW,MU,NI,NH,Ns,NM])
  refine ⟨_,_,.hd,?_,?_⟩
  ·
   exact Oy rfl
  ·
   exact mS
 repeat' (first|refine sT ?_|refine sS ?_|refine sX ?_|refine sM fun _=> ?_|(refine sC ?_ ?_<;>intro hb<;>try omega)|(refine sCX ?_ ?_<;>intro hb<;>try omega)|fail)
 refine qJ (T:=28) (vs:= [sl (γ 14).1 b.rels.length (γ 14).2]) rfl rfl rfl rfl rfl rfl rfl (fun D ht=> ?_) ?_
 ·
  have n24:D 24=false:=ht.not
  have n2:D 2=true:=ht.early (i:=2) (f:=60) (by decide+kernel)
  have n5:D 5=true:=ht.early (i:=5) (f:=60) (by decide+kernel)
  have n8:D 8=true:=ht.early (i:=8) (f:=60) (by decide+kernel)
  have n11:D 11=true:=ht.early (i:=11) (f:=60) (by decide+kernel)
  have n14:D 14=true:=ht.early (i:=14) (f:=60) (by decide+kernel)
  (simp only [gat,put,upd,Nat.reduceEqDiff,Nat.reduceAdd,reduceIte,n2,n5,n8,n11,n14,n24,cond_true,cond_false,MW,MU,NI,NH,Ns,NM])
  refine ⟨_,_,.hd,?_,?_⟩
  ·
   exact Oy rfl
  ·
   exact mS
 repeat' (first|refine sT ?_|refine sS ?_|refine sX ?_|refine sM fun _=> ?_|(refine sC ?_ ?_<;>intro hb<;>try omega)|(refine sCX ?_ ?_<;>intro hb<;>try omega)|fail)
 intro D hD
 have n2:=hD 2 (by decide)
 have n5:=hD 5 (by decide)
 have n8:=hD 8 (by decide)
 have n11:=hD 11 (by decide)
 have n14:=hD 14 (by decide)
 have n16:=hD 16 (by decide)
 have n18:=hD 18 (by decide)
 have n20:=hD 20 (by decide)
 have n22:=hD 22 (by decide)
 have n24:=hD 24 (by decide)
 (simp only [gat,put,upd,Nat.reduceEqDiff,Nat.reduceAdd,reduceIte,n2,n5,n8,n11,n14,n16,n18,n20,n22,n24,cond_true,cond_false,MW,MU,NI,NH,Ns,NM])
 repeat' (first|refine sT ?_|refine sS ?_|refine sM fun _=> ?_|(refine sC ?_ ?_<;>intro hb<;>try omega)|fail)
 exact wA (.inl rfl) rfl rfl pK rfl (H' :=bw b ⟨(γ 2).1,(γ 5).1,(γ 8).1,(γ 11).1,(γ 14).1,(γ 2).2,(γ 5).2,(γ 8).2,(γ 11).2,(γ 14).2⟩) (by unfold bw;exact mS) ⟨⟨(γ 2).1,(γ 5).1,(γ 8).1,(γ 11).1,(γ 14).1,(γ 2).2,(γ 5).2,(γ 8).2,(γ 11).2,(γ 14).2⟩,rfl,rfl⟩
def iE (b:Bk) (E:List Et):Bk:=⟨b.users,E,b.rules,b.grants,b.log,b.rels,b.step⟩
theorem Fw {b c:Bk} (h:BkOk b) (k:BkOk c):BkOk (iE b c.ents):=⟨h.u,k.e,h.r,h.g,h.l,h.s,h.le,h.lr⟩
theorem Ka (b:Bk) (E:List Et) (o:Ox):cdE (iE b E) o=cdE b o:=rfl
theorem ET {b:Bk} {E:List Et} {o:Ox} (h:bkE b=0) (h' :bkE (iE b E)=0) (hs:b.step≠1099511627776):
  (apE (iE b E) o).2=(apE b o).2∧(apE (iE b E) o).1.log=(apE b o).1.log∧(apE (iE b E) o).1.rules=(apE b o).1.rules∧(apE (iE b E) o).1.grants=(apE b o).1.grants:=by
 have hl:(BH (iE b E) o).log=(BH b o).log:=rfl
 have hs' :(iE b E).step≠1099511627776:=hs
 unfold apE
 rw [if_neg (show ¬ (bkE (iE b E)≠0) by rw [h'];decide),if_neg hs',if_neg (show ¬ (bkE b≠0) by rw [h];decide),if_neg hs,Ka]
 split
 ·
  exact ⟨rfl,hl,rfl,rfl⟩
 ·
  unfold tI
  split
  ·
   exact ⟨rfl,hl,rfl,rfl⟩
  split
  ·
   exact ⟨rfl,hl,rfl,rfl⟩
  split
  ·
   exact ⟨rfl,hl,rfl,rfl⟩
  split
  ·
   exact ⟨rfl,hl,rfl,rfl⟩
  ·
   exact ⟨rfl,hl,rfl,rfl⟩
theorem zW {L M:List Ev} (h:L=M) {lv mv:Value} {w:World} (hl:Reads w lv L.length (L.flatMap aO)) (hm:Reads w mv M.length (M.flatMap aO)):ax Tryz.prog 15 [lv,mv] w (.bool true):=by
 have:=zX L M lv mv w hl hm
 rwa [decide_eq_true h] at this
theorem zS {L M:List Rl} (h:L=M) {lv mv:Value} {w:World} (hl:Reads w lv L.length (L.flatMap bf)) (hm:Reads w mv M.length (M.flatMap bf)):ax Tryz.prog 23 [lv,mv] w (.bool true):=by
 have:=zT L M lv mv w hl hm
 rwa [decide_eq_true h] at this
theorem zU {L M:List Gn} (h:L=M) {lv mv:Value} {w:World} (hl:Reads w lv L.length (L.flatMap bg)) (hm:Reads w mv M.length (M.flatMap bg)):ax Tryz.prog 17 [lv,mv] w (.bool true):=by
 have:=zV L M lv mv w hl hm
 rwa [decide_eq_true h] at this
theorem yg {b:Bk} (h:mX b=true):Small b:=by
 have:=DS h
 exact ⟨by omega,by omega,by omega,by omega,by omega⟩
set_option maxHeartbeats 16000000 in
theorem uw (b c:Bk) (x y:Bv) (o:Ox) (w:World) (h:BRd w b x) (k:BRd w c y) (hW:Words w):ax Tryz.prog 4 [.agg (bG b x).toArray,.agg (bG c y).toArray,.agg (bE o).toArray] w (.bool true):=by
 refine aq Tryz.func4 rfl Tryz.ntmps4 rfl ?_
 have hS1:=fun (w' :World) (H:List Blk) (hm:Mem w w' H)=>tJ b x w' (h.of_w0 hm)
 have hS2:=fun (w' :World) (H:List Blk) (hm:Mem w w' H)=>tJ c y w' (k.of_w0 hm)
 have haw:=fun (w' :World) (H:List Blk) (hm:Mem w w' H)=>Cg w' (hW.next hm)
 cases hs1:mX b with
 |false=>
  rw [hs1] at hS1
  repeat' (first|(apply aa (d:=17);exact rfl;exact rfl;(intro w' hm;exact hS1 w' _ hm))|refine sT ?_|refine sS ?_|refine sM fun _=> ?_|(refine sC ?_ ?_<;>intro hb<;>try omega)|fail)
  all_goals first|(exfalso;omega)|((refine rT1 ?_);rfl)|trace_state
 |true=>
 rw [hs1] at hS1
 cases hs2:mX c with
 |false=>
  rw [hs2] at hS2
  repeat' (first|(apply aa (d:=17);exact rfl;exact rfl;(intro w' hm;exact hS1 w' _ hm))|(apply aa (d:=21);exact rfl;exact rfl;(intro w' hm;exact hS2 w' _ hm))|refine sT ?_|refine sS ?_|refine sM fun _=> ?_|(refine sC ?_ ?_<;>intro hb<;>try omega)|fail)
  all_goals first|(exfalso;omega)|((refine rT1 ?_);rfl)|trace_state
 |true=>
 rw [hs2] at hS2
 have hm1:=yg hs1
 have hm2:=yg hs2
 have hC1:=fun (w' :World) (H:List Blk) (hm:Mem w w' H)=>mJ b x w' (h.of_w0 hm) hm1.e
 have hC2:=fun (w' :World) (H:List Blk) (hm:Mem w w' H)=>mJ c y w' (k.of_w0 hm) hm2.e
 by_cases hq:bkE b≠0∨bkE c≠0∨300<o.input.size∨b.step=1099511627776
 ·
  generalize bkE b=e1 at hC1 hq
  generalize bkE c=e2 at hC2 hq
  obtain ⟨us,E,RU,G,L,M,st⟩:=b
  dsimp only at hq
  simp only [bG,bE] at*
  repeat' (first|(apply aa (d:=17);exact rfl;exact rfl;(intro w' hm;exact hS1 w' _ hm))|(apply aa (d:=21);exact rfl;exact rfl;(intro w' hm;exact hS2 w' _ hm))|(apply aa (d:=26);exact rfl;exact rfl;(intro w' hm;exact hC1 w' _ hm))|(apply aa (d:=31);exact rfl;exact rfl;(intro w' hm;exact hC2 w' _ hm))|refine sT ?_|refine sS ?_|refine sM fun _=> ?_|(refine sC ?_ ?_<;>intro hb<;>try omega)|fail)
  all_goals first|(exfalso;omega)|((refine rT1 ?_);rfl)|trace_state
 have hb0:bkE b=0:=Decidable.not_not.1 fun hn=>hq (.inl hn)
 have hc0:bkE c=0:=Decidable.not_not.1 fun hn=>hq (.inr (.inl hn))
 have hin: ¬ 300<o.input.size:=fun hn=>hq (.inr (.inr (.inl hn)))
 have hst:b.step≠1099511627776:=fun hn=>hq (.inr (.inr (.inr hn)))
 clear hq
 have hd0:bkE (iE b c.ents)=0:=tE.2 (Fw (tE.1 hb0) (tE.1 hc0))
 have hap:=(MH (o:=o) (tE.1 hb0) hst).2
 obtain ⟨s1,s2,s3,s4⟩:=ET (o:=o) hb0 hd0 hst
 rw [hb0] at hC1
 rw [hc0] at hC2
 have hcp:=fun (w' :World) (H:List Blk) (hm:Mem w w' H)=>zZ b x w' (h.of_w0 hm) hm1
 have hce:=fun (w' :World) (H:List Blk) (hm:Mem w w' H)=>l3 c.ents _ w' (k.e.of_w0 hm) hm2.e
 have hA1:=fun (w' :World) (H:List Blk) (hm:Mem w w' H)=>tL b x o w' (h.of_w0 hm) (hW.next hm) hm1
 have hm3:Small (iE b c.ents):=⟨hm2.e,hm1.r,hm1.g,hm1.l,hm1.s⟩
 have hA2:=fun (a:Bo) (w' :World) (H:List Blk) (hm:Mem w w' H) (hrd:BRd w' (iE b c.ents) a.v)=>tL (iE b c.ents) a.v o w' hrd (hW.next hm) hm3
 rw [hap] at hA1
 rw [s1,hap] at hA2
 generalize (apE b o).2.1=cd at hA1 hA2
 generalize (apE b o).2.2.1=pl at hA1 hA2
 generalize (apE b o).1=P1 at hA1 s2 s3 s4
 generalize (apE (iE b c.ents) o).1=P2 at hA2 s2 s3 s4
 have hrow: ∀ (a:Bo) (w' :World) (H:List Blk) (Ao:Option Nat) (co:Nat),Mem w w' H→In (.own Ao 53 3 c.ents.length co (c.ents.flatMap aJ)) H→In (.own a.r 38 7 b.rules.length a.cr (b.rules.flatMap bf)) H→In (.own a.g 56 8 b.grants.length a.cg (b.grants.flatMap bg)) H→In (.own a.l 48 9 b.log.length a.cl (b.log.flatMap aO)) H→In (.own a.s 70 11 b.rels.length a.cs (b.rels.flatMap ck)) H→BRd w' (iE b c.ents) (Bo.v ⟨Ao,a.r,a.g,a.l,a.s,co,a.cr,a.cg,a.cl,a.cs⟩):=fun a w' H Ao co hm h1 h2 h3 h4 h5=>
  ⟨Reads.of_own (A:=Ao) hm h1,Reads.of_own (A:=a.r) hm h2,Reads.of_own (A:=a.g) hm h3,Reads.of_own (A:=a.l) hm h4,Reads.of_own (A:=a.s) hm h5⟩
 repeat' (first|(apply aa (d:=17);exact rfl;exact rfl;(intro w' hm;exact hS1 w' _ hm))|(apply aa (d:=21);exact rfl;exact rfl;(intro w' hm;exact hS2 w' _ hm))|(apply aa (d:=26);exact rfl;exact rfl;(intro w' hm;exact hC1 w' _ hm))|(apply aa (d:=31);exact rfl;exact rfl;(intro w' hm;exact hC2 w' _ hm))|(apply aC (f:=18);exact rfl;exact rfl;(intro w' hm;exact hcp w' _ hm);rintro _ _ ⟨a1,rfl,rfl⟩;unfold bw)|(apply aC (f:=22);exact rfl;exact rfl;(intro w' hm;exact hce w' _ hm);rintro _ _ ⟨Ao,co,rfl,rfl⟩)|(apply aC (d:=54);exact rfl;exact rfl;(intro w' hm;exact hA1 w' _ hm);rintro _ _ ⟨a2,rfl,rfl⟩;unfold bw)|(apply aC (d:=62);exact rfl;exact rfl;(intro w' hm;exact hA2 ⟨Ao,a1.r,a1.g,a1.l,a1.s,co,a1.cr,a1.cg,a1.cl,a1.cs⟩ w' _ hm (hrow a1 w' _ Ao co hm pK pK pK pK pK));rintro _ _ ⟨a3,rfl,rfl⟩;unfold bw)|(apply aa (f:=15);exact rfl;exact rfl;(intro w' hm;exact zW s2.symm (Reads.of_own (A:=a2.l) hm pK) (Reads.of_own (A:=a3.l) hm pK)))|(apply aa (f:=23);exact rfl;exact rfl;(intro w' hm;exact zS s3.symm (Reads.of_own (A:=a2.r) hm pK) (Reads.of_own (A:=a3.r) hm pK)))|(apply aa (f:=17);exact rfl;exact rfl;(intro w' hm;exact zU s4.symm (Reads.of_own (A:=a2.g) hm pK) (Reads.of_own (A:=a3.g) hm pK)))|(apply aa (f:=24);exact rfl;exact rfl;(intro w' hm;exact haw w' _ hm))|refine sT ?_|refine sS ?_|refine sM fun _=> ?_|(refine sC ?_ ?_<;>intro hb<;>try omega)|fail)
 all_goals first
  |(exfalso;omega)
  |((refine rT1 ?_);rfl)
  |trace_state
end Go.SL

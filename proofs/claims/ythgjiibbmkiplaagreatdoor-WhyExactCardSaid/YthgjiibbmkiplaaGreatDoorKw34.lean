/-
  Lemmas and walks, put together: Ws Xj Wt.
-/
import Derived.Test.YthgjiibbmkiplaaGreatDoorKw20
import Derived.Test.YthgjiibbmkiplaaGreatDoorKw24
import Derived.Test.YthgjiibbmkiplaaGreatDoorKw29
set_option linter.unusedSimpArgs false
set_option linter.unusedVariables false
set_option maxRecDepth 20000
set_option maxHeartbeats 16000000
namespace Go.SL
open Go Go.Proofs
attribute [local irreducible] W WL WQ WG WA WX WLI WR WT WC WE VOp RW thn blk bA scp aY aX bw FnAt FnIn FnP ceP
structure SmallW (b:Bk):Prop where
 e:b.ents.length*32≤140737488351232
 r:b.rules.length*56≤140737488351232
 g:b.grants.length*64≤140737488351232
 l:b.log.length*72≤140737488351232
 s:b.rels.length*88≤140737488351232
theorem wP (L:List Et) (tv:Value) (w:World) (ht:Reads w tv L.length (L.flatMap bN)) (hlen:L.length*32≤140737488351232):
 FnAt Tryz.prog 72 [tv] w fun v H=> ∃ A cap,v=sl A L.length cap∧H= [.own A 79 3 L.length cap (L.flatMap bN)]:=by
 refine aB Tryz.func72 rfl Tryz.ntmps72 rfl ?_;have hl:(L.flatMap bN).length=L.length*3:=aR dx L;refine aF 79 3 ?_;repeat' (first|apply dz (n' :=0) (c:=0) (A:=none) (m:=L.length);(iterate 3 exact rfl);exact pK;intro w hm;exact ht.of_w0 hm;exact hl;exact Jo L;omega;simp only [maxLen];omega;intro A' cap' hA|refine sT ?_|refine sM fun _=>?_|refine sC ?_ ?_<;>intro hb<;>try omega|fail)
 exact bo (.inl rfl) Tryz.results72 rfl (H' := [.own A' 79 3 (0+L.length) cap' ([]++L.flatMap bN)]) mS ⟨A',cap',by rw [Xv],by rw [Xv];rfl⟩
theorem zS (L:List Rl) (tv:Value) (w:World) (ht:Reads w tv L.length (L.flatMap bQ)) (hlen:L.length*56≤140737488351232):
 FnAt Tryz.prog 73 [tv] w fun v H=> ∃ A cap,v=sl A L.length cap∧H= [.own A 137 7 L.length cap (L.flatMap bQ)]:=by
 refine aB Tryz.func73 rfl Tryz.ntmps73 rfl ?_;have hl:(L.flatMap bQ).length=L.length*7:=aR dw L;refine aF 137 7 ?_;repeat' (first|apply dz (n' :=0) (c:=0) (A:=none) (m:=L.length);(iterate 3 exact rfl);exact pK;intro w hm;exact ht.of_w0 hm;exact hl;exact Jl L;omega;simp only [maxLen];omega;intro A' cap' hA|refine sT ?_|refine sM fun _=>?_|refine sC ?_ ?_<;>intro hb<;>try omega|fail)
 exact bo (.inl rfl) Tryz.results73 rfl (H' := [.own A' 137 7 (0+L.length) cap' ([]++L.flatMap bQ)]) mS ⟨A',cap',by rw [Xv],by rw [Xv];rfl⟩
theorem zu (L:List Gn) (tv:Value) (w:World) (ht:Reads w tv L.length (L.flatMap cD)) (hlen:L.length*64≤140737488351232):
 FnAt Tryz.prog 74 [tv] w fun v H=> ∃ A cap,v=sl A L.length cap∧H= [.own A 76 8 L.length cap (L.flatMap cD)]:=by
 refine aB Tryz.func74 rfl Tryz.ntmps74 rfl ?_;have hl:(L.flatMap cD).length=L.length*8:=aR jy L;refine aF 76 8 ?_;repeat' (first|apply dz (n' :=0) (c:=0) (A:=none) (m:=L.length);(iterate 3 exact rfl);exact pK;intro w hm;exact ht.of_w0 hm;exact hl;exact Jm L;omega;simp only [maxLen];omega;intro A' cap' hA|refine sT ?_|refine sM fun _=>?_|refine sC ?_ ?_<;>intro hb<;>try omega|fail)
 exact bo (.inl rfl) Tryz.results74 rfl (H' := [.own A' 76 8 (0+L.length) cap' ([]++L.flatMap cD)]) mS ⟨A',cap',by rw [Xv],by rw [Xv];rfl⟩
theorem zw (L:List Ev) (tv:Value) (w:World) (ht:Reads w tv L.length (L.flatMap fF)) (hlen:L.length*72≤140737488351232):
 FnAt Tryz.prog 75 [tv] w fun v H=> ∃ A cap,v=sl A L.length cap∧H= [.own A 147 9 L.length cap (L.flatMap fF)]:=by
 refine aB Tryz.func75 rfl Tryz.ntmps75 rfl ?_;have hl:(L.flatMap fF).length=L.length*9:=aR mP L;refine aF 147 9 ?_;repeat' (first|apply dz (n' :=0) (c:=0) (A:=none) (m:=L.length);(iterate 3 exact rfl);exact pK;intro w hm;exact ht.of_w0 hm;exact hl;exact Jn L;omega;simp only [maxLen];omega;intro A' cap' hA|refine sT ?_|refine sM fun _=>?_|refine sC ?_ ?_<;>intro hb<;>try omega|fail)
 exact bo (.inl rfl) Tryz.results75 rfl (H' := [.own A' 147 9 (0+L.length) cap' ([]++L.flatMap fF)]) mS ⟨A',cap',by rw [Xv],by rw [Xv];rfl⟩
theorem u4 (L:List Rv) (tv:Value) (w:World) (ht:Reads w tv L.length (L.flatMap fE)) (hlen:L.length*88≤140737488351232):
 FnAt Tryz.prog 76 [tv] w fun v H=> ∃ A cap,v=sl A L.length cap∧H= [.own A 149 11 L.length cap (L.flatMap fE)]:=by
 refine aB Tryz.func76 rfl Tryz.ntmps76 rfl ?_;have hl:(L.flatMap fE).length=L.length*11:=aR mM L;refine aF 149 11 ?_;repeat' (first|apply dz (n' :=0) (c:=0) (A:=none) (m:=L.length);(iterate 3 exact rfl);exact pK;intro w hm;exact ht.of_w0 hm;exact hl;exact Jk L;omega;simp only [maxLen];omega;intro A' cap' hA|refine sT ?_|refine sM fun _=>?_|refine sC ?_ ?_<;>intro hb<;>try omega|fail)
 exact bo (.inl rfl) Tryz.results76 rfl (H' := [.own A' 149 11 (0+L.length) cap' ([]++L.flatMap fE)]) mS ⟨A',cap',by rw [Xv],by rw [Xv];rfl⟩
theorem DT (b:Bk) (x:Bv) (w:World) (h:BRd w b x) (hs:SmallW b):FnAt Tryz.prog 38 [.agg (bg b x).toArray] w fun v H=> ∃ a:Bo,v= .agg (bg b a.v).toArray∧H=iB b a:=by
 refine aB Tryz.func38 rfl Tryz.ntmps38 rfl ?_;have h1:=fun (w' :World) (H:List Blk) (hm:Mem w w' H)=>wP b.ents _ w' (h.e.of_w0 hm) hs.e;have h2:=fun (w' :World) (H:List Blk) (hm:Mem w w' H)=>zS b.rules _ w' (h.r.of_w0 hm) hs.r;have h3:=fun (w' :World) (H:List Blk) (hm:Mem w w' H)=>zu b.grants _ w' (h.g.of_w0 hm) hs.g;have h4:=fun (w' :World) (H:List Blk) (hm:Mem w w' H)=>zw b.log _ w' (h.l.of_w0 hm) hs.l;have h5:=fun (w' :World) (H:List Blk) (hm:Mem w w' H)=>u4 b.rels _ w' (h.s.of_w0 hm) hs.s;simp only [bg];repeat' (first|refine zZB ?_|refine sM fun _=>?_|refine sC ?_ ?_<;>intro hb<;>try omega|fail)
 rename_i g1 g2;refine aF 0 0 ?_;refine aF 0 0 ?_;refine aF 0 0 ?_;refine aF 0 0 ?_;refine aF 0 0 ?_
 refine NB (id:=1) (fun|2=>some fun g=>sl g.1 b.ents.length g.2|5=>some fun g=>sl g.1 b.rules.length g.2|8=>some fun g=>sl g.1 b.grants.length g.2|11=>some fun g=>sl g.1 b.log.length g.2|14=>some fun g=>sl g.1 b.rels.length g.2|_=>none)
  (fun (D:gX) (q:Nat→Gh)=> .box g1 28 [.int .i64 b.users,bif D 16 then sl (q 2).1 b.ents.length (q 2).2 else .slice x.ae b.ents.length x.ce,bif D 18 then sl (q 5).1 b.rules.length (q 5).2 else .slice x.ar b.rules.length x.cr,bif D 20 then sl (q 8).1 b.grants.length (q 8).2 else .slice x.ag b.grants.length x.cg,bif D 22 then sl (q 11).1 b.log.length (q 11).2 else .slice x.al b.log.length x.cl,bif D 24 then sl (q 14).1 b.rels.length (q 14).2 else .slice x.as_ b.rels.length x.cs,.int .i64 b.step]:: .box g2 28 [.int .i64 0,.slice none 0 0,.slice none 0 0,.slice none 0 0,.slice none 0 0,.slice none 0 0,.int .i64 0]::(bif D 2 then Blk.own (q 2).1 79 3 b.ents.length (q 2).2 (b.ents.flatMap bN) else OU)::(bif D 5 then Blk.own (q 5).1 137 7 b.rules.length (q 5).2 (b.rules.flatMap bQ) else OU)::(bif D 8 then Blk.own (q 8).1 76 8 b.grants.length (q 8).2 (b.grants.flatMap cD) else OU)::(bif D 11 then Blk.own (q 11).1 147 9 b.log.length (q 11).2 (b.log.flatMap fF) else OU)::(bif D 14 then Blk.own (q 14).1 149 11 b.rels.length (q 14).2 (b.rels.flatMap fE) else OU):: []) ?_ ?_ ?_ ?_
 ·kernel_rfl
 ·kernel_rfl
 ·intro γ;exact mS
 intro γ;repeat' (first|apply DW (d:=4);(iterate 3 exact rfl);intro D ht;have n16:D 16=false:=ht.late (j:=16) (f:=60) (by decide+kernel);simp only [gat,put,upd,Nat.reduceEqDiff,Nat.reduceAdd,reduceIte,n16,cond_true,cond_false,Xd,Xc,X8,Ye,XT,XX];apply ik;exact rfl;exact pK;exact rfl;exact fun _=>rfl|refine zZK ?_|refine sM fun _=>?_|refine sC ?_ ?_<;>intro hb<;>try omega|refine sCX ?_ ?_<;>intro hb<;>try omega|fail)
 refine xj rfl rfl rfl (fun D ht=> ?_) ?_
 ·have n2:D 2=false:=ht.not;have n5:D 5=false:=ht.late (j:=5) (f:=60) (by decide+kernel);have n8:D 8=false:=ht.late (j:=8) (f:=60) (by decide+kernel);have n11:D 11=false:=ht.late (j:=11) (f:=60) (by decide+kernel);have n14:D 14=false:=ht.late (j:=14) (f:=60) (by decide+kernel);have n16:D 16=false:=ht.late (j:=16) (f:=60) (by decide+kernel);have n18:D 18=false:=ht.late (j:=18) (f:=60) (by decide+kernel);have n20:D 20=false:=ht.late (j:=20) (f:=60) (by decide+kernel);have n22:D 22=false:=ht.late (j:=22) (f:=60) (by decide+kernel);have n24:D 24=false:=ht.late (j:=24) (f:=60) (by decide+kernel);simp only [gat,put,upd,Nat.reduceEqDiff,Nat.reduceAdd,reduceIte,n2,n5,n8,n11,n14,n16,n18,n20,n22,n24,cond_true,cond_false,Xd,Xc,X8,Ye,XT,XX];(with_reducible apply aw (f:=72));exact rfl;exact rfl;intro w' hm;exact h1 w' _ hm;rintro _ _ ⟨A',c',rfl,rfl⟩;refine oo ⟨rfl,(A',c'),rfl,?_⟩;simp only [gat,put,upd,Nat.reduceEqDiff,Nat.reduceAdd,reduceIte,n2,n5,n8,n11,n14,n16,n18,n20,n22,n24,cond_true,cond_false,Xd,Xc,X8,Ye,XT,XX];exact mS
 repeat' first|apply DW (d:=7);(iterate 3 exact rfl);intro D ht;have n18:D 18=false:=ht.late (j:=18) (f:=60) (by decide+kernel);simp only [gat,put,upd,Nat.reduceEqDiff,Nat.reduceAdd,reduceIte,n18,cond_true,cond_false,Xd,Xc,X8,Ye,XT,XX];apply ik;exact rfl;exact pK;exact rfl;exact fun _=>rfl|refine zZK ?_|refine sM fun _=>?_|refine sC ?_ ?_<;>intro hb<;>try omega|refine sCX ?_ ?_<;>intro hb<;>try omega|fail
 refine xj rfl rfl rfl (fun D ht=> ?_) ?_
 ·have n5:D 5=false:=ht.not;have n2:D 2=true:=ht.early (i:=2) (f:=60) (by decide+kernel);have n8:D 8=false:=ht.late (j:=8) (f:=60) (by decide+kernel);have n11:D 11=false:=ht.late (j:=11) (f:=60) (by decide+kernel);have n14:D 14=false:=ht.late (j:=14) (f:=60) (by decide+kernel);have n16:D 16=false:=ht.late (j:=16) (f:=60) (by decide+kernel);have n18:D 18=false:=ht.late (j:=18) (f:=60) (by decide+kernel);have n20:D 20=false:=ht.late (j:=20) (f:=60) (by decide+kernel);have n22:D 22=false:=ht.late (j:=22) (f:=60) (by decide+kernel);have n24:D 24=false:=ht.late (j:=24) (f:=60) (by decide+kernel);simp only [gat,put,upd,Nat.reduceEqDiff,Nat.reduceAdd,reduceIte,n2,n5,n8,n11,n14,n16,n18,n20,n22,n24,cond_true,cond_false,Xd,Xc,X8,Ye,XT,XX];(with_reducible apply aw (f:=73));exact rfl;exact rfl;intro w' hm;exact h2 w' _ hm;rintro _ _ ⟨A',c',rfl,rfl⟩;refine oo ⟨rfl,(A',c'),rfl,?_⟩;simp only [gat,put,upd,Nat.reduceEqDiff,Nat.reduceAdd,reduceIte,n2,n5,n8,n11,n14,n16,n18,n20,n22,n24,cond_true,cond_false,Xd,Xc,X8,Ye,XT,XX];exact mS
 repeat' first|apply DW (d:=10);(iterate 3 exact rfl);intro D ht;have n20:D 20=false:=ht.late (j:=20) (f:=60) (by decide+kernel);simp only [gat,put,upd,Nat.reduceEqDiff,Nat.reduceAdd,reduceIte,n20,cond_true,cond_false,Xd,Xc,X8,Ye,XT,XX];apply ik;exact rfl;exact pK;exact rfl;exact fun _=>rfl|refine zZK ?_|refine sM fun _=>?_|refine sC ?_ ?_<;>intro hb<;>try omega|refine sCX ?_ ?_<;>intro hb<;>try omega|fail
 refine xj rfl rfl rfl (fun D ht=> ?_) ?_
 ·have n8:D 8=false:=ht.not;have n2:D 2=true:=ht.early (i:=2) (f:=60) (by decide+kernel);have n5:D 5=true:=ht.early (i:=5) (f:=60) (by decide+kernel);have n11:D 11=false:=ht.late (j:=11) (f:=60) (by decide+kernel);have n14:D 14=false:=ht.late (j:=14) (f:=60) (by decide+kernel);have n16:D 16=false:=ht.late (j:=16) (f:=60) (by decide+kernel);have n18:D 18=false:=ht.late (j:=18) (f:=60) (by decide+kernel);have n20:D 20=false:=ht.late (j:=20) (f:=60) (by decide+kernel);have n22:D 22=false:=ht.late (j:=22) (f:=60) (by decide+kernel);have n24:D 24=false:=ht.late (j:=24) (f:=60) (by decide+kernel);simp only [gat,put,upd,Nat.reduceEqDiff,Nat.reduceAdd,reduceIte,n2,n5,n8,n11,n14,n16,n18,n20,n22,n24,cond_true,cond_false,Xd,Xc,X8,Ye,XT,XX];(with_reducible apply aw (f:=74));exact rfl;exact rfl;intro w' hm;exact h3 w' _ hm;rintro _ _ ⟨A',c',rfl,rfl⟩;refine oo ⟨rfl,(A',c'),rfl,?_⟩;simp only [gat,put,upd,Nat.reduceEqDiff,Nat.reduceAdd,reduceIte,n2,n5,n8,n11,n14,n16,n18,n20,n22,n24,cond_true,cond_false,Xd,Xc,X8,Ye,XT,XX];exact mS
 repeat' first|apply DW (d:=13);(iterate 3 exact rfl);intro D ht;have n22:D 22=false:=ht.late (j:=22) (f:=60) (by decide+kernel);simp only [gat,put,upd,Nat.reduceEqDiff,Nat.reduceAdd,reduceIte,n22,cond_true,cond_false,Xd,Xc,X8,Ye,XT,XX];apply ik;exact rfl;exact pK;exact rfl;exact fun _=>rfl|refine zZK ?_|refine sM fun _=>?_|refine sC ?_ ?_<;>intro hb<;>try omega|refine sCX ?_ ?_<;>intro hb<;>try omega|fail
 refine xj rfl rfl rfl (fun D ht=> ?_) ?_
 ·have n11:D 11=false:=ht.not;have n2:D 2=true:=ht.early (i:=2) (f:=60) (by decide+kernel);have n5:D 5=true:=ht.early (i:=5) (f:=60) (by decide+kernel);have n8:D 8=true:=ht.early (i:=8) (f:=60) (by decide+kernel);have n14:D 14=false:=ht.late (j:=14) (f:=60) (by decide+kernel);have n16:D 16=false:=ht.late (j:=16) (f:=60) (by decide+kernel);have n18:D 18=false:=ht.late (j:=18) (f:=60) (by decide+kernel);have n20:D 20=false:=ht.late (j:=20) (f:=60) (by decide+kernel);have n22:D 22=false:=ht.late (j:=22) (f:=60) (by decide+kernel);have n24:D 24=false:=ht.late (j:=24) (f:=60) (by decide+kernel);simp only [gat,put,upd,Nat.reduceEqDiff,Nat.reduceAdd,reduceIte,n2,n5,n8,n11,n14,n16,n18,n20,n22,n24,cond_true,cond_false,Xd,Xc,X8,Ye,XT,XX];(with_reducible apply aw (f:=75));exact rfl;exact rfl;intro w' hm;exact h4 w' _ hm;rintro _ _ ⟨A',c',rfl,rfl⟩;refine oo ⟨rfl,(A',c'),rfl,?_⟩;simp only [gat,put,upd,Nat.reduceEqDiff,Nat.reduceAdd,reduceIte,n2,n5,n8,n11,n14,n16,n18,n20,n22,n24,cond_true,cond_false,Xd,Xc,X8,Ye,XT,XX];exact mS
 repeat' first|apply DW (d:=16);(iterate 3 exact rfl);intro D ht;have n24:D 24=false:=ht.late (j:=24) (f:=60) (by decide+kernel);simp only [gat,put,upd,Nat.reduceEqDiff,Nat.reduceAdd,reduceIte,n24,cond_true,cond_false,Xd,Xc,X8,Ye,XT,XX];apply ik;exact rfl;exact pK;exact rfl;exact fun _=>rfl|refine zZK ?_|refine sM fun _=>?_|refine sC ?_ ?_<;>intro hb<;>try omega|refine sCX ?_ ?_<;>intro hb<;>try omega|fail
 refine xj rfl rfl rfl (fun D ht=> ?_) ?_
 ·have n14:D 14=false:=ht.not;have n2:D 2=true:=ht.early (i:=2) (f:=60) (by decide+kernel);have n5:D 5=true:=ht.early (i:=5) (f:=60) (by decide+kernel);have n8:D 8=true:=ht.early (i:=8) (f:=60) (by decide+kernel);have n11:D 11=true:=ht.early (i:=11) (f:=60) (by decide+kernel);have n16:D 16=false:=ht.late (j:=16) (f:=60) (by decide+kernel);have n18:D 18=false:=ht.late (j:=18) (f:=60) (by decide+kernel);have n20:D 20=false:=ht.late (j:=20) (f:=60) (by decide+kernel);have n22:D 22=false:=ht.late (j:=22) (f:=60) (by decide+kernel);have n24:D 24=false:=ht.late (j:=24) (f:=60) (by decide+kernel);simp only [gat,put,upd,Nat.reduceEqDiff,Nat.reduceAdd,reduceIte,n2,n5,n8,n11,n14,n16,n18,n20,n22,n24,cond_true,cond_false,Xd,Xc,X8,Ye,XT,XX];(with_reducible apply aw (f:=76));exact rfl;exact rfl;intro w' hm;exact h5 w' _ hm;rintro _ _ ⟨A',c',rfl,rfl⟩;refine oo ⟨rfl,(A',c'),rfl,?_⟩;simp only [gat,put,upd,Nat.reduceEqDiff,Nat.reduceAdd,reduceIte,n2,n5,n8,n11,n14,n16,n18,n20,n22,n24,cond_true,cond_false,Xd,Xc,X8,Ye,XT,XX];exact mS
 repeat' first|refine zZK ?_|refine sM fun _=>?_|refine sC ?_ ?_<;>intro hb<;>try omega|refine sCX ?_ ?_<;>intro hb<;>try omega|fail
 refine xg (T:=28) (vs:= [sl (γ 2).1 b.ents.length (γ 2).2]) rfl rfl rfl rfl rfl rfl rfl (fun D ht=> ?_) ?_
 ·have n16:D 16=false:=ht.not;have n2:D 2=true:=ht.early (i:=2) (f:=60) (by decide+kernel);have n5:D 5=true:=ht.early (i:=5) (f:=60) (by decide+kernel);have n8:D 8=true:=ht.early (i:=8) (f:=60) (by decide+kernel);have n11:D 11=true:=ht.early (i:=11) (f:=60) (by decide+kernel);have n14:D 14=true:=ht.early (i:=14) (f:=60) (by decide+kernel);simp only [gat,put,upd,Nat.reduceEqDiff,Nat.reduceAdd,reduceIte,n2,n5,n8,n11,n14,n16,cond_true,cond_false,Xd,Xc,X8,Ye,XT,XX];refine ⟨_,_,.hd,?_,?_⟩
  ·exact Y2 rfl
  ·exact mS
 repeat' first|refine zZK ?_|refine sM fun _=>?_|refine sC ?_ ?_<;>intro hb<;>try omega|refine sCX ?_ ?_<;>intro hb<;>try omega|fail
 refine xg (T:=28) (vs:= [sl (γ 5).1 b.rules.length (γ 5).2]) rfl rfl rfl rfl rfl rfl rfl (fun D ht=> ?_) ?_
 ·have n18:D 18=false:=ht.not;have n2:D 2=true:=ht.early (i:=2) (f:=60) (by decide+kernel);have n5:D 5=true:=ht.early (i:=5) (f:=60) (by decide+kernel);have n8:D 8=true:=ht.early (i:=8) (f:=60) (by decide+kernel);have n11:D 11=true:=ht.early (i:=11) (f:=60) (by decide+kernel);have n14:D 14=true:=ht.early (i:=14) (f:=60) (by decide+kernel);simp only [gat,put,upd,Nat.reduceEqDiff,Nat.reduceAdd,reduceIte,n2,n5,n8,n11,n14,n18,cond_true,cond_false,Xd,Xc,X8,Ye,XT,XX];refine ⟨_,_,.hd,?_,?_⟩
  ·exact Y2 rfl
  ·exact mS
 repeat' first|refine zZK ?_|refine sM fun _=>?_|refine sC ?_ ?_<;>intro hb<;>try omega|refine sCX ?_ ?_<;>intro hb<;>try omega|fail
 refine xg (T:=28) (vs:= [sl (γ 8).1 b.grants.length (γ 8).2]) rfl rfl rfl rfl rfl rfl rfl (fun D ht=> ?_) ?_
 ·have n20:D 20=false:=ht.not;have n2:D 2=true:=ht.early (i:=2) (f:=60) (by decide+kernel);have n5:D 5=true:=ht.early (i:=5) (f:=60) (by decide+kernel);have n8:D 8=true:=ht.early (i:=8) (f:=60) (by decide+kernel);have n11:D 11=true:=ht.early (i:=11) (f:=60) (by decide+kernel);have n14:D 14=true:=ht.early (i:=14) (f:=60) (by decide+kernel);simp only [gat,put,upd,Nat.reduceEqDiff,Nat.reduceAdd,reduceIte,n2,n5,n8,n11,n14,n20,cond_true,cond_false,Xd,Xc,X8,Ye,XT,XX];refine ⟨_,_,.hd,?_,?_⟩
  ·exact Y2 rfl
  ·exact mS
 repeat' first|refine zZK ?_|refine sM fun _=>?_|refine sC ?_ ?_<;>intro hb<;>try omega|refine sCX ?_ ?_<;>intro hb<;>try omega|fail
 refine xg (T:=28) (vs:= [sl (γ 11).1 b.log.length (γ 11).2]) rfl rfl rfl rfl rfl rfl rfl (fun D ht=> ?_) ?_
 ·have n22:D 22=false:=ht.not;have n2:D 2=true:=ht.early (i:=2) (f:=60) (by decide+kernel);have n5:D 5=true:=ht.early (i:=5) (f:=60) (by decide+kernel);have n8:D 8=true:=ht.early (i:=8) (f:=60) (by decide+kernel);have n11:D 11=true:=ht.early (i:=11) (f:=60) (by decide+kernel);have n14:D 14=true:=ht.early (i:=14) (f:=60) (by decide+kernel);simp only [gat,put,upd,Nat.reduceEqDiff,Nat.reduceAdd,reduceIte,n2,n5,n8,n11,n14,n22,cond_true,cond_false,Xd,Xc,X8,Ye,XT,XX];refine ⟨_,_,.hd,?_,?_⟩
  ·exact Y2 rfl
  ·exact mS
 repeat' first|refine zZK ?_|refine sM fun _=>?_|refine sC ?_ ?_<;>intro hb<;>try omega|refine sCX ?_ ?_<;>intro hb<;>try omega|fail
 refine xg (T:=28) (vs:= [sl (γ 14).1 b.rels.length (γ 14).2]) rfl rfl rfl rfl rfl rfl rfl (fun D ht=> ?_) ?_
 ·have n24:D 24=false:=ht.not;have n2:D 2=true:=ht.early (i:=2) (f:=60) (by decide+kernel);have n5:D 5=true:=ht.early (i:=5) (f:=60) (by decide+kernel);have n8:D 8=true:=ht.early (i:=8) (f:=60) (by decide+kernel);have n11:D 11=true:=ht.early (i:=11) (f:=60) (by decide+kernel);have n14:D 14=true:=ht.early (i:=14) (f:=60) (by decide+kernel);simp only [gat,put,upd,Nat.reduceEqDiff,Nat.reduceAdd,reduceIte,n2,n5,n8,n11,n14,n24,cond_true,cond_false,Xd,Xc,X8,Ye,XT,XX];refine ⟨_,_,.hd,?_,?_⟩
  ·exact Y2 rfl
  ·exact mS
 repeat' first|refine zZK ?_|refine sM fun _=>?_|refine sC ?_ ?_<;>intro hb<;>try omega|refine sCX ?_ ?_<;>intro hb<;>try omega|fail
 intro D hD;have n2:=hD 2 (by decide);have n5:=hD 5 (by decide);have n8:=hD 8 (by decide);have n11:=hD 11 (by decide);have n14:=hD 14 (by decide);have n16:=hD 16 (by decide);have n18:=hD 18 (by decide);have n20:=hD 20 (by decide);have n22:=hD 22 (by decide);have n24:=hD 24 (by decide);simp only [gat,put,upd,Nat.reduceEqDiff,Nat.reduceAdd,reduceIte,n2,n5,n8,n11,n14,n16,n18,n20,n22,n24,cond_true,cond_false,Xd,Xc,X8,Ye,XT,XX];repeat' (first|refine zZB ?_|refine sM fun _=>?_|refine sC ?_ ?_<;>intro hb<;>try omega|fail)
 exact zL (.inl rfl) rfl rfl pK rfl (H' :=iB b ⟨(γ 2).1,(γ 5).1,(γ 8).1,(γ 11).1,(γ 14).1,(γ 2).2,(γ 5).2,(γ 8).2,(γ 11).2,(γ 14).2⟩) (by unfold iB;exact mS) ⟨⟨(γ 2).1,(γ 5).1,(γ 8).1,(γ 11).1,(γ 14).1,(γ 2).2,(γ 5).2,(γ 8).2,(γ 11).2,(γ 14).2⟩,rfl,rfl⟩
open Go.ChangeAt Go.ChangeShapes Go.Deep Go.RowKit Go.WideShapes
section
variable {H:Type} {enc:TypeId × Value→H} {w:World} {base:Nat} {spare:Nat→Bool} {held:Bool}
theorem kQ {P:Program} {t e:TypeId} {A:Option Addr} {m c fuel:Nat} {x:DataW H × List MemPlace} (ht:P.underlying t=some (.slice e)) (h:DataW.trod enc P w base spare held fuel t [.slice A m c]=some x) {B:Nat} (hB: ∀ n∈x.1.weights P t,n≤B):m*P.bytesOf e≤B:=by
 rcases open_slice ht h with ⟨h0,_⟩|⟨a,len,cap,mm,n,D,Pl,h0,hb,hl,hmx,hmm,hxe,hx⟩
 ·simp only [List.cons.injEq,Value.slice.injEq,and_true] at h0;rw [h0.2.1,Zt];exact Xn _
 ·simp only [List.cons.injEq,Value.slice.injEq,and_true] at h0;obtain ⟨_,rfl,_⟩:=h0
  have h1:=hB (((List.range m).map D).length*P.bytesOf e+((List.range (mm - m)).map fun j=>D (m+j)).length*P.bytesOf e) (by
   rw [hxe,← Y7];simp only [DataW.weights,ht];exact Xb)
  rw [Xq,ZJ] at h1;exact XU (Nat.le_add_right _ _) h1
set_option maxRecDepth 100000 in
theorem ny {b:Bk} {x:Bv} {d:DataW H} {p:List MemPlace} (h:DataW.Trod enc Tryz.prog w 0 spare held 28 (.agg (bg b x).toArray) d p) (hB: ∀ n∈d.weights Tryz.prog 28,n≤reachBytes):SmallW b:=by
 obtain ⟨fuel,hf⟩:=h;have hcs:(Value.agg (bg b x).toArray).cells.toList=bg b x:=by simp [Value.cells]
 rw [hcs] at hf;obtain ⟨xs,n,_,hd,hlen,hxl,hg⟩:=DataW.trod_struct Tryz.underlying28 hf;have e_e:Tryz.prog.cellsOf 22=1:=by kernel_rfl
 have e_r:Tryz.prog.cellsOf 23=1:=by kernel_rfl
 have e_g:Tryz.prog.cellsOf 24=1:=by kernel_rfl
 have e_l:Tryz.prog.cellsOf 25=1:=by kernel_rfl
 have e_s:Tryz.prog.cellsOf 26=1:=by kernel_rfl
 match xs,hxl with
 | [x0,x1,x2,x3,x4,x5,x6],_=>
  have h1:DataW.trod enc Tryz.prog w 0 spare held n 22 (((bg b x).drop 1).take (Tryz.prog.cellsOf 22))=some x1:=hg 1 _ rfl;have h2:DataW.trod enc Tryz.prog w 0 spare held n 23 (((bg b x).drop 2).take (Tryz.prog.cellsOf 23))=some x2:=hg 2 _ rfl;have h3:DataW.trod enc Tryz.prog w 0 spare held n 24 (((bg b x).drop 3).take (Tryz.prog.cellsOf 24))=some x3:=hg 3 _ rfl;have h4:DataW.trod enc Tryz.prog w 0 spare held n 25 (((bg b x).drop 4).take (Tryz.prog.cellsOf 25))=some x4:=hg 4 _ rfl;have h5:DataW.trod enc Tryz.prog w 0 spare held n 26 (((bg b x).drop 5).take (Tryz.prog.cellsOf 26))=some x5:=hg 5 _ rfl;rw [e_e] at h1;rw [e_r] at h2;rw [e_g] at h3;rw [e_l] at h4;rw [e_s] at h5;have hd1:d=DataW.agg [x0.1,x1.1,x2.1,x3.1,x4.1,x5.1,x6.1]:=congrArg Prod.fst hd;rw [hd1] at hB;simp only [DataW.weights,Tryz.underlying28,XD,XR,DataW.weightsEach,Xr] at hB;have b1:=kQ Tryz.underlying22 h1 (B:=reachBytes) fun n hn=>hB n (.inr (.inl hn));have b2:=kQ Tryz.underlying23 h2 (B:=reachBytes) fun n hn=>hB n (.inr (.inr (.inl hn)));have b3:=kQ Tryz.underlying24 h3 (B:=reachBytes) fun n hn=>hB n (.inr (.inr (.inr (.inl hn))));have b4:=kQ Tryz.underlying25 h4 (B:=reachBytes) fun n hn=>hB n (.inr (.inr (.inr (.inr (.inl hn)))));have b5:=kQ Tryz.underlying26 h5 (B:=reachBytes) fun n hn=>hB n (.inr (.inr (.inr (.inr (.inr (.inl hn))))));rw [show Tryz.prog.bytesOf 79=32 by kernel_rfl] at b1;rw [show Tryz.prog.bytesOf 137=56 by kernel_rfl] at b2;rw [show Tryz.prog.bytesOf 76=64 by kernel_rfl] at b3;rw [show Tryz.prog.bytesOf 147=72 by kernel_rfl] at b4;rw [show Tryz.prog.bytesOf 149=88 by kernel_rfl] at b5;exact ⟨b1,b2,b3,b4,b5⟩
end
def PY (b:ByteArray):ByteArray:=b.extract 0 (min b.size 300)
def GN (e:Et):Et:=⟨e.at_,PY e.input⟩
def smU (u:Int):Int:=if 8<u∧u≤64 then 8 else min u 65
def aO (b:Bk):Bk:=⟨smU b.users,(b.ents.take 24).map GN,b.rules.take 6,b.grants.take 6,b.log.take 20,b.rels.take 20,b.step⟩
def smT (E:List Et) (i:Nat):List Et:=(E.take i).map GN++E.drop i
theorem sA (E:List Et) (i:Nat):(smT E i).length=E.length:=by unfold smT;rw [Xa,Xq,XA,Ya];omega
theorem Kg {E:List Et} {i:Nat} (h:i<E.length) (h' :i<(smT E i).length):(smT E i)[i]=E[i]:=by
 have h1:(smT E i)[i]? =some E[i]:=by
  unfold smT;rw [Yd (by simp;omega)];simp [show min i E.length=i by omega,h]
 rw [Xf h'] at h1;exact Option.some.inj h1
theorem Rt {E:List Et} {i:Nat} (h:i<E.length):(smT E i).set i (GN E[i])=smT E (i+1):=by
 have hl:=sA E i;unfold smT at hl ⊢;apply Yw;intro j;rw [List.getElem?_set];by_cases e:i=j
 ·subst e;rw [if_pos rfl,if_pos (by omega),XW (by simp;omega)];simp [h]
 ·rw [if_neg e];rcases Y1 j i with h|h
  ·rw [XW (by simp;omega),XW (by simp;omega)];simp [show j<i by omega,show j<i+1 by omega]
  ·rw [Yd (by simp;omega),Yd (by simp;omega)];simp only [Xq,XA,Zo];congr 1;omega
theorem Od {E:List Et} {i:Nat} (h:i<E.length):((smT E i).flatMap bN)[0+i*3+2]? =some (.string E[i].input):=by
 have h' :i<(smT E i).length:=by rw [sA];exact h
 rw [Xv,jw dx _ i 2 h' (by decide),Kg h h'];rfl
theorem Oc {E:List Et} {i:Nat} (h:i<E.length):((smT E i).flatMap bN).set (0+i*3+2) (.string (PY E[i].input))=(smT E (i+1)).flatMap bN:=by
 have h' :i<(smT E i).length:=by rw [sA];exact h
 rw [← Rt h,Xv];exact uR dx _ i 2 h' (by decide) _ _ (by rw [Kg h h'];rfl)
def iw (b:Bk) (a:Bo):List Blk:= [.own a.e 79 3 b.ents.length a.ce ((smT b.ents (aO b).ents.length).flatMap bN),.own a.r 137 7 b.rules.length a.cr (b.rules.flatMap bQ),.own a.g 76 8 b.grants.length a.cg (b.grants.flatMap cD),.own a.l 147 9 b.log.length a.cl (b.log.flatMap fF),.own a.s 149 11 b.rels.length a.cs (b.rels.flatMap fE)]
theorem jX {α:Type} {enc:α→List Value} {k:Nat} (hk: ∀ a,(enc a).length=k) {w0 w:World} {H:List Blk} (hm:Mem w0 w H) {A:Option Nat} {T c:Nat} {L:List α} (n:Nat) (h:In (.own A T k L.length c (L.flatMap enc)) H):Reads w (sl A (L.take n).length c) (L.take n).length ((L.take n).flatMap enc):=by
 have h1:=Reads.of_own_take hm h (k:=(L.take n).length) (by rw [XA];omega);rw [jv hk] at h1;have e:L.take (L.take n).length=L.take n:=by
  rw [XA];rcases Nat.le_total n L.length with h|h
  ·rw [YO h]
  ·rw [Nat.min_eq_right h,XF,YE h]
 rwa [e] at h1
theorem BRd.of_sml {w0 w:World} {H:List Blk} {b:Bk} {a:Bo} (hm:Mem w0 w H) (h1:In (.own a.e 79 3 b.ents.length a.ce ((smT b.ents (aO b).ents.length).flatMap bN)) H) (h2:In (.own a.r 137 7 b.rules.length a.cr (b.rules.flatMap bQ)) H) (h3:In (.own a.g 76 8 b.grants.length a.cg (b.grants.flatMap cD)) H) (h4:In (.own a.l 147 9 b.log.length a.cl (b.log.flatMap fF)) H) (h5:In (.own a.s 149 11 b.rels.length a.cs (b.rels.flatMap fE)) H):BRd w (aO b) a.v:=by
 refine ⟨?_,jX dw hm 6 h2,jX jy hm 6 h3,jX mP hm 20 h4,jX mM hm 20 h5⟩;have hl:(aO b).ents.length=min 24 b.ents.length:=by show ((b.ents.take 24).map GN).length=_;rw [Xq,XA]
 rw [← sA b.ents (aO b).ents.length] at h1;have h6:=jX dx hm (aO b).ents.length h1;have e:(smT b.ents (aO b).ents.length).take (aO b).ents.length=(aO b).ents:=by
  show ((b.ents.take (aO b).ents.length).map GN++b.ents.drop (aO b).ents.length).take (aO b).ents.length=(b.ents.take 24).map GN;rw [YP (by rw [Xq,XA];omega),YE (by rw [Xq,XA];omega),hl];congr 1;rcases Nat.le_total 24 b.ents.length with h|h
  ·rw [YO h]
  ·rw [Nat.min_eq_right h,XF,YE h]
 rwa [e] at h6
theorem Ub {P:Program} {w0:World} {s:az} {H:List Blk} {ty:TypeId} {x:Operand} {a m:Int} {ts:Array TypeId} (he:(if (65:Int)<a then 65 else a)=m) (hx:ev s x=some (.int .i64 a)):
 VOp P w0 s H (.call { callee:= .builtin .min,args:= #[x,.const (.int .i64 65)],argTypes:=ts }) ty (.int .i64 m):=he ▸ Aj hx rfl
theorem nV (b:Bk) (x:Bv) (w:World) (h:BRd w b x) (hs:SmallW b):FnAt Tryz.prog 16 [.agg (bg b x).toArray] w fun v H=> ∃ a:Bo,v= .agg (bg (aO b) a.v).toArray∧H=iw b a:=by
 refine aB Tryz.func16 rfl Tryz.ntmps16 rfl ?_;have hC:=fun (w' :World) (H:List Blk) (hm:Mem w w' H)=>DT b x w' (h.of_w0 hm) hs;have hme:min b.ents.length 24=(aO b).ents.length:=by show _=((b.ents.take 24).map GN).length;rw [Xq,XA];omega
 have hmr:min b.rules.length 6=(b.rules.take 6).length:=by rw [XA];omega
 have hmg:min b.grants.length 6=(b.grants.take 6).length:=by rw [XA];omega
 have hml:min b.log.length 20=(b.log.take 20).length:=by rw [XA];omega
 have hms:min b.rels.length 20=(b.rels.take 20).length:=by rw [XA];omega
 obtain ⟨us,ents,rules,grants,log,rels,st⟩:=b;dsimp only at hme hmr hmg hml hms;simp only [bg] at hC ⊢;generalize hmE:(aO ⟨us,ents,rules,grants,log,rels,st⟩).ents.length=m at hme;repeat' (first|refine zZJ ?_|refine sM fun _=>?_|refine sC ?_ ?_<;>intro hb<;>try omega|fail)
 all_goals try omega
 rename_i g1 g2;repeat' (first|apply aw (f:=38);exact rfl;exact rfl;intro w' hm;exact hC w' _ hm;rintro _ _ ⟨⟨ae,ar,ag,al,as_,ce,cr,cg,cl,cs⟩,rfl,rfl⟩;unfold iB;simp only [Bo.v,Xc,Xd];refine Ec (A:=ae) pK fun ke=> ?_;refine Ec (A:=ar) pK fun kr=> ?_;refine Ec (A:=ag) pK fun kg=> ?_;refine Ec (A:=al) pK fun kl=> ?_;refine Ec (A:=as_) pK fun ks=> ?_|apply ak (d:=17);exact rfl;refine Ub (m:=smU us) ?_ rfl;unfold smU;split<;>split<;>omega|apply ak (d:=24);exact rfl;apply oE (a:=ents.length) (b:=24);exact rfl;exact rfl;exact hme|apply ak (d:=25);exact rfl;apply lZ (A:=ae) (hi:=m);exact rfl;exact rfl;omega|apply ak (d:=32);exact rfl;apply oE (a:=rules.length) (b:=6);exact rfl;exact rfl;exact hmr|apply ak (d:=33);exact rfl;apply lZ (A:=ar) (hi:=(rules.take 6).length);exact rfl;exact rfl;omega|apply ak (d:=40);exact rfl;apply oE (a:=grants.length) (b:=6);exact rfl;exact rfl;exact hmg|apply ak (d:=41);exact rfl;apply lZ (A:=ag) (hi:=(grants.take 6).length);exact rfl;exact rfl;omega|apply ak (d:=48);exact rfl;apply oE (a:=log.length) (b:=20);exact rfl;exact rfl;exact hml|apply ak (d:=49);exact rfl;apply lZ (A:=al) (hi:=(log.take 20).length);exact rfl;exact rfl;omega|apply ak (d:=56);exact rfl;apply oE (a:=rels.length) (b:=20);exact rfl;exact rfl;exact hms|apply ak (d:=57);exact rfl;apply lZ (A:=as_) (hi:=(rels.take 20).length);exact rfl;exact rfl;omega|refine zZD ?_|refine sM fun _=>?_|refine sC ?_ ?_<;>intro hb<;>try omega|fail)
 all_goals try omega
 all_goals
  refine ax [1,2] rfl (fun i:Nat=> [(3,.int .i64 (i:Int))]) (fun i=> .box g1 28 [.int .i64 (smU us),sl ae m ce,sl ar (rules.take 6).length cr,sl ag (grants.take 6).length cg,sl al (log.take 20).length cl,sl as_ (rels.take 20).length cs,.int .i64 st]:: .own ae 79 3 ents.length ce ((smT ents i).flatMap bN):: .own ar 137 7 rules.length cr (rules.flatMap bQ):: .own ag 76 8 grants.length cg (grants.flatMap cD):: .own al 147 9 log.length cl (log.flatMap fF):: .own as_ 149 11 rels.length cs (rels.flatMap fE):: .box g2 28 [.int .i64 0,.slice none 0 0,.slice none 0 0,.slice none 0 0,.slice none 0 0,.slice none 0 0,.int .i64 0]:: []) (fun i=>i≤m) (fun i=>m - i) 0 (Xn _) sB mS ?_;rintro i hi;by_cases hlt:i<m
  ·have hlt2:i<ents.length:=by omega
   refine aU (A:=ae) pK (by omega) fun ga hA=> ?_;subst hA;have hc:=Od hlt2;have hst:=Oc hlt2;have hfl:((smT ents i).flatMap bN).length=ents.length*3:=by rw [aR dx,sA]
   generalize ents[i]=et at hc hst;unfold PY at hst;repeat' (first|refine zZD ?_|refine sM fun _=>?_|refine sC ?_ ?_<;>intro hb<;>try omega|fail)
   all_goals try omega
   refine mZ 20 (.box g1 28 [.int .i64 (smU us),sl (some ga) m ce,sl ar (rules.take 6).length cr,sl ag (grants.take 6).length cg,sl al (log.take 20).length cl,sl as_ (rels.take 20).length cs,.int .i64 st]:: .own (some ga) 79 3 ents.length ce ((smT ents (i+1)).flatMap bN):: .own ar 137 7 rules.length cr (rules.flatMap bQ):: .own ag 76 8 grants.length cg (grants.flatMap cD):: .own al 147 9 log.length cl (log.flatMap fF):: .own as_ 149 11 rels.length cs (rels.flatMap fE):: .box g2 28 [.int .i64 0,.slice none 0 0,.slice none 0 0,.slice none 0 0,.slice none 0 0,.slice none 0 0,.int .i64 0]:: []) (by kernel_rfl) (by kernel_rfl) rfl ?_;repeat' (first|apply ru (d:=72) (f:=60);exact rfl;decide+kernel;exact rfl;apply ai (j:=i);exact rfl;exact rfl;exact hlt|apply ru (d:=78) (f:=60);exact rfl;decide+kernel;exact rfl;apply ai (j:=i);exact rfl;exact rfl;exact hlt|apply ru (d:=84) (f:=60);exact rfl;decide+kernel;exact rfl;apply ai (j:=i);exact rfl;exact rfl;exact hlt|apply ru (d:=74) (f:=60);exact rfl;decide+kernel;exact rfl;apply bB;exact rfl;exact pK;exact hc|apply ru (d:=80) (f:=60);exact rfl;decide+kernel;exact rfl;apply bB;exact rfl;exact pK;exact hc|apply ru (d:=82) (f:=60);exact rfl;decide+kernel;exact rfl;apply oE (a:=et.input.size) (b:=300);(iterate 3 exact rfl)|apply ru (d:=83) (f:=60);exact rfl;decide+kernel;exact rfl;apply AB;exact rfl;exact rfl;omega|apply EB;exact rfl;exact rfl;exact pK;exact rfl;omega;rw [hst];exact mS|refine sT ?_|refine sS ?_|refine sT2 ?_|refine sG2 ?_|refine sN ?_|refine sG ?_|refine sM fun _=>?_|refine sC ?_ ?_<;>intro hb<;>try omega|fail)
   all_goals try omega
   refine ⟨i+1,hlt,by omega,by exact sB,by exact sB,by exact mS⟩
  ·have e:i=m:=by omega
   subst e;repeat' (first|refine zZD ?_|refine sM fun _=>?_|refine sC ?_ ?_<;>intro hb<;>try omega|fail)
   all_goals try omega
   exact zL eIO rfl rfl pK rfl (H' :=iw ⟨us,ents,rules,grants,log,rels,st⟩ ⟨ae,ar,ag,al,as_,ce,cr,cg,cl,cs⟩) (by simp only [iw,hmE];exact mS) ⟨⟨ae,ar,ag,al,as_,ce,cr,cg,cl,cs⟩,rfl,rfl⟩
end Go.SL

/-
  Lemmas and walks, put together: Jj Jk Jm Jl.
-/
import Derived.Test.YthefeclkaaocnaaGreatDoorKb22
set_option linter.unusedSimpArgs false
set_option linter.unusedVariables false
set_option maxRecDepth 20000
namespace Go.SL
open Go Go.Proofs
attribute [local irreducible] W WL WQ WG WA WX WLI WR WT WC WE VOp RW thn blk cutP scp retP retPP endB FnAt FnIn FnP ceP
theorem KEqualEv_at (L M:List Ev) (lv mv:Value) (w:World) (hl:Reads w lv L.length (L.flatMap encEv)) (hm:Reads w mv M.length (M.flatMap encEv)):
  Pure Tryz.prog 15 [lv,mv] w (.bool (decide (L=M))):=by
 obtain ⟨Al,cl,rfl,hl1,hl2,hl3⟩:=hl
 obtain ⟨Am,cm,rfl,hm1,hm2,hm3⟩:=hm
 refine fn_at Tryz.func15 rfl Tryz.ntmps15 rfl ?_
 by_cases hlen:L.length=M.length
 ·
  repeat' (first|refine sT ?_|refine sS ?_|refine sM fun _=> ?_|(refine sC ?_ ?_<;>intro hb<;>try omega)|fail)
  refine w_loop (fun i:Nat=> [(0,.slice Al L.length cl),(1,.slice Am M.length cm),(5,.int .i64 (i:Int))]) (fun _=> []) (fun i=>i≤L.length∧decide (L=M)=decide (L.drop i=M.drop i)) (fun i=>L.length - i) 0 ⟨by omega,rfl⟩ ?_ ?_ ?_
  ·
   exact sB
  ·
   exact mS
  ·
   rintro i ⟨hi,hrec⟩
   by_cases hlt:i<L.length
   ·
    have hlt2:i<M.length:=by omega
    obtain ⟨gl,ol,rfl,hrl⟩:=hl3 (by omega)
    obtain ⟨gm,om,rfl,hrm⟩:=hm3 (by omega)
    have he1:=hrl.elem encEv_len i hlt
    have he2:=hrm.elem encEv_len i hlt2
    rw [eq_drop hlt hlt2,← eqEv_dec] at hrec
    repeat' (first|((with_reducible apply wq_v);exact rfl;(with_reducible apply v_indexAddr);exact rfl;exact rfl;(first|exact hlt|exact hlt2))|((with_reducible apply wq_v);exact rfl;(with_reducible apply v_loadw_ro);exact rfl;(first|exact he1|exact he2);exact rfl)|((with_reducible apply wq_v);exact rfl;(with_reducible apply v_neqEv);exact rfl;exact rfl)|((with_reducible apply wl_v);exact rfl;(with_reducible apply v_succN);exact rfl;exact rfl;(simp only [maxLen] at*;omega))|refine sT ?_|refine sS ?_|refine sQ ?_|refine sD ?_|refine sM fun _=> ?_|(refine sC ?_ ?_<;>intro hb<;>try omega)|(refine sCQ ?_ ?_<;>intro hb<;>try omega)|fail)
    all_goals first
     |(exfalso;omega)
     |((refine rT1 ?_);rw [hrec];simp_all;done)
     |(refine ⟨i+1,⟨by omega,?_⟩,by omega,by exact sB,by exact mS⟩;rw [hrec];simp_all;done)
     |trace_state
   ·
    have e:i=L.length:=by omega
    subst e
    repeat' (first|refine sT ?_|refine sS ?_|refine sM fun _=> ?_|(refine sC ?_ ?_<;>intro hb<;>try omega)|fail)
    (refine rT1 ?_)
    rw [hrec,List.drop_length,hlen,List.drop_length]
    rfl
 ·
  repeat' (first|refine sT ?_|refine sS ?_|refine sM fun _=> ?_|(refine sC ?_ ?_<;>intro hb<;>try omega)|fail)
  (refine rT1 ?_)
  rw [decide_eq_false]
  intro e
  exact hlen (congrArg List.length e)
theorem KEqualGn_at (L M:List Gn) (lv mv:Value) (w:World) (hl:Reads w lv L.length (L.flatMap encGn)) (hm:Reads w mv M.length (M.flatMap encGn)):
  Pure Tryz.prog 17 [lv,mv] w (.bool (decide (L=M))):=by
 obtain ⟨Al,cl,rfl,hl1,hl2,hl3⟩:=hl
 obtain ⟨Am,cm,rfl,hm1,hm2,hm3⟩:=hm
 refine fn_at Tryz.func17 rfl Tryz.ntmps17 rfl ?_
 by_cases hlen:L.length=M.length
 ·
  repeat' (first|refine sT ?_|refine sS ?_|refine sM fun _=> ?_|(refine sC ?_ ?_<;>intro hb<;>try omega)|fail)
  refine w_loop (fun i:Nat=> [(0,.slice Al L.length cl),(1,.slice Am M.length cm),(5,.int .i64 (i:Int))]) (fun _=> []) (fun i=>i≤L.length∧decide (L=M)=decide (L.drop i=M.drop i)) (fun i=>L.length - i) 0 ⟨by omega,rfl⟩ ?_ ?_ ?_
  ·
   exact sB
  ·
   exact mS
  ·
   rintro i ⟨hi,hrec⟩
   by_cases hlt:i<L.length
   ·
    have hlt2:i<M.length:=by omega
    obtain ⟨gl,ol,rfl,hrl⟩:=hl3 (by omega)
    obtain ⟨gm,om,rfl,hrm⟩:=hm3 (by omega)
    have he1:=hrl.elem encGn_len i hlt
    have he2:=hrm.elem encGn_len i hlt2
    rw [eq_drop hlt hlt2,← eqGn_dec] at hrec
    repeat' (first|((with_reducible apply wq_v);exact rfl;(with_reducible apply v_indexAddr);exact rfl;exact rfl;(first|exact hlt|exact hlt2))|((with_reducible apply wq_v);exact rfl;(with_reducible apply v_loadw_ro);exact rfl;(first|exact he1|exact he2);exact rfl)|((with_reducible apply wq_v);exact rfl;(with_reducible apply v_neqGn);exact rfl;exact rfl)|((with_reducible apply wl_v);exact rfl;(with_reducible apply v_succN);exact rfl;exact rfl;(simp only [maxLen] at*;omega))|refine sT ?_|refine sS ?_|refine sQ ?_|refine sD ?_|refine sM fun _=> ?_|(refine sC ?_ ?_<;>intro hb<;>try omega)|(refine sCQ ?_ ?_<;>intro hb<;>try omega)|fail)
    all_goals first
     |(exfalso;omega)
     |((refine rT1 ?_);rw [hrec];simp_all;done)
     |(refine ⟨i+1,⟨by omega,?_⟩,by omega,by exact sB,by exact mS⟩;rw [hrec];simp_all;done)
     |trace_state
   ·
    have e:i=L.length:=by omega
    subst e
    repeat' (first|refine sT ?_|refine sS ?_|refine sM fun _=> ?_|(refine sC ?_ ?_<;>intro hb<;>try omega)|fail)
    (refine rT1 ?_)
    rw [hrec,List.drop_length,hlen,List.drop_length]
    rfl
 ·
  repeat' (first|refine sT ?_|refine sS ?_|refine sM fun _=> ?_|(refine sC ?_ ?_<;>intro hb<;>try omega)|fail)
  (refine rT1 ?_)
  rw [decide_eq_false]
  intro e
  exact hlen (congrArg List.length e)
structure Cs where
 op:Ox
 code:Int
 inner:Int
def encCs (c:Cs):List Value:=encOx c.op++ [.int .u8 c.code,.int .i64 c.inner]
theorem encCs_len (c:Cs):(encCs c).length=15:=rfl
def rc31:Rct:=⟨2,1,2,3⟩
def ox0:Ox:=⟨3,1,cellR 2 1,⟨#[53]⟩,0#64,0#64,0#64,0,0#64,0⟩
def ox4:Ox:=⟨4,0,⟨1,1,1,3⟩,emptyB,0#64,0#64,0#64,0,0#64,0⟩
def ox16:Ox:=⟨8,0,rc31,emptyB,0#64,0#64,0#64,1,2#64,0⟩
def ox9:Ox:=⟨9,0,zeroR,emptyB,0#64,0#64,0#64,0,0#64,0⟩
def cases31:List Cs:= [
 ⟨ox0,5,0⟩,
 ⟨⟨3,1,cellR 1 1,⟨#[61,40]⟩,0#64,0#64,0#64,0,0#64,0⟩,6,2⟩,
 ⟨⟨3,1,cellR 2 1,⟨#[61,40]⟩,0#64,0#64,0#64,0,0#64,0⟩,5,0⟩,
 ⟨⟨3,1,cellR 1 1,emptyB,0#64,0#64,0#64,0,0#64,0⟩,0,0⟩,
 ⟨ox4,0,0⟩,
 ⟨⟨5,3,cellR 1 1,emptyB,0#64,0#64,0#64,0,0#64,0⟩,2,0⟩,
 ⟨⟨8,1,cellR 1 1,emptyB,0#64,0#64,0#64,1,8#64,0⟩,2,0⟩,
 ⟨⟨7,1,cellR 1 1,emptyB,0#64,0#64,0#64,0,0#64,0⟩,5,0⟩,
 ⟨ox9,8,0⟩,
 ⟨⟨5,0,⟨1,1,33,32⟩,emptyB,0#64,0#64,0#64,0,0#64,0⟩,7,0⟩,
 ⟨⟨5,0,⟨1,1,32,32⟩,emptyB,0#64,0#64,0#64,0,0#64,0⟩,0,0⟩,
 ⟨⟨5,0,⟨2,1,1,1⟩,emptyB,0#64,0#64,0#64,0,0#64,0⟩,4,0⟩,
 ⟨⟨3,0,cellR 1025 1,⟨#[49]⟩,0#64,0#64,0#64,0,0#64,0⟩,4,0⟩,
 ⟨⟨3,3,cellR 1025 1,⟨#[49]⟩,0#64,0#64,0#64,0,0#64,0⟩,2,0⟩,
 ⟨⟨6,1,cellR 2 1,emptyB,0#64,0#64,0#64,0,0#64,0⟩,5,0⟩,
 ⟨⟨6,2,cellR 1 2,emptyB,0#64,0#64,0#64,0,0#64,0⟩,0,0⟩,
 ⟨ox16,0,0⟩,
 ⟨⟨1,2,zeroR,emptyB,0#64,0#64,0#64,0,0#64,0⟩,0,0⟩,
 ⟨⟨10,2,zeroR,emptyB,0#64,0#64,0#64,0,0#64,0⟩,0,0⟩,
 ⟨zeroOx 0,1,0⟩,
 ⟨⟨10,0,zeroR,emptyB,0#64,0#64,0#64,0,0#64,1⟩,1,0⟩]
def wroteK (k:Int):Bool:=(decide (3≤k) && decide (k≤4))||(decide (7≤k) && decide (k≤9))
def chkCs (c:Cs) (r:Bk × Int × Int × Int):Bool:=
 decide (r.2=(c.code,c.inner,0)) && decide (r.1.step=1) && decide (bkE r.1=0) && (decide (r.1.log.length=1)==(wroteK c.op.kind && (decide (c.code=0)||decide (c.code=5)))) && decide (r.1.rels.length=0)
set_option maxRecDepth 100000 in
theorem cases_ok:(cases31.all fun c=>chkCs c (apV ovC exBk c.op))=true:=by decide+kernel
theorem case_ok {c:Cs} (h:c∈cases31):(apE exBk c.op).2=(c.code,c.inner,0)∧(apE exBk c.op).1.step=1∧bkE (apE exBk c.op).1=0∧((apE exBk c.op).1.log.length=1↔((3≤c.op.kind∧c.op.kind≤4)∨(7≤c.op.kind∧c.op.kind≤9))∧(c.code=0∨c.code=5))∧(apE exBk c.op).1.rels.length=0:=by
 have h1:=List.all_eq_true.1 cases_ok c h
 rw [← apV_eq] at h1
 simp only [chkCs,wroteK,Bool.and_eq_true,decide_eq_true_eq,beq_iff_eq] at h1
 obtain ⟨⟨⟨⟨h2,h3⟩,h4⟩,h5⟩,h6⟩:=h1
 refine ⟨h2,h3,h4,?_,h6⟩
 have h7:=congrArg (fun x=>x=true) h5
 simpa using h7
def smlB (b:Bk):Bool:=decide (b.ents.length≤1000000) && decide (b.rules.length≤1000000) && decide (b.grants.length≤1000000) && decide (b.log.length≤1000000) && decide (b.rels.length≤1000000)
theorem small_of {b:Bk} (h:smlB b=true):Small b:=by
 simp only [smlB,Bool.and_eq_true,decide_eq_true_eq] at h
 exact ⟨h.1.1.1.1,h.1.1.1.2,h.1.1.2,h.1.2,h.2⟩
theorem cases_sml:(cases31.all fun c=>smlB (apV ovC exBk c.op).1)=true:=by decide+kernel
theorem case_sml {c:Cs} (h:c∈cases31):Small (apE exBk c.op).1:=by
 have h1:=List.all_eq_true.1 cases_sml c h
 rw [← apV_eq] at h1
 exact small_of h1
set_option maxRecDepth 100000 in
theorem ap31_0:(apE exBk ox0).1.log= [⟨0,1,3,cellR 2 1,false,3#64⟩]:=by rw [apV_eq];decide+kernel
set_option maxRecDepth 100000 in
theorem ap31_4:(apE exBk ox4).1.ents= [⟨⟨2,1⟩,⟨#[49,48]⟩⟩,⟨⟨2,2⟩,⟨#[50,48]⟩⟩,⟨⟨1,4⟩,inD⟩]:=by rw [apV_eq];decide+kernel
set_option maxRecDepth 100000 in
theorem ap31_16:(apE exBk ox16).1.grants=bkN:=by rw [apV_eq];decide+kernel
set_option maxRecDepth 100000 in
theorem ap31_9:(apE (apE exBk ox16).1 ox9).2=(0,0,0)∧(apE (apE exBk ox16).1 ox9).1.step=2∧(apE (apE exBk ox16).1 ox9).1.grants= [⟨rc31,1,2#64,0,true⟩]:=by
 rw [apV_eq,apV_eq]
 decide+kernel
theorem ap31_9s:Small (apE (apE exBk ox16).1 ox9).1:=by
 rw [apV_eq,apV_eq]
 exact small_of (by decide+kernel)
set_option maxRecDepth 100000 in
theorem ap31_9e:bkE { (apE (apE exBk ox16).1 ox9).1 with step:=1 }=2:=by
 rw [apV_eq,apV_eq]
 decide+kernel
theorem in31_0:inpE exBk ⟨1,2⟩=(⟨#[61,65,49,43,66,49]⟩,0):=by decide+kernel
theorem in31_1:(inpE exBk ⟨0,0⟩).2=3:=by decide+kernel
theorem in31_2:(inpE { exBk with step:= -1 } ⟨0,0⟩).2=2:=by decide+kernel
theorem ck31_0:bkE exBk=0:=by decide+kernel
theorem ck31_1:bkE zeroBk=2:=by decide+kernel
theorem ck31_2:bkE { exBk with step:= -1 }=2:=by decide+kernel
theorem CopyRules_at (L:List Rl) (tv:Value) (w:World) (ht:Reads w tv L.length (L.flatMap encRl)) (hlen:L.length≤1000000):
  FnAt Tryz.prog 47 [tv] w fun v H=> ∃ A cap,v=sl A L.length cap∧H= [.own A 38 7 L.length cap (L.flatMap encRl)]:=by
 refine fn_at Tryz.func47 rfl Tryz.ntmps47 rfl ?_
 have hl:(L.flatMap encRl).length=L.length*7:=flat_length' encRl_len L
 refine w_nilrow 38 7 ?_
 repeat' (first|((with_reducible apply wl_appendR (n' :=0) (c:=0) (A:=none) (m:=L.length));(iterate 3 exact rfl);exact pK;(intro w hm;exact ht.of_w0 hm);exact hl;exact encRls_one L;omega;(simp only [maxLen];omega);intro A' cap' hA)|refine sT ?_|refine sM fun _=> ?_|(refine sC ?_ ?_<;>intro hb<;>try omega)|fail)
 exact ret1 (.inl rfl) Tryz.results47 rfl (H' := [.own A' 38 7 (0+L.length) cap' ([]++L.flatMap encRl)]) mS ⟨A',cap',by rw [Nat.zero_add],by rw [Nat.zero_add];rfl⟩
theorem CopyEvents_at (L:List Ev) (tv:Value) (w:World) (ht:Reads w tv L.length (L.flatMap encEv)) (hlen:L.length≤1000000):
  FnAt Tryz.prog 62 [tv] w fun v H=> ∃ A cap,v=sl A L.length cap∧H= [.own A 48 9 L.length cap (L.flatMap encEv)]:=by
 refine fn_at Tryz.func62 rfl Tryz.ntmps62 rfl ?_
 have hl:(L.flatMap encEv).length=L.length*9:=flat_length' encEv_len L
 refine w_nilrow 48 9 ?_
 repeat' (first|((with_reducible apply wl_appendR (n' :=0) (c:=0) (A:=none) (m:=L.length));(iterate 3 exact rfl);exact pK;(intro w hm;exact ht.of_w0 hm);exact hl;exact encEvs_one L;omega;(simp only [maxLen];omega);intro A' cap' hA)|refine sT ?_|refine sM fun _=> ?_|(refine sC ?_ ?_<;>intro hb<;>try omega)|fail)
 exact ret1 (.inl rfl) Tryz.results62 rfl (H' := [.own A' 48 9 (0+L.length) cap' ([]++L.flatMap encEv)]) mS ⟨A',cap',by rw [Nat.zero_add],by rw [Nat.zero_add];rfl⟩
theorem CopyReleases_at (L:List Rv) (tv:Value) (w:World) (ht:Reads w tv L.length (L.flatMap encRv)) (hlen:L.length≤1000000):
  FnAt Tryz.prog 63 [tv] w fun v H=> ∃ A cap,v=sl A L.length cap∧H= [.own A 70 11 L.length cap (L.flatMap encRv)]:=by
 refine fn_at Tryz.func63 rfl Tryz.ntmps63 rfl ?_
 have hl:(L.flatMap encRv).length=L.length*11:=flat_length' encRv_len L
 refine w_nilrow 70 11 ?_
 repeat' (first|((with_reducible apply wl_appendR (n' :=0) (c:=0) (A:=none) (m:=L.length));(iterate 3 exact rfl);exact pK;(intro w hm;exact ht.of_w0 hm);exact hl;exact encRvs_one L;omega;(simp only [maxLen];omega);intro A' cap' hA)|refine sT ?_|refine sM fun _=> ?_|(refine sC ?_ ?_<;>intro hb<;>try omega)|fail)
 exact ret1 (.inl rfl) Tryz.results63 rfl (H' := [.own A' 70 11 (0+L.length) cap' ([]++L.flatMap encRv)]) mS ⟨A',cap',by rw [Nat.zero_add],by rw [Nat.zero_add];rfl⟩
set_option maxHeartbeats 8000000 in
theorem CopyBook_at (b:Bk) (x:Bv) (w:World) (h:BRd w b x) (hs:Small b):FnAt Tryz.prog 18 [.agg (encBk b x).toArray] w fun v H=> ∃ a:Bo,v= .agg (encBk b a.v).toArray∧H=bkRows b a:=by
 refine fn_at Tryz.func18 rfl Tryz.ntmps18 rfl ?_
 have h1:=fun (w' :World) (H:List Blk) (hm:Mem w w' H)=>CopyEntries_at b.ents _ w' (h.e.of_w0 hm) hs.e
 have h2:=fun (w' :World) (H:List Blk) (hm:Mem w w' H)=>CopyRules_at b.rules _ w' (h.r.of_w0 hm) hs.r
 have h3:=fun (w' :World) (H:List Blk) (hm:Mem w w' H)=>CopyGrants_at b.grants _ w' (h.g.of_w0 hm) hs.g
 have h4:=fun (w' :World) (H:List Blk) (hm:Mem w w' H)=>CopyEvents_at b.log _ w' (h.l.of_w0 hm) hs.l
 have h5:=fun (w' :World) (H:List Blk) (hm:Mem w w' H)=>CopyReleases_at b.rels _ w' (h.s.of_w0 hm) hs.s
 simp only [encBk]
 repeat' (first|refine sT ?_|refine sS ?_|refine sM fun _=> ?_|(refine sC ?_ ?_<;>intro hb<;>try omega)|fail)
 rename_i g1 g2
 refine w_nilrow 0 0 ?_
 refine w_nilrow 0 0 ?_
 refine w_nilrow 0 0 ?_
 refine w_nilrow 0 0 ?_
 refine w_nilrow 0 0 ?_
 refine w_drawXg (id:=1) (fun|2=>some fun g=>sl g.1 b.ents.length g.2|5=>some fun g=>sl g.1 b.rules.length g.2|8=>some fun g=>sl g.1 b.grants.length g.2|11=>some fun g=>sl g.1 b.log.length g.2|14=>some fun g=>sl g.1 b.rels.length g.2|_=>none)
  (fun (D:Done) (q:Nat→Gh)=> .box g1 28 [.int .i64 b.users,bif D 16 then sl (q 2).1 b.ents.length (q 2).2 else .slice x.ae b.ents.length x.ce,bif D 18 then sl (q 5).1 b.rules.length (q 5).2 else .slice x.ar b.rules.length x.cr,bif D 20 then sl (q 8).1 b.grants.length (q 8).2 else .slice x.ag b.grants.length x.cg,bif D 22 then sl (q 11).1 b.log.length (q 11).2 else .slice x.al b.log.length x.cl,bif D 24 then sl (q 14).1 b.rels.length (q 14).2 else .slice x.as_ b.rels.length x.cs,.int .i64 b.step]:: .box g2 28 [.int .i64 0,.slice none 0 0,.slice none 0 0,.slice none 0 0,.slice none 0 0,.slice none 0 0,.int .i64 0]::(bif D 2 then Blk.own (q 2).1 53 3 b.ents.length (q 2).2 (b.ents.flatMap encEt) else nilB)::(bif D 5 then Blk.own (q 5).1 38 7 b.rules.length (q 5).2 (b.rules.flatMap encRl) else nilB)::(bif D 8 then Blk.own (q 8).1 56 8 b.grants.length (q 8).2 (b.grants.flatMap encGn) else nilB)::(bif D 11 then Blk.own (q 11).1 48 9 b.log.length (q 11).2 (b.log.flatMap encEv) else nilB)::(bif D 14 then Blk.own (q 14).1 70 11 b.rels.length (q 14).2 (b.rels.flatMap encRv) else nilB):: []) ?_ ?_ ?_ ?_
 ·
  kernel_rfl
 ·
  kernel_rfl
 ·
  intro γ
  exact mS
 intro γ
 repeat' (first|((with_reducible apply wx_v (d:=4));(iterate 3 exact rfl);(intro D ht;(have n16:D 16=false:=ht.late (j:=16) (f:=60) (by decide+kernel));(simp only [gat,put,upd,Nat.reduceEqDiff,Nat.reduceAdd,reduceIte,n16,cond_true,cond_false,List.nil_append,List.cons_append,Bool.and_true,Bool.and_false,Bool.true_and,Bool.false_and]);(with_reducible apply v_load_box);exact rfl;exact pK;exact rfl);exact fun _=>rfl)|refine sT ?_|refine sS ?_|refine sX ?_|refine sM fun _=> ?_|(refine sC ?_ ?_<;>intro hb<;>try omega)|(refine sCX ?_ ?_<;>intro hb<;>try omega)|fail)
 refine wx_non rfl rfl rfl (fun D ht=> ?_) ?_
 ·
  have n2:D 2=false:=ht.not
  have n5:D 5=false:=ht.late (j:=5) (f:=60) (by decide+kernel)
  have n8:D 8=false:=ht.late (j:=8) (f:=60) (by decide+kernel)
  have n11:D 11=false:=ht.late (j:=11) (f:=60) (by decide+kernel)
  have n14:D 14=false:=ht.late (j:=14) (f:=60) (by decide+kernel)
  have n16:D 16=false:=ht.late (j:=16) (f:=60) (by decide+kernel)
  have n18:D 18=false:=ht.late (j:=18) (f:=60) (by decide+kernel)
  have n20:D 20=false:=ht.late (j:=20) (f:=60) (by decide+kernel)
  have n22:D 22=false:=ht.late (j:=22) (f:=60) (by decide+kernel)
  have n24:D 24=false:=ht.late (j:=24) (f:=60) (by decide+kernel)
  (simp only [gat,put,upd,Nat.reduceEqDiff,Nat.reduceAdd,reduceIte,n2,n5,n8,n11,n14,n16,n18,n20,n22,n24,cond_true,cond_false,List.nil_append,List.cons_append,Bool.and_true,Bool.and_false,Bool.true_and,Bool.false_and])
  (with_reducible apply wl_call (f:=22));exact rfl;exact rfl;(intro w' hm;exact h1 w' _ hm);rintro _ _ ⟨A',c',rfl,rfl⟩
  refine wl_nil ⟨rfl,(A',c'),rfl,?_⟩
  (simp only [gat,put,upd,Nat.reduceEqDiff,Nat.reduceAdd,reduceIte,n2,n5,n8,n11,n14,n16,n18,n20,n22,n24,cond_true,cond_false,List.nil_append,List.cons_append,Bool.and_true,Bool.and_false,Bool.true_and,Bool.false_and])
  exact mS
 repeat' (first|((with_reducible apply wx_v (d:=7));(iterate 3 exact rfl);(intro D ht;(have n18:D 18=false:=ht.late (j:=18) (f:=60) (by decide+kernel));(simp only [gat,put,upd,Nat.reduceEqDiff,Nat.reduceAdd,reduceIte,n18,cond_true,cond_false,List.nil_append,List.cons_append,Bool.and_true,Bool.and_false,Bool.true_and,Bool.false_and]);(with_reducible apply v_load_box);exact rfl;exact pK;exact rfl);exact fun _=>rfl)|refine sT ?_|refine sS ?_|refine sX ?_|refine sM fun _=> ?_|(refine sC ?_ ?_<;>intro hb<;>try omega)|(refine sCX ?_ ?_<;>intro hb<;>try omega)|fail)
 refine wx_non rfl rfl rfl (fun D ht=> ?_) ?_
 ·
  have n5:D 5=false:=ht.not
  have n2:D 2=true:=ht.early (i:=2) (f:=60) (by decide+kernel)
  have n8:D 8=false:=ht.late (j:=8) (f:=60) (by decide+kernel)
  have n11:D 11=false:=ht.late (j:=11) (f:=60) (by decide+kernel)
  have n14:D 14=false:=ht.late (j:=14) (f:=60) (by decide+kernel)
  have n16:D 16=false:=ht.late (j:=16) (f:=60) (by decide+kernel)
  have n18:D 18=false:=ht.late (j:=18) (f:=60) (by decide+kernel)
  have n20:D 20=false:=ht.late (j:=20) (f:=60) (by decide+kernel)
  have n22:D 22=false:=ht.late (j:=22) (f:=60) (by decide+kernel)
  have n24:D 24=false:=ht.late (j:=24) (f:=60) (by decide+kernel)
  (simp only [gat,put,upd,Nat.reduceEqDiff,Nat.reduceAdd,reduceIte,n2,n5,n8,n11,n14,n16,n18,n20,n22,n24,cond_true,cond_false,List.nil_append,List.cons_append,Bool.and_true,Bool.and_false,Bool.true_and,Bool.false_and])
  (with_reducible apply wl_call (f:=47));exact rfl;exact rfl;(intro w' hm;exact h2 w' _ hm);rintro _ _ ⟨A',c',rfl,rfl⟩
  refine wl_nil ⟨rfl,(A',c'),rfl,?_⟩
  (simp only [gat,put,upd,Nat.reduceEqDiff,Nat.reduceAdd,reduceIte,n2,n5,n8,n11,n14,n16,n18,n20,n22,n24,cond_true,cond_false,List.nil_append,List.cons_append,Bool.and_true,Bool.and_false,Bool.true_and,Bool.false_and])
  exact mS
 repeat' (first|((with_reducible apply wx_v (d:=10));(iterate 3 exact rfl);(intro D ht;(have n20:D 20=false:=ht.late (j:=20) (f:=60) (by decide+kernel));(simp only [gat,put,upd,Nat.reduceEqDiff,Nat.reduceAdd,reduceIte,n20,cond_true,cond_false,List.nil_append,List.cons_append,Bool.and_true,Bool.and_false,Bool.true_and,Bool.false_and]);(with_reducible apply v_load_box);exact rfl;exact pK;exact rfl);exact fun _=>rfl)|refine sT ?_|refine sS ?_|refine sX ?_|refine sM fun _=> ?_|(refine sC ?_ ?_<;>intro hb<;>try omega)|(refine sCX ?_ ?_<;>intro hb<;>try omega)|fail)
 refine wx_non rfl rfl rfl (fun D ht=> ?_) ?_
 ·
  have n8:D 8=false:=ht.not
  have n2:D 2=true:=ht.early (i:=2) (f:=60) (by decide+kernel)
  have n5:D 5=true:=ht.early (i:=5) (f:=60) (by decide+kernel)
  have n11:D 11=false:=ht.late (j:=11) (f:=60) (by decide+kernel)
  have n14:D 14=false:=ht.late (j:=14) (f:=60) (by decide+kernel)
  have n16:D 16=false:=ht.late (j:=16) (f:=60) (by decide+kernel)
  have n18:D 18=false:=ht.late (j:=18) (f:=60) (by decide+kernel)
  have n20:D 20=false:=ht.late (j:=20) (f:=60) (by decide+kernel)
  have n22:D 22=false:=ht.late (j:=22) (f:=60) (by decide+kernel)
  have n24:D 24=false:=ht.late (j:=24) (f:=60) (by decide+kernel)
  (simp only [gat,put,upd,Nat.reduceEqDiff,Nat.reduceAdd,reduceIte,n2,n5,n8,n11,n14,n16,n18,n20,n22,n24,cond_true,cond_false,List.nil_append,List.cons_append,Bool.and_true,Bool.and_false,Bool.true_and,Bool.false_and])
  (with_reducible apply wl_call (f:=46));exact rfl;exact rfl;(intro w' hm;exact h3 w' _ hm);rintro _ _ ⟨A',c',rfl,rfl⟩
  refine wl_nil ⟨rfl,(A',c'),rfl,?_⟩
  (simp only [gat,put,upd,Nat.reduceEqDiff,Nat.reduceAdd,reduceIte,n2,n5,n8,n11,n14,n16,n18,n20,n22,n24,cond_true,cond_false,List.nil_append,List.cons_append,Bool.and_true,Bool.and_false,Bool.true_and,Bool.false_and])
  exact mS
 repeat' (first|((with_reducible apply wx_v (d:=13));(iterate 3 exact rfl);(intro D ht;(have n22:D 22=false:=ht.late (j:=22) (f:=60) (by decide+kernel));(simp only [gat,put,upd,Nat.reduceEqDiff,Nat.reduceAdd,reduceIte,n22,cond_true,cond_false,List.nil_append,List.cons_append,Bool.and_true,Bool.and_false,Bool.true_and,Bool.false_and]);(with_reducible apply v_load_box);exact rfl;exact pK;exact rfl);exact fun _=>rfl)|refine sT ?_|refine sS ?_|refine sX ?_|refine sM fun _=> ?_|(refine sC ?_ ?_<;>intro hb<;>try omega)|(refine sCX ?_ ?_<;>intro hb<;>try omega)|fail)
 refine wx_non rfl rfl rfl (fun D ht=> ?_) ?_
 ·
  have n11:D 11=false:=ht.not
  have n2:D 2=true:=ht.early (i:=2) (f:=60) (by decide+kernel)
  have n5:D 5=true:=ht.early (i:=5) (f:=60) (by decide+kernel)
  have n8:D 8=true:=ht.early (i:=8) (f:=60) (by decide+kernel)
  have n14:D 14=false:=ht.late (j:=14) (f:=60) (by decide+kernel)
  have n16:D 16=false:=ht.late (j:=16) (f:=60) (by decide+kernel)
  have n18:D 18=false:=ht.late (j:=18) (f:=60) (by decide+kernel)
  have n20:D 20=false:=ht.late (j:=20) (f:=60) (by decide+kernel)
  have n22:D 22=false:=ht.late (j:=22) (f:=60) (by decide+kernel)
  have n24:D 24=false:=ht.late (j:=24) (f:=60) (by decide+kernel)
  (simp only [gat,put,upd,Nat.reduceEqDiff,Nat.reduceAdd,reduceIte,n2,n5,n8,n11,n14,n16,n18,n20,n22,n24,cond_true,cond_false,List.nil_append,List.cons_append,Bool.and_true,Bool.and_false,Bool.true_and,Bool.false_and])
  (with_reducible apply wl_call (f:=62));exact rfl;exact rfl;(intro w' hm;exact h4 w' _ hm);rintro _ _ ⟨A',c',rfl,rfl⟩
  refine wl_nil ⟨rfl,(A',c'),rfl,?_⟩
  (simp only [gat,put,upd,Nat.reduceEqDiff,Nat.reduceAdd,reduceIte,n2,n5,n8,n11,n14,n16,n18,n20,n22,n24,cond_true,cond_false,List.nil_append,List.cons_append,Bool.and_true,Bool.and_false,Bool.true_and,Bool.false_and])
  exact mS
 repeat' (first|((with_reducible apply wx_v (d:=16));(iterate 3 exact rfl);(intro D ht;(have n24:D 24=false:=ht.late (j:=24) (f:=60) (by decide+kernel));(simp only [gat,put,upd,Nat.reduceEqDiff,Nat.reduceAdd,reduceIte,n24,cond_true,cond_false,List.nil_append,List.cons_append,Bool.and_true,Bool.and_false,Bool.true_and,Bool.false_and]);(with_reducible apply v_load_box);exact rfl;exact pK;exact rfl);exact fun _=>rfl)|refine sT ?_|refine sS ?_|refine sX ?_|refine sM fun _=> ?_|(refine sC ?_ ?_<;>intro hb<;>try omega)|(refine sCX ?_ ?_<;>intro hb<;>try omega)|fail)
 refine wx_non rfl rfl rfl (fun D ht=> ?_) ?_
 ·
  have n14:D 14=false:=ht.not
  have n2:D 2=true:=ht.early (i:=2) (f:=60) (by decide+kernel)
  have n5:D 5=true:=ht.early (i:=5) (f:=60) (by decide+kernel)
  have n8:D 8=true:=ht.early (i:=8) (f:=60) (by decide+kernel)
  have n11:D 11=true:=ht.early (i:=11) (f:=60) (by decide+kernel)
  have n16:D 16=false:=ht.late (j:=16) (f:=60) (by decide+kernel)
  have n18:D 18=false:=ht.late (j:=18) (f:=60) (by decide+kernel)
  have n20:D 20=false:=ht.late (j:=20) (f:=60) (by decide+kernel)
  have n22:D 22=false:=ht.late (j:=22) (f:=60) (by decide+kernel)
  have n24:D 24=false:=ht.late (j:=24) (f:=60) (by decide+kernel)
  (simp only [gat,put,upd,Nat.reduceEqDiff,Nat.reduceAdd,reduceIte,n2,n5,n8,n11,n14,n16,n18,n20,n22,n24,cond_true,cond_false,List.nil_append,List.cons_append,Bool.and_true,Bool.and_false,Bool.true_and,Bool.false_and])
  (with_reducible apply wl_call (f:=63));exact rfl;exact rfl;(intro w' hm;exact h5 w' _ hm);rintro _ _ ⟨A',c',rfl,rfl⟩
  refine wl_nil ⟨rfl,(A',c'),rfl,?_⟩
  (simp only [gat,put,upd,Nat.reduceEqDiff,Nat.reduceAdd,reduceIte,n2,n5,n8,n11,n14,n16,n18,n20,n22,n24,cond_true,cond_false,List.nil_append,List.cons_append,Bool.and_true,Bool.and_false,Bool.true_and,Bool.false_and])
  exact mS
 repeat' (first|refine sT ?_|refine sS ?_|refine sX ?_|refine sM fun _=> ?_|(refine sC ?_ ?_<;>intro hb<;>try omega)|(refine sCX ?_ ?_<;>intro hb<;>try omega)|fail)
 refine wx_put (T:=28) (vs:= [sl (γ 2).1 b.ents.length (γ 2).2]) rfl rfl rfl rfl rfl rfl rfl (fun D ht=> ?_) ?_
 ·
  have n16:D 16=false:=ht.not
  have n2:D 2=true:=ht.early (i:=2) (f:=60) (by decide+kernel)
  have n5:D 5=true:=ht.early (i:=5) (f:=60) (by decide+kernel)
  have n8:D 8=true:=ht.early (i:=8) (f:=60) (by decide+kernel)
  have n11:D 11=true:=ht.early (i:=11) (f:=60) (by decide+kernel)
  have n14:D 14=true:=ht.early (i:=14) (f:=60) (by decide+kernel)
  (simp only [gat,put,upd,Nat.reduceEqDiff,Nat.reduceAdd,reduceIte,n2,n5,n8,n11,n14,n16,cond_true,cond_false,List.nil_append,List.cons_append,Bool.and_true,Bool.and_false,Bool.true_and,Bool.false_and])
  refine ⟨_,_,.hd,?_,?_⟩
  ·
   exact Nat.le_of_ble_eq_true rfl
  ·
   exact mS
 repeat' (first|refine sT ?_|refine sS ?_|refine sX ?_|refine sM fun _=> ?_|(refine sC ?_ ?_<;>intro hb<;>try omega)|(refine sCX ?_ ?_<;>intro hb<;>try omega)|fail)
 refine wx_put (T:=28) (vs:= [sl (γ 5).1 b.rules.length (γ 5).2]) rfl rfl rfl rfl rfl rfl rfl (fun D ht=> ?_) ?_
 ·
  have n18:D 18=false:=ht.not
  have n2:D 2=true:=ht.early (i:=2) (f:=60) (by decide+kernel)
  have n5:D 5=true:=ht.early (i:=5) (f:=60) (by decide+kernel)
  have n8:D 8=true:=ht.early (i:=8) (f:=60) (by decide+kernel)
  have n11:D 11=true:=ht.early (i:=11) (f:=60) (by decide+kernel)
  have n14:D 14=true:=ht.early (i:=14) (f:=60) (by decide+kernel)
  (simp only [gat,put,upd,Nat.reduceEqDiff,Nat.reduceAdd,reduceIte,n2,n5,n8,n11,n14,n18,cond_true,cond_false,List.nil_append,List.cons_append,Bool.and_true,Bool.and_false,Bool.true_and,Bool.false_and])
  refine ⟨_,_,.hd,?_,?_⟩
  ·
   exact Nat.le_of_ble_eq_true rfl
  ·
   exact mS
 repeat' (first|refine sT ?_|refine sS ?_|refine sX ?_|refine sM fun _=> ?_|(refine sC ?_ ?_<;>intro hb<;>try omega)|(refine sCX ?_ ?_<;>intro hb<;>try omega)|fail)
 refine wx_put (T:=28) (vs:= [sl (γ 8).1 b.grants.length (γ 8).2]) rfl rfl rfl rfl rfl rfl rfl (fun D ht=> ?_) ?_
 ·
  have n20:D 20=false:=ht.not
  have n2:D 2=true:=ht.early (i:=2) (f:=60) (by decide+kernel)
  have n5:D 5=true:=ht.early (i:=5) (f:=60) (by decide+kernel)
  have n8:D 8=true:=ht.early (i:=8) (f:=60) (by decide+kernel)
  have n11:D 11=true:=ht.early (i:=11) (f:=60) (by decide+kernel)
  have n14:D 14=true:=ht.early (i:=14) (f:=60) (by decide+kernel)
  (simp only [gat,put,upd,Nat.reduceEqDiff,Nat.reduceAdd,reduceIte,n2,n5,n8,n11,n14,n20,cond_true,cond_false,List.nil_append,List.cons_append,Bool.and_true,Bool.and_false,Bool.true_and,Bool.false_and])
  refine ⟨_,_,.hd,?_,?_⟩
  ·
   exact Nat.le_of_ble_eq_true rfl
  ·
   exact mS
 repeat' (first|refine sT ?_|refine sS ?_|refine sX ?_|refine sM fun _=> ?_|(refine sC ?_ ?_<;>intro hb<;>try omega)|(refine sCX ?_ ?_<;>intro hb<;>try omega)|fail)
 refine wx_put (T:=28) (vs:= [sl (γ 11).1 b.log.length (γ 11).2]) rfl rfl rfl rfl rfl rfl rfl (fun D ht=> ?_) ?_
 ·
  have n22:D 22=false:=ht.not
  have n2:D 2=true:=ht.early (i:=2) (f:=60) (by decide+kernel)
  have n5:D 5=true:=ht.early (i:=5) (f:=60) (by decide+kernel)
  have n8:D 8=true:=ht.early (i:=8) (f:=60) (by decide+kernel)
  have n11:D 11=true:=ht.early (i:=11) (f:=60) (by decide+kernel)
  have n14:D 14=true:=ht.early (i:=14) (f:=60) (by decide+kernel)
  (simp only [gat,put,upd,Nat.reduceEqDiff,Nat.reduceAdd,reduceIte,n2,n5,n8,n11,n14,n22,cond_true,cond_false,List.nil_append,List.cons_append,Bool.and_true,Bool.and_false,Bool.true_and,Bool.false_and])
  refine ⟨_,_,.hd,?_,?_⟩
  ·
   exact Nat.le_of_ble_eq_true rfl
  ·
   exact mS
 repeat' (first|refine sT ?_|refine sS ?_|refine sX ?_|refine sM fun _=> ?_|(refine sC ?_ ?_<;>intro hb<;>try omega)|(refine sCX ?_ ?_<;>intro hb<;>try omega)|fail)
 refine wx_put (T:=28) (vs:= [sl (γ 14).1 b.rels.length (γ 14).2]) rfl rfl rfl rfl rfl rfl rfl (fun D ht=> ?_) ?_
 ·
  have n24:D 24=false:=ht.not
  have n2:D 2=true:=ht.early (i:=2) (f:=60) (by decide+kernel)
  have n5:D 5=true:=ht.early (i:=5) (f:=60) (by decide+kernel)
  have n8:D 8=true:=ht.early (i:=8) (f:=60) (by decide+kernel)
  have n11:D 11=true:=ht.early (i:=11) (f:=60) (by decide+kernel)
  have n14:D 14=true:=ht.early (i:=14) (f:=60) (by decide+kernel)
  (simp only [gat,put,upd,Nat.reduceEqDiff,Nat.reduceAdd,reduceIte,n2,n5,n8,n11,n14,n24,cond_true,cond_false,List.nil_append,List.cons_append,Bool.and_true,Bool.and_false,Bool.true_and,Bool.false_and])
  refine ⟨_,_,.hd,?_,?_⟩
  ·
   exact Nat.le_of_ble_eq_true rfl
  ·
   exact mS
 repeat' (first|refine sT ?_|refine sS ?_|refine sX ?_|refine sM fun _=> ?_|(refine sC ?_ ?_<;>intro hb<;>try omega)|(refine sCX ?_ ?_<;>intro hb<;>try omega)|fail)
 intro D hD
 have n2:=hD 2 (by decide)
 have n5:=hD 5 (by decide)
 have n8:=hD 8 (by decide)
 have n11:=hD 11 (by decide)
 have n14:=hD 14 (by decide)
 have n16:=hD 16 (by decide)
 have n18:=hD 18 (by decide)
 have n20:=hD 20 (by decide)
 have n22:=hD 22 (by decide)
 have n24:=hD 24 (by decide)
 (simp only [gat,put,upd,Nat.reduceEqDiff,Nat.reduceAdd,reduceIte,n2,n5,n8,n11,n14,n16,n18,n20,n22,n24,cond_true,cond_false,List.nil_append,List.cons_append,Bool.and_true,Bool.and_false,Bool.true_and,Bool.false_and])
 repeat' (first|refine sT ?_|refine sS ?_|refine sM fun _=> ?_|(refine sC ?_ ?_<;>intro hb<;>try omega)|fail)
 exact retc (.inl rfl) rfl rfl pK rfl (H' :=bkRows b ⟨(γ 2).1,(γ 5).1,(γ 8).1,(γ 11).1,(γ 14).1,(γ 2).2,(γ 5).2,(γ 8).2,(γ 11).2,(γ 14).2⟩) (by unfold bkRows;exact mS) ⟨⟨(γ 2).1,(γ 5).1,(γ 8).1,(γ 11).1,(γ 14).1,(γ 2).2,(γ 5).2,(γ 8).2,(γ 11).2,(γ 14).2⟩,rfl,rfl⟩
theorem caseOp (i:Nat) (h:i<cases31.length):((cases31.flatMap encCs).drop (0+i*15)).take 13=encOx cases31[i].op:=by
 have h2:=congrArg (List.take 13) (flat_elem encCs_len cases31 i h)
 rw [List.take_take] at h2
 rw [Nat.zero_add]
 exact h2
theorem caseCode (i:Nat) (h:i<cases31.length):(cases31.flatMap encCs)[0+i*15+13]? =some (.int .u8 cases31[i].code):=by
 rw [Nat.zero_add,flat_cell encCs_len cases31 i 13 h (by decide)]
 rfl
theorem caseInner (i:Nat) (h:i<cases31.length):(cases31.flatMap encCs)[0+i*15+14]? =some (.int .i64 cases31[i].inner):=by
 rw [Nat.zero_add,flat_cell encCs_len cases31 i 14 h (by decide)]
 rfl
theorem exSmall:Small exBk:=⟨by decide,by decide,by decide,by decide,by decide⟩
def ev31:Ev:=⟨0,1,3,cellR 2 1,false,3#64⟩
def en31:List Et:= [⟨⟨2,1⟩,⟨#[49,48]⟩⟩,⟨⟨2,2⟩,⟨#[50,48]⟩⟩,⟨⟨1,4⟩,inD⟩]
theorem in31_1' : ∃ s,inpE exBk ⟨0,0⟩=(s,3):=⟨_,Prod.ext rfl in31_1⟩
theorem in31_2' : ∃ s,inpE { exBk with step:= -1 } ⟨0,0⟩=(s,2):=⟨_,Prod.ext rfl in31_2⟩
theorem ap_pair {r:Bk × Int × Int × Int} {x:Int × Int × Int} (h:r.2=x): ∃ b,r=(b,x):=⟨r.1,Prod.ext rfl h⟩
end Go.SL

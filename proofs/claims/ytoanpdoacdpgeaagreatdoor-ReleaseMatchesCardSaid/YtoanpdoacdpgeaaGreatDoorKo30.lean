/-
  Lemmas and walks, put together: Vh Vn Vf Vj Vk.
-/
import Derived.Test.YtoanpdoacdpgeaaGreatDoorKo29
set_option linter.unusedSimpArgs false
set_option linter.unusedVariables false
set_option maxRecDepth 20000
namespace Go.SL
open Go Go.Proofs
attribute [local irreducible] W WL WQ WG WA WX WLI WR WT WC WE VOp RW thn blk bp scp aR ba bE aF FnIn FnP ceP
def lvE (b:Bk):List Rv × Int:=if bkE b≠0 then ([],bkE b) else (cE b,0)
def frE (b c:Bk):List Rv × Int:=if bkE b≠0 then ([],bkE b) else if bkE c≠0 then ([],bkE c) else (ep (cE c) (cE b),0)
def cvE (b:Bk):Bool × Int:=if bkE b≠0 then (false,bkE b) else (decide (ep (cE b) b.rels= []),0)
def onE (b:Bk):Bk × Int:=if bkE b≠0 then (Ew,bkE b) else (Lt b,0)
theorem fA {b:Bk} (h: ¬ bkE b≠0):BkOk b:=xA.1 (Decidable.not_not.1 h)
theorem HB {L:List Rv}:decide ((L.length:Int)=0)=decide (L= []):=by
 cases L with
 |nil=>rfl
 |cons a l=>
  rw [decide_eq_false (by rw [Rx];omega),decide_eq_false (by simp)]
section
variable {P:Program} {w0:World} {s:az} {H:List Blk} {ty:TypeId}
theorem KC {x y:Operand} {a b:Int} {c:Bool} {t t' :TypeId} (hx:ev s x=some (.int .i64 a)) (hy:ev s y=some (.int .i64 b)) (h:decide (a=b)=c):VOp P w0 s H (.binOp .eql t x y t') ty (.bool c):=h ▸ GW hx hy
end
theorem HF {b:Bk} (hlen:b.ents.length≤900):(lvE b).1.length≤57600000:=by
 unfold lvE
 split
 ·
  exact Rd _
 ·
  rename_i h;exact lW (fA h) hlen
set_option maxHeartbeats 8000000 in
theorem sm (b:Bk) (x:Bv) (w:World) (h:BRd w b x) (hW:Words w) (hlen:b.ents.length≤900):aF Tryz.prog 21 [.agg (aY b x).toArray] w fun v H=> ∃ A cap,v= .tuple #[sl A (lvE b).1.length cap,.int .i64 (lvE b).2]∧H= [.own A 62 11 (lvE b).1.length cap ((lvE b).1.flatMap aJ)]:=by
 refine aq Tryz.func21 rfl Tryz.ntmps21 rfl ?_
 have hC:=fun (w' :World) (H:List Blk) (hm:Mem w w' H)=>qF b x w' (h.of_w0 hm) (hW.next hm) (by omega)
 unfold lvE
 by_cases hbe:bkE b≠0
 ·
  rw [if_pos hbe]
  refine aB 62 11 ?_
  repeat' (first|(apply aa (f:=15);exact rfl;exact rfl;(intro w' hm;exact hC w' _ hm))|refine sT ?_|refine sS ?_|refine sM fun _=> ?_|(refine sC ?_ ?_<;>intro hb<;>try omega)|fail)
  all_goals first
   |(exfalso;omega)
   |(exact dS eIO rfl rfl rfl (H' := [.own none 62 11 0 0 []]) mS ⟨none,0,rfl,rfl⟩)
 rw [if_neg hbe]
 have hV:=fun (w' :World) (H:List Blk) (hm:Mem w w' H)=>vY b x w' (h.of_w0 hm) (fA hbe) (hW.next hm) hlen
 rw [show bkE b=0 by omega] at hC
 generalize cE b=V at hV ⊢
 repeat' (first|(apply aa (f:=15);exact rfl;exact rfl;(intro w' hm;exact hC w' _ hm))|(apply ay (f:=79);exact rfl;exact rfl;(intro w' hm;exact hV w' _ hm);rintro _ _ ⟨A,c,rfl,rfl⟩)|refine sT ?_|refine sS ?_|refine sM fun _=> ?_|(refine sC ?_ ?_<;>intro hb<;>try omega)|fail)
 all_goals first
  |(exfalso;omega)
  |(exact dS eIO rfl rfl rfl (H' := [.own A 62 11 V.length c (V.flatMap aJ)]) mS ⟨A,c,rfl,rfl⟩)
theorem LI {b:Bk} (h: ¬ bkE b≠0):lvE b=(cE b,0):=by unfold lvE;rw [if_neg h]
theorem LJ {b:Bk} (h:bkE b≠0):lvE b=([],bkE b):=by unfold lvE;rw [if_pos h]
set_option maxHeartbeats 8000000 in
theorem JZ (b c:Bk) (x y:Bv) (w:World) (h:BRd w b x) (k:BRd w c y) (hW:Words w) (hlen:b.ents.length≤900) (hlen2:c.ents.length≤900):aF Tryz.prog 24 [.agg (aY b x).toArray,.agg (aY c y).toArray] w fun v H=> ∃ A cap,v= .tuple #[sl A (frE b c).1.length cap,.int .i64 (frE b c).2]∧H= [.own A 62 11 (frE b c).1.length cap ((frE b c).1.flatMap aJ)]:=by
 refine aq Tryz.func24 rfl Tryz.ntmps24 rfl ?_
 have h1:=fun (w' :World) (H:List Blk) (hm:Mem w w' H)=>sm b x w' (h.of_w0 hm) (hW.next hm) hlen
 have h2:=fun (w' :World) (H:List Blk) (hm:Mem w w' H)=>sm c y w' (k.of_w0 hm) (hW.next hm) hlen2
 have hl1:=HF hlen
 have hl2:=HF hlen2
 unfold frE
 by_cases hbe:bkE b≠0
 ·
  rw [if_pos hbe]
  rw [LJ hbe] at h1
  generalize bkE b=e at h1 hbe ⊢
  refine aB 62 11 ?_
  repeat' (first|(apply ay (d:=11);exact rfl;exact rfl;(intro w' hm;exact h1 w' _ hm);rintro _ _ ⟨A,c1,rfl,rfl⟩)|refine sT ?_|refine sS ?_|refine sM fun _=> ?_|(refine sC ?_ ?_<;>intro hb<;>try omega)|fail)
  all_goals first
   |(exfalso;omega)
   |(exact dS eIO rfl rfl rfl (H' := [.own none 62 11 0 0 []]) mS ⟨none,0,rfl,rfl⟩)
 rw [if_neg hbe]
 rw [LI hbe] at h1 hl1
 generalize cE b=U at h1 hl1 ⊢
 by_cases hce:bkE c≠0
 ·
  rw [if_pos hce]
  rw [LJ hce] at h2
  generalize bkE c=e at h2 hce ⊢
  refine aB 62 11 ?_
  repeat' (first|(apply ay (d:=11);exact rfl;exact rfl;(intro w' hm;exact h1 w' _ hm);rintro _ _ ⟨A,c1,rfl,rfl⟩)|(apply ay (d:=19);exact rfl;exact rfl;(intro w' hm;exact h2 w' _ hm);rintro _ _ ⟨A2,c2,rfl,rfl⟩)|refine sT ?_|refine sS ?_|refine sM fun _=> ?_|(refine sC ?_ ?_<;>intro hb<;>try omega)|fail)
  all_goals first
   |(exfalso;omega)
   |(exact dS eIO rfl rfl rfl (H' := [.own none 62 11 0 0 []]) mS ⟨none,0,rfl,rfl⟩)
 rw [if_neg hce]
 rw [LI hce] at h2 hl2
 generalize cE c=V at h2 hl2 ⊢
 dsimp only at hl1 hl2
 have hM:=fun (lv mv:Value) (w' :World) (hl:Reads w' lv V.length (V.flatMap aJ)) (hm:Reads w' mv U.length (U.flatMap aJ))=>qa V U lv mv w' hl hm (by omega)
 generalize ep V U=M at hM ⊢
 repeat' (first|(apply ay (d:=11);exact rfl;exact rfl;(intro w' hm;exact h1 w' _ hm);rintro _ _ ⟨A,c1,rfl,rfl⟩)|(apply ay (d:=19);exact rfl;exact rfl;(intro w' hm;exact h2 w' _ hm);rintro _ _ ⟨A2,c2,rfl,rfl⟩)|(apply ay (d:=27);exact rfl;exact rfl;(intro w' hm;exact hM _ _ w' (Reads.of_own hm pK) (Reads.of_own hm pK));rintro _ _ ⟨A3,c3,rfl,rfl⟩)|refine sT ?_|refine sS ?_|refine sM fun _=> ?_|(refine sC ?_ ?_<;>intro hb<;>try omega)|fail)
 all_goals first
  |(exfalso;omega)
  |(exact dS eIO rfl rfl rfl (H' := [.own A3 62 11 M.length c3 (M.flatMap aJ)]) mS ⟨A3,c3,rfl,rfl⟩)
set_option maxHeartbeats 8000000 in
theorem Ef (b:Bk) (x:Bv) (w:World) (h:BRd w b x) (hW:Words w) (hlen:b.ents.length≤900):aA Tryz.prog 26 [.agg (aY b x).toArray] w (.tuple #[.bool (cvE b).1,.int .i64 (cvE b).2]):=by
 refine aq Tryz.func26 rfl Tryz.ntmps26 rfl ?_
 have hC:=fun (w' :World) (H:List Blk) (hm:Mem w w' H)=>qF b x w' (h.of_w0 hm) (hW.next hm) (by omega)
 have hs:=h.s
 unfold cvE
 by_cases hbe:bkE b≠0
 ·
  rw [if_pos hbe]
  repeat' (first|(apply aa (f:=15);exact rfl;exact rfl;(intro w' hm;exact hC w' _ hm))|refine sT ?_|refine sS ?_|refine sM fun _=> ?_|(refine sC ?_ ?_<;>intro hb<;>try omega)|fail)
  all_goals first|(exfalso;omega)|((refine rT2 ?_);rfl)
 rw [if_neg hbe]
 have hV:=fun (w' :World) (H:List Blk) (hm:Mem w w' H)=>vY b x w' (h.of_w0 hm) (fA hbe) (hW.next hm) hlen
 have hvl:=lW (fA hbe) hlen
 rw [show bkE b=0 by omega] at hC
 generalize cE b=V at hV hvl ⊢
 have hM:=fun (lv mv:Value) (w' :World) (hl:Reads w' lv V.length (V.flatMap aJ)) (hm:Reads w' mv b.rels.length (b.rels.flatMap aJ))=>qa V b.rels lv mv w' hl hm (by omega)
 rw [← HB]
 generalize ep V b.rels=M at hM ⊢
 obtain ⟨cc,hcc⟩: ∃ cc,decide ((M.length:Int)=0)=cc:=⟨_,rfl⟩
 rw [hcc]
 repeat' (first|(apply aa (f:=15);exact rfl;exact rfl;(intro w' hm;exact hC w' _ hm))|((refine ia (id:=4) [1,4] [] [.box _ 28 (aY b x)] (by kernel_rfl) (by kernel_rfl) (by kernel_rfl) mS ?_))|(apply ay (f:=79);exact rfl;exact rfl;(intro w' hm;exact hV w' _ hm);rintro _ _ ⟨A,c,rfl,rfl⟩)|(apply ay (f:=81);exact rfl;exact rfl;(intro w' hm;exact hM _ _ w' (Reads.of_own (A:=A) hm pK) (hs.of_w0 hm));rintro _ _ ⟨A3,c3,rfl,rfl⟩)|(apply dm (d:=16);(iterate 3 exact rfl);apply KC;exact rfl;exact rfl;exact hcc)|refine sT ?_|refine sS ?_|refine sW ?_|refine sM fun _=> ?_|(refine sC ?_ ?_<;>intro hb<;>try omega)|(refine sCW ?_ ?_<;>intro hb<;>try omega)|fail)
 all_goals first|(exfalso;omega)|((refine rT2 ?_);rfl)
set_option maxHeartbeats 16000000 in
theorem MB (b:Bk) (x:Bv) (w:World) (h:BRd w b x) (hW:Words w) (hlen:b.ents.length≤900) (hsm:Small b):aF Tryz.prog 28 [.agg (aY b x).toArray] w fun v H=> ∃ a:Bo,v= .tuple #[.agg (aY (onE b).1 a.v).toArray,.int .i64 (onE b).2]∧H=bR (onE b).1 a:=by
 refine aq Tryz.func28 rfl Tryz.ntmps28 rfl ?_
 have hC:=fun (w' :World) (H:List Blk) (hm:Mem w w' H)=>qF b x w' (h.of_w0 hm) (hW.next hm) (by omega)
 have hY:=fun (w' :World) (H:List Blk) (hm:Mem w w' H)=>JQ b x w' (h.of_w0 hm) hsm
 have hs:=h.s
 have hsl:=hsm.s
 unfold onE
 by_cases hbe:bkE b≠0
 ·
  rw [if_pos hbe]
  clear hY
  refine aB 52 3 ?_
  refine aB 54 7 ?_
  refine aB 56 8 ?_
  refine aB 58 9 ?_
  refine aB 62 11 ?_
  generalize bkE b=e at hC hbe ⊢
  simp only [aY] at hC ⊢
  repeat' (first|(apply aa (f:=15);exact rfl;exact rfl;(intro w' hm;exact hC w' _ hm))|refine sT ?_|refine sS ?_|refine sM fun _=> ?_|(refine sC ?_ ?_<;>intro hb<;>try omega)|fail)
  all_goals first
   |(exfalso;omega)
   |(refine tS eIO rfl rfl pK rfl rfl (H' :=bR Ew zz) (by unfold bR;exact mS) ⟨zz,rfl,rfl⟩;done)
 rw [if_neg hbe]
 have hV:=fun (w' :World) (H:List Blk) (hm:Mem w w' H)=>vY b x w' (h.of_w0 hm) (fA hbe) (hW.next hm) hlen
 have hvl:=lW (fA hbe) hlen
 rw [show bkE b=0 by omega] at hC
 unfold Lt Km
 have hml:=o5 (cE b) b.rels
 have hM:=fun (lv mv:Value) (w' :World) (hl:Reads w' lv (cE b).length ((cE b).flatMap aJ)) (hm:Reads w' mv b.rels.length (b.rels.flatMap aJ))=>qa (cE b) b.rels lv mv w' hl hm (by omega)
 generalize ep (cE b) b.rels=M at hM hml ⊢
 generalize cE b=V at hV hM hvl hml
 have el1:(b.rels++M).length=b.rels.length+M.length:=QT
 have el2:(b.rels++M).flatMap aJ=b.rels.flatMap aJ++M.flatMap aJ:=Rn
 simp only [aY,bR,el1,el2] at hC hY hV ⊢
 repeat' (first|(apply aa (f:=15);exact rfl;exact rfl;(intro w' hm;exact hC w' _ hm))|(apply ay (f:=20);exact rfl;exact rfl;(intro w' hm;exact hY w' _ hm);rintro _ _ ⟨a,rfl,rfl⟩)|refine sT ?_|refine sS ?_|refine sM fun _=> ?_|(refine sC ?_ ?_<;>intro hb<;>try omega)|fail)
 all_goals try (exfalso;omega)
 refine oP (id:=5) [1,3,6,7,9] [.box _ 28 (aY b x)] 10 rfl rfl (by simp only [aY];exact mS) ?_
 simp only [aY]
 repeat' (first|(apply fB (i:=0);(iterate 4 exact rfl);decide+kernel;decide+kernel;decide+kernel;(exact vC))|(apply fB (i:=2);(iterate 4 exact rfl);decide+kernel;decide+kernel;decide+kernel;(exact vC))|(apply fB (i:=4);(iterate 4 exact rfl);decide+kernel;decide+kernel;decide+kernel;(exact vC))|(apply fB (i:=5);(iterate 4 exact rfl);decide+kernel;decide+kernel;decide+kernel;(exact vC))|(apply fB (i:=8);(iterate 4 exact rfl);decide+kernel;decide+kernel;decide+kernel;(exact vC))|(apply dX (i:=1) (j:=3);(iterate 6 exact rfl);decide+kernel)|(apply dX (i:=1) (j:=6);(iterate 6 exact rfl);decide+kernel)|(apply cj (i:=1);(iterate 3 exact rfl);decide+kernel)|(apply cj (i:=3);(iterate 3 exact rfl);decide+kernel)|(apply cj (i:=6);(iterate 3 exact rfl);decide+kernel)|(apply cj (i:=7);(iterate 3 exact rfl);decide+kernel)|(apply cj (i:=9);(iterate 3 exact rfl);decide+kernel)|(apply oM;decide+kernel)|(apply Gf;(focus (exact mS;done)))|(apply ay (f:=79);exact rfl;exact rfl;(intro w' hm;exact hV w' _ hm);rintro _ _ ⟨A,c,rfl,rfl⟩)|(apply ay (f:=81);exact rfl;exact rfl;(intro w' hm;exact hM _ _ w' (Reads.of_own (A:=A) hm pK) (hs.of_w0 hm));rintro _ _ ⟨A3,c3,rfl,rfl⟩)|(apply bS (d:=21) (A:=a.s) (n' :=b.rels.length) (m:=M.length);(iterate 3 exact rfl);exact pK;(intro w hm;exact Reads.of_own (A:=A3) hm pK);exact aM cQ M;exact mP M;omega;(simp only [maxLen];omega);intro A17 c17 h17)|refine sT ?_|refine sS ?_|refine sM fun _=> ?_|(refine sC ?_ ?_<;>intro hb<;>try omega)|fail)
 all_goals first
  |(exfalso;omega)
  |(refine tS eIO rfl rfl pK rfl rfl (H' := [.own a.e 52 3 b.ents.length a.ce (b.ents.flatMap cF),.own a.r 54 7 b.rules.length a.cr (b.rules.flatMap bM),.own a.g 56 8 b.grants.length a.cg (b.grants.flatMap bX),.own a.l 58 9 b.log.length a.cl (b.log.flatMap dK),.own A17 62 11 (b.rels.length+M.length) c17 (b.rels.flatMap aJ++M.flatMap aJ)]) mS ⟨⟨a.e,a.r,a.g,a.l,A17,a.ce,a.cr,a.cg,a.cl,c17⟩,rfl,rfl⟩;done)
def F3:Bk:=⟨3,ze,bkR,[Qv],[],[],0⟩
set_option maxHeartbeats 8000000 in
theorem Bi (w:World):aF Tryz.prog 83 [] w fun v H=> ∃ a:Bo,v= .agg (aY F3 a.v).toArray∧H=bR F3 a:=by
 refine aq Tryz.func83 rfl Tryz.ntmps83 rfl ?_
 repeat' (first|(apply ay (f:=57);exact rfl;exact rfl;(intro w' hm;exact Bl w');rintro _ _ ⟨⟨ae,ar,ag,al,as_,ce,cr,cg,cl,cs⟩,rfl,rfl⟩;unfold bR)|refine sT ?_|refine sS ?_|refine sM fun _=> ?_|(refine sC ?_ ?_<;>intro hb<;>try omega)|fail)
 refine GI (A:=ar) (xs:=NX.rules.flatMap bM) pK (by decide) fun gr hA=> ?_
 subst hA
 repeat' (first|(apply ak (d:=5);exact rfl;apply aj (j:=1);exact rfl;exact rfl;decide)|(apply ak (d:=7);exact rfl;apply BO;exact rfl;exact pK;exact rfl;exact rfl)|refine sT ?_|refine sS ?_|refine sM fun _=> ?_|(refine sC ?_ ?_<;>intro hb<;>try omega)|fail)
 rename_i gn
 exact vZ eIO rfl rfl pK rfl (H' :=bR F3 ⟨ae,some gr,some gn,al,as_,ce,cr,1,cl,cs⟩) (by unfold bR;exact mS) ⟨⟨ae,some gr,some gn,al,as_,ce,cr,1,cl,cs⟩,rfl,rfl⟩
set_option maxHeartbeats 8000000 in
theorem AP (w:World):aF Tryz.prog 31 [] w fun v H=> ∃ a:Bo,v= .agg (aY oF a.v).toArray∧H=bR oF a:=by
 refine aq Tryz.func31 rfl Tryz.ntmps31 rfl ?_
 repeat' (first|(apply ay (f:=83);exact rfl;exact rfl;(intro w' hm;exact Bi w');rintro _ _ ⟨a,rfl,rfl⟩;unfold bR)|refine sT ?_|refine sS ?_|refine sM fun _=> ?_|(refine sC ?_ ?_<;>intro hb<;>try omega)|fail)
 exact vZ eIO rfl rfl pK rfl (H' :=bR oF a) (by unfold bR;exact mS) ⟨a,rfl,rfl⟩
theorem F9 (w:World):aA Tryz.prog 32 [] w (.agg (aJ AV).toArray):=by
 refine aq Tryz.func32 rfl Tryz.ntmps32 rfl ?_
 repeat' (first|refine sT ?_|refine sM fun _=> ?_|(refine sC ?_ ?_<;>intro hb<;>try omega)|fail)
 (refine eRC ?_)
 rfl
theorem NY:lvE oF=([AV],0):=by
 unfold lvE
 rw [if_neg (by rw [L6];decide),JA]
theorem mR (L:List Rv) {lv mv:Value} {w:World} (hl:Reads w lv L.length (L.flatMap aJ)) (hm:Reads w mv L.length (L.flatMap aJ)):aA Tryz.prog 23 [lv,mv] w (.bool true):=by
 have:=uB L L lv mv w hl hm
 rwa [decide_eq_true rfl] at this
set_option maxHeartbeats 8000000 in
theorem Gi (w:World) (hW:Words w):aA Tryz.prog 30 [] w (.bool true):=by
 refine aq Tryz.func30 rfl Tryz.ntmps30 rfl ?_
 have hL:=fun (a:Bo) (w' :World) (H:List Blk) (hm:Mem w w' H) (hr:BRd w' oF a.v)=>NY ▸ sm oF a.v w' hr (hW.next hm) (by decide)
 repeat' (first|(apply ay (f:=31);exact rfl;exact rfl;(intro w' hm;exact AP w');rintro _ _ ⟨a,rfl,rfl⟩;unfold bR)|(apply ay (f:=21);exact rfl;exact rfl;(intro w' hm;exact hL a w' _ hm (BRd.of_rows hm pK pK pK pK pK));rintro _ _ ⟨A,c,rfl,rfl⟩)|(apply aa;exact rfl;exact rfl;(intro w hm;exact F9 w))|(apply aa (f:=23);exact rfl;exact rfl;(intro w' hm;exact mR [AV] (Reads.of_own (A:=A) hm pK) (Reads.of_own (A:=some _) hm pK)))|refine sT ?_|refine sS ?_|refine sM fun _=> ?_|(refine sC ?_ ?_<;>intro hb<;>try omega)|fail)
 all_goals first|(exfalso;omega)|((refine rT1 ?_);rfl)
theorem GZ {G:Gr} (h:SortG G) {e:Rf × List Nd × List Us} (he:e∈G):gk G e.1=e.2.2:=by
 unfold gk
 rw [(qt h).2 (show (e.1,e.2)∈G from he)];rfl
def pQ (b:Bk) (e:En):List Rv:=e.uses.flatMap (df b e.at_ (atE e.at_ b.rules).1.1)
theorem PO {R:List Blk} {Q:List En} {G:Gr} (hr:RGOk R Q G) (hG:GrOk G) (b:Bk):y5 b G=Q.flatMap (pQ b):=by
 unfold y5
 rw [← hr.keys,List.flatMap_map,List.flatMap_def,List.flatMap_def]
 refine congrArg List.flatten (SV fun e he=> ?_)
 have h2:e.abs∈G:=by rw [← hr.rel];exact List.mem_map_of_mem he
 unfold mU pQ
 rw [show gk G e.at_=e.uses from GZ hG.sort h2]
set_option maxHeartbeats 32000000 in
theorem jq (b:Bk) (x:Bv) (w:World) (h:BRd w b x) (hbo:BkOk b) (hlen:b.ents.length≤900):
  aF Tryz.prog 80 [.agg (aY b x).toArray] w fun v H=> ∃ A cap,v=sl A (cE b).length cap∧H= [.own A 62 11 (cE b).length cap ((cE b).flatMap aJ)]:=by
 obtain ⟨hgr,hGo,hGl⟩:=FU hbo
 have hN: ∀ (w' :World) (H:List Blk),Mem w w' H→aF Tryz.prog 127 [.slice x.ae b.ents.length x.ce] w' fun v H=> ∃ g A cap Q R,v= .tuple #[.pointer (some ⟨g,0,none⟩),.int .i64 0]∧H=rgB g A cap Q++R∧RGOk R Q (grB b):=by
  intro w' H hm
  have h1:=NB b.ents _ w' (h.e.of_w0 hm) hlen
  rw [hgr] at h1
  exact h1
 have hg64:=(o8.1 hbo.g).2.1
 have hFo:=fun (u:Us) (w' :World) (H:List Blk) (hm:Mem w w' H)=>CJ u.fn u.rect b.rules b.grants _ _ w' (h.r.of_w0 hm) (h.g.of_w0 hm)
 have hRd:=fun (a:Rf) (ha:a.valid=true) (w' :World) (H:List Blk) (hm:Mem w w' H)=>uG a b.rules _ w' (h.r.of_w0 hm) (Mx hbo.r) ha
 have hst:=G8 ⟨(rX (show ¬ bkE b≠0 by rw [xA.2 hbo];decide)).1,(rX (show ¬ bkE b≠0 by rw [xA.2 hbo];decide)).2.1⟩
 have hul:=fun a rd u=>s9 b a rd u hg64
 have hg:=h.g
 unfold cE
 have hlq:=fun {R:List Blk} {Q:List En} (hr:RGOk R Q (grB b))=>PO hr hGo b
 have hqv: ∀ {R:List Blk} {Q:List En} (hr:RGOk R Q (grB b)),∀ e∈Q,EnOk R e∧e.at_.valid=true∧e.uses.length≤1000:=fun {R Q} hr e he=>by
  have h2:e.abs∈grB b:=by rw [← hr.rel];exact List.mem_map_of_mem he
  refine ⟨hr.en e he,y7 hGo (RG.2 ⟨_,h2,rfl⟩),?_⟩
  have h3:=qd hGo e.at_
  rwa [show gk (grB b) e.at_=e.uses from GZ hGo.sort h2] at h3
 have hql: ∀ {R:List Blk} {Q:List En} (hr:RGOk R Q (grB b)),Q.length≤900:=fun hr=>by rw [hr.len];omega
 generalize grB b=G at hN hlq hqv hql ⊢
 refine aq Tryz.func80 rfl Tryz.ntmps80 rfl ?_
 refine aB 62 11 ?_
 repeat' (first|(apply ay (f:=127);exact rfl;exact rfl;(intro w' hm;exact hN w' _ hm);rintro _ _ ⟨gr,Aq,cq,Q,R,rfl,rfl,hQ⟩)|refine sT ?_|refine sS ?_|refine sM fun _=> ?_|(refine sC ?_ ?_<;>intro hb<;>try omega)|fail)
 all_goals try (exfalso;omega)
 rename_i g1
 have hqv:=hqv hQ
 have hqn:=hql hQ
 rw [hlq hQ]
 clear hql hlq hN
 refine O2 (.box g1 28 (aY b x):: .own none 62 11 0 0 []::(rgB gr Aq cq Q++R)) (MSub.of_perm (Sc (l₂:= [_,_]))) ?_
 unfold rgB
 simp only [Rj,QU,QW]
 have hel: ∀ e∈Q,(pQ b e).length≤64000:=fun e he=>by
  have h1:=ja (l:=e.uses) (f:=df b e.at_ (atE e.at_ b.rules).1.1) (m:=64) fun u _=>hul _ _ u
  exact RB h1 (SC 64 (hqv e he).2.2)
 have hpl:=fun i=>tA (F:=pQ b) (L:=Q) i hel
 refine aw [1,3] rfl (fun y:Nat × Option Nat × Nat=> [(5,sl y.2.1 ((Q.take y.1).flatMap (pQ b)).length y.2.2),(6,.int .i64 (y.1:Int))]) (fun y=> .own y.2.1 62 11 ((Q.take y.1).flatMap (pQ b)).length y.2.2 (((Q.take y.1).flatMap (pQ b)).flatMap aJ):: .box g1 28 (aY b x):: .box gr 167 [sl Aq Q.length cq]:: .own Aq 169 4 Q.length cq (Q.flatMap kB)::R) (fun y=>y.1≤Q.length) (fun y=>Q.length - y.1) (0,none,0) (Rd _) sB mS ?_
 rintro ⟨i,A,c⟩ hi
 dsimp only at hi ⊢
 by_cases hlt:i<Q.length
 ·
  refine dN (A:=Aq) pK (by omega) fun gq hAq=> ?_
  subst hAq
  have hread:=DN hlt
  have hnx:=o9 (F:=pQ b) hlt
  have hpl:=hpl i
  obtain ⟨hoke,hav,hUl⟩:=hqv Q[i] (RN hlt)
  generalize Q[i]=e at hread hnx hoke hav hUl
  generalize (Q.take i).flatMap (pQ b)=X at hnx hpl ⊢
  have hRd:=hRd e.at_ hav
  have hus:=hoke.uses
  have henc:kB e= [.int .i64 e.at_.col,.int .i64 e.at_.row,.slice e.ta e.tree.length e.tc,.slice e.ua e.uses.length e.uc]:=rfl
  rw [henc] at hread
  unfold En.uv at hus
  rw [show pQ b e=e.uses.flatMap (df b e.at_ (atE e.at_ b.rules).1.1) from rfl] at hnx
  generalize e.ta=ta at hread
  generalize e.tree.length=tn at hread
  generalize e.tc=tc at hread
  generalize e.at_=a at hnx hRd hread
  generalize e.uc=uc at hus hread
  generalize e.ua=ua at hus hread
  generalize e.uses=U at hnx hUl hus hread
  clear henc hoke
  have hul:=hul a (atE a b.rules).1.1
  generalize (atE a b.rules).1.1=rd at hRd hnx hul
  have hpu:=fun k=>tA (F:=df b a rd) (L:=U) k fun u _=>hul u
  have hxl:X.length≤57600000:=RB hpl (SC 64000 hqn)
  have hpu2: ∀ k,((U.take k).flatMap (df b a rd)).length≤64000:=fun k=>RB (hpu k) (SC 64 hUl)
  repeat' (first|(apply ak (d:=34);exact rfl;apply aj (j:=i);exact rfl;exact rfl;exact hlt)|(apply ak (d:=35);exact rfl;apply aW (ys:= [.int .i64 a.col,.int .i64 a.row,.slice ta tn tc,.slice ua U.length uc]);exact rfl;exact pK;exact hread;exact rfl)|refine sT ?_|refine sS ?_|refine sN ?_|refine sM fun _=> ?_|(refine sC ?_ ?_<;>intro hb<;>try omega)|fail)
  all_goals try (exfalso;omega)
  rename_i g7
  refine aw [1,3,6,7] rfl (fun y:Nat × Option Nat × Nat=> [(5,sl y.2.1 (X++(U.take y.1).flatMap (df b a rd)).length y.2.2),(8,.int .i64 (y.1:Int))]) (fun y=> .own y.2.1 62 11 (X++(U.take y.1).flatMap (df b a rd)).length y.2.2 ((X++(U.take y.1).flatMap (df b a rd)).flatMap aJ):: .box g7 169 [.int .i64 a.col,.int .i64 a.row,.slice ta tn tc,.slice ua U.length uc]:: .box g1 28 (aY b x):: .box gr 167 [sl (some gq) Q.length cq]:: .own (some gq) 169 4 Q.length cq (Q.flatMap kB)::R) (fun y=>y.1≤U.length) (fun y=>U.length - y.1) (0,A,c) (Rd _) (by simp only [Sj,Ry,QZ];exact sB) (by simp only [Sj,Ry,QZ];exact mS) ?_
  rintro ⟨k,A,c⟩ hk
  dsimp only at hk ⊢
  by_cases hlk:k<U.length
  ·
   have hsubR: ∀ (c1 c2 c3 c4 c5:Blk),MSub R (c1::c2::c3::c4::c5::R):=fun c1 c2 c3 c4 c5=>MSub.appR _ [c1,c2,c3,c4,c5]
   refine QN hus (hsubR _ _ _ _ _) (by omega) fun gu ou hua hur=> ?_
   subst hua
   have hreadu:((U.flatMap dI).drop (k*6)).take 6=dI U[k]:=dD xj U k hlk
   have hnk:=o9 (F:=df b a rd) hlk
   have hpu2:=hpu2 k
   generalize U[k]=u at hreadu hnk
   have hnk2:X++(U.take (k+1)).flatMap (df b a rd)=(X++(U.take k).flatMap (df b a rd))++df b a rd u:=by rw [hnk,Rz]
   have hyl:(X++(U.take k).flatMap (df b a rd)).length≤57664000:=by rw [QT];omega
   generalize X++(U.take k).flatMap (df b a rd)=Y at hnk2 hyl ⊢
   clear hnk
   have hFo:=hFo u
   have hby:=Dt (fn:=u.fn) (r:=u.rect) (L:=b.rules) (G:=b.grants)
   have hbl:=tz u.fn u.rect b.rules b.grants
   rw [show df b a rd u=if u.node<0 then [] else (iE u.fn u.rect b.rules b.grants).2.1.flatMap (iD b a u rd) from rfl] at hnk2
   by_cases hng:u.node<0
   ·
    rw [if_pos hng,QZ] at hnk2
    repeat' (first|(apply ak (d:=46);exact rfl;apply aj (j:=k);exact rfl;exact rfl;exact hlk)|(apply ak (d:=47);exact rfl;apply vF (ys:=dI u);exact rfl;exact hur;exact hsubR _ _ _ _ _;exact hreadu;exact rfl)|refine sT ?_|refine sS ?_|refine sN ?_|refine sM fun _=> ?_|(refine sC ?_ ?_<;>intro hb<;>try omega)|fail)
    all_goals first
     |(exfalso;omega)
     |(refine ⟨(k+1,A,c),hlk,by dsimp only;omega,by simp only [hnk2];exact sB,by exact sB,by simp only [hnk2];exact mS⟩;done)
   rw [if_neg hng] at hnk2
   generalize (iE u.fn u.rect b.rules b.grants).2.1=BY at hFo hnk2 hby hbl
   generalize (iE u.fn u.rect b.rules b.grants).1=f1 at hFo
   generalize (iE u.fn u.rect b.rules b.grants).2.2=f3 at hFo
   have hpb:=fun j=>tA (F:=iD b a u rd) (L:=BY) (m:=1) j fun q _=>v7 b a u rd q
   repeat' (first|(apply ak (d:=46);exact rfl;apply aj (j:=k);exact rfl;exact rfl;exact hlk)|(apply ak (d:=47);exact rfl;apply vF (ys:=dI u);exact rfl;exact hur;exact hsubR _ _ _ _ _;exact hreadu;exact rfl)|(apply ay (f:=128);exact rfl;exact rfl;(intro w' hm;exact hFo w' _ hm);rintro _ _ ⟨Ab,cb,rfl,rfl⟩)|refine sT ?_|refine sS ?_|refine sN ?_|refine sM fun _=> ?_|(refine sC ?_ ?_<;>intro hb<;>try omega)|fail)
   all_goals try (exfalso;omega)
   rename_i g9
   refine aw [1,3,6,7,8,9,11] rfl (fun y:Nat × Option Nat × Nat=> [(5,sl y.2.1 (Y++(BY.take y.1).flatMap (iD b a u rd)).length y.2.2),(13,.int .i64 (y.1:Int))]) (fun y=> .own y.2.1 62 11 (Y++(BY.take y.1).flatMap (iD b a u rd)).length y.2.2 ((Y++(BY.take y.1).flatMap (iD b a u rd)).flatMap aJ):: .own Ab 3 1 BY.length cb (cU BY):: .box g9 159 (dI u):: .box g7 169 [.int .i64 a.col,.int .i64 a.row,.slice ta tn tc,.slice (some ⟨gu,ou,none⟩) U.length uc]:: .box g1 28 (aY b x):: .box gr 167 [sl (some gq) Q.length cq]:: .own (some gq) 169 4 Q.length cq (Q.flatMap kB)::R) (fun y=>y.1≤BY.length) (fun y=>BY.length - y.1) (0,A,c) (Rd _) (by simp only [Sj,Ry,QZ];exact sB) (by simp only [Sj,Ry,QZ];exact mS) ?_
   rintro ⟨j,A,c⟩ hj
   dsimp only at hj ⊢
   by_cases hlj:j<BY.length
   ·
    refine dN (A:=Ab) pK (by omega) fun gb hAb=> ?_
    subst hAb
    have hreadb:=y8 hlj
    have hnj:=o9 (F:=iD b a u rd) hlj
    have hpb:=hpb j
    have hql:=hby BY[j] (RN hlj)
    generalize BY[j]=q at hreadb hnj hql
    obtain ⟨An,cn,hgv,hg1,hg2,hg3⟩:=hg
    obtain ⟨gn,on,rfl,hrn⟩:=hg3 (by omega)
    have hto:=(Gn.ro (hrn.elem eO q hql)).2.2.1
    obtain ⟨cc,hcc⟩: ∃ cc,decide (b.grants[q].to≠0#64)=cc:=⟨_,rfl⟩
    rw [Hr hql hcc] at hnj
    have hnj2:Y++(BY.take (j+1)).flatMap (iD b a u rd)=(Y++(BY.take j).flatMap (iD b a u rd))++(if cc=true then [⟨b.step - 1,⟨a,u.node⟩,u.fn,u.rect,(q:Int),rd⟩] else []):=by rw [hnj,Rz]
    have hzl:(Y++(BY.take j).flatMap (iD b a u rd)).length≤57664100:=by rw [QT];omega
    generalize Y++(BY.take j).flatMap (iD b a u rd)=Z at hnj2 hzl ⊢
    clear hnj
    generalize b.grants[q].to=to_ at hto hcc
    cases cc with
    |false=>
     rw [if_neg (by decide),QZ] at hnj2
     repeat' (first|(apply eE (id:=16) [] [];kernel_rfl;kernel_rfl;kernel_rfl)|(apply dm (d:=74);(iterate 3 exact rfl);apply aj (j:=j);exact rfl;exact rfl;exact hlj)|(apply dm (d:=75);(iterate 3 exact rfl);apply aV;exact rfl;exact pK;first|exact hreadb|(rw [show 0+j*1=j by omega];exact hreadb))|(apply dm (d:=76);(iterate 3 exact rfl);apply aj (j:=q);first|exact rfl|exact congrArg some hgv;exact rfl;exact hql)|(apply dm (d:=78);(iterate 3 exact rfl);apply fE;exact rfl;exact hto)|(apply dm (d:=79);(iterate 3 exact rfl);apply mg hcc;exact rfl;exact rfl)|refine sT ?_|refine sS ?_|refine sW ?_|refine sN ?_|refine sWN ?_|refine sM fun _=> ?_|(refine sC ?_ ?_<;>intro hb<;>try omega)|(refine sCW ?_ ?_<;>intro hb<;>try omega)|fail)
     all_goals first
      |(exfalso;omega)
      |(refine ⟨(j+1,A,c),hlj,by dsimp only;omega,by simp only [hnj2];exact sB,by exact sB,by simp only [hnj2];exact mS⟩;done)
    |true=>
     rw [if_pos rfl] at hnj2
     repeat' (first|(apply eE (id:=16) [] [];kernel_rfl;kernel_rfl;kernel_rfl)|(apply dm (d:=74);(iterate 3 exact rfl);apply aj (j:=j);exact rfl;exact rfl;exact hlj)|(apply dm (d:=75);(iterate 3 exact rfl);apply aV;exact rfl;exact pK;first|exact hreadb|(rw [show 0+j*1=j by omega];exact hreadb))|(apply dm (d:=76);(iterate 3 exact rfl);apply aj (j:=q);first|exact rfl|exact congrArg some hgv;exact rfl;exact hql)|(apply dm (d:=78);(iterate 3 exact rfl);apply fE;exact rfl;exact hto)|(apply dm (d:=79);(iterate 3 exact rfl);apply mg hcc;exact rfl;exact rfl)|refine sT ?_|refine sS ?_|refine sW ?_|refine sN ?_|refine sWN ?_|refine sM fun _=> ?_|(refine sC ?_ ?_<;>intro hb<;>try omega)|(refine sCW ?_ ?_<;>intro hb<;>try omega)|fail)
     all_goals try (exfalso;omega)
     refine ia (id:=17) [21,23,24] [] [.own (some gb) 3 1 BY.length cb (cU BY),.box g9 159 (dI u),.box g7 169 [.int .i64 a.col,.int .i64 a.row,.slice ta tn tc,.slice (some ⟨gu,ou,none⟩) U.length uc],.box g1 28 (aY b x)] (by kernel_rfl) (by kernel_rfl) (by kernel_rfl) mS ?_
     repeat' (first|(apply dm (d:=95);(iterate 3 exact rfl);apply aj (j:=j);exact rfl;exact rfl;exact hlj)|(apply dm (d:=96);(iterate 3 exact rfl);apply aV;exact rfl;exact pK;first|exact hreadb|(rw [show 0+j*1=j by omega];exact hreadb))|(apply dm (d:=83);(iterate 3 exact rfl);apply oQ (c:=b.step - 1);exact rfl;exact rfl;exact hst)|(apply aa (f:=129);exact rfl;exact rfl;(intro w' hm;exact hRd w' _ hm))|(apply aQ (d:=104) (A:=A) (m:=1);(iterate 3 exact rfl);exact pK;(intro w hm;exact hm.cells_own pK);exact rfl;(intro u hu;simp [aJ] at hu;rcases hu with rfl|rfl|rfl|rfl|rfl|rfl|rfl|rfl|rfl|rfl|rfl<;>rfl);omega;(simp only [maxLen];omega);(intro A' cap' hA'))|refine sT ?_|refine sS ?_|refine sW ?_|refine sN ?_|refine sWN ?_|refine sM fun _=> ?_|(refine sC ?_ ?_<;>intro hb<;>try omega)|(refine sCW ?_ ?_<;>intro hb<;>try omega)|fail)
     all_goals first
      |(exfalso;omega)
      |(refine ⟨(j+1,A',cap'),hlj,by dsimp only;omega,by simp only [hnj2,List.length_append,List.length_singleton];exact sB,by exact sB,by simp only [hnj2,List.length_append,List.length_singleton,List.flatMap_append,List.flatMap_cons,List.flatMap_nil,List.append_nil];exact mS⟩;done)
   ·
    have e:j=BY.length:=by omega
    subst e
    rw [RJ]
    repeat' (first|refine sT ?_|refine sS ?_|refine sN ?_|refine sM fun _=> ?_|(refine sC ?_ ?_<;>intro hb<;>try omega)|fail)
    all_goals first
     |(exfalso;omega)
     |(refine ⟨(k+1,A,c),hlk,by dsimp only;omega,by simp only [hnk2];exact sB,by exact sB,by simp only [hnk2];exact mS⟩;done)
  ·
   have e:k=U.length:=by omega
   subst e
   rw [RJ]
   repeat' (first|refine sT ?_|refine sS ?_|refine sN ?_|refine sM fun _=> ?_|(refine sC ?_ ?_<;>intro hb<;>try omega)|fail)
   all_goals first
    |(exfalso;omega)
    |(refine ⟨(i+1,A,c),hlt,by dsimp only;omega,by simp only [hnx];exact sB,by exact sB,by simp only [hnx];exact mS⟩;done)
 ·
  have e:i=Q.length:=by omega
  subst e
  rw [RJ]
  repeat' (first|refine sT ?_|refine sS ?_|refine sM fun _=> ?_|(refine sC ?_ ?_<;>intro hb<;>try omega)|fail)
  all_goals first
   |(exfalso;omega)
   |(refine cA eIO rfl rfl mS ⟨A,c,rfl,rfl⟩;done)
set_option maxHeartbeats 8000000 in
theorem MA (b:Bk) (x:Bv) (w:World) (h:BRd w b x) (hlen:b.ents.length≤900):aF Tryz.prog 22 [.agg (aY b x).toArray] w fun v H=> ∃ A cap,v= .tuple #[sl A (lvE b).1.length cap,.int .i64 (lvE b).2]∧H= [.own A 62 11 (lvE b).1.length cap ((lvE b).1.flatMap aJ)]:=by
 refine aq Tryz.func22 rfl Tryz.ntmps22 rfl ?_
 have hC:=fun (w' :World) (H:List Blk) (hm:Mem w w' H)=>gF b x w' (h.of_w0 hm) (by omega)
 unfold lvE
 by_cases hbe:bkE b≠0
 ·
  rw [if_pos hbe]
  refine aB 62 11 ?_
  repeat' (first|(apply aa (f:=16);exact rfl;exact rfl;(intro w' hm;exact hC w' _ hm))|refine sT ?_|refine sS ?_|refine sM fun _=> ?_|(refine sC ?_ ?_<;>intro hb<;>try omega)|fail)
  all_goals first
   |(exfalso;omega)
   |(exact dS eIO rfl rfl rfl (H' := [.own none 62 11 0 0 []]) mS ⟨none,0,rfl,rfl⟩)
 rw [if_neg hbe]
 have hV:=fun (w' :World) (H:List Blk) (hm:Mem w w' H)=>jq b x w' (h.of_w0 hm) (fA hbe) hlen
 rw [show bkE b=0 by omega] at hC
 generalize cE b=V at hV ⊢
 repeat' (first|(apply aa (f:=16);exact rfl;exact rfl;(intro w' hm;exact hC w' _ hm))|(apply ay (f:=80);exact rfl;exact rfl;(intro w' hm;exact hV w' _ hm);rintro _ _ ⟨A,c,rfl,rfl⟩)|refine sT ?_|refine sS ?_|refine sM fun _=> ?_|(refine sC ?_ ?_<;>intro hb<;>try omega)|fail)
 all_goals first
  |(exfalso;omega)
  |(exact dS eIO rfl rfl rfl (H' := [.own A 62 11 V.length c (V.flatMap aJ)]) mS ⟨A,c,rfl,rfl⟩)
set_option maxHeartbeats 8000000 in
theorem JY (b c:Bk) (x y:Bv) (w:World) (h:BRd w b x) (k:BRd w c y) (hlen:b.ents.length≤900) (hlen2:c.ents.length≤900):aF Tryz.prog 25 [.agg (aY b x).toArray,.agg (aY c y).toArray] w fun v H=> ∃ A cap,v= .tuple #[sl A (frE b c).1.length cap,.int .i64 (frE b c).2]∧H= [.own A 62 11 (frE b c).1.length cap ((frE b c).1.flatMap aJ)]:=by
 refine aq Tryz.func25 rfl Tryz.ntmps25 rfl ?_
 have hC:=fun (w' :World) (H:List Blk) (hm:Mem w w' H)=>gF b x w' (h.of_w0 hm) (by omega)
 have hD:=fun (w' :World) (H:List Blk) (hm:Mem w w' H)=>gF c y w' (k.of_w0 hm) (by omega)
 unfold frE
 by_cases hbe:bkE b≠0
 ·
  rw [if_pos hbe]
  refine aB 62 11 ?_
  repeat' (first|(apply aa (d:=9);exact rfl;exact rfl;(intro w' hm;exact hC w' _ hm))|refine sT ?_|refine sS ?_|refine sM fun _=> ?_|(refine sC ?_ ?_<;>intro hb<;>try omega)|fail)
  all_goals first
   |(exfalso;omega)
   |(exact dS eIO rfl rfl rfl (H' := [.own none 62 11 0 0 []]) mS ⟨none,0,rfl,rfl⟩)
 rw [if_neg hbe]
 rw [show bkE b=0 by omega] at hC
 by_cases hce:bkE c≠0
 ·
  rw [if_pos hce]
  refine aB 62 11 ?_
  repeat' (first|(apply aa (d:=9);exact rfl;exact rfl;(intro w' hm;exact hC w' _ hm))|(apply aa (d:=14);exact rfl;exact rfl;(intro w' hm;exact hD w' _ hm))|refine sT ?_|refine sS ?_|refine sM fun _=> ?_|(refine sC ?_ ?_<;>intro hb<;>try omega)|fail)
  all_goals first
   |(exfalso;omega)
   |(exact dS eIO rfl rfl rfl (H' := [.own none 62 11 0 0 []]) mS ⟨none,0,rfl,rfl⟩)
 rw [if_neg hce]
 rw [show bkE c=0 by omega] at hD
 have h1:=fun (w' :World) (H:List Blk) (hm:Mem w w' H)=>jq b x w' (h.of_w0 hm) (fA hbe) hlen
 have h2:=fun (w' :World) (H:List Blk) (hm:Mem w w' H)=>jq c y w' (k.of_w0 hm) (fA hce) hlen2
 have hl2:=lW (fA hce) hlen2
 generalize cE b=U at h1 ⊢
 generalize cE c=V at h2 hl2 ⊢
 have hM:=fun (lv mv:Value) (w' :World) (hl:Reads w' lv V.length (V.flatMap aJ)) (hm:Reads w' mv U.length (U.flatMap aJ))=>jx V U lv mv w' hl hm (by omega)
 generalize ep V U=M at hM ⊢
 clear h k
 simp only [aY] at*
 repeat' (first|(apply aa (d:=9);exact rfl;exact rfl;(intro w' hm;exact hC w' _ hm))|(apply aa (d:=14);exact rfl;exact rfl;(intro w' hm;exact hD w' _ hm))|refine sT ?_|refine sS ?_|refine sM fun _=> ?_|(refine sC ?_ ?_<;>intro hb<;>try omega)|fail)
 all_goals try (exfalso;omega)
 refine oP (id:=7) [1,3,4] [.box _ 28 (aY b x),.box _ 28 (aY c y)] 7 rfl rfl (by simp only [aY];exact mS) ?_
 simp only [aY]
 repeat' (first|(apply fB (i:=0);(iterate 4 exact rfl);decide+kernel;decide+kernel;decide+kernel;(exact vC))|(apply fB (i:=2);(iterate 4 exact rfl);decide+kernel;decide+kernel;decide+kernel;(exact vC))|(apply fB (i:=5);(iterate 4 exact rfl);decide+kernel;decide+kernel;decide+kernel;(apply lH;exact rfl))|(apply fB (i:=6);(iterate 4 exact rfl);decide+kernel;decide+kernel;decide+kernel;(apply lH;exact rfl))|(apply dX (i:=1) (j:=3);(iterate 6 exact rfl);decide+kernel)|(apply cj (i:=1);(iterate 3 exact rfl);decide+kernel)|(apply cj (i:=3);(iterate 3 exact rfl);decide+kernel)|(apply cj (i:=4);(iterate 3 exact rfl);decide+kernel)|(apply oM;decide+kernel)|(apply Gf;(focus (exact mS;done)))|(apply ay (d:=19);exact rfl;exact rfl;(intro w' hm;exact h2 w' _ hm);rintro _ _ ⟨A2,c2,rfl,rfl⟩)|(apply ay (d:=21);exact rfl;exact rfl;(intro w' hm;exact h1 w' _ hm);rintro _ _ ⟨A,c1,rfl,rfl⟩)|(apply ay (d:=22);exact rfl;exact rfl;(intro w' hm;exact hM _ _ w' (Reads.of_own (A:=A2) hm pK) (Reads.of_own (A:=A) hm pK));rintro _ _ ⟨A3,c3,rfl,rfl⟩)|refine sT ?_|refine sS ?_|refine sM fun _=> ?_|(refine sC ?_ ?_<;>intro hb<;>try omega)|fail)
 all_goals first
  |(exfalso;omega)
  |(exact dS eIO rfl rfl rfl (H' := [.own A3 62 11 M.length c3 (M.flatMap aJ)]) mS ⟨A3,c3,rfl,rfl⟩)
set_option maxHeartbeats 8000000 in
theorem Ee (b:Bk) (x:Bv) (w:World) (h:BRd w b x) (hlen:b.ents.length≤900):aA Tryz.prog 27 [.agg (aY b x).toArray] w (.tuple #[.bool (cvE b).1,.int .i64 (cvE b).2]):=by
 refine aq Tryz.func27 rfl Tryz.ntmps27 rfl ?_
 have hC:=fun (w' :World) (H:List Blk) (hm:Mem w w' H)=>gF b x w' (h.of_w0 hm) (by omega)
 have hs:=h.s
 unfold cvE
 by_cases hbe:bkE b≠0
 ·
  rw [if_pos hbe]
  repeat' (first|(apply aa (f:=16);exact rfl;exact rfl;(intro w' hm;exact hC w' _ hm))|refine sT ?_|refine sS ?_|refine sM fun _=> ?_|(refine sC ?_ ?_<;>intro hb<;>try omega)|fail)
  all_goals first|(exfalso;omega)|((refine rT2 ?_);rfl)
 rw [if_neg hbe]
 have hV:=fun (w' :World) (H:List Blk) (hm:Mem w w' H)=>jq b x w' (h.of_w0 hm) (fA hbe) hlen
 have hvl:=lW (fA hbe) hlen
 rw [show bkE b=0 by omega] at hC
 generalize cE b=V at hV hvl ⊢
 have hM:=fun (lv mv:Value) (w' :World) (hl:Reads w' lv V.length (V.flatMap aJ)) (hm:Reads w' mv b.rels.length (b.rels.flatMap aJ))=>jx V b.rels lv mv w' hl hm (by omega)
 rw [← HB]
 generalize ep V b.rels=M at hM ⊢
 obtain ⟨cc,hcc⟩: ∃ cc,decide ((M.length:Int)=0)=cc:=⟨_,rfl⟩
 rw [hcc]
 repeat' (first|(apply aa (f:=16);exact rfl;exact rfl;(intro w' hm;exact hC w' _ hm))|((refine ia (id:=4) [1,4] [] [.box _ 28 (aY b x)] (by kernel_rfl) (by kernel_rfl) (by kernel_rfl) mS ?_))|(apply ay (f:=80);exact rfl;exact rfl;(intro w' hm;exact hV w' _ hm);rintro _ _ ⟨A,c,rfl,rfl⟩)|(apply ay (f:=82);exact rfl;exact rfl;(intro w' hm;exact hM _ _ w' (Reads.of_own (A:=A) hm pK) (hs.of_w0 hm));rintro _ _ ⟨A3,c3,rfl,rfl⟩)|(apply dm (d:=16);(iterate 3 exact rfl);apply KC;exact rfl;exact rfl;exact hcc)|refine sT ?_|refine sS ?_|refine sW ?_|refine sM fun _=> ?_|(refine sC ?_ ?_<;>intro hb<;>try omega)|(refine sCW ?_ ?_<;>intro hb<;>try omega)|fail)
 all_goals first|(exfalso;omega)|((refine rT2 ?_);rfl)
set_option maxHeartbeats 16000000 in
theorem Mz (b:Bk) (x:Bv) (w:World) (h:BRd w b x) (hlen:b.ents.length≤900) (hsm:Small b):aF Tryz.prog 29 [.agg (aY b x).toArray] w fun v H=> ∃ a:Bo,v= .tuple #[.agg (aY (onE b).1 a.v).toArray,.int .i64 (onE b).2]∧H=bR (onE b).1 a:=by
 refine aq Tryz.func29 rfl Tryz.ntmps29 rfl ?_
 have hC:=fun (w' :World) (H:List Blk) (hm:Mem w w' H)=>gF b x w' (h.of_w0 hm) (by omega)
 have hY:=fun (w' :World) (H:List Blk) (hm:Mem w w' H)=>oK b x w' (h.of_w0 hm) hsm
 have hs:=h.s
 have hsl:=hsm.s
 unfold onE
 by_cases hbe:bkE b≠0
 ·
  rw [if_pos hbe]
  clear hY
  refine aB 52 3 ?_
  refine aB 54 7 ?_
  refine aB 56 8 ?_
  refine aB 58 9 ?_
  refine aB 62 11 ?_
  generalize bkE b=e at hC hbe ⊢
  simp only [aY] at hC ⊢
  repeat' (first|(apply aa (f:=16);exact rfl;exact rfl;(intro w' hm;exact hC w' _ hm))|refine sT ?_|refine sS ?_|refine sM fun _=> ?_|(refine sC ?_ ?_<;>intro hb<;>try omega)|fail)
  all_goals first
   |(exfalso;omega)
   |(refine tS eIO rfl rfl pK rfl rfl (H' :=bR Ew zz) (by unfold bR;exact mS) ⟨zz,rfl,rfl⟩;done)
 rw [if_neg hbe]
 have hV:=fun (w' :World) (H:List Blk) (hm:Mem w w' H)=>jq b x w' (h.of_w0 hm) (fA hbe) hlen
 have hvl:=lW (fA hbe) hlen
 rw [show bkE b=0 by omega] at hC
 unfold Lt Km
 have hml:=o5 (cE b) b.rels
 have hM:=fun (lv mv:Value) (w' :World) (hl:Reads w' lv (cE b).length ((cE b).flatMap aJ)) (hm:Reads w' mv b.rels.length (b.rels.flatMap aJ))=>jx (cE b) b.rels lv mv w' hl hm (by omega)
 generalize ep (cE b) b.rels=M at hM hml ⊢
 generalize cE b=V at hV hM hvl hml
 have el1:(b.rels++M).length=b.rels.length+M.length:=QT
 have el2:(b.rels++M).flatMap aJ=b.rels.flatMap aJ++M.flatMap aJ:=Rn
 simp only [aY,bR,el1,el2] at hC hY hV ⊢
 repeat' (first|(apply aa (f:=16);exact rfl;exact rfl;(intro w' hm;exact hC w' _ hm))|(apply ay (f:=10);exact rfl;exact rfl;(intro w' hm;exact hY w' _ hm);rintro _ _ ⟨a,rfl,rfl⟩)|refine sT ?_|refine sS ?_|refine sM fun _=> ?_|(refine sC ?_ ?_<;>intro hb<;>try omega)|fail)
 all_goals try (exfalso;omega)
 refine oP (id:=5) [1,3,6,7,9] [.box _ 28 (aY b x)] 10 rfl rfl (by simp only [aY];exact mS) ?_
 simp only [aY]
 repeat' (first|(apply fB (i:=0);(iterate 4 exact rfl);decide+kernel;decide+kernel;decide+kernel;(exact vC))|(apply fB (i:=2);(iterate 4 exact rfl);decide+kernel;decide+kernel;decide+kernel;(exact vC))|(apply fB (i:=4);(iterate 4 exact rfl);decide+kernel;decide+kernel;decide+kernel;(exact vC))|(apply fB (i:=5);(iterate 4 exact rfl);decide+kernel;decide+kernel;decide+kernel;(exact vC))|(apply fB (i:=8);(iterate 4 exact rfl);decide+kernel;decide+kernel;decide+kernel;(exact vC))|(apply dX (i:=1) (j:=3);(iterate 6 exact rfl);decide+kernel)|(apply dX (i:=1) (j:=6);(iterate 6 exact rfl);decide+kernel)|(apply cj (i:=1);(iterate 3 exact rfl);decide+kernel)|(apply cj (i:=3);(iterate 3 exact rfl);decide+kernel)|(apply cj (i:=6);(iterate 3 exact rfl);decide+kernel)|(apply cj (i:=7);(iterate 3 exact rfl);decide+kernel)|(apply cj (i:=9);(iterate 3 exact rfl);decide+kernel)|(apply oM;decide+kernel)|(apply Gf;(focus (exact mS;done)))|(apply ay (f:=80);exact rfl;exact rfl;(intro w' hm;exact hV w' _ hm);rintro _ _ ⟨A,c,rfl,rfl⟩)|(apply ay (f:=82);exact rfl;exact rfl;(intro w' hm;exact hM _ _ w' (Reads.of_own (A:=A) hm pK) (hs.of_w0 hm));rintro _ _ ⟨A3,c3,rfl,rfl⟩)|(apply bS (d:=21) (A:=a.s) (n' :=b.rels.length) (m:=M.length);(iterate 3 exact rfl);exact pK;(intro w hm;exact Reads.of_own (A:=A3) hm pK);exact aM cQ M;exact mP M;omega;(simp only [maxLen];omega);intro A17 c17 h17)|refine sT ?_|refine sS ?_|refine sM fun _=> ?_|(refine sC ?_ ?_<;>intro hb<;>try omega)|fail)
 all_goals first
  |(exfalso;omega)
  |(refine tS eIO rfl rfl pK rfl rfl (H' := [.own a.e 52 3 b.ents.length a.ce (b.ents.flatMap cF),.own a.r 54 7 b.rules.length a.cr (b.rules.flatMap bM),.own a.g 56 8 b.grants.length a.cg (b.grants.flatMap bX),.own a.l 58 9 b.log.length a.cl (b.log.flatMap dK),.own A17 62 11 (b.rels.length+M.length) c17 (b.rels.flatMap aJ++M.flatMap aJ)]) mS ⟨⟨a.e,a.r,a.g,a.l,A17,a.ce,a.cr,a.cg,a.cl,c17⟩,rfl,rfl⟩;done)
set_option maxHeartbeats 32000000 in
theorem sj (b c:Bk) (x y:Bv) (w:World) (h:BRd w b x) (k:BRd w c y) (hW:Words w):aA Tryz.prog 5 [.agg (aY b x).toArray,.agg (aY c y).toArray] w (.bool true):=by
 refine aq Tryz.func5 rfl Tryz.ntmps5 rfl ?_
 have hS1:=fun (w' :World) (H:List Blk) (hm:Mem w w' H)=>xE b x w' (h.of_w0 hm)
 have hS2:=fun (w' :World) (H:List Blk) (hm:Mem w w' H)=>xE c y w' (k.of_w0 hm)
 cases hs1:sL b with
 |false=>
  rw [hs1] at hS1
  repeat' (first|(apply aa (d:=18);exact rfl;exact rfl;(intro w' hm;exact hS1 w' _ hm))|refine sT ?_|refine sS ?_|refine sM fun _=> ?_|(refine sC ?_ ?_<;>intro hb<;>try omega)|exact cT|fail)
  all_goals first|(exfalso;omega)|((refine rT1 ?_);rfl)
 |true=>
 rw [hs1] at hS1
 cases hs2:sL c with
 |false=>
  rw [hs2] at hS2
  repeat' (first|(apply aa (d:=18);exact rfl;exact rfl;(intro w' hm;exact hS1 w' _ hm))|(apply aa (d:=22);exact rfl;exact rfl;(intro w' hm;exact hS2 w' _ hm))|refine sT ?_|refine sS ?_|refine sM fun _=> ?_|(refine sC ?_ ?_<;>intro hb<;>try omega)|exact cT|fail)
  all_goals first|(exfalso;omega)|((refine rT1 ?_);rfl)
 |true=>
 rw [hs2] at hS2
 have hsb:=yK hs1
 have hsc:=yK hs2
 have hsm1:Small b:=⟨by omega,by omega,by omega,by omega,by omega⟩
 have hsm2:Small c:=⟨by omega,by omega,by omega,by omega,by omega⟩
 have hl1:b.ents.length≤900:=by omega
 have hl2:c.ents.length≤900:=by omega
 have hY1:=fun (w' :World) (H:List Blk) (hm:Mem w w' H)=>oK b x w' (h.of_w0 hm) hsm1
 have hY2:=fun (w' :World) (H:List Blk) (hm:Mem w w' H)=>oK c y w' (k.of_w0 hm) hsm2
 have haw:=fun (w' :World) (H:List Blk) (hm:Mem w w' H)=>Gi w' (hW.next hm)
 have hL1:=fun (a:Bo) (w' :World) (H:List Blk) (hm:Mem w w' H) (hr:BRd w' b a.v)=>sm b a.v w' hr (hW.next hm) hl1
 have hL2:=fun (w' :World) (H:List Blk) (hm:Mem w w' H)=>MA b x w' (h.of_w0 hm) hl1
 have hF1:=fun (a a' :Bo) (w' :World) (H:List Blk) (hm:Mem w w' H) (hr:BRd w' b a.v) (hr' :BRd w' c a'.v)=>JZ b c a.v a'.v w' hr hr' (hW.next hm) hl1 hl2
 have hF2:=fun (w' :World) (H:List Blk) (hm:Mem w w' H)=>JY b c x y w' (h.of_w0 hm) (k.of_w0 hm) hl1 hl2
 have hC1:=fun (a:Bo) (w' :World) (H:List Blk) (hm:Mem w w' H) (hr:BRd w' b a.v)=>Ef b a.v w' hr (hW.next hm) hl1
 have hC2:=fun (w' :World) (H:List Blk) (hm:Mem w w' H)=>Ee b x w' (h.of_w0 hm) hl1
 have hO1:=fun (a:Bo) (w' :World) (H:List Blk) (hm:Mem w w' H) (hr:BRd w' b a.v)=>MB b a.v w' hr (hW.next hm) hl1 hsm1
 have hO2:=fun (w' :World) (H:List Blk) (hm:Mem w w' H)=>Mz b x w' (h.of_w0 hm) hl1 hsm1
 have hE2:=fun (a:Bo) (w' :World) (H:List Blk) (hm:Mem w w' H) (hr:BRd w' b a.v)=>lB b hr (h.of_w0 hm)
 have hE3:=fun (a:Bo) (w' :World) (H:List Blk) (hm:Mem w w' H) (hr:BRd w' c a.v)=>lB c hr (k.of_w0 hm)
 generalize lvE b=lv at hL1 hL2
 generalize frE b c=fr at hF1 hF2
 generalize cvE b=cv at hC1 hC2
 generalize onE b=on at hO1 hO2
 obtain ⟨V,ev⟩:=lv
 obtain ⟨U,eu⟩:=fr
 obtain ⟨cb,ec⟩:=cv
 obtain ⟨P,eo⟩:=on
 dsimp only at hL1 hL2 hF1 hF2 hC1 hC2 hO1 hO2
 have hE1:=fun (a a' :Bo) (w' :World) (H:List Blk) (hm:Mem w w' H) (hr:BRd w' P a.v) (hr' :BRd w' P a'.v)=>lB P hr hr'
 repeat' (first|(apply aa (d:=18);exact rfl;exact rfl;(intro w' hm;exact hS1 w' _ hm))|(apply aa (d:=22);exact rfl;exact rfl;(intro w' hm;exact hS2 w' _ hm))|refine sT ?_|refine sS ?_|refine sM fun _=> ?_|(refine sC ?_ ?_<;>intro hb<;>try omega)|exact cT|fail)
 all_goals try (exfalso;omega)
 rename_i g2 g3
 (refine sv (id:=3) (ι:=Nat × Nat × Bo × Bo) (fun z=> [(2,.pointer (some ⟨g2,0,none⟩)),(3,.pointer (some ⟨g3,0,none⟩)),(5,.pointer (some ⟨z.1,0,none⟩)),(6,.pointer (some ⟨z.2.1,0,none⟩))]) (fun z=> .box g2 28 (aY b x):: .box g3 28 (aY c y):: .box z.1 28 (aY b z.2.2.1.v):: .box z.2.1 28 (aY c z.2.2.2.v)::(bR b z.2.2.1++bR c z.2.2.2)) (fun _=>True) ?_ ?_)
 ·
  refine oP (id:=3) [1,3,4,5,6,7] [.box g2 28 (aY b x),.box g3 28 (aY c y)] 8 rfl rfl mS ?_
  clear hL1 hL2 hF1 hF2 hC1 hC2 hO1 hO2 hE1 hE2 hE3 haw hS1 hS2
  repeat' (first|(apply fB (i:=0);(iterate 4 exact rfl);decide+kernel;decide+kernel;decide+kernel;(exact vC))|(apply fB (i:=2);(iterate 4 exact rfl);decide+kernel;decide+kernel;decide+kernel;(exact vC))|(apply dX (i:=1) (j:=3);(iterate 6 exact rfl);decide+kernel)|(apply dX (i:=1) (j:=4);(iterate 6 exact rfl);decide+kernel)|(apply dX (i:=1) (j:=5);(iterate 6 exact rfl);decide+kernel)|(apply dX (i:=3) (j:=4);(iterate 6 exact rfl);decide+kernel)|(apply dX (i:=3) (j:=5);(iterate 6 exact rfl);decide+kernel)|(apply dX (i:=4) (j:=5);(iterate 6 exact rfl);decide+kernel)|(apply dX (i:=6) (j:=7);(iterate 6 exact rfl);decide+kernel)|(apply cj (i:=1);(iterate 3 exact rfl);decide+kernel)|(apply cj (i:=3);(iterate 3 exact rfl);decide+kernel)|(apply cj (i:=4);(iterate 3 exact rfl);decide+kernel)|(apply cj (i:=5);(iterate 3 exact rfl);decide+kernel)|(apply cj (i:=6);(iterate 3 exact rfl);decide+kernel)|(apply cj (i:=7);(iterate 3 exact rfl);decide+kernel)|(apply oM;decide+kernel)|(apply Gf;(focus (exact mS;done)))|(apply MQ (i:=1) (j:=3) (k:=4) (m:=5);decide+kernel)|(apply zI (i:=1) (j:=3) (k:=4);decide+kernel)|(apply zI (i:=1) (j:=3) (k:=5);decide+kernel)|(apply zI (i:=1) (j:=4) (k:=5);decide+kernel)|(apply zI (i:=3) (j:=4) (k:=5);decide+kernel)|(apply Ps;(iterate 3 exact rfl);decide+kernel)|(apply ay (d:=26);exact rfl;exact rfl;(intro w' hm;exact hY1 w' _ hm);rintro _ _ ⟨a1,rfl,rfl⟩;unfold bR)|(apply ay (d:=28);exact rfl;exact rfl;(intro w' hm;exact hY2 w' _ hm);rintro _ _ ⟨a2,rfl,rfl⟩;unfold bR)|refine sT ?_|refine sS ?_|refine sM fun _=> ?_|(refine sC ?_ ?_<;>intro hb<;>try omega)|exact cT|fail)
  all_goals
   refine cG (i:=(_,_,a1,a2)) trivial sB (by dsimp only;(try unfold bR);(try simp only [List.append_eq,List.cons_append,List.nil_append]);exact mS)
 rintro ⟨g5,g6,a1,a2⟩ _
 dsimp only
 unfold bR
 simp only [Rj,QU,QW]
 clear hY1 hY2 hS1 hS2
 repeat' (first|(apply ay (d:=31);exact rfl;exact rfl;(intro w' hm;exact hL1 a1 w' _ hm (BRd.of_rows hm pK pK pK pK pK));rintro _ _ ⟨A1,c1,rfl,rfl⟩)|(apply ay (d:=36);exact rfl;exact rfl;(intro w' hm;exact hL2 w' _ hm);rintro _ _ ⟨A2,c2,rfl,rfl⟩)|(apply aa (d:=41);exact rfl;exact rfl;(intro w' hm;exact mR V (Reads.of_own (A:=A1) hm pK) (Reads.of_own (A:=A2) hm pK)))|(apply ak (d:=46);exact rfl;apply vz;exact rfl;exact rfl)|(apply ak (d:=67);exact rfl;apply vz;exact rfl;exact rfl)|(apply ay (d:=51);exact rfl;exact rfl;(intro w' hm;exact hF1 a1 a2 w' _ hm (BRd.of_rows hm pK pK pK pK pK) (BRd.of_rows hm pK pK pK pK pK));rintro _ _ ⟨A3,c3,rfl,rfl⟩)|(apply ay (d:=57);exact rfl;exact rfl;(intro w' hm;exact hF2 w' _ hm);rintro _ _ ⟨A4,c4,rfl,rfl⟩)|(apply aa (d:=62);exact rfl;exact rfl;(intro w' hm;exact mR U (Reads.of_own (A:=A3) hm pK) (Reads.of_own (A:=A4) hm pK)))|(apply aa (d:=71);exact rfl;exact rfl;(intro w' hm;exact hC1 a1 w' _ hm (BRd.of_rows hm pK pK pK pK pK)))|(apply aa (d:=76);exact rfl;exact rfl;(intro w' hm;exact hC2 w' _ hm))|(apply ay (d:=81);exact rfl;exact rfl;(intro w' hm;exact hO1 a1 w' _ hm (BRd.of_rows hm pK pK pK pK pK));rintro _ _ ⟨a5,rfl,rfl⟩;unfold bR)|(apply ay (d:=86);exact rfl;exact rfl;(intro w' hm;exact hO2 w' _ hm);rintro _ _ ⟨a6,rfl,rfl⟩;unfold bR)|(apply ak (d:=91);exact rfl;apply BS;exact rfl;exact rfl)|(apply ak (d:=95);exact rfl;apply vJ;exact rfl;exact rfl)|(apply ak (d:=105);exact rfl;apply vJ;exact rfl;exact rfl)|(apply aa (d:=100);exact rfl;exact rfl;(intro w' hm;exact hE1 a5 a6 w' _ hm (BRd.of_rows hm pK pK pK pK pK) (BRd.of_rows hm pK pK pK pK pK)))|(apply aa (d:=110);exact rfl;exact rfl;(intro w' hm;exact hE2 a1 w' _ hm (BRd.of_rows hm pK pK pK pK pK)))|(apply aa (d:=115);exact rfl;exact rfl;(intro w' hm;exact hE3 a2 w' _ hm (BRd.of_rows hm pK pK pK pK pK)))|(apply aa (f:=30);exact rfl;exact rfl;(intro w' hm;exact haw w' _ hm))|refine sT ?_|refine sS ?_|refine sM fun _=> ?_|(refine sC ?_ ?_<;>intro hb<;>try omega)|exact cT|fail)
 all_goals first|(exfalso;omega)|((refine rT1 ?_);rfl)
end Go.SL

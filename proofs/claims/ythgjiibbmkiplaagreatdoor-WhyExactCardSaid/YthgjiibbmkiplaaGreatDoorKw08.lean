/-
  Lemmas and walks, put together: R1 Sb K1 W1 W11 W4 W27 W30 W33 B1 Px W2 W3 W28 A2 D3.
-/
import Derived.Test.YthgjiibbmkiplaaGreatDoorKw05
import Derived.Test.YthgjiibbmkiplaaGreatDoorKw06
import Derived.Test.YthgjiibbmkiplaaGreatDoorKw07
set_option linter.unusedSimpArgs false
set_option linter.unusedVariables false
set_option maxRecDepth 20000
set_option maxHeartbeats 16000000
namespace Go.SL
open Go Go.Proofs
attribute [local irreducible] W WL WQ WG WA WX WLI WR WT WC VOp RW thn blk bA scp aY aX bw FnAt FnIn FnP ceP
section
variable {w0:World} {s:az} {H:List Blk} {ty t' :TypeId} {x y:Operand}
theorem pW {a b:Rct} {c:Bool} (h:decide (a=b)=c) (hx:ev s x=some (.agg (ay a).toArray)) (hy:ev s y=some (.agg (ay b).toArray)):VOp Tryz.prog w0 s H (.binOp .eql 31 x y t') ty (.bool c):=by
 have h1:=Uf (w0:=w0) (H:=H) (ty:=ty) (t' :=t') hx hy;rwa [w9,h] at h1
theorem pV {a b:Rct} {c:Bool} (h:decide (a=b)=c) (hx:ev s x=some (.agg (ay a).toArray)) (hy:ev s y=some (.agg (ay b).toArray)):VOp Tryz.prog w0 s H (.binOp .neq 31 x y t') ty (.bool (!c)):=by
 have h1:=NL (w0:=w0) (H:=H) (ty:=ty) (t' :=t') hx hy;rwa [w9,h] at h1
end
end Go.SL
namespace Go.SL
open Go Go.RowKit
theorem pK {p:Prop} (h:p:=by (repeat first|exact .hd|apply Sel.tl|apply In.tl);(first|done|fail)):p:=h
theorem sB {p:Prop} (h:p:=by (repeat (first|exact Sub.nil _|refine Sub.cons rfl ?_));(first|done|fail)):p:=h
theorem mS {p:Prop} (h:p:=by (repeat (first|exact MSub.nil _|refine MSub.pick (by (repeat first|exact .hd|apply Sel.tl|apply In.tl)) ?_|exact MSub.refl _|refine MSub.drop .hd ?_));(first|done|fail)):p:=h
theorem vC {P:Program} {w0:World} {s:az} {H:List Blk} {op:Op} {ty:TypeId} {v:Value} (h:VOp P w0 s H op ty v:=by
 first
 |(with_reducible apply TX);exact rfl
 |(with_reducible apply EQ);exact rfl
 |(with_reducible apply Vk);exact rfl
 |(with_reducible apply NP);exact rfl
 |(with_reducible apply xJ);exact rfl
 |(with_reducible apply ik);exact rfl;exact pK;exact rfl
 |(with_reducible apply Ue);exact rfl;exact rfl
 |(with_reducible apply T9);exact rfl;exact rfl
 |(with_reducible apply J7);exact rfl;exact rfl
 |(with_reducible apply Aj);exact rfl;exact rfl
 |(with_reducible apply EM);exact rfl;exact pK;exact rfl
 |(with_reducible apply u9);exact rfl;exact pK;exact rfl;exact rfl
 |(with_reducible apply Q7);(iterate 3 exact rfl)
 |(with_reducible apply EK);(iterate 3 exact rfl)
 |(with_reducible apply ij);exact rfl
 |(with_reducible apply Q4);exact rfl
 |((with_reducible apply v_neqpn);exact rfl)):VOp P w0 s H op ty v:=h
theorem vC2 {P:Program} {w0:World} {s:az} {H:List Blk} {op:Op} {ty:TypeId} {v:Value} (h:VOp P w0 s H op ty v:=by
 first
 |(with_reducible apply EP);exact rfl;exact rfl;(first|assumption|omega)
 |(with_reducible apply Uc);exact rfl;exact rfl;(first|assumption|omega)
 |(with_reducible apply H7);(iterate 3 exact rfl);(first|assumption|omega)
 |(with_reducible apply NG);exact rfl;exact rfl;(first|assumption|omega)
 |(with_reducible apply QX);exact rfl;exact rfl;(first|assumption|omega)
 |(with_reducible apply NH);exact rfl;exact rfl;(first|assumption|omega)
 |(with_reducible apply EP (j:=4));exact rfl;exact rfl;(first|assumption|omega)
 |(with_reducible apply NH (hi:=4));exact rfl;exact rfl;(first|assumption|omega)
 |(with_reducible apply NG (lo:=1));exact rfl;exact rfl;(first|assumption|omega)
 |(with_reducible apply Ar);(iterate 3 exact rfl)
 |((with_reducible apply Lc);(iterate 3 exact rfl))):VOp P w0 s H op ty v:=h
theorem vA {P:Program} {w0:World} {s:az} {H:List Blk} {op:Op} {ty:TypeId} {v:Value} (h:VOp P w0 s H op ty v:=by
 first
 |(with_reducible apply gZ);exact rfl;exact rfl;simp only [maxLen] at*;omega
 |(with_reducible apply v_1addN);exact rfl;exact rfl;simp only [maxLen] at*;omega
 |(with_reducible apply m9);exact rfl;exact rfl;simp only [maxLen] at*;omega
 |(with_reducible apply cQ);exact rfl;exact rfl;omega;simp only [maxLen] at*;omega
 |(with_reducible apply m3);exact rfl;exact rfl;omega;simp only [maxLen] at*;omega
 |((with_reducible apply NN);exact rfl;exact rfl)):VOp P w0 s H op ty v:=h
theorem vI {P:Program} {w0:World} {s:az} {H:List Blk} {op:Op} {ty:TypeId} {v:Value} (h:VOp P w0 s H op ty v:=by
 first
 |(with_reducible apply AE);exact rfl;exact rfl;exact ⟨by omega,by omega⟩
 |(with_reducible apply Ti);exact rfl;exact rfl;exact ⟨by omega,by omega⟩
 |((with_reducible apply Tm);exact rfl;exact rfl;exact ⟨by omega,by omega⟩)):VOp P w0 s H op ty v:=h
theorem vR {P:Program} {w0:World} {s:az} {H:List Blk} {op:Op} {ty:TypeId} {v:Value} (h:VOp P w0 s H op ty v:=by
 first
 |(with_reducible apply ai);exact rfl;exact rfl;(first|assumption|omega)
 |(with_reducible apply aP);exact rfl;assumption;exact rfl
 |(with_reducible apply rA);exact rfl;assumption
 |((with_reducible apply m7);exact rfl;assumption;exact rfl)):VOp P w0 s H op ty v:=h
theorem sT {p q:Prop} (k:q) (h:q→p:=by
 first
 |(with_reducible first|exact oo|exact Vv|exact U7|exact Nz|exact U9|exact TS|exact TU|exact QU|exact Vt|exact Vw|exact V8|exact V6|exact V9|exact cut_r|exact cut_e)
 |intro k;(with_reducible apply ak);exact rfl;exact vC;exact k
 |intro k;(with_reducible apply QK);exact rfl;exact rfl;exact k
 |intro k;(with_reducible apply Np);(iterate 4 exact rfl);exact k
 |intro k;(with_reducible apply Nn);(iterate 3 exact rfl);exact k
 |intro k;(with_reducible apply zD);exact rfl;exact rfl;exact pK;(iterate 3 exact rfl);exact k
 |intro k;(with_reducible apply Ea);exact rfl;exact rfl;exact pK;(iterate 4 exact rfl);exact k
 |intro k;(with_reducible apply EF);exact rfl;exact k
 |intro k;(with_reducible apply CD);exact rfl;exact k
 |(intro k;(with_reducible apply V5);exact rfl;exact k)):p:=h k
theorem sM {p:Prop} {q:Nat→Prop} (k: ∀ g,q g) (h:(∀ g,q g)→p:=by
 first
 |intro k;(with_reducible apply QL);exact rfl;exact rfl;exact k
 |intro k;(with_reducible apply QM);(iterate 3 exact rfl);exact k
 |intro k;(with_reducible apply Nt);exact rfl;exact k
 |(intro k;(with_reducible apply zE);(iterate 7 exact rfl);exact k)):p:=h k
theorem sT2 {p q:Prop} (k:q) (h:q→p:=by exact ak rfl vC2):p:=h k
theorem sQ2 {p q:Prop} (k:q) (h:q→p:=by exact aQ rfl vC2):p:=h k
theorem sS {p q:Prop} (k:q) (h:q→p:=by with_reducible first|exact QQ|exact QR|exact VC|exact VB|exact scp_e):p:=h k
theorem sP {p q:Prop} (k:q) (h:q→p:=by with_reducible first|exact Vu|exact V7|exact V4|exact scp_p):p:=h k
theorem sC {p q1 q2 r1 r2:Prop} (k1:q1→q2) (k2:r1→r2) (h:(q1→q2)→(r1→r2)→p:=by
 intro k1 k2
 first
 |(with_reducible apply KY);exact rfl;exact rfl;exact fun hb=>k1 (Tidy.out hb);exact fun hb=>k2 (Tidy.out hb)
 |((with_reducible apply TW);exact rfl;exact fun hb=>k1 (Tidy.out hb);exact fun hb=>k2 (Tidy.out hb))):p:=h k1 k2
theorem cT {p:Prop} (h:p:=by (with_reducible apply fG (i:=()))<;>first|exact trivial|((repeat (first|exact Sub.nil _|refine Sub.cons rfl ?_));done)|((repeat (first|exact MSub.nil _|refine MSub.pick (by (repeat first|exact .hd|apply Sel.tl|apply In.tl)) ?_|exact MSub.refl _|refine MSub.drop .hd ?_));done)|fail):p:=h
theorem sQ {p q:Prop} (k:q) (h:q→p:=by
 first
 |with_reducible exact TN
 |intro k;(with_reducible apply aQ);exact rfl;exact vC;exact k
 |intro k;(with_reducible apply QH);exact rfl;exact rfl;exact k
 |intro k;(with_reducible apply Ni);(iterate 4 exact rfl);exact k
 |(intro k;(with_reducible apply wq_gno_u);(iterate 3 exact rfl);exact k)):p:=h k
theorem sCQ {p q1 q2 r1 r2:Prop} (k1:q1→q2) (k2:r1→r2) (h:(q1→q2)→(r1→r2)→p:=by
 intro k1 k2
 first
 |((with_reducible apply KV);exact rfl;exact rfl;exact fun hb=>k1 (Tidy.out hb);exact fun hb=>k2 (Tidy.out hb))):p:=h k1 k2
theorem sD {p q:Prop} (k:q) (h:q→p:=by intro k;(with_reducible apply kM);kernel_rfl;kernel_rfl;exact k):p:=h k
theorem sN {p q:Prop} (k:q) (h:q→p:=by exact ak rfl vA):p:=h k
theorem sNQ {p q:Prop} (k:q) (h:q→p:=by exact aQ rfl vA):p:=h k
theorem sJ {p q:Prop} (k:q) (h:q→p:=by exact ak rfl vI):p:=h k
theorem sJQ {p q:Prop} (k:q) (h:q→p:=by exact aQ rfl vI):p:=h k
theorem sJG {p q:Prop} (k:q) (h:q→p:=by exact ru (f:=60) rfl (by decide+kernel) rfl vI):p:=h k
theorem sO {p q:Prop} (k:q) (h:q→p:=by exact ak rfl vR):p:=h k
theorem sOQ {p q:Prop} (k:q) (h:q→p:=by exact aQ rfl vR):p:=h k
theorem sG {p q:Prop} (k:q) (h:q→p:=by
 first
 |with_reducible exact Cw
 |intro k;(with_reducible apply HY);exact rfl;intro D ht;exact vC;exact fun _=>rfl;exact k
 |exact HZ _ _ rfl rfl (fun D=> .hd) rfl rfl rfl (fun _=>Y2 rfl) (fun D ht=> .refl _)
 |(intro k;(with_reducible apply ru (f:=60));exact rfl;decide+kernel;exact rfl;exact vC;exact k)):p:=h k
theorem sX {p q:Prop} (k:q) (h:q→p:=by
 first
 |with_reducible exact TK
 |intro k;(with_reducible apply DW);(iterate 3 exact rfl);intro D ht;exact vC;exact fun _=>rfl;exact k
 |(intro k;(with_reducible apply wx_gno);(iterate 3 exact rfl);exact fun _=>rfl;exact k)):p:=h k
theorem sCX {p q1 q2 r1 r2:Prop} (k1:q1→q2) (k2:r1→r2) (h:(q1→q2)→(r1→r2)→p:=by
 intro k1 k2
 first
 |((with_reducible apply wx_gsplit);exact rfl;exact rfl;exact fun hb=>k1 (Tidy.out hb);exact fun hb=>k2 (Tidy.out hb))):p:=h k1 k2
theorem sXO {p q:Prop} (k:q) (h:q→p:=by exact DW rfl rfl rfl (fun D ht=>vR) (fun _=>rfl)):p:=h k
theorem sBG {p q:Prop} (k:q) (h:q→p:=by with_reducible first|exact wl_app_c|exact wl_app_n):p:=h k
theorem sI {p q:Prop} (k:q) (h:q→p:=by first|(with_reducible exact QJ)|(intro k;(with_reducible apply JX);exact rfl;exact rfl;exact vC;exact k)):p:=h k
theorem sR {p q:Prop} (k:q) (h:q→p:=by
 first
 |(with_reducible first|exact TM|exact wr_ret|exact wr_exit|exact QF|exact DY|exact Nh|exact oh|exact wt_seq_c|exact wt_seq_b|exact wt_seq_k|exact wt_last_r|exact DX|exact KT|exact Mz|exact My)
 |intro k;(with_reducible apply B0);exact rfl;exact k
 |intro k;(with_reducible apply zC);exact rfl;exact k
 |(intro k;(with_reducible apply KU);exact rfl;(repeat (first|exact LN|exact JD|apply UD|apply UE|apply no_cut));exact k)):p:=h k
theorem sCR {p q1 q2 r1 r2:Prop} (k1:q1→q2) (k2:r1→r2) (h:(q1→q2)→(r1→r2)→p:=by
 intro k1 k2
 first
 |((with_reducible apply QG);exact rfl;exact fun hb=>k1 (Tidy.out hb);exact fun hb=>k2 (Tidy.out hb))):p:=h k1 k2
theorem sW {p q:Prop} (k:q) (h:q→p:=by
 first
 |with_reducible exact TQ
 |intro k;(with_reducible apply fH);(iterate 3 exact rfl);exact vC;exact k
 |intro k;(with_reducible apply TR);(iterate 3 exact rfl);exact k
 |intro k;(with_reducible apply wc_gno0);exact rfl;exact k
 |intro k;(with_reducible apply WH);exact rfl;exact rfl;exact k
 |intro k;(with_reducible apply U5);(iterate 4 exact rfl);exact vC;exact k
 |(intro k;(with_reducible apply rW);exact mS;exact k)):p:=h k
theorem sW2 {p q:Prop} (k:q) (h:q→p:=by exact fH rfl rfl rfl vC2):p:=h k
theorem sWN {p q:Prop} (k:q) (h:q→p:=by exact fH rfl rfl rfl vA):p:=h k
theorem sWJ {p q:Prop} (k:q) (h:q→p:=by exact fH rfl rfl rfl vI):p:=h k
theorem sCW {p q1 q2 r1 r2:Prop} (k1:q1→q2) (k2:r1→r2) (h:(q1→q2)→(r1→r2)→p:=by
 intro k1 k2
 first
 |((with_reducible apply K5);exact rfl;exact rfl;exact fun hb=>k1 (Tidy.out hb);exact fun hb=>k2 (Tidy.out hb))):p:=h k1 k2
theorem sG2 {p q:Prop} (k:q) (h:q→p:=by first|exact HY rfl (fun D ht=>vC2) (fun _=>rfl)|exact ru (f:=60) rfl (by decide+kernel) rfl vC2):p:=h k
theorem sX2 {p q:Prop} (k:q) (h:q→p:=by exact DW rfl rfl rfl (fun D ht=>vC2) (fun _=>rfl)):p:=h k
theorem zZA {p q:Prop} (k:q) (h:q→p:=by first|exact fun k=>sT k|exact fun k=>sS k|exact fun k=>sN k|fail):p:=h k
theorem zZB {p q:Prop} (k:q) (h:q→p:=by first|exact fun k=>sT k|exact fun k=>sS k|fail):p:=h k
theorem zZC {p q:Prop} (k:q) (h:q→p:=by first|exact fun k=>sT k|exact fun k=>sP k|fail):p:=h k
theorem zZD {p q:Prop} (k:q) (h:q→p:=by first|exact fun k=>sT k|exact fun k=>sS k|exact fun k=>sT2 k|exact fun k=>sN k|fail):p:=h k
theorem zZE {p q:Prop} (k:q) (h:q→p:=by first|exact fun k=>sT k|exact fun k=>sT2 k|fail):p:=h k
theorem zZF {p q:Prop} (k:q) (h:q→p:=by first|exact fun k=>sT k|exact fun k=>sS k|exact fun k=>sQ k|exact fun k=>sN k|exact fun k=>sNQ k|exact fun k=>sD k|fail):p:=h k
theorem zZG {p q:Prop} (k:q) (h:q→p:=by first|exact fun k=>sT k|exact fun k=>sT2 k|exact fun k=>sN k|fail):p:=h k
theorem zZH {p q:Prop} (k:q) (h:q→p:=by first|exact fun k=>sT k|exact fun k=>sS k|exact fun k=>sW k|exact fun k=>sN k|exact fun k=>sWN k|fail):p:=h k
theorem zZI {p q:Prop} (k:q) (h:q→p:=by first|exact fun k=>sT k|exact fun k=>sR k|fail):p:=h k
theorem zZJ {p q:Prop} (k:q) (h:q→p:=by first|exact fun k=>sT k|exact fun k=>sS k|exact fun k=>sT2 k|fail):p:=h k
theorem zZK {p q:Prop} (k:q) (h:q→p:=by first|exact fun k=>sT k|exact fun k=>sS k|exact fun k=>sX k|fail):p:=h k
theorem zZL {p q:Prop} (k:q) (h:q→p:=by first|exact fun k=>sT k|exact fun k=>sS k|exact fun k=>sQ k|exact fun k=>sD k|fail):p:=h k
theorem zZM {p q:Prop} (k:q) (h:q→p:=by first|exact fun k=>sT k|exact fun k=>sS k|exact fun k=>sW k|fail):p:=h k
theorem zZN {p q:Prop} (k:q) (h:q→p:=by first|exact fun k=>sT k|exact fun k=>sS k|exact fun k=>sN k|exact fun k=>sO k|fail):p:=h k
theorem zZO {p q:Prop} (k:q) (h:q→p:=by first|exact fun k=>sT k|exact fun k=>sN k|exact fun k=>sO k|fail):p:=h k
theorem zZP {p q:Prop} (k:q) (h:q→p:=by first|exact fun k=>sT k|exact fun k=>sS k|exact fun k=>sR k|fail):p:=h k
theorem zZQ {p q:Prop} (k:q) (h:q→p:=by first|exact fun k=>sT k|exact fun k=>sS k|exact fun k=>sQ k|exact fun k=>sN k|exact fun k=>sNQ k|exact fun k=>sO k|exact fun k=>sOQ k|exact fun k=>sD k|fail):p:=h k
theorem zZR {p q:Prop} (k:q) (h:q→p:=by first|exact fun k=>sT k|exact fun k=>sS k|exact fun k=>sI k|exact fun k=>sN k|fail):p:=h k
theorem zZS {p q:Prop} (k:q) (h:q→p:=by first|exact fun k=>sT k|exact fun k=>sS k|exact fun k=>sR k|exact fun k=>sW k|fail):p:=h k
theorem zZT {p q:Prop} (k:q) (h:q→p:=by first|exact fun k=>sT k|exact fun k=>sT2 k|exact fun k=>sG2 k|exact fun k=>sJ k|exact fun k=>sJG k|exact fun k=>sG k|fail):p:=h k
theorem zZU {p q:Prop} (k:q) (h:q→p:=by first|exact fun k=>sT k|exact fun k=>sS k|exact fun k=>sT2 k|exact fun k=>sN k|exact fun k=>sJ k|exact fun k=>sO k|fail):p:=h k
theorem zZV {p q:Prop} (k:q) (h:q→p:=by first|exact fun k=>sT k|exact fun k=>sI k|exact fun k=>sQ k|exact fun k=>sT2 k|exact fun k=>sQ2 k|exact fun k=>sN k|exact fun k=>sNQ k|exact fun k=>sD k|fail):p:=h k
theorem zZW {p q:Prop} (k:q) (h:q→p:=by first|exact fun k=>sT k|exact fun k=>sS k|exact fun k=>sQ k|exact fun k=>sT2 k|exact fun k=>sQ2 k|exact fun k=>sN k|exact fun k=>sNQ k|exact fun k=>sD k|fail):p:=h k
theorem zZX {p q:Prop} (k:q) (h:q→p:=by first|exact fun k=>sT k|exact fun k=>sS k|exact fun k=>sQ k|exact fun k=>sW k|exact fun k=>sD k|fail):p:=h k
theorem eIO {p:Prop} (h:p:=by first|exact .inl rfl|exact .inr rfl):p:=h
theorem rT0 {p q:Prop} (k:q) (h:q→p:=by intro k;(with_reducible apply fJ);exact .inl rfl;exact rfl;exact MSub.nil _;exact k):p:=h k
theorem rT1 {p q:Prop} (k:q) (h:q→p:=by intro k;(with_reducible apply bo);exact .inl rfl;exact rfl;exact rfl;exact MSub.nil _;exact k):p:=h k
theorem rT2 {p q:Prop} (k:q) (h:q→p:=by intro k;(with_reducible apply di);exact .inl rfl;(iterate 3 exact rfl);exact MSub.nil _;exact k):p:=h k
theorem rT3 {p q:Prop} (k:q) (h:q→p:=by intro k;(with_reducible apply Fu);exact .inl rfl;(iterate 4 exact rfl);exact MSub.nil _;exact k):p:=h k
theorem eRC {p q:Prop} (k:q) (h:q→p:=by first|exact zL (.inl rfl) rfl rfl pK rfl (MSub.nil _)|exact zL (.inr rfl) rfl rfl pK rfl (MSub.nil _)):p:=h k
theorem lB {p q:Prop} (k:q) (h:q→p:=by first|exact vq (.inl rfl) rfl rfl pK rfl rfl (MSub.nil _)|exact vq (.inr rfl) rfl rfl pK rfl rfl (MSub.nil _)):p:=h k
theorem WZ {p q:Prop} (k:q) (h:q→p:=by first|exact rE (.inl rfl) rfl rfl pK rfl rfl rfl (MSub.nil _)|exact rE (.inr rfl) rfl rfl pK rfl rfl rfl (MSub.nil _)):p:=h k
theorem nP {p:Prop} (h:p:=by (repeat (first|exact Uz|apply Uy|apply UB|apply UA));(first|done|fail)):p:=h
theorem vP {P:Program} {w0:World} {s:az} {H:List Blk} {op:Op} {ty:TypeId} {v:Value} (h:VOp P w0 s H op ty v:=by
 first|exact vC|(with_reducible apply m3);exact rfl;exact rfl;omega;omega|(with_reducible apply lZ);exact rfl;exact rfl;omega):VOp P w0 s H op ty v:=h
open Go.Proofs
attribute [local irreducible] FnAt FnIn FnP RW VOp W WA WC WG WL WLI WQ WR WT WX aX aY bA blk bw ceP scp thn
theorem tY (L M:List Rf) (lv mv:Value) (w:World) (hl:Reads w lv L.length (L.flatMap aq)) (hm:Reads w mv M.length (M.flatMap aq)):
 aL Tryz.prog 13 [lv,mv] w (.bool (decide (L=M))):=by
 obtain ⟨Al,cl,rfl,hl1,hl2,hl3⟩:=hl;obtain ⟨Am,cm,rfl,hm1,hm2,hm3⟩:=hm;refine aB Tryz.func13 rfl Tryz.ntmps13 rfl ?_;by_cases hlen:L.length=M.length
 ·repeat' first|refine zZB ?_|refine sM fun _=>?_|refine sC ?_ ?_<;>intro hb<;>try omega|fail
  refine gI (fun i:Nat=> [(0,.slice Al L.length cl),(1,.slice Am M.length cm),(5,.int .i64 (i:Int))]) (fun _=> []) (fun i=>i≤L.length∧decide (L=M)=decide (L.drop i=M.drop i)) (fun i=>L.length - i) 0 ⟨by omega,rfl⟩ ?_ ?_ ?_
  ·exact sB
  ·exact mS
  ·rintro i ⟨hi,hrec⟩;by_cases hlt:i<L.length
   ·have hlt2:i<M.length:=by omega
    obtain ⟨gl,ol,rfl,hrl⟩:=hl3 (by omega);obtain ⟨gm,om,rfl,hrm⟩:=hm3 (by omega);have he1:=hrl.elem bD i hlt;have he2:=hrm.elem bD i hlt2;rw [qx hlt hlt2,← Dq] at hrec;repeat' (first|apply aQ;exact rfl;apply ai;exact rfl;exact rfl;(first|exact hlt|exact hlt2)|apply aQ;exact rfl;apply aP;exact rfl;(first|exact he1|exact he2);exact rfl|apply aQ;exact rfl;apply NM;exact rfl;exact rfl|apply ak;exact rfl;apply gZ;exact rfl;exact rfl;simp only [maxLen] at*;omega|refine zZL ?_|refine sM fun _=>?_|refine sC ?_ ?_<;>intro hb<;>try omega|refine sCQ ?_ ?_<;>intro hb<;>try omega|fail)
    ·(refine rT1 ?_);rw [hrec];simp_all
    ·refine ⟨i+1,⟨by omega,?_⟩,by omega,?_,?_⟩
     ·rw [hrec];simp_all
     ·exact sB
     ·exact mS
   ·have e:i=L.length:=by omega
    subst e;repeat' (first|refine zZB ?_|refine sM fun _=>?_|refine sC ?_ ?_<;>intro hb<;>try omega|fail)
    (refine rT1 ?_);rw [hrec,X0,hlen,X0]
    rfl
 ·repeat' first|refine zZB ?_|refine sM fun _=>?_|refine sC ?_ ?_<;>intro hb<;>try omega|fail
  (refine rT1 ?_);rw [decide_eq_false];intro e;exact hlen (congrArg List.length e)
end Go.SL
namespace Go.SL
open Go Go.Proofs
attribute [local irreducible] W WL WQ WG VOp thn blk aY FnAt FnIn
theorem iQ (c r:Int) (w:World):aL Tryz.prog 50 [.agg #[.int .i64 c,.int .i64 r]] w (.bool (valid c r)):=by
 refine aB Tryz.func50 rfl Tryz.ntmps50 rfl ?_;repeat' (first|refine sT ?_|refine sM fun _=>?_|refine sC ?_ ?_<;>intro hb<;>try omega|fail)
 all_goals ((refine rT1 ?_);((try simp only [← Int.not_lt] at*);simp_all [valid, -Int.not_lt, -Int.not_le,← Int.not_lt]))
theorem Jt (r:Rct) (w:World):aL Tryz.prog 58 [.agg (ay r).toArray] w (.tuple #[.agg #[.int .i64 r.c1,.int .i64 r.r1],.agg #[.int .i64 r.c2,.int .i64 r.r2]]):=by
 refine aB Tryz.func58 rfl Tryz.ntmps58 rfl ?_;repeat' (first|refine sT ?_|refine sM fun _=>?_|refine sC ?_ ?_<;>intro hb<;>try omega|fail)
 rename_i g1 g2 g3;refine wT (fun D=> [.box g2 34 [.int .i64 (bif D 10 then r.c1 else 0),.int .i64 (bif D 10 then r.r1 else 0)],.box g3 34 [.int .i64 (bif D 11 then r.c2 else 0),.int .i64 (bif D 11 then r.r2 else 0)],.box g1 31 (ay r)]) (by kernel_rfl) (by kernel_rfl) (.pick (.tl .hd) (.pick .hd (.refl _))) ?_;repeat' (first|refine sT ?_|refine sG ?_|refine sM fun _=>?_|refine sC ?_ ?_<;>intro hb<;>try omega|fail)
 refine HZ _ _ rfl rfl (fun D=> .tl .hd) rfl rfl rfl (fun _=>Xy _) (fun D ht=> .pick (.tl .hd) (.pick .hd (.refl _))) ?_;refine Cw fun D hD=> ?_;have h10:=hD 10 (by decide);have h11:=hD 11 (by decide);simp only [h10,h11,cond_true];repeat' (first|refine sT ?_|refine sM fun _=>?_|refine sC ?_ ?_<;>intro hb<;>try omega|fail)
 refine VF (.inl rfl) Tryz.results58 rfl .hd rfl rfl (.tl .hd) rfl (MSub.nil _) ?_
 rfl
theorem dQ (r:Rct) (w:World):aL Tryz.prog 24 [.agg (ay r).toArray] w (.int .i64 (bY r)):=by
 refine aB Tryz.func24 rfl Tryz.ntmps24 rfl ?_;repeat' (first|apply aa;exact rfl;exact rfl;intro w hm;exact Jt r w|apply aa;exact rfl;exact rfl;intro w hm;exact iQ r.c1 r.r1 w|apply aa;exact rfl;exact rfl;intro w hm;exact iQ r.c2 r.r2 w|refine sT ?_|refine sM fun _=>?_|refine sC ?_ ?_<;>intro hb<;>try omega|fail)
 all_goals ((refine rT1 ?_);((try simp only [← Int.not_lt] at*);simp_all [bY,aA, -Int.not_lt, -Int.not_le,← Int.not_lt]))
theorem Pe (fn:Int) (w:World):aL Tryz.prog 293 [.int .u8 fn] w (.bool (Dd fn)):=by
 refine aB Tryz.func293 rfl Tryz.ntmps293 rfl ?_;repeat' (first|refine sT ?_|refine sM fun _=>?_|refine sC ?_ ?_<;>intro hb<;>try omega|fail)
 all_goals ((refine rT1 ?_);((try simp only [← Int.not_lt] at*);simp_all [Dd, -Int.not_lt, -Int.not_le,← Int.not_lt]))
theorem vv (fn:Int) (w:World):aL Tryz.prog 285 [.int .u8 fn] w (.bool (mh fn)):=by
 refine aB Tryz.func285 rfl Tryz.ntmps285 rfl ?_;repeat' (first|refine sT ?_|refine sM fun _=>?_|refine sC ?_ ?_<;>intro hb<;>try omega|fail)
 all_goals ((refine rT1 ?_);((try simp only [← Int.not_lt] at*);simp_all [mh, -Int.not_lt, -Int.not_le,← Int.not_lt]))
theorem Qb (n:Nd) (w:World):aL Tryz.prog 269 [.agg (gW n).toArray] w (.int .i64 (below n)):=by
 refine aB Tryz.func269 rfl Tryz.ntmps269 rfl ?_;repeat' (first|refine sT ?_|refine sM fun _=>?_|refine sC ?_ ?_<;>intro hb<;>try omega|fail)
 all_goals ((refine rT1 ?_);simp_all [below])
theorem zl (fn:Int) (w:World):aL Tryz.prog 283 [.int .u8 fn] w (.tuple #[.int .i64 (iO fn).1,.int .i64 (iO fn).2.1,.int .i64 (iO fn).2.2]):=by
 refine aB Tryz.func283 rfl Tryz.ntmps283 rfl ?_;repeat' (first|apply aa;exact rfl;exact rfl;intro w hm;exact Pe fn w|refine sT ?_|refine sM fun _=>?_|refine sC ?_ ?_<;>intro hb<;>try omega|fail)
 all_goals ((refine rT3 ?_);simp_all [iO])
theorem JY (fn i:Int) (w:World):aL Tryz.prog 284 [.int .u8 fn,.int .i64 i] w (.tuple #[.bool (sm fn i).1,.int .i64 (sm fn i).2]):=by
 refine aB Tryz.func284 rfl Tryz.ntmps284 rfl ?_;repeat' (first|apply aa;exact rfl;exact rfl;intro w hm;exact zl fn w|apply aa;exact rfl;exact rfl;intro w hm;exact vv fn w|refine sT ?_|refine sM fun _=>?_|refine sC ?_ ?_<;>intro hb<;>try omega|fail)
 all_goals ((refine rT2 ?_);((try simp only [← Int.not_lt] at*);simp_all [sm, -Int.not_lt, -Int.not_le,← Int.not_lt]))
attribute [local irreducible] WA
def lU:List ByteArray:= [
 ⟨#[65,66,83]⟩,⟨#[83,73,71,78]⟩,⟨#[73,78,84]⟩,⟨#[84,82,85,78,67]⟩,⟨#[82,79,85,78,68]⟩,
 ⟨#[77,79,68]⟩,⟨#[80,79,87,69,82]⟩,⟨#[83,81,82,84]⟩,⟨#[83,85,77]⟩,⟨#[80,82,79,68,85,67,84]⟩,
 ⟨#[67,79,85,78,84]⟩,⟨#[67,79,85,78,84,65]⟩,⟨#[67,79,85,78,84,66,76,65,78,75]⟩,⟨#[65,86,69,82,65,71,69]⟩,⟨#[77,73,78]⟩,
 ⟨#[77,65,88]⟩,⟨#[77,69,68,73,65,78]⟩,⟨#[76,65,82,71,69]⟩,⟨#[83,77,65,76,76]⟩,⟨#[73,70]⟩,
 ⟨#[65,78,68]⟩,⟨#[79,82]⟩,⟨#[88,79,82]⟩,⟨#[78,79,84]⟩,⟨#[73,70,69,82,82,79,82]⟩,
 ⟨#[73,83,69,82,82,79,82]⟩,⟨#[73,83,66,76,65,78,75]⟩,⟨#[73,83,78,85,77,66,69,82]⟩,⟨#[73,83,84,69,88,84]⟩,⟨#[67,72,79,79,83,69]⟩,
 ⟨#[76,69,78]⟩,⟨#[76,69,70,84]⟩,⟨#[82,73,71,72,84]⟩,⟨#[77,73,68]⟩,⟨#[85,80,80,69,82]⟩,
 ⟨#[76,79,87,69,82]⟩,⟨#[84,82,73,77]⟩,⟨#[67,79,78,67,65,84]⟩,⟨#[82,69,80,84]⟩,⟨#[69,88,65,67,84]⟩,
 ⟨#[70,73,78,68]⟩,⟨#[86,65,76,85,69]⟩,⟨#[73,78,68,69,88]⟩,⟨#[77,65,84,67,72]⟩,⟨#[67,79,85,78,84,73,70]⟩,
 ⟨#[68,83,85,77]⟩,⟨#[68,67,79,85,78,84]⟩,⟨#[68,65,86,71]⟩,⟨#[68,77,73,78]⟩,⟨#[68,77,65,88]⟩]
theorem OV (w:World):aL Tryz.prog 303 [] w (.agg (lU.map Value.string).toArray):=by
 refine aB Tryz.func303 rfl Tryz.ntmps303 rfl ?_;repeat' (first|apply Ef;(iterate 5 exact rfl)|refine sT ?_|refine sM fun _=>?_|refine sC ?_ ?_<;>intro hb<;>try omega|fail)
 exact zL (.inl rfl) Tryz.results303 rfl .hd rfl (MSub.nil _) rfl
theorem Ro.str1 {w:World} {g o:Nat} {L:List ByteArray} (h:Ro w g o (L.map Value.string)) (i:Nat) (hi:i<L.length):Ro w g (o+i*1) [Value.string L[i]]:=by
 have h1:=(h.drop (k:=i)).take (k:=1);rw [← List.map_drop,← List.map_take,XC hi] at h1;rw [YT];exact h1
def gC:List ByteArray→ByteArray→Int→Int
 | [],_,_=> -1
 |a::r,s,i=>if s=a then i else gC r s (i+1)
theorem Qz (L:List ByteArray) (b:ByteArray) (tv:Value) (w:World) (ht:Reads w tv L.length (L.map Value.string)):aL Tryz.prog 304 [tv,.string b] w (.int .i64 (gC L b 0)):=by
 obtain ⟨Al,cl,rfl,hl1,hl2,hl3⟩:=ht;refine aB Tryz.func304 rfl Tryz.ntmps304 rfl ?_;repeat' (first|refine sT ?_|refine sM fun _=>?_|refine sC ?_ ?_<;>intro hb<;>try omega|fail)
 refine gI (fun i:Nat=> [(0,.slice Al L.length cl),(1,.string b),(7,.int .i64 (L.length:Int)),(8,.int .i64 (i:Int))]) (fun _=> []) (fun i=>i≤L.length∧gC L b 0=gC (L.drop i) b (i:Int)) (fun i=>L.length - i) 0 ⟨by omega,rfl⟩ ?_ ?_ ?_
 ·exact sB
 ·exact mS
 ·rintro i ⟨hi,hrec⟩;by_cases hlt:i<L.length
  ·obtain ⟨gl,ol,rfl,hrl⟩:=hl3 (by omega);have he:=hrl.str1 i hlt;rw [XC hlt,gC] at hrec;repeat' (first|apply ak;exact rfl;apply ai;exact rfl;exact rfl;exact hlt|apply ak;exact rfl;apply rA;exact rfl;exact he|apply ak;exact rfl;apply gZ;exact rfl;exact rfl;simp only [maxLen] at*;omega|refine sT ?_|refine sM fun _=>?_|refine sC ?_ ?_<;>intro hb<;>try omega|fail)
   ·(refine rT1 ?_);rw [hrec,if_pos hb]
   ·refine ⟨i+1,⟨by omega,?_⟩,by omega,?_,?_⟩
    ·rw [hrec,if_neg hb]
     rfl
    ·exact sB
    ·exact mS
  ·have e:i=L.length:=by omega
   subst e;repeat' (first|refine sT ?_|refine sM fun _=>?_|refine sC ?_ ?_<;>intro hb<;>try omega|fail)
   (refine rT1 ?_);rw [hrec,X0,gC]
theorem qL:lU.length=50:=rfl
theorem qP (L:List ByteArray) (b:ByteArray) (i:Int) (h:0≤i):gC L b i= -1∨(i≤gC L b i∧gC L b i<i+L.length):=by
 induction L generalizing i with
 |nil=>exact .inl rfl
 |cons a r ih=>
  unfold gC;rw [Xs];split
  ·right;omega
  ·rcases ih (i+1) (by omega) with h1|h1
   ·exact .inl h1
   ·right;omega
def db (b:ByteArray):Int × Int:=if gC lU b 0<0 then (0,6) else (gC lU b 0+1,0)
theorem HH (b:ByteArray) (w:World):aL Tryz.prog 301 [.string b] w (.tuple #[.int .u8 (db b).1,.int .i64 (db b).2]):=by
 refine aB Tryz.func301 rfl Tryz.ntmps301 rfl ?_;have hb1:=qP lU b 0 (by omega);rw [qL] at hb1;have hix:=fun w tv (h:Reads w tv (lU.map Value.string).length (lU.map Value.string))=>Qz lU b tv w h;unfold db;generalize gC lU b 0=r at hb1 hix;repeat' (first|apply aa;exact rfl;exact rfl;intro w hm;exact OV w|apply ak;exact rfl;apply EJ;exact rfl|apply aa;exact rfl;exact rfl;intro w' hm;exact hix w' _ (Reads.of_box hm pK rfl)|apply ak;exact rfl;apply jk;exact rfl;exact rfl;exact I64.wrap ⟨by omega,by omega⟩|apply ak;exact rfl;apply Le;exact rfl;exact wrap_u8 (by omega) (by omega)|refine sT ?_|refine sM fun _=>?_|refine sC ?_ ?_<;>intro hb<;>try omega|fail)
 ·refine di (.inl rfl) Tryz.results301 rfl rfl (.nil _) ?_;rw [if_pos hb]
 ·refine di (.inl rfl) Tryz.results301 rfl rfl (.nil _) ?_;rw [if_neg (by omega)]
theorem yH {L:List Nd} {i:Nat} (h:i<L.length):uK L i=L[i].kind:=by simp [uK,h]
theorem Se (L:List Nd) (n:Nd) (ps:List Pt) (tv lv:Value) (w:World) (ht:Reads w tv L.length (L.flatMap gW)) (hp:Reads w lv ps.length (ps.flatMap uU)) (hroot: ∀ p∈ps,p.root<L.length) (hlen:ps.length≤1000000):
 aL Tryz.prog 270 [tv,.agg (gW n).toArray,lv] w (.bool (lc L n 0 ps)):=by
 obtain ⟨At,ct,rfl,ht1,ht2,ht3⟩:=ht;obtain ⟨Al,cl,rfl,hl1,hl2,hl3⟩:=hp;refine aB Tryz.func270 rfl Tryz.ntmps270 rfl ?_;repeat' (first|refine sT ?_|refine sM fun _=>?_|refine sC ?_ ?_<;>intro hb<;>try omega|fail)
 rename_i gn
 refine gI (fun i:Nat=> [(0,.slice At L.length ct),(4,.pointer (some ⟨gn,0,none⟩)),(11,.slice Al ps.length cl),(12,.int .i64 (ps.length:Int)),(13,.int .i64 (i:Int))])
  (fun i=> [.box gn 283 (gW n)]) (fun i=>i≤ps.length∧lc L n 0 ps=lc L n (i:Int) (ps.drop i)) (fun i=>ps.length - i) 0 ⟨by omega,rfl⟩ ?_ ?_ ?_
 ·exact sB
 ·exact mS
 ·rintro i ⟨hi,hrec⟩;by_cases hlt:i<ps.length
  ·obtain ⟨g,o,rfl,hro⟩:=hl3 (by omega);have hrp:=hro.elem pq i hlt;have hr0:=hroot ps[i] (XO hlt);obtain ⟨gt,ot,rfl,hrt⟩:=ht3 (by omega);have hrn:=hrt.elem lu ps[i].root hr0;rw [XC hlt,lc,Py,yH hr0] at hrec;repeat' (first|(apply ak;exact rfl;apply ai;exact rfl;exact rfl;first|exact hlt|exact hr0)|apply ak;exact rfl;apply aP;exact rfl;exact hrp;exact rfl|apply ak;exact rfl;apply m7;exact rfl;exact hrn;exact rfl|apply ak;exact rfl;apply AE;exact rfl;exact rfl;constructor<;>omega|apply aa;exact rfl;exact rfl;intro w hm;exact JY n.fn (i:Int) w|apply aa;exact rfl;exact rfl;intro w hm;exact vv n.fn w|refine sT ?_|refine sM fun _=>?_|refine sC ?_ ?_<;>intro hb<;>try omega|fail)
   all_goals first
    |(refine rT1 ?_);rw [hrec];simp_all [Kw];done
    |refine ⟨i+1,⟨by omega,?_⟩,by omega,?_,?_⟩;(focus (rw [hrec,Int.natCast_add];simp [Kw, *]));(focus exact sB);(focus exact mS)
  ·have e:i=ps.length:=by omega
   subst e;rw [X0,lc] at hrec;repeat' (first|refine sT ?_|refine sM fun _=>?_|refine sC ?_ ?_<;>intro hb<;>try omega|fail)
   (refine rT1 ?_);rw [hrec]
attribute [local irreducible] bA
def j4 (n:Nd):Bool:=decide (n.kind=2)||decide (n.kind=3)
theorem LP (n:Nd) (w:World):aL Tryz.prog 175 [.agg (gW n).toArray] w (.bool (j4 n)):=by
 refine aB Tryz.func175 rfl Tryz.ntmps175 rfl ?_;repeat' (first|refine sT ?_|refine sM fun _=>?_|refine sC ?_ ?_<;>intro hb<;>try omega|fail)
 all_goals
  (refine rT1 ?_);simp [j4, *]
theorem tN (r:Rct):(ay r).length=4:=rfl
theorem UU (L:List Rct) (lv:Value) (w:World) (hl:Reads w lv L.length (L.flatMap ay)):aL Tryz.prog 59 [lv] w (.bool (L.all aA)):=by
 obtain ⟨Al,cl,rfl,hl1,hl2,hl3⟩:=hl;refine aB Tryz.func59 rfl Tryz.ntmps59 rfl ?_;repeat' (first|refine sT ?_|refine sM fun _=>?_|refine sC ?_ ?_<;>intro hb<;>try omega|fail)
 refine gI (fun i:Nat=> [(5,.slice Al L.length cl),(6,.int .i64 (L.length:Int)),(7,.int .i64 (i:Int))]) (fun _=> []) (fun i=>i≤L.length∧L.all aA=(L.drop i).all aA) (fun i=>L.length - i) 0 ⟨by omega,rfl⟩ ?_ ?_ ?_
 ·exact sB
 ·exact mS
 ·rintro i ⟨hi,hrec⟩;by_cases hlt:i<L.length
  ·obtain ⟨gl,ol,rfl,hrl⟩:=hl3 (by omega);have he1:=hrl.elem tN i hlt;rw [XC hlt,Zv] at hrec;generalize L[i]=r at hrec he1;repeat' (first|apply aa;exact rfl;exact rfl;intro w hm;exact dQ r w|refine zZO ?_|refine sM fun _=>?_|refine sC ?_ ?_<;>intro hb<;>try omega|fail)
   ·(refine rT1 ?_);rw [hrec];cases hq:aA r<;>simp [bY,hq] at hb ⊢
   ·refine ⟨i+1,⟨by omega,?_⟩,by omega,?_,?_⟩
    ·rw [hrec];cases hq:aA r<;>simp [bY,hq] at hb ⊢
    ·exact sB
    ·exact mS
  ·have e:i=L.length:=by omega
   subst e;repeat' (first|refine sT ?_|refine sM fun _=>?_|refine sC ?_ ?_<;>intro hb<;>try omega|fail)
   (refine rT1 ?_);rw [hrec,X0]
   rfl
def fP (a b:Rct):Rct:=⟨if a.c1<b.c1 then b.c1 else a.c1,if a.r1<b.r1 then b.r1 else a.r1,if b.c2<a.c2 then b.c2 else a.c2,if b.r2<a.r2 then b.r2 else a.r2⟩
def bZ (a b:Rct):Rct × Bool:=if [a,b,fP a b].all aA=true then (fP a b,true) else (bU,false)
theorem tX (a b:Rct) (w:World):aL Tryz.prog 25 [.agg (ay a).toArray,.agg (ay b).toArray] w (.tuple #[.agg (ay (bZ a b).1).toArray,.bool (bZ a b).2]):=by
 refine aB Tryz.func25 rfl Tryz.ntmps25 rfl ?_;have hall:=fun (lv:Value) (w:World)=>UU [a,b,fP a b] lv w;unfold bZ;generalize [a,b,fP a b].all aA=q at hall;repeat' (first|apply aa;exact rfl;exact rfl;intro w hm;exact hall _ w (Reads.of_row hm pK)|refine sT ?_|refine sM fun _=>?_|refine sC ?_ ?_<;>intro hb<;>try omega|fail)
 ·refine vq (.inl rfl) Tryz.results25 rfl pK rfl rfl (MSub.nil _) ?_;simp [hb,bU,ay]
 ·refine vq (.inl rfl) Tryz.results25 rfl pK rfl rfl (MSub.nil _) ?_;simp [hb,fP,ay]
attribute [local irreducible] WLI WR WT bw gF jl mU
def l6 (r:Rct) (u:Us):Bool:=(bZ u.rect r).2
end Go.SL
namespace Go.SL
open Go Go.Proofs
attribute [local irreducible] W WL WQ WG WA VOp thn blk bA aY FnAt FnIn U1
theorem ye (r:Rct):aA r=true↔1≤r.c1∧r.c1≤1024∧1≤r.r1∧r.r1≤1024∧1≤r.c2∧r.c2≤1024∧1≤r.r2∧r.r2≤1024∧r.c1≤r.c2∧r.r1≤r.r2:=by
 simp only [aA,valid,Xo,decide_eq_true_eq];omega
theorem Ln (r:Rct) (u:Us):l6 r u=true↔aA u.rect=true∧aA r=true∧u.rect.c1≤r.c2∧r.c1≤u.rect.c2∧u.rect.r1≤r.r2∧r.r1≤u.rect.r2:=by
 have h:l6 r u= [u.rect,r,fP u.rect r].all aA:=by
  unfold l6 bZ;cases [u.rect,r,fP u.rect r].all aA<;>simp
 rw [h];simp only [Zv,aac,X8,Xo,ye];generalize u.rect=a;unfold fP;dsimp only;repeat' split
 all_goals omega
end Go.SL
namespace Go.SL
open Go Go.Proofs
attribute [local irreducible] W WL WQ WG WA WX WLI WR WT VOp thn blk bA scp aY bw FnAt FnIn
theorem lM (c:Int) (w:World):aL Tryz.prog 253 [.int .u8 c] w (.bool (bX c)):=by
 refine aB Tryz.func253 rfl Tryz.ntmps253 rfl ?_;repeat' (first|refine sT ?_|refine sM fun _=>?_|refine sC ?_ ?_<;>intro hb<;>try omega|fail)
 all_goals ((refine rT1 ?_);((try simp only [← Int.not_lt] at*);simp_all [bX, -Int.not_lt, -Int.not_le,← Int.not_lt]))
theorem tz (c:Int) (w:World):aL Tryz.prog 255 [.int .u8 c] w (.bool (j8 c)):=by
 refine aB Tryz.func255 rfl Tryz.ntmps255 rfl ?_;repeat' (first|refine sT ?_|refine sM fun _=>?_|refine sC ?_ ?_<;>intro hb<;>try omega|fail)
 all_goals ((refine rT1 ?_);(try simp only [← Int.not_lt] at*);simp_all [j8, -Int.not_lt, -Int.not_le,← Int.not_lt];try omega)
theorem L9 (c:Int) (w:World):aL Tryz.prog 278 [.int .u8 c] w (.bool (fk c)):=by
 refine aB Tryz.func278 rfl Tryz.ntmps278 rfl ?_;repeat' (first|apply aa;exact rfl;exact rfl;intro w hm;exact tz c w|apply aa;exact rfl;exact rfl;intro w hm;exact lM c w|refine sT ?_|refine sM fun _=>?_|refine sC ?_ ?_<;>intro hb<;>try omega|fail)
 all_goals ((refine rT1 ?_);simp_all [fk])
def jn (p:Int→Bool) (l:List Int):List Int:=l.take (bO p l)
theorem FE {p:Int→Bool} {c:Int} {r:List Int} (h:p c=true):jn p (c::r)=c::jn p r:=by simp [jn,bO,h]
theorem FD {p:Int→Bool} {c:Int} {r:List Int} (h:p c=false):jn p (c::r)= []:=by simp [jn,bO,h]
theorem zN (p:Int→Bool) (l:List Int):(jn p l).length=bO p l:=by
 simp [jn,YO (fC p l)]
theorem LS (a:ByteArray) (ha:a.size≤1000000) (i0:Nat) (hi0:i0≤a.size) (fis:FuncId) [Callable Tryz.prog fis] (p:Int→Bool) (hf: ∀ c w,aL Tryz.prog fis [.int .u8 c] w (.bool (p c))) (w0:World) (g4 g3 g5:Nat):
 Seqs Tryz.prog 287 [.pointer (some ⟨g4,0,none⟩),.pointer (some ⟨g3,0,none⟩),.pointer (some ⟨g5,0,none⟩)] w0 [.box g4 3 [.int .i64 (i0:Int)],.box g3 9 [.string a],.box g5 358 [.func (.func fis) #[] #[]]] (jn p ((aD a).drop i0)) (fun c=> [.int .u8 c]):=by
 intro l I J H0 hy h0;refine FnIn.msub (H' := [.box g4 3 [.int .i64 (i0:Int)],.box g3 9 [.string a],.box g5 358 [.func (.func fis) #[] #[]]]++H0) ?_ MSub.swap;refine bI Tryz.func287 rfl Tryz.ntmps287 rfl ?_;repeat' (first|refine zZE ?_|refine sM fun _=>?_|refine sC ?_ ?_<;>intro hb<;>try omega|fail)
 refine gI (fun y:Nat × List Int × List Blk=> [(0,.func (.yield l) #[] #[]),(1,.pointer (some ⟨g4,0,none⟩)),(2,.pointer (some ⟨g3,0,none⟩)),(3,.pointer (some ⟨g5,0,none⟩)),(5,.int .i64 (y.1:Int))])
  (fun y=> [.box g4 3 [.int .i64 (i0:Int)],.box g3 9 [.string a],.box g5 358 [.func (.func fis) #[] #[]]]++y.2.2)
  (fun y=>y.1≤a.size∧jn p ((aD a).drop i0)=y.2.1++jn p ((aD a).drop y.1)∧I y.2.1 y.2.2) (fun y=>a.size - y.1) (i0,[],H0) ⟨hi0,rfl,h0⟩ sB (MSub.refl _) ?_
 rintro ⟨i,pre,H1⟩ ⟨hi,hus,hI⟩;dsimp only at hi hus hI ⊢;by_cases hlt:i<a.size
 ·rw [dD hlt] at hus;have hfc:=fun w=>hf (bat a i) w;cases hp:p (bat a i)
  ·rw [hp] at hfc;rw [FD hp,Xm] at hus;repeat' (first|apply jg;exact rfl;exact rfl;infer_instance;exact rfl;intro w' _;exact hfc w'|refine zZV ?_|refine sM fun _=>?_|refine sC ?_ ?_<;>intro hb<;>try omega|refine sCQ ?_ ?_<;>intro hb<;>try omega|fail)
   exact fJ (.inr rfl) rfl (.refl _) ⟨H1,.inl (hus ▸ hI),MSub.swap⟩
  ·rw [hp] at hfc;rw [FE hp] at hus;repeat' (first|apply jg;exact rfl;exact rfl;infer_instance;exact rfl;intro w' _;exact hfc w'|apply ji (id:=3)|apply JX;exact rfl;exact rfl;apply EP;exact rfl;exact rfl;exact hlt|refine zZV ?_|refine sM fun _=>?_|refine sC ?_ ?_<;>intro hb<;>try omega|refine sCQ ?_ ?_<;>intro hb<;>try omega|fail)
   (with_reducible apply ic)
   ·exact rfl
   ·exact rfl
   ·exact rfl
   ·exact MSub.swapN
   ·exact fun w hm=>hy pre (bat a i) _ hus H1 [] hI w hm
   intro bb H2 hq;cases bb
   ·repeat' first|refine sT ?_|refine sI ?_|refine sT2 ?_|refine sM fun _=>?_|refine sC ?_ ?_<;>intro hb<;>try omega|fail
    exact fJ eIO rfl (.refl _) ⟨H2,.inr ⟨_,hq⟩,by rw [Xm];exact .refl _⟩
   ·repeat' first|refine sT ?_|refine sI ?_|refine sT2 ?_|refine sN ?_|refine sM fun _=>?_|refine sC ?_ ?_<;>intro hb<;>try omega|fail
    refine ⟨(i+1,_,H2),⟨hlt,hus.trans (by rw [List.append_assoc];rfl),hq⟩,(by dsimp only;omega),sB,?_⟩;exact MSub.swapN'
 ·have e:i=a.size:=by omega
  subst e;have hl:=aH a;rw [Yf (i:=a.size) (by omega),show jn p []= [] from rfl,Xm] at hus;repeat' (first|refine zZV ?_|refine sM fun _=>?_|refine sC ?_ ?_<;>intro hb<;>try omega|refine sCQ ?_ ?_<;>intro hb<;>try omega|fail)
  exact fJ (.inr rfl) rfl (.refl _) ⟨H1,.inl (hus ▸ hI),MSub.swap⟩
theorem OH (a:ByteArray) (i0:Nat) (fis:FuncId) (w:World):
 FnAt Tryz.prog 277 [.string a,.int .i64 (i0:Int),.func (.func fis) #[] #[]] w fun v H=> ∃ g4 g3 g5,v= .func (.func 287) #[] #[.pointer (some ⟨g4,0,none⟩),.pointer (some ⟨g3,0,none⟩),.pointer (some ⟨g5,0,none⟩)]∧H= [.box g4 3 [.int .i64 (i0:Int)],.box g3 9 [.string a],.box g5 358 [.func (.func fis) #[] #[]]]:=by
 refine aB Tryz.func277 rfl Tryz.ntmps277 rfl ?_;repeat' (first|refine sT ?_|refine sM fun _=>?_|refine sC ?_ ?_<;>intro hb<;>try omega|fail)
 rename_i g3 g4 g5;exact bo (.inl rfl) rfl rfl (H' := [.box g4 3 [.int .i64 (i0:Int)],.box g3 9 [.string a],.box g5 358 [.func (.func fis) #[] #[]]]) mS ⟨g4,g3,g5,rfl,rfl⟩
theorem uJ (a:ByteArray) (ha:a.size≤1000000) (i0:Nat) (hi0:i0≤a.size) (fis:FuncId) [Callable Tryz.prog fis] (p:Int→Bool) (hf: ∀ c w,aL Tryz.prog fis [.int .u8 c] w (.bool (p c))) (w:World):
 aL Tryz.prog 252 [.string a,.int .i64 (i0:Int),.func (.func fis) #[] #[]] w (.int .i64 (bO p ((aD a).drop i0):Int)):=by
 refine o9 Tryz.func252 rfl Tryz.ntmps252 (by rfl) ?_;refine oh ?_;repeat' (first|apply aw;exact rfl;exact rfl;intro w' hm;exact OH a i0 fis w';rintro v H' ⟨g4,g3,g5,rfl,rfl⟩|refine zZI ?_|refine sM fun _=>?_|refine sC ?_ ?_<;>intro hb<;>try omega|refine sCR ?_ ?_<;>intro hb<;>try omega|fail)
 rename_i gn;have hpl:=zN p ((aD a).drop i0);have hll:=aH a;have hrl:=fC p ((aD a).drop i0);rw [Ya] at hrl;rw [← hpl]
 refine rZ (ps:= [12]) (us:=jn p ((aD a).drop i0)) (encs:=fun c=> [.int .u8 c]) (Hc:= [.box g4 3 [.int .i64 (i0:Int)],.box g3 9 [.string a],.box g5 358 [.func (.func fis) #[] #[]]]) (HU0:= [.box gn 3 [.int .i64 0]]) rfl (fun _=>rfl) rfl (LS a ha i0 hi0 fis p hf w g4 g3 g5)
  (fun pre HU=>HU= [.box gn 3 [.int .i64 (pre.length:Int)]]) (fun _=>False) MSub.swap rfl ?_ ?_ ?_
 ·rintro l pre u post hus _ rfl F F';have hlu:=congrArg List.length hus;simp only [Xa,Xs] at hlu;change WR _ _ _ l _ _ ((12,Value.int .u8 u)::_) (.box gn 3 [.int .i64 (pre.length:Int)]::F);repeat' (first|refine zZI ?_|refine sM fun _=>?_|refine sC ?_ ?_<;>intro hb<;>try omega|refine sCR ?_ ?_<;>intro hb<;>try omega|fail)
  refine pN ⟨[.box gn 3 [.int .i64 (pre.length:Int)]],MSub.refl _,?_⟩;change WR _ _ _ l _ _ _ (.box gn 3 [.int .i64 (pre.length:Int)]::F');repeat' (first|refine sT ?_|refine sR ?_|refine sN ?_|refine sM fun _=>?_|refine sC ?_ ?_<;>intro hb<;>try omega|refine sCR ?_ ?_<;>intro hb<;>try omega|fail)
  refine lI [.box gn 3 [.int .i64 ((pre.length+1:Nat):Int)]] ?_ (by rw [Xa];rfl);change MSub (_::F') _;exact mS
 ·rintro D _ rfl;change bw _ _ _ _ _ (dm D:: .box gn 3 [.int .i64 ((jn p ((aD a).drop i0)).length:Int)]::_);repeat' (first|refine zZI ?_|refine sM fun _=>?_|refine sC ?_ ?_<;>intro hb<;>try omega|refine sCR ?_ ?_<;>intro hb<;>try omega|fail)
  refine ph .hd ?_;exact bo (.inl rfl) rfl rfl (MSub.nil _) rfl
 ·rintro D HU h;exact h.elim
def zg (op:Int):Int:=
 if 7≤op∧op≤12 then 1 else if op=6 then 2 else if op=1∨op=2 then 3 else if op=3∨op=4 then 4 else if op=5 then 6 else if op=13 then 7 else 0
structure PS where
 l:List Tk
 out:List Nd
def hdT (fin:Int) (l:List Tk):Tk:=l.headD { rk with at_:=fin }
def PS.skip (p:PS):PS:=⟨p.l.tail,p.out⟩
def PS.put (p:PS) (n:Nd):PS:=⟨p.l,p.out++ [n]⟩
inductive Job where
 |level (k:Int)
 |loop (k:Int)
 |sign
 |pct
 |pctl
 |prim
 |args (fn:Int) (n:Nat)
abbrev Out:=Except (Int × Int) (Nat × PS)
def gJ (kind op:Int):Nd:=⟨kind,cU,bU,op,0,0⟩
def gG (r:Option Out) (k:Nat→PS→Option Out):Option Out:=
 match r with
 |some (.ok (n,p))=>k n p
 |r=>r
def Dc (t:Tk):Nd:=
 ⟨1,if t.kind=1 then ⟨1,t.num,aS⟩ else if t.kind=2 then ⟨3,0,t.text⟩ else if t.kind=3 then ⟨2,t.num,aS⟩ else ⟨4,t.num,aS⟩,bU,0,0,0⟩
def eU (fin:Int) (name:Tk) (fn:Int) (n:Nat) (p:PS):Option Out:=
 let t:=hdT fin p.l
 if t.kind≠10 then some (.error (t.at_,4))
 else if (n:Int)<(iO fn).1∨(iO fn).2.1<(n:Int) then some (.error (name.at_,11))
 else if 46≤fn∧(p.out.getLast?.map fun x=>decide (x.kind=2∨x.kind=3))≠some true then some (.error (name.at_,4))
 else some (.ok (0,p.skip.put ⟨7,cU,bU,0,fn,n⟩))
def cy (fin:Int):Nat→Job→PS→Option Out
 |0,_,_=>none
 |f+1,.level k,p=>if k=5 then cy fin f .sign p else gG (cy fin f (.level (k+1)) p) fun _ p=>cy fin f (.loop k) p
 |f+1,.loop k,p=>
  let t:=hdT fin p.l
  if t.kind=8∧zg t.num=k then gG (cy fin f (.level (k+1)) p.skip) fun _ p=>cy fin f (.loop k) (p.put (gJ 6 t.num))
  else some (.ok (0,p))
 |f+1,.sign,p=>
  let t:=hdT fin p.l
  if t.kind=8∧t.num=2 then gG (cy fin f .sign p.skip) fun _ p=>some (.ok (0,p.put (gJ 4 0)))
  else gG (cy fin f .pct p) fun _ p=>
   let u:=hdT fin p.l
   if u.kind=8∧u.num=5 then gG (cy fin f .sign p.skip) fun _ p=>some (.ok (0,p.put (gJ 6 5)))
   else some (.ok (0,p))
 |f+1,.pct,p=>gG (cy fin f .prim p) fun _ p=>cy fin f .pctl p
 |f+1,.pctl,p=>
  let t:=hdT fin p.l
  if t.kind=8∧t.num=13 then cy fin f .pctl (p.skip.put (gJ 5 0)) else some (.ok (0,p))
 |f+1,.prim,p=>
  let t:=hdT fin p.l
  if 1≤t.kind∧t.kind≤4 then some (.ok (0,p.skip.put (Dc t)))
  else if t.kind=5 then some (.ok (0,p.skip.put ⟨2,cU,t.rect,0,0,0⟩))
  else if t.kind=9 then gG (cy fin f (.level 1) p.skip) fun _ p=>
   let u:=hdT fin p.l
   if u.kind≠10 then some (.error (u.at_,4)) else some (.ok (0,p.skip))
  else if t.kind=7 then
   if (db t.text).2≠0 then some (.error (t.at_,10))
   else
    let u:=hdT fin p.skip.l
    if u.kind≠9 then some (.error (u.at_,4))
    else if (hdT fin p.skip.skip.l).kind=10 then eU fin t (db t.text).1 0 p.skip.skip
    else gG (cy fin f (.args (db t.text).1 0) p.skip.skip) fun n p=>eU fin t (db t.text).1 n p
  else some (.error (t.at_,4))
 |f+1,.args fn n,p=>
  let t:=hdT fin p.l;let go:=fun (p:PS)=>if (hdT fin p.l).kind=11 then cy fin f (.args fn (n+1)) p.skip else some (.ok (n+1,p))
  if t.kind≠6 then gG (cy fin f (.level 1) p) fun _ p=>go p
  else if (sm fn n).1=false∨(sm fn n).2≠0 then some (.error (t.at_,4))
  else go (p.skip.put ⟨3,cU,t.rect,0,0,0⟩)
end Go.SL
namespace Go.SL
open Go Go.Proofs
attribute [local irreducible] W WL WQ WG VOp thn blk aY FnAt FnIn
theorem uZ (b:ByteArray):pL b=(aD b).map (Value.int .u8):=by simp [pL,aD]
theorem ET {α β:Type} (f:α→α) (E:α→β) (xs:List α) (i:Nat) (h:i<xs.length):(((xs.take i).map f++xs.drop i).map E).set i (E (f xs[i]))=((xs.take (i+1)).map f++xs.drop (i+1)).map E:=by
 rw [← List.map_set,ZG _ _ (by simp;omega)];have e1:xs.drop i=xs[i]::xs.drop (i+1):=XC h;have e2:xs.take (i+1)=xs.take i++ [xs[i]]:=Xk h;have e3:i - ((xs.take i).map f).length=0:=by simp;omega
 rw [e3,e1,e2];simp only [List.set_cons_zero,XI,XD,XR,XE,Xc,Xd]
theorem Jz (f:FuncId) [Callable Tryz.prog f] (g:Int→Int) (hf: ∀ c w,aL Tryz.prog f [.int .u8 c] w (.int .u8 (g c))) (a:ByteArray) (ha:a.size≤1000000) (w:World):
 FnAt Tryz.prog 217 [.string a,.func (.func f) #[] #[]] w fun v H=> ∃ gb cap,v= .slice (some ⟨gb,0,none⟩) a.size cap∧H= [.byt gb 5 a.size cap (((aD a).map g).map (Value.int .u8))]:=by
 refine aB Tryz.func217 rfl Tryz.ntmps217 rfl ?_;repeat' (first|apply rq;exact rfl;exact rfl;intro gb cap|refine sT ?_|refine sM fun _=>?_|refine sC ?_ ?_<;>intro hb<;>try omega|fail)
 refine gI (fun i:Nat=> [(5,.slice (some ⟨gb,0,none⟩) a.size cap),(10,.slice (some ⟨gb,0,none⟩) a.size cap),(11,.int .i64 (a.size:Int)),(12,.int .i64 (i:Int)),(1,.func (.func f) #[] #[])])
  (fun i=> [.byt gb 5 a.size cap ((((aD a).take i).map g++(aD a).drop i).map (Value.int .u8))]) (fun i=>i≤a.size) (fun i=>a.size - i) 0 (by omega) ?_ ?_ ?_
 ·exact sB
 ·rw [uZ];simp only [YF,XR,Xd,Zl];exact mS
 ·intro i hi;have hl:=aH a;by_cases hlt:i<a.size
  ·have hil:i<(aD a).length:=by omega
   have hget:((((aD a).take i).map g++(aD a).drop i).map (Value.int .u8))[0+i*1]? =some (.int .u8 (aD a)[i]):=by
    rw [XN,show 0+i*1=i by omega,Yd (by simp;omega)];simp [YO (Nat.le_of_lt hil),Zo]
   repeat' first|apply ak;exact rfl;apply ai;exact rfl;exact rfl;exact hlt|apply ak;exact rfl;apply m8;exact rfl;exact .hd;exact hget|apply kv;exact rfl;exact rfl;infer_instance;exact rfl;intro w hm;exact hf _ w|apply si;exact rfl;exact rfl;exact .hd;exact rfl;simp;omega|apply ak;exact rfl;apply AE;exact rfl;exact rfl;constructor<;>omega|refine sT ?_|refine sM fun _=>?_|refine sC ?_ ?_<;>intro hb<;>try omega|fail
   refine ⟨i+1,by omega,by omega,?_,?_⟩
   ·exact sB
   ·rw [show 0+i*1=i by omega,ET g (Value.int .u8) (aD a) i hil];exact mS
  ·have e:i=a.size:=by omega
   subst e;repeat' (first|refine sT ?_|refine sM fun _=>?_|refine sC ?_ ?_<;>intro hb<;>try omega|fail)
   refine bo (.inl rfl) Tryz.results217 rfl (.refl _) ⟨gb,cap,rfl,?_⟩;rw [YE (by omega),Yf (by omega),Xm]
def kU (c:Int):Int:=if c<32∨126<c then 0 else 32
theorem RS (c:Int) (w:World):aL Tryz.prog 218 [.int .u8 c] w (.int .u8 (kU c)):=by
 refine aB Tryz.func218 rfl Tryz.ntmps218 rfl ?_;repeat' (first|refine sT ?_|refine sM fun _=>?_|refine sC ?_ ?_<;>intro hb<;>try omega|fail)
 all_goals ((refine rT1 ?_);((try simp only [← Int.not_lt] at*);simp_all [kU, -Int.not_lt, -Int.not_le]))
theorem Mg (c:Int) (w:World):aL Tryz.prog 219 [.int .i32 c] w (.bool (decide (c=0))):=by
 refine aB Tryz.func219 rfl Tryz.ntmps219 rfl ?_;repeat' (first|refine sT ?_|refine sM fun _=>?_|refine sC ?_ ?_<;>intro hb<;>try omega|fail)
 all_goals ((refine rT1 ?_);rfl)
def kf (q:Int→Bool) (l:List Int):Int:=match l.findIdx? q with
 |some i=>(i:Int)
 |none=> -1
theorem Gl {q:Int→Bool} {l:List Int} {i:Nat} (h:i<l.length) (hq:q l[i]=true) (hno: ∀ j (h:j<l.length),j<i→q l[j]=false):kf q l=(i:Int):=by
 have:l.findIdx? q=some i:=by
  rw [YI];exact ⟨h,hq,fun j hj=>by simpa using hno j (by omega) hj⟩
 simp [kf,this]
theorem Dj {q:Int→Bool} {l:List Int} (hno: ∀ j (h:j<l.length),q l[j]=false):kf q l= -1:=by
 have:l.findIdx? q=none:=by
  rw [YZ];intro x hx;obtain ⟨j,hj,rfl⟩:=YN hx;exact hno j hj
 simp [kf,this]
theorem Dg (f:FuncId) [Callable Tryz.prog f] (q:Int→Bool) (hf: ∀ c w,aL Tryz.prog f [.int .i32 c] w (.bool (q c))) (a:ByteArray) (ha:a.size≤1000000) (hasc: ∀ i (h:i<a.size),(a[i]'h).toNat<128) (w:World):
 aL Tryz.prog 248 [.string a,.func (.func f) #[] #[],.bool true] w (.int .i64 (kf q (aD a))):=by
 refine aB Tryz.func248 rfl Tryz.ntmps248 rfl ?_;have hl:=aH a;repeat' (first|apply Cc;exact rfl;exact rfl;intro gi|refine sT ?_|refine sM fun _=>?_|refine sC ?_ ?_<;>intro hb<;>try omega|fail)
 refine gI (fun i:Nat=> [(0,.string a),(1,.func (.func f) #[] #[]),(2,.bool true),(10,.pointer (some ⟨gi,0,none⟩))])
  (fun i=> [.obj gi (.stringIter a i)]) (fun i=>i≤a.size∧ ∀ j (h:j<(aD a).length),j<i→q (aD a)[j]=false) (fun i=>a.size - i) 0 ⟨by omega,fun j _ h=>by omega⟩ ?_ ?_ ?_
 ·exact sB
 ·exact mS
 ·rintro i ⟨hi,hno⟩;repeat' (first|apply Eb;exact rfl;exact rfl;exact .hd;exact hasc i;all_goals intro hb|apply kv;exact rfl;exact rfl;infer_instance;exact rfl;intro w hm;exact hf _ w|refine sT ?_|refine sM fun _=>?_|refine sC ?_ ?_<;>intro hb<;>try omega|fail)
  all_goals (try simp only [beq_true] at*)
  ·rename_i hlt;have hq:=hb;refine bo (.inl rfl) Tryz.results248 rfl (MSub.nil _) ?_;have h1:=tC a i hlt;rw [Gl (i:=i) (by omega) (by rw [h1];exact hq) hno]
  ·rename_i hlt;have hq:=hb;refine ⟨i+1,⟨by omega,fun j hj hji=> ?_⟩,by omega,?_,?_⟩
   ·by_cases e:j=i
    ·subst e;rw [tC a j hlt];exact hq
    ·exact hno j hj (by omega)
   ·exact sB
   ·exact mS
  ·have hge:=hb;refine bo (.inl rfl) Tryz.results248 rfl (MSub.nil _) ?_;rw [Dj fun j hj=>hno j hj (by omega)]
theorem DM (f:FuncId) [Callable Tryz.prog f] (q:Int→Bool) (hf: ∀ c w,aL Tryz.prog f [.int .i32 c] w (.bool (q c))) (a:ByteArray) (ha:a.size≤1000000) (hasc: ∀ i (h:i<a.size),(a[i]'h).toNat<128) (w:World):
 aL Tryz.prog 216 [.string a,.func (.func f) #[] #[]] w (.int .i64 (kf q (aD a))):=by
 refine aB Tryz.func216 rfl Tryz.ntmps216 rfl ?_;repeat' (first|apply aa;exact rfl;exact rfl;intro w hm;exact Dg f q hf a ha hasc w|refine sT ?_|refine sM fun _=>?_|refine sC ?_ ?_<;>intro hb<;>try omega|fail)
 all_goals ((refine rT1 ?_);rfl)
def kT (a:ByteArray):ByteArray:=⟨(((aD a).map kU).map fun n=>UInt8.ofNat n.toNat).toArray⟩
theorem oV (a:ByteArray):(kT a).size=a.size:=by
 have:(kT a).size=((aD a).map kU).length:=by simp [kT,ByteArray.size]
 rw [this];simp [aH]
theorem vE (a:ByteArray):aD (kT a)=(aD a).map kU:=by
 simp only [aD,kT,YL];congr 1;funext c;simp only [Function.comp,kU];split<;>simp
theorem Gk (q:Int→Bool) (l:List Int):decide (kf q l<0)=l.all fun c=> !q c:=by
 unfold kf
 cases h:l.findIdx? q with
 |none=>
  rw [YZ] at h;rw [XY];simpa using h
 |some i=>
  rw [YI] at h;obtain ⟨h1,h2,_⟩:=h;rw [XY];simp only [decide_eq_true_eq,Yt];constructor
  ·intro h;omega
  ·intro h;have:=h _ (XO h1);rw [h2] at this;cases this
theorem FB (a:ByteArray):decide (kf (fun c=>decide (c=0)) (aD (kT a))<0)=uC a:=by
 rw [Gk,vE];simp only [aD,List.all_map,uC];congr 1;funext c;have e:(decide (kU (c.toNat:Int)=0))= !(decide (32≤c.toNat) && decide (c.toNat≤126)):=by
  rw [XY];by_cases h:(c.toNat:Int)<32∨126<(c.toNat:Int)
  ·simp only [kU,if_pos h];simp;omega
  ·simp only [kU,if_neg h];simp;omega
 simp only [Function.comp,e,Bool.not_not]
theorem Db (a:ByteArray): ∀ i (h:i<(kT a).size),((kT a)[i]'h).toNat<128:=by
 intro i h;have h1:=tC (kT a) i h;have h2:((kT a)[i].toNat:Int)=kU ((aD a)[i]'(by rw [aH,← oV];exact h)):=by
  rw [← h1];simp [vE]
 have h3: ∀ x,kU x=0∨kU x=32:=fun x=>by unfold kU;split<;>simp
 rcases h3 ((aD a)[i]'(by rw [aH,← oV];exact h)) with h4|h4<;>omega
theorem s5 (a:ByteArray) (ha:a.size≤1000000) (w:World):aL Tryz.prog 155 [.string a] w (.bool (uC a)):=by
 refine aB Tryz.func155 rfl Tryz.ntmps155 rfl ?_;repeat' (first|(with_reducible apply aw (R:=fun v H=> ∃ gb cap,v= .slice (some ⟨gb,0,none⟩) a.size cap∧H= [.byt gb 5 a.size cap (((aD a).map kU).map (Value.int .u8))]));exact rfl;exact rfl;intro w hm;exact Jz 218 kU RS a ha w;rintro v H' ⟨gb,cap,rfl,rfl⟩|apply ak;exact rfl;apply Ae;exact rfl;exact .hd;simp [aH]|apply aa;exact rfl;exact rfl;intro w hm;exact DM 219 (fun c=>decide (c=0)) Mg (kT a) (by rw [oV];exact ha) (Db a) w|refine sT ?_|refine sM fun _=>?_|refine sC ?_ ?_<;>intro hb<;>try omega|fail)
 all_goals ((refine rT1 ?_);rw [← FB])
theorem Ge (a:ByteArray) (w:World):aL Tryz.prog 124 [.string a] w (.int .i64 (uQ a)):=by
 refine aB Tryz.func124 rfl Tryz.ntmps124 rfl ?_;repeat' (first|apply aa;exact rfl;exact rfl;intro w hm;exact s5 a (by omega) w|refine sT ?_|refine sM fun _=>?_|refine sC ?_ ?_<;>intro hb<;>try omega|fail)
 ·(refine rT1 ?_);have:decide (256<a.size)=true:=by simp;omega
  simp [uQ,this]
 all_goals
  (refine rT1 ?_);have h256:decide (256<a.size)=false:=by simp;omega
  simp only [uQ,h256,hb,cond_true,cond_false]
theorem H5 (v:Vl) (w:World):aL Tryz.prog 249 [.agg (fp v).toArray] w (.int .i64 (H6 v)):=by
 refine aB Tryz.func249 rfl Tryz.ntmps249 rfl ?_;repeat' (first|apply aa;exact rfl;exact rfl;intro w hm;exact Ge v.text w|apply ak;exact rfl;exact NQ (b:=⟨0,0,aS⟩) rfl rfl|refine sT ?_|refine sM fun _=>?_|refine sC ?_ ?_<;>intro hb<;>try omega|fail)
 all_goals ((refine rT1 ?_);((try simp only [← Int.not_lt] at*);simp_all [H6,NF,eqV,aS, -Int.not_lt, -Int.not_le,← Int.not_lt]);try (by_cases h:v.num=0<;>simp_all))
theorem Bx (n:Nd) (w:World):aL Tryz.prog 268 [.agg (gW n).toArray] w (.int .i64 (dU n)):=by
 refine aB Tryz.func268 rfl Tryz.ntmps268 rfl ?_;repeat' (first|apply aa;exact rfl;exact rfl;intro w hm;exact H5 n.v w|apply aa;exact rfl;exact rfl;intro w hm;exact dQ n.rect w|apply aa;exact rfl;exact rfl;intro w hm;exact zl n.fn w|apply CB (T:=283) (fun D=> [.int .u8 n.kind,.int .u8 0,.int .i64 0,.string aS,.int .i64 0,.int .i64 0,.int .i64 0,.int .i64 0,.int .i64 0,.int .u8 (bif D 5 then n.fn else 0),.int .i64 (bif D 7 then n.n else 0)]) (xs' := [.int .u8 n.kind,.int .u8 0,.int .i64 0,.string aS,.int .i64 0,.int .i64 0,.int .i64 0,.int .i64 0,.int .i64 0,.int .u8 n.fn,.int .i64 n.n]);kernel_rfl;kernel_rfl;(first|exact .hd|exact .tl .hd);exact rfl;intro D hD;simp only [hD 5 (by decide),hD 7 (by decide),cond_true]|apply ak;exact rfl;(first|apply xI (b:=⟨n.kind,n.v,bU,0,0,0⟩);exact rfl;exact rfl|apply xI (b:=⟨n.kind,cU,n.rect,0,0,0⟩);exact rfl;exact rfl|apply xI (b:=⟨n.kind,cU,bU,0,0,0⟩);exact rfl;exact rfl|apply xI (b:=⟨n.kind,cU,bU,n.op,0,0⟩);exact rfl;exact rfl|apply xI (b:=⟨n.kind,cU,bU,0,n.fn,n.n⟩);exact rfl;exact rfl)|refine sT ?_|refine sG ?_|refine sM fun _=>?_|refine sC ?_ ?_<;>intro hb<;>try omega|fail)
 all_goals ((refine rT1 ?_);((try simp only [← Int.not_lt] at*);simp_all [dU,oY,dg,Tx,VM, -Int.not_lt, -Int.not_le,← Int.not_lt]))
attribute [local irreducible] WA WLI bA
def xO (n:Nd) (i:Nat) (r:List Nd):Us:=match r with
 |m::_=>if m.kind=7∧46≤m.fn then ⟨n.rect,((i+1:Nat):Int),m.fn⟩ else ⟨n.rect, -1,0⟩
 | []=>⟨n.rect, -1,0⟩
def eZ:List Nd→Nat→List Us
 | [],_=> []
 |n::r,i=>bif j4 n then xO n i r::eZ r (i+1) else eZ r (i+1)
def fA (L:List Nd):List Us:=eZ L 0
theorem NU (L:List Nd) (tv:Value) (w0:World) (ht:Reads w0 tv L.length (L.flatMap gW)) (hlen:L.length≤1000000) (g:Nat):
 Seqs Tryz.prog 174 [.pointer (some ⟨g,0,none⟩)] w0 [.box g 174 [tv]] (fA L) (fun u=> [.agg (bP u).toArray]):=by
 obtain ⟨Al,cl,rfl,hl1,hl2,hl3⟩:=ht;intro l I J H0 hy h0;refine FnIn.msub (H' := .box g 174 [.slice Al L.length cl]::H0) ?_ (MSub.rot (MSub.refl _));refine bI Tryz.func174 rfl Tryz.ntmps174 rfl ?_;repeat' (first|refine sT ?_|refine sM fun _=>?_|refine sC ?_ ?_<;>intro hb<;>try omega|fail)
 refine gI (fun y:Nat × List Us × List Blk=> [(0,.func (.yield l) #[] #[]),(1,.pointer (some ⟨g,0,none⟩)),(6,.slice Al L.length cl),(7,.int .i64 (L.length:Int)),(8,.int .i64 (y.1:Int))])
  (fun y=> .box g 174 [.slice Al L.length cl]::y.2.2)
  (fun y=>y.1≤L.length∧fA L=y.2.1++eZ (L.drop y.1) y.1∧I y.2.1 y.2.2) (fun y=>L.length - y.1) (0,[],H0) ⟨by omega,rfl,h0⟩ ?_ ?_ ?_
 ·exact sB
 ·exact MSub.refl _
 rintro ⟨i,pre,H1⟩ ⟨hi,hus,hI⟩;dsimp only at hi hus hI ⊢;by_cases hlt:i<L.length
 ·obtain ⟨gl,ol,rfl,hrl⟩:=hl3 (by omega);have he:=hrl.elem lu i hlt;rw [XC hlt,eZ] at hus;generalize hn:L[i]=n at hus he;have hran:=fun w=>LP n w;have next: ∀ (us:List Us) (HU:List Blk),fA L=us++eZ (L.drop (i+1)) (i+1)→I us HU→i+1≤L.length∧fA L=us++eZ (L.drop (i+1)) (i+1)∧I us HU:=fun us HU h1 h2=>⟨hlt,h1,h2⟩
  generalize j4 n=q at hus hran;cases q
  ·rw [cond_false] at hus;repeat' (first|apply aa;exact rfl;exact rfl;intro w hm;exact hran w|refine zZO ?_|refine sM fun _=>?_|refine sC ?_ ?_<;>intro hb<;>try omega|fail)
   refine ⟨(i+1,pre,H1),next _ _ hus hI,(by dsimp only;omega),?_,?_⟩
   ·exact sB
   ·exact mS
  rw [cond_true] at hus;by_cases hn1:i+1<L.length
  ·have he1:=hrl.elem lu (i+1) hn1;have hd:=XC hn1;generalize L[i+1]=m at he1 hd;by_cases hrel:m.kind=7∧46≤m.fn
   ·have hu:xO n i (L.drop (i+1))=⟨n.rect,((i+1:Nat):Int),m.fn⟩:=by rw [hd];simp only [xO,if_pos hrel]
    rw [hu] at hus;repeat' (first|apply aa;exact rfl;exact rfl;intro w hm;exact hran w|apply ji (id:=7)|(with_reducible apply CB (id:=6) (T:=159) (fun D=> [.int .i64 n.rect.c1,.int .i64 n.rect.r1,.int .i64 n.rect.c2,.int .i64 n.rect.r2,.int .i64 (bif D 9 then ((i+1:Nat):Int) else -1),.int .u8 (bif D 11 then m.fn else 0)]) (xs' := [.int .i64 n.rect.c1,.int .i64 n.rect.r1,.int .i64 n.rect.c2,.int .i64 n.rect.r2,.int .i64 ((i+1:Nat):Int),.int .u8 m.fn]));kernel_rfl;kernel_rfl;exact .hd;exact rfl;intro D hD;simp only [hD 9 (by decide),hD 11 (by decide),cond_true]|apply HY;exact rfl;(intro D ht;first|apply gZ;exact rfl;exact rfl;simp only [maxLen] at*;omega|apply ai;exact rfl;exact rfl;(first|assumption|omega)|apply m7;exact rfl;assumption;exact rfl);exact fun _=>rfl|refine sT ?_|refine sI ?_|refine sN ?_|refine sO ?_|refine sG ?_|refine sM fun _=>?_|refine sC ?_ ?_<;>intro hb<;>try omega|fail)
    (with_reducible apply ic)
    ·exact rfl
    ·exact rfl
    ·exact rfl
    ·exact MSub.app3
    ·exact fun w hm=>hy pre ⟨n.rect,((i+1:Nat):Int),m.fn⟩ _ hus H1 _ hI w hm
    intro bb H2 hq;cases bb
    ·repeat' first|refine sT ?_|refine sI ?_|refine sM fun _=>?_|refine sC ?_ ?_<;>intro hb<;>try omega|fail
     exact fJ eIO Tryz.results174 (H' :=H2++ [.box g 174 [.slice (some ⟨gl,ol,none⟩) L.length cl]]) MSub.app3r ⟨H2,.inr ⟨_,hq⟩,MSub.refl _⟩
    ·repeat' first|refine sT ?_|refine sI ?_|refine sN ?_|refine sM fun _=>?_|refine sC ?_ ?_<;>intro hb<;>try omega|fail
     refine ⟨(i+1,_,H2),next _ _ (hus.trans (by rw [List.append_assoc];rfl)) hq,(by dsimp only;omega),?_,?_⟩
     ·exact sB
     ·exact MSub.app3'
   ·have hu:xO n i (L.drop (i+1))=⟨n.rect, -1,0⟩:=by rw [hd];simp only [xO,if_neg hrel]
    rw [hu] at hus;repeat' (first|apply aa;exact rfl;exact rfl;intro w hm;exact hran w|apply ji (id:=7)|refine sT ?_|refine sI ?_|refine sN ?_|refine sO ?_|refine sM fun _=>?_|refine sC ?_ ?_<;>intro hb<;>try omega|fail)
    all_goals
     (with_reducible apply ic)
     ·exact rfl
     ·exact rfl
     ·exact rfl
     ·exact MSub.app3
     ·exact fun w hm=>hy pre ⟨n.rect, -1,0⟩ _ hus H1 _ hI w hm
     intro bb H2 hq;cases bb
     ·repeat' first|refine sT ?_|refine sI ?_|refine sM fun _=>?_|refine sC ?_ ?_<;>intro hb<;>try omega|fail
      exact fJ eIO Tryz.results174 (H' :=H2++ [.box g 174 [.slice (some ⟨gl,ol,none⟩) L.length cl]]) MSub.app3r ⟨H2,.inr ⟨_,hq⟩,MSub.refl _⟩
     ·repeat' first|refine sT ?_|refine sI ?_|refine sN ?_|refine sM fun _=>?_|refine sC ?_ ?_<;>intro hb<;>try omega|fail
      refine ⟨(i+1,_,H2),next _ _ (hus.trans (by rw [List.append_assoc];rfl)) hq,(by dsimp only;omega),?_,?_⟩
      ·exact sB
      ·exact MSub.app3'
  ·have hu:xO n i (L.drop (i+1))=⟨n.rect, -1,0⟩:=by rw [Yf (by omega)];rfl
   rw [hu] at hus;repeat' (first|apply aa;exact rfl;exact rfl;intro w hm;exact hran w|apply ji (id:=7)|refine sT ?_|refine sI ?_|refine sN ?_|refine sO ?_|refine sM fun _=>?_|refine sC ?_ ?_<;>intro hb<;>try omega|fail)
   (with_reducible apply ic)
   ·exact rfl
   ·exact rfl
   ·exact rfl
   ·exact MSub.app3
   ·exact fun w hm=>hy pre ⟨n.rect, -1,0⟩ _ hus H1 _ hI w hm
   intro bb H2 hq;cases bb
   ·repeat' first|refine sT ?_|refine sI ?_|refine sM fun _=>?_|refine sC ?_ ?_<;>intro hb<;>try omega|fail
    exact fJ eIO Tryz.results174 (H' :=H2++ [.box g 174 [.slice (some ⟨gl,ol,none⟩) L.length cl]]) MSub.app3r ⟨H2,.inr ⟨_,hq⟩,MSub.refl _⟩
   ·repeat' first|refine sT ?_|refine sI ?_|refine sN ?_|refine sM fun _=>?_|refine sC ?_ ?_<;>intro hb<;>try omega|fail
    refine ⟨(i+1,_,H2),next _ _ (hus.trans (by rw [List.append_assoc];rfl)) hq,(by dsimp only;omega),?_,?_⟩
    ·exact sB
    ·exact MSub.app3'
 ·have e:i=L.length:=by omega
  subst e;rw [X0,eZ,Xm] at hus;repeat' (first|refine sT ?_|refine sM fun _=>?_|refine sC ?_ ?_<;>intro hb<;>try omega|fail)
  refine fJ (.inr rfl) Tryz.results174 (H' := .box g 174 [.slice Al L.length cl]::H1) mS ⟨H1,.inl (hus ▸ hI),?_⟩;exact MSub.snoc .hd (MSub.refl _)
end Go.SL
namespace Go.SL
open Go Go.Proofs
attribute [local irreducible] W WL WQ WG WA VOp thn blk bA aY FnAt FnIn
structure Pc where
 m0:Int
 m1:Int
 v0:Int
 v1:Int
 ok:Bool
def BF (p:Pc):List Value:= [.int .i64 p.m0,.int .i64 p.m1,.int .i64 p.v0,.int .i64 p.v1,.bool p.ok]
def lJ (p:Pc) (c:Int):Pc:=⟨p.m0+1,p.m1,min (26*p.v0+(c - 65)+1) 1025,p.v1,p.ok && decide (p.m1=0)⟩
def gU (p:Pc) (c:Int):Pc:=⟨p.m0,p.m1+1,p.v0,min (10*p.v1+(c - 48)) 1025,p.ok && (decide (c≠48)||decide (0<p.m1))⟩
structure Pc.Fit (p:Pc) (n:Int):Prop where
 m0:0≤p.m0∧p.m0≤n
 m1:0≤p.m1∧p.m1≤n
 v0:0≤p.v0∧p.v0≤1025
 v1:0≤p.v1∧p.v1≤1025
theorem OZ (a b:Int):(if b<a then b else a)=min a b:=by omega
theorem MX (p:Pc) (c:Int) (n:Int) (hf:p.Fit n) (hn:n≤1000000) (h1:65≤c) (h2:c≤90) (g:Nat) (R:List Blk) (w0:World):
 FnIn Tryz.prog 288 [.pointer (some ⟨g,0,none⟩),.int .u8 c,.bool true] w0 (.box g 388 (BF p)::R) fun v H=>v= .tuple #[]∧H= .box g 388 (BF (lJ p c))::R:=by
 refine bI Tryz.func288 rfl Tryz.ntmps288 rfl ?_;obtain ⟨a1,a2⟩:=hf.m0;obtain ⟨a3,a4⟩:=hf.m1;obtain ⟨a5,a6⟩:=hf.v0;obtain ⟨a7,a8⟩:=hf.v1;have hwc:IntKind.u8.wrap (c - 65)=c - 65:=wrap_u8 (by omega) (by omega);have hwc2:IntKind.i64.wrap (c - 65)=c - 65:=I64.wrap ⟨by omega,by omega⟩;repeat' (first|refine xF (id:=1) (ι:=Bool) (fun _=> [(0,.pointer (some ⟨g,0,none⟩)),(1,.int .u8 c)]) (fun b=> .box g 388 [.int .i64 p.m0,.int .i64 p.m1,.int .i64 p.v0,.int .i64 p.v1,.bool b]::R) (fun b=>b=(p.ok && decide (p.m1=0))) ?_ ?_|refine zZT ?_|refine sM fun _=>?_|refine sC ?_ ?_<;>intro hb<;>try omega|exact cT|fail)
 ·(apply fG;rotate_left 1;exact sB;exact mS);rw [hb];rfl
 ·(apply fG;rotate_left 1;exact sB;exact mS);rw [hb];rfl
 rintro _ rfl;repeat' (first|refine mZ (id:=2) 9 (.box g 388 [.int .i64 (p.m0+1),.int .i64 p.m1,.int .i64 p.v0,.int .i64 p.v1,.bool (p.ok && decide (p.m1=0))]::R) (by kernel_rfl) (by kernel_rfl) rfl ?_|refine mZ (id:=3) 16 (.box g 388 [.int .i64 (p.m0+1),.int .i64 p.m1,.int .i64 (min (26*p.v0+(c - 65)+1) 1025),.int .i64 p.v1,.bool (p.ok && decide (p.m1=0))]::R) (by kernel_rfl) (by kernel_rfl) rfl ?_|apply ru (f:=60);exact rfl;decide+kernel;exact rfl;apply lY;exact rfl;exact rfl;exact hwc|apply ru (f:=60);exact rfl;decide+kernel;exact rfl;apply cM;exact rfl;exact hwc2|apply u5;exact rfl;exact rfl;exact .hd;exact rfl;exact rfl;(try rw [OZ]);exact .refl _|refine zZT ?_|refine sM fun _=>?_|refine sC ?_ ?_<;>intro hb<;>try omega|exact cT|fail)
 exact fJ (.inl rfl) rfl (.refl _) ⟨rfl,rfl⟩
theorem MY (p:Pc) (c:Int) (n:Int) (hf:p.Fit n) (hn:n≤1000000) (h1:48≤c) (h2:c≤57) (g:Nat) (R:List Blk) (w0:World):
 FnIn Tryz.prog 288 [.pointer (some ⟨g,0,none⟩),.int .u8 c,.bool false] w0 (.box g 388 (BF p)::R) fun v H=>v= .tuple #[]∧H= .box g 388 (BF (gU p c))::R:=by
 refine bI Tryz.func288 rfl Tryz.ntmps288 rfl ?_;obtain ⟨a1,a2⟩:=hf.m0;obtain ⟨a3,a4⟩:=hf.m1;obtain ⟨a5,a6⟩:=hf.v0;obtain ⟨a7,a8⟩:=hf.v1;have hwc:IntKind.u8.wrap (c - 48)=c - 48:=wrap_u8 (by omega) (by omega);have hwc2:IntKind.i64.wrap (c - 48)=c - 48:=I64.wrap ⟨by omega,by omega⟩;repeat' (first|refine xF (id:=4) (ι:=Bool) (fun _=> [(0,.pointer (some ⟨g,0,none⟩)),(1,.int .u8 c)]) (fun b=> .box g 388 [.int .i64 p.m0,.int .i64 p.m1,.int .i64 p.v0,.int .i64 p.v1,.bool b]::R) (fun b=>b=(p.ok && (decide (c≠48)||decide (0<p.m1)))) ?_ ?_|refine zZT ?_|refine sM fun _=>?_|refine sC ?_ ?_<;>intro hb<;>try omega|exact cT|fail)
 ·(apply fG;rotate_left 1;exact sB;exact mS);rename_i h3;rw [h3,decide_eq_true hb];rfl
 ·(apply fG;rotate_left 1;exact sB;exact mS);rename_i h3;rw [h3,decide_eq_false hb];rfl
 ·(apply fG;rotate_left 1;exact sB;exact mS);rw [hb];rfl
 rintro _ rfl;repeat' (first|refine mZ (id:=5) 9 (.box g 388 [.int .i64 p.m0,.int .i64 (p.m1+1),.int .i64 p.v0,.int .i64 p.v1,.bool (p.ok && (decide (c≠48)||decide (0<p.m1)))]::R) (by kernel_rfl) (by kernel_rfl) rfl ?_|refine mZ (id:=6) 15 (.box g 388 [.int .i64 p.m0,.int .i64 (p.m1+1),.int .i64 p.v0,.int .i64 (min (10*p.v1+(c - 48)) 1025),.bool (p.ok && (decide (c≠48)||decide (0<p.m1)))]::R) (by kernel_rfl) (by kernel_rfl) rfl ?_|apply ru (f:=60);exact rfl;decide+kernel;exact rfl;apply lY;exact rfl;exact rfl;exact hwc|apply ru (f:=60);exact rfl;decide+kernel;exact rfl;apply cM;exact rfl;exact hwc2|apply u5;exact rfl;exact rfl;exact .hd;exact rfl;exact rfl;(try rw [OZ]);exact .refl _|refine zZT ?_|refine sM fun _=>?_|refine sC ?_ ?_<;>intro hb<;>try omega|exact cT|fail)
 exact fJ (.inr rfl) rfl (.refl _) ⟨rfl,rfl⟩
def cA (p:Pc) (c:Int):Pc:=if 65≤upC c∧upC c≤90 then lJ p (upC c) else if 48≤c∧c≤57 then gU p c else ⟨p.m0,p.m1,p.v0,p.v1,false⟩
def pc0:Pc:=⟨0,0,0,0,true⟩
theorem IP {p:Pc} {c:Int} (h1:97≤c) (h2:c≤122):cA p c=lJ p (c - 32):=by
 have e:upC c=c - 32:=by rw [upC,if_pos ⟨h1,h2⟩]
 rw [cA,e,if_pos (by omega)]
theorem LU {p:Pc} {c:Int} (h1:65≤c) (h2:c≤90):cA p c=lJ p c:=by
 have e:upC c=c:=by rw [upC,if_neg (by omega)]
 rw [cA,e,if_pos (by omega)]
theorem Ka {c:Int} (h: ¬ (97≤c∧c≤122)):upC c=c:=by rw [upC,if_neg h]
theorem yp {p:Pc} {c:Int} (h1:48≤c) (h2:c≤57):cA p c=gU p c:=by
 rw [cA,Ka (by omega),if_neg (by omega),if_pos ⟨h1,h2⟩]
theorem AZ {p:Pc} {c:Int} (h: ¬ (97≤c∧c≤122)) (h2: ¬ (65≤c∧c≤90)) (h3: ¬ (48≤c∧c≤57)):cA p c=⟨p.m0,p.m1,p.v0,p.v1,false⟩:=by
 rw [cA,Ka h,if_neg h2,if_neg h3]
theorem IQ {p:Pc} {n:Int} (h:p.Fit n) (c:Int):(cA p c).Fit (n+1):=by
 obtain ⟨⟨a1,a2⟩,⟨a3,a4⟩,⟨a5,a6⟩,⟨a7,a8⟩⟩:=h;unfold cA;split
 ·exact ⟨⟨by simp only [lJ];omega,by simp only [lJ];omega⟩,⟨a3,by simp only [lJ];omega⟩,⟨by simp only [lJ];omega,by simp only [lJ];omega⟩,⟨a7,a8⟩⟩
 ·split
  ·exact ⟨⟨a1,by simp only [gU];omega⟩,⟨by simp only [gU];omega,by simp only [gU];omega⟩,⟨a5,a6⟩,⟨by simp only [gU];omega,by simp only [gU];omega⟩⟩
  ·exact ⟨⟨a1,by dsimp only;omega⟩,⟨a3,by dsimp only;omega⟩,⟨a5,a6⟩,⟨a7,a8⟩⟩
def wJ (l:List Int):Pc:=l.foldl cA pc0
theorem Hy (a:ByteArray) (ha:a.size≤100000) (w:World):aL Tryz.prog 279 [.string a] w (.agg (BF (wJ (aD a))).toArray):=by
 refine aB Tryz.func279 rfl Tryz.ntmps279 rfl ?_;have hl:=aH a;repeat' (first|refine zZE ?_|refine sM fun _=>?_|refine sC ?_ ?_<;>intro hb<;>try omega|exact cT|fail)
 rename_i g2 g3;refine ax [0,2,3,9] rfl (fun x:Nat × Pc=> [(10,.int .i64 (x.1:Int))]) (fun x=> [.box g3 388 (BF x.2),.box g2 388 [.int .i64 0,.int .i64 0,.int .i64 0,.int .i64 0,.bool false]]) (fun x=>x.1≤a.size∧x.2.Fit x.1∧wJ (aD a)=((aD a).drop x.1).foldl cA x.2) (fun x=>a.size - x.1) (0,pc0) ⟨Xn _,⟨⟨by decide,by decide⟩,⟨by decide,by decide⟩,⟨by decide,by decide⟩,⟨by decide,by decide⟩⟩,rfl⟩ sB mS ?_;rintro ⟨i,p⟩ ⟨hi,hf,hr⟩;dsimp only at hi hf hr ⊢;by_cases hlt:i<a.size
 ·rw [dD hlt,YV] at hr;have hc:=US a i;generalize hcd:bat a i=c at hr hc;have hf2:=IQ hf c;repeat' (first|apply ak (d:=15);exact rfl;exact hcd ▸ EP rfl rfl hlt|apply ak (d:=38);exact rfl;apply lY;exact rfl;exact rfl;exact wrap_u8 (by omega) (by omega)|apply aj (d:=41);exact rfl;exact rfl;(first|exact FnIn.msub (MX p _ _ hf (by omega) (by omega) (by omega) _ _ _) (.pick pK (.refl _))|exact FnIn.msub (MY p _ _ hf (by omega) (by omega) (by omega) _ _ _) (.pick pK (.refl _)));rintro _ _ ⟨rfl,rfl⟩|refine zZG ?_|refine sM fun _=>?_|refine sC ?_ ?_<;>intro hb<;>try omega|exact cT|fail)
  all_goals
   refine ⟨(i+1,cA p c),⟨hlt,by have:=hf2;simpa using this,hr⟩,(by dsimp only;omega),sB,sB,?_⟩;dsimp only
   first
   |rw [IP (by omega) (by omega)];exact mS;done
   |rw [LU (by omega) (by omega)];exact mS;done
   |rw [yp (by omega) (by omega)];exact mS;done
   |rw [AZ (by omega) (by omega) (by omega)];exact mS;done
 ·have e:i=a.size:=by omega
  subst e;rw [Yf (by omega),List.foldl_nil] at hr;rw [hr];repeat' (first|refine zZE ?_|refine sM fun _=>?_|refine sC ?_ ?_<;>intro hb<;>try omega|exact cT|fail)
  exact zL (.inl rfl) rfl rfl .hd rfl (MSub.nil _) rfl
def BT (l:List Int):Int × Int × Int:=
 if (wJ l).ok=false∨(wJ l).m0=0∨(wJ l).m1=0 then (0,0,4)
 else if valid (wJ l).v0 (wJ l).v1 then ((wJ l).v0,(wJ l).v1,0) else (0,0,3)
theorem DH (a:ByteArray) (ha:a.size≤100000) (w:World):aL Tryz.prog 258 [.string a] w (.tuple #[.agg #[.int .i64 (BT (aD a)).1,.int .i64 (BT (aD a)).2.1],.int .i64 (BT (aD a)).2.2]):=by
 refine aB Tryz.func258 rfl Tryz.ntmps258 rfl ?_;unfold BT;generalize hp:wJ (aD a)=p;have hR:=Hy a ha;rw [hp] at hR;repeat' (first|apply aa;exact rfl;exact rfl;intro w hm;exact hR w|apply aa;exact rfl;exact rfl;intro w hm;exact iQ p.v0 p.v1 w|refine zZE ?_|refine sM fun _=>?_|refine sC ?_ ?_<;>intro hb<;>try omega|exact cT|fail)
 all_goals
  (refine lB ?_);simp_all
def bE (a b:Rf):Bool:=decide (a.row<b.row)||(decide (a.row=b.row) && decide (a.col<b.col))
theorem SV (a b:Rf) (w:World):aL Tryz.prog 89 [.agg (aq a).toArray,.agg (aq b).toArray] w (.bool (bE a b)):=by
 refine aB Tryz.func89 rfl Tryz.ntmps89 rfl ?_;repeat' (first|refine sT ?_|refine sM fun _=>?_|refine sC ?_ ?_<;>intro hb<;>try omega|exact cT|fail)
 all_goals ((refine rT1 ?_);((try simp only [← Int.not_lt] at*);simp_all [bE, -Int.not_lt, -Int.not_le,← Int.not_lt]))
theorem pO (a:Rf) (w:World):aL Tryz.prog 9 [.agg (aq a).toArray] w (.agg (ay (cE a.col a.row)).toArray):=by
 refine aB Tryz.func9 rfl Tryz.ntmps9 rfl ?_;repeat' (first|refine sT ?_|refine sM fun _=>?_|refine sC ?_ ?_<;>intro hb<;>try omega|exact cT|fail)
 (refine eRC ?_)
 rfl
def aI (r:Rct) (a:Rf):Bool:=decide (r.c1≤a.col) && decide (a.col≤r.c2) && decide (r.r1≤a.row) && decide (a.row≤r.r2)
theorem jA (r:Rct) (a:Rf) (w:World):aL Tryz.prog 28 [.agg (ay r).toArray,.agg (aq a).toArray] w (.bool (aI r a)):=by
 refine aB Tryz.func28 rfl Tryz.ntmps28 rfl ?_;repeat' (first|refine sT ?_|refine sM fun _=>?_|refine sC ?_ ?_<;>intro hb<;>try omega|exact cT|fail)
 all_goals ((refine rT1 ?_);((try simp only [← Int.not_lt] at*);simp_all [aI, -Int.not_lt, -Int.not_le,← Int.not_lt]))
attribute [local irreducible] FnP RW WLI WR WT WX aX bw scp
def iz (a b:Rf):Int:=if bE a b then -1 else if bE b a then 1 else 0
end Go.SL

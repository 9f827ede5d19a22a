/-
  Lemmas and walks, put together: La G1a D10 Sb W1 W11 W4 W27 W30 B1 Px W12 W2 W13 W3 W28 Px2.
-/
import Derived.ChangeKeysEq
import Derived.Test.YtoanpdoacdpgeaaGreatDoorKo04
import Derived.Test.YtoanpdoacdpgeaaGreatDoorKo05
import Derived.Test.YtoanpdoacdpgeaaGreatDoorKo06
import Derived.Test.YtoanpdoacdpgeaaGreatDoorKo07
set_option linter.unusedSimpArgs false
set_option linter.unusedVariables false
set_option maxRecDepth 20000
namespace Go.SL
open Go Go.Proofs
attribute [local irreducible] W WL WQ WG WA WX WLI WR WT WC VOp RW thn blk bp scp aR ba bE aF FnIn FnP ceP
theorem Qt {L:List Rf} {k:Nat} (h:k<L.length):((L.flatMap aS).drop (0+k*2)).take 2=aS L[k]:=by
 rw [Rt]
 exact dD l7 L k h
end Go.SL
namespace Go.SL
open Go Go.Proofs
attribute [local irreducible] W WL WQ WG WA WX WLI WR WT WC VOp RW thn blk bp scp aR ba bE aF FnP ceP
theorem FnIn.re {P:Program} {f:FuncId} {args:List Value} {w0:World} {H:List Blk} {R R' :Value→List Blk→Prop} (h:FnIn P f args w0 H R) (hr: ∀ v H,R v H→ ∃ H',MSub H' H∧R' v H'):FnIn P f args w0 H R' :=
 fun w hm=>Calls.mono (h w hm) fun _ _ ⟨v,H',h1,h2,h3⟩=>let ⟨H2,h4,h5⟩:=hr v H' h3;⟨v,H2,h1,h4.use h2,h5⟩
theorem MSub.of_perm {H H' :List Blk} (h:H'.Perm H):MSub H H' :=⟨[],by simpa using h⟩
end Go.SL
namespace Go.SL
open Go Go.Proofs
attribute [local irreducible] W WL WQ WG WA WX WLI WR WT WC VOp RW thn blk bp scp aR ba bE aF FnIn FnP ceP pY jT mB
theorem dQ {w0:World} {s:az} {H:List Blk} {ty t' :TypeId} {x y:Operand} {a b:Rf} {c:Bool} (h:decide (a≠b)=c) (hx:ev s x=some (.agg (aS a).toArray)) (hy:ev s y=some (.agg (aS b).toArray)):VOp Tryz.prog w0 s H (.binOp .neq 50 x y t') ty (.bool c):=by
 have h1:=Pd (w0:=w0) (H:=H) (ty:=ty) (t' :=t') hx hy
 rw [HQ] at h1
 rw [← h]
 have e:(!decide (a=b))=decide (a≠b):=by simp
 rwa [e] at h1
end Go.SL
namespace Go.SL
open Go Go.RowKit
theorem pK {p:Prop} (h:p:=by (repeat first|exact .hd|apply Sel.tl|apply In.tl);(first|done|fail)):p:=h
theorem sB {p:Prop} (h:p:=by (repeat (first|exact Sub.nil _|refine Sub.cons rfl ?_));(first|done|fail)):p:=h
theorem mS {p:Prop} (h:p:=by (repeat (first|exact MSub.nil _|refine MSub.pick (by (repeat first|exact .hd|apply Sel.tl|apply In.tl)) ?_|exact MSub.refl _|refine MSub.drop .hd ?_));(first|done|fail)):p:=h
theorem vC {P:Program} {w0:World} {s:az} {H:List Blk} {op:Op} {ty:TypeId} {v:Value} (h:VOp P w0 s H op ty v:=by
 first
 |((with_reducible apply O8);exact rfl)
 |((with_reducible apply BR);exact rfl)
 |((with_reducible apply Qh);exact rfl)
 |((with_reducible apply Kz);exact rfl)
 |((with_reducible apply vD);exact rfl)
 |((with_reducible apply gP);exact rfl;exact pK;exact rfl)
 |((with_reducible apply KA);exact rfl;exact rfl)
 |((with_reducible apply v_neqb);exact rfl;exact rfl)
 |((with_reducible apply iG);exact rfl;exact rfl)
 |((with_reducible apply jo);exact rfl;exact rfl)
 |((with_reducible apply BN);exact rfl;exact pK;exact rfl)
 |((with_reducible apply BP);exact rfl;exact pK;exact rfl;exact rfl)
 |((with_reducible apply Nc);(iterate 3 exact rfl))
 |((with_reducible apply BL);(iterate 3 exact rfl))
 |((with_reducible apply iO);exact rfl)
 |((with_reducible apply M6);exact rfl)
 |((with_reducible apply v_neqpn);exact rfl)):VOp P w0 s H op ty v:=h
theorem vC2 {P:Program} {w0:World} {s:az} {H:List Blk} {op:Op} {ty:TypeId} {v:Value} (h:VOp P w0 s H op ty v:=by
 first
 |((with_reducible apply bf);exact rfl;exact rfl;(first|assumption|omega))
 |((with_reducible apply Pf);exact rfl;exact rfl;(first|assumption|omega))
 |((with_reducible apply fV);(iterate 3 exact rfl);(first|assumption|omega))
 |((with_reducible apply vw);exact rfl;exact rfl;(first|assumption|omega))
 |((with_reducible apply MX);exact rfl;exact rfl;(first|assumption|omega))
 |((with_reducible apply EH);exact rfl;exact rfl;(first|assumption|omega))
 |((with_reducible apply bf (j:=4));exact rfl;exact rfl;(first|assumption|omega))
 |((with_reducible apply EH (hi:=4));exact rfl;exact rfl;(first|assumption|omega))
 |((with_reducible apply vw (lo:=1));exact rfl;exact rfl;(first|assumption|omega))
 |((with_reducible apply Iz);(iterate 3 exact rfl))
 |((with_reducible apply Iy);(iterate 3 exact rfl))):VOp P w0 s H op ty v:=h
theorem vA {P:Program} {w0:World} {s:az} {H:List Blk} {op:Op} {ty:TypeId} {v:Value} (h:VOp P w0 s H op ty v:=by
 first
 |((with_reducible apply gJ);exact rfl;exact rfl;(simp only [maxLen] at*;omega))
 |((with_reducible apply GY);exact rfl;exact rfl;(simp only [maxLen] at*;omega))
 |((with_reducible apply dO);exact rfl;exact rfl;(simp only [maxLen] at*;omega))
 |((with_reducible apply eC);exact rfl;exact rfl;omega;(simp only [maxLen] at*;omega))
 |((with_reducible apply lg);exact rfl;exact rfl;omega;(simp only [maxLen] at*;omega))
 |((with_reducible apply EK);exact rfl;exact rfl)):VOp P w0 s H op ty v:=h
theorem vI {P:Program} {w0:World} {s:az} {H:List Blk} {op:Op} {ty:TypeId} {v:Value} (h:VOp P w0 s H op ty v:=by
 first
 |((with_reducible apply lI);exact rfl;exact rfl;exact ⟨by omega,by omega⟩)
 |((with_reducible apply Kv);exact rfl;exact rfl;exact ⟨by omega,by omega⟩)
 |((with_reducible apply yC);exact rfl;exact rfl;exact ⟨by omega,by omega⟩)):VOp P w0 s H op ty v:=h
theorem vR {P:Program} {w0:World} {s:az} {H:List Blk} {op:Op} {ty:TypeId} {v:Value} (h:VOp P w0 s H op ty v:=by
 first
 |((with_reducible apply aj);exact rfl;exact rfl;(first|assumption|omega))
 |((with_reducible apply aC);exact rfl;assumption;exact rfl)
 |((with_reducible apply fE);exact rfl;assumption)
 |((with_reducible apply dE);exact rfl;assumption;exact rfl)):VOp P w0 s H op ty v:=h
theorem sT {p q:Prop} (k:q) (h:q→p:=by
 first
 |(with_reducible first|exact mZ|exact Qm|exact P8|exact Ks|exact P9|exact O3|exact O6|exact MV|exact Qk|exact Qn|exact QF|exact QD|exact QG|exact cut_r|exact cut_e)
 |(intro k;(with_reducible apply ak);exact rfl;exact vC;exact k)
 |(intro k;(with_reducible apply MN);exact rfl;exact rfl;exact k)
 |(intro k;(with_reducible apply Kg);(iterate 4 exact rfl);exact k)
 |(intro k;(with_reducible apply Kf);(iterate 3 exact rfl);exact k)
 |(intro k;(with_reducible apply xN);exact rfl;exact rfl;exact pK;(iterate 3 exact rfl);exact k)
 |(intro k;(with_reducible apply Bu);exact rfl;exact rfl;exact pK;(iterate 4 exact rfl);exact k)
 |(intro k;(with_reducible apply BI);exact rfl;exact k)
 |(intro k;(with_reducible apply zL);exact rfl;exact k)
 |(intro k;(with_reducible apply QC);exact rfl;exact k)):p:=h k
theorem sM {p:Prop} {q:Nat→Prop} (k: ∀ g,q g) (h:(∀ g,q g)→p:=by
 first
 |(intro k;(with_reducible apply MO);exact rfl;exact rfl;exact k)
 |(intro k;(with_reducible apply MP);(iterate 3 exact rfl);exact k)
 |(intro k;(with_reducible apply Kl);exact rfl;exact k)
 |(intro k;(with_reducible apply xO);(iterate 7 exact rfl);exact k)):p:=h k
theorem sT2 {p q:Prop} (k:q) (h:q→p:=by exact ak rfl vC2):p:=h k
theorem sQ2 {p q:Prop} (k:q) (h:q→p:=by exact aK rfl vC2):p:=h k
theorem sS {p q:Prop} (k:q) (h:q→p:=by with_reducible first|exact MS|exact MT|exact scp_n|exact Qp|exact scp_e):p:=h k
theorem sP {p q:Prop} (k:q) (h:q→p:=by with_reducible first|exact Ql|exact QE|exact QB|exact scp_p):p:=h k
theorem sC {p q1 q2 r1 r2:Prop} (k1:q1→q2) (k2:r1→r2) (h:(q1→q2)→(r1→r2)→p:=by
 intro k1 k2
 first
 |((with_reducible apply Ii);exact rfl;exact rfl;exact fun hb=>k1 (Tidy.out hb);exact fun hb=>k2 (Tidy.out hb))
 |((with_reducible apply O7);exact rfl;exact fun hb=>k1 (Tidy.out hb);exact fun hb=>k2 (Tidy.out hb))):p:=h k1 k2
theorem cT {p:Prop} (h:p:=by (with_reducible apply cG (i:=()))<;>first|exact trivial|((repeat (first|exact Sub.nil _|refine Sub.cons rfl ?_));done)|((repeat (first|exact MSub.nil _|refine MSub.pick (by (repeat first|exact .hd|apply Sel.tl|apply In.tl)) ?_|exact MSub.refl _|refine MSub.drop .hd ?_));done)|fail):p:=h
theorem sQ {p q:Prop} (k:q) (h:q→p:=by
 first
 |(with_reducible exact OX)
 |(intro k;(with_reducible apply aK);exact rfl;exact vC;exact k)
 |(intro k;(with_reducible apply MJ);exact rfl;exact rfl;exact k)
 |(intro k;(with_reducible apply J9);(iterate 4 exact rfl);exact k)
 |(intro k;(with_reducible apply wq_gno_u);(iterate 3 exact rfl);exact k)):p:=h k
theorem sCQ {p q1 q2 r1 r2:Prop} (k1:q1→q2) (k2:r1→r2) (h:(q1→q2)→(r1→r2)→p:=by
 intro k1 k2
 first
 |((with_reducible apply H9);exact rfl;exact rfl;exact fun hb=>k1 (Tidy.out hb);exact fun hb=>k2 (Tidy.out hb))):p:=h k1 k2
theorem sD {p q:Prop} (k:q) (h:q→p:=by intro k;(with_reducible apply ib);kernel_rfl;kernel_rfl;exact k):p:=h k
theorem sN {p q:Prop} (k:q) (h:q→p:=by exact ak rfl vA):p:=h k
theorem sNQ {p q:Prop} (k:q) (h:q→p:=by exact aK rfl vA):p:=h k
theorem sJ {p q:Prop} (k:q) (h:q→p:=by exact ak rfl vI):p:=h k
theorem sJQ {p q:Prop} (k:q) (h:q→p:=by exact aK rfl vI):p:=h k
theorem sJG {p q:Prop} (k:q) (h:q→p:=by exact BC (f:=60) rfl (by decide+kernel) rfl vI):p:=h k
theorem sO {p q:Prop} (k:q) (h:q→p:=by exact ak rfl vR):p:=h k
theorem sOQ {p q:Prop} (k:q) (h:q→p:=by exact aK rfl vR):p:=h k
theorem sG {p q:Prop} (k:q) (h:q→p:=by
 first
 |(with_reducible exact zH)
 |(intro k;(with_reducible apply BB);exact rfl;(intro D ht;exact vC);exact fun _=>rfl;exact k)
 |exact ED _ _ rfl rfl (fun D=> .hd) rfl rfl rfl (fun _=>SZ rfl) (fun D ht=> .refl _)
 |(intro k;(with_reducible apply BC (f:=60));exact rfl;decide+kernel;exact rfl;exact vC;exact k)):p:=h k
theorem sX {p q:Prop} (k:q) (h:q→p:=by
 first
 |(with_reducible exact OU)
 |(intro k;(with_reducible apply Bn);(iterate 3 exact rfl);(intro D ht;exact vC);exact fun _=>rfl;exact k)
 |(intro k;(with_reducible apply wx_gno);(iterate 3 exact rfl);exact fun _=>rfl;exact k)):p:=h k
theorem sCX {p q1 q2 r1 r2:Prop} (k1:q1→q2) (k2:r1→r2) (h:(q1→q2)→(r1→r2)→p:=by
 intro k1 k2
 first
 |((with_reducible apply wx_gsplit);exact rfl;exact rfl;exact fun hb=>k1 (Tidy.out hb);exact fun hb=>k2 (Tidy.out hb))):p:=h k1 k2
theorem sXO {p q:Prop} (k:q) (h:q→p:=by exact Bn rfl rfl rfl (fun D ht=>vR) (fun _=>rfl)):p:=h k
theorem sBG {p q:Prop} (k:q) (h:q→p:=by with_reducible first|exact wl_app_c|exact wl_app_n):p:=h k
theorem sI {p q:Prop} (k:q) (h:q→p:=by first|(with_reducible exact ML)|(intro k;(with_reducible apply Kb);exact rfl;exact rfl;exact vC;exact k)):p:=h k
theorem sR {p q:Prop} (k:q) (h:q→p:=by
 first
 |(with_reducible first|exact OW|exact wr_ret|exact wr_exit|exact MI|exact J8|exact J7|exact qG|exact wt_seq_c|exact wt_seq_b|exact wt_seq_k|exact wt_last_r|exact Bp|exact H7|exact JE|exact JD)
 |(intro k;(with_reducible apply wr_cond_true);exact rfl;exact k)
 |(intro k;(with_reducible apply wr_cond_false);exact rfl;exact k)
 |(intro k;(with_reducible apply H8);exact rfl;(repeat (first|exact IZ|exact Gj|apply PK|apply PL|apply no_cut));exact k)):p:=h k
theorem sCR {p q1 q2 r1 r2:Prop} (k1:q1→q2) (k2:r1→r2) (h:(q1→q2)→(r1→r2)→p:=by
 intro k1 k2
 first
 |((with_reducible apply wr_cond);exact rfl;exact fun hb=>k1 (Tidy.out hb);exact fun hb=>k2 (Tidy.out hb))):p:=h k1 k2
theorem sW {p q:Prop} (k:q) (h:q→p:=by
 first
 |(with_reducible exact O0)
 |(intro k;(with_reducible apply dm);(iterate 3 exact rfl);exact vC;exact k)
 |(intro k;(with_reducible apply O1);(iterate 3 exact rfl);exact k)
 |(intro k;(with_reducible apply wc_gno0);exact rfl;exact k)
 |(intro k;(with_reducible apply QM);exact rfl;exact rfl;exact k)
 |(intro k;(with_reducible apply QL);(iterate 4 exact rfl);exact vC;exact k)
 |(intro k;(with_reducible apply Gf);exact mS;exact k)):p:=h k
theorem sW2 {p q:Prop} (k:q) (h:q→p:=by exact dm rfl rfl rfl vC2):p:=h k
theorem sWN {p q:Prop} (k:q) (h:q→p:=by exact dm rfl rfl rfl vA):p:=h k
theorem sWJ {p q:Prop} (k:q) (h:q→p:=by exact dm rfl rfl rfl vI):p:=h k
theorem sCW {p q1 q2 r1 r2:Prop} (k1:q1→q2) (k2:r1→r2) (h:(q1→q2)→(r1→r2)→p:=by
 intro k1 k2
 first
 |((with_reducible apply Iq);exact rfl;exact rfl;exact fun hb=>k1 (Tidy.out hb);exact fun hb=>k2 (Tidy.out hb))):p:=h k1 k2
theorem sG2 {p q:Prop} (k:q) (h:q→p:=by first|exact BB rfl (fun D ht=>vC2) (fun _=>rfl)|exact BC (f:=60) rfl (by decide+kernel) rfl vC2):p:=h k
theorem sX2 {p q:Prop} (k:q) (h:q→p:=by exact Bn rfl rfl rfl (fun D ht=>vC2) (fun _=>rfl)):p:=h k
theorem eIO {p:Prop} (h:p:=by first|exact .inl rfl|exact .inr rfl):p:=h
theorem rT0 {p q:Prop} (k:q) (h:q→p:=by intro k;(with_reducible apply gC);exact .inl rfl;exact rfl;exact MSub.nil _;exact k):p:=h k
theorem rT1 {p q:Prop} (k:q) (h:q→p:=by intro k;(with_reducible apply cA);exact .inl rfl;exact rfl;exact rfl;exact MSub.nil _;exact k):p:=h k
theorem rT2 {p q:Prop} (k:q) (h:q→p:=by intro k;(with_reducible apply dS);exact .inl rfl;(iterate 3 exact rfl);exact MSub.nil _;exact k):p:=h k
theorem rT3 {p q:Prop} (k:q) (h:q→p:=by intro k;(with_reducible apply li);exact .inl rfl;(iterate 4 exact rfl);exact MSub.nil _;exact k):p:=h k
theorem eRC {p q:Prop} (k:q) (h:q→p:=by first|exact vZ (.inl rfl) rfl rfl pK rfl (MSub.nil _)|exact vZ (.inr rfl) rfl rfl pK rfl (MSub.nil _)):p:=h k
theorem jb {p q:Prop} (k:q) (h:q→p:=by first|exact tS (.inl rfl) rfl rfl pK rfl rfl (MSub.nil _)|exact tS (.inr rfl) rfl rfl pK rfl rfl (MSub.nil _)):p:=h k
theorem cL {p q:Prop} (k:q) (h:q→p:=by first|exact fY (.inl rfl) rfl rfl pK rfl rfl rfl (MSub.nil _)|exact fY (.inr rfl) rfl rfl pK rfl rfl rfl (MSub.nil _)):p:=h k
theorem nP {p:Prop} (h:p:=by (repeat (first|exact PH|apply PG|apply PJ|apply PI));(first|done|fail)):p:=h
theorem vP {P:Program} {w0:World} {s:az} {H:List Blk} {op:Op} {ty:TypeId} {v:Value} (h:VOp P w0 s H op ty v:=by
 first|exact vC|((with_reducible apply lg);exact rfl;exact rfl;omega;omega)|((with_reducible apply BK);exact rfl;exact rfl;omega)):VOp P w0 s H op ty v:=h
end Go.SL
namespace Go.SL
open Go Go.Proofs
attribute [local irreducible] W WL WQ WG VOp thn blk aR aF FnIn
set_option maxRecDepth 10000 in
theorem j6 (c r:Int) (w:World):aA Tryz.prog 71 [.agg #[.int .i64 c,.int .i64 r]] w (.bool (valid c r)):=by
 refine aq Tryz.func71 rfl Tryz.ntmps71 rfl ?_
 repeat' (first|refine sT ?_|refine sM fun _=> ?_|(refine sC ?_ ?_<;>intro hb<;>try omega)|fail)
 all_goals ((refine rT1 ?_);((try simp only [← Int.not_lt] at*);simp_all [valid, -Int.not_lt, -Int.not_le,← Int.not_lt]))
set_option maxRecDepth 10000 in
theorem Gb (r:Rct) (w:World):aA Tryz.prog 135 [.agg (bL r).toArray] w (.tuple #[.agg #[.int .i64 r.c1,.int .i64 r.r1],.agg #[.int .i64 r.c2,.int .i64 r.r2]]):=by
 refine aq Tryz.func135 rfl Tryz.ntmps135 rfl ?_
 repeat' (first|refine sT ?_|refine sM fun _=> ?_|(refine sC ?_ ?_<;>intro hb<;>try omega)|fail)
 rename_i g1 g2 g3
 refine uR (fun D=> [.box g2 50 [.int .i64 (bif D 10 then r.c1 else 0),.int .i64 (bif D 10 then r.r1 else 0)],.box g3 50 [.int .i64 (bif D 11 then r.c2 else 0),.int .i64 (bif D 11 then r.r2 else 0)],.box g1 32 (bL r)]) (by kernel_rfl) (by kernel_rfl) (.pick (.tl .hd) (.pick .hd (.refl _))) ?_
 repeat' (first|refine sT ?_|refine sG ?_|refine sM fun _=> ?_|(refine sC ?_ ?_<;>intro hb<;>try omega)|fail)
 refine ED _ _ rfl rfl (fun D=> .tl .hd) rfl rfl rfl (fun _=>Re _) (fun D ht=> .pick (.tl .hd) (.pick .hd (.refl _))) ?_
 refine zH fun D hD=> ?_
 have h10:=hD 10 (by decide)
 have h11:=hD 11 (by decide)
 simp only [h10,h11,cond_true]
 repeat' (first|refine sT ?_|refine sM fun _=> ?_|(refine sC ?_ ?_<;>intro hb<;>try omega)|fail)
 refine Qq (.inl rfl) Tryz.results135 rfl .hd rfl rfl (.tl .hd) rfl (MSub.nil _) ?_
 rfl
set_option maxRecDepth 10000 in
theorem kO (r:Rct) (w:World):aA Tryz.prog 93 [.agg (bL r).toArray] w (.int .i64 (gV r)):=by
 refine aq Tryz.func93 rfl Tryz.ntmps93 rfl ?_
 repeat' (first|(apply aa;exact rfl;exact rfl;(intro w hm;exact Gb r w))|(apply aa;exact rfl;exact rfl;(intro w hm;exact j6 r.c1 r.r1 w))|(apply aa;exact rfl;exact rfl;(intro w hm;exact j6 r.c2 r.r2 w))|refine sT ?_|refine sM fun _=> ?_|(refine sC ?_ ?_<;>intro hb<;>try omega)|fail)
 all_goals ((refine rT1 ?_);((try simp only [← Int.not_lt] at*);simp_all [gV,aO, -Int.not_lt, -Int.not_le,← Int.not_lt]))
set_option maxRecDepth 10000 in
theorem LO (fn:Int) (w:World):aA Tryz.prog 357 [.int .u8 fn] w (.bool (cO fn)):=by
 refine aq Tryz.func357 rfl Tryz.ntmps357 rfl ?_
 repeat' (first|refine sT ?_|refine sM fun _=> ?_|(refine sC ?_ ?_<;>intro hb<;>try omega)|fail)
 all_goals ((refine rT1 ?_);((try simp only [← Int.not_lt] at*);simp_all [cO, -Int.not_lt, -Int.not_le,← Int.not_lt]))
set_option maxRecDepth 10000 in
theorem tT (fn:Int) (w:World):aA Tryz.prog 338 [.int .u8 fn] w (.bool (iR fn)):=by
 refine aq Tryz.func338 rfl Tryz.ntmps338 rfl ?_
 repeat' (first|refine sT ?_|refine sM fun _=> ?_|(refine sC ?_ ?_<;>intro hb<;>try omega)|fail)
 all_goals ((refine rT1 ?_);((try simp only [← Int.not_lt] at*);simp_all [iR, -Int.not_lt, -Int.not_le,← Int.not_lt]))
set_option maxRecDepth 10000 in
theorem Mr (n:Nd) (w:World):aA Tryz.prog 306 [.agg (bN n).toArray] w (.int .i64 (below n)):=by
 refine aq Tryz.func306 rfl Tryz.ntmps306 rfl ?_
 repeat' (first|refine sT ?_|refine sM fun _=> ?_|(refine sC ?_ ?_<;>intro hb<;>try omega)|fail)
 all_goals ((refine rT1 ?_);simp_all [below])
set_option maxRecDepth 10000 in
theorem xD (fn:Int) (w:World):aA Tryz.prog 336 [.int .u8 fn] w (.tuple #[.int .i64 (eR fn).1,.int .i64 (eR fn).2.1,.int .i64 (eR fn).2.2]):=by
 refine aq Tryz.func336 rfl Tryz.ntmps336 rfl ?_
 repeat' (first|(apply aa;exact rfl;exact rfl;(intro w hm;exact LO fn w))|refine sT ?_|refine sM fun _=> ?_|(refine sC ?_ ?_<;>intro hb<;>try omega)|fail)
 all_goals ((refine rT3 ?_);simp_all [eR])
set_option maxRecDepth 10000 in
theorem GJ (fn i:Int) (w:World):aA Tryz.prog 337 [.int .u8 fn,.int .i64 i] w (.tuple #[.bool (j0 fn i).1,.int .i64 (j0 fn i).2]):=by
 refine aq Tryz.func337 rfl Tryz.ntmps337 rfl ?_
 repeat' (first|(apply aa;exact rfl;exact rfl;(intro w hm;exact xD fn w))|(apply aa;exact rfl;exact rfl;(intro w hm;exact tT fn w))|refine sT ?_|refine sM fun _=> ?_|(refine sC ?_ ?_<;>intro hb<;>try omega)|fail)
 all_goals ((refine rT2 ?_);((try simp only [← Int.not_lt] at*);simp_all [j0, -Int.not_lt, -Int.not_le,← Int.not_lt]))
end Go.SL
namespace Go.SL
open Go Go.Proofs
attribute [local irreducible] W WL WQ WG WA VOp thn blk aR aF FnIn
def dr:List ByteArray:= [
 ⟨#[65,66,83]⟩,⟨#[83,73,71,78]⟩,⟨#[73,78,84]⟩,⟨#[84,82,85,78,67]⟩,⟨#[82,79,85,78,68]⟩,
 ⟨#[77,79,68]⟩,⟨#[80,79,87,69,82]⟩,⟨#[83,81,82,84]⟩,⟨#[83,85,77]⟩,⟨#[80,82,79,68,85,67,84]⟩,
 ⟨#[67,79,85,78,84]⟩,⟨#[67,79,85,78,84,65]⟩,⟨#[67,79,85,78,84,66,76,65,78,75]⟩,⟨#[65,86,69,82,65,71,69]⟩,⟨#[77,73,78]⟩,
 ⟨#[77,65,88]⟩,⟨#[77,69,68,73,65,78]⟩,⟨#[76,65,82,71,69]⟩,⟨#[83,77,65,76,76]⟩,⟨#[73,70]⟩,
 ⟨#[65,78,68]⟩,⟨#[79,82]⟩,⟨#[88,79,82]⟩,⟨#[78,79,84]⟩,⟨#[73,70,69,82,82,79,82]⟩,
 ⟨#[73,83,69,82,82,79,82]⟩,⟨#[73,83,66,76,65,78,75]⟩,⟨#[73,83,78,85,77,66,69,82]⟩,⟨#[73,83,84,69,88,84]⟩,⟨#[67,72,79,79,83,69]⟩,
 ⟨#[76,69,78]⟩,⟨#[76,69,70,84]⟩,⟨#[82,73,71,72,84]⟩,⟨#[77,73,68]⟩,⟨#[85,80,80,69,82]⟩,
 ⟨#[76,79,87,69,82]⟩,⟨#[84,82,73,77]⟩,⟨#[67,79,78,67,65,84]⟩,⟨#[82,69,80,84]⟩,⟨#[69,88,65,67,84]⟩,
 ⟨#[70,73,78,68]⟩,⟨#[86,65,76,85,69]⟩,⟨#[73,78,68,69,88]⟩,⟨#[77,65,84,67,72]⟩,⟨#[67,79,85,78,84,73,70]⟩,
 ⟨#[68,83,85,77]⟩,⟨#[68,67,79,85,78,84]⟩,⟨#[68,65,86,71]⟩,⟨#[68,77,73,78]⟩,⟨#[68,77,65,88]⟩]
theorem LC (w:World):aA Tryz.prog 374 [] w (.agg (dr.map Value.string).toArray):=by
 refine aq Tryz.func374 rfl Tryz.ntmps374 rfl ?_
 repeat' (first|(apply Bz;(iterate 5 exact rfl))|refine sT ?_|refine sM fun _=> ?_|(refine sC ?_ ?_<;>intro hb<;>try omega)|fail)
 exact vZ (.inl rfl) Tryz.results374 rfl .hd rfl (MSub.nil _) rfl
theorem Ro.str1 {w:World} {g o:Nat} {L:List ByteArray} (h:Ro w g o (L.map Value.string)) (i:Nat) (hi:i<L.length):Ro w g (o+i*1) [Value.string L[i]]:=by
 have h1:=(h.drop (k:=i)).take (k:=1)
 rw [← List.map_drop,← List.map_take,Rc hi] at h1
 rw [SN]
 exact h1
def eD:List ByteArray→ByteArray→Int→Int
 | [],_,_=> -1
 |a::r,s,i=>if s=a then i else eD r s (i+1)
theorem ME (L:List ByteArray) (b:ByteArray) (tv:Value) (w:World) (ht:Reads w tv L.length (L.map Value.string)):aA Tryz.prog 375 [tv,.string b] w (.int .i64 (eD L b 0)):=by
 obtain ⟨Al,cl,rfl,hl1,hl2,hl3⟩:=ht
 refine aq Tryz.func375 rfl Tryz.ntmps375 rfl ?_
 repeat' (first|refine sT ?_|refine sM fun _=> ?_|(refine sC ?_ ?_<;>intro hb<;>try omega)|fail)
 refine fD (fun i:Nat=> [(0,.slice Al L.length cl),(1,.string b),(7,.int .i64 (L.length:Int)),(8,.int .i64 (i:Int))]) (fun _=> []) (fun i=>i≤L.length∧eD L b 0=eD (L.drop i) b (i:Int)) (fun i=>L.length - i) 0 ⟨by omega,rfl⟩ ?_ ?_ ?_
 ·
  exact sB
 ·
  exact mS
 ·
  rintro i ⟨hi,hrec⟩
  by_cases hlt:i<L.length
  ·
   obtain ⟨gl,ol,rfl,hrl⟩:=hl3 (by omega)
   have he:=hrl.str1 i hlt
   rw [Rc hlt,eD] at hrec
   repeat' (first|(apply ak;exact rfl;apply aj;exact rfl;exact rfl;exact hlt)|(apply ak;exact rfl;apply fE;exact rfl;exact he)|(apply ak;exact rfl;apply gJ;exact rfl;exact rfl;(simp only [maxLen] at*;omega))|refine sT ?_|refine sM fun _=> ?_|(refine sC ?_ ?_<;>intro hb<;>try omega)|fail)
   ·
    (refine rT1 ?_)
    rw [hrec,if_pos hb]
   ·
    refine ⟨i+1,⟨by omega,?_⟩,by omega,?_,?_⟩
    ·
     rw [hrec,if_neg hb]
     rfl
    ·
     exact sB
    ·
     exact mS
  ·
   have e:i=L.length:=by omega
   subst e
   repeat' (first|refine sT ?_|refine sM fun _=> ?_|(refine sC ?_ ?_<;>intro hb<;>try omega)|fail)
   (refine rT1 ?_)
   rw [hrec,RK,eD]
theorem ji:dr.length=50:=rfl
theorem jl (L:List ByteArray) (b:ByteArray) (i:Int) (h:0≤i):eD L b i= -1∨(i≤eD L b i∧eD L b i<i+L.length):=by
 induction L generalizing i with
 |nil=>exact .inl rfl
 |cons a r ih=>
  unfold eD
  rw [Rx]
  split
  ·
   right;omega
  ·
   rcases ih (i+1) (by omega) with h1|h1
   ·
    exact .inl h1
   ·
    right;omega
def bg (b:ByteArray):Int × Int:=if eD dr b 0<0 then (0,6) else (eD dr b 0+1,0)
theorem Ek (b:ByteArray) (w:World):aA Tryz.prog 370 [.string b] w (.tuple #[.int .u8 (bg b).1,.int .i64 (bg b).2]):=by
 refine aq Tryz.func370 rfl Tryz.ntmps370 rfl ?_
 have hb1:=jl dr b 0 (by omega)
 rw [ji] at hb1
 have hix:=fun w tv (h:Reads w tv (dr.map Value.string).length (dr.map Value.string))=>ME dr b tv w h
 unfold bg
 generalize eD dr b 0=r at hb1 hix
 repeat' (first|(apply aa;exact rfl;exact rfl;(intro w hm;exact LC w))|(apply ak;exact rfl;apply BJ;exact rfl)|(apply aa;exact rfl;exact rfl;(intro w' hm;exact hix w' _ (Reads.of_box hm pK rfl)))|(apply ak;exact rfl;apply eG;exact rfl;exact rfl;exact I64.wrap ⟨by omega,by omega⟩)|(apply ak;exact rfl;apply yF;exact rfl;exact wrap_u8 (by omega) (by omega))|refine sT ?_|refine sM fun _=> ?_|(refine sC ?_ ?_<;>intro hb<;>try omega)|fail)
 ·
  refine dS (.inl rfl) Tryz.results370 rfl rfl (.nil _) ?_
  rw [if_pos hb]
 ·
  refine dS (.inl rfl) Tryz.results370 rfl rfl (.nil _) ?_
  rw [if_neg (by omega)]
theorem iW {L:List Nd} {i:Nat} (h:i<L.length):iX L i=L[i].kind:=by simp [iX,h]
set_option maxHeartbeats 1000000 in
theorem NV (L:List Nd) (n:Nd) (ps:List Pt) (tv lv:Value) (w:World) (ht:Reads w tv L.length (L.flatMap bN)) (hp:Reads w lv ps.length (ps.flatMap tE)) (hroot: ∀ p∈ps,p.root<L.length) (hlen:ps.length≤1000000):
  aA Tryz.prog 307 [tv,.agg (bN n).toArray,lv] w (.bool (dU L n 0 ps)):=by
 obtain ⟨At,ct,rfl,ht1,ht2,ht3⟩:=ht
 obtain ⟨Al,cl,rfl,hl1,hl2,hl3⟩:=hp
 refine aq Tryz.func307 rfl Tryz.ntmps307 rfl ?_
 repeat' (first|refine sT ?_|refine sM fun _=> ?_|(refine sC ?_ ?_<;>intro hb<;>try omega)|fail)
 rename_i gn
 refine fD (fun i:Nat=> [(0,.slice At L.length ct),(4,.pointer (some ⟨gn,0,none⟩)),(11,.slice Al ps.length cl),(12,.int .i64 (ps.length:Int)),(13,.int .i64 (i:Int))])
  (fun i=> [.box gn 293 (bN n)]) (fun i=>i≤ps.length∧dU L n 0 ps=dU L n (i:Int) (ps.drop i)) (fun i=>ps.length - i) 0 ⟨by omega,rfl⟩ ?_ ?_ ?_
 ·
  exact sB
 ·
  exact mS
 ·
  rintro i ⟨hi,hrec⟩
  by_cases hlt:i<ps.length
  ·
   obtain ⟨g,o,rfl,hro⟩:=hl3 (by omega)
   have hrp:=hro.elem oG i hlt
   have hr0:=hroot ps[i] (RN hlt)
   obtain ⟨gt,ot,rfl,hrt⟩:=ht3 (by omega)
   have hrn:=hrt.elem dJ ps[i].root hr0
   rw [Rc hlt,dU,tC,iW hr0] at hrec
   repeat' (first|(apply ak;exact rfl;apply aj;exact rfl;exact rfl;first|exact hlt|exact hr0)|(apply ak;exact rfl;apply aC;exact rfl;exact hrp;exact rfl)|(apply ak;exact rfl;apply dE;exact rfl;exact hrn;exact rfl)|(apply ak;exact rfl;apply lI;exact rfl;exact rfl;(constructor<;>omega))|(apply aa;exact rfl;exact rfl;(intro w hm;exact GJ n.fn (i:Int) w))|(apply aa;exact rfl;exact rfl;(intro w hm;exact tT n.fn w))|refine sT ?_|refine sM fun _=> ?_|(refine sC ?_ ?_<;>intro hb<;>try omega)|fail)
   all_goals first
    |((refine rT1 ?_);rw [hrec];simp_all [Da];done)
    |(refine ⟨i+1,⟨by omega,?_⟩,by omega,?_,?_⟩;(focus (rw [hrec,Int.natCast_add];simp [Da, *]));(focus exact sB);(focus exact mS))
  ·
   have e:i=ps.length:=by omega
   subst e
   rw [RK,dU] at hrec
   repeat' (first|refine sT ?_|refine sM fun _=> ?_|(refine sC ?_ ?_<;>intro hb<;>try omega)|fail)
   (refine rT1 ?_)
   rw [hrec]
end Go.SL
namespace Go.SL
open Go Go.Proofs
attribute [local irreducible] W WL WQ WG WA VOp thn blk bp aR aF FnIn
def jO (n:Nd):Bool:=decide (n.kind=2)||decide (n.kind=3)
theorem I2 (n:Nd) (w:World):aA Tryz.prog 291 [.agg (bN n).toArray] w (.bool (jO n)):=by
 refine aq Tryz.func291 rfl Tryz.ntmps291 rfl ?_
 repeat' (first|refine sT ?_|refine sM fun _=> ?_|(refine sC ?_ ?_<;>intro hb<;>try omega)|fail)
 all_goals
  (refine rT1 ?_)
  simp [jO, *]
theorem Mi (r:Rct):(bL r).length=4:=rfl
theorem PW (L:List Rct) (lv:Value) (w:World) (hl:Reads w lv L.length (L.flatMap bL)):aA Tryz.prog 229 [lv] w (.bool (L.all aO)):=by
 obtain ⟨Al,cl,rfl,hl1,hl2,hl3⟩:=hl
 refine aq Tryz.func229 rfl Tryz.ntmps229 rfl ?_
 repeat' (first|refine sT ?_|refine sM fun _=> ?_|(refine sC ?_ ?_<;>intro hb<;>try omega)|fail)
 refine fD (fun i:Nat=> [(5,.slice Al L.length cl),(6,.int .i64 (L.length:Int)),(7,.int .i64 (i:Int))]) (fun _=> []) (fun i=>i≤L.length∧L.all aO=(L.drop i).all aO) (fun i=>L.length - i) 0 ⟨by omega,rfl⟩ ?_ ?_ ?_
 ·
  exact sB
 ·
  exact mS
 ·
  rintro i ⟨hi,hrec⟩
  by_cases hlt:i<L.length
  ·
   obtain ⟨gl,ol,rfl,hrl⟩:=hl3 (by omega)
   have he1:=hrl.elem Mi i hlt
   rw [Rc hlt,Tw] at hrec
   generalize L[i]=r at hrec he1
   repeat' (first|(apply aa;exact rfl;exact rfl;(intro w hm;exact kO r w))|refine sT ?_|refine sN ?_|refine sO ?_|refine sM fun _=> ?_|(refine sC ?_ ?_<;>intro hb<;>try omega)|fail)
   ·
    (refine rT1 ?_)
    rw [hrec]
    cases hq:aO r<;>simp [gV,hq] at hb ⊢
   ·
    refine ⟨i+1,⟨by omega,?_⟩,by omega,?_,?_⟩
    ·
     rw [hrec]
     cases hq:aO r<;>simp [gV,hq] at hb ⊢
    ·
     exact sB
    ·
     exact mS
  ·
   have e:i=L.length:=by omega
   subst e
   repeat' (first|refine sT ?_|refine sM fun _=> ?_|(refine sC ?_ ?_<;>intro hb<;>try omega)|fail)
   (refine rT1 ?_)
   rw [hrec,RK]
   rfl
def iJ (a b:Rct):Rct:=⟨if a.c1<b.c1 then b.c1 else a.c1,if a.r1<b.r1 then b.r1 else a.r1,if b.c2<a.c2 then b.c2 else a.c2,if b.r2<a.r2 then b.r2 else a.r2⟩
def eL (a b:Rct):Rct × Bool:=if [a,b,iJ a b].all aO=true then (iJ a b,true) else (aN,false)
theorem H4 (a b:Rct) (w:World):aA Tryz.prog 181 [.agg (bL a).toArray,.agg (bL b).toArray] w (.tuple #[.agg (bL (eL a b).1).toArray,.bool (eL a b).2]):=by
 refine aq Tryz.func181 rfl Tryz.ntmps181 rfl ?_
 have hall:=fun (lv:Value) (w:World)=>PW [a,b,iJ a b] lv w
 unfold eL
 generalize [a,b,iJ a b].all aO=q at hall
 repeat' (first|(apply aa;exact rfl;exact rfl;(intro w hm;exact hall _ w (Reads.of_row hm pK)))|refine sT ?_|refine sM fun _=> ?_|(refine sC ?_ ?_<;>intro hb<;>try omega)|fail)
 ·
  refine tS (.inl rfl) Tryz.results181 rfl pK rfl rfl (MSub.nil _) ?_
  simp [hb,aN,bL]
 ·
  refine tS (.inl rfl) Tryz.results181 rfl pK rfl rfl (MSub.nil _) ?_
  simp [hb,iJ,bL]
end Go.SL
namespace Go.SL
open Go Go.Proofs
attribute [local irreducible] W WL WQ WG WA VOp thn blk bp aR aF FnIn WLI WR WT bE pY jT mB
def QS (r:Rct) (u:Us):Bool:=(eL u.rect r).2
end Go.SL
namespace Go.SL
open Go Go.Proofs
attribute [local irreducible] W WL WQ WG WA WX WLI WR WT VOp thn blk bp scp aR bE aF FnIn
theorem kT (c:Int) (w:World):aA Tryz.prog 261 [.int .u8 c] w (.bool (aG c)):=by
 refine aq Tryz.func261 rfl Tryz.ntmps261 rfl ?_
 repeat' (first|refine sT ?_|refine sM fun _=> ?_|(refine sC ?_ ?_<;>intro hb<;>try omega)|fail)
 all_goals ((refine rT1 ?_);((try simp only [← Int.not_lt] at*);simp_all [aG, -Int.not_lt, -Int.not_le,← Int.not_lt]))
theorem rF (c:Int) (w:World):aA Tryz.prog 263 [.int .u8 c] w (.bool (bT c)):=by
 refine aq Tryz.func263 rfl Tryz.ntmps263 rfl ?_
 repeat' (first|refine sT ?_|refine sM fun _=> ?_|(refine sC ?_ ?_<;>intro hb<;>try omega)|fail)
 all_goals ((refine rT1 ?_);(try simp only [← Int.not_lt] at*);simp_all [bT, -Int.not_lt, -Int.not_le,← Int.not_lt];try omega)
theorem Ji (c:Int) (w:World):aA Tryz.prog 300 [.int .u8 c] w (.bool (cV c)):=by
 refine aq Tryz.func300 rfl Tryz.ntmps300 rfl ?_
 repeat' (first|(apply aa;exact rfl;exact rfl;(intro w hm;exact rF c w))|(apply aa;exact rfl;exact rfl;(intro w hm;exact kT c w))|refine sT ?_|refine sM fun _=> ?_|(refine sC ?_ ?_<;>intro hb<;>try omega)|fail)
 all_goals ((refine rT1 ?_);simp_all [cV])
def iT (p:Int→Bool) (l:List Int):List Int:=l.take (aD p l)
theorem CS {p:Int→Bool} {c:Int} {r:List Int} (h:p c=true):iT p (c::r)=c::iT p r:=by simp [iT,aD,h]
theorem CR {p:Int→Bool} {c:Int} {r:List Int} (h:p c=false):iT p (c::r)= []:=by simp [iT,aD,h]
theorem yc (p:Int→Bool) (l:List Int):(iT p l).length=aD p l:=by
 simp [iT,Tb (bY p l)]
set_option maxHeartbeats 1000000 in
theorem I6 (a:ByteArray) (ha:a.size≤1000000) (i0:Nat) (hi0:i0≤a.size) (fis:FuncId) [Callable Tryz.prog fis] (p:Int→Bool) (hf: ∀ c w,aA Tryz.prog fis [.int .u8 c] w (.bool (p c))) (w0:World) (g4 g3 g5:Nat):
  Ov Tryz.prog 330 [.pointer (some ⟨g4,0,none⟩),.pointer (some ⟨g3,0,none⟩),.pointer (some ⟨g5,0,none⟩)] w0 [.box g4 3 [.int .i64 (i0:Int)],.box g3 9 [.string a],.box g5 139 [.func (.func fis) #[] #[]]] (iT p ((ap a).drop i0)) (fun c=> [.int .u8 c]):=by
 intro l I J H0 hy h0
 refine FnIn.msub (H' := [.box g4 3 [.int .i64 (i0:Int)],.box g3 9 [.string a],.box g5 139 [.func (.func fis) #[] #[]]]++H0) ?_ MSub.swap
 refine eQ Tryz.func330 rfl Tryz.ntmps330 rfl ?_
 repeat' (first|refine sT ?_|refine sT2 ?_|refine sM fun _=> ?_|(refine sC ?_ ?_<;>intro hb<;>try omega)|fail)
 refine fD (fun y:Nat × List Int × List Blk=> [(0,.func (.yield l) #[] #[]),(1,.pointer (some ⟨g4,0,none⟩)),(2,.pointer (some ⟨g3,0,none⟩)),(3,.pointer (some ⟨g5,0,none⟩)),(5,.int .i64 (y.1:Int))])
  (fun y=> [.box g4 3 [.int .i64 (i0:Int)],.box g3 9 [.string a],.box g5 139 [.func (.func fis) #[] #[]]]++y.2.2)
  (fun y=>y.1≤a.size∧iT p ((ap a).drop i0)=y.2.1++iT p ((ap a).drop y.1)∧I y.2.1 y.2.2) (fun y=>a.size - y.1) (i0,[],H0) ⟨hi0,rfl,h0⟩ sB (MSub.refl _) ?_
 rintro ⟨i,pre,H1⟩ ⟨hi,hus,hI⟩
 dsimp only at hi hus hI ⊢
 by_cases hlt:i<a.size
 ·
  rw [bk hlt] at hus
  have hfc:=fun w=>hf (bat a i) w
  cases hp:p (bat a i)
  ·
   rw [hp] at hfc
   rw [CR hp,QZ] at hus
   repeat' (first|(apply iM;exact rfl;exact rfl;infer_instance;exact rfl;(intro w' _;exact hfc w'))|refine sT ?_|refine sI ?_|refine sQ ?_|refine sT2 ?_|refine sQ2 ?_|refine sN ?_|refine sNQ ?_|refine sD ?_|refine sM fun _=> ?_|(refine sC ?_ ?_<;>intro hb<;>try omega)|(refine sCQ ?_ ?_<;>intro hb<;>try omega)|fail)
   exact gC (.inr rfl) rfl (.refl _) ⟨H1,.inl (hus ▸ hI),MSub.swap⟩
  ·
   rw [hp] at hfc
   rw [CS hp] at hus
   repeat' (first|(apply iM;exact rfl;exact rfl;infer_instance;exact rfl;(intro w' _;exact hfc w'))|(apply lF (id:=3))|(apply Kb;exact rfl;exact rfl;apply bf;exact rfl;exact rfl;exact hlt)|refine sT ?_|refine sI ?_|refine sQ ?_|refine sT2 ?_|refine sQ2 ?_|refine sN ?_|refine sNQ ?_|refine sD ?_|refine sM fun _=> ?_|(refine sC ?_ ?_<;>intro hb<;>try omega)|(refine sCQ ?_ ?_<;>intro hb<;>try omega)|fail)
   (with_reducible apply jZ)
   ·
    exact rfl
   ·
    exact rfl
   ·
    exact rfl
   ·
    exact MSub.swapN
   ·
    exact fun w hm=>hy pre (bat a i) _ hus H1 [] hI w hm
   intro bb H2 hq
   cases bb
   ·
    repeat' (first|refine sT ?_|refine sI ?_|refine sT2 ?_|refine sM fun _=> ?_|(refine sC ?_ ?_<;>intro hb<;>try omega)|fail)
    exact gC eIO rfl (.refl _) ⟨H2,.inr ⟨_,hq⟩,by rw [QZ];exact .refl _⟩
   ·
    repeat' (first|refine sT ?_|refine sI ?_|refine sT2 ?_|refine sN ?_|refine sM fun _=> ?_|(refine sC ?_ ?_<;>intro hb<;>try omega)|fail)
    refine ⟨(i+1,_,H2),⟨hlt,hus.trans (by rw [List.append_assoc];rfl),hq⟩,(by dsimp only;omega),sB,?_⟩
    exact MSub.swapN'
 ·
  have e:i=a.size:=by omega
  subst e
  have hl:=au a
  rw [RE (i:=a.size) (by omega),show iT p []= [] from rfl,QZ] at hus
  repeat' (first|refine sT ?_|refine sI ?_|refine sQ ?_|refine sT2 ?_|refine sQ2 ?_|refine sN ?_|refine sNQ ?_|refine sD ?_|refine sM fun _=> ?_|(refine sC ?_ ?_<;>intro hb<;>try omega)|(refine sCQ ?_ ?_<;>intro hb<;>try omega)|fail)
  exact gC (.inr rfl) rfl (.refl _) ⟨H1,.inl (hus ▸ hI),MSub.swap⟩
theorem Lg (a:ByteArray) (i0:Nat) (fis:FuncId) (w:World):
  aF Tryz.prog 299 [.string a,.int .i64 (i0:Int),.func (.func fis) #[] #[]] w fun v H=> ∃ g4 g3 g5,v= .func (.func 330) #[] #[.pointer (some ⟨g4,0,none⟩),.pointer (some ⟨g3,0,none⟩),.pointer (some ⟨g5,0,none⟩)]∧H= [.box g4 3 [.int .i64 (i0:Int)],.box g3 9 [.string a],.box g5 139 [.func (.func fis) #[] #[]]]:=by
 refine aq Tryz.func299 rfl Tryz.ntmps299 rfl ?_
 repeat' (first|refine sT ?_|refine sM fun _=> ?_|(refine sC ?_ ?_<;>intro hb<;>try omega)|fail)
 rename_i g3 g4 g5
 exact cA (.inl rfl) rfl rfl (H' := [.box g4 3 [.int .i64 (i0:Int)],.box g3 9 [.string a],.box g5 139 [.func (.func fis) #[] #[]]]) mS ⟨g4,g3,g5,rfl,rfl⟩
set_option maxHeartbeats 1000000 in
theorem tj (a:ByteArray) (ha:a.size≤1000000) (i0:Nat) (hi0:i0≤a.size) (fis:FuncId) [Callable Tryz.prog fis] (p:Int→Bool) (hf: ∀ c w,aA Tryz.prog fis [.int .u8 c] w (.bool (p c))) (w:World):
  aA Tryz.prog 260 [.string a,.int .i64 (i0:Int),.func (.func fis) #[] #[]] w (.int .i64 (aD p ((ap a).drop i0):Int)):=by
 refine oC Tryz.func260 rfl Tryz.ntmps260 (by rfl) ?_
 refine qG ?_
 repeat' (first|(apply ay;exact rfl;exact rfl;(intro w' hm;exact Lg a i0 fis w');(rintro v H' ⟨g4,g3,g5,rfl,rfl⟩))|refine sT ?_|refine sR ?_|refine sM fun _=> ?_|(refine sC ?_ ?_<;>intro hb<;>try omega)|(refine sCR ?_ ?_<;>intro hb<;>try omega)|fail)
 rename_i gn
 have hpl:=yc p ((ap a).drop i0)
 have hll:=au a
 have hrl:=bY p ((ap a).drop i0)
 rw [RC] at hrl
 rw [← hpl]
 refine u6 (ps:= [12]) (us:=iT p ((ap a).drop i0)) (encs:=fun c=> [.int .u8 c]) (Hc:= [.box g4 3 [.int .i64 (i0:Int)],.box g3 9 [.string a],.box g5 139 [.func (.func fis) #[] #[]]]) (HU0:= [.box gn 3 [.int .i64 0]]) rfl (fun _=>rfl) rfl (I6 a ha i0 hi0 fis p hf w g4 g3 g5)
  (fun pre HU=>HU= [.box gn 3 [.int .i64 (pre.length:Int)]]) (fun _=>False) MSub.swap rfl ?_ ?_ ?_
 ·
  rintro l pre u post hus _ rfl F F'
  have hlu:=congrArg List.length hus
  simp only [QT,Rx] at hlu
  change WR _ _ _ l _ _ ((12,Value.int .u8 u)::_) (.box gn 3 [.int .i64 (pre.length:Int)]::F)
  repeat' (first|refine sT ?_|refine sR ?_|refine sM fun _=> ?_|(refine sC ?_ ?_<;>intro hb<;>try omega)|(refine sCR ?_ ?_<;>intro hb<;>try omega)|fail)
  refine xC ⟨[.box gn 3 [.int .i64 (pre.length:Int)]],MSub.refl _,?_⟩
  change WR _ _ _ l _ _ _ (.box gn 3 [.int .i64 (pre.length:Int)]::F')
  repeat' (first|refine sT ?_|refine sR ?_|refine sN ?_|refine sM fun _=> ?_|(refine sC ?_ ?_<;>intro hb<;>try omega)|(refine sCR ?_ ?_<;>intro hb<;>try omega)|fail)
  refine zV [.box gn 3 [.int .i64 ((pre.length+1:Nat):Int)]] ?_ (by rw [QT];rfl)
  change MSub (_::F') _
  exact mS
 ·
  rintro D _ rfl
  change bE _ _ _ _ _ (jt D:: .box gn 3 [.int .i64 ((iT p ((ap a).drop i0)).length:Int)]::_)
  repeat' (first|refine sT ?_|refine sR ?_|refine sM fun _=> ?_|(refine sC ?_ ?_<;>intro hb<;>try omega)|(refine sCR ?_ ?_<;>intro hb<;>try omega)|fail)
  refine xd .hd ?_
  exact cA (.inl rfl) rfl rfl (MSub.nil _) rfl
 ·
  rintro D HU h
  exact h.elim
end Go.SL
namespace Go.SL
open Go
def gR (op:Int):Int:=
 if 7≤op∧op≤12 then 1 else if op=6 then 2 else if op=1∨op=2 then 3 else if op=3∨op=4 then 4 else if op=5 then 6 else if op=13 then 7 else 0
structure PS where
 l:List Tk
 out:List Nd
def hdT (fin:Int) (l:List Tk):Tk:=l.headD { dl with at_:=fin }
def PS.skip (p:PS):PS:=⟨p.l.tail,p.out⟩
def PS.put (p:PS) (n:Nd):PS:=⟨p.l,p.out++ [n]⟩
inductive Job where
 |level (k:Int)
 |loop (k:Int)
 |sign
 |pct
 |pctl
 |prim
 |args (fn:Int) (n:Nat)
abbrev Out:=Except (Int × Int) (Nat × PS)
def dG (kind op:Int):Nd:=⟨kind,bI,aN,op,0,0⟩
def fT (r:Option Out) (k:Nat→PS→Option Out):Option Out:=
 match r with
 |some (.ok (n,p))=>k n p
 |r=>r
def mK (t:Tk):Nd:=
 ⟨1,if t.kind=1 then ⟨1,t.num,av⟩ else if t.kind=2 then ⟨3,0,t.text⟩ else if t.kind=3 then ⟨2,t.num,av⟩ else ⟨4,t.num,av⟩,aN,0,0,0⟩
def dg (fin:Int) (name:Tk) (fn:Int) (n:Nat) (p:PS):Option Out:=
 let t:=hdT fin p.l
 if t.kind≠10 then some (.error (t.at_,4))
 else if (n:Int)<(eR fn).1∨(eR fn).2.1<(n:Int) then some (.error (name.at_,11))
 else if 46≤fn∧(p.out.getLast?.map fun x=>decide (x.kind=2∨x.kind=3))≠some true then some (.error (name.at_,4))
 else some (.ok (0,p.skip.put ⟨7,bI,aN,0,fn,n⟩))
def bz (fin:Int):Nat→Job→PS→Option Out
 |0,_,_=>none
 |f+1,.level k,p=>if k=5 then bz fin f .sign p else fT (bz fin f (.level (k+1)) p) fun _ p=>bz fin f (.loop k) p
 |f+1,.loop k,p=>
  let t:=hdT fin p.l
  if t.kind=8∧gR t.num=k then fT (bz fin f (.level (k+1)) p.skip) fun _ p=>bz fin f (.loop k) (p.put (dG 6 t.num))
  else some (.ok (0,p))
 |f+1,.sign,p=>
  let t:=hdT fin p.l
  if t.kind=8∧t.num=2 then fT (bz fin f .sign p.skip) fun _ p=>some (.ok (0,p.put (dG 4 0)))
  else fT (bz fin f .pct p) fun _ p=>
   let u:=hdT fin p.l
   if u.kind=8∧u.num=5 then fT (bz fin f .sign p.skip) fun _ p=>some (.ok (0,p.put (dG 6 5)))
   else some (.ok (0,p))
 |f+1,.pct,p=>fT (bz fin f .prim p) fun _ p=>bz fin f .pctl p
 |f+1,.pctl,p=>
  let t:=hdT fin p.l
  if t.kind=8∧t.num=13 then bz fin f .pctl (p.skip.put (dG 5 0)) else some (.ok (0,p))
 |f+1,.prim,p=>
  let t:=hdT fin p.l
  if 1≤t.kind∧t.kind≤4 then some (.ok (0,p.skip.put (mK t)))
  else if t.kind=5 then some (.ok (0,p.skip.put ⟨2,bI,t.rect,0,0,0⟩))
  else if t.kind=9 then fT (bz fin f (.level 1) p.skip) fun _ p=>
   let u:=hdT fin p.l
   if u.kind≠10 then some (.error (u.at_,4)) else some (.ok (0,p.skip))
  else if t.kind=7 then
   if (bg t.text).2≠0 then some (.error (t.at_,10))
   else
    let u:=hdT fin p.skip.l
    if u.kind≠9 then some (.error (u.at_,4))
    else if (hdT fin p.skip.skip.l).kind=10 then dg fin t (bg t.text).1 0 p.skip.skip
    else fT (bz fin f (.args (bg t.text).1 0) p.skip.skip) fun n p=>dg fin t (bg t.text).1 n p
  else some (.error (t.at_,4))
 |f+1,.args fn n,p=>
  let t:=hdT fin p.l
  let go:=fun (p:PS)=>if (hdT fin p.l).kind=11 then bz fin f (.args fn (n+1)) p.skip else some (.ok (n+1,p))
  if t.kind≠6 then fT (bz fin f (.level 1) p) fun _ p=>go p
  else if (j0 fn n).1=false∨(j0 fn n).2≠0 then some (.error (t.at_,4))
  else go (p.skip.put ⟨3,bI,t.rect,0,0,0⟩)
end Go.SL
namespace Go.SL
open Go Go.Proofs
attribute [local irreducible] W WL WQ WG WA VOp thn blk aR aF FnIn
def gD (fn:Int):ByteArray:=if 51≤fn then av else (av::dr).getD fn.toNat av
theorem wrap_i64 {a:Int} (h1:0≤a) (h2:a≤255):IntKind.i64.wrap a=a:=I64.wrap ⟨by omega,by omega⟩
theorem mD (fn:Int) (h0:0≤fn) (h1:fn≤255) (w:World):aA Tryz.prog 326 [.int .u8 fn] w (.string (gD fn)):=by
 obtain ⟨j,rfl⟩:=TN h0
 refine aq Tryz.func326 rfl Tryz.ntmps326 rfl ?_
 have hg: ∀ h:j<51,((av::dr).map Value.string)[0+j*1]? =some (.string ((av::dr).getD j av)):=by
  intro h
  have:j<(av::dr).length:=h
  rw [show 0+j*1=j by omega]
  simp only [RZ,RD,QV this]
  rfl
 repeat' (first|(apply ak;exact rfl;apply yF;exact rfl;exact wrap_i64 h0 h1)|(apply ak;exact rfl;apply aj (j:=j);exact rfl;exact rfl;omega)|(apply ak;exact rfl;apply aV;exact rfl;exact pK;exact hg (by omega))|refine sT ?_|refine sM fun _=> ?_|(refine sC ?_ ?_<;>intro hb<;>try omega)|fail)
 ·
  (refine rT1 ?_)
  rw [gD,if_pos (by omega)]
  rfl
 ·
  (refine rT1 ?_)
  rw [gD,if_neg (by omega)]
  rfl
theorem CC {i:Nat} (h:i<50):gD ((i:Int)+1)=dr[i]'h:=by
 have h2:i<dr.length:=h
 rw [gD,if_neg (by omega),show ((i:Int)+1).toNat=i+1 by omega]
 simp [h2]
 rfl
theorem wm (b:ByteArray) (w:World):aA Tryz.prog 364 [.string b] w (.tuple #[.int .u8 (bg b).1,.int .i64 (bg b).2]):=by
 refine aq Tryz.func364 rfl Tryz.ntmps364 rfl ?_
 repeat' (first|refine sT ?_|refine sM fun _=> ?_|(refine sC ?_ ?_<;>intro hb<;>try omega)|fail)
 refine fD (fun i:Nat=> [(0,.string b),(4,.int .u8 ((i:Int)+1))]) (fun _=> []) (fun i=>i≤50∧eD dr b 0=eD (dr.drop i) b (i:Int)) (fun i=>50 - i) 0 ⟨by omega,rfl⟩ ?_ ?_ ?_
 ·
  exact sB
 ·
  exact mS
 ·
  rintro i ⟨hi,hrec⟩
  by_cases hlt:i<50
  ·
   have hl:i<dr.length:=hlt
   have hr: ∀ w,aA Tryz.prog 326 [.int .u8 ((i:Int)+1)] w (.string (dr[i]'hl)):=fun w=>CC hlt ▸ mD _ (by omega) (by omega) w
   rw [Rc hl,eD] at hrec
   repeat' (first|(apply aa;exact rfl;exact rfl;(intro w hm;exact hr w))|(apply ak;exact rfl;apply eG (c:=((i+1:Nat):Int)+1);exact rfl;exact rfl;exact wrap_u8 (by omega) (by omega))|refine sT ?_|refine sM fun _=> ?_|(refine sC ?_ ?_<;>intro hb<;>try omega)|fail)
   ·
    refine dS (.inl rfl) Tryz.results364 rfl rfl (.nil _) ?_
    rw [bg,hrec,if_pos hb.symm,if_neg (by omega)]
   ·
    refine ⟨i+1,⟨by omega,?_⟩,by omega,?_,?_⟩
    ·
     rw [hrec,if_neg (fun h=>hb h.symm)]
     rfl
    ·
     exact sB
    ·
     exact mS
  ·
   have e:i=50:=by omega
   subst e
   repeat' (first|refine sT ?_|refine sM fun _=> ?_|(refine sC ?_ ?_<;>intro hb<;>try omega)|fail)
   refine dS (.inl rfl) Tryz.results364 rfl rfl (.nil _) ?_
   rw [bg,hrec]
   rfl
def bO (fn:Int):Int × Int:=
 if fn=5∨fn=6∨fn=7∨fn=25∨fn=39∨fn=40∨fn=18∨fn=19∨fn=45∨fn=44 then (2,2)
 else if fn=20∨fn=41∨fn=43 then (2,3)
 else if fn=32∨fn=33 then (1,2)
 else if fn=34 then (3,3)
 else if fn=21∨fn=22∨fn=23∨fn=38∨fn=9∨fn=10∨fn=11∨fn=12∨fn=14∨fn=15∨fn=16∨fn=17 then (1,16)
 else if fn=30 then (2,16)
 else (1,1)
set_option maxRecDepth 10000 in
theorem kN (fn:Int) (w:World):aA Tryz.prog 327 [.int .u8 fn] w (.tuple #[.int .i64 (bO fn).1,.int .i64 (bO fn).2]):=by
 refine aq Tryz.func327 rfl Tryz.ntmps327 rfl ?_
 repeat' (first|refine sT ?_|refine sM fun _=> ?_|(refine sC ?_ ?_<;>intro hb<;>try omega)|fail)
 all_goals ((refine rT2 ?_);simp_all [bO])
def fI (fn i:Int):Bool:=
 if i<0∨(bO fn).2≤i then false
 else if fn=9∨fn=10∨fn=11∨fn=12∨fn=14∨fn=15∨fn=16∨fn=17 then true
 else if fn=13∨fn=18∨fn=19∨fn=45∨fn=43 then decide (i=0)
 else if fn=44 then decide (i=1)
 else decide (46≤fn) && decide (fn≤50)
set_option maxRecDepth 10000 in
theorem wg (fn i:Int) (w:World):aA Tryz.prog 352 [.int .u8 fn,.int .i64 i] w (.bool (fI fn i)):=by
 refine aq Tryz.func352 rfl Tryz.ntmps352 rfl ?_
 repeat' (first|(apply aa;exact rfl;exact rfl;(intro w hm;exact kN fn w))|refine sT ?_|refine sM fun _=> ?_|(refine sC ?_ ?_<;>intro hb<;>try omega)|fail)
 all_goals ((refine rT1 ?_);((try simp only [← Int.not_lt] at*);simp_all [fI, -Int.not_lt, -Int.not_le,← Int.not_lt]))
end Go.SL
namespace Go.SL
open Go Go.Proofs
attribute [local irreducible] W WL WQ WG VOp thn blk aR aF FnIn
theorem pw (b:ByteArray):oI b=(ap b).map (Value.int .u8):=by simp [oI,ap]
theorem vL {α β:Type} (f:α→α) (E:α→β) (xs:List α) (i:Nat) (h:i<xs.length):(((xs.take i).map f++xs.drop i).map E).set i (E (f xs[i]))=((xs.take (i+1)).map f++xs.drop (i+1)).map E:=by
 rw [← List.map_set,TU _ _ (by simp;omega)]
 have e1:xs.drop i=xs[i]::xs.drop (i+1):=Rc h
 have e2:xs.take (i+1)=xs.take i++ [xs[i]]:=Ra h
 have e3:i - ((xs.take i).map f).length=0:=by simp;omega
 rw [e3,e1,e2]
 simp only [List.set_cons_zero,RM,RA,Sq,Rz,QU,QW]
set_option maxRecDepth 10000 in
theorem Gc (f:FuncId) [Callable Tryz.prog f] (g:Int→Int) (hf: ∀ c w,aA Tryz.prog f [.int .u8 c] w (.int .u8 (g c))) (a:ByteArray) (ha:a.size≤1000000) (w:World):
  aF Tryz.prog 209 [.string a,.func (.func f) #[] #[]] w fun v H=> ∃ gb cap,v= .slice (some ⟨gb,0,none⟩) a.size cap∧H= [.byt gb 5 a.size cap (((ap a).map g).map (Value.int .u8))]:=by
 refine aq Tryz.func209 rfl Tryz.ntmps209 rfl ?_
 repeat' (first|(apply l9;exact rfl;exact rfl;intro gb cap)|refine sT ?_|refine sM fun _=> ?_|(refine sC ?_ ?_<;>intro hb<;>try omega)|fail)
 refine fD (fun i:Nat=> [(5,.slice (some ⟨gb,0,none⟩) a.size cap),(10,.slice (some ⟨gb,0,none⟩) a.size cap),(11,.int .i64 (a.size:Int)),(12,.int .i64 (i:Int)),(1,.func (.func f) #[] #[])])
  (fun i=> [.byt gb 5 a.size cap ((((ap a).take i).map g++(ap a).drop i).map (Value.int .u8))]) (fun i=>i≤a.size) (fun i=>a.size - i) 0 (by omega) ?_ ?_ ?_
 ·
  exact sB
 ·
  rw [pw];simp only [Sj,Sq,QW,SG];exact mS
 ·
  intro i hi
  have hl:=au a
  by_cases hlt:i<a.size
  ·
   have hil:i<(ap a).length:=by omega
   have hget:((((ap a).take i).map g++(ap a).drop i).map (Value.int .u8))[0+i*1]? =some (.int .u8 (ap a)[i]):=by
    rw [RZ,show 0+i*1=i by omega,R0 (by simp;omega)]
    simp [Tb (Nat.le_of_lt hil),SF]
   repeat' (first|(apply ak;exact rfl;apply aj;exact rfl;exact rfl;exact hlt)|(apply ak;exact rfl;apply j8;exact rfl;exact .hd;exact hget)|(apply lC;exact rfl;exact rfl;infer_instance;exact rfl;(intro w hm;exact hf _ w))|(apply ma;exact rfl;exact rfl;exact .hd;exact rfl;(simp;omega))|(apply ak;exact rfl;apply lI;exact rfl;exact rfl;(constructor<;>omega))|refine sT ?_|refine sM fun _=> ?_|(refine sC ?_ ?_<;>intro hb<;>try omega)|fail)
   refine ⟨i+1,by omega,by omega,?_,?_⟩
   ·
    exact sB
   ·
    rw [show 0+i*1=i by omega,vL g (Value.int .u8) (ap a) i hil]
    exact mS
  ·
   have e:i=a.size:=by omega
   subst e
   repeat' (first|refine sT ?_|refine sM fun _=> ?_|(refine sC ?_ ?_<;>intro hb<;>try omega)|fail)
   refine cA (.inl rfl) Tryz.results209 rfl (.refl _) ⟨gb,cap,rfl,?_⟩
   rw [Sg (by omega),RE (by omega),QZ]
def kw (c:Int):Int:=if c<32∨126<c then 0 else 32
set_option maxRecDepth 10000 in
theorem NH (c:Int) (w:World):aA Tryz.prog 210 [.int .u8 c] w (.int .u8 (kw c)):=by
 refine aq Tryz.func210 rfl Tryz.ntmps210 rfl ?_
 repeat' (first|refine sT ?_|refine sM fun _=> ?_|(refine sC ?_ ?_<;>intro hb<;>try omega)|fail)
 all_goals ((refine rT1 ?_);((try simp only [← Int.not_lt] at*);simp_all [kw, -Int.not_lt, -Int.not_le]))
set_option maxRecDepth 10000 in
theorem Jq (c:Int) (w:World):aA Tryz.prog 211 [.int .i32 c] w (.bool (decide (c=0))):=by
 refine aq Tryz.func211 rfl Tryz.ntmps211 rfl ?_
 repeat' (first|refine sT ?_|refine sM fun _=> ?_|(refine sC ?_ ?_<;>intro hb<;>try omega)|fail)
 all_goals ((refine rT1 ?_);rfl)
def jR (q:Int→Bool) (l:List Int):Int:=match l.findIdx? q with
 |some i=>(i:Int)
 |none=> -1
theorem Dz {q:Int→Bool} {l:List Int} {i:Nat} (h:i<l.length) (hq:q l[i]=true) (hno: ∀ j (h:j<l.length),j<i→q l[j]=false):jR q l=(i:Int):=by
 have:l.findIdx? q=some i:=by
  rw [TM]
  exact ⟨h,hq,fun j hj=>by simpa using hno j (by omega) hj⟩
 simp [jR,this]
theorem AR {q:Int→Bool} {l:List Int} (hno: ∀ j (h:j<l.length),q l[j]=false):jR q l= -1:=by
 have:l.findIdx? q=none:=by
  rw [Tq]
  intro x hx
  obtain ⟨j,hj,rfl⟩:=SW hx
  exact hno j hj
 simp [jR,this]
set_option maxRecDepth 10000 in
theorem AL (f:FuncId) [Callable Tryz.prog f] (q:Int→Bool) (hf: ∀ c w,aA Tryz.prog f [.int .i32 c] w (.bool (q c))) (a:ByteArray) (ha:a.size≤1000000) (hasc: ∀ i (h:i<a.size),(a[i]'h).toNat<128) (w:World):
  aA Tryz.prog 256 [.string a,.func (.func f) #[] #[],.bool true] w (.int .i64 (jR q (ap a))):=by
 refine aq Tryz.func256 rfl Tryz.ntmps256 rfl ?_
 have hl:=au a
 repeat' (first|(apply zD;exact rfl;exact rfl;intro gi)|refine sT ?_|refine sM fun _=> ?_|(refine sC ?_ ?_<;>intro hb<;>try omega)|fail)
 refine fD (fun i:Nat=> [(0,.string a),(1,.func (.func f) #[] #[]),(2,.bool true),(10,.pointer (some ⟨gi,0,none⟩))])
  (fun i=> [.obj gi (.stringIter a i)]) (fun i=>i≤a.size∧ ∀ j (h:j<(ap a).length),j<i→q (ap a)[j]=false) (fun i=>a.size - i) 0 ⟨by omega,fun j _ h=>by omega⟩ ?_ ?_ ?_
 ·
  exact sB
 ·
  exact mS
 ·
  rintro i ⟨hi,hno⟩
  repeat' (first|(apply Bw;exact rfl;exact rfl;exact .hd;exact hasc i;all_goals intro hb)|(apply lC;exact rfl;exact rfl;infer_instance;exact rfl;(intro w hm;exact hf _ w))|refine sT ?_|refine sM fun _=> ?_|(refine sC ?_ ?_<;>intro hb<;>try omega)|fail)
  all_goals (try simp only [beq_true] at*)
  ·
   rename_i hlt
   have hq:=hb
   refine cA (.inl rfl) Tryz.results256 rfl (MSub.nil _) ?_
   have h1:=rH a i hlt
   rw [Dz (i:=i) (by omega) (by rw [h1];exact hq) hno]
  ·
   rename_i hlt
   have hq:=hb
   refine ⟨i+1,⟨by omega,fun j hj hji=> ?_⟩,by omega,?_,?_⟩
   ·
    by_cases e:j=i
    ·
     subst e
     rw [rH a j hlt];exact hq
    ·
     exact hno j hj (by omega)
   ·
    exact sB
   ·
    exact mS
  ·
   have hge:=hb
   refine cA (.inl rfl) Tryz.results256 rfl (MSub.nil _) ?_
   rw [AR fun j hj=>hno j hj (by omega)]
set_option maxRecDepth 10000 in
theorem Bh (f:FuncId) [Callable Tryz.prog f] (q:Int→Bool) (hf: ∀ c w,aA Tryz.prog f [.int .i32 c] w (.bool (q c))) (a:ByteArray) (ha:a.size≤1000000) (hasc: ∀ i (h:i<a.size),(a[i]'h).toNat<128) (w:World):
  aA Tryz.prog 208 [.string a,.func (.func f) #[] #[]] w (.int .i64 (jR q (ap a))):=by
 refine aq Tryz.func208 rfl Tryz.ntmps208 rfl ?_
 repeat' (first|(apply aa;exact rfl;exact rfl;(intro w hm;exact AL f q hf a ha hasc w))|refine sT ?_|refine sM fun _=> ?_|(refine sC ?_ ?_<;>intro hb<;>try omega)|fail)
 all_goals ((refine rT1 ?_);rfl)
def kv (a:ByteArray):ByteArray:=⟨(((ap a).map kw).map fun n=>UInt8.ofNat n.toNat).toArray⟩
theorem n9 (a:ByteArray):(kv a).size=a.size:=by
 have:(kv a).size=((ap a).map kw).length:=by simp [kv,ByteArray.size]
 rw [this];simp [au]
theorem uf (a:ByteArray):ap (kv a)=(ap a).map kw:=by
 simp only [ap,kv,Tl]
 congr 1
 funext c
 simp only [Function.comp,kw]
 split<;>simp
theorem Dy (q:Int→Bool) (l:List Int):decide (jR q l<0)=l.all fun c=> !q c:=by
 unfold jR
 cases h:l.findIdx? q with
 |none=>
  rw [Tq] at h
  rw [RQ]
  simpa using h
 |some i=>
  rw [TM] at h
  obtain ⟨h1,h2,_⟩:=h
  rw [RQ]
  simp only [decide_eq_true_eq,SE]
  constructor
  ·
   intro h;omega
  ·
   intro h
   have:=h _ (RN h1)
   rw [h2] at this
   cases this
theorem CP (a:ByteArray):decide (jR (fun c=>decide (c=0)) (ap (kv a))<0)=nO a:=by
 rw [Dy,uf]
 simp only [ap,List.all_map,nO]
 congr 1
 funext c
 have e:(decide (kw (c.toNat:Int)=0))= !(decide (32≤c.toNat) && decide (c.toNat≤126)):=by
  rw [RQ]
  by_cases h:(c.toNat:Int)<32∨126<(c.toNat:Int)
  ·
   simp only [kw,if_pos h];simp;omega
  ·
   simp only [kw,if_neg h];simp;omega
 simp only [Function.comp,e,Bool.not_not]
theorem AG (a:ByteArray): ∀ i (h:i<(kv a).size),((kv a)[i]'h).toNat<128:=by
 intro i h
 have h1:=rH (kv a) i h
 have h2:((kv a)[i].toNat:Int)=kw ((ap a)[i]'(by rw [au,← n9];exact h)):=by
  rw [← h1]
  simp [uf]
 have h3: ∀ x,kw x=0∨kw x=32:=fun x=>by unfold kw;split<;>simp
 rcases h3 ((ap a)[i]'(by rw [au,← n9];exact h)) with h4|h4<;>omega
set_option maxRecDepth 10000 in
theorem rv (a:ByteArray) (ha:a.size≤1000000) (w:World):aA Tryz.prog 162 [.string a] w (.bool (nO a)):=by
 refine aq Tryz.func162 rfl Tryz.ntmps162 rfl ?_
 repeat' (first|((with_reducible apply ay (R:=fun v H=> ∃ gb cap,v= .slice (some ⟨gb,0,none⟩) a.size cap∧H= [.byt gb 5 a.size cap (((ap a).map kw).map (Value.int .u8))]));exact rfl;exact rfl;(intro w hm;exact Gc 210 kw NH a ha w);(rintro v H' ⟨gb,cap,rfl,rfl⟩))|(apply ak;exact rfl;apply sw;exact rfl;exact .hd;simp [au])|(apply aa;exact rfl;exact rfl;(intro w hm;exact Bh 211 (fun c=>decide (c=0)) Jq (kv a) (by rw [n9];exact ha) (AG a) w))|refine sT ?_|refine sM fun _=> ?_|(refine sC ?_ ?_<;>intro hb<;>try omega)|fail)
 all_goals ((refine rT1 ?_);rw [← CP])
set_option maxRecDepth 10000 in
theorem Dq (a:ByteArray) (w:World):aA Tryz.prog 134 [.string a] w (.int .i64 (jA a)):=by
 refine aq Tryz.func134 rfl Tryz.ntmps134 rfl ?_
 repeat' (first|(apply aa;exact rfl;exact rfl;(intro w hm;exact rv a (by omega) w))|refine sT ?_|refine sM fun _=> ?_|(refine sC ?_ ?_<;>intro hb<;>try omega)|fail)
 ·
  (refine rT1 ?_)
  have:decide (256<a.size)=true:=by simp;omega
  simp [jA,this]
 all_goals
  (refine rT1 ?_)
  have h256:decide (256<a.size)=false:=by simp;omega
  simp only [jA,h256,hb,cond_true,cond_false]
set_option maxRecDepth 10000 in
theorem EF (v:Vl) (w:World):aA Tryz.prog 257 [.agg (dH v).toArray] w (.int .i64 (qc v)):=by
 refine aq Tryz.func257 rfl Tryz.ntmps257 rfl ?_
 repeat' (first|(apply aa;exact rfl;exact rfl;(intro w hm;exact Dq v.text w))|(apply ak;exact rfl;exact EN (b:=⟨0,0,av⟩) rfl rfl)|refine sT ?_|refine sM fun _=> ?_|(refine sC ?_ ?_<;>intro hb<;>try omega)|fail)
 all_goals ((refine rT1 ?_);((try simp only [← Int.not_lt] at*);simp_all [qc,vv,eqV,av, -Int.not_lt, -Int.not_le,← Int.not_lt]);try (by_cases h:v.num=0<;>simp_all))
end Go.SL
namespace Go.SL
open Go Go.Proofs
attribute [local irreducible] W WL WQ WG WA VOp thn blk aR aF FnIn
theorem LB: ∀ j,j<50→dr.getD j av≠av∧bg (dr.getD j av)=((j:Int)+1,0):=by decide+kernel
theorem kZ {fn:Int} (h:cO fn=true):eR fn=((bO fn).1,(bO fn).2,0):=by
 unfold eR bO
 (repeat' split)<;>simp_all
theorem pZ {fn:Int} (h:cO fn=false):eR fn=(0,0,10):=by
 simp only [cO,Sw,decide_eq_false_iff_not] at h
 have hk:cO fn=false:=by simp only [cO,Sw,decide_eq_false_iff_not];exact h
 unfold eR
 (repeat' split)<;>first|(exfalso;omega)|(simp_all;done)|rfl
theorem vo {fn:Int} (h:cO fn=true) (i:Int):j0 fn i=(fI fn i,if i<0∨(bO fn).2≤i then 3 else 0):=by
 unfold j0 fI
 rw [kZ h]
 simp only [ne_eq,not_true_eq_false,if_false]
 by_cases h1:i<0∨(bO fn).2≤i
 ·
  simp only [if_pos h1]
 ·
  simp only [if_neg h1]
  by_cases h2:fn=9∨fn=10∨fn=11∨fn=12∨fn=14∨fn=15∨fn=16∨fn=17
  ·
   simp only [if_pos h2]
  ·
   simp only [if_neg h2]
   by_cases h3:fn=44
   ·
    subst h3
    simp
   ·
    simp only [if_neg h3]
    by_cases h4:fn=18∨fn=19∨fn=45∨fn=43∨fn=13
    ·
     rw [if_pos h4,if_pos (by omega)]
    ·
     rw [if_neg h4,if_neg (by omega)]
     rfl
end Go.SL
namespace Go.SL
open Go Go.Proofs
attribute [local irreducible] W WL WQ WG VOp thn blk aR aF FnIn
set_option maxHeartbeats 1000000 in
theorem zf (n:Nd) (w:World):aA Tryz.prog 305 [.agg (bN n).toArray] w (.int .i64 (bQ n)):=by
 refine aq Tryz.func305 rfl Tryz.ntmps305 rfl ?_
 repeat' (first|(apply aa;exact rfl;exact rfl;(intro w hm;exact EF n.v w))|(apply aa;exact rfl;exact rfl;(intro w hm;exact kO n.rect w))|(apply aa;exact rfl;exact rfl;(intro w hm;exact xD n.fn w))|(apply qJ (T:=293) (fun D=> [.int .u8 n.kind,.int .u8 0,.int .i64 0,.string av,.int .i64 0,.int .i64 0,.int .i64 0,.int .i64 0,.int .i64 0,.int .u8 (bif D 5 then n.fn else 0),.int .i64 (bif D 7 then n.n else 0)]) (xs' := [.int .u8 n.kind,.int .u8 0,.int .i64 0,.string av,.int .i64 0,.int .i64 0,.int .i64 0,.int .i64 0,.int .i64 0,.int .u8 n.fn,.int .i64 n.n]);kernel_rfl;kernel_rfl;(first|exact .hd|exact .tl .hd);exact rfl;(intro D hD;simp only [hD 5 (by decide),hD 7 (by decide),cond_true]))|(apply ak;exact rfl;(first|(apply vB (b:=⟨n.kind,n.v,aN,0,0,0⟩);exact rfl;exact rfl)|(apply vB (b:=⟨n.kind,bI,n.rect,0,0,0⟩);exact rfl;exact rfl)|(apply vB (b:=⟨n.kind,bI,aN,0,0,0⟩);exact rfl;exact rfl)|(apply vB (b:=⟨n.kind,bI,aN,n.op,0,0⟩);exact rfl;exact rfl)|(apply vB (b:=⟨n.kind,bI,aN,0,n.fn,n.n⟩);exact rfl;exact rfl)))|refine sT ?_|refine sG ?_|refine sM fun _=> ?_|(refine sC ?_ ?_<;>intro hb<;>try omega)|fail)
 all_goals ((refine rT1 ?_);((try simp only [← Int.not_lt] at*);simp_all [bQ,f9,cM,HG,Lw, -Int.not_lt, -Int.not_le,← Int.not_lt]))
end Go.SL
namespace Go.SL
open Go Go.Proofs
attribute [local irreducible] W WL WQ WG WA VOp thn blk bp aR aF FnIn WLI
def pz (n:Nd) (i:Nat) (r:List Nd):Us:=match r with
 |m::_=>if m.kind=7∧46≤m.fn then ⟨n.rect,((i+1:Nat):Int),m.fn⟩ else ⟨n.rect, -1,0⟩
 | []=>⟨n.rect, -1,0⟩
def eH:List Nd→Nat→List Us
 | [],_=> []
 |n::r,i=>bif jO n then pz n i r::eH r (i+1) else eH r (i+1)
def ed (L:List Nd):List Us:=eH L 0
set_option maxHeartbeats 4000000 in
theorem KD (L:List Nd) (tv:Value) (w0:World) (ht:Reads w0 tv L.length (L.flatMap bN)) (hlen:L.length≤1000000) (g:Nat):
  Ov Tryz.prog 290 [.pointer (some ⟨g,0,none⟩)] w0 [.box g 128 [tv]] (ed L) (fun u=> [.agg (dI u).toArray]):=by
 obtain ⟨Al,cl,rfl,hl1,hl2,hl3⟩:=ht
 intro l I J H0 hy h0
 refine FnIn.msub (H' := .box g 128 [.slice Al L.length cl]::H0) ?_ (MSub.rot (MSub.refl _))
 refine eQ Tryz.func290 rfl Tryz.ntmps290 rfl ?_
 repeat' (first|refine sT ?_|refine sM fun _=> ?_|(refine sC ?_ ?_<;>intro hb<;>try omega)|fail)
 refine fD (fun y:Nat × List Us × List Blk=> [(0,.func (.yield l) #[] #[]),(1,.pointer (some ⟨g,0,none⟩)),(6,.slice Al L.length cl),(7,.int .i64 (L.length:Int)),(8,.int .i64 (y.1:Int))])
  (fun y=> .box g 128 [.slice Al L.length cl]::y.2.2)
  (fun y=>y.1≤L.length∧ed L=y.2.1++eH (L.drop y.1) y.1∧I y.2.1 y.2.2) (fun y=>L.length - y.1) (0,[],H0) ⟨by omega,rfl,h0⟩ ?_ ?_ ?_
 ·
  exact sB
 ·
  exact MSub.refl _
 rintro ⟨i,pre,H1⟩ ⟨hi,hus,hI⟩
 dsimp only at hi hus hI ⊢
 by_cases hlt:i<L.length
 ·
  obtain ⟨gl,ol,rfl,hrl⟩:=hl3 (by omega)
  have he:=hrl.elem dJ i hlt
  rw [Rc hlt,eH] at hus
  generalize hn:L[i]=n at hus he
  have hran:=fun w=>I2 n w
  have next: ∀ (us:List Us) (HU:List Blk),ed L=us++eH (L.drop (i+1)) (i+1)→I us HU→i+1≤L.length∧ed L=us++eH (L.drop (i+1)) (i+1)∧I us HU:=fun us HU h1 h2=>⟨hlt,h1,h2⟩
  generalize jO n=q at hus hran
  cases q
  ·
   rw [cond_false] at hus
   repeat' (first|(apply aa;exact rfl;exact rfl;(intro w hm;exact hran w))|refine sT ?_|refine sN ?_|refine sO ?_|refine sM fun _=> ?_|(refine sC ?_ ?_<;>intro hb<;>try omega)|fail)
   refine ⟨(i+1,pre,H1),next _ _ hus hI,(by dsimp only;omega),?_,?_⟩
   ·
    exact sB
   ·
    exact mS
  rw [cond_true] at hus
  by_cases hn1:i+1<L.length
  ·
   have he1:=hrl.elem dJ (i+1) hn1
   have hd:=Rc hn1
   generalize L[i+1]=m at he1 hd
   by_cases hrel:m.kind=7∧46≤m.fn
   ·
    have hu:pz n i (L.drop (i+1))=⟨n.rect,((i+1:Nat):Int),m.fn⟩:=by rw [hd];simp only [pz,if_pos hrel]
    rw [hu] at hus
    repeat' (first|(apply aa;exact rfl;exact rfl;(intro w hm;exact hran w))|(apply lF (id:=7))|((with_reducible apply qJ (id:=6) (T:=159) (fun D=> [.int .i64 n.rect.c1,.int .i64 n.rect.r1,.int .i64 n.rect.c2,.int .i64 n.rect.r2,.int .i64 (bif D 9 then ((i+1:Nat):Int) else -1),.int .u8 (bif D 11 then m.fn else 0)]) (xs' := [.int .i64 n.rect.c1,.int .i64 n.rect.r1,.int .i64 n.rect.c2,.int .i64 n.rect.r2,.int .i64 ((i+1:Nat):Int),.int .u8 m.fn]));kernel_rfl;kernel_rfl;exact .hd;exact rfl;(intro D hD;simp only [hD 9 (by decide),hD 11 (by decide),cond_true]))|(apply BB;exact rfl;(intro D ht;first|(apply gJ;exact rfl;exact rfl;(simp only [maxLen] at*;omega))|(apply aj;exact rfl;exact rfl;(first|assumption|omega))|(apply dE;exact rfl;assumption;exact rfl));exact fun _=>rfl)|refine sT ?_|refine sI ?_|refine sN ?_|refine sO ?_|refine sG ?_|refine sM fun _=> ?_|(refine sC ?_ ?_<;>intro hb<;>try omega)|fail)
    (with_reducible apply jZ)
    ·
     exact rfl
    ·
     exact rfl
    ·
     exact rfl
    ·
     exact MSub.app3
    ·
     exact fun w hm=>hy pre ⟨n.rect,((i+1:Nat):Int),m.fn⟩ _ hus H1 _ hI w hm
    intro bb H2 hq
    cases bb
    ·
     repeat' (first|refine sT ?_|refine sI ?_|refine sM fun _=> ?_|(refine sC ?_ ?_<;>intro hb<;>try omega)|fail)
     exact gC eIO Tryz.results290 (H' :=H2++ [.box g 128 [.slice (some ⟨gl,ol,none⟩) L.length cl]]) MSub.app3r ⟨H2,.inr ⟨_,hq⟩,MSub.refl _⟩
    ·
     repeat' (first|refine sT ?_|refine sI ?_|refine sN ?_|refine sM fun _=> ?_|(refine sC ?_ ?_<;>intro hb<;>try omega)|fail)
     refine ⟨(i+1,_,H2),next _ _ (hus.trans (by rw [List.append_assoc];rfl)) hq,(by dsimp only;omega),?_,?_⟩
     ·
      exact sB
     ·
      exact MSub.app3'
   ·
    have hu:pz n i (L.drop (i+1))=⟨n.rect, -1,0⟩:=by rw [hd];simp only [pz,if_neg hrel]
    rw [hu] at hus
    repeat' (first|(apply aa;exact rfl;exact rfl;(intro w hm;exact hran w))|(apply lF (id:=7))|refine sT ?_|refine sI ?_|refine sN ?_|refine sO ?_|refine sM fun _=> ?_|(refine sC ?_ ?_<;>intro hb<;>try omega)|fail)
    all_goals
     (with_reducible apply jZ)
     ·
      exact rfl
     ·
      exact rfl
     ·
      exact rfl
     ·
      exact MSub.app3
     ·
      exact fun w hm=>hy pre ⟨n.rect, -1,0⟩ _ hus H1 _ hI w hm
     intro bb H2 hq
     cases bb
     ·
      repeat' (first|refine sT ?_|refine sI ?_|refine sM fun _=> ?_|(refine sC ?_ ?_<;>intro hb<;>try omega)|fail)
      exact gC eIO Tryz.results290 (H' :=H2++ [.box g 128 [.slice (some ⟨gl,ol,none⟩) L.length cl]]) MSub.app3r ⟨H2,.inr ⟨_,hq⟩,MSub.refl _⟩
     ·
      repeat' (first|refine sT ?_|refine sI ?_|refine sN ?_|refine sM fun _=> ?_|(refine sC ?_ ?_<;>intro hb<;>try omega)|fail)
      refine ⟨(i+1,_,H2),next _ _ (hus.trans (by rw [List.append_assoc];rfl)) hq,(by dsimp only;omega),?_,?_⟩
      ·
       exact sB
      ·
       exact MSub.app3'
  ·
   have hu:pz n i (L.drop (i+1))=⟨n.rect, -1,0⟩:=by rw [RE (by omega)];rfl
   rw [hu] at hus
   repeat' (first|(apply aa;exact rfl;exact rfl;(intro w hm;exact hran w))|(apply lF (id:=7))|refine sT ?_|refine sI ?_|refine sN ?_|refine sO ?_|refine sM fun _=> ?_|(refine sC ?_ ?_<;>intro hb<;>try omega)|fail)
   (with_reducible apply jZ)
   ·
    exact rfl
   ·
    exact rfl
   ·
    exact rfl
   ·
    exact MSub.app3
   ·
    exact fun w hm=>hy pre ⟨n.rect, -1,0⟩ _ hus H1 _ hI w hm
   intro bb H2 hq
   cases bb
   ·
    repeat' (first|refine sT ?_|refine sI ?_|refine sM fun _=> ?_|(refine sC ?_ ?_<;>intro hb<;>try omega)|fail)
    exact gC eIO Tryz.results290 (H' :=H2++ [.box g 128 [.slice (some ⟨gl,ol,none⟩) L.length cl]]) MSub.app3r ⟨H2,.inr ⟨_,hq⟩,MSub.refl _⟩
   ·
    repeat' (first|refine sT ?_|refine sI ?_|refine sN ?_|refine sM fun _=> ?_|(refine sC ?_ ?_<;>intro hb<;>try omega)|fail)
    refine ⟨(i+1,_,H2),next _ _ (hus.trans (by rw [List.append_assoc];rfl)) hq,(by dsimp only;omega),?_,?_⟩
    ·
     exact sB
    ·
     exact MSub.app3'
 ·
  have e:i=L.length:=by omega
  subst e
  rw [RK,eH,QZ] at hus
  repeat' (first|refine sT ?_|refine sM fun _=> ?_|(refine sC ?_ ?_<;>intro hb<;>try omega)|fail)
  refine gC (.inr rfl) Tryz.results290 (H' := .box g 128 [.slice Al L.length cl]::H1) mS ⟨H1,.inl (hus ▸ hI),?_⟩
  exact MSub.snoc .hd (MSub.refl _)
end Go.SL
namespace Go.SL
open Go
def Job.c:Job→Nat
 | .level k=>(9 - k).toNat
 | .loop _=>1
 | .sign=>3
 | .pct=>2
 | .pctl=>1
 | .prim=>1
 | .args _ _=>9
def Job.fit:Job→Prop
 | .level k=>1≤k∧k≤5
 | .loop k=>1≤k∧k≤4
 |_=>True
def Job.eats:Job→Prop
 | .loop _=>False
 | .pctl=>False
 |_=>True
def J1 (p:PS) (strict:Prop) (r:Out):Prop:= ∀ n p',r= .ok (n,p')→p'.l.length≤p.l.length∧(strict→p'.l.length<p.l.length)
def Gx (o:Option Out) (B:Out→Prop):Prop:= ∃ r,o=some r∧B r
theorem dL {B:Out→Prop} {r:Out} (h:B r):Gx (some r) B:=⟨r,rfl,h⟩
theorem db {p:PS} {q:Prop} {e:Int × Int}:J1 p q (.error e):=fun _ _ h=>by cases h
theorem jk {p p' :PS} {q:Prop} {n:Nat} (h:p'.l.length≤p.l.length) (hq:q→p'.l.length<p.l.length):J1 p q (.ok (n,p')):=fun m p2 h2=>by
 cases h2
 exact ⟨h,hq⟩
theorem fO {o:Option Out} {k:Nat→PS→Option Out} {p:PS} {q:Prop} {B:Out→Prop} (h:Gx o (J1 p q)) (he: ∀ e,B (.error e)) (hk: ∀ n p',p'.l.length≤p.l.length→(q→p'.l.length<p.l.length)→Gx (k n p') B):Gx (fT o k) B:=by
 obtain ⟨r,rfl,hr⟩:=h
 cases r with
 |error e=>exact ⟨_,rfl,he e⟩
 |ok x=>
  obtain ⟨n,p'⟩:=x
  obtain ⟨h1,h2⟩:=hr n p' rfl
  exact hk n p' h1 h2
theorem iY {fin:Int} {l:List Tk} (h:(hdT fin l).kind≠0):0<l.length:=by
 cases l with
 |nil=>exact absurd rfl h
 |cons=>simp
theorem fG (p:PS):p.skip.l.length=p.l.length - 1:=by simp [PS.skip]
theorem eV (p:PS) (n:Nd):(p.put n).l=p.l:=rfl
theorem rQ {fin:Int} {name:Tk} {fn:Int} {n:Nat} {p p0:PS} {q:Prop} (h:p.l.length≤p0.l.length) (hq:0<p.l.length→q→p.l.length - 1<p0.l.length):Gx (dg fin name fn n p) (J1 p0 q):=by
 unfold dg
 dsimp only
 split
 ·
  exact dL db
 ·
  rename_i hk
  have hpos:=iY (fin:=fin) (l:=p.l) (by omega)
  split
  ·
   exact dL db
  ·
   split
   ·
    exact dL db
   ·
    refine dL (jk ?_ fun hh=> ?_)
    ·
     rw [eV,fG];omega
    ·
     rw [eV,fG];exact hq hpos hh
theorem sV (fin:Int): ∀ (f:Nat) (j:Job) (p:PS),j.fit→20*p.l.length+j.c≤f→Gx (bz fin f j p) (J1 p j.eats):=by
 intro f
 induction f with
 |zero=>
  intro j p hj hf
  cases j with
  |level k=>obtain ⟨h1,h2⟩:=hj;simp only [Job.c] at hf;omega
  |_=>simp only [Job.c] at hf;omega
 |succ f ih=>
  intro j p hj hf
  cases j with
  |level k=>
   obtain ⟨h1,h2⟩:=hj
   simp only [Job.c] at hf
   rw [bz]
   split
   ·
    obtain ⟨r,hr,hl⟩:=ih .sign p trivial (by simp only [Job.c];omega)
    exact ⟨r,hr,hl⟩
   ·
    refine fO (ih (.level (k+1)) p ⟨by omega,by omega⟩ (by simp only [Job.c];omega)) (fun e=>db) fun n p' h3 h4=> ?_
    have h5:=h4 trivial
    obtain ⟨r,hr,hl⟩:=ih (.loop k) p' ⟨h1,by omega⟩ (by simp only [Job.c];omega)
    exact ⟨r,hr,fun m q hq=>⟨by have:=(hl m q hq).1;omega,fun _=>by have:=(hl m q hq).1;omega⟩⟩
  |loop k=>
   obtain ⟨h1,h2⟩:=hj
   simp only [Job.c] at hf
   rw [bz]
   split
   ·
    rename_i hk
    have hpos:=iY (fin:=fin) (l:=p.l) (by omega)
    have hs:=fG p
    refine fO (ih (.level (k+1)) p.skip ⟨by omega,by omega⟩ (by simp only [Job.c];omega)) (fun e=>db) fun n p' h3 h4=> ?_
    have h5:=h4 trivial
    obtain ⟨r,hr,hl⟩:=ih (.loop k) (p'.put (dG 6 (hdT fin p.l).num)) ⟨h1,h2⟩ (by rw [eV];simp only [Job.c];omega)
    exact ⟨r,hr,fun m q hq=>⟨by have:=(hl m q hq).1;rw [eV] at this;omega,fun h=>h.elim⟩⟩
   ·
    exact dL (jk (Re _) fun h=>h.elim)
  |sign=>
   simp only [Job.c] at hf
   rw [bz]
   dsimp only
   split
   ·
    rename_i hk
    have hpos:=iY (fin:=fin) (l:=p.l) (by omega)
    have hs:=fG p
    refine fO (ih .sign p.skip trivial (by simp only [Job.c];omega)) (fun e=>db) fun n p' h3 h4=> ?_
    have h5:=h4 trivial
    exact dL (jk (by rw [eV];omega) fun _=>by rw [eV];omega)
   ·
    refine fO (ih .pct p trivial (by simp only [Job.c];omega)) (fun e=>db) fun n p' h3 h4=> ?_
    have h5:=h4 trivial
    split
    ·
     have hs:=fG p'
     refine fO (ih .sign p'.skip trivial (by simp only [Job.c];omega)) (fun e=>db) fun n p2 h6 h7=> ?_
     exact dL (jk (by rw [eV];omega) fun _=>by rw [eV];omega)
    ·
     exact dL (jk h3 fun _=>h5)
  |pct=>
   simp only [Job.c] at hf
   rw [bz]
   refine fO (ih .prim p trivial (by simp only [Job.c];omega)) (fun e=>db) fun n p' h3 h4=> ?_
   have h5:=h4 trivial
   obtain ⟨r,hr,hl⟩:=ih .pctl p' trivial (by simp only [Job.c];omega)
   exact ⟨r,hr,fun m q hq=>⟨by have:=(hl m q hq).1;omega,fun _=>by have:=(hl m q hq).1;omega⟩⟩
  |pctl=>
   simp only [Job.c] at hf
   rw [bz]
   split
   ·
    rename_i hk
    have hpos:=iY (fin:=fin) (l:=p.l) (by omega)
    have hs:=fG p
    obtain ⟨r,hr,hl⟩:=ih .pctl (p.skip.put (dG 5 0)) trivial (by rw [eV];simp only [Job.c];omega)
    exact ⟨r,hr,fun m q hq=>⟨by have:=(hl m q hq).1;rw [eV] at this;omega,fun h=>h.elim⟩⟩
   ·
    exact dL (jk (Re _) fun h=>h.elim)
  |prim=>
   simp only [Job.c] at hf
   rw [bz]
   dsimp only
   have hs:=fG p
   have hs2:=fG p.skip
   split
   ·
    rename_i hk
    have hpos:=iY (fin:=fin) (l:=p.l) (by omega)
    exact dL (jk (by rw [eV];omega) fun _=>by rw [eV];omega)
   ·
    split
    ·
     rename_i hk
     have hpos:=iY (fin:=fin) (l:=p.l) (by omega)
     exact dL (jk (by rw [eV];omega) fun _=>by rw [eV];omega)
    ·
     split
     ·
      rename_i hk
      have hpos:=iY (fin:=fin) (l:=p.l) (by omega)
      refine fO (ih (.level 1) p.skip ⟨by omega,by omega⟩ (by simp only [Job.c];omega)) (fun e=>db) fun n p' h3 h4=> ?_
      have h5:=h4 trivial
      have hs3:=fG p'
      split
      ·
       exact dL db
      ·
       exact dL (jk (by omega) fun _=>by omega)
     ·
      split
      ·
       rename_i hk
       have hpos:=iY (fin:=fin) (l:=p.l) (by omega)
       split
       ·
        exact dL db
       ·
        split
        ·
         exact dL db
        ·
         rename_i hk2
         have hpos2:=iY (fin:=fin) (l:=p.skip.l) (by omega)
         split
         ·
          exact rQ (by omega) fun _ _=>by omega
         ·
          refine fO (ih (.args (bg (hdT fin p.l).text).1 0) p.skip.skip trivial (by simp only [Job.c];omega)) (fun e=>db) fun n p' h3 h4=> ?_
          exact rQ (by omega) fun _ _=>by omega
      ·
       exact dL db
  |args fn n=>
   simp only [Job.c] at hf
   rw [bz]
   dsimp only
   have hgo: ∀ p' :PS,p'.l.length<p.l.length→Gx (if (hdT fin p'.l).kind=11 then bz fin f (.args fn (n+1)) p'.skip else some (.ok (n+1,p'))) (J1 p (Job.args fn n).eats):=by
    intro p' hp
    have hs:=fG p'
    split
    ·
     obtain ⟨r,hr,hl⟩:=ih (.args fn (n+1)) p'.skip trivial (by simp only [Job.c];omega)
     exact ⟨r,hr,fun m q hq=>⟨by have:=(hl m q hq).1;omega,fun _=>by have:=(hl m q hq).1;omega⟩⟩
    ·
     exact dL (jk (by omega) fun _=>hp)
   split
   ·
    refine fO (ih (.level 1) p ⟨by omega,by omega⟩ (by simp only [Job.c];omega)) (fun e=>db) fun m p' h3 h4=> ?_
    exact hgo p' (h4 trivial)
   ·
    rename_i hk
    have hpos:=iY (fin:=fin) (l:=p.l) (by omega)
    have hs:=fG p
    split
    ·
     exact dL db
    ·
     exact hgo _ (by rw [eV];omega)
end Go.SL

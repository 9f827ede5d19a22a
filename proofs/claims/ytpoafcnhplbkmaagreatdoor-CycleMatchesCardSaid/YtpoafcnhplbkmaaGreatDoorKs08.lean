/-
  Lemmas and walks, put together: D9 G1a D10 Sb W9 W1 W11 W27 W30 W33 W4 B1 Px W12 W2 W13 W28 W3 W15.
-/
import Derived.Test.YtpoafcnhplbkmaaGreatDoorKs04
import Derived.Test.YtpoafcnhplbkmaaGreatDoorKs05
import Derived.Test.YtpoafcnhplbkmaaGreatDoorKs06
import Derived.Test.YtpoafcnhplbkmaaGreatDoorKs07
set_option linter.unusedSimpArgs false
set_option linter.unusedVariables false
set_option maxRecDepth 20000
set_option maxHeartbeats 16000000
namespace Go.SL
open Go Go.Proofs
theorem MSub.appL (R H1:List Blk):MSub R (R++H1):=⟨H1,.refl _⟩
theorem MSub.appR (R H1:List Blk):MSub R (H1++R):=⟨H1,RO⟩
theorem MSub.appS (Hc H1:List Blk):MSub (H1++Hc) (Hc++H1):=⟨[],by rw [Rc];exact RO⟩
attribute [local irreducible] W WL WQ WG WA WX WLI WR WT WC VOp RW thn blk bH scp aV bz bP FnAt FnIn FnP ceP
end Go.SL
namespace Go.SL
open Go Go.Proofs
attribute [local irreducible] W WL WQ WG WA WX WLI WR WT WC VOp RW thn blk bH scp aV bz bP FnAt FnP ceP
theorem FnIn.re {P:Program} {f:FuncId} {args:List Value} {w0:World} {H:List Blk} {R R' :Value→List Blk→Prop} (h:FnIn P f args w0 H R) (hr: ∀ v H,R v H→ ∃ H',MSub H' H∧R' v H'):FnIn P f args w0 H R' :=
 fun w hm=>Calls.mono (h w hm) fun _ _ ⟨v,H',h1,h2,h3⟩=>let ⟨H2,h4,h5⟩:=hr v H' h3;⟨v,H2,h1,h4.use h2,h5⟩
theorem MSub.of_perm {H H' :List Blk} (h:H'.Perm H):MSub H H' :=⟨[],by simpa using h⟩
end Go.SL
namespace Go.SL
open Go Go.Proofs
attribute [local irreducible] W WL WQ WG WA WX WLI WR WT WC VOp RW thn blk bH scp aV bz bP FnAt FnIn FnP ceP xC pd rZ
theorem eC {w0:World} {s:az} {H:List Blk} {ty t' :TypeId} {x y:Operand} {a b:Rf} {c:Bool} (h:decide (a≠b)=c) (hx:ev s x=some (.agg (aB a).toArray)) (hy:ev s y=some (.agg (aB b).toArray)):VOp Tryz.prog w0 s H (.binOp .neq 28 x y t') ty (.bool c):=by
 have h1:=Ko (w0:=w0) (H:=H) (ty:=ty) (t' :=t') hx hy;rw [o5] at h1;rw [← h];have e:(!decide (a=b))=decide (a≠b):=by simp
 rwa [e] at h1
end Go.SL
namespace Go.SL
open Go Go.RowKit
theorem pK {p:Prop} (h:p:=by (repeat first|exact .hd|apply Sel.tl|apply In.tl);(first|done|fail)):p:=h
theorem sB {p:Prop} (h:p:=by (repeat (first|exact Sub.nil _|refine Sub.cons rfl ?_));(first|done|fail)):p:=h
theorem mS {p:Prop} (h:p:=by (repeat (first|exact MSub.nil _|refine MSub.pick (by (repeat first|exact .hd|apply Sel.tl|apply In.tl)) ?_|exact MSub.refl _|refine MSub.drop .hd ?_));(first|done|fail)):p:=h
theorem vC {P:Program} {w0:World} {s:az} {H:List Blk} {op:Op} {ty:TypeId} {v:Value} (h:VOp P w0 s H op ty v:=by
 first
 |((with_reducible apply Kl);exact rfl)
 |((with_reducible apply BP);exact rfl)
 |((with_reducible apply Qa);exact rfl)
 |((with_reducible apply Kr);exact rfl)
 |((with_reducible apply vu);exact rfl)
 |((with_reducible apply dU);exact rfl;exact pK;exact rfl)
 |((with_reducible apply O5);exact rfl;exact rfl)
 |((with_reducible apply O1);exact rfl;exact rfl)
 |((with_reducible apply iY);exact rfl;exact rfl)
 |((with_reducible apply iX);exact rfl;exact rfl)
 |((with_reducible apply BM);exact rfl;exact pK;exact rfl)
 |((with_reducible apply BN);exact rfl;exact pK;exact rfl;exact rfl)
 |((with_reducible apply MX);(iterate 3 exact rfl))
 |((with_reducible apply P4);(iterate 3 exact rfl))
 |((with_reducible apply eK);exact rfl)
 |((with_reducible apply MT);exact rfl)
 |((with_reducible apply MR);exact rfl)):VOp P w0 s H op ty v:=h
theorem vC2 {P:Program} {w0:World} {s:az} {H:List Blk} {op:Op} {ty:TypeId} {v:Value} (h:VOp P w0 s H op ty v:=by
 first
 |((with_reducible apply aX);exact rfl;exact rfl;(first|assumption|omega))
 |((with_reducible apply O4);exact rfl;exact rfl;(first|assumption|omega))
 |((with_reducible apply gM);(iterate 3 exact rfl);(first|assumption|omega))
 |((with_reducible apply vq);exact rfl;exact rfl;(first|assumption|omega))
 |((with_reducible apply MQ);exact rfl;exact rfl;(first|assumption|omega))
 |((with_reducible apply EF);exact rfl;exact rfl;(first|assumption|omega))
 |((with_reducible apply aX (j:=4));exact rfl;exact rfl;(first|assumption|omega))
 |((with_reducible apply EF (hi:=4));exact rfl;exact rfl;(first|assumption|omega))
 |((with_reducible apply vq (lo:=1));exact rfl;exact rfl;(first|assumption|omega))
 |((with_reducible apply yz);(iterate 3 exact rfl))
 |((with_reducible apply yx);(iterate 3 exact rfl))):VOp P w0 s H op ty v:=h
theorem vA {P:Program} {w0:World} {s:az} {H:List Blk} {op:Op} {ty:TypeId} {v:Value} (h:VOp P w0 s H op ty v:=by
 first
 |((with_reducible apply iJ);exact rfl;exact rfl;(simp only [maxLen] at*;omega))
 |((with_reducible apply GS);exact rfl;exact rfl;(simp only [maxLen] at*;omega))
 |((with_reducible apply fT);exact rfl;exact rfl;(simp only [maxLen] at*;omega))
 |((with_reducible apply ij);exact rfl;exact rfl;omega;(simp only [maxLen] at*;omega))
 |((with_reducible apply pZ);exact rfl;exact rfl;omega;(simp only [maxLen] at*;omega))
 |((with_reducible apply EK);exact rfl;exact rfl)):VOp P w0 s H op ty v:=h
theorem vI {P:Program} {w0:World} {s:az} {H:List Blk} {op:Op} {ty:TypeId} {v:Value} (h:VOp P w0 s H op ty v:=by
 first
 |((with_reducible apply lh);exact rfl;exact rfl;exact ⟨by omega,by omega⟩)
 |((with_reducible apply yt);exact rfl;exact rfl;exact ⟨by omega,by omega⟩)
 |((with_reducible apply yw);exact rfl;exact rfl;exact ⟨by omega,by omega⟩)):VOp P w0 s H op ty v:=h
theorem vR {P:Program} {w0:World} {s:az} {H:List Blk} {op:Op} {ty:TypeId} {v:Value} (h:VOp P w0 s H op ty v:=by
 first
 |((with_reducible apply ag);exact rfl;exact rfl;(first|assumption|omega))
 |((with_reducible apply bO);exact rfl;assumption;exact rfl)
 |((with_reducible apply bp);exact rfl;assumption)
 |((with_reducible apply dS);exact rfl;assumption;exact rfl)):VOp P w0 s H op ty v:=h
theorem sT {p q:Prop} (k:q) (h:q→p:=by
 first
 |(with_reducible first|exact pV|exact Qh|exact PY|exact Ki|exact PZ|exact OU|exact OX|exact MP|exact Qf|exact Qi|exact QG|exact QE|exact QH|exact cut_r|exact cut_e)
 |(intro k;(with_reducible apply ai);exact rfl;exact vC;exact k)
 |(intro k;(with_reducible apply MH);exact rfl;exact rfl;exact k)
 |(intro k;(with_reducible apply Kc);(iterate 4 exact rfl);exact k)
 |(intro k;(with_reducible apply Kb);(iterate 3 exact rfl);exact k)
 |(intro k;(with_reducible apply xN);exact rfl;exact rfl;exact pK;(iterate 3 exact rfl);exact k)
 |(intro k;(with_reducible apply Bw);exact rfl;exact rfl;exact pK;(iterate 4 exact rfl);exact k)
 |(intro k;(with_reducible apply BJ);exact rfl;exact k)
 |(intro k;(with_reducible apply zS);exact rfl;exact k)
 |(intro k;(with_reducible apply QD);exact rfl;exact k)):p:=h k
theorem sM {p:Prop} {q:Nat→Prop} (k: ∀ g,q g) (h:(∀ g,q g)→p:=by
 first
 |(intro k;(with_reducible apply MI);exact rfl;exact rfl;exact k)
 |(intro k;(with_reducible apply MJ);(iterate 3 exact rfl);exact k)
 |(intro k;(with_reducible apply BB);exact rfl;exact k)
 |(intro k;(with_reducible apply xO);(iterate 7 exact rfl);exact k)):p:=h k
theorem sT2 {p q:Prop} (k:q) (h:q→p:=by exact ai rfl vC2):p:=h k
theorem sQ2 {p q:Prop} (k:q) (h:q→p:=by exact aZ rfl vC2):p:=h k
theorem sS {p q:Prop} (k:q) (h:q→p:=by with_reducible first|exact MM|exact MN|exact scp_n|exact Qq|exact scp_e):p:=h k
theorem sP {p q:Prop} (k:q) (h:q→p:=by with_reducible first|exact Qg|exact QF|exact QC|exact scp_p):p:=h k
theorem sC {p q1 q2 r1 r2:Prop} (k1:q1→q2) (k2:r1→r2) (h:(q1→q2)→(r1→r2)→p:=by
 intro k1 k2
 first
 |((with_reducible apply HV);exact rfl;exact rfl;exact fun hb=>k1 (Tidy.out hb);exact fun hb=>k2 (Tidy.out hb))
 |((with_reducible apply OY);exact rfl;exact fun hb=>k1 (Tidy.out hb);exact fun hb=>k2 (Tidy.out hb))):p:=h k1 k2
theorem cT {p:Prop} (h:p:=by (with_reducible apply cX (i:=()))<;>first|exact trivial|((repeat (first|exact Sub.nil _|refine Sub.cons rfl ?_));done)|((repeat (first|exact MSub.nil _|refine MSub.pick (by (repeat first|exact .hd|apply Sel.tl|apply In.tl)) ?_|exact MSub.refl _|refine MSub.drop .hd ?_));done)|fail):p:=h
theorem sQ {p q:Prop} (k:q) (h:q→p:=by
 first
 |(with_reducible exact OL)
 |(intro k;(with_reducible apply aZ);exact rfl;exact vC;exact k)
 |(intro k;(with_reducible apply MD);exact rfl;exact rfl;exact k)
 |(intro k;(with_reducible apply J7);(iterate 4 exact rfl);exact k)
 |(intro k;(with_reducible apply wq_gno_u);(iterate 3 exact rfl);exact k)):p:=h k
theorem sCQ {p q1 q2 r1 r2:Prop} (k1:q1→q2) (k2:r1→r2) (h:(q1→q2)→(r1→r2)→p:=by
 intro k1 k2
 first
 |((with_reducible apply HQ);exact rfl;exact rfl;exact fun hb=>k1 (Tidy.out hb);exact fun hb=>k2 (Tidy.out hb))):p:=h k1 k2
theorem sD {p q:Prop} (k:q) (h:q→p:=by intro k;(with_reducible apply pW);kernel_rfl;kernel_rfl;exact k):p:=h k
theorem sN {p q:Prop} (k:q) (h:q→p:=by exact ai rfl vA):p:=h k
theorem sNQ {p q:Prop} (k:q) (h:q→p:=by exact aZ rfl vA):p:=h k
theorem sJ {p q:Prop} (k:q) (h:q→p:=by exact ai rfl vI):p:=h k
theorem sJQ {p q:Prop} (k:q) (h:q→p:=by exact aZ rfl vI):p:=h k
theorem sJG {p q:Prop} (k:q) (h:q→p:=by exact fp (f:=60) rfl (by decide+kernel) rfl vI):p:=h k
theorem sO {p q:Prop} (k:q) (h:q→p:=by exact ai rfl vR):p:=h k
theorem sOQ {p q:Prop} (k:q) (h:q→p:=by exact aZ rfl vR):p:=h k
theorem sG {p q:Prop} (k:q) (h:q→p:=by
 first
 |(with_reducible exact zN)
 |(intro k;(with_reducible apply BC);exact rfl;(intro D ht;exact vC);exact fun _=>rfl;exact k)
 |exact EB _ _ rfl rfl (fun D=> .hd) rfl rfl rfl (fun _=>UY rfl) (fun D ht=> .refl _)
 |(intro k;(with_reducible apply fp (f:=60));exact rfl;decide+kernel;exact rfl;exact vC;exact k)):p:=h k
theorem sX {p q:Prop} (k:q) (h:q→p:=by
 first
 |(with_reducible exact OJ)
 |(intro k;(with_reducible apply zF);(iterate 3 exact rfl);(intro D ht;exact vC);exact fun _=>rfl;exact k)
 |(intro k;(with_reducible apply wx_gno);(iterate 3 exact rfl);exact fun _=>rfl;exact k)):p:=h k
theorem sCX {p q1 q2 r1 r2:Prop} (k1:q1→q2) (k2:r1→r2) (h:(q1→q2)→(r1→r2)→p:=by
 intro k1 k2
 first
 |((with_reducible apply wx_gsplit);exact rfl;exact rfl;exact fun hb=>k1 (Tidy.out hb);exact fun hb=>k2 (Tidy.out hb))):p:=h k1 k2
theorem sXO {p q:Prop} (k:q) (h:q→p:=by exact zF rfl rfl rfl (fun D ht=>vR) (fun _=>rfl)):p:=h k
theorem sBG {p q:Prop} (k:q) (h:q→p:=by with_reducible first|exact wl_app_c|exact wl_app_n):p:=h k
theorem sI {p q:Prop} (k:q) (h:q→p:=by first|(with_reducible exact MF)|(intro k;(with_reducible apply Ov);exact rfl;exact rfl;exact vC;exact k)):p:=h k
theorem sR {p q:Prop} (k:q) (h:q→p:=by
 first
 |(with_reducible first|exact wr_seq|exact wr_ret|exact wr_exit|exact MC|exact J6|exact J5|exact uW|exact wt_seq_c|exact wt_seq_b|exact wt_seq_k|exact wt_last_r|exact Bs|exact HO|exact JD|exact JC)
 |(intro k;(with_reducible apply wr_cond_true);exact rfl;exact k)
 |(intro k;(with_reducible apply wr_cond_false);exact rfl;exact k)
 |(intro k;(with_reducible apply HP);exact rfl;(repeat (first|exact IK|exact Gl|apply no_thn|apply Py|apply no_cut));exact k)):p:=h k
theorem sCR {p q1 q2 r1 r2:Prop} (k1:q1→q2) (k2:r1→r2) (h:(q1→q2)→(r1→r2)→p:=by
 intro k1 k2
 first
 |((with_reducible apply wr_cond);exact rfl;exact fun hb=>k1 (Tidy.out hb);exact fun hb=>k2 (Tidy.out hb))):p:=h k1 k2
theorem sW {p q:Prop} (k:q) (h:q→p:=by
 first
 |(with_reducible exact OQ)
 |(intro k;(with_reducible apply fq);(iterate 3 exact rfl);exact vC;exact k)
 |(intro k;(with_reducible apply OT);(iterate 3 exact rfl);exact k)
 |(intro k;(with_reducible apply wc_gno0);exact rfl;exact k)
 |(intro k;(with_reducible apply QL);exact rfl;exact rfl;exact k)
 |(intro k;(with_reducible apply QK);(iterate 4 exact rfl);exact vC;exact k)
 |(intro k;(with_reducible apply Ee);exact mS;exact k)):p:=h k
theorem sW2 {p q:Prop} (k:q) (h:q→p:=by exact fq rfl rfl rfl vC2):p:=h k
theorem sWN {p q:Prop} (k:q) (h:q→p:=by exact fq rfl rfl rfl vA):p:=h k
theorem sWJ {p q:Prop} (k:q) (h:q→p:=by exact fq rfl rfl rfl vI):p:=h k
theorem sCW {p q1 q2 r1 r2:Prop} (k1:q1→q2) (k2:r1→r2) (h:(q1→q2)→(r1→r2)→p:=by
 intro k1 k2
 first
 |((with_reducible apply HZ);exact rfl;exact rfl;exact fun hb=>k1 (Tidy.out hb);exact fun hb=>k2 (Tidy.out hb))):p:=h k1 k2
theorem sG2 {p q:Prop} (k:q) (h:q→p:=by first|exact BC rfl (fun D ht=>vC2) (fun _=>rfl)|exact fp (f:=60) rfl (by decide+kernel) rfl vC2):p:=h k
theorem sX2 {p q:Prop} (k:q) (h:q→p:=by exact zF rfl rfl rfl (fun D ht=>vC2) (fun _=>rfl)):p:=h k
theorem zZA {p q:Prop} (k:q) (h:q→p:=by first|exact fun k=>sT k|exact fun k=>sS k|exact fun k=>sN k|fail):p:=h k
theorem zZB {p q:Prop} (k:q) (h:q→p:=by first|exact fun k=>sT k|exact fun k=>sS k|fail):p:=h k
theorem zZC {p q:Prop} (k:q) (h:q→p:=by first|exact fun k=>sT k|exact fun k=>sS k|exact fun k=>sT2 k|exact fun k=>sN k|fail):p:=h k
theorem zZD {p q:Prop} (k:q) (h:q→p:=by first|exact fun k=>sT k|exact fun k=>sP k|fail):p:=h k
theorem zZE {p q:Prop} (k:q) (h:q→p:=by first|exact fun k=>sT k|exact fun k=>sT2 k|fail):p:=h k
theorem zZF {p q:Prop} (k:q) (h:q→p:=by first|exact fun k=>sT k|exact fun k=>sS k|exact fun k=>sT2 k|fail):p:=h k
theorem zZG {p q:Prop} (k:q) (h:q→p:=by first|exact fun k=>sT k|exact fun k=>sT2 k|exact fun k=>sN k|fail):p:=h k
theorem zZH {p q:Prop} (k:q) (h:q→p:=by first|exact fun k=>sT k|exact fun k=>sS k|exact fun k=>sQ k|exact fun k=>sN k|exact fun k=>sNQ k|exact fun k=>sD k|fail):p:=h k
theorem zZI {p q:Prop} (k:q) (h:q→p:=by first|exact fun k=>sT k|exact fun k=>sS k|exact fun k=>sW k|fail):p:=h k
theorem zZJ {p q:Prop} (k:q) (h:q→p:=by first|exact fun k=>sT k|exact fun k=>sN k|exact fun k=>sO k|fail):p:=h k
theorem zZK {p q:Prop} (k:q) (h:q→p:=by first|exact fun k=>sT k|exact fun k=>sS k|exact fun k=>sW k|exact fun k=>sN k|exact fun k=>sWN k|fail):p:=h k
theorem zZL {p q:Prop} (k:q) (h:q→p:=by first|exact fun k=>sT k|exact fun k=>sS k|exact fun k=>sX k|fail):p:=h k
theorem zZM {p q:Prop} (k:q) (h:q→p:=by first|exact fun k=>sT k|exact fun k=>sS k|exact fun k=>sG k|fail):p:=h k
theorem zZN {p q:Prop} (k:q) (h:q→p:=by first|exact fun k=>sT k|exact fun k=>sT2 k|exact fun k=>sG2 k|exact fun k=>sJ k|exact fun k=>sJG k|exact fun k=>sG k|fail):p:=h k
theorem zZO {p q:Prop} (k:q) (h:q→p:=by first|exact fun k=>sT k|exact fun k=>sI k|exact fun k=>sQ k|exact fun k=>sT2 k|exact fun k=>sQ2 k|exact fun k=>sN k|exact fun k=>sNQ k|exact fun k=>sD k|fail):p:=h k
theorem zZP {p q:Prop} (k:q) (h:q→p:=by first|exact fun k=>sT k|exact fun k=>sS k|exact fun k=>sQ k|exact fun k=>sN k|exact fun k=>sNQ k|fail):p:=h k
theorem eIO {p:Prop} (h:p:=by first|exact .inl rfl|exact .inr rfl):p:=h
theorem rT0 {p q:Prop} (k:q) (h:q→p:=by intro k;(with_reducible apply iP);exact .inl rfl;exact rfl;exact MSub.nil _;exact k):p:=h k
theorem rT1 {p q:Prop} (k:q) (h:q→p:=by intro k;(with_reducible apply bJ);exact .inl rfl;exact rfl;exact rfl;exact MSub.nil _;exact k):p:=h k
theorem rT2 {p q:Prop} (k:q) (h:q→p:=by intro k;(with_reducible apply dB);exact .inl rfl;(iterate 3 exact rfl);exact MSub.nil _;exact k):p:=h k
theorem rT3 {p q:Prop} (k:q) (h:q→p:=by intro k;(with_reducible apply qa);exact .inl rfl;(iterate 4 exact rfl);exact MSub.nil _;exact k):p:=h k
theorem eRC {p q:Prop} (k:q) (h:q→p:=by first|exact Fb (.inl rfl) rfl rfl pK rfl (MSub.nil _)|exact Fb (.inr rfl) rfl rfl pK rfl (MSub.nil _)):p:=h k
theorem lU {p q:Prop} (k:q) (h:q→p:=by first|exact G9 (.inl rfl) rfl rfl pK rfl rfl (MSub.nil _)|exact G9 (.inr rfl) rfl rfl pK rfl rfl (MSub.nil _)):p:=h k
theorem cQ {p q:Prop} (k:q) (h:q→p:=by first|exact gO (.inl rfl) rfl rfl pK rfl rfl rfl (MSub.nil _)|exact gO (.inr rfl) rfl rfl pK rfl rfl rfl (MSub.nil _)):p:=h k
theorem nP {p:Prop} (h:p:=by (repeat (first|exact Ps|apply Pr|apply Pw|apply Pv));(first|done|fail)):p:=h
theorem vP {P:Program} {w0:World} {s:az} {H:List Blk} {op:Op} {ty:TypeId} {v:Value} (h:VOp P w0 s H op ty v:=by
 first|exact vC|((with_reducible apply pZ);exact rfl;exact rfl;omega;omega)|((with_reducible apply BL);exact rfl;exact rfl;omega)):VOp P w0 s H op ty v:=h
end Go.SL
namespace Go.SL
open Go Go.Proofs
attribute [local irreducible] W WL WQ WG WA VOp thn blk aV FnAt FnIn
theorem uQ {α:Type} [DecidableEq α] {L M:List α} {i:Nat} (h1:i<L.length) (h2:i<M.length):decide (L.drop i=M.drop i)=(decide (L[i]=M[i]) && decide (L.drop (i+1)=M.drop (i+1))):=by
 rw [Rn h1,Rn h2];simp only [List.cons.injEq,Bool.decide_and]
theorem Bl (L M:List Nd) (lv mv:Value) (w:World) (hl:Reads w lv L.length (L.flatMap bf)) (hm:Reads w mv M.length (M.flatMap bf)):
 aC Tryz.prog 64 [lv,mv] w (.bool (decide (L=M))):=by
 obtain ⟨Al,cl,rfl,hl1,hl2,hl3⟩:=hl;obtain ⟨Am,cm,rfl,hm1,hm2,hm3⟩:=hm;refine ay Tryz.func64 rfl Tryz.ntmps64 rfl ?_;by_cases hlen:L.length=M.length
 ·repeat' (first|refine sT ?_|refine sM fun _=>?_|(refine sC ?_ ?_<;>intro hb<;>try omega)|fail)
  refine fR (fun i:Nat=> [(0,.slice Al L.length cl),(1,.slice Am M.length cm),(5,.int .i64 (i:Int))]) (fun _=> []) (fun i=>i≤L.length∧decide (L=M)=decide (L.drop i=M.drop i)) (fun i=>L.length - i) 0 ⟨by omega,rfl⟩ ?_ ?_ ?_
  ·exact sB
  ·exact mS
  ·rintro i ⟨hi,hrec⟩;by_cases hlt:i<L.length
   ·have hlt2:i<M.length:=by omega
    obtain ⟨gl,ol,rfl,hrl⟩:=hl3 (by omega);obtain ⟨gm,om,rfl,hrm⟩:=hm3 (by omega);have he1:=hrl.elem cu i hlt;have he2:=hrm.elem cu i hlt2;rw [uQ hlt hlt2,← AW] at hrec;repeat' (first|(apply aZ;exact rfl;apply ag;exact rfl;exact rfl;(first|exact hlt|exact hlt2))|(apply aZ;exact rfl;apply bO;exact rfl;(first|exact he1|exact he2);exact rfl)|(apply aZ;exact rfl;apply rP;exact rfl;exact rfl)|(apply ai;exact rfl;apply iJ;exact rfl;exact rfl;(simp only [maxLen] at*;omega))|refine sT ?_|refine sQ ?_|refine sD ?_|refine sM fun _=>?_|(refine sC ?_ ?_<;>intro hb<;>try omega)|(refine sCQ ?_ ?_<;>intro hb<;>try omega)|fail)
    ·(refine rT1 ?_);rw [hrec,hb]
     rfl
    ·refine ⟨i+1,⟨by omega,?_⟩,by omega,?_,?_⟩
     ·rw [hrec,hb]
      rfl
     ·exact sB
     ·exact mS
   ·have e:i=L.length:=by omega
    subst e;repeat' (first|refine sT ?_|refine sM fun _=>?_|(refine sC ?_ ?_<;>intro hb<;>try omega)|fail)
    (refine rT1 ?_);rw [hrec,Sn,hlen,Sn]
    rfl
 ·repeat' (first|refine sT ?_|refine sM fun _=>?_|(refine sC ?_ ?_<;>intro hb<;>try omega)|fail)
  (refine rT1 ?_);rw [decide_eq_false];intro e;exact hlen (congrArg List.length e)
end Go.SL
namespace Go.SL
open Go Go.Proofs
attribute [local irreducible] W WL WQ WG VOp thn blk aV FnAt FnIn
set_option maxRecDepth 10000 in
theorem nO (c r:Int) (w:World):aC Tryz.prog 44 [.agg #[.int .i64 c,.int .i64 r]] w (.bool (valid c r)):=by
 refine ay Tryz.func44 rfl Tryz.ntmps44 rfl ?_;repeat' (first|refine sT ?_|refine sM fun _=>?_|(refine sC ?_ ?_<;>intro hb<;>try omega)|fail)
 all_goals ((refine rT1 ?_);((try simp only [← Int.not_lt] at*);simp_all [valid, -Int.not_lt, -Int.not_le,← Int.not_lt]))
set_option maxRecDepth 10000 in
theorem Gc (r:Rct) (w:World):aC Tryz.prog 83 [.agg (jp r).toArray] w (.tuple #[.agg #[.int .i64 r.c1,.int .i64 r.r1],.agg #[.int .i64 r.c2,.int .i64 r.r2]]):=by
 refine ay Tryz.func83 rfl Tryz.ntmps83 rfl ?_;repeat' (first|refine sT ?_|refine sM fun _=>?_|(refine sC ?_ ?_<;>intro hb<;>try omega)|fail)
 rename_i g1 g2 g3;refine uG (fun D=> [.box g2 28 [.int .i64 (bif D 10 then r.c1 else 0),.int .i64 (bif D 10 then r.r1 else 0)],.box g3 28 [.int .i64 (bif D 11 then r.c2 else 0),.int .i64 (bif D 11 then r.r2 else 0)],.box g1 61 (jp r)]) (by kernel_rfl) (by kernel_rfl) (.pick (.tl .hd) (.pick .hd (.refl _))) ?_;repeat' (first|refine sT ?_|refine sG ?_|refine sM fun _=>?_|(refine sC ?_ ?_<;>intro hb<;>try omega)|fail)
 refine EB _ _ rfl rfl (fun D=> .tl .hd) rfl rfl rfl (fun _=>Rg _) (fun D ht=> .pick (.tl .hd) (.pick .hd (.refl _))) ?_;refine zN fun D hD=> ?_;have h10:=hD 10 (by decide);have h11:=hD 11 (by decide);simp only [h10,h11,cond_true];repeat' (first|refine sT ?_|refine sM fun _=>?_|(refine sC ?_ ?_<;>intro hb<;>try omega)|fail)
 refine Qr (.inl rfl) Tryz.results83 rfl .hd rfl rfl (.tl .hd) rfl (MSub.nil _) ?_
 rfl
set_option maxRecDepth 10000 in
theorem oU (r:Rct) (w:World):aC Tryz.prog 39 [.agg (jp r).toArray] w (.int .i64 (pI r)):=by
 refine ay Tryz.func39 rfl Tryz.ntmps39 rfl ?_;repeat' (first|(apply aa;exact rfl;exact rfl;(intro w hm;exact Gc r w))|(apply aa;exact rfl;exact rfl;(intro w hm;exact nO r.c1 r.r1 w))|(apply aa;exact rfl;exact rfl;(intro w hm;exact nO r.c2 r.r2 w))|refine sT ?_|refine sM fun _=>?_|(refine sC ?_ ?_<;>intro hb<;>try omega)|fail)
 all_goals ((refine rT1 ?_);((try simp only [← Int.not_lt] at*);simp_all [pI,dL, -Int.not_lt, -Int.not_le,← Int.not_lt]))
set_option maxRecDepth 10000 in
theorem LG (fn:Int) (w:World):aC Tryz.prog 299 [.int .u8 fn] w (.bool (cV fn)):=by
 refine ay Tryz.func299 rfl Tryz.ntmps299 rfl ?_;repeat' (first|refine sT ?_|refine sM fun _=>?_|(refine sC ?_ ?_<;>intro hb<;>try omega)|fail)
 all_goals ((refine rT1 ?_);((try simp only [← Int.not_lt] at*);simp_all [cV, -Int.not_lt, -Int.not_le,← Int.not_lt]))
set_option maxRecDepth 10000 in
theorem tF (fn:Int) (w:World):aC Tryz.prog 281 [.int .u8 fn] w (.bool (jf fn)):=by
 refine ay Tryz.func281 rfl Tryz.ntmps281 rfl ?_;repeat' (first|refine sT ?_|refine sM fun _=>?_|(refine sC ?_ ?_<;>intro hb<;>try omega)|fail)
 all_goals ((refine rT1 ?_);((try simp only [← Int.not_lt] at*);simp_all [jf, -Int.not_lt, -Int.not_le,← Int.not_lt]))
set_option maxRecDepth 10000 in
theorem Mk (n:Nd) (w:World):aC Tryz.prog 252 [.agg (bf n).toArray] w (.int .i64 (below n)):=by
 refine ay Tryz.func252 rfl Tryz.ntmps252 rfl ?_;repeat' (first|refine sT ?_|refine sM fun _=>?_|(refine sC ?_ ?_<;>intro hb<;>try omega)|fail)
 all_goals ((refine rT1 ?_);simp_all [below])
set_option maxRecDepth 10000 in
theorem xD (fn:Int) (w:World):aC Tryz.prog 279 [.int .u8 fn] w (.tuple #[.int .i64 (fa fn).1,.int .i64 (fa fn).2.1,.int .i64 (fa fn).2.2]):=by
 refine ay Tryz.func279 rfl Tryz.ntmps279 rfl ?_;repeat' (first|(apply aa;exact rfl;exact rfl;(intro w hm;exact LG fn w))|refine sT ?_|refine sM fun _=>?_|(refine sC ?_ ?_<;>intro hb<;>try omega)|fail)
 all_goals ((refine rT3 ?_);simp_all [fa])
set_option maxRecDepth 10000 in
theorem GK (fn i:Int) (w:World):aC Tryz.prog 280 [.int .u8 fn,.int .i64 i] w (.tuple #[.bool (kB fn i).1,.int .i64 (kB fn i).2]):=by
 refine ay Tryz.func280 rfl Tryz.ntmps280 rfl ?_;repeat' (first|(apply aa;exact rfl;exact rfl;(intro w hm;exact xD fn w))|(apply aa;exact rfl;exact rfl;(intro w hm;exact tF fn w))|refine sT ?_|refine sM fun _=>?_|(refine sC ?_ ?_<;>intro hb<;>try omega)|fail)
 all_goals ((refine rT2 ?_);((try simp only [← Int.not_lt] at*);simp_all [kB, -Int.not_lt, -Int.not_le,← Int.not_lt]))
end Go.SL
namespace Go.SL
open Go Go.Proofs
attribute [local irreducible] W WL WQ WG WA VOp thn blk aV FnAt FnIn
def dC:List ByteArray:= [
 ⟨#[65,66,83]⟩,⟨#[83,73,71,78]⟩,⟨#[73,78,84]⟩,⟨#[84,82,85,78,67]⟩,⟨#[82,79,85,78,68]⟩,
 ⟨#[77,79,68]⟩,⟨#[80,79,87,69,82]⟩,⟨#[83,81,82,84]⟩,⟨#[83,85,77]⟩,⟨#[80,82,79,68,85,67,84]⟩,
 ⟨#[67,79,85,78,84]⟩,⟨#[67,79,85,78,84,65]⟩,⟨#[67,79,85,78,84,66,76,65,78,75]⟩,⟨#[65,86,69,82,65,71,69]⟩,⟨#[77,73,78]⟩,
 ⟨#[77,65,88]⟩,⟨#[77,69,68,73,65,78]⟩,⟨#[76,65,82,71,69]⟩,⟨#[83,77,65,76,76]⟩,⟨#[73,70]⟩,
 ⟨#[65,78,68]⟩,⟨#[79,82]⟩,⟨#[88,79,82]⟩,⟨#[78,79,84]⟩,⟨#[73,70,69,82,82,79,82]⟩,
 ⟨#[73,83,69,82,82,79,82]⟩,⟨#[73,83,66,76,65,78,75]⟩,⟨#[73,83,78,85,77,66,69,82]⟩,⟨#[73,83,84,69,88,84]⟩,⟨#[67,72,79,79,83,69]⟩,
 ⟨#[76,69,78]⟩,⟨#[76,69,70,84]⟩,⟨#[82,73,71,72,84]⟩,⟨#[77,73,68]⟩,⟨#[85,80,80,69,82]⟩,
 ⟨#[76,79,87,69,82]⟩,⟨#[84,82,73,77]⟩,⟨#[67,79,78,67,65,84]⟩,⟨#[82,69,80,84]⟩,⟨#[69,88,65,67,84]⟩,
 ⟨#[70,73,78,68]⟩,⟨#[86,65,76,85,69]⟩,⟨#[73,78,68,69,88]⟩,⟨#[77,65,84,67,72]⟩,⟨#[67,79,85,78,84,73,70]⟩,
 ⟨#[68,83,85,77]⟩,⟨#[68,67,79,85,78,84]⟩,⟨#[68,65,86,71]⟩,⟨#[68,77,73,78]⟩,⟨#[68,77,65,88]⟩]
theorem Lh (w:World):aC Tryz.prog 333 [] w (.agg (dC.map Value.string).toArray):=by
 refine ay Tryz.func333 rfl Tryz.ntmps333 rfl ?_;repeat' (first|(apply BA;(iterate 5 exact rfl))|refine sT ?_|refine sM fun _=>?_|(refine sC ?_ ?_<;>intro hb<;>try omega)|fail)
 exact Fb (.inl rfl) Tryz.results333 rfl .hd rfl (MSub.nil _) rfl
theorem Ro.str1 {w:World} {g o:Nat} {L:List ByteArray} (h:Ro w g o (L.map Value.string)) (i:Nat) (hi:i<L.length):Ro w g (o+i*1) [Value.string L[i]]:=by
 have h1:=(h.drop (k:=i)).take (k:=1);rw [← List.map_drop,← List.map_take,Rn hi] at h1;rw [RV];exact h1
def eM:List ByteArray→ByteArray→Int→Int
 | [],_,_=> -1
 |a::r,s,i=>if s=a then i else eM r s (i+1)
theorem Mv (L:List ByteArray) (b:ByteArray) (tv:Value) (w:World) (ht:Reads w tv L.length (L.map Value.string)):aC Tryz.prog 334 [tv,.string b] w (.int .i64 (eM L b 0)):=by
 obtain ⟨Al,cl,rfl,hl1,hl2,hl3⟩:=ht;refine ay Tryz.func334 rfl Tryz.ntmps334 rfl ?_;repeat' (first|refine sT ?_|refine sM fun _=>?_|(refine sC ?_ ?_<;>intro hb<;>try omega)|fail)
 refine fR (fun i:Nat=> [(0,.slice Al L.length cl),(1,.string b),(7,.int .i64 (L.length:Int)),(8,.int .i64 (i:Int))]) (fun _=> []) (fun i=>i≤L.length∧eM L b 0=eM (L.drop i) b (i:Int)) (fun i=>L.length - i) 0 ⟨by omega,rfl⟩ ?_ ?_ ?_
 ·exact sB
 ·exact mS
 ·rintro i ⟨hi,hrec⟩;by_cases hlt:i<L.length
  ·obtain ⟨gl,ol,rfl,hrl⟩:=hl3 (by omega);have he:=hrl.str1 i hlt;rw [Rn hlt,eM] at hrec;repeat' (first|(apply ai;exact rfl;apply ag;exact rfl;exact rfl;exact hlt)|(apply ai;exact rfl;apply bp;exact rfl;exact he)|(apply ai;exact rfl;apply iJ;exact rfl;exact rfl;(simp only [maxLen] at*;omega))|refine sT ?_|refine sM fun _=>?_|(refine sC ?_ ?_<;>intro hb<;>try omega)|fail)
   ·(refine rT1 ?_);rw [hrec,if_pos hb]
   ·refine ⟨i+1,⟨by omega,?_⟩,by omega,?_,?_⟩
    ·rw [hrec,if_neg hb]
     rfl
    ·exact sB
    ·exact mS
  ·have e:i=L.length:=by omega
   subst e;repeat' (first|refine sT ?_|refine sM fun _=>?_|(refine sC ?_ ?_<;>intro hb<;>try omega)|fail)
   (refine rT1 ?_);rw [hrec,Sn,eM]
theorem jw:dC.length=50:=rfl
theorem jy (L:List ByteArray) (b:ByteArray) (i:Int) (h:0≤i):eM L b i= -1∨(i≤eM L b i∧eM L b i<i+L.length):=by
 induction L generalizing i with
 |nil=>exact .inl rfl
 |cons a r ih=>
  unfold eM;rw [Rk];split
  ·right;omega
  ·rcases ih (i+1) (by omega) with h1|h1
   ·exact .inl h1
   ·right;omega
def aY (b:ByteArray):Int × Int:=if eM dC b 0<0 then (0,6) else (eM dC b 0+1,0)
theorem Ep (b:ByteArray) (w:World):aC Tryz.prog 324 [.string b] w (.tuple #[.int .u8 (aY b).1,.int .i64 (aY b).2]):=by
 refine ay Tryz.func324 rfl Tryz.ntmps324 rfl ?_;have hb1:=jy dC b 0 (by omega);rw [jw] at hb1;have hix:=fun w tv (h:Reads w tv (dC.map Value.string).length (dC.map Value.string))=>Mv dC b tv w h;unfold aY;generalize eM dC b 0=r at hb1 hix;repeat' (first|(apply aa;exact rfl;exact rfl;(intro w hm;exact Lh w))|(apply ai;exact rfl;apply BK;exact rfl)|(apply aa;exact rfl;exact rfl;(intro w' hm;exact hix w' _ (Reads.of_box hm pK rfl)))|(apply ai;exact rfl;apply eP;exact rfl;exact rfl;exact I64.wrap ⟨by omega,by omega⟩)|(apply ai;exact rfl;apply yA;exact rfl;exact fI (by omega) (by omega))|refine sT ?_|refine sM fun _=>?_|(refine sC ?_ ?_<;>intro hb<;>try omega)|fail)
 ·refine dB (.inl rfl) Tryz.results324 rfl rfl (.nil _) ?_;rw [if_pos hb]
 ·refine dB (.inl rfl) Tryz.results324 rfl rfl (.nil _) ?_;rw [if_neg (by omega)]
end Go.SL
namespace Go.SL
open Go Go.Proofs
attribute [local irreducible] W WL WQ WG WA VOp thn blk bH aV FnAt FnIn
theorem Bj (L M:List Us) (lv mv:Value) (w:World) (hl:Reads w lv L.length (L.flatMap cP)) (hm:Reads w mv M.length (M.flatMap cP)):
 aC Tryz.prog 63 [lv,mv] w (.bool (decide (L=M))):=by
 obtain ⟨Al,cl,rfl,hl1,hl2,hl3⟩:=hl;obtain ⟨Am,cm,rfl,hm1,hm2,hm3⟩:=hm;refine ay Tryz.func63 rfl Tryz.ntmps63 rfl ?_;by_cases hlen:L.length=M.length
 ·repeat' (first|refine sT ?_|refine sM fun _=>?_|(refine sC ?_ ?_<;>intro hb<;>try omega)|fail)
  refine fR (fun i:Nat=> [(0,.slice Al L.length cl),(1,.slice Am M.length cm),(5,.int .i64 (i:Int))]) (fun _=> []) (fun i=>i≤L.length∧decide (L=M)=decide (L.drop i=M.drop i)) (fun i=>L.length - i) 0 ⟨by omega,rfl⟩ ?_ ?_ ?_
  ·exact sB
  ·exact mS
  ·rintro i ⟨hi,hrec⟩;by_cases hlt:i<L.length
   ·have hlt2:i<M.length:=by omega
    obtain ⟨gl,ol,rfl,hrl⟩:=hl3 (by omega);obtain ⟨gm,om,rfl,hrm⟩:=hm3 (by omega);have he1:=hrl.elem kW i hlt;have he2:=hrm.elem kW i hlt2;rw [uQ hlt hlt2,← NT] at hrec;repeat' (first|(apply aZ;exact rfl;apply ag;exact rfl;exact rfl;(first|exact hlt|exact hlt2))|(apply aZ;exact rfl;apply bO;exact rfl;(first|exact he1|exact he2);exact rfl)|(apply aZ;exact rfl;apply O2;exact rfl;exact rfl)|(apply ai;exact rfl;apply iJ;exact rfl;exact rfl;(simp only [maxLen] at*;omega))|refine sT ?_|refine sQ ?_|refine sD ?_|refine sM fun _=>?_|(refine sC ?_ ?_<;>intro hb<;>try omega)|(refine sCQ ?_ ?_<;>intro hb<;>try omega)|fail)
    ·(refine rT1 ?_);rw [hrec,hb]
     rfl
    ·refine ⟨i+1,⟨by omega,?_⟩,by omega,?_,?_⟩
     ·rw [hrec,hb]
      rfl
     ·exact sB
     ·exact mS
   ·have e:i=L.length:=by omega
    subst e;repeat' (first|refine sT ?_|refine sM fun _=>?_|(refine sC ?_ ?_<;>intro hb<;>try omega)|fail)
    (refine rT1 ?_);rw [hrec,Sn,hlen,Sn]
    rfl
 ·repeat' (first|refine sT ?_|refine sM fun _=>?_|(refine sC ?_ ?_<;>intro hb<;>try omega)|fail)
  (refine rT1 ?_);rw [decide_eq_false];intro e;exact hlen (congrArg List.length e)
def gG (n:Nd):Bool:=decide (n.kind=2)||decide (n.kind=3)
theorem IP (n:Nd) (w:World):aC Tryz.prog 153 [.agg (bf n).toArray] w (.bool (gG n)):=by
 refine ay Tryz.func153 rfl Tryz.ntmps153 rfl ?_;repeat' (first|refine sT ?_|refine sM fun _=>?_|(refine sC ?_ ?_<;>intro hb<;>try omega)|fail)
 all_goals
  (refine rT1 ?_);simp [gG, *]
def qW (a b:Rct):Rct:=⟨if a.c1<b.c1 then b.c1 else a.c1,if a.r1<b.r1 then b.r1 else a.r1,if b.c2<a.c2 then b.c2 else a.c2,if b.r2<a.r2 then b.r2 else a.r2⟩
def y4 (a b:Rct):Rct × Bool:=if [a,b,qW a b].all dL=true then (qW a b,true) else (aS,false)
end Go.SL
namespace Go.SL
open Go Go.Proofs
attribute [local irreducible] W WL WQ WG WA VOp thn blk bH aV FnAt FnIn WLI WR WT bP xC pd rZ
def vH (r:Rct) (u:Us):Bool:=(y4 u.rect r).2
end Go.SL
namespace Go.SL
open Go Go.Proofs
attribute [local irreducible] W WL WQ WG WA VOp thn blk bH aV FnAt FnIn Mw
theorem v8 (r:Rct):dL r=true↔1≤r.c1∧r.c1≤1024∧1≤r.r1∧r.r1≤1024∧1≤r.c2∧r.c2≤1024∧1≤r.r2∧r.r2≤1024∧r.c1≤r.c2∧r.r1≤r.r2:=by
 simp only [dL,valid,RB,decide_eq_true_eq];omega
theorem Ik (r:Rct) (u:Us):vH r u=true↔dL u.rect=true∧dL r=true∧u.rect.c1≤r.c2∧r.c1≤u.rect.c2∧u.rect.r1≤r.r2∧r.r1≤u.rect.r2:=by
 have h:vH r u= [u.rect,r,qW u.rect r].all dL:=by
  unfold vH y4;cases [u.rect,r,qW u.rect r].all dL<;>simp
 rw [h];simp only [Uu,List.all_nil,SD,RB,v8];generalize u.rect=a;unfold qW;dsimp only;repeat' split
 all_goals omega
end Go.SL
namespace Go.SL
open Go Go.Proofs
attribute [local irreducible] W WL WQ WG WA VOp thn blk aV FnAt FnIn
theorem jl {L:List Nd} {i:Nat} (h:i<L.length):jm L i=L[i].kind:=by simp [jm,h]
theorem NQ (L:List Nd) (n:Nd) (ps:List Pt) (tv lv:Value) (w:World) (ht:Reads w tv L.length (L.flatMap bf)) (hp:Reads w lv ps.length (ps.flatMap sU)) (hroot: ∀ p∈ps,p.root<L.length) (hlen:ps.length≤1000000):
 aC Tryz.prog 253 [tv,.agg (bf n).toArray,lv] w (.bool (eG L n 0 ps)):=by
 obtain ⟨At,ct,rfl,ht1,ht2,ht3⟩:=ht;obtain ⟨Al,cl,rfl,hl1,hl2,hl3⟩:=hp;refine ay Tryz.func253 rfl Tryz.ntmps253 rfl ?_;repeat' (first|refine sT ?_|refine sM fun _=>?_|(refine sC ?_ ?_<;>intro hb<;>try omega)|fail)
 rename_i gn
 refine fR (fun i:Nat=> [(0,.slice At L.length ct),(4,.pointer (some ⟨gn,0,none⟩)),(11,.slice Al ps.length cl),(12,.int .i64 (ps.length:Int)),(13,.int .i64 (i:Int))])
  (fun i=> [.box gn 123 (bf n)]) (fun i=>i≤ps.length∧eG L n 0 ps=eG L n (i:Int) (ps.drop i)) (fun i=>ps.length - i) 0 ⟨by omega,rfl⟩ ?_ ?_ ?_
 ·exact sB
 ·exact mS
 ·rintro i ⟨hi,hrec⟩;by_cases hlt:i<ps.length
  ·obtain ⟨g,o,rfl,hro⟩:=hl3 (by omega);have hrp:=hro.elem oM i hlt;have hr0:=hroot ps[i] (RL hlt);obtain ⟨gt,ot,rfl,hrt⟩:=ht3 (by omega);have hrn:=hrt.elem cu ps[i].root hr0;rw [Rn hlt,eG,sK,jl hr0] at hrec;repeat' (first|(apply ai;exact rfl;apply ag;exact rfl;exact rfl;first|exact hlt|exact hr0)|(apply ai;exact rfl;apply bO;exact rfl;exact hrp;exact rfl)|(apply ai;exact rfl;apply dS;exact rfl;exact hrn;exact rfl)|(apply ai;exact rfl;apply lh;exact rfl;exact rfl;(constructor<;>omega))|(apply aa;exact rfl;exact rfl;(intro w hm;exact GK n.fn (i:Int) w))|(apply aa;exact rfl;exact rfl;(intro w hm;exact tF n.fn w))|refine sT ?_|refine sM fun _=>?_|(refine sC ?_ ?_<;>intro hb<;>try omega)|fail)
   all_goals first
    |((refine rT1 ?_);rw [hrec];simp_all [Dl];done)
    |(refine ⟨i+1,⟨by omega,?_⟩,by omega,?_,?_⟩;(focus (rw [hrec,Int.natCast_add];simp [Dl, *]));(focus exact sB);(focus exact mS))
  ·have e:i=ps.length:=by omega
   subst e;rw [Sn,eG] at hrec;repeat' (first|refine sT ?_|refine sM fun _=>?_|(refine sC ?_ ?_<;>intro hb<;>try omega)|fail)
   (refine rT1 ?_);rw [hrec]
end Go.SL
namespace Go.SL
open Go Go.Proofs
attribute [local irreducible] W WL WQ WG WA WX WLI WR WT VOp thn blk bH scp aV bP FnAt FnIn
theorem lG (c:Int) (w:World):aC Tryz.prog 236 [.int .u8 c] w (.bool (aH c)):=by
 refine ay Tryz.func236 rfl Tryz.ntmps236 rfl ?_;repeat' (first|refine sT ?_|refine sM fun _=>?_|(refine sC ?_ ?_<;>intro hb<;>try omega)|fail)
 all_goals ((refine rT1 ?_);((try simp only [← Int.not_lt] at*);simp_all [aH, -Int.not_lt, -Int.not_le,← Int.not_lt]))
theorem qX (c:Int) (w:World):aC Tryz.prog 238 [.int .u8 c] w (.bool (bT c)):=by
 refine ay Tryz.func238 rfl Tryz.ntmps238 rfl ?_;repeat' (first|refine sT ?_|refine sM fun _=>?_|(refine sC ?_ ?_<;>intro hb<;>try omega)|fail)
 all_goals ((refine rT1 ?_);(try simp only [← Int.not_lt] at*);simp_all [bT, -Int.not_lt, -Int.not_le,← Int.not_lt];try omega)
theorem Jn (c:Int) (w:World):aC Tryz.prog 274 [.int .u8 c] w (.bool (cY c)):=by
 refine ay Tryz.func274 rfl Tryz.ntmps274 rfl ?_;repeat' (first|(apply aa;exact rfl;exact rfl;(intro w hm;exact qX c w))|(apply aa;exact rfl;exact rfl;(intro w hm;exact lG c w))|refine sT ?_|refine sM fun _=>?_|(refine sC ?_ ?_<;>intro hb<;>try omega)|fail)
 all_goals ((refine rT1 ?_);simp_all [cY])
def jh (p:Int→Bool) (l:List Int):List Int:=l.take (aG p l)
theorem C8 {p:Int→Bool} {c:Int} {r:List Int} (h:p c=true):jh p (c::r)=c::jh p r:=by simp [jh,aG,h]
theorem C0 {p:Int→Bool} {c:Int} {r:List Int} (h:p c=false):jh p (c::r)= []:=by simp [jh,aG,h]
theorem x9 (p:Int→Bool) (l:List Int):(jh p l).length=aG p l:=by
 simp [jh,Tm (bY p l)]
theorem IZ (a:ByteArray) (ha:a.size≤1000000) (i0:Nat) (hi0:i0≤a.size) (fis:FuncId) [Callable Tryz.prog fis] (p:Int→Bool) (hf: ∀ c w,aC Tryz.prog fis [.int .u8 c] w (.bool (p c))) (w0:World) (g4 g3 g5:Nat):
 PP Tryz.prog 293 [.pointer (some ⟨g4,0,none⟩),.pointer (some ⟨g3,0,none⟩),.pointer (some ⟨g5,0,none⟩)] w0 [.box g4 3 [.int .i64 (i0:Int)],.box g3 9 [.string a],.box g5 300 [.func (.func fis) #[] #[]]] (jh p ((ap a).drop i0)) (fun c=> [.int .u8 c]):=by
 intro l I J H0 hy h0;refine FnIn.msub (H' := [.box g4 3 [.int .i64 (i0:Int)],.box g3 9 [.string a],.box g5 300 [.func (.func fis) #[] #[]]]++H0) ?_ MSub.swap;refine bF Tryz.func293 rfl Tryz.ntmps293 rfl ?_;repeat' (first|refine zZE ?_|refine sM fun _=>?_|(refine sC ?_ ?_<;>intro hb<;>try omega)|fail)
 refine fR (fun y:Nat × List Int × List Blk=> [(0,.func (.yield l) #[] #[]),(1,.pointer (some ⟨g4,0,none⟩)),(2,.pointer (some ⟨g3,0,none⟩)),(3,.pointer (some ⟨g5,0,none⟩)),(5,.int .i64 (y.1:Int))])
  (fun y=> [.box g4 3 [.int .i64 (i0:Int)],.box g3 9 [.string a],.box g5 300 [.func (.func fis) #[] #[]]]++y.2.2)
  (fun y=>y.1≤a.size∧jh p ((ap a).drop i0)=y.2.1++jh p ((ap a).drop y.1)∧I y.2.1 y.2.2) (fun y=>a.size - y.1) (i0,[],H0) ⟨hi0,rfl,h0⟩ sB (MSub.refl _) ?_
 rintro ⟨i,pre,H1⟩ ⟨hi,hus,hI⟩;dsimp only at hi hus hI ⊢;by_cases hlt:i<a.size
 ·rw [bi hlt] at hus;have hfc:=fun w=>hf (bat a i) w;cases hp:p (bat a i)
  ·rw [hp] at hfc;rw [C0 hp,Rc] at hus;repeat' (first|(apply ym;exact rfl;exact rfl;infer_instance;exact rfl;(intro w' _;exact hfc w'))|refine zZO ?_|refine sM fun _=>?_|(refine sC ?_ ?_<;>intro hb<;>try omega)|(refine sCQ ?_ ?_<;>intro hb<;>try omega)|fail)
   exact iP (.inr rfl) rfl (.refl _) ⟨H1,.inl (hus ▸ hI),MSub.swap⟩
  ·rw [hp] at hfc;rw [C8 hp] at hus;repeat' (first|(apply ym;exact rfl;exact rfl;infer_instance;exact rfl;(intro w' _;exact hfc w'))|(apply oR (id:=3))|(apply Ov;exact rfl;exact rfl;apply aX;exact rfl;exact rfl;exact hlt)|refine zZO ?_|refine sM fun _=>?_|(refine sC ?_ ?_<;>intro hb<;>try omega)|(refine sCQ ?_ ?_<;>intro hb<;>try omega)|fail)
   (with_reducible apply mL)
   ·exact rfl
   ·exact rfl
   ·exact rfl
   ·exact MSub.swapN
   ·exact fun w hm=>hy pre (bat a i) _ hus H1 [] hI w hm
   intro bb H2 hq;cases bb
   ·repeat' (first|refine sT ?_|refine sI ?_|refine sT2 ?_|refine sM fun _=>?_|(refine sC ?_ ?_<;>intro hb<;>try omega)|fail)
    exact iP eIO rfl (.refl _) ⟨H2,.inr ⟨_,hq⟩,by rw [Rc];exact .refl _⟩
   ·repeat' (first|refine sT ?_|refine sI ?_|refine sT2 ?_|refine sN ?_|refine sM fun _=>?_|(refine sC ?_ ?_<;>intro hb<;>try omega)|fail)
    refine ⟨(i+1,_,H2),⟨hlt,hus.trans (by rw [List.append_assoc];rfl),hq⟩,(by dsimp only;omega),sB,?_⟩;exact MSub.swapN'
 ·have e:i=a.size:=by omega
  subst e;have hl:=av a;rw [RK (i:=a.size) (by omega),show jh p []= [] from rfl,Rc] at hus;repeat' (first|refine zZO ?_|refine sM fun _=>?_|(refine sC ?_ ?_<;>intro hb<;>try omega)|(refine sCQ ?_ ?_<;>intro hb<;>try omega)|fail)
  exact iP (.inr rfl) rfl (.refl _) ⟨H1,.inl (hus ▸ hI),MSub.swap⟩
theorem KY (a:ByteArray) (i0:Nat) (fis:FuncId) (w:World):
 FnAt Tryz.prog 273 [.string a,.int .i64 (i0:Int),.func (.func fis) #[] #[]] w fun v H=> ∃ g4 g3 g5,v= .func (.func 293) #[] #[.pointer (some ⟨g4,0,none⟩),.pointer (some ⟨g3,0,none⟩),.pointer (some ⟨g5,0,none⟩)]∧H= [.box g4 3 [.int .i64 (i0:Int)],.box g3 9 [.string a],.box g5 300 [.func (.func fis) #[] #[]]]:=by
 refine ay Tryz.func273 rfl Tryz.ntmps273 rfl ?_;repeat' (first|refine sT ?_|refine sM fun _=>?_|(refine sC ?_ ?_<;>intro hb<;>try omega)|fail)
 rename_i g3 g4 g5;exact bJ (.inl rfl) rfl rfl (H' := [.box g4 3 [.int .i64 (i0:Int)],.box g3 9 [.string a],.box g5 300 [.func (.func fis) #[] #[]]]) mS ⟨g4,g3,g5,rfl,rfl⟩
theorem su (a:ByteArray) (ha:a.size≤1000000) (i0:Nat) (hi0:i0≤a.size) (fis:FuncId) [Callable Tryz.prog fis] (p:Int→Bool) (hf: ∀ c w,aC Tryz.prog fis [.int .u8 c] w (.bool (p c))) (w:World):
 aC Tryz.prog 235 [.string a,.int .i64 (i0:Int),.func (.func fis) #[] #[]] w (.int .i64 (aG p ((ap a).drop i0):Int)):=by
 refine tU Tryz.func235 rfl Tryz.ntmps235 (by rfl) ?_;refine uW ?_;repeat' (first|(apply aK;exact rfl;exact rfl;(intro w' hm;exact KY a i0 fis w');(rintro v H' ⟨g4,g3,g5,rfl,rfl⟩))|refine sT ?_|refine sR ?_|refine sM fun _=>?_|(refine sC ?_ ?_<;>intro hb<;>try omega)|(refine sCR ?_ ?_<;>intro hb<;>try omega)|fail)
 rename_i gn;have hpl:=x9 p ((ap a).drop i0);have hll:=av a;have hrl:=bY p ((ap a).drop i0);rw [RE] at hrl;rw [← hpl]
 refine Br (ps:= [12]) (us:=jh p ((ap a).drop i0)) (encs:=fun c=> [.int .u8 c]) (Hc:= [.box g4 3 [.int .i64 (i0:Int)],.box g3 9 [.string a],.box g5 300 [.func (.func fis) #[] #[]]]) (HU0:= [.box gn 3 [.int .i64 0]]) rfl (fun _=>rfl) rfl (IZ a ha i0 hi0 fis p hf w g4 g3 g5)
  (fun pre HU=>HU= [.box gn 3 [.int .i64 (pre.length:Int)]]) (fun _=>False) MSub.swap rfl ?_ ?_ ?_
 ·rintro l pre u post hus _ rfl F F';have hlu:=congrArg List.length hus;simp only [QT,Rk] at hlu;change WR _ _ _ l _ _ ((12,Value.int .u8 u)::_) (.box gn 3 [.int .i64 (pre.length:Int)]::F);repeat' (first|refine sT ?_|refine sR ?_|refine sM fun _=>?_|(refine sC ?_ ?_<;>intro hb<;>try omega)|(refine sCR ?_ ?_<;>intro hb<;>try omega)|fail)
  refine Eh ⟨[.box gn 3 [.int .i64 (pre.length:Int)]],MSub.refl _,?_⟩;change WR _ _ _ l _ _ _ (.box gn 3 [.int .i64 (pre.length:Int)]::F');repeat' (first|refine sT ?_|refine sR ?_|refine sN ?_|refine sM fun _=>?_|(refine sC ?_ ?_<;>intro hb<;>try omega)|(refine sCR ?_ ?_<;>intro hb<;>try omega)|fail)
  refine G8 [.box gn 3 [.int .i64 ((pre.length+1:Nat):Int)]] ?_ (by rw [QT];rfl);change MSub (_::F') _;exact mS
 ·rintro D _ rfl;change bP _ _ _ _ _ (kn D:: .box gn 3 [.int .i64 ((jh p ((ap a).drop i0)).length:Int)]::_);repeat' (first|refine sT ?_|refine sR ?_|refine sM fun _=>?_|(refine sC ?_ ?_<;>intro hb<;>try omega)|(refine sCR ?_ ?_<;>intro hb<;>try omega)|fail)
  refine DU .hd ?_;exact bJ (.inl rfl) rfl rfl (MSub.nil _) rfl
 ·rintro D HU h;exact h.elim
end Go.SL
namespace Go.SL
open Go
def iC (op:Int):Int:=
 if 7≤op∧op≤12 then 1 else if op=6 then 2 else if op=1∨op=2 then 3 else if op=3∨op=4 then 4 else if op=5 then 6 else if op=13 then 7 else 0
structure PS where
 l:List Tk
 out:List Nd
def hdT (fin:Int) (l:List Tk):Tk:=l.headD { dA with at_:=fin }
def PS.skip (p:PS):PS:=⟨p.l.tail,p.out⟩
def PS.put (p:PS) (n:Nd):PS:=⟨p.l,p.out++ [n]⟩
inductive Job where
 |level (k:Int)
 |loop (k:Int)
 |sign
 |pct
 |pctl
 |prim
 |args (fn:Int) (n:Nat)
abbrev Out:=Except (Int × Int) (Nat × PS)
def dY (kind op:Int):Nd:=⟨kind,bK,aS,op,0,0⟩
def gK (r:Option Out) (k:Nat→PS→Option Out):Option Out:=
 match r with
 |some (.ok (n,p))=>k n p
 |r=>r
def nA (t:Tk):Nd:=
 ⟨1,if t.kind=1 then ⟨1,t.num,ax⟩ else if t.kind=2 then ⟨3,0,t.text⟩ else if t.kind=3 then ⟨2,t.num,ax⟩ else ⟨4,t.num,ax⟩,aS,0,0,0⟩
def dz (fin:Int) (name:Tk) (fn:Int) (n:Nat) (p:PS):Option Out:=
 let t:=hdT fin p.l
 if t.kind≠10 then some (.error (t.at_,4))
 else if (n:Int)<(fa fn).1∨(fa fn).2.1<(n:Int) then some (.error (name.at_,11))
 else if 46≤fn∧(p.out.getLast?.map fun x=>decide (x.kind=2∨x.kind=3))≠some true then some (.error (name.at_,4))
 else some (.ok (0,p.skip.put ⟨7,bK,aS,0,fn,n⟩))
def bw (fin:Int):Nat→Job→PS→Option Out
 |0,_,_=>none
 |f+1,.level k,p=>if k=5 then bw fin f .sign p else gK (bw fin f (.level (k+1)) p) fun _ p=>bw fin f (.loop k) p
 |f+1,.loop k,p=>
  let t:=hdT fin p.l
  if t.kind=8∧iC t.num=k then gK (bw fin f (.level (k+1)) p.skip) fun _ p=>bw fin f (.loop k) (p.put (dY 6 t.num))
  else some (.ok (0,p))
 |f+1,.sign,p=>
  let t:=hdT fin p.l
  if t.kind=8∧t.num=2 then gK (bw fin f .sign p.skip) fun _ p=>some (.ok (0,p.put (dY 4 0)))
  else gK (bw fin f .pct p) fun _ p=>
   let u:=hdT fin p.l
   if u.kind=8∧u.num=5 then gK (bw fin f .sign p.skip) fun _ p=>some (.ok (0,p.put (dY 6 5)))
   else some (.ok (0,p))
 |f+1,.pct,p=>gK (bw fin f .prim p) fun _ p=>bw fin f .pctl p
 |f+1,.pctl,p=>
  let t:=hdT fin p.l
  if t.kind=8∧t.num=13 then bw fin f .pctl (p.skip.put (dY 5 0)) else some (.ok (0,p))
 |f+1,.prim,p=>
  let t:=hdT fin p.l
  if 1≤t.kind∧t.kind≤4 then some (.ok (0,p.skip.put (nA t)))
  else if t.kind=5 then some (.ok (0,p.skip.put ⟨2,bK,t.rect,0,0,0⟩))
  else if t.kind=9 then gK (bw fin f (.level 1) p.skip) fun _ p=>
   let u:=hdT fin p.l
   if u.kind≠10 then some (.error (u.at_,4)) else some (.ok (0,p.skip))
  else if t.kind=7 then
   if (aY t.text).2≠0 then some (.error (t.at_,10))
   else
    let u:=hdT fin p.skip.l
    if u.kind≠9 then some (.error (u.at_,4))
    else if (hdT fin p.skip.skip.l).kind=10 then dz fin t (aY t.text).1 0 p.skip.skip
    else gK (bw fin f (.args (aY t.text).1 0) p.skip.skip) fun n p=>dz fin t (aY t.text).1 n p
  else some (.error (t.at_,4))
 |f+1,.args fn n,p=>
  let t:=hdT fin p.l;let go:=fun (p:PS)=>if (hdT fin p.l).kind=11 then bw fin f (.args fn (n+1)) p.skip else some (.ok (n+1,p))
  if t.kind≠6 then gK (bw fin f (.level 1) p) fun _ p=>go p
  else if (kB fn n).1=false∨(kB fn n).2≠0 then some (.error (t.at_,4))
  else go (p.skip.put ⟨3,bK,t.rect,0,0,0⟩)
end Go.SL
namespace Go.SL
open Go Go.Proofs
attribute [local irreducible] W WL WQ WG WA VOp thn blk aV FnAt FnIn
def gY (fn:Int):ByteArray:=if 51≤fn then ax else (ax::dC).getD fn.toNat ax
theorem wrap_i64 {a:Int} (h1:0≤a) (h2:a≤255):IntKind.i64.wrap a=a:=I64.wrap ⟨by omega,by omega⟩
theorem ng (fn:Int) (h0:0≤fn) (h1:fn≤255) (w:World):aC Tryz.prog 307 [.int .u8 fn] w (.string (gY fn)):=by
 obtain ⟨j,rfl⟩:=Uw h0;refine ay Tryz.func307 rfl Tryz.ntmps307 rfl ?_;have hg: ∀ h:j<51,((ax::dC).map Value.string)[0+j*1]? =some (.string ((ax::dC).getD j ax)):=by
  intro h;have:j<(ax::dC).length:=h;rw [show 0+j*1=j by omega];simp only [Rj,RJ,QU this]
  rfl
 repeat' (first|(apply ai;exact rfl;apply yA;exact rfl;exact wrap_i64 h0 h1)|(apply ai;exact rfl;apply ag (j:=j);exact rfl;exact rfl;omega)|(apply ai;exact rfl;apply aq;exact rfl;exact pK;exact hg (by omega))|refine sT ?_|refine sM fun _=>?_|(refine sC ?_ ?_<;>intro hb<;>try omega)|fail)
 ·(refine rT1 ?_);rw [gY,if_pos (by omega)]
  rfl
 ·(refine rT1 ?_);rw [gY,if_neg (by omega)]
  rfl
theorem CH {i:Nat} (h:i<50):gY ((i:Int)+1)=dC[i]'h:=by
 have h2:i<dC.length:=h;rw [gY,if_neg (by omega),show ((i:Int)+1).toNat=i+1 by omega];simp [h2]
 rfl
theorem v7 (b:ByteArray) (w:World):aC Tryz.prog 331 [.string b] w (.tuple #[.int .u8 (aY b).1,.int .i64 (aY b).2]):=by
 refine ay Tryz.func331 rfl Tryz.ntmps331 rfl ?_;repeat' (first|refine sT ?_|refine sM fun _=>?_|(refine sC ?_ ?_<;>intro hb<;>try omega)|fail)
 refine fR (fun i:Nat=> [(0,.string b),(4,.int .u8 ((i:Int)+1))]) (fun _=> []) (fun i=>i≤50∧eM dC b 0=eM (dC.drop i) b (i:Int)) (fun i=>50 - i) 0 ⟨by omega,rfl⟩ ?_ ?_ ?_
 ·exact sB
 ·exact mS
 ·rintro i ⟨hi,hrec⟩;by_cases hlt:i<50
  ·have hl:i<dC.length:=hlt;have hr: ∀ w,aC Tryz.prog 307 [.int .u8 ((i:Int)+1)] w (.string (dC[i]'hl)):=fun w=>CH hlt ▸ ng _ (by omega) (by omega) w;rw [Rn hl,eM] at hrec;repeat' (first|(apply aa;exact rfl;exact rfl;(intro w hm;exact hr w))|(apply ai;exact rfl;apply eP (c:=((i+1:Nat):Int)+1);exact rfl;exact rfl;exact fI (by omega) (by omega))|refine sT ?_|refine sM fun _=>?_|(refine sC ?_ ?_<;>intro hb<;>try omega)|fail)
   ·refine dB (.inl rfl) Tryz.results331 rfl rfl (.nil _) ?_;rw [aY,hrec,if_pos hb.symm,if_neg (by omega)]
   ·refine ⟨i+1,⟨by omega,?_⟩,by omega,?_,?_⟩
    ·rw [hrec,if_neg (fun h=>hb h.symm)]
     rfl
    ·exact sB
    ·exact mS
  ·have e:i=50:=by omega
   subst e;repeat' (first|refine sT ?_|refine sM fun _=>?_|(refine sC ?_ ?_<;>intro hb<;>try omega)|fail)
   refine dB (.inl rfl) Tryz.results331 rfl rfl (.nil _) ?_;rw [aY,hrec]
   rfl
def bQ (fn:Int):Int × Int:=
 if fn=5∨fn=6∨fn=7∨fn=25∨fn=39∨fn=40∨fn=18∨fn=19∨fn=45∨fn=44 then (2,2)
 else if fn=20∨fn=41∨fn=43 then (2,3)
 else if fn=32∨fn=33 then (1,2)
 else if fn=34 then (3,3)
 else if fn=21∨fn=22∨fn=23∨fn=38∨fn=9∨fn=10∨fn=11∨fn=12∨fn=14∨fn=15∨fn=16∨fn=17 then (1,16)
 else if fn=30 then (2,16)
 else (1,1)
set_option maxRecDepth 10000 in
theorem lr (fn:Int) (w:World):aC Tryz.prog 308 [.int .u8 fn] w (.tuple #[.int .i64 (bQ fn).1,.int .i64 (bQ fn).2]):=by
 refine ay Tryz.func308 rfl Tryz.ntmps308 rfl ?_;repeat' (first|refine sT ?_|refine sM fun _=>?_|(refine sC ?_ ?_<;>intro hb<;>try omega)|fail)
 all_goals ((refine rT2 ?_);simp_all [bQ])
def fX (fn i:Int):Bool:=
 if i<0∨(bQ fn).2≤i then false
 else if fn=9∨fn=10∨fn=11∨fn=12∨fn=14∨fn=15∨fn=16∨fn=17 then true
 else if fn=13∨fn=18∨fn=19∨fn=45∨fn=43 then decide (i=0)
 else if fn=44 then decide (i=1)
 else decide (46≤fn) && decide (fn≤50)
set_option maxRecDepth 10000 in
theorem vY (fn i:Int) (w:World):aC Tryz.prog 321 [.int .u8 fn,.int .i64 i] w (.bool (fX fn i)):=by
 refine ay Tryz.func321 rfl Tryz.ntmps321 rfl ?_;repeat' (first|(apply aa;exact rfl;exact rfl;(intro w hm;exact lr fn w))|refine sT ?_|refine sM fun _=>?_|(refine sC ?_ ?_<;>intro hb<;>try omega)|fail)
 all_goals ((refine rT1 ?_);((try simp only [← Int.not_lt] at*);simp_all [fX, -Int.not_lt, -Int.not_le,← Int.not_lt]))
end Go.SL
namespace Go.SL
open Go Go.Proofs
attribute [local irreducible] W WL WQ WG VOp thn blk aV FnAt FnIn
theorem o9 (b:ByteArray):oN b=(ap b).map (Value.int .u8):=by simp [oN,ap]
theorem vE {α β:Type} (f:α→α) (E:α→β) (xs:List α) (i:Nat) (h:i<xs.length):(((xs.take i).map f++xs.drop i).map E).set i (E (f xs[i]))=((xs.take (i+1)).map f++xs.drop (i+1)).map E:=by
 rw [← List.map_set,List.set_append_right _ _ (by simp;omega)];have e1:xs.drop i=xs[i]::xs.drop (i+1):=Rn h;have e2:xs.take (i+1)=xs.take i++ [xs[i]]:=Ra h;have e3:i - ((xs.take i).map f).length=0:=by simp;omega
 rw [e3,e1,e2];simp only [List.set_cons_zero,Sh,RP,SE,Rx,QV,QW]
set_option maxRecDepth 10000 in
theorem Gd (f:FuncId) [Callable Tryz.prog f] (g:Int→Int) (hf: ∀ c w,aC Tryz.prog f [.int .u8 c] w (.int .u8 (g c))) (a:ByteArray) (ha:a.size≤1000000) (w:World):
 FnAt Tryz.prog 179 [.string a,.func (.func f) #[] #[]] w fun v H=> ∃ gb cap,v= .slice (some ⟨gb,0,none⟩) a.size cap∧H= [.byt gb 5 a.size cap (((ap a).map g).map (Value.int .u8))]:=by
 refine ay Tryz.func179 rfl Tryz.ntmps179 rfl ?_;repeat' (first|(apply mM;exact rfl;exact rfl;intro gb cap)|refine sT ?_|refine sM fun _=>?_|(refine sC ?_ ?_<;>intro hb<;>try omega)|fail)
 refine fR (fun i:Nat=> [(5,.slice (some ⟨gb,0,none⟩) a.size cap),(10,.slice (some ⟨gb,0,none⟩) a.size cap),(11,.int .i64 (a.size:Int)),(12,.int .i64 (i:Int)),(1,.func (.func f) #[] #[])])
  (fun i=> [.byt gb 5 a.size cap ((((ap a).take i).map g++(ap a).drop i).map (Value.int .u8))]) (fun i=>i≤a.size) (fun i=>a.size - i) 0 (by omega) ?_ ?_ ?_
 ·exact sB
 ·rw [o9];simp only [SK,SE,QW,SP];exact mS
 ·intro i hi;have hl:=av a;by_cases hlt:i<a.size
  ·have hil:i<(ap a).length:=by omega
   have hget:((((ap a).take i).map g++(ap a).drop i).map (Value.int .u8))[0+i*1]? =some (.int .u8 (ap a)[i]):=by
    rw [Rj,show 0+i*1=i by omega,RM (by simp;omega)];simp [Tm (Nat.le_of_lt hil),Sw]
   repeat' (first|(apply ai;exact rfl;apply ag;exact rfl;exact rfl;exact hlt)|(apply ai;exact rfl;apply kE;exact rfl;exact .hd;exact hget)|(apply ko;exact rfl;exact rfl;infer_instance;exact rfl;(intro w hm;exact hf _ w))|(apply mO;exact rfl;exact rfl;exact .hd;exact rfl;(simp;omega))|(apply ai;exact rfl;apply lh;exact rfl;exact rfl;(constructor<;>omega))|refine sT ?_|refine sM fun _=>?_|(refine sC ?_ ?_<;>intro hb<;>try omega)|fail)
   refine ⟨i+1,by omega,by omega,?_,?_⟩
   ·exact sB
   ·rw [show 0+i*1=i by omega,vE g (Value.int .u8) (ap a) i hil];exact mS
  ·have e:i=a.size:=by omega
   subst e;repeat' (first|refine sT ?_|refine sM fun _=>?_|(refine sC ?_ ?_<;>intro hb<;>try omega)|fail)
   refine bJ (.inl rfl) Tryz.results179 rfl (.refl _) ⟨gb,cap,rfl,?_⟩;rw [Sf (by omega),RK (by omega),Rc]
def kP (c:Int):Int:=if c<32∨126<c then 0 else 32
set_option maxRecDepth 10000 in
theorem NA (c:Int) (w:World):aC Tryz.prog 180 [.int .u8 c] w (.int .u8 (kP c)):=by
 refine ay Tryz.func180 rfl Tryz.ntmps180 rfl ?_;repeat' (first|refine sT ?_|refine sM fun _=>?_|(refine sC ?_ ?_<;>intro hb<;>try omega)|fail)
 all_goals ((refine rT1 ?_);((try simp only [← Int.not_lt] at*);simp_all [kP, -Int.not_lt, -Int.not_le]))
set_option maxRecDepth 10000 in
theorem Jr (c:Int) (w:World):aC Tryz.prog 181 [.int .i32 c] w (.bool (decide (c=0))):=by
 refine ay Tryz.func181 rfl Tryz.ntmps181 rfl ?_;repeat' (first|refine sT ?_|refine sM fun _=>?_|(refine sC ?_ ?_<;>intro hb<;>try omega)|fail)
 all_goals ((refine rT1 ?_);rfl)
def kf (q:Int→Bool) (l:List Int):Int:=match l.findIdx? q with
 |some i=>(i:Int)
 |none=> -1
theorem DK {q:Int→Bool} {l:List Int} {i:Nat} (h:i<l.length) (hq:q l[i]=true) (hno: ∀ j (h:j<l.length),j<i→q l[j]=false):kf q l=(i:Int):=by
 have:l.findIdx? q=some i:=by
  rw [RU];exact ⟨h,hq,fun j hj=>by simpa using hno j (by omega) hj⟩
 simp [kf,this]
theorem AL {q:Int→Bool} {l:List Int} (hno: ∀ j (h:j<l.length),q l[j]=false):kf q l= -1:=by
 have:l.findIdx? q=none:=by
  rw [Sy];intro x hx;obtain ⟨j,hj,rfl⟩:=Tb hx;exact hno j hj
 simp [kf,this]
set_option maxRecDepth 10000 in
theorem AG (f:FuncId) [Callable Tryz.prog f] (q:Int→Bool) (hf: ∀ c w,aC Tryz.prog f [.int .i32 c] w (.bool (q c))) (a:ByteArray) (ha:a.size≤1000000) (hasc: ∀ i (h:i<a.size),(a[i]'h).toNat<128) (w:World):
 aC Tryz.prog 231 [.string a,.func (.func f) #[] #[],.bool true] w (.int .i64 (kf q (ap a))):=by
 refine ay Tryz.func231 rfl Tryz.ntmps231 rfl ?_;have hl:=av a;repeat' (first|(apply zI;exact rfl;exact rfl;intro gi)|refine sT ?_|refine sM fun _=>?_|(refine sC ?_ ?_<;>intro hb<;>try omega)|fail)
 refine fR (fun i:Nat=> [(0,.string a),(1,.func (.func f) #[] #[]),(2,.bool true),(10,.pointer (some ⟨gi,0,none⟩))])
  (fun i=> [.obj gi (.stringIter a i)]) (fun i=>i≤a.size∧ ∀ j (h:j<(ap a).length),j<i→q (ap a)[j]=false) (fun i=>a.size - i) 0 ⟨by omega,fun j _ h=>by omega⟩ ?_ ?_ ?_
 ·exact sB
 ·exact mS
 ·rintro i ⟨hi,hno⟩;repeat' (first|(apply Bx;exact rfl;exact rfl;exact .hd;exact hasc i;all_goals intro hb)|(apply ko;exact rfl;exact rfl;infer_instance;exact rfl;(intro w hm;exact hf _ w))|refine sT ?_|refine sM fun _=>?_|(refine sC ?_ ?_<;>intro hb<;>try omega)|fail)
  all_goals (try simp only [beq_true] at*)
  ·rename_i hlt;have hq:=hb;refine bJ (.inl rfl) Tryz.results231 rfl (MSub.nil _) ?_;have h1:=ra a i hlt;rw [DK (i:=i) (by omega) (by rw [h1];exact hq) hno]
  ·rename_i hlt;have hq:=hb;refine ⟨i+1,⟨by omega,fun j hj hji=> ?_⟩,by omega,?_,?_⟩
   ·by_cases e:j=i
    ·subst e;rw [ra a j hlt];exact hq
    ·exact hno j hj (by omega)
   ·exact sB
   ·exact mS
  ·have hge:=hb;refine bJ (.inl rfl) Tryz.results231 rfl (MSub.nil _) ?_;rw [AL fun j hj=>hno j hj (by omega)]
set_option maxRecDepth 10000 in
theorem Bg (f:FuncId) [Callable Tryz.prog f] (q:Int→Bool) (hf: ∀ c w,aC Tryz.prog f [.int .i32 c] w (.bool (q c))) (a:ByteArray) (ha:a.size≤1000000) (hasc: ∀ i (h:i<a.size),(a[i]'h).toNat<128) (w:World):
 aC Tryz.prog 178 [.string a,.func (.func f) #[] #[]] w (.int .i64 (kf q (ap a))):=by
 refine ay Tryz.func178 rfl Tryz.ntmps178 rfl ?_;repeat' (first|(apply aa;exact rfl;exact rfl;(intro w hm;exact AG f q hf a ha hasc w))|refine sT ?_|refine sM fun _=>?_|(refine sC ?_ ?_<;>intro hb<;>try omega)|fail)
 all_goals ((refine rT1 ?_);rfl)
def kO (a:ByteArray):ByteArray:=⟨(((ap a).map kP).map fun n=>UInt8.ofNat n.toNat).toArray⟩
theorem oE (a:ByteArray):(kO a).size=a.size:=by
 have:(kO a).size=((ap a).map kP).length:=by simp [kO,ByteArray.size]
 rw [this];simp [av]
theorem tN (a:ByteArray):ap (kO a)=(ap a).map kP:=by
 simp only [ap,kO,SZ];congr 1;funext c;simp only [Function.comp,kP];split<;>simp
theorem DJ (q:Int→Bool) (l:List Int):decide (kf q l<0)=l.all fun c=> !q c:=by
 unfold kf
 cases h:l.findIdx? q with
 |none=>
  rw [Sy] at h;rw [Sc];simpa using h
 |some i=>
  rw [RU] at h;obtain ⟨h1,h2,_⟩:=h;rw [Sc];simp only [decide_eq_true_eq,SI];constructor
  ·intro h;omega
  ·intro h;have:=h _ (RL h1);rw [h2] at this;cases this
theorem CY (a:ByteArray):decide (kf (fun c=>decide (c=0)) (ap (kO a))<0)=oq a:=by
 rw [DJ,tN];simp only [ap,List.all_map,oq];congr 1;funext c;have e:(decide (kP (c.toNat:Int)=0))= !(decide (32≤c.toNat) && decide (c.toNat≤126)):=by
  rw [Sc];by_cases h:(c.toNat:Int)<32∨126<(c.toNat:Int)
  ·simp only [kP,if_pos h];simp;omega
  ·simp only [kP,if_neg h];simp;omega
 simp only [Function.comp,e,Bool.not_not]
theorem AA (a:ByteArray): ∀ i (h:i<(kO a).size),((kO a)[i]'h).toNat<128:=by
 intro i h;have h1:=ra (kO a) i h;have h2:((kO a)[i].toNat:Int)=kP ((ap a)[i]'(by rw [av,← oE];exact h)):=by
  rw [← h1];simp [tN]
 have h3: ∀ x,kP x=0∨kP x=32:=fun x=>by unfold kP;split<;>simp
 rcases h3 ((ap a)[i]'(by rw [av,← oE];exact h)) with h4|h4<;>omega
set_option maxRecDepth 10000 in
theorem qP (a:ByteArray) (ha:a.size≤1000000) (w:World):aC Tryz.prog 133 [.string a] w (.bool (oq a)):=by
 refine ay Tryz.func133 rfl Tryz.ntmps133 rfl ?_;repeat' (first|((with_reducible apply aK (R:=fun v H=> ∃ gb cap,v= .slice (some ⟨gb,0,none⟩) a.size cap∧H= [.byt gb 5 a.size cap (((ap a).map kP).map (Value.int .u8))]));exact rfl;exact rfl;(intro w hm;exact Gd 180 kP NA a ha w);(rintro v H' ⟨gb,cap,rfl,rfl⟩))|(apply ai;exact rfl;apply rO;exact rfl;exact .hd;simp [av])|(apply aa;exact rfl;exact rfl;(intro w hm;exact Bg 181 (fun c=>decide (c=0)) Jr (kO a) (by rw [oE];exact ha) (AA a) w))|refine sT ?_|refine sM fun _=>?_|(refine sC ?_ ?_<;>intro hb<;>try omega)|fail)
 all_goals ((refine rT1 ?_);rw [← CY])
set_option maxRecDepth 10000 in
theorem DD (a:ByteArray) (w:World):aC Tryz.prog 88 [.string a] w (.int .i64 (jL a)):=by
 refine ay Tryz.func88 rfl Tryz.ntmps88 rfl ?_;repeat' (first|(apply aa;exact rfl;exact rfl;(intro w hm;exact qP a (by omega) w))|refine sT ?_|refine sM fun _=>?_|(refine sC ?_ ?_<;>intro hb<;>try omega)|fail)
 ·(refine rT1 ?_);have:decide (256<a.size)=true:=by simp;omega
  simp [jL,this]
 all_goals
  (refine rT1 ?_);have h256:decide (256<a.size)=false:=by simp;omega
  simp only [jL,h256,hb,cond_true,cond_false]
set_option maxRecDepth 10000 in
theorem ED (v:Vl) (w:World):aC Tryz.prog 232 [.agg (d9 v).toArray] w (.int .i64 (pX v)):=by
 refine ay Tryz.func232 rfl Tryz.ntmps232 rfl ?_;repeat' (first|(apply aa;exact rfl;exact rfl;(intro w hm;exact DD v.text w))|(apply ai;exact rfl;exact EM (b:=⟨0,0,ax⟩) rfl rfl)|refine sT ?_|refine sM fun _=>?_|(refine sC ?_ ?_<;>intro hb<;>try omega)|fail)
 all_goals ((refine rT1 ?_);((try simp only [← Int.not_lt] at*);simp_all [pX,vp,eqV,ax, -Int.not_lt, -Int.not_le,← Int.not_lt]);try (by_cases h:v.num=0<;>simp_all))
end Go.SL
namespace Go.SL
open Go Go.Proofs
attribute [local irreducible] W WL WQ WG WA VOp thn blk aV FnAt FnIn
theorem Lg: ∀ j,j<50→dC.getD j ax≠ax∧aY (dC.getD j ax)=((j:Int)+1,0):=by decide+kernel
theorem lL {fn:Int} (h:cV fn=true):fa fn=((bQ fn).1,(bQ fn).2,0):=by
 unfold fa bQ;(repeat' split)<;>simp_all
theorem pR {fn:Int} (h:cV fn=false):fa fn=(0,0,10):=by
 simp only [cV,Tc,decide_eq_false_iff_not] at h;have hk:cV fn=false:=by simp only [cV,Tc,decide_eq_false_iff_not];exact h
 unfold fa;(repeat' split)<;>first|(exfalso;omega)|(simp_all;done)|rfl
theorem u6 {fn:Int} (h:cV fn=true) (i:Int):kB fn i=(fX fn i,if i<0∨(bQ fn).2≤i then 3 else 0):=by
 unfold kB fX;rw [lL h];simp only [ne_eq,not_true_eq_false,if_false];by_cases h1:i<0∨(bQ fn).2≤i
 ·simp only [if_pos h1]
 ·simp only [if_neg h1];by_cases h2:fn=9∨fn=10∨fn=11∨fn=12∨fn=14∨fn=15∨fn=16∨fn=17
  ·simp only [if_pos h2]
  ·simp only [if_neg h2];by_cases h3:fn=44
   ·subst h3;simp
   ·simp only [if_neg h3];by_cases h4:fn=18∨fn=19∨fn=45∨fn=43∨fn=13
    ·rw [if_pos h4,if_pos (by omega)]
    ·rw [if_neg h4,if_neg (by omega)]
     rfl
end Go.SL
namespace Go.SL
open Go Go.Proofs
attribute [local irreducible] W WL WQ WG WA VOp thn blk bH aV FnAt FnIn WLI
def nT (n:Nd) (i:Nat) (r:List Nd):Us:=match r with
 |m::_=>if m.kind=7∧46≤m.fn then ⟨n.rect,((i+1:Nat):Int),m.fn⟩ else ⟨n.rect, -1,0⟩
 | []=>⟨n.rect, -1,0⟩
def dV:List Nd→Nat→List Us
 | [],_=> []
 |n::r,i=>bif gG n then nT n i r::dV r (i+1) else dV r (i+1)
def eE (L:List Nd):List Us:=dV L 0
theorem Kt (L:List Nd) (tv:Value) (w0:World) (ht:Reads w0 tv L.length (L.flatMap bf)) (hlen:L.length≤1000000) (g:Nat):
 PP Tryz.prog 152 [.pointer (some ⟨g,0,none⟩)] w0 [.box g 91 [tv]] (eE L) (fun u=> [.agg (cP u).toArray]):=by
 obtain ⟨Al,cl,rfl,hl1,hl2,hl3⟩:=ht;intro l I J H0 hy h0;refine FnIn.msub (H' := .box g 91 [.slice Al L.length cl]::H0) ?_ (MSub.rot (MSub.refl _));refine bF Tryz.func152 rfl Tryz.ntmps152 rfl ?_;repeat' (first|refine sT ?_|refine sM fun _=>?_|(refine sC ?_ ?_<;>intro hb<;>try omega)|fail)
 refine fR (fun y:Nat × List Us × List Blk=> [(0,.func (.yield l) #[] #[]),(1,.pointer (some ⟨g,0,none⟩)),(6,.slice Al L.length cl),(7,.int .i64 (L.length:Int)),(8,.int .i64 (y.1:Int))])
  (fun y=> .box g 91 [.slice Al L.length cl]::y.2.2)
  (fun y=>y.1≤L.length∧eE L=y.2.1++dV (L.drop y.1) y.1∧I y.2.1 y.2.2) (fun y=>L.length - y.1) (0,[],H0) ⟨by omega,rfl,h0⟩ ?_ ?_ ?_
 ·exact sB
 ·exact MSub.refl _
 rintro ⟨i,pre,H1⟩ ⟨hi,hus,hI⟩;dsimp only at hi hus hI ⊢;by_cases hlt:i<L.length
 ·obtain ⟨gl,ol,rfl,hrl⟩:=hl3 (by omega);have he:=hrl.elem cu i hlt;rw [Rn hlt,dV] at hus;generalize hn:L[i]=n at hus he;have hran:=fun w=>IP n w;have next: ∀ (us:List Us) (HU:List Blk),eE L=us++dV (L.drop (i+1)) (i+1)→I us HU→i+1≤L.length∧eE L=us++dV (L.drop (i+1)) (i+1)∧I us HU:=fun us HU h1 h2=>⟨hlt,h1,h2⟩
  generalize gG n=q at hus hran;cases q
  ·rw [cond_false] at hus;repeat' (first|(apply aa;exact rfl;exact rfl;(intro w hm;exact hran w))|refine zZJ ?_|refine sM fun _=>?_|(refine sC ?_ ?_<;>intro hb<;>try omega)|fail)
   refine ⟨(i+1,pre,H1),next _ _ hus hI,(by dsimp only;omega),?_,?_⟩
   ·exact sB
   ·exact mS
  rw [cond_true] at hus;by_cases hn1:i+1<L.length
  ·have he1:=hrl.elem cu (i+1) hn1;have hd:=Rn hn1;generalize L[i+1]=m at he1 hd;by_cases hrel:m.kind=7∧46≤m.fn
   ·have hu:nT n i (L.drop (i+1))=⟨n.rect,((i+1:Nat):Int),m.fn⟩:=by rw [hd];simp only [nT,if_pos hrel]
    rw [hu] at hus;repeat' (first|(apply aa;exact rfl;exact rfl;(intro w hm;exact hran w))|(apply oR (id:=7))|((with_reducible apply qC (id:=6) (T:=121) (fun D=> [.int .i64 n.rect.c1,.int .i64 n.rect.r1,.int .i64 n.rect.c2,.int .i64 n.rect.r2,.int .i64 (bif D 9 then ((i+1:Nat):Int) else -1),.int .u8 (bif D 11 then m.fn else 0)]) (xs' := [.int .i64 n.rect.c1,.int .i64 n.rect.r1,.int .i64 n.rect.c2,.int .i64 n.rect.r2,.int .i64 ((i+1:Nat):Int),.int .u8 m.fn]));kernel_rfl;kernel_rfl;exact .hd;exact rfl;(intro D hD;simp only [hD 9 (by decide),hD 11 (by decide),cond_true]))|(apply BC;exact rfl;(intro D ht;first|(apply iJ;exact rfl;exact rfl;(simp only [maxLen] at*;omega))|(apply ag;exact rfl;exact rfl;(first|assumption|omega))|(apply dS;exact rfl;assumption;exact rfl));exact fun _=>rfl)|refine sT ?_|refine sI ?_|refine sN ?_|refine sO ?_|refine sG ?_|refine sM fun _=>?_|(refine sC ?_ ?_<;>intro hb<;>try omega)|fail)
    (with_reducible apply mL)
    ·exact rfl
    ·exact rfl
    ·exact rfl
    ·exact MSub.app3
    ·exact fun w hm=>hy pre ⟨n.rect,((i+1:Nat):Int),m.fn⟩ _ hus H1 _ hI w hm
    intro bb H2 hq;cases bb
    ·repeat' (first|refine sT ?_|refine sI ?_|refine sM fun _=>?_|(refine sC ?_ ?_<;>intro hb<;>try omega)|fail)
     exact iP eIO Tryz.results152 (H' :=H2++ [.box g 91 [.slice (some ⟨gl,ol,none⟩) L.length cl]]) MSub.app3r ⟨H2,.inr ⟨_,hq⟩,MSub.refl _⟩
    ·repeat' (first|refine sT ?_|refine sI ?_|refine sN ?_|refine sM fun _=>?_|(refine sC ?_ ?_<;>intro hb<;>try omega)|fail)
     refine ⟨(i+1,_,H2),next _ _ (hus.trans (by rw [List.append_assoc];rfl)) hq,(by dsimp only;omega),?_,?_⟩
     ·exact sB
     ·exact MSub.app3'
   ·have hu:nT n i (L.drop (i+1))=⟨n.rect, -1,0⟩:=by rw [hd];simp only [nT,if_neg hrel]
    rw [hu] at hus;repeat' (first|(apply aa;exact rfl;exact rfl;(intro w hm;exact hran w))|(apply oR (id:=7))|refine sT ?_|refine sI ?_|refine sN ?_|refine sO ?_|refine sM fun _=>?_|(refine sC ?_ ?_<;>intro hb<;>try omega)|fail)
    all_goals
     (with_reducible apply mL)
     ·exact rfl
     ·exact rfl
     ·exact rfl
     ·exact MSub.app3
     ·exact fun w hm=>hy pre ⟨n.rect, -1,0⟩ _ hus H1 _ hI w hm
     intro bb H2 hq;cases bb
     ·repeat' (first|refine sT ?_|refine sI ?_|refine sM fun _=>?_|(refine sC ?_ ?_<;>intro hb<;>try omega)|fail)
      exact iP eIO Tryz.results152 (H' :=H2++ [.box g 91 [.slice (some ⟨gl,ol,none⟩) L.length cl]]) MSub.app3r ⟨H2,.inr ⟨_,hq⟩,MSub.refl _⟩
     ·repeat' (first|refine sT ?_|refine sI ?_|refine sN ?_|refine sM fun _=>?_|(refine sC ?_ ?_<;>intro hb<;>try omega)|fail)
      refine ⟨(i+1,_,H2),next _ _ (hus.trans (by rw [List.append_assoc];rfl)) hq,(by dsimp only;omega),?_,?_⟩
      ·exact sB
      ·exact MSub.app3'
  ·have hu:nT n i (L.drop (i+1))=⟨n.rect, -1,0⟩:=by rw [RK (by omega)];rfl
   rw [hu] at hus;repeat' (first|(apply aa;exact rfl;exact rfl;(intro w hm;exact hran w))|(apply oR (id:=7))|refine sT ?_|refine sI ?_|refine sN ?_|refine sO ?_|refine sM fun _=>?_|(refine sC ?_ ?_<;>intro hb<;>try omega)|fail)
   (with_reducible apply mL)
   ·exact rfl
   ·exact rfl
   ·exact rfl
   ·exact MSub.app3
   ·exact fun w hm=>hy pre ⟨n.rect, -1,0⟩ _ hus H1 _ hI w hm
   intro bb H2 hq;cases bb
   ·repeat' (first|refine sT ?_|refine sI ?_|refine sM fun _=>?_|(refine sC ?_ ?_<;>intro hb<;>try omega)|fail)
    exact iP eIO Tryz.results152 (H' :=H2++ [.box g 91 [.slice (some ⟨gl,ol,none⟩) L.length cl]]) MSub.app3r ⟨H2,.inr ⟨_,hq⟩,MSub.refl _⟩
   ·repeat' (first|refine sT ?_|refine sI ?_|refine sN ?_|refine sM fun _=>?_|(refine sC ?_ ?_<;>intro hb<;>try omega)|fail)
    refine ⟨(i+1,_,H2),next _ _ (hus.trans (by rw [List.append_assoc];rfl)) hq,(by dsimp only;omega),?_,?_⟩
    ·exact sB
    ·exact MSub.app3'
 ·have e:i=L.length:=by omega
  subst e;rw [Sn,dV,Rc] at hus;repeat' (first|refine sT ?_|refine sM fun _=>?_|(refine sC ?_ ?_<;>intro hb<;>try omega)|fail)
  refine iP (.inr rfl) Tryz.results152 (H' := .box g 91 [.slice Al L.length cl]::H1) mS ⟨H1,.inl (hus ▸ hI),?_⟩;exact MSub.snoc .hd (MSub.refl _)
end Go.SL
namespace Go.SL
open Go Go.Proofs
attribute [local irreducible] W WL WQ WG VOp thn blk aV FnAt FnIn
theorem zf (n:Nd) (w:World):aC Tryz.prog 251 [.agg (bf n).toArray] w (.int .i64 (bB n)):=by
 refine ay Tryz.func251 rfl Tryz.ntmps251 rfl ?_;repeat' (first|(apply aa;exact rfl;exact rfl;(intro w hm;exact ED n.v w))|(apply aa;exact rfl;exact rfl;(intro w hm;exact oU n.rect w))|(apply aa;exact rfl;exact rfl;(intro w hm;exact xD n.fn w))|(apply qC (T:=123) (fun D=> [.int .u8 n.kind,.int .u8 0,.int .i64 0,.string ax,.int .i64 0,.int .i64 0,.int .i64 0,.int .i64 0,.int .i64 0,.int .u8 (bif D 5 then n.fn else 0),.int .i64 (bif D 7 then n.n else 0)]) (xs' := [.int .u8 n.kind,.int .u8 0,.int .i64 0,.string ax,.int .i64 0,.int .i64 0,.int .i64 0,.int .i64 0,.int .i64 0,.int .u8 n.fn,.int .i64 n.n]);kernel_rfl;kernel_rfl;(first|exact .hd|exact .tl .hd);exact rfl;(intro D hD;simp only [hD 5 (by decide),hD 7 (by decide),cond_true]))|(apply ai;exact rfl;(first|(apply rP (b:=⟨n.kind,n.v,aS,0,0,0⟩);exact rfl;exact rfl)|(apply rP (b:=⟨n.kind,bK,n.rect,0,0,0⟩);exact rfl;exact rfl)|(apply rP (b:=⟨n.kind,bK,aS,0,0,0⟩);exact rfl;exact rfl)|(apply rP (b:=⟨n.kind,bK,aS,n.op,0,0⟩);exact rfl;exact rfl)|(apply rP (b:=⟨n.kind,bK,aS,0,n.fn,n.n⟩);exact rfl;exact rfl)))|refine sT ?_|refine sG ?_|refine sM fun _=>?_|(refine sC ?_ ?_<;>intro hb<;>try omega)|fail)
 all_goals ((refine rT1 ?_);((try simp only [← Int.not_lt] at*);simp_all [bB,fj,du,Hn,K7, -Int.not_lt, -Int.not_le,← Int.not_lt]))
end Go.SL
namespace Go.SL
open Go Go.Proofs
attribute [local irreducible] W WL WQ WG WA VOp thn blk aV FnAt FnIn
set_option maxRecDepth 10000 in
theorem lm (c r:Int) (w:World):aC Tryz.prog 65 [.agg #[.int .i64 c,.int .i64 r]] w (.bool (valid c r)):=by
 refine ay Tryz.func65 rfl Tryz.ntmps65 rfl ?_;repeat' (first|refine sT ?_|refine sM fun _=>?_|(refine sC ?_ ?_<;>intro hb<;>try omega)|fail)
 all_goals ((refine rT1 ?_);((try simp only [← Int.not_lt] at*);simp_all [valid, -Int.not_lt, -Int.not_le,← Int.not_lt]))
set_option maxRecDepth 10000 in
theorem Fq (r:Rct) (w:World):aC Tryz.prog 263 [.agg (jp r).toArray] w (.agg #[.int .i64 r.c1,.int .i64 r.r1]):=by
 refine ay Tryz.func263 rfl Tryz.ntmps263 rfl ?_;repeat' (first|refine sT ?_|refine sM fun _=>?_|(refine sC ?_ ?_<;>intro hb<;>try omega)|fail)
 exact Fb (.inl rfl) Tryz.results263 rfl pK rfl (MSub.nil _) rfl
set_option maxRecDepth 10000 in
theorem KR (r:Rct) (w:World):aC Tryz.prog 264 [.agg (jp r).toArray] w (.agg #[.int .i64 r.c2,.int .i64 r.r2]):=by
 refine ay Tryz.func264 rfl Tryz.ntmps264 rfl ?_;repeat' (first|refine sT ?_|refine sM fun _=>?_|(refine sC ?_ ?_<;>intro hb<;>try omega)|fail)
 exact Fb (.inl rfl) Tryz.results264 rfl pK rfl (MSub.nil _) rfl
set_option maxRecDepth 10000 in
theorem m9 (r:Rct) (w:World):aC Tryz.prog 210 [.agg (jp r).toArray] w (.int .i64 (pI r)):=by
 refine ay Tryz.func210 rfl Tryz.ntmps210 rfl ?_;repeat' (first|(apply aa;exact rfl;exact rfl;(intro w hm;exact Fq r w))|(apply aa;exact rfl;exact rfl;(intro w hm;exact KR r w))|(apply aa;exact rfl;exact rfl;(intro w hm;exact lm r.c1 r.r1 w))|(apply aa;exact rfl;exact rfl;(intro w hm;exact lm r.c2 r.r2 w))|refine sT ?_|refine sM fun _=>?_|(refine sC ?_ ?_<;>intro hb<;>try omega)|fail)
 all_goals ((refine rT1 ?_);((try simp only [← Int.not_lt] at*);simp_all [pI,dL, -Int.not_lt, -Int.not_le,← Int.not_lt]))
set_option maxRecDepth 10000 in
theorem Po (r:Rct) (w:World):aC Tryz.prog 320 [.agg (jp r).toArray] w (.bool (K7 r)):=by
 refine ay Tryz.func320 rfl Tryz.ntmps320 rfl ?_;repeat' (first|refine sT ?_|refine sM fun _=>?_|(refine sC ?_ ?_<;>intro hb<;>try omega)|fail)
 all_goals ((refine rT1 ?_);((try simp only [← Int.not_lt] at*);simp_all [K7, -Int.not_lt, -Int.not_le,← Int.not_lt]))
set_option maxRecDepth 10000 in
theorem tH (n:Nd) (w:World):aC Tryz.prog 209 [.agg (bf n).toArray] w (.int .i64 (below n)):=by
 refine ay Tryz.func209 rfl Tryz.ntmps209 rfl ?_;repeat' (first|refine sT ?_|refine sM fun _=>?_|(refine sC ?_ ?_<;>intro hb<;>try omega)|fail)
 all_goals ((refine rT1 ?_);simp_all [below])
set_option maxRecDepth 10000 in
theorem CF (b:ByteArray) (hs:b.size≤256) (w:World):aC Tryz.prog 335 [.string b] w (.bool (oq b)):=by
 refine ay Tryz.func335 rfl Tryz.ntmps335 rfl ?_;have hsz:b.data.toList.length=b.size:=by simp
 repeat' (first|refine zZE ?_|refine sM fun _=>?_|(refine sC ?_ ?_<;>intro hb<;>try omega)|fail)
 refine fR (fun i:Nat=> [(0,.string b),(3,.int .i64 (i:Int))]) (fun _=> []) (fun i=>i≤b.size∧oq b=(b.data.toList.drop i).all fun c=>decide (32≤c.toNat) && decide (c.toNat≤126)) (fun i=>b.size - i) 0 ⟨by omega,rfl⟩ ?_ ?_ ?_
 ·exact sB
 ·exact mS
 ·rintro i ⟨hi,hrec⟩;by_cases hlt:i<b.size
  ·rw [Rn (by omega),Uu] at hrec;have hbi:b.data.toList[i]'(by omega)=b[i]'hlt:=by simp [ByteArray.getElem_eq_getElem_data]
   rw [hbi] at hrec;repeat' (first|(apply ai;exact rfl;apply tA;exact rfl;exact rfl;exact hlt)|(apply ai;exact rfl;apply iJ;exact rfl;exact rfl;(simp only [maxLen];omega))|refine zZE ?_|refine sM fun _=>?_|(refine sC ?_ ?_<;>intro hb<;>try omega)|fail)
   ·(refine rT1 ?_);rw [hrec,decide_eq_false (by omega)]
    rfl
   ·(refine rT1 ?_);rw [hrec,decide_eq_false (p:=b[i].toNat≤126) (by omega),SQ]
    rfl
   ·refine ⟨i+1,⟨by omega,?_⟩,by omega,?_,?_⟩
    ·rw [hrec,decide_eq_true (by omega),decide_eq_true (by omega)]
     rfl
    ·exact sB
    ·exact mS
  ·have e:i=b.size:=by omega
   subst e;repeat' (first|refine zZE ?_|refine sM fun _=>?_|(refine sC ?_ ?_<;>intro hb<;>try omega)|fail)
   (refine rT1 ?_);rw [hrec,RK (by omega)]
   rfl
set_option maxRecDepth 10000 in
theorem CI (b:ByteArray) (w:World):aC Tryz.prog 328 [.string b] w (.int .i64 (jL b)):=by
 refine ay Tryz.func328 rfl Tryz.ntmps328 rfl ?_;repeat' (first|(apply aa;exact rfl;exact rfl;(intro w hm;exact CF b (by omega) w))|refine sT ?_|refine sM fun _=>?_|(refine sC ?_ ?_<;>intro hb<;>try omega)|fail)
 all_goals ((refine rT1 ?_);(first|rw [jL,decide_eq_true (by omega:256<b.size)]|rw [jL,decide_eq_false (by omega: ¬ 256<b.size)]);simp_all)
set_option maxRecDepth 10000 in
theorem yR (v:Vl) (hn: -9223372036854775808≤v.num) (w:World):aC Tryz.prog 315 [.agg (d9 v).toArray] w (.int .i64 (pX v)):=by
 refine ay Tryz.func315 rfl Tryz.ntmps315 rfl ?_;have h1:(v.num≠ -9223372036854775808)↔ -9223372036854775807≤v.num:=by omega
 have h2:v.num / 2=0↔(v.num=0∨v.num=1):=by omega
 repeat' (first|(apply aa;exact rfl;exact rfl;(intro w hm;exact CI v.text w))|refine sT ?_|refine sM fun _=>?_|(refine sC ?_ ?_<;>intro hb<;>try omega)|fail)
 all_goals ((refine rT1 ?_);simp only [pX,vp,h1,h2,ax];(try simp only [← Int.not_lt] at*);simp_all [-Int.not_lt, -Int.not_le,← Int.not_lt])
end Go.SL

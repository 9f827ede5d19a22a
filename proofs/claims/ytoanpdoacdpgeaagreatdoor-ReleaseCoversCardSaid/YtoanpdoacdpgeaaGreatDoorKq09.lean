/-
  Lemmas and walks, put together: La G1a D10 D9 Sb W1 W11 W4 W27 W30 B1 Px W12 W2 W13 W3 W28 Px2.
-/
import Derived.ChangeKeysEq
import Derived.Test.YtoanpdoacdpgeaaGreatDoorKq04
import Derived.Test.YtoanpdoacdpgeaaGreatDoorKq06
import Derived.Test.YtoanpdoacdpgeaaGreatDoorKq07
import Derived.Test.YtoanpdoacdpgeaaGreatDoorKq08
set_option linter.unusedSimpArgs false
set_option linter.unusedVariables false
set_option maxRecDepth 20000
namespace Go.SL
open Go Go.Proofs
attribute [local irreducible] W WL WQ WG WA WX WLI WR WT WC VOp RW thn blk bE scp aV bo bI aK FnIn FnP ceP
theorem QH {L:List Rf} {k:Nat} (h:k<L.length):((L.flatMap bh).drop (0+k*2)).take 2=bh L[k]:=by
 rw [RB]
 exact dG lG L k h
end Go.SL
namespace Go.SL
open Go Go.Proofs
attribute [local irreducible] W WL WQ WG WA WX WLI WR WT WC VOp RW thn blk bE scp aV bo bI aK FnP ceP
theorem FnIn.re {P:Program} {f:FuncId} {args:List Value} {w0:World} {H:List Blk} {R R' :Value→List Blk→Prop} (h:FnIn P f args w0 H R) (hr: ∀ v H,R v H→ ∃ H',MSub H' H∧R' v H'):FnIn P f args w0 H R' :=
 fun w hm=>Calls.mono (h w hm) fun _ _ ⟨v,H',h1,h2,h3⟩=>let ⟨H2,h4,h5⟩:=hr v H' h3;⟨v,H2,h1,h4.use h2,h5⟩
theorem MSub.of_perm {H H' :List Blk} (h:H'.Perm H):MSub H H' :=⟨[],by simpa using h⟩
end Go.SL
namespace Go.SL
open Go Go.Proofs
attribute [local irreducible] W WL WQ WG WA WX WLI WR WT WC VOp RW thn blk bE scp aV bo bI aK FnIn FnP ceP nQ iT kF
theorem ic {w0:World} {s:az} {H:List Blk} {ty t' :TypeId} {x y:Operand} {a b:Rf} {c:Bool} (h:decide (a≠b)=c) (hx:ev s x=some (.agg (bh a).toArray)) (hy:ev s y=some (.agg (bh b).toArray)):VOp Tryz.prog w0 s H (.binOp .neq 50 x y t') ty (.bool c):=by
 have h1:=OQ (w0:=w0) (H:=H) (ty:=ty) (t' :=t') hx hy
 rw [Gl] at h1
 rw [← h]
 have e:(!decide (a=b))=decide (a≠b):=by simp
 rwa [e] at h1
end Go.SL
namespace Go.SL
open Go Go.Proofs
theorem MSub.appL (R H1:List Blk):MSub R (R++H1):=⟨H1,.refl _⟩
theorem MSub.appC (X Hc H1:List Blk):MSub (H1++(Hc++X)) (X++(Hc++H1)):=⟨[],by
 rw [QW]
 refine List.Perm.trans ?_ (List.Perm.append_left H1 (R0 (l₁:=X) (l₂:=Hc)))
 refine List.Perm.trans (List.Perm.append_left X (R0 (l₁:=Hc) (l₂:=H1))) ?_
 rw [← Rx,← Rx]
 exact (R0 (l₁:=X) (l₂:=H1)).append_right Hc⟩
theorem MSub.appD (X Hc H2:List Blk):MSub (X++(Hc++H2)) (H2++(Hc++X)):=MSub.appC H2 Hc X
theorem MSub.appS (Hc H1:List Blk):MSub (H1++Hc) (Hc++H1):=⟨[],by rw [QW];exact R0⟩
theorem MSub.appE (X Hc H2:List Blk):MSub (H2++Hc) (H2++(Hc++X)):=⟨X,by rw [Rx]⟩
attribute [local irreducible] W WL WQ WG WA WX WLI WR WT WC VOp RW thn blk bE scp aV bo bI aK FnIn FnP ceP
end Go.SL
namespace Go.SL
open Go Go.RowKit
theorem pK {p:Prop} (h:p:=by (repeat first|exact .hd|apply Sel.tl|apply In.tl);(first|done|fail)):p:=h
theorem sB {p:Prop} (h:p:=by (repeat (first|exact Sub.nil _|refine Sub.cons rfl ?_));(first|done|fail)):p:=h
theorem mS {p:Prop} (h:p:=by (repeat (first|exact MSub.nil _|refine MSub.pick (by (repeat first|exact .hd|apply Sel.tl|apply In.tl)) ?_|exact MSub.refl _|refine MSub.drop .hd ?_));(first|done|fail)):p:=h
theorem vC {P:Program} {w0:World} {s:az} {H:List Blk} {op:Op} {ty:TypeId} {v:Value} (h:VOp P w0 s H op ty v:=by
 first
 |((with_reducible apply OM);exact rfl)
 |((with_reducible apply Af);exact rfl)
 |((with_reducible apply P9);exact rfl)
 |((with_reducible apply JJ);exact rfl)
 |((with_reducible apply uy);exact rfl)
 |((with_reducible apply jI);exact rfl;exact pK;exact rfl)
 |((with_reducible apply OV);exact rfl;exact rfl)
 |((with_reducible apply v_neqb);exact rfl;exact rfl)
 |((with_reducible apply gT);exact rfl;exact rfl)
 |((with_reducible apply iU);exact rfl;exact rfl)
 |((with_reducible apply z8);exact rfl;exact pK;exact rfl)
 |((with_reducible apply Ad);exact rfl;exact pK;exact rfl;exact rfl)
 |((with_reducible apply MG);(iterate 3 exact rfl))
 |((with_reducible apply FF);(iterate 3 exact rfl))
 |((with_reducible apply ib);exact rfl)
 |((with_reducible apply MB);exact rfl)
 |((with_reducible apply v_neqpn);exact rfl)):VOp P w0 s H op ty v:=h
theorem vC2 {P:Program} {w0:World} {s:az} {H:List Blk} {op:Op} {ty:TypeId} {v:Value} (h:VOp P w0 s H op ty v:=by
 first
 |((with_reducible apply aZ);exact rfl;exact rfl;(first|assumption|omega))
 |((with_reducible apply OU);exact rfl;exact rfl;(first|assumption|omega))
 |((with_reducible apply fF);(iterate 3 exact rfl);(first|assumption|omega))
 |((with_reducible apply ur);exact rfl;exact rfl;(first|assumption|omega))
 |((with_reducible apply Mu);exact rfl;exact rfl;(first|assumption|omega))
 |((with_reducible apply Di);exact rfl;exact rfl;(first|assumption|omega))
 |((with_reducible apply aZ (j:=4));exact rfl;exact rfl;(first|assumption|omega))
 |((with_reducible apply Di (hi:=4));exact rfl;exact rfl;(first|assumption|omega))
 |((with_reducible apply ur (lo:=1));exact rfl;exact rfl;(first|assumption|omega))
 |((with_reducible apply GQ);(iterate 3 exact rfl))
 |((with_reducible apply GP);(iterate 3 exact rfl))):VOp P w0 s H op ty v:=h
theorem vA {P:Program} {w0:World} {s:az} {H:List Blk} {op:Op} {ty:TypeId} {v:Value} (h:VOp P w0 s H op ty v:=by
 first
 |((with_reducible apply fq);exact rfl;exact rfl;(simp only [maxLen] at*;omega))
 |((with_reducible apply FJ);exact rfl;exact rfl;(simp only [maxLen] at*;omega))
 |((with_reducible apply dE);exact rfl;exact rfl;(simp only [maxLen] at*;omega))
 |((with_reducible apply dM);exact rfl;exact rfl;omega;(simp only [maxLen] at*;omega))
 |((with_reducible apply kB);exact rfl;exact rfl;omega;(simp only [maxLen] at*;omega))
 |((with_reducible apply Dl);exact rfl;exact rfl)):VOp P w0 s H op ty v:=h
theorem vI {P:Program} {w0:World} {s:az} {H:List Blk} {op:Op} {ty:TypeId} {v:Value} (h:VOp P w0 s H op ty v:=by
 first
 |((with_reducible apply eV);exact rfl;exact rfl;exact ⟨by omega,by omega⟩)
 |((with_reducible apply JE);exact rfl;exact rfl;exact ⟨by omega,by omega⟩)
 |((with_reducible apply ux);exact rfl;exact rfl;exact ⟨by omega,by omega⟩)):VOp P w0 s H op ty v:=h
theorem vR {P:Program} {w0:World} {s:az} {H:List Blk} {op:Op} {ty:TypeId} {v:Value} (h:VOp P w0 s H op ty v:=by
 first
 |((with_reducible apply aj);exact rfl;exact rfl;(first|assumption|omega))
 |((with_reducible apply aB);exact rfl;assumption;exact rfl)
 |((with_reducible apply eU);exact rfl;assumption)
 |((with_reducible apply dx);exact rfl;assumption;exact rfl)):VOp P w0 s H op ty v:=h
theorem sT {p q:Prop} (k:q) (h:q→p:=by
 first
 |(with_reducible first|exact Db|exact Qf|exact PW|exact JC|exact PY|exact OG|exact OK|exact Ms|exact Qd|exact Qg|exact Qy|exact Qw|exact Qz|exact cut_r|exact cut_e)
 |(intro k;(with_reducible apply ak);exact rfl;exact vC;exact k)
 |(intro k;(with_reducible apply Ml);exact rfl;exact rfl;exact k)
 |(intro k;(with_reducible apply Ju);(iterate 4 exact rfl);exact k)
 |(intro k;(with_reducible apply Jt);(iterate 3 exact rfl);exact k)
 |(intro k;(with_reducible apply wJ);exact rfl;exact rfl;exact pK;(iterate 3 exact rfl);exact k)
 |(intro k;(with_reducible apply zQ);exact rfl;exact rfl;exact pK;(iterate 4 exact rfl);exact k)
 |(intro k;(with_reducible apply z1);exact rfl;exact k)
 |(intro k;(with_reducible apply yJ);exact rfl;exact k)
 |(intro k;(with_reducible apply Qv);exact rfl;exact k)):p:=h k
theorem sM {p:Prop} {q:Nat→Prop} (k: ∀ g,q g) (h:(∀ g,q g)→p:=by
 first
 |(intro k;(with_reducible apply Mm);exact rfl;exact rfl;exact k)
 |(intro k;(with_reducible apply Mo);(iterate 3 exact rfl);exact k)
 |(intro k;(with_reducible apply Jz);exact rfl;exact k)
 |(intro k;(with_reducible apply wK);(iterate 7 exact rfl);exact k)):p:=h k
theorem sT2 {p q:Prop} (k:q) (h:q→p:=by exact ak rfl vC2):p:=h k
theorem sQ2 {p q:Prop} (k:q) (h:q→p:=by exact aS rfl vC2):p:=h k
theorem sS {p q:Prop} (k:q) (h:q→p:=by with_reducible first|exact Mq|exact Mr|exact scp_n|exact Qj|exact scp_e):p:=h k
theorem sP {p q:Prop} (k:q) (h:q→p:=by with_reducible first|exact Qe|exact Qx|exact Qu|exact scp_p):p:=h k
theorem sC {p q1 q2 r1 r2:Prop} (k1:q1→q2) (k2:r1→r2) (h:(q1→q2)→(r1→r2)→p:=by
 intro k1 k2
 first
 |((with_reducible apply GH);exact rfl;exact rfl;exact fun hb=>k1 (Tidy.out hb);exact fun hb=>k2 (Tidy.out hb))
 |((with_reducible apply OL);exact rfl;exact fun hb=>k1 (Tidy.out hb);exact fun hb=>k2 (Tidy.out hb))):p:=h k1 k2
theorem cT {p:Prop} (h:p:=by (with_reducible apply cC (i:=()))<;>first|exact trivial|((repeat (first|exact Sub.nil _|refine Sub.cons rfl ?_));done)|((repeat (first|exact MSub.nil _|refine MSub.pick (by (repeat first|exact .hd|apply Sel.tl|apply In.tl)) ?_|exact MSub.refl _|refine MSub.drop .hd ?_));done)|fail):p:=h
theorem sQ {p q:Prop} (k:q) (h:q→p:=by
 first
 |(with_reducible exact OB)
 |(intro k;(with_reducible apply aS);exact rfl;exact vC;exact k)
 |(intro k;(with_reducible apply Mh);exact rfl;exact rfl;exact k)
 |(intro k;(with_reducible apply Jl);(iterate 4 exact rfl);exact k)
 |(intro k;(with_reducible apply Jk);(iterate 3 exact rfl);exact k)):p:=h k
theorem sCQ {p q1 q2 r1 r2:Prop} (k1:q1→q2) (k2:r1→r2) (h:(q1→q2)→(r1→r2)→p:=by
 intro k1 k2
 first
 |((with_reducible apply GA);exact rfl;exact rfl;exact fun hb=>k1 (Tidy.out hb);exact fun hb=>k2 (Tidy.out hb))):p:=h k1 k2
theorem sD {p q:Prop} (k:q) (h:q→p:=by intro k;(with_reducible apply gH);kernel_rfl;kernel_rfl;exact k):p:=h k
theorem sN {p q:Prop} (k:q) (h:q→p:=by exact ak rfl vA):p:=h k
theorem sNQ {p q:Prop} (k:q) (h:q→p:=by exact aS rfl vA):p:=h k
theorem sJ {p q:Prop} (k:q) (h:q→p:=by exact ak rfl vI):p:=h k
theorem sJQ {p q:Prop} (k:q) (h:q→p:=by exact aS rfl vI):p:=h k
theorem sJG {p q:Prop} (k:q) (h:q→p:=by exact zY (f:=60) rfl (by decide+kernel) rfl vI):p:=h k
theorem sO {p q:Prop} (k:q) (h:q→p:=by exact ak rfl vR):p:=h k
theorem sOQ {p q:Prop} (k:q) (h:q→p:=by exact aS rfl vR):p:=h k
theorem sG {p q:Prop} (k:q) (h:q→p:=by
 first
 |(with_reducible exact yG)
 |(intro k;(with_reducible apply De);exact rfl;(intro D ht;exact vC);exact fun _=>rfl;exact k)
 |exact Df _ _ rfl rfl (fun D=> .hd) rfl rfl rfl (fun _=>Um rfl) (fun D ht=> .refl _)
 |(intro k;(with_reducible apply zY (f:=60));exact rfl;decide+kernel;exact rfl;exact vC;exact k)):p:=h k
theorem sX {p q:Prop} (k:q) (h:q→p:=by
 first
 |(with_reducible exact wx_nil)
 |(intro k;(with_reducible apply wx_v);(iterate 3 exact rfl);(intro D ht;exact vC);exact fun _=>rfl;exact k)
 |(intro k;(with_reducible apply wx_gno);(iterate 3 exact rfl);exact fun _=>rfl;exact k)):p:=h k
theorem sCX {p q1 q2 r1 r2:Prop} (k1:q1→q2) (k2:r1→r2) (h:(q1→q2)→(r1→r2)→p:=by
 intro k1 k2
 first
 |((with_reducible apply wx_gsplit);exact rfl;exact rfl;exact fun hb=>k1 (Tidy.out hb);exact fun hb=>k2 (Tidy.out hb))):p:=h k1 k2
theorem sXO {p q:Prop} (k:q) (h:q→p:=by exact wx_v rfl rfl rfl (fun D ht=>vR) (fun _=>rfl)):p:=h k
theorem sBG {p q:Prop} (k:q) (h:q→p:=by with_reducible first|exact wl_app_c|exact wl_app_n):p:=h k
theorem sI {p q:Prop} (k:q) (h:q→p:=by first|(with_reducible exact Mj)|(intro k;(with_reducible apply Jp);exact rfl;exact rfl;exact vC;exact k)):p:=h k
theorem sR {p q:Prop} (k:q) (h:q→p:=by
 first
 |(with_reducible first|exact OA|exact wr_ret|exact wr_exit|exact Mg|exact Jj|exact Ji|exact pP|exact wt_seq_c|exact wt_seq_b|exact wt_seq_k|exact wt_last_r|exact zN|exact Gy|exact II|exact IG)
 |(intro k;(with_reducible apply wr_cond_true);exact rfl;exact k)
 |(intro k;(with_reducible apply wr_cond_false);exact rfl;exact k)
 |(intro k;(with_reducible apply Gz);exact rfl;(repeat (first|exact Hy|exact E4|apply Pv|apply Pw|apply no_cut));exact k)):p:=h k
theorem sCR {p q1 q2 r1 r2:Prop} (k1:q1→q2) (k2:r1→r2) (h:(q1→q2)→(r1→r2)→p:=by
 intro k1 k2
 first
 |((with_reducible apply wr_cond);exact rfl;exact fun hb=>k1 (Tidy.out hb);exact fun hb=>k2 (Tidy.out hb))):p:=h k1 k2
theorem sW {p q:Prop} (k:q) (h:q→p:=by
 first
 |(with_reducible exact OD)
 |(intro k;(with_reducible apply da);(iterate 3 exact rfl);exact vC;exact k)
 |(intro k;(with_reducible apply OE);(iterate 3 exact rfl);exact k)
 |(intro k;(with_reducible apply wc_gno0);exact rfl;exact k)
 |(intro k;(with_reducible apply QG);exact rfl;exact rfl;exact k)
 |(intro k;(with_reducible apply QF);(iterate 4 exact rfl);exact vC;exact k)
 |(intro k;(with_reducible apply IY);exact mS;exact k)):p:=h k
theorem sW2 {p q:Prop} (k:q) (h:q→p:=by exact da rfl rfl rfl vC2):p:=h k
theorem sWN {p q:Prop} (k:q) (h:q→p:=by exact da rfl rfl rfl vA):p:=h k
theorem sWJ {p q:Prop} (k:q) (h:q→p:=by exact da rfl rfl rfl vI):p:=h k
theorem sCW {p q1 q2 r1 r2:Prop} (k1:q1→q2) (k2:r1→r2) (h:(q1→q2)→(r1→r2)→p:=by
 intro k1 k2
 first
 |((with_reducible apply GM);exact rfl;exact rfl;exact fun hb=>k1 (Tidy.out hb);exact fun hb=>k2 (Tidy.out hb))):p:=h k1 k2
theorem sG2 {p q:Prop} (k:q) (h:q→p:=by first|exact De rfl (fun D ht=>vC2) (fun _=>rfl)|exact zY (f:=60) rfl (by decide+kernel) rfl vC2):p:=h k
theorem sX2 {p q:Prop} (k:q) (h:q→p:=by exact wx_v rfl rfl rfl (fun D ht=>vC2) (fun _=>rfl)):p:=h k
theorem eIO {p:Prop} (h:p:=by first|exact .inl rfl|exact .inr rfl):p:=h
theorem rT0 {p q:Prop} (k:q) (h:q→p:=by intro k;(with_reducible apply fO);exact .inl rfl;exact rfl;exact MSub.nil _;exact k):p:=h k
theorem rT1 {p q:Prop} (k:q) (h:q→p:=by intro k;(with_reducible apply cH);exact .inl rfl;exact rfl;exact rfl;exact MSub.nil _;exact k):p:=h k
theorem rT2 {p q:Prop} (k:q) (h:q→p:=by intro k;(with_reducible apply eY);exact .inl rfl;(iterate 3 exact rfl);exact MSub.nil _;exact k):p:=h k
theorem rT3 {p q:Prop} (k:q) (h:q→p:=by intro k;(with_reducible apply oD);exact .inl rfl;(iterate 4 exact rfl);exact MSub.nil _;exact k):p:=h k
theorem eRC {p q:Prop} (k:q) (h:q→p:=by first|exact wQ (.inl rfl) rfl rfl pK rfl (MSub.nil _)|exact wQ (.inr rfl) rfl rfl pK rfl (MSub.nil _)):p:=h k
theorem eQ {p q:Prop} (k:q) (h:q→p:=by first|exact xA (.inl rfl) rfl rfl pK rfl rfl (MSub.nil _)|exact xA (.inr rfl) rfl rfl pK rfl rfl (MSub.nil _)):p:=h k
theorem cJ {p q:Prop} (k:q) (h:q→p:=by first|exact fI (.inl rfl) rfl rfl pK rfl rfl rfl (MSub.nil _)|exact fI (.inr rfl) rfl rfl pK rfl rfl rfl (MSub.nil _)):p:=h k
theorem nP {p:Prop} (h:p:=by (repeat (first|exact Pr|apply Pq|apply Pu|apply Ps));(first|done|fail)):p:=h
theorem vP {P:Program} {w0:World} {s:az} {H:List Blk} {op:Op} {ty:TypeId} {v:Value} (h:VOp P w0 s H op ty v:=by
 first|exact vC|((with_reducible apply kB);exact rfl;exact rfl;omega;omega)|((with_reducible apply JF);exact rfl;exact rfl;omega)):VOp P w0 s H op ty v:=h
end Go.SL
namespace Go.SL
open Go Go.Proofs
attribute [local irreducible] W WL WQ WG VOp thn blk aV aK FnIn
set_option maxRecDepth 10000 in
theorem jG (c r:Int) (w:World):ay Tryz.prog 71 [.agg #[.int .i64 c,.int .i64 r]] w (.bool (valid c r)):=by
 refine aq Tryz.func71 rfl Tryz.ntmps71 rfl ?_
 repeat' (first|refine sT ?_|refine sM fun _=> ?_|(refine sC ?_ ?_<;>intro hb<;>try omega)|fail)
 all_goals ((refine rT1 ?_);((try simp only [← Int.not_lt] at*);simp_all [valid, -Int.not_lt, -Int.not_le,← Int.not_lt]))
set_option maxRecDepth 10000 in
theorem EU (r:Rct) (w:World):ay Tryz.prog 135 [.agg (bK r).toArray] w (.tuple #[.agg #[.int .i64 r.c1,.int .i64 r.r1],.agg #[.int .i64 r.c2,.int .i64 r.r2]]):=by
 refine aq Tryz.func135 rfl Tryz.ntmps135 rfl ?_
 repeat' (first|refine sT ?_|refine sM fun _=> ?_|(refine sC ?_ ?_<;>intro hb<;>try omega)|fail)
 rename_i g1 g2 g3
 refine tO (fun D=> [.box g2 50 [.int .i64 (bif D 10 then r.c1 else 0),.int .i64 (bif D 10 then r.r1 else 0)],.box g3 50 [.int .i64 (bif D 11 then r.c2 else 0),.int .i64 (bif D 11 then r.r2 else 0)],.box g1 32 (bK r)]) (by kernel_rfl) (by kernel_rfl) (.pick (.tl .hd) (.pick .hd (.refl _))) ?_
 repeat' (first|refine sT ?_|refine sG ?_|refine sM fun _=> ?_|(refine sC ?_ ?_<;>intro hb<;>try omega)|fail)
 refine Df _ _ rfl rfl (fun D=> .tl .hd) rfl rfl rfl (fun _=>QV _) (fun D ht=> .pick (.tl .hd) (.pick .hd (.refl _))) ?_
 refine yG fun D hD=> ?_
 have h10:=hD 10 (by decide)
 have h11:=hD 11 (by decide)
 simp only [h10,h11,cond_true]
 repeat' (first|refine sT ?_|refine sM fun _=> ?_|(refine sC ?_ ?_<;>intro hb<;>try omega)|fail)
 refine Qk (.inl rfl) Tryz.results135 rfl .hd rfl rfl (.tl .hd) rfl (MSub.nil _) ?_
 rfl
set_option maxRecDepth 10000 in
theorem fT (r:Rct) (w:World):ay Tryz.prog 93 [.agg (bK r).toArray] w (.int .i64 (dh r)):=by
 refine aq Tryz.func93 rfl Tryz.ntmps93 rfl ?_
 repeat' (first|(apply aa;exact rfl;exact rfl;(intro w hm;exact EU r w))|(apply aa;exact rfl;exact rfl;(intro w hm;exact jG r.c1 r.r1 w))|(apply aa;exact rfl;exact rfl;(intro w hm;exact jG r.c2 r.r2 w))|refine sT ?_|refine sM fun _=> ?_|(refine sC ?_ ?_<;>intro hb<;>try omega)|fail)
 all_goals ((refine rT1 ?_);((try simp only [← Int.not_lt] at*);simp_all [dh,aD, -Int.not_lt, -Int.not_le,← Int.not_lt]))
set_option maxRecDepth 10000 in
theorem KV (fn:Int) (w:World):ay Tryz.prog 357 [.int .u8 fn] w (.bool (cU fn)):=by
 refine aq Tryz.func357 rfl Tryz.ntmps357 rfl ?_
 repeat' (first|refine sT ?_|refine sM fun _=> ?_|(refine sC ?_ ?_<;>intro hb<;>try omega)|fail)
 all_goals ((refine rT1 ?_);((try simp only [← Int.not_lt] at*);simp_all [cU, -Int.not_lt, -Int.not_le,← Int.not_lt]))
set_option maxRecDepth 10000 in
theorem sv (fn:Int) (w:World):ay Tryz.prog 338 [.int .u8 fn] w (.bool (il fn)):=by
 refine aq Tryz.func338 rfl Tryz.ntmps338 rfl ?_
 repeat' (first|refine sT ?_|refine sM fun _=> ?_|(refine sC ?_ ?_<;>intro hb<;>try omega)|fail)
 all_goals ((refine rT1 ?_);((try simp only [← Int.not_lt] at*);simp_all [il, -Int.not_lt, -Int.not_le,← Int.not_lt]))
set_option maxRecDepth 10000 in
theorem LR (n:Nd) (w:World):ay Tryz.prog 306 [.agg (bX n).toArray] w (.int .i64 (below n)):=by
 refine aq Tryz.func306 rfl Tryz.ntmps306 rfl ?_
 repeat' (first|refine sT ?_|refine sM fun _=> ?_|(refine sC ?_ ?_<;>intro hb<;>try omega)|fail)
 all_goals ((refine rT1 ?_);simp_all [below])
set_option maxRecDepth 10000 in
theorem wE (fn:Int) (w:World):ay Tryz.prog 336 [.int .u8 fn] w (.tuple #[.int .i64 (eE fn).1,.int .i64 (eE fn).2.1,.int .i64 (eE fn).2.2]):=by
 refine aq Tryz.func336 rfl Tryz.ntmps336 rfl ?_
 repeat' (first|(apply aa;exact rfl;exact rfl;(intro w hm;exact KV fn w))|refine sT ?_|refine sM fun _=> ?_|(refine sC ?_ ?_<;>intro hb<;>try omega)|fail)
 all_goals ((refine rT3 ?_);simp_all [eE])
set_option maxRecDepth 10000 in
theorem Fx (fn i:Int) (w:World):ay Tryz.prog 337 [.int .u8 fn,.int .i64 i] w (.tuple #[.bool (jF fn i).1,.int .i64 (jF fn i).2]):=by
 refine aq Tryz.func337 rfl Tryz.ntmps337 rfl ?_
 repeat' (first|(apply aa;exact rfl;exact rfl;(intro w hm;exact wE fn w))|(apply aa;exact rfl;exact rfl;(intro w hm;exact sv fn w))|refine sT ?_|refine sM fun _=> ?_|(refine sC ?_ ?_<;>intro hb<;>try omega)|fail)
 all_goals ((refine rT2 ?_);((try simp only [← Int.not_lt] at*);simp_all [jF, -Int.not_lt, -Int.not_le,← Int.not_lt]))
end Go.SL
namespace Go.SL
open Go Go.Proofs
attribute [local irreducible] W WL WQ WG WA VOp thn blk aV aK FnIn
def cZ:List ByteArray:= [
 ⟨#[65,66,83]⟩,⟨#[83,73,71,78]⟩,⟨#[73,78,84]⟩,⟨#[84,82,85,78,67]⟩,⟨#[82,79,85,78,68]⟩,
 ⟨#[77,79,68]⟩,⟨#[80,79,87,69,82]⟩,⟨#[83,81,82,84]⟩,⟨#[83,85,77]⟩,⟨#[80,82,79,68,85,67,84]⟩,
 ⟨#[67,79,85,78,84]⟩,⟨#[67,79,85,78,84,65]⟩,⟨#[67,79,85,78,84,66,76,65,78,75]⟩,⟨#[65,86,69,82,65,71,69]⟩,⟨#[77,73,78]⟩,
 ⟨#[77,65,88]⟩,⟨#[77,69,68,73,65,78]⟩,⟨#[76,65,82,71,69]⟩,⟨#[83,77,65,76,76]⟩,⟨#[73,70]⟩,
 ⟨#[65,78,68]⟩,⟨#[79,82]⟩,⟨#[88,79,82]⟩,⟨#[78,79,84]⟩,⟨#[73,70,69,82,82,79,82]⟩,
 ⟨#[73,83,69,82,82,79,82]⟩,⟨#[73,83,66,76,65,78,75]⟩,⟨#[73,83,78,85,77,66,69,82]⟩,⟨#[73,83,84,69,88,84]⟩,⟨#[67,72,79,79,83,69]⟩,
 ⟨#[76,69,78]⟩,⟨#[76,69,70,84]⟩,⟨#[82,73,71,72,84]⟩,⟨#[77,73,68]⟩,⟨#[85,80,80,69,82]⟩,
 ⟨#[76,79,87,69,82]⟩,⟨#[84,82,73,77]⟩,⟨#[67,79,78,67,65,84]⟩,⟨#[82,69,80,84]⟩,⟨#[69,88,65,67,84]⟩,
 ⟨#[70,73,78,68]⟩,⟨#[86,65,76,85,69]⟩,⟨#[73,78,68,69,88]⟩,⟨#[77,65,84,67,72]⟩,⟨#[67,79,85,78,84,73,70]⟩,
 ⟨#[68,83,85,77]⟩,⟨#[68,67,79,85,78,84]⟩,⟨#[68,65,86,71]⟩,⟨#[68,77,73,78]⟩,⟨#[68,77,65,88]⟩]
theorem KD (w:World):ay Tryz.prog 374 [] w (.agg (cZ.map Value.string).toArray):=by
 refine aq Tryz.func374 rfl Tryz.ntmps374 rfl ?_
 repeat' (first|(apply zU;(iterate 5 exact rfl))|refine sT ?_|refine sM fun _=> ?_|(refine sC ?_ ?_<;>intro hb<;>try omega)|fail)
 exact wQ (.inl rfl) Tryz.results374 rfl .hd rfl (MSub.nil _) rfl
theorem Ro.str1 {w:World} {g o:Nat} {L:List ByteArray} (h:Ro w g o (L.map Value.string)) (i:Nat) (hi:i<L.length):Ro w g (o+i*1) [Value.string L[i]]:=by
 have h1:=(h.drop (k:=i)).take (k:=1)
 rw [← List.map_drop,← List.map_take,QY hi] at h1
 rw [SZ]
 exact h1
def dN:List ByteArray→ByteArray→Int→Int
 | [],_,_=> -1
 |a::r,s,i=>if s=a then i else dN r s (i+1)
theorem Ma (L:List ByteArray) (b:ByteArray) (tv:Value) (w:World) (ht:Reads w tv L.length (L.map Value.string)):ay Tryz.prog 375 [tv,.string b] w (.int .i64 (dN L b 0)):=by
 obtain ⟨Al,cl,rfl,hl1,hl2,hl3⟩:=ht
 refine aq Tryz.func375 rfl Tryz.ntmps375 rfl ?_
 repeat' (first|refine sT ?_|refine sM fun _=> ?_|(refine sC ?_ ?_<;>intro hb<;>try omega)|fail)
 refine ia (fun i:Nat=> [(0,.slice Al L.length cl),(1,.string b),(7,.int .i64 (L.length:Int)),(8,.int .i64 (i:Int))]) (fun _=> []) (fun i=>i≤L.length∧dN L b 0=dN (L.drop i) b (i:Int)) (fun i=>L.length - i) 0 ⟨by omega,rfl⟩ ?_ ?_ ?_
 ·
  exact sB
 ·
  exact mS
 ·
  rintro i ⟨hi,hrec⟩
  by_cases hlt:i<L.length
  ·
   obtain ⟨gl,ol,rfl,hrl⟩:=hl3 (by omega)
   have he:=hrl.str1 i hlt
   rw [QY hlt,dN] at hrec
   repeat' (first|(apply ak;exact rfl;apply aj;exact rfl;exact rfl;exact hlt)|(apply ak;exact rfl;apply eU;exact rfl;exact he)|(apply ak;exact rfl;apply fq;exact rfl;exact rfl;(simp only [maxLen] at*;omega))|refine sT ?_|refine sM fun _=> ?_|(refine sC ?_ ?_<;>intro hb<;>try omega)|fail)
   ·
    (refine rT1 ?_)
    rw [hrec,if_pos hb]
   ·
    refine ⟨i+1,⟨by omega,?_⟩,by omega,?_,?_⟩
    ·
     rw [hrec,if_neg hb]
     rfl
    ·
     exact sB
    ·
     exact mS
  ·
   have e:i=L.length:=by omega
   subst e
   repeat' (first|refine sT ?_|refine sM fun _=> ?_|(refine sC ?_ ?_<;>intro hb<;>try omega)|fail)
   (refine rT1 ?_)
   rw [hrec,RE,dN]
theorem iO:cZ.length=50:=rfl
theorem iQ (L:List ByteArray) (b:ByteArray) (i:Int) (h:0≤i):dN L b i= -1∨(i≤dN L b i∧dN L b i<i+L.length):=by
 induction L generalizing i with
 |nil=>exact .inl rfl
 |cons a r ih=>
  unfold dN
  rw [Rp]
  split
  ·
   right;omega
  ·
   rcases ih (i+1) (by omega) with h1|h1
   ·
    exact .inl h1
   ·
    right;omega
def ba (b:ByteArray):Int × Int:=if dN cZ b 0<0 then (0,6) else (dN cZ b 0+1,0)
theorem CV (b:ByteArray) (w:World):ay Tryz.prog 370 [.string b] w (.tuple #[.int .u8 (ba b).1,.int .i64 (ba b).2]):=by
 refine aq Tryz.func370 rfl Tryz.ntmps370 rfl ?_
 have hb1:=iQ cZ b 0 (by omega)
 rw [iO] at hb1
 have hix:=fun w tv (h:Reads w tv (cZ.map Value.string).length (cZ.map Value.string))=>Ma cZ b tv w h
 unfold ba
 generalize dN cZ b 0=r at hb1 hix
 repeat' (first|(apply aa;exact rfl;exact rfl;(intro w hm;exact KD w))|(apply ak;exact rfl;apply z6;exact rfl)|(apply aa;exact rfl;exact rfl;(intro w' hm;exact hix w' _ (Reads.of_box hm pK rfl)))|(apply ak;exact rfl;apply dQ;exact rfl;exact rfl;exact I64.wrap ⟨by omega,by omega⟩)|(apply ak;exact rfl;apply xm;exact rfl;exact wrap_u8 (by omega) (by omega))|refine sT ?_|refine sM fun _=> ?_|(refine sC ?_ ?_<;>intro hb<;>try omega)|fail)
 ·
  refine eY (.inl rfl) Tryz.results370 rfl rfl (.nil _) ?_
  rw [if_pos hb]
 ·
  refine eY (.inl rfl) Tryz.results370 rfl rfl (.nil _) ?_
  rw [if_neg (by omega)]
theorem iC {L:List Nd} {i:Nat} (h:i<L.length):kK L i=L[i].kind:=by simp [kK,h]
set_option maxHeartbeats 1000000 in
theorem NB (L:List Nd) (n:Nd) (ps:List Pt) (tv lv:Value) (w:World) (ht:Reads w tv L.length (L.flatMap bX)) (hp:Reads w lv ps.length (ps.flatMap rR)) (hroot: ∀ p∈ps,p.root<L.length) (hlen:ps.length≤1000000):
  ay Tryz.prog 307 [tv,.agg (bX n).toArray,lv] w (.bool (fp L n 0 ps)):=by
 obtain ⟨At,ct,rfl,ht1,ht2,ht3⟩:=ht
 obtain ⟨Al,cl,rfl,hl1,hl2,hl3⟩:=hp
 refine aq Tryz.func307 rfl Tryz.ntmps307 rfl ?_
 repeat' (first|refine sT ?_|refine sM fun _=> ?_|(refine sC ?_ ?_<;>intro hb<;>try omega)|fail)
 rename_i gn
 refine ia (fun i:Nat=> [(0,.slice At L.length ct),(4,.pointer (some ⟨gn,0,none⟩)),(11,.slice Al ps.length cl),(12,.int .i64 (ps.length:Int)),(13,.int .i64 (i:Int))])
  (fun i=> [.box gn 293 (bX n)]) (fun i=>i≤ps.length∧fp L n 0 ps=fp L n (i:Int) (ps.drop i)) (fun i=>ps.length - i) 0 ⟨by omega,rfl⟩ ?_ ?_ ?_
 ·
  exact sB
 ·
  exact mS
 ·
  rintro i ⟨hi,hrec⟩
  by_cases hlt:i<ps.length
  ·
   obtain ⟨g,o,rfl,hro⟩:=hl3 (by omega)
   have hrp:=hro.elem nJ i hlt
   have hr0:=hroot ps[i] (RQ hlt)
   obtain ⟨gt,ot,rfl,hrt⟩:=ht3 (by omega)
   have hrn:=hrt.elem eC ps[i].root hr0
   rw [QY hlt,fp,vZ,iC hr0] at hrec
   repeat' (first|(apply ak;exact rfl;apply aj;exact rfl;exact rfl;first|exact hlt|exact hr0)|(apply ak;exact rfl;apply aB;exact rfl;exact hrp;exact rfl)|(apply ak;exact rfl;apply dx;exact rfl;exact hrn;exact rfl)|(apply ak;exact rfl;apply eV;exact rfl;exact rfl;(constructor<;>omega))|(apply aa;exact rfl;exact rfl;(intro w hm;exact Fx n.fn (i:Int) w))|(apply aa;exact rfl;exact rfl;(intro w hm;exact sv n.fn w))|refine sT ?_|refine sM fun _=> ?_|(refine sC ?_ ?_<;>intro hb<;>try omega)|fail)
   all_goals first
    |((refine rT1 ?_);rw [hrec];simp_all [BJ];done)
    |(refine ⟨i+1,⟨by omega,?_⟩,by omega,?_,?_⟩;(focus (rw [hrec,Int.natCast_add];simp [BJ, *]));(focus exact sB);(focus exact mS))
  ·
   have e:i=ps.length:=by omega
   subst e
   rw [RE,fp] at hrec
   repeat' (first|refine sT ?_|refine sM fun _=> ?_|(refine sC ?_ ?_<;>intro hb<;>try omega)|fail)
   (refine rT1 ?_)
   rw [hrec]
end Go.SL
namespace Go.SL
open Go Go.Proofs
attribute [local irreducible] W WL WQ WG WA VOp thn blk bE aV aK FnIn
def fw (n:Nd):Bool:=decide (n.kind=2)||decide (n.kind=3)
theorem HH (n:Nd) (w:World):ay Tryz.prog 291 [.agg (bX n).toArray] w (.bool (fw n)):=by
 refine aq Tryz.func291 rfl Tryz.ntmps291 rfl ?_
 repeat' (first|refine sT ?_|refine sM fun _=> ?_|(refine sC ?_ ?_<;>intro hb<;>try omega)|fail)
 all_goals
  (refine rT1 ?_)
  simp [fw, *]
theorem Ly (r:Rct):(bK r).length=4:=rfl
theorem PL (L:List Rct) (lv:Value) (w:World) (hl:Reads w lv L.length (L.flatMap bK)):ay Tryz.prog 229 [lv] w (.bool (L.all aD)):=by
 obtain ⟨Al,cl,rfl,hl1,hl2,hl3⟩:=hl
 refine aq Tryz.func229 rfl Tryz.ntmps229 rfl ?_
 repeat' (first|refine sT ?_|refine sM fun _=> ?_|(refine sC ?_ ?_<;>intro hb<;>try omega)|fail)
 refine ia (fun i:Nat=> [(5,.slice Al L.length cl),(6,.int .i64 (L.length:Int)),(7,.int .i64 (i:Int))]) (fun _=> []) (fun i=>i≤L.length∧L.all aD=(L.drop i).all aD) (fun i=>L.length - i) 0 ⟨by omega,rfl⟩ ?_ ?_ ?_
 ·
  exact sB
 ·
  exact mS
 ·
  rintro i ⟨hi,hrec⟩
  by_cases hlt:i<L.length
  ·
   obtain ⟨gl,ol,rfl,hrl⟩:=hl3 (by omega)
   have he1:=hrl.elem Ly i hlt
   rw [QY hlt,Tu] at hrec
   generalize L[i]=r at hrec he1
   repeat' (first|(apply aa;exact rfl;exact rfl;(intro w hm;exact fT r w))|refine sT ?_|refine sN ?_|refine sO ?_|refine sM fun _=> ?_|(refine sC ?_ ?_<;>intro hb<;>try omega)|fail)
   ·
    (refine rT1 ?_)
    rw [hrec]
    cases hq:aD r<;>simp [dh,hq] at hb ⊢
   ·
    refine ⟨i+1,⟨by omega,?_⟩,by omega,?_,?_⟩
    ·
     rw [hrec]
     cases hq:aD r<;>simp [dh,hq] at hb ⊢
    ·
     exact sB
    ·
     exact mS
  ·
   have e:i=L.length:=by omega
   subst e
   repeat' (first|refine sT ?_|refine sM fun _=> ?_|(refine sC ?_ ?_<;>intro hb<;>try omega)|fail)
   (refine rT1 ?_)
   rw [hrec,RE]
   rfl
def gV (a b:Rct):Rct:=⟨if a.c1<b.c1 then b.c1 else a.c1,if a.r1<b.r1 then b.r1 else a.r1,if b.c2<a.c2 then b.c2 else a.c2,if b.r2<a.r2 then b.r2 else a.r2⟩
def dU (a b:Rct):Rct × Bool:=if [a,b,gV a b].all aD=true then (gV a b,true) else (aL,false)
theorem Gw (a b:Rct) (w:World):ay Tryz.prog 181 [.agg (bK a).toArray,.agg (bK b).toArray] w (.tuple #[.agg (bK (dU a b).1).toArray,.bool (dU a b).2]):=by
 refine aq Tryz.func181 rfl Tryz.ntmps181 rfl ?_
 have hall:=fun (lv:Value) (w:World)=>PL [a,b,gV a b] lv w
 unfold dU
 generalize [a,b,gV a b].all aD=q at hall
 repeat' (first|(apply aa;exact rfl;exact rfl;(intro w hm;exact hall _ w (Reads.of_row hm pK)))|refine sT ?_|refine sM fun _=> ?_|(refine sC ?_ ?_<;>intro hb<;>try omega)|fail)
 ·
  refine xA (.inl rfl) Tryz.results181 rfl pK rfl rfl (MSub.nil _) ?_
  simp [hb,aL,bK]
 ·
  refine xA (.inl rfl) Tryz.results181 rfl pK rfl rfl (MSub.nil _) ?_
  simp [hb,gV,bK]
end Go.SL
namespace Go.SL
open Go Go.Proofs
attribute [local irreducible] W WL WQ WG WA VOp thn blk bE aV aK FnIn WLI WR WT bI nQ iT kF
def QO (r:Rct) (u:Us):Bool:=(dU u.rect r).2
end Go.SL
namespace Go.SL
open Go Go.Proofs
attribute [local irreducible] W WL WQ WG WA WX WLI WR WT VOp thn blk bE scp aV bI aK FnIn
theorem kv (c:Int) (w:World):ay Tryz.prog 261 [.int .u8 c] w (.bool (aF c)):=by
 refine aq Tryz.func261 rfl Tryz.ntmps261 rfl ?_
 repeat' (first|refine sT ?_|refine sM fun _=> ?_|(refine sC ?_ ?_<;>intro hb<;>try omega)|fail)
 all_goals ((refine rT1 ?_);((try simp only [← Int.not_lt] at*);simp_all [aF, -Int.not_lt, -Int.not_le,← Int.not_lt]))
theorem qq (c:Int) (w:World):ay Tryz.prog 263 [.int .u8 c] w (.bool (bV c)):=by
 refine aq Tryz.func263 rfl Tryz.ntmps263 rfl ?_
 repeat' (first|refine sT ?_|refine sM fun _=> ?_|(refine sC ?_ ?_<;>intro hb<;>try omega)|fail)
 all_goals ((refine rT1 ?_);(try simp only [← Int.not_lt] at*);simp_all [bV, -Int.not_lt, -Int.not_le,← Int.not_lt];try omega)
theorem H6 (c:Int) (w:World):ay Tryz.prog 300 [.int .u8 c] w (.bool (cN c)):=by
 refine aq Tryz.func300 rfl Tryz.ntmps300 rfl ?_
 repeat' (first|(apply aa;exact rfl;exact rfl;(intro w hm;exact qq c w))|(apply aa;exact rfl;exact rfl;(intro w hm;exact kv c w))|refine sT ?_|refine sM fun _=> ?_|(refine sC ?_ ?_<;>intro hb<;>try omega)|fail)
 all_goals ((refine rT1 ?_);simp_all [cN])
def iy (p:Int→Bool) (l:List Int):List Int:=l.take (aC p l)
theorem Bx {p:Int→Bool} {c:Int} {r:List Int} (h:p c=true):iy p (c::r)=c::iy p r:=by simp [iy,aC,h]
theorem Bw {p:Int→Bool} {c:Int} {r:List Int} (h:p c=false):iy p (c::r)= []:=by simp [iy,aC,h]
theorem wY (p:Int→Bool) (l:List Int):(iy p l).length=aC p l:=by
 simp [iy,SW (bY p l)]
set_option maxHeartbeats 1000000 in
theorem HO (a:ByteArray) (ha:a.size≤1000000) (i0:Nat) (hi0:i0≤a.size) (fis:FuncId) [Callable Tryz.prog fis] (p:Int→Bool) (hf: ∀ c w,ay Tryz.prog fis [.int .u8 c] w (.bool (p c))) (w0:World) (g4 g3 g5:Nat):
  N8 Tryz.prog 330 [.pointer (some ⟨g4,0,none⟩),.pointer (some ⟨g3,0,none⟩),.pointer (some ⟨g5,0,none⟩)] w0 [.box g4 3 [.int .i64 (i0:Int)],.box g3 9 [.string a],.box g5 139 [.func (.func fis) #[] #[]]] (iy p ((ap a).drop i0)) (fun c=> [.int .u8 c]):=by
 intro l I J H0 hy h0
 refine FnIn.msub (H' := [.box g4 3 [.int .i64 (i0:Int)],.box g3 9 [.string a],.box g5 139 [.func (.func fis) #[] #[]]]++H0) ?_ MSub.swap
 refine dD Tryz.func330 rfl Tryz.ntmps330 rfl ?_
 repeat' (first|refine sT ?_|refine sT2 ?_|refine sM fun _=> ?_|(refine sC ?_ ?_<;>intro hb<;>try omega)|fail)
 refine ia (fun y:Nat × List Int × List Blk=> [(0,.func (.yield l) #[] #[]),(1,.pointer (some ⟨g4,0,none⟩)),(2,.pointer (some ⟨g3,0,none⟩)),(3,.pointer (some ⟨g5,0,none⟩)),(5,.int .i64 (y.1:Int))])
  (fun y=> [.box g4 3 [.int .i64 (i0:Int)],.box g3 9 [.string a],.box g5 139 [.func (.func fis) #[] #[]]]++y.2.2)
  (fun y=>y.1≤a.size∧iy p ((ap a).drop i0)=y.2.1++iy p ((ap a).drop y.1)∧I y.2.1 y.2.2) (fun y=>a.size - y.1) (i0,[],H0) ⟨hi0,rfl,h0⟩ sB (MSub.refl _) ?_
 rintro ⟨i,pre,H1⟩ ⟨hi,hus,hI⟩
 dsimp only at hi hus hI ⊢
 by_cases hlt:i<a.size
 ·
  rw [bi hlt] at hus
  have hfc:=fun w=>hf (bat a i) w
  cases hp:p (bat a i)
  ·
   rw [hp] at hfc
   rw [Bw hp,QW] at hus
   repeat' (first|(apply gX;exact rfl;exact rfl;infer_instance;exact rfl;(intro w' _;exact hfc w'))|refine sT ?_|refine sI ?_|refine sQ ?_|refine sT2 ?_|refine sQ2 ?_|refine sN ?_|refine sNQ ?_|refine sD ?_|refine sM fun _=> ?_|(refine sC ?_ ?_<;>intro hb<;>try omega)|(refine sCQ ?_ ?_<;>intro hb<;>try omega)|fail)
   exact fO (.inr rfl) rfl (.refl _) ⟨H1,.inl (hus ▸ hI),MSub.swap⟩
  ·
   rw [hp] at hfc
   rw [Bx hp] at hus
   repeat' (first|(apply gX;exact rfl;exact rfl;infer_instance;exact rfl;(intro w' _;exact hfc w'))|(apply kS (id:=3))|(apply Jp;exact rfl;exact rfl;apply aZ;exact rfl;exact rfl;exact hlt)|refine sT ?_|refine sI ?_|refine sQ ?_|refine sT2 ?_|refine sQ2 ?_|refine sN ?_|refine sNQ ?_|refine sD ?_|refine sM fun _=> ?_|(refine sC ?_ ?_<;>intro hb<;>try omega)|(refine sCQ ?_ ?_<;>intro hb<;>try omega)|fail)
   (with_reducible apply jE)
   ·
    exact rfl
   ·
    exact rfl
   ·
    exact rfl
   ·
    exact MSub.swapN
   ·
    exact fun w hm=>hy pre (bat a i) _ hus H1 [] hI w hm
   intro bb H2 hq
   cases bb
   ·
    repeat' (first|refine sT ?_|refine sI ?_|refine sT2 ?_|refine sM fun _=> ?_|(refine sC ?_ ?_<;>intro hb<;>try omega)|fail)
    exact fO eIO rfl (.refl _) ⟨H2,.inr ⟨_,hq⟩,by rw [QW];exact .refl _⟩
   ·
    repeat' (first|refine sT ?_|refine sI ?_|refine sT2 ?_|refine sN ?_|refine sM fun _=> ?_|(refine sC ?_ ?_<;>intro hb<;>try omega)|fail)
    refine ⟨(i+1,_,H2),⟨hlt,hus.trans (by rw [List.append_assoc];rfl),hq⟩,(by dsimp only;omega),sB,?_⟩
    exact MSub.swapN'
 ·
  have e:i=a.size:=by omega
  subst e
  have hl:=au a
  rw [Ry (i:=a.size) (by omega),show iy p []= [] from rfl,QW] at hus
  repeat' (first|refine sT ?_|refine sI ?_|refine sQ ?_|refine sT2 ?_|refine sQ2 ?_|refine sN ?_|refine sNQ ?_|refine sD ?_|refine sM fun _=> ?_|(refine sC ?_ ?_<;>intro hb<;>try omega)|(refine sCQ ?_ ?_<;>intro hb<;>try omega)|fail)
  exact fO (.inr rfl) rfl (.refl _) ⟨H1,.inl (hus ▸ hI),MSub.swap⟩
theorem Ki (a:ByteArray) (i0:Nat) (fis:FuncId) (w:World):
  aK Tryz.prog 299 [.string a,.int .i64 (i0:Int),.func (.func fis) #[] #[]] w fun v H=> ∃ g4 g3 g5,v= .func (.func 330) #[] #[.pointer (some ⟨g4,0,none⟩),.pointer (some ⟨g3,0,none⟩),.pointer (some ⟨g5,0,none⟩)]∧H= [.box g4 3 [.int .i64 (i0:Int)],.box g3 9 [.string a],.box g5 139 [.func (.func fis) #[] #[]]]:=by
 refine aq Tryz.func299 rfl Tryz.ntmps299 rfl ?_
 repeat' (first|refine sT ?_|refine sM fun _=> ?_|(refine sC ?_ ?_<;>intro hb<;>try omega)|fail)
 rename_i g3 g4 g5
 exact cH (.inl rfl) rfl rfl (H' := [.box g4 3 [.int .i64 (i0:Int)],.box g3 9 [.string a],.box g5 139 [.func (.func fis) #[] #[]]]) mS ⟨g4,g3,g5,rfl,rfl⟩
set_option maxHeartbeats 1000000 in
theorem rM (a:ByteArray) (ha:a.size≤1000000) (i0:Nat) (hi0:i0≤a.size) (fis:FuncId) [Callable Tryz.prog fis] (p:Int→Bool) (hf: ∀ c w,ay Tryz.prog fis [.int .u8 c] w (.bool (p c))) (w:World):
  ay Tryz.prog 260 [.string a,.int .i64 (i0:Int),.func (.func fis) #[] #[]] w (.int .i64 (aC p ((ap a).drop i0):Int)):=by
 refine nD Tryz.func260 rfl Tryz.ntmps260 (by rfl) ?_
 refine pP ?_
 repeat' (first|(apply aA;exact rfl;exact rfl;(intro w' hm;exact Ki a i0 fis w');(rintro v H' ⟨g4,g3,g5,rfl,rfl⟩))|refine sT ?_|refine sR ?_|refine sM fun _=> ?_|(refine sC ?_ ?_<;>intro hb<;>try omega)|(refine sCR ?_ ?_<;>intro hb<;>try omega)|fail)
 rename_i gn
 have hpl:=wY p ((ap a).drop i0)
 have hll:=au a
 have hrl:=bY p ((ap a).drop i0)
 rw [Rk] at hrl
 rw [← hpl]
 refine tZ (ps:= [12]) (us:=iy p ((ap a).drop i0)) (encs:=fun c=> [.int .u8 c]) (Hc:= [.box g4 3 [.int .i64 (i0:Int)],.box g3 9 [.string a],.box g5 139 [.func (.func fis) #[] #[]]]) (HU0:= [.box gn 3 [.int .i64 0]]) rfl (fun _=>rfl) rfl (HO a ha i0 hi0 fis p hf w g4 g3 g5)
  (fun pre HU=>HU= [.box gn 3 [.int .i64 (pre.length:Int)]]) (fun _=>False) MSub.swap rfl ?_ ?_ ?_
 ·
  rintro l pre u post hus _ rfl F F'
  have hlu:=congrArg List.length hus
  simp only [QP,Rp] at hlu
  change WR _ _ _ l _ _ ((12,Value.int .u8 u)::_) (.box gn 3 [.int .i64 (pre.length:Int)]::F)
  repeat' (first|refine sT ?_|refine sR ?_|refine sM fun _=> ?_|(refine sC ?_ ?_<;>intro hb<;>try omega)|(refine sCR ?_ ?_<;>intro hb<;>try omega)|fail)
  refine wD ⟨[.box gn 3 [.int .i64 (pre.length:Int)]],MSub.refl _,?_⟩
  change WR _ _ _ l _ _ _ (.box gn 3 [.int .i64 (pre.length:Int)]::F')
  repeat' (first|refine sT ?_|refine sR ?_|refine sN ?_|refine sM fun _=> ?_|(refine sC ?_ ?_<;>intro hb<;>try omega)|(refine sCR ?_ ?_<;>intro hb<;>try omega)|fail)
  refine yS [.box gn 3 [.int .i64 ((pre.length+1:Nat):Int)]] ?_ (by rw [QP];rfl)
  change MSub (_::F') _
  exact mS
 ·
  rintro D _ rfl
  change bI _ _ _ _ _ (iY D:: .box gn 3 [.int .i64 ((iy p ((ap a).drop i0)).length:Int)]::_)
  repeat' (first|refine sT ?_|refine sR ?_|refine sM fun _=> ?_|(refine sC ?_ ?_<;>intro hb<;>try omega)|(refine sCR ?_ ?_<;>intro hb<;>try omega)|fail)
  refine wh .hd ?_
  exact cH (.inl rfl) rfl rfl (MSub.nil _) rfl
 ·
  rintro D HU h
  exact h.elim
end Go.SL
namespace Go.SL
open Go
def f9 (op:Int):Int:=
 if 7≤op∧op≤12 then 1 else if op=6 then 2 else if op=1∨op=2 then 3 else if op=3∨op=4 then 4 else if op=5 then 6 else if op=13 then 7 else 0
structure PS where
 l:List Tk
 out:List Nd
def hdT (fin:Int) (l:List Tk):Tk:=l.headD { cY with at_:=fin }
def PS.skip (p:PS):PS:=⟨p.l.tail,p.out⟩
def PS.put (p:PS) (n:Nd):PS:=⟨p.l,p.out++ [n]⟩
inductive Job where
 |level (k:Int)
 |loop (k:Int)
 |sign
 |pct
 |pctl
 |prim
 |args (fn:Int) (n:Nat)
abbrev Out:=Except (Int × Int) (Nat × PS)
def dz (kind op:Int):Nd:=⟨kind,bD,aL,op,0,0⟩
def fD (r:Option Out) (k:Nat→PS→Option Out):Option Out:=
 match r with
 |some (.ok (n,p))=>k n p
 |r=>r
def l3 (t:Tk):Nd:=
 ⟨1,if t.kind=1 then ⟨1,t.num,av⟩ else if t.kind=2 then ⟨3,0,t.text⟩ else if t.kind=3 then ⟨2,t.num,av⟩ else ⟨4,t.num,av⟩,aL,0,0,0⟩
def cV (fin:Int) (name:Tk) (fn:Int) (n:Nat) (p:PS):Option Out:=
 let t:=hdT fin p.l
 if t.kind≠10 then some (.error (t.at_,4))
 else if (n:Int)<(eE fn).1∨(eE fn).2.1<(n:Int) then some (.error (name.at_,11))
 else if 46≤fn∧(p.out.getLast?.map fun x=>decide (x.kind=2∨x.kind=3))≠some true then some (.error (name.at_,4))
 else some (.ok (0,p.skip.put ⟨7,bD,aL,0,fn,n⟩))
def bq (fin:Int):Nat→Job→PS→Option Out
 |0,_,_=>none
 |f+1,.level k,p=>if k=5 then bq fin f .sign p else fD (bq fin f (.level (k+1)) p) fun _ p=>bq fin f (.loop k) p
 |f+1,.loop k,p=>
  let t:=hdT fin p.l
  if t.kind=8∧f9 t.num=k then fD (bq fin f (.level (k+1)) p.skip) fun _ p=>bq fin f (.loop k) (p.put (dz 6 t.num))
  else some (.ok (0,p))
 |f+1,.sign,p=>
  let t:=hdT fin p.l
  if t.kind=8∧t.num=2 then fD (bq fin f .sign p.skip) fun _ p=>some (.ok (0,p.put (dz 4 0)))
  else fD (bq fin f .pct p) fun _ p=>
   let u:=hdT fin p.l
   if u.kind=8∧u.num=5 then fD (bq fin f .sign p.skip) fun _ p=>some (.ok (0,p.put (dz 6 5)))
   else some (.ok (0,p))
 |f+1,.pct,p=>fD (bq fin f .prim p) fun _ p=>bq fin f .pctl p
 |f+1,.pctl,p=>
  let t:=hdT fin p.l
  if t.kind=8∧t.num=13 then bq fin f .pctl (p.skip.put (dz 5 0)) else some (.ok (0,p))
 |f+1,.prim,p=>
  let t:=hdT fin p.l
  if 1≤t.kind∧t.kind≤4 then some (.ok (0,p.skip.put (l3 t)))
  else if t.kind=5 then some (.ok (0,p.skip.put ⟨2,bD,t.rect,0,0,0⟩))
  else if t.kind=9 then fD (bq fin f (.level 1) p.skip) fun _ p=>
   let u:=hdT fin p.l
   if u.kind≠10 then some (.error (u.at_,4)) else some (.ok (0,p.skip))
  else if t.kind=7 then
   if (ba t.text).2≠0 then some (.error (t.at_,10))
   else
    let u:=hdT fin p.skip.l
    if u.kind≠9 then some (.error (u.at_,4))
    else if (hdT fin p.skip.skip.l).kind=10 then cV fin t (ba t.text).1 0 p.skip.skip
    else fD (bq fin f (.args (ba t.text).1 0) p.skip.skip) fun n p=>cV fin t (ba t.text).1 n p
  else some (.error (t.at_,4))
 |f+1,.args fn n,p=>
  let t:=hdT fin p.l
  let go:=fun (p:PS)=>if (hdT fin p.l).kind=11 then bq fin f (.args fn (n+1)) p.skip else some (.ok (n+1,p))
  if t.kind≠6 then fD (bq fin f (.level 1) p) fun _ p=>go p
  else if (jF fn n).1=false∨(jF fn n).2≠0 then some (.error (t.at_,4))
  else go (p.skip.put ⟨3,bD,t.rect,0,0,0⟩)
end Go.SL
namespace Go.SL
open Go Go.Proofs
attribute [local irreducible] W WL WQ WG WA VOp thn blk aV aK FnIn
def fP (fn:Int):ByteArray:=if 51≤fn then av else (av::cZ).getD fn.toNat av
theorem wrap_i64 {a:Int} (h1:0≤a) (h2:a≤255):IntKind.i64.wrap a=a:=I64.wrap ⟨by omega,by omega⟩
theorem lR (fn:Int) (h0:0≤fn) (h1:fn≤255) (w:World):ay Tryz.prog 326 [.int .u8 fn] w (.string (fP fn)):=by
 obtain ⟨j,rfl⟩:=TL h0
 refine aq Tryz.func326 rfl Tryz.ntmps326 rfl ?_
 have hg: ∀ h:j<51,((av::cZ).map Value.string)[0+j*1]? =some (.string ((av::cZ).getD j av)):=by
  intro h
  have:j<(av::cZ).length:=h
  rw [show 0+j*1=j by omega]
  simp only [RM,Ru,QQ this]
  rfl
 repeat' (first|(apply ak;exact rfl;apply xm;exact rfl;exact wrap_i64 h0 h1)|(apply ak;exact rfl;apply aj (j:=j);exact rfl;exact rfl;omega)|(apply ak;exact rfl;apply bQ;exact rfl;exact pK;exact hg (by omega))|refine sT ?_|refine sM fun _=> ?_|(refine sC ?_ ?_<;>intro hb<;>try omega)|fail)
 ·
  (refine rT1 ?_)
  rw [fP,if_pos (by omega)]
  rfl
 ·
  (refine rT1 ?_)
  rw [fP,if_neg (by omega)]
  rfl
theorem A0 {i:Nat} (h:i<50):fP ((i:Int)+1)=cZ[i]'h:=by
 have h2:i<cZ.length:=h
 rw [fP,if_neg (by omega),show ((i:Int)+1).toNat=i+1 by omega]
 simp [h2]
 rfl
theorem u4 (b:ByteArray) (w:World):ay Tryz.prog 364 [.string b] w (.tuple #[.int .u8 (ba b).1,.int .i64 (ba b).2]):=by
 refine aq Tryz.func364 rfl Tryz.ntmps364 rfl ?_
 repeat' (first|refine sT ?_|refine sM fun _=> ?_|(refine sC ?_ ?_<;>intro hb<;>try omega)|fail)
 refine ia (fun i:Nat=> [(0,.string b),(4,.int .u8 ((i:Int)+1))]) (fun _=> []) (fun i=>i≤50∧dN cZ b 0=dN (cZ.drop i) b (i:Int)) (fun i=>50 - i) 0 ⟨by omega,rfl⟩ ?_ ?_ ?_
 ·
  exact sB
 ·
  exact mS
 ·
  rintro i ⟨hi,hrec⟩
  by_cases hlt:i<50
  ·
   have hl:i<cZ.length:=hlt
   have hr: ∀ w,ay Tryz.prog 326 [.int .u8 ((i:Int)+1)] w (.string (cZ[i]'hl)):=fun w=>A0 hlt ▸ lR _ (by omega) (by omega) w
   rw [QY hl,dN] at hrec
   repeat' (first|(apply aa;exact rfl;exact rfl;(intro w hm;exact hr w))|(apply ak;exact rfl;apply dQ (c:=((i+1:Nat):Int)+1);exact rfl;exact rfl;exact wrap_u8 (by omega) (by omega))|refine sT ?_|refine sM fun _=> ?_|(refine sC ?_ ?_<;>intro hb<;>try omega)|fail)
   ·
    refine eY (.inl rfl) Tryz.results364 rfl rfl (.nil _) ?_
    rw [ba,hrec,if_pos hb.symm,if_neg (by omega)]
   ·
    refine ⟨i+1,⟨by omega,?_⟩,by omega,?_,?_⟩
    ·
     rw [hrec,if_neg (fun h=>hb h.symm)]
     rfl
    ·
     exact sB
    ·
     exact mS
  ·
   have e:i=50:=by omega
   subst e
   repeat' (first|refine sT ?_|refine sM fun _=> ?_|(refine sC ?_ ?_<;>intro hb<;>try omega)|fail)
   refine eY (.inl rfl) Tryz.results364 rfl rfl (.nil _) ?_
   rw [ba,hrec]
   rfl
def bN (fn:Int):Int × Int:=
 if fn=5∨fn=6∨fn=7∨fn=25∨fn=39∨fn=40∨fn=18∨fn=19∨fn=45∨fn=44 then (2,2)
 else if fn=20∨fn=41∨fn=43 then (2,3)
 else if fn=32∨fn=33 then (1,2)
 else if fn=34 then (3,3)
 else if fn=21∨fn=22∨fn=23∨fn=38∨fn=9∨fn=10∨fn=11∨fn=12∨fn=14∨fn=15∨fn=16∨fn=17 then (1,16)
 else if fn=30 then (2,16)
 else (1,1)
set_option maxRecDepth 10000 in
theorem kg (fn:Int) (w:World):ay Tryz.prog 327 [.int .u8 fn] w (.tuple #[.int .i64 (bN fn).1,.int .i64 (bN fn).2]):=by
 refine aq Tryz.func327 rfl Tryz.ntmps327 rfl ?_
 repeat' (first|refine sT ?_|refine sM fun _=> ?_|(refine sC ?_ ?_<;>intro hb<;>try omega)|fail)
 all_goals ((refine rT2 ?_);simp_all [bN])
def eZ (fn i:Int):Bool:=
 if i<0∨(bN fn).2≤i then false
 else if fn=9∨fn=10∨fn=11∨fn=12∨fn=14∨fn=15∨fn=16∨fn=17 then true
 else if fn=13∨fn=18∨fn=19∨fn=45∨fn=43 then decide (i=0)
 else if fn=44 then decide (i=1)
 else decide (46≤fn) && decide (fn≤50)
set_option maxRecDepth 10000 in
theorem uY (fn i:Int) (w:World):ay Tryz.prog 352 [.int .u8 fn,.int .i64 i] w (.bool (eZ fn i)):=by
 refine aq Tryz.func352 rfl Tryz.ntmps352 rfl ?_
 repeat' (first|(apply aa;exact rfl;exact rfl;(intro w hm;exact kg fn w))|refine sT ?_|refine sM fun _=> ?_|(refine sC ?_ ?_<;>intro hb<;>try omega)|fail)
 all_goals ((refine rT1 ?_);((try simp only [← Int.not_lt] at*);simp_all [eZ, -Int.not_lt, -Int.not_le,← Int.not_lt]))
end Go.SL
namespace Go.SL
open Go Go.Proofs
attribute [local irreducible] W WL WQ WG VOp thn blk aV aK FnIn
theorem oC (b:ByteArray):nO b=(ap b).map (Value.int .u8):=by simp [nO,ap]
theorem uG {α β:Type} (f:α→α) (E:α→β) (xs:List α) (i:Nat) (h:i<xs.length):(((xs.take i).map f++xs.drop i).map E).set i (E (f xs[i]))=((xs.take (i+1)).map f++xs.drop (i+1)).map E:=by
 rw [← List.map_set,TA _ _ (by simp;omega)]
 have e1:xs.drop i=xs[i]::xs.drop (i+1):=QY h
 have e2:xs.take (i+1)=xs.take i++ [xs[i]]:=Rg h
 have e3:i - ((xs.take i).map f).length=0:=by simp;omega
 rw [e3,e1,e2]
 simp only [List.set_cons_zero,RX,Rz,Sl,Rx,QR,QU]
set_option maxRecDepth 10000 in
theorem EV (f:FuncId) [Callable Tryz.prog f] (g:Int→Int) (hf: ∀ c w,ay Tryz.prog f [.int .u8 c] w (.int .u8 (g c))) (a:ByteArray) (ha:a.size≤1000000) (w:World):
  aK Tryz.prog 209 [.string a,.func (.func f) #[] #[]] w fun v H=> ∃ gb cap,v= .slice (some ⟨gb,0,none⟩) a.size cap∧H= [.byt gb 5 a.size cap (((ap a).map g).map (Value.int .u8))]:=by
 refine aq Tryz.func209 rfl Tryz.ntmps209 rfl ?_
 repeat' (first|(apply lH;exact rfl;exact rfl;intro gb cap)|refine sT ?_|refine sM fun _=> ?_|(refine sC ?_ ?_<;>intro hb<;>try omega)|fail)
 refine ia (fun i:Nat=> [(5,.slice (some ⟨gb,0,none⟩) a.size cap),(10,.slice (some ⟨gb,0,none⟩) a.size cap),(11,.int .i64 (a.size:Int)),(12,.int .i64 (i:Int)),(1,.func (.func f) #[] #[])])
  (fun i=> [.byt gb 5 a.size cap ((((ap a).take i).map g++(ap a).drop i).map (Value.int .u8))]) (fun i=>i≤a.size) (fun i=>a.size - i) 0 (by omega) ?_ ?_ ?_
 ·
  exact sB
 ·
  rw [oC];simp only [Su,Sl,QU,SA];exact mS
 ·
  intro i hi
  have hl:=au a
  by_cases hlt:i<a.size
  ·
   have hil:i<(ap a).length:=by omega
   have hget:((((ap a).take i).map g++(ap a).drop i).map (Value.int .u8))[0+i*1]? =some (.int .u8 (ap a)[i]):=by
    rw [RM,show 0+i*1=i by omega,RZ (by simp;omega)]
    simp [SW (Nat.le_of_lt hil),SB]
   repeat' (first|(apply ak;exact rfl;apply aj;exact rfl;exact rfl;exact hlt)|(apply ak;exact rfl;apply jH;exact rfl;exact .hd;exact hget)|(apply bM;exact rfl;exact rfl;infer_instance;exact rfl;(intro w hm;exact hf _ w))|(apply lI;exact rfl;exact rfl;exact .hd;exact rfl;(simp;omega))|(apply ak;exact rfl;apply eV;exact rfl;exact rfl;(constructor<;>omega))|refine sT ?_|refine sM fun _=> ?_|(refine sC ?_ ?_<;>intro hb<;>try omega)|fail)
   refine ⟨i+1,by omega,by omega,?_,?_⟩
   ·
    exact sB
   ·
    rw [show 0+i*1=i by omega,uG g (Value.int .u8) (ap a) i hil]
    exact mS
  ·
   have e:i=a.size:=by omega
   subst e
   repeat' (first|refine sT ?_|refine sM fun _=> ?_|(refine sC ?_ ?_<;>intro hb<;>try omega)|fail)
   refine cH (.inl rfl) Tryz.results209 rfl (.refl _) ⟨gb,cap,rfl,?_⟩
   rw [RS (by omega),Ry (by omega),QW]
def jQ (c:Int):Int:=if c<32∨126<c then 0 else 32
set_option maxRecDepth 10000 in
theorem Nk (c:Int) (w:World):ay Tryz.prog 210 [.int .u8 c] w (.int .u8 (jQ c)):=by
 refine aq Tryz.func210 rfl Tryz.ntmps210 rfl ?_
 repeat' (first|refine sT ?_|refine sM fun _=> ?_|(refine sC ?_ ?_<;>intro hb<;>try omega)|fail)
 all_goals ((refine rT1 ?_);((try simp only [← Int.not_lt] at*);simp_all [jQ, -Int.not_lt, -Int.not_le]))
set_option maxRecDepth 10000 in
theorem Iq (c:Int) (w:World):ay Tryz.prog 211 [.int .i32 c] w (.bool (decide (c=0))):=by
 refine aq Tryz.func211 rfl Tryz.ntmps211 rfl ?_
 repeat' (first|refine sT ?_|refine sM fun _=> ?_|(refine sC ?_ ?_<;>intro hb<;>try omega)|fail)
 all_goals ((refine rT1 ?_);rfl)
def jw (q:Int→Bool) (l:List Int):Int:=match l.findIdx? q with
 |some i=>(i:Int)
 |none=> -1
theorem Cg {q:Int→Bool} {l:List Int} {i:Nat} (h:i<l.length) (hq:q l[i]=true) (hno: ∀ j (h:j<l.length),j<i→q l[j]=false):jw q l=(i:Int):=by
 have:l.findIdx? q=some i:=by
  rw [SP]
  exact ⟨h,hq,fun j hj=>by simpa using hno j (by omega) hj⟩
 simp [jw,this]
theorem zp {q:Int→Bool} {l:List Int} (hno: ∀ j (h:j<l.length),q l[j]=false):jw q l= -1:=by
 have:l.findIdx? q=none:=by
  rw [SG]
  intro x hx
  obtain ⟨j,hj,rfl⟩:=SJ hx
  exact hno j hj
 simp [jw,this]
set_option maxRecDepth 10000 in
theorem zj (f:FuncId) [Callable Tryz.prog f] (q:Int→Bool) (hf: ∀ c w,ay Tryz.prog f [.int .i32 c] w (.bool (q c))) (a:ByteArray) (ha:a.size≤1000000) (hasc: ∀ i (h:i<a.size),(a[i]'h).toNat<128) (w:World):
  ay Tryz.prog 256 [.string a,.func (.func f) #[] #[],.bool true] w (.int .i64 (jw q (ap a))):=by
 refine aq Tryz.func256 rfl Tryz.ntmps256 rfl ?_
 have hl:=au a
 repeat' (first|(apply yC;exact rfl;exact rfl;intro gi)|refine sT ?_|refine sM fun _=> ?_|(refine sC ?_ ?_<;>intro hb<;>try omega)|fail)
 refine ia (fun i:Nat=> [(0,.string a),(1,.func (.func f) #[] #[]),(2,.bool true),(10,.pointer (some ⟨gi,0,none⟩))])
  (fun i=> [.obj gi (.stringIter a i)]) (fun i=>i≤a.size∧ ∀ j (h:j<(ap a).length),j<i→q (ap a)[j]=false) (fun i=>a.size - i) 0 ⟨by omega,fun j _ h=>by omega⟩ ?_ ?_ ?_
 ·
  exact sB
 ·
  exact mS
 ·
  rintro i ⟨hi,hno⟩
  repeat' (first|(apply zR;exact rfl;exact rfl;exact .hd;exact hasc i;all_goals intro hb)|(apply bM;exact rfl;exact rfl;infer_instance;exact rfl;(intro w hm;exact hf _ w))|refine sT ?_|refine sM fun _=> ?_|(refine sC ?_ ?_<;>intro hb<;>try omega)|fail)
  all_goals (try simp only [beq_true] at*)
  ·
   rename_i hlt
   have hq:=hb
   refine cH (.inl rfl) Tryz.results256 rfl (MSub.nil _) ?_
   have h1:=qu a i hlt
   rw [Cg (i:=i) (by omega) (by rw [h1];exact hq) hno]
  ·
   rename_i hlt
   have hq:=hb
   refine ⟨i+1,⟨by omega,fun j hj hji=> ?_⟩,by omega,?_,?_⟩
   ·
    by_cases e:j=i
    ·
     subst e
     rw [qu a j hlt];exact hq
    ·
     exact hno j hj (by omega)
   ·
    exact sB
   ·
    exact mS
  ·
   have hge:=hb
   refine cH (.inl rfl) Tryz.results256 rfl (MSub.nil _) ?_
   rw [zp fun j hj=>hno j hj (by omega)]
set_option maxRecDepth 10000 in
theorem zI (f:FuncId) [Callable Tryz.prog f] (q:Int→Bool) (hf: ∀ c w,ay Tryz.prog f [.int .i32 c] w (.bool (q c))) (a:ByteArray) (ha:a.size≤1000000) (hasc: ∀ i (h:i<a.size),(a[i]'h).toNat<128) (w:World):
  ay Tryz.prog 208 [.string a,.func (.func f) #[] #[]] w (.int .i64 (jw q (ap a))):=by
 refine aq Tryz.func208 rfl Tryz.ntmps208 rfl ?_
 repeat' (first|(apply aa;exact rfl;exact rfl;(intro w hm;exact zj f q hf a ha hasc w))|refine sT ?_|refine sM fun _=> ?_|(refine sC ?_ ?_<;>intro hb<;>try omega)|fail)
 all_goals ((refine rT1 ?_);rfl)
def jP (a:ByteArray):ByteArray:=⟨(((ap a).map jQ).map fun n=>UInt8.ofNat n.toNat).toArray⟩
theorem nn (a:ByteArray):(jP a).size=a.size:=by
 have:(jP a).size=((ap a).map jQ).length:=by simp [jP,ByteArray.size]
 rw [this];simp [au]
theorem sH (a:ByteArray):ap (jP a)=(ap a).map jQ:=by
 simp only [ap,jP,Tq]
 congr 1
 funext c
 simp only [Function.comp,jQ]
 split<;>simp
theorem Cf (q:Int→Bool) (l:List Int):decide (jw q l<0)=l.all fun c=> !q c:=by
 unfold jw
 cases h:l.findIdx? q with
 |none=>
  rw [SG] at h
  rw [RP]
  simpa using h
 |some i=>
  rw [SP] at h
  obtain ⟨h1,h2,_⟩:=h
  rw [RP]
  simp only [decide_eq_true_eq,Sr]
  constructor
  ·
   intro h;omega
  ·
   intro h
   have:=h _ (RQ h1)
   rw [h2] at this
   cases this
theorem Bs (a:ByteArray):decide (jw (fun c=>decide (c=0)) (ap (jP a))<0)=mV a:=by
 rw [Cf,sH]
 simp only [ap,List.all_map,mV]
 congr 1
 funext c
 have e:(decide (jQ (c.toNat:Int)=0))= !(decide (32≤c.toNat) && decide (c.toNat≤126)):=by
  rw [RP]
  by_cases h:(c.toNat:Int)<32∨126<(c.toNat:Int)
  ·
   simp only [jQ,if_pos h];simp;omega
  ·
   simp only [jQ,if_neg h];simp;omega
 simp only [Function.comp,e,Bool.not_not]
theorem zh (a:ByteArray): ∀ i (h:i<(jP a).size),((jP a)[i]'h).toNat<128:=by
 intro i h
 have h1:=qu (jP a) i h
 have h2:((jP a)[i].toNat:Int)=jQ ((ap a)[i]'(by rw [au,← nn];exact h)):=by
  rw [← h1]
  simp [sH]
 have h3: ∀ x,jQ x=0∨jQ x=32:=fun x=>by unfold jQ;split<;>simp
 rcases h3 ((ap a)[i]'(by rw [au,← nn];exact h)) with h4|h4<;>omega
set_option maxRecDepth 10000 in
theorem qj (a:ByteArray) (ha:a.size≤1000000) (w:World):ay Tryz.prog 162 [.string a] w (.bool (mV a)):=by
 refine aq Tryz.func162 rfl Tryz.ntmps162 rfl ?_
 repeat' (first|((with_reducible apply aA (R:=fun v H=> ∃ gb cap,v= .slice (some ⟨gb,0,none⟩) a.size cap∧H= [.byt gb 5 a.size cap (((ap a).map jQ).map (Value.int .u8))]));exact rfl;exact rfl;(intro w hm;exact EV 210 jQ Nk a ha w);(rintro v H' ⟨gb,cap,rfl,rfl⟩))|(apply ak;exact rfl;apply q9;exact rfl;exact .hd;simp [au])|(apply aa;exact rfl;exact rfl;(intro w hm;exact zI 211 (fun c=>decide (c=0)) Iq (jP a) (by rw [nn];exact ha) (zh a) w))|refine sT ?_|refine sM fun _=> ?_|(refine sC ?_ ?_<;>intro hb<;>try omega)|fail)
 all_goals ((refine rT1 ?_);rw [← Bs])
set_option maxRecDepth 10000 in
theorem vV (a:ByteArray) (w:World):ay Tryz.prog 134 [.string a] w (.int .i64 (gP a)):=by
 refine aq Tryz.func134 rfl Tryz.ntmps134 rfl ?_
 repeat' (first|(apply aa;exact rfl;exact rfl;(intro w hm;exact qj a (by omega) w))|refine sT ?_|refine sM fun _=> ?_|(refine sC ?_ ?_<;>intro hb<;>try omega)|fail)
 ·
  (refine rT1 ?_)
  have:decide (256<a.size)=true:=by simp;omega
  simp [gP,this]
 all_goals
  (refine rT1 ?_)
  have h256:decide (256<a.size)=false:=by simp;omega
  simp only [gP,h256,hb,cond_true,cond_false]
set_option maxRecDepth 10000 in
theorem Dg (v:Vl) (w:World):ay Tryz.prog 257 [.agg (dA v).toArray] w (.int .i64 (o8 v)):=by
 refine aq Tryz.func257 rfl Tryz.ntmps257 rfl ?_
 repeat' (first|(apply aa;exact rfl;exact rfl;(intro w hm;exact vV v.text w))|(apply ak;exact rfl;exact Dp (b:=⟨0,0,av⟩) rfl rfl)|refine sT ?_|refine sM fun _=> ?_|(refine sC ?_ ?_<;>intro hb<;>try omega)|fail)
 all_goals ((refine rT1 ?_);((try simp only [← Int.not_lt] at*);simp_all [o8,uq,eqV,av, -Int.not_lt, -Int.not_le,← Int.not_lt]);try (by_cases h:v.num=0<;>simp_all))
end Go.SL
namespace Go.SL
open Go Go.Proofs
attribute [local irreducible] W WL WQ WG WA VOp thn blk aV aK FnIn
theorem KC: ∀ j,j<50→cZ.getD j av≠av∧ba (cZ.getD j av)=((j:Int)+1,0):=by decide+kernel
theorem kz {fn:Int} (h:cU fn=true):eE fn=((bN fn).1,(bN fn).2,0):=by
 unfold eE bN
 (repeat' split)<;>simp_all
theorem oZ {fn:Int} (h:cU fn=false):eE fn=(0,0,10):=by
 simp only [cU,Sk,decide_eq_false_iff_not] at h
 have hk:cU fn=false:=by simp only [cU,Sk,decide_eq_false_iff_not];exact h
 unfold eE
 (repeat' split)<;>first|(exfalso;omega)|(simp_all;done)|rfl
theorem uj {fn:Int} (h:cU fn=true) (i:Int):jF fn i=(eZ fn i,if i<0∨(bN fn).2≤i then 3 else 0):=by
 unfold jF eZ
 rw [kz h]
 simp only [ne_eq,not_true_eq_false,if_false]
 by_cases h1:i<0∨(bN fn).2≤i
 ·
  simp only [if_pos h1]
 ·
  simp only [if_neg h1]
  by_cases h2:fn=9∨fn=10∨fn=11∨fn=12∨fn=14∨fn=15∨fn=16∨fn=17
  ·
   simp only [if_pos h2]
  ·
   simp only [if_neg h2]
   by_cases h3:fn=44
   ·
    subst h3
    simp
   ·
    simp only [if_neg h3]
    by_cases h4:fn=18∨fn=19∨fn=45∨fn=43∨fn=13
    ·
     rw [if_pos h4,if_pos (by omega)]
    ·
     rw [if_neg h4,if_neg (by omega)]
     rfl
end Go.SL
namespace Go.SL
open Go Go.Proofs
attribute [local irreducible] W WL WQ WG VOp thn blk aV aK FnIn
set_option maxHeartbeats 1000000 in
theorem xW (n:Nd) (w:World):ay Tryz.prog 305 [.agg (bX n).toArray] w (.int .i64 (bP n)):=by
 refine aq Tryz.func305 rfl Tryz.ntmps305 rfl ?_
 repeat' (first|(apply aa;exact rfl;exact rfl;(intro w hm;exact Dg n.v w))|(apply aa;exact rfl;exact rfl;(intro w hm;exact fT n.rect w))|(apply aa;exact rfl;exact rfl;(intro w hm;exact wE n.fn w))|(apply tP (T:=293) (fun D=> [.int .u8 n.kind,.int .u8 0,.int .i64 0,.string av,.int .i64 0,.int .i64 0,.int .i64 0,.int .i64 0,.int .i64 0,.int .u8 (bif D 5 then n.fn else 0),.int .i64 (bif D 7 then n.n else 0)]) (xs' := [.int .u8 n.kind,.int .u8 0,.int .i64 0,.string av,.int .i64 0,.int .i64 0,.int .i64 0,.int .i64 0,.int .i64 0,.int .u8 n.fn,.int .i64 n.n]);kernel_rfl;kernel_rfl;(first|exact .hd|exact .tl .hd);exact rfl;(intro D hD;simp only [hD 5 (by decide),hD 7 (by decide),cond_true]))|(apply ak;exact rfl;(first|(apply uu (b:=⟨n.kind,n.v,aL,0,0,0⟩);exact rfl;exact rfl)|(apply uu (b:=⟨n.kind,bD,n.rect,0,0,0⟩);exact rfl;exact rfl)|(apply uu (b:=⟨n.kind,bD,aL,0,0,0⟩);exact rfl;exact rfl)|(apply uu (b:=⟨n.kind,bD,aL,n.op,0,0⟩);exact rfl;exact rfl)|(apply uu (b:=⟨n.kind,bD,aL,0,n.fn,n.n⟩);exact rfl;exact rfl)))|refine sT ?_|refine sG ?_|refine sM fun _=> ?_|(refine sC ?_ ?_<;>intro hb<;>try omega)|fail)
 all_goals ((refine rT1 ?_);((try simp only [← Int.not_lt] at*);simp_all [bP,iB,cE,Gb,Kw, -Int.not_lt, -Int.not_le,← Int.not_lt]))
end Go.SL
namespace Go.SL
open Go Go.Proofs
attribute [local irreducible] W WL WQ WG WA VOp thn blk bE aV aK FnIn WLI
def jJ (n:Nd) (i:Nat) (r:List Nd):Us:=match r with
 |m::_=>if m.kind=7∧46≤m.fn then ⟨n.rect,((i+1:Nat):Int),m.fn⟩ else ⟨n.rect, -1,0⟩
 | []=>⟨n.rect, -1,0⟩
def bL:List Nd→Nat→List Us
 | [],_=> []
 |n::r,i=>bif fw n then jJ n i r::bL r (i+1) else bL r (i+1)
def eL (L:List Nd):List Us:=bL L 0
set_option maxHeartbeats 4000000 in
theorem JL (L:List Nd) (tv:Value) (w0:World) (ht:Reads w0 tv L.length (L.flatMap bX)) (hlen:L.length≤1000000) (g:Nat):
  N8 Tryz.prog 290 [.pointer (some ⟨g,0,none⟩)] w0 [.box g 128 [tv]] (eL L) (fun u=> [.agg (fC u).toArray]):=by
 obtain ⟨Al,cl,rfl,hl1,hl2,hl3⟩:=ht
 intro l I J H0 hy h0
 refine FnIn.msub (H' := .box g 128 [.slice Al L.length cl]::H0) ?_ (MSub.rot (MSub.refl _))
 refine dD Tryz.func290 rfl Tryz.ntmps290 rfl ?_
 repeat' (first|refine sT ?_|refine sM fun _=> ?_|(refine sC ?_ ?_<;>intro hb<;>try omega)|fail)
 refine ia (fun y:Nat × List Us × List Blk=> [(0,.func (.yield l) #[] #[]),(1,.pointer (some ⟨g,0,none⟩)),(6,.slice Al L.length cl),(7,.int .i64 (L.length:Int)),(8,.int .i64 (y.1:Int))])
  (fun y=> .box g 128 [.slice Al L.length cl]::y.2.2)
  (fun y=>y.1≤L.length∧eL L=y.2.1++bL (L.drop y.1) y.1∧I y.2.1 y.2.2) (fun y=>L.length - y.1) (0,[],H0) ⟨by omega,rfl,h0⟩ ?_ ?_ ?_
 ·
  exact sB
 ·
  exact MSub.refl _
 rintro ⟨i,pre,H1⟩ ⟨hi,hus,hI⟩
 dsimp only at hi hus hI ⊢
 by_cases hlt:i<L.length
 ·
  obtain ⟨gl,ol,rfl,hrl⟩:=hl3 (by omega)
  have he:=hrl.elem eC i hlt
  rw [QY hlt,bL] at hus
  generalize hn:L[i]=n at hus he
  have hran:=fun w=>HH n w
  have next: ∀ (us:List Us) (HU:List Blk),eL L=us++bL (L.drop (i+1)) (i+1)→I us HU→i+1≤L.length∧eL L=us++bL (L.drop (i+1)) (i+1)∧I us HU:=fun us HU h1 h2=>⟨hlt,h1,h2⟩
  generalize fw n=q at hus hran
  cases q
  ·
   rw [cond_false] at hus
   repeat' (first|(apply aa;exact rfl;exact rfl;(intro w hm;exact hran w))|refine sT ?_|refine sN ?_|refine sO ?_|refine sM fun _=> ?_|(refine sC ?_ ?_<;>intro hb<;>try omega)|fail)
   refine ⟨(i+1,pre,H1),next _ _ hus hI,(by dsimp only;omega),?_,?_⟩
   ·
    exact sB
   ·
    exact mS
  rw [cond_true] at hus
  by_cases hn1:i+1<L.length
  ·
   have he1:=hrl.elem eC (i+1) hn1
   have hd:=QY hn1
   generalize L[i+1]=m at he1 hd
   by_cases hrel:m.kind=7∧46≤m.fn
   ·
    have hu:jJ n i (L.drop (i+1))=⟨n.rect,((i+1:Nat):Int),m.fn⟩:=by rw [hd];simp only [jJ,if_pos hrel]
    rw [hu] at hus
    repeat' (first|(apply aa;exact rfl;exact rfl;(intro w hm;exact hran w))|(apply kS (id:=7))|((with_reducible apply tP (id:=6) (T:=159) (fun D=> [.int .i64 n.rect.c1,.int .i64 n.rect.r1,.int .i64 n.rect.c2,.int .i64 n.rect.r2,.int .i64 (bif D 9 then ((i+1:Nat):Int) else -1),.int .u8 (bif D 11 then m.fn else 0)]) (xs' := [.int .i64 n.rect.c1,.int .i64 n.rect.r1,.int .i64 n.rect.c2,.int .i64 n.rect.r2,.int .i64 ((i+1:Nat):Int),.int .u8 m.fn]));kernel_rfl;kernel_rfl;exact .hd;exact rfl;(intro D hD;simp only [hD 9 (by decide),hD 11 (by decide),cond_true]))|(apply De;exact rfl;(intro D ht;first|(apply fq;exact rfl;exact rfl;(simp only [maxLen] at*;omega))|(apply aj;exact rfl;exact rfl;(first|assumption|omega))|(apply dx;exact rfl;assumption;exact rfl));exact fun _=>rfl)|refine sT ?_|refine sI ?_|refine sN ?_|refine sO ?_|refine sG ?_|refine sM fun _=> ?_|(refine sC ?_ ?_<;>intro hb<;>try omega)|fail)
    (with_reducible apply jE)
    ·
     exact rfl
    ·
     exact rfl
    ·
     exact rfl
    ·
     exact MSub.app3
    ·
     exact fun w hm=>hy pre ⟨n.rect,((i+1:Nat):Int),m.fn⟩ _ hus H1 _ hI w hm
    intro bb H2 hq
    cases bb
    ·
     repeat' (first|refine sT ?_|refine sI ?_|refine sM fun _=> ?_|(refine sC ?_ ?_<;>intro hb<;>try omega)|fail)
     exact fO eIO Tryz.results290 (H' :=H2++ [.box g 128 [.slice (some ⟨gl,ol,none⟩) L.length cl]]) MSub.app3r ⟨H2,.inr ⟨_,hq⟩,MSub.refl _⟩
    ·
     repeat' (first|refine sT ?_|refine sI ?_|refine sN ?_|refine sM fun _=> ?_|(refine sC ?_ ?_<;>intro hb<;>try omega)|fail)
     refine ⟨(i+1,_,H2),next _ _ (hus.trans (by rw [List.append_assoc];rfl)) hq,(by dsimp only;omega),?_,?_⟩
     ·
      exact sB
     ·
      exact MSub.app3'
   ·
    have hu:jJ n i (L.drop (i+1))=⟨n.rect, -1,0⟩:=by rw [hd];simp only [jJ,if_neg hrel]
    rw [hu] at hus
    repeat' (first|(apply aa;exact rfl;exact rfl;(intro w hm;exact hran w))|(apply kS (id:=7))|refine sT ?_|refine sI ?_|refine sN ?_|refine sO ?_|refine sM fun _=> ?_|(refine sC ?_ ?_<;>intro hb<;>try omega)|fail)
    all_goals
     (with_reducible apply jE)
     ·
      exact rfl
     ·
      exact rfl
     ·
      exact rfl
     ·
      exact MSub.app3
     ·
      exact fun w hm=>hy pre ⟨n.rect, -1,0⟩ _ hus H1 _ hI w hm
     intro bb H2 hq
     cases bb
     ·
      repeat' (first|refine sT ?_|refine sI ?_|refine sM fun _=> ?_|(refine sC ?_ ?_<;>intro hb<;>try omega)|fail)
      exact fO eIO Tryz.results290 (H' :=H2++ [.box g 128 [.slice (some ⟨gl,ol,none⟩) L.length cl]]) MSub.app3r ⟨H2,.inr ⟨_,hq⟩,MSub.refl _⟩
     ·
      repeat' (first|refine sT ?_|refine sI ?_|refine sN ?_|refine sM fun _=> ?_|(refine sC ?_ ?_<;>intro hb<;>try omega)|fail)
      refine ⟨(i+1,_,H2),next _ _ (hus.trans (by rw [List.append_assoc];rfl)) hq,(by dsimp only;omega),?_,?_⟩
      ·
       exact sB
      ·
       exact MSub.app3'
  ·
   have hu:jJ n i (L.drop (i+1))=⟨n.rect, -1,0⟩:=by rw [Ry (by omega)];rfl
   rw [hu] at hus
   repeat' (first|(apply aa;exact rfl;exact rfl;(intro w hm;exact hran w))|(apply kS (id:=7))|refine sT ?_|refine sI ?_|refine sN ?_|refine sO ?_|refine sM fun _=> ?_|(refine sC ?_ ?_<;>intro hb<;>try omega)|fail)
   (with_reducible apply jE)
   ·
    exact rfl
   ·
    exact rfl
   ·
    exact rfl
   ·
    exact MSub.app3
   ·
    exact fun w hm=>hy pre ⟨n.rect, -1,0⟩ _ hus H1 _ hI w hm
   intro bb H2 hq
   cases bb
   ·
    repeat' (first|refine sT ?_|refine sI ?_|refine sM fun _=> ?_|(refine sC ?_ ?_<;>intro hb<;>try omega)|fail)
    exact fO eIO Tryz.results290 (H' :=H2++ [.box g 128 [.slice (some ⟨gl,ol,none⟩) L.length cl]]) MSub.app3r ⟨H2,.inr ⟨_,hq⟩,MSub.refl _⟩
   ·
    repeat' (first|refine sT ?_|refine sI ?_|refine sN ?_|refine sM fun _=> ?_|(refine sC ?_ ?_<;>intro hb<;>try omega)|fail)
    refine ⟨(i+1,_,H2),next _ _ (hus.trans (by rw [List.append_assoc];rfl)) hq,(by dsimp only;omega),?_,?_⟩
    ·
     exact sB
    ·
     exact MSub.app3'
 ·
  have e:i=L.length:=by omega
  subst e
  rw [RE,bL,QW] at hus
  repeat' (first|refine sT ?_|refine sM fun _=> ?_|(refine sC ?_ ?_<;>intro hb<;>try omega)|fail)
  refine fO (.inr rfl) Tryz.results290 (H' := .box g 128 [.slice Al L.length cl]::H1) mS ⟨H1,.inl (hus ▸ hI),?_⟩
  exact MSub.snoc .hd (MSub.refl _)
end Go.SL
namespace Go.SL
open Go
def Job.c:Job→Nat
 | .level k=>(9 - k).toNat
 | .loop _=>1
 | .sign=>3
 | .pct=>2
 | .pctl=>1
 | .prim=>1
 | .args _ _=>9
def Job.fit:Job→Prop
 | .level k=>1≤k∧k≤5
 | .loop k=>1≤k∧k≤4
 |_=>True
def Job.eats:Job→Prop
 | .loop _=>False
 | .pctl=>False
 |_=>True
def Jd (p:PS) (strict:Prop) (r:Out):Prop:= ∀ n p',r= .ok (n,p')→p'.l.length≤p.l.length∧(strict→p'.l.length<p.l.length)
def Fl (o:Option Out) (B:Out→Prop):Prop:= ∃ r,o=some r∧B r
theorem dC {B:Out→Prop} {r:Out} (h:B r):Fl (some r) B:=⟨r,rfl,h⟩
theorem cR {p:PS} {q:Prop} {e:Int × Int}:Jd p q (.error e):=fun _ _ h=>by cases h
theorem iP {p p' :PS} {q:Prop} {n:Nat} (h:p'.l.length≤p.l.length) (hq:q→p'.l.length<p.l.length):Jd p q (.ok (n,p')):=fun m p2 h2=>by
 cases h2
 exact ⟨h,hq⟩
theorem fu {o:Option Out} {k:Nat→PS→Option Out} {p:PS} {q:Prop} {B:Out→Prop} (h:Fl o (Jd p q)) (he: ∀ e,B (.error e)) (hk: ∀ n p',p'.l.length≤p.l.length→(q→p'.l.length<p.l.length)→Fl (k n p') B):Fl (fD o k) B:=by
 obtain ⟨r,rfl,hr⟩:=h
 cases r with
 |error e=>exact ⟨_,rfl,he e⟩
 |ok x=>
  obtain ⟨n,p'⟩:=x
  obtain ⟨h1,h2⟩:=hr n p' rfl
  exact hk n p' h1 h2
theorem iD {fin:Int} {l:List Tk} (h:(hdT fin l).kind≠0):0<l.length:=by
 cases l with
 |nil=>exact absurd rfl h
 |cons=>simp
theorem eW (p:PS):p.skip.l.length=p.l.length - 1:=by simp [PS.skip]
theorem d9 (p:PS) (n:Nd):(p.put n).l=p.l:=rfl
theorem qC {fin:Int} {name:Tk} {fn:Int} {n:Nat} {p p0:PS} {q:Prop} (h:p.l.length≤p0.l.length) (hq:0<p.l.length→q→p.l.length - 1<p0.l.length):Fl (cV fin name fn n p) (Jd p0 q):=by
 unfold cV
 dsimp only
 split
 ·
  exact dC cR
 ·
  rename_i hk
  have hpos:=iD (fin:=fin) (l:=p.l) (by omega)
  split
  ·
   exact dC cR
  ·
   split
   ·
    exact dC cR
   ·
    refine dC (iP ?_ fun hh=> ?_)
    ·
     rw [d9,eW];omega
    ·
     rw [d9,eW];exact hq hpos hh
theorem rr (fin:Int): ∀ (f:Nat) (j:Job) (p:PS),j.fit→20*p.l.length+j.c≤f→Fl (bq fin f j p) (Jd p j.eats):=by
 intro f
 induction f with
 |zero=>
  intro j p hj hf
  cases j with
  |level k=>obtain ⟨h1,h2⟩:=hj;simp only [Job.c] at hf;omega
  |_=>simp only [Job.c] at hf;omega
 |succ f ih=>
  intro j p hj hf
  cases j with
  |level k=>
   obtain ⟨h1,h2⟩:=hj
   simp only [Job.c] at hf
   rw [bq]
   split
   ·
    obtain ⟨r,hr,hl⟩:=ih .sign p trivial (by simp only [Job.c];omega)
    exact ⟨r,hr,hl⟩
   ·
    refine fu (ih (.level (k+1)) p ⟨by omega,by omega⟩ (by simp only [Job.c];omega)) (fun e=>cR) fun n p' h3 h4=> ?_
    have h5:=h4 trivial
    obtain ⟨r,hr,hl⟩:=ih (.loop k) p' ⟨h1,by omega⟩ (by simp only [Job.c];omega)
    exact ⟨r,hr,fun m q hq=>⟨by have:=(hl m q hq).1;omega,fun _=>by have:=(hl m q hq).1;omega⟩⟩
  |loop k=>
   obtain ⟨h1,h2⟩:=hj
   simp only [Job.c] at hf
   rw [bq]
   split
   ·
    rename_i hk
    have hpos:=iD (fin:=fin) (l:=p.l) (by omega)
    have hs:=eW p
    refine fu (ih (.level (k+1)) p.skip ⟨by omega,by omega⟩ (by simp only [Job.c];omega)) (fun e=>cR) fun n p' h3 h4=> ?_
    have h5:=h4 trivial
    obtain ⟨r,hr,hl⟩:=ih (.loop k) (p'.put (dz 6 (hdT fin p.l).num)) ⟨h1,h2⟩ (by rw [d9];simp only [Job.c];omega)
    exact ⟨r,hr,fun m q hq=>⟨by have:=(hl m q hq).1;rw [d9] at this;omega,fun h=>h.elim⟩⟩
   ·
    exact dC (iP (QV _) fun h=>h.elim)
  |sign=>
   simp only [Job.c] at hf
   rw [bq]
   dsimp only
   split
   ·
    rename_i hk
    have hpos:=iD (fin:=fin) (l:=p.l) (by omega)
    have hs:=eW p
    refine fu (ih .sign p.skip trivial (by simp only [Job.c];omega)) (fun e=>cR) fun n p' h3 h4=> ?_
    have h5:=h4 trivial
    exact dC (iP (by rw [d9];omega) fun _=>by rw [d9];omega)
   ·
    refine fu (ih .pct p trivial (by simp only [Job.c];omega)) (fun e=>cR) fun n p' h3 h4=> ?_
    have h5:=h4 trivial
    split
    ·
     have hs:=eW p'
     refine fu (ih .sign p'.skip trivial (by simp only [Job.c];omega)) (fun e=>cR) fun n p2 h6 h7=> ?_
     exact dC (iP (by rw [d9];omega) fun _=>by rw [d9];omega)
    ·
     exact dC (iP h3 fun _=>h5)
  |pct=>
   simp only [Job.c] at hf
   rw [bq]
   refine fu (ih .prim p trivial (by simp only [Job.c];omega)) (fun e=>cR) fun n p' h3 h4=> ?_
   have h5:=h4 trivial
   obtain ⟨r,hr,hl⟩:=ih .pctl p' trivial (by simp only [Job.c];omega)
   exact ⟨r,hr,fun m q hq=>⟨by have:=(hl m q hq).1;omega,fun _=>by have:=(hl m q hq).1;omega⟩⟩
  |pctl=>
   simp only [Job.c] at hf
   rw [bq]
   split
   ·
    rename_i hk
    have hpos:=iD (fin:=fin) (l:=p.l) (by omega)
    have hs:=eW p
    obtain ⟨r,hr,hl⟩:=ih .pctl (p.skip.put (dz 5 0)) trivial (by rw [d9];simp only [Job.c];omega)
    exact ⟨r,hr,fun m q hq=>⟨by have:=(hl m q hq).1;rw [d9] at this;omega,fun h=>h.elim⟩⟩
   ·
    exact dC (iP (QV _) fun h=>h.elim)
  |prim=>
   simp only [Job.c] at hf
   rw [bq]
   dsimp only
   have hs:=eW p
   have hs2:=eW p.skip
   split
   ·
    rename_i hk
    have hpos:=iD (fin:=fin) (l:=p.l) (by omega)
    exact dC (iP (by rw [d9];omega) fun _=>by rw [d9];omega)
   ·
    split
    ·
     rename_i hk
     have hpos:=iD (fin:=fin) (l:=p.l) (by omega)
     exact dC (iP (by rw [d9];omega) fun _=>by rw [d9];omega)
    ·
     split
     ·
      rename_i hk
      have hpos:=iD (fin:=fin) (l:=p.l) (by omega)
      refine fu (ih (.level 1) p.skip ⟨by omega,by omega⟩ (by simp only [Job.c];omega)) (fun e=>cR) fun n p' h3 h4=> ?_
      have h5:=h4 trivial
      have hs3:=eW p'
      split
      ·
       exact dC cR
      ·
       exact dC (iP (by omega) fun _=>by omega)
     ·
      split
      ·
       rename_i hk
       have hpos:=iD (fin:=fin) (l:=p.l) (by omega)
       split
       ·
        exact dC cR
       ·
        split
        ·
         exact dC cR
        ·
         rename_i hk2
         have hpos2:=iD (fin:=fin) (l:=p.skip.l) (by omega)
         split
         ·
          exact qC (by omega) fun _ _=>by omega
         ·
          refine fu (ih (.args (ba (hdT fin p.l).text).1 0) p.skip.skip trivial (by simp only [Job.c];omega)) (fun e=>cR) fun n p' h3 h4=> ?_
          exact qC (by omega) fun _ _=>by omega
      ·
       exact dC cR
  |args fn n=>
   simp only [Job.c] at hf
   rw [bq]
   dsimp only
   have hgo: ∀ p' :PS,p'.l.length<p.l.length→Fl (if (hdT fin p'.l).kind=11 then bq fin f (.args fn (n+1)) p'.skip else some (.ok (n+1,p'))) (Jd p (Job.args fn n).eats):=by
    intro p' hp
    have hs:=eW p'
    split
    ·
     obtain ⟨r,hr,hl⟩:=ih (.args fn (n+1)) p'.skip trivial (by simp only [Job.c];omega)
     exact ⟨r,hr,fun m q hq=>⟨by have:=(hl m q hq).1;omega,fun _=>by have:=(hl m q hq).1;omega⟩⟩
    ·
     exact dC (iP (by omega) fun _=>hp)
   split
   ·
    refine fu (ih (.level 1) p ⟨by omega,by omega⟩ (by simp only [Job.c];omega)) (fun e=>cR) fun m p' h3 h4=> ?_
    exact hgo p' (h4 trivial)
   ·
    rename_i hk
    have hpos:=iD (fin:=fin) (l:=p.l) (by omega)
    have hs:=eW p
    split
    ·
     exact dC cR
    ·
     exact hgo _ (by rw [d9];omega)
end Go.SL

/-
  Lemmas and walks, put together: La G1a R1 D9 Sb W1 W11 W4 W27 W30 B1 Px W2 W3 W28 A2 D3.
-/
import Derived.Test.YtoanpdoacdpgeaaGreatDoorKr04
import Derived.Test.YtoanpdoacdpgeaaGreatDoorKr05
import Derived.Test.YtoanpdoacdpgeaaGreatDoorKr06
import Derived.Test.YtoanpdoacdpgeaaGreatDoorKr07
set_option linter.unusedSimpArgs false
set_option linter.unusedVariables false
set_option maxRecDepth 20000
namespace Go.SL
open Go Go.Proofs
attribute [local irreducible] W WL WQ WG WA WX WLI WR WT WC VOp RW thn blk bo scp aN bf bi aF FnIn FnP ceP
theorem HG {L:List Rf} {k:Nat} (h:k<L.length):((L.flatMap aQ).drop (0+k*2)).take 2=aQ L[k]:=by
 rw [H8]
 exact cd iq L k h
end Go.SL
namespace Go.SL
open Go Go.Proofs
attribute [local irreducible] W WL WQ WG WA WX WLI WR WT WC VOp RW thn blk bo scp aN bf bi aF FnP ceP
theorem FnIn.re {P:Program} {f:FuncId} {args:List Value} {w0:World} {H:List Blk} {R R' :Value→List Blk→Prop} (h:FnIn P f args w0 H R) (hr: ∀ v H,R v H→ ∃ H',MSub H' H∧R' v H'):FnIn P f args w0 H R' :=
 fun w hm=>Calls.mono (h w hm) fun _ _ ⟨v,H',h1,h2,h3⟩=>let ⟨H2,h4,h5⟩:=hr v H' h3;⟨v,H2,h1,h4.use h2,h5⟩
theorem MSub.of_perm {H H' :List Blk} (h:H'.Perm H):MSub H H' :=⟨[],by simpa using h⟩
end Go.SL
namespace Go.SL
open Go Go.Proofs
attribute [local irreducible] W WL WQ WG WA WX WLI WR WT WC VOp RW thn blk bo scp aN bf bi aF FnIn FnP ceP
section
variable {w0:World} {s:ap} {H:List Blk} {ty t' :TypeId} {x y:Operand}
theorem qG {a b:Rct} {c:Bool} (h:decide (a=b)=c) (hx:ev s x=some (.agg (bu a).toArray)) (hy:ev s y=some (.agg (bu b).toArray)):VOp Tryz.prog w0 s H (.binOp .eql 32 x y t') ty (.bool c):=by
 have h1:=FG (w0:=w0) (H:=H) (ty:=ty) (t' :=t') hx hy
 rwa [yz,h] at h1
theorem qE {a b:Rct} {c:Bool} (h:decide (a=b)=c) (hx:ev s x=some (.agg (bu a).toArray)) (hy:ev s y=some (.agg (bu b).toArray)):VOp Tryz.prog w0 s H (.binOp .neq 32 x y t') ty (.bool (!c)):=by
 have h1:=FA (w0:=w0) (H:=H) (ty:=ty) (t' :=t') hx hy
 rwa [yz,h] at h1
end
end Go.SL
namespace Go.SL
open Go Go.Proofs
theorem MSub.appL (R H1:List Blk):MSub R (R++H1):=⟨H1,.refl _⟩
theorem MSub.appC (X Hc H1:List Blk):MSub (H1++(Hc++X)) (X++(Hc++H1)):=⟨[],by
 rw [Ig]
 refine List.Perm.trans ?_ (List.Perm.append_left H1 (IM (l₁:=X) (l₂:=Hc)))
 refine List.Perm.trans (List.Perm.append_left X (IM (l₁:=Hc) (l₂:=H1))) ?_
 rw [← Il,← Il]
 exact (IM (l₁:=X) (l₂:=H1)).append_right Hc⟩
theorem MSub.appD (X Hc H2:List Blk):MSub (X++(Hc++H2)) (H2++(Hc++X)):=MSub.appC H2 Hc X
theorem MSub.appS (Hc H1:List Blk):MSub (H1++Hc) (Hc++H1):=⟨[],by rw [Ig];exact IM⟩
theorem MSub.appE (X Hc H2:List Blk):MSub (H2++Hc) (H2++(Hc++X)):=⟨X,by rw [Il]⟩
attribute [local irreducible] W WL WQ WG WA WX WLI WR WT WC VOp RW thn blk bo scp aN bf bi aF FnIn FnP ceP
end Go.SL
namespace Go.SL
open Go Go.RowKit
theorem pK {p:Prop} (h:p:=by (repeat first|exact .hd|apply Sel.tl|apply In.tl);(first|done|fail)):p:=h
theorem sB {p:Prop} (h:p:=by (repeat (first|exact Sub.nil _|refine Sub.cons rfl ?_));(first|done|fail)):p:=h
theorem mS {p:Prop} (h:p:=by (repeat (first|exact MSub.nil _|refine MSub.pick (by (repeat first|exact .hd|apply Sel.tl|apply In.tl)) ?_|exact MSub.refl _|refine MSub.drop .hd ?_));(first|done|fail)):p:=h
theorem vC {P:Program} {w0:World} {s:ap} {H:List Blk} {op:Op} {ty:TypeId} {v:Value} (h:VOp P w0 s H op ty v:=by
 first
 |((with_reducible apply Fx);exact rfl)
 |((with_reducible apply uf);exact rfl)
 |((with_reducible apply GK);exact rfl)
 |((with_reducible apply Bj);exact rfl)
 |((with_reducible apply oC);exact rfl)
 |((with_reducible apply dK);exact rfl;exact pK;exact rfl)
 |((with_reducible apply FE);exact rfl;exact rfl)
 |((with_reducible apply v_neqb);exact rfl;exact rfl)
 |((with_reducible apply xY);exact rfl;exact rfl)
 |((with_reducible apply Bh);exact rfl;exact rfl)
 |((with_reducible apply tX);exact rfl;exact pK;exact rfl)
 |((with_reducible apply tY);exact rfl;exact pK;exact rfl;exact rfl)
 |((with_reducible apply DC);(iterate 3 exact rfl))
 |((with_reducible apply xX);(iterate 3 exact rfl))
 |((with_reducible apply eB);exact rfl)
 |((with_reducible apply Dx);exact rfl)
 |((with_reducible apply v_neqpn);exact rfl)):VOp P w0 s H op ty v:=h
theorem vC2 {P:Program} {w0:World} {s:ap} {H:List Blk} {op:Op} {ty:TypeId} {v:Value} (h:VOp P w0 s H op ty v:=by
 first
 |((with_reducible apply ud);exact rfl;exact rfl;(first|assumption|omega))
 |((with_reducible apply FC);exact rfl;exact rfl;(first|assumption|omega))
 |((with_reducible apply wy);(iterate 3 exact rfl);(first|assumption|omega))
 |((with_reducible apply Ba);exact rfl;exact rfl;(first|assumption|omega))
 |((with_reducible apply Dr);exact rfl;exact rfl;(first|assumption|omega))
 |((with_reducible apply Bb);exact rfl;exact rfl;(first|assumption|omega))
 |((with_reducible apply ud (j:=4));exact rfl;exact rfl;(first|assumption|omega))
 |((with_reducible apply Bb (hi:=4));exact rfl;exact rfl;(first|assumption|omega))
 |((with_reducible apply Ba (lo:=1));exact rfl;exact rfl;(first|assumption|omega))
 |((with_reducible apply yZ);(iterate 3 exact rfl))
 |((with_reducible apply yY);(iterate 3 exact rfl))):VOp P w0 s H op ty v:=h
theorem vA {P:Program} {w0:World} {s:ap} {H:List Blk} {op:Op} {ty:TypeId} {v:Value} (h:VOp P w0 s H op ty v:=by
 first
 |((with_reducible apply jF);exact rfl;exact rfl;(simp only [maxLen] at*;omega))
 |((with_reducible apply v_1addN);exact rfl;exact rfl;(simp only [maxLen] at*;omega))
 |((with_reducible apply iG);exact rfl;exact rfl;(simp only [maxLen] at*;omega))
 |((with_reducible apply da);exact rfl;exact rfl;omega;(simp only [maxLen] at*;omega))
 |((with_reducible apply iA);exact rfl;exact rfl;omega;(simp only [maxLen] at*;omega))
 |((with_reducible apply Bi);exact rfl;exact rfl)):VOp P w0 s H op ty v:=h
theorem vI {P:Program} {w0:World} {s:ap} {H:List Blk} {op:Op} {ty:TypeId} {v:Value} (h:VOp P w0 s H op ty v:=by
 first
 |((with_reducible apply qJ);exact rfl;exact rfl;exact ⟨by omega,by omega⟩)
 |((with_reducible apply EW);exact rfl;exact rfl;exact ⟨by omega,by omega⟩)
 |((with_reducible apply EY);exact rfl;exact rfl;exact ⟨by omega,by omega⟩)):VOp P w0 s H op ty v:=h
theorem vR {P:Program} {w0:World} {s:ap} {H:List Blk} {op:Op} {ty:TypeId} {v:Value} (h:VOp P w0 s H op ty v:=by
 first
 |((with_reducible apply ai);exact rfl;exact rfl;(first|assumption|omega))
 |((with_reducible apply aA);exact rfl;assumption;exact rfl)
 |((with_reducible apply iF);exact rfl;assumption)
 |((with_reducible apply iD);exact rfl;assumption;exact rfl)):VOp P w0 s H op ty v:=h
theorem sT {p q:Prop} (k:q) (h:q→p:=by
 first
 |(with_reducible first|exact iZ|exact GS|exact Gx|exact AX|exact Gz|exact Fs|exact Fu|exact Dp|exact GQ|exact GU|exact HB|exact Hz|exact HC|exact cut_r|exact cut_e)
 |(intro k;(with_reducible apply aj);exact rfl;exact vC;exact k)
 |(intro k;(with_reducible apply Dg);exact rfl;exact rfl;exact k)
 |(intro k;(with_reducible apply AK);(iterate 4 exact rfl);exact k)
 |(intro k;(with_reducible apply AJ);(iterate 3 exact rfl);exact k)
 |(intro k;(with_reducible apply qf);exact rfl;exact rfl;exact pK;(iterate 3 exact rfl);exact k)
 |(intro k;(with_reducible apply tN);exact rfl;exact rfl;exact pK;(iterate 4 exact rfl);exact k)
 |(intro k;(with_reducible apply tU);exact rfl;exact k)
 |(intro k;(with_reducible apply rT);exact rfl;exact k)
 |(intro k;(with_reducible apply Hy);exact rfl;exact k)):p:=h k
theorem sM {p:Prop} {q:Nat→Prop} (k: ∀ g,q g) (h:(∀ g,q g)→p:=by
 first
 |(intro k;(with_reducible apply Dh);exact rfl;exact rfl;exact k)
 |(intro k;(with_reducible apply Di);(iterate 3 exact rfl);exact k)
 |(intro k;(with_reducible apply AR);exact rfl;exact k)
 |(intro k;(with_reducible apply qh);(iterate 7 exact rfl);exact k)):p:=h k
theorem sT2 {p q:Prop} (k:q) (h:q→p:=by exact aj rfl vC2):p:=h k
theorem sQ2 {p q:Prop} (k:q) (h:q→p:=by exact aK rfl vC2):p:=h k
theorem sS {p q:Prop} (k:q) (h:q→p:=by with_reducible first|exact Dk|exact Dl|exact scp_n|exact GY|exact scp_e):p:=h k
theorem sP {p q:Prop} (k:q) (h:q→p:=by with_reducible first|exact GR|exact HA|exact Hx|exact scp_p):p:=h k
theorem sC {p q1 q2 r1 r2:Prop} (k1:q1→q2) (k2:r1→r2) (h:(q1→q2)→(r1→r2)→p:=by
 intro k1 k2
 first
 |((with_reducible apply yP);exact rfl;exact rfl;exact fun hb=>k1 (Tidy.out hb);exact fun hb=>k2 (Tidy.out hb))
 |((with_reducible apply Fw);exact rfl;exact fun hb=>k1 (Tidy.out hb);exact fun hb=>k2 (Tidy.out hb))):p:=h k1 k2
theorem cT {p:Prop} (h:p:=by (with_reducible apply cH (i:=()))<;>first|exact trivial|((repeat (first|exact Sub.nil _|refine Sub.cons rfl ?_));done)|((repeat (first|exact MSub.nil _|refine MSub.pick (by (repeat first|exact .hd|apply Sel.tl|apply In.tl)) ?_|exact MSub.refl _|refine MSub.drop .hd ?_));done)|fail):p:=h
theorem sQ {p q:Prop} (k:q) (h:q→p:=by
 first
 |(with_reducible exact Fl)
 |(intro k;(with_reducible apply aK);exact rfl;exact vC;exact k)
 |(intro k;(with_reducible apply Dd);exact rfl;exact rfl;exact k)
 |(intro k;(with_reducible apply AB);(iterate 4 exact rfl);exact k)
 |(intro k;(with_reducible apply wq_gno_u);(iterate 3 exact rfl);exact k)):p:=h k
theorem sCQ {p q1 q2 r1 r2:Prop} (k1:q1→q2) (k2:r1→r2) (h:(q1→q2)→(r1→r2)→p:=by
 intro k1 k2
 first
 |((with_reducible apply yL);exact rfl;exact rfl;exact fun hb=>k1 (Tidy.out hb);exact fun hb=>k2 (Tidy.out hb))):p:=h k1 k2
theorem sD {p q:Prop} (k:q) (h:q→p:=by intro k;(with_reducible apply gH);kernel_rfl;kernel_rfl;exact k):p:=h k
theorem sN {p q:Prop} (k:q) (h:q→p:=by exact aj rfl vA):p:=h k
theorem sNQ {p q:Prop} (k:q) (h:q→p:=by exact aK rfl vA):p:=h k
theorem sJ {p q:Prop} (k:q) (h:q→p:=by exact aj rfl vI):p:=h k
theorem sJQ {p q:Prop} (k:q) (h:q→p:=by exact aK rfl vI):p:=h k
theorem sJG {p q:Prop} (k:q) (h:q→p:=by exact tS (f:=60) rfl (by decide+kernel) rfl vI):p:=h k
theorem sO {p q:Prop} (k:q) (h:q→p:=by exact aj rfl vR):p:=h k
theorem sOQ {p q:Prop} (k:q) (h:q→p:=by exact aK rfl vR):p:=h k
theorem sG {p q:Prop} (k:q) (h:q→p:=by
 first
 |(with_reducible exact rN)
 |(intro k;(with_reducible apply wq);exact rfl;(intro D ht;exact vC);exact fun _=>rfl;exact k)
 |exact wt _ _ rfl rfl (fun D=> .hd) rfl rfl rfl (fun _=>Ji rfl) (fun D ht=> .refl _)
 |(intro k;(with_reducible apply tS (f:=60));exact rfl;decide+kernel;exact rfl;exact vC;exact k)):p:=h k
theorem sX {p q:Prop} (k:q) (h:q→p:=by
 first
 |(with_reducible exact Fg)
 |(intro k;(with_reducible apply tI);(iterate 3 exact rfl);(intro D ht;exact vC);exact fun _=>rfl;exact k)
 |(intro k;(with_reducible apply wx_gno);(iterate 3 exact rfl);exact fun _=>rfl;exact k)):p:=h k
theorem sCX {p q1 q2 r1 r2:Prop} (k1:q1→q2) (k2:r1→r2) (h:(q1→q2)→(r1→r2)→p:=by
 intro k1 k2
 first
 |((with_reducible apply wx_gsplit);exact rfl;exact rfl;exact fun hb=>k1 (Tidy.out hb);exact fun hb=>k2 (Tidy.out hb))):p:=h k1 k2
theorem sXO {p q:Prop} (k:q) (h:q→p:=by exact tI rfl rfl rfl (fun D ht=>vR) (fun _=>rfl)):p:=h k
theorem sBG {p q:Prop} (k:q) (h:q→p:=by with_reducible first|exact wl_app_c|exact wl_app_n):p:=h k
theorem sI {p q:Prop} (k:q) (h:q→p:=by first|(with_reducible exact Df)|(intro k;(with_reducible apply AE);exact rfl;exact rfl;exact vC;exact k)):p:=h k
theorem sR {p q:Prop} (k:q) (h:q→p:=by
 first
 |(with_reducible first|exact Fj|exact wr_ret|exact wr_exit|exact Dc|exact AA|exact Ay|exact kT|exact wt_seq_c|exact wt_seq_b|exact wt_seq_k|exact wt_last_r|exact tJ|exact yJ|exact zQ|exact zP)
 |(intro k;(with_reducible apply wr_cond_true);exact rfl;exact k)
 |(intro k;(with_reducible apply wr_cond_false);exact rfl;exact k)
 |(intro k;(with_reducible apply yK);exact rfl;(repeat (first|exact zk|exact xz|apply F5|apply F6|apply no_cut));exact k)):p:=h k
theorem sCR {p q1 q2 r1 r2:Prop} (k1:q1→q2) (k2:r1→r2) (h:(q1→q2)→(r1→r2)→p:=by
 intro k1 k2
 first
 |((with_reducible apply wr_cond);exact rfl;exact fun hb=>k1 (Tidy.out hb);exact fun hb=>k2 (Tidy.out hb))):p:=h k1 k2
theorem sW {p q:Prop} (k:q) (h:q→p:=by
 first
 |(with_reducible exact Fp)
 |(intro k;(with_reducible apply gG);(iterate 3 exact rfl);exact vC;exact k)
 |(intro k;(with_reducible apply Fq);(iterate 3 exact rfl);exact k)
 |(intro k;(with_reducible apply wc_gno0);exact rfl;exact k)
 |(intro k;(with_reducible apply HE);exact rfl;exact rfl;exact k)
 |(intro k;(with_reducible apply wc_p);(iterate 4 exact rfl);exact vC;exact k)
 |(intro k;(with_reducible apply CR);exact mS;exact k)):p:=h k
theorem sW2 {p q:Prop} (k:q) (h:q→p:=by exact gG rfl rfl rfl vC2):p:=h k
theorem sWN {p q:Prop} (k:q) (h:q→p:=by exact gG rfl rfl rfl vA):p:=h k
theorem sWJ {p q:Prop} (k:q) (h:q→p:=by exact gG rfl rfl rfl vI):p:=h k
theorem sCW {p q1 q2 r1 r2:Prop} (k1:q1→q2) (k2:r1→r2) (h:(q1→q2)→(r1→r2)→p:=by
 intro k1 k2
 first
 |((with_reducible apply yU);exact rfl;exact rfl;exact fun hb=>k1 (Tidy.out hb);exact fun hb=>k2 (Tidy.out hb))):p:=h k1 k2
theorem sG2 {p q:Prop} (k:q) (h:q→p:=by first|exact wq rfl (fun D ht=>vC2) (fun _=>rfl)|exact tS (f:=60) rfl (by decide+kernel) rfl vC2):p:=h k
theorem sX2 {p q:Prop} (k:q) (h:q→p:=by exact tI rfl rfl rfl (fun D ht=>vC2) (fun _=>rfl)):p:=h k
theorem eIO {p:Prop} (h:p:=by first|exact .inl rfl|exact .inr rfl):p:=h
theorem rT0 {p q:Prop} (k:q) (h:q→p:=by intro k;(with_reducible apply eT);exact .inl rfl;exact rfl;exact MSub.nil _;exact k):p:=h k
theorem rT1 {p q:Prop} (k:q) (h:q→p:=by intro k;(with_reducible apply bI);exact .inl rfl;exact rfl;exact rfl;exact MSub.nil _;exact k):p:=h k
theorem rT2 {p q:Prop} (k:q) (h:q→p:=by intro k;(with_reducible apply gU);exact .inl rfl;(iterate 3 exact rfl);exact MSub.nil _;exact k):p:=h k
theorem rT3 {p q:Prop} (k:q) (h:q→p:=by intro k;(with_reducible apply wM);exact .inl rfl;(iterate 4 exact rfl);exact MSub.nil _;exact k):p:=h k
theorem eRC {p q:Prop} (k:q) (h:q→p:=by first|exact sq (.inl rfl) rfl rfl pK rfl (MSub.nil _)|exact sq (.inr rfl) rfl rfl pK rfl (MSub.nil _)):p:=h k
theorem fW {p q:Prop} (k:q) (h:q→p:=by first|exact qR (.inl rfl) rfl rfl pK rfl rfl (MSub.nil _)|exact qR (.inr rfl) rfl rfl pK rfl rfl (MSub.nil _)):p:=h k
theorem HT {p q:Prop} (k:q) (h:q→p:=by first|exact kw (.inl rfl) rfl rfl pK rfl rfl rfl (MSub.nil _)|exact kw (.inr rfl) rfl rfl pK rfl rfl rfl (MSub.nil _)):p:=h k
theorem nP {p:Prop} (h:p:=by (repeat (first|exact F2|apply FZ|apply F4|apply F3));(first|done|fail)):p:=h
theorem vP {P:Program} {w0:World} {s:ap} {H:List Blk} {op:Op} {ty:TypeId} {v:Value} (h:VOp P w0 s H op ty v:=by
 first|exact vC|((with_reducible apply iA);exact rfl;exact rfl;omega;omega)|((with_reducible apply Bc);exact rfl;exact rfl;omega)):VOp P w0 s H op ty v:=h
end Go.SL
namespace Go.SL
open Go Go.Proofs
attribute [local irreducible] W WL WQ WG VOp thn blk aN aF FnIn
set_option maxRecDepth 10000 in
theorem fJ (c r:Int) (w:World):ay Tryz.prog 71 [.agg #[.int .i64 c,.int .i64 r]] w (.bool (valid c r)):=by
 refine aq Tryz.func71 rfl Tryz.ntmps71 rfl ?_
 repeat' (first|refine sT ?_|refine sM fun _=> ?_|(refine sC ?_ ?_<;>intro hb<;>try omega)|fail)
 all_goals ((refine rT1 ?_);((try simp only [← Int.not_lt] at*);simp_all [valid, -Int.not_lt, -Int.not_le,← Int.not_lt]))
set_option maxRecDepth 10000 in
theorem xp (r:Rct) (w:World):ay Tryz.prog 135 [.agg (bu r).toArray] w (.tuple #[.agg #[.int .i64 r.c1,.int .i64 r.r1],.agg #[.int .i64 r.c2,.int .i64 r.r2]]):=by
 refine aq Tryz.func135 rfl Tryz.ntmps135 rfl ?_
 repeat' (first|refine sT ?_|refine sM fun _=> ?_|(refine sC ?_ ?_<;>intro hb<;>try omega)|fail)
 rename_i g1 g2 g3
 refine nL (fun D=> [.box g2 50 [.int .i64 (bif D 10 then r.c1 else 0),.int .i64 (bif D 10 then r.r1 else 0)],.box g3 50 [.int .i64 (bif D 11 then r.c2 else 0),.int .i64 (bif D 11 then r.r2 else 0)],.box g1 32 (bu r)]) (by kernel_rfl) (by kernel_rfl) (.pick (.tl .hd) (.pick .hd (.refl _))) ?_
 repeat' (first|refine sT ?_|refine sG ?_|refine sM fun _=> ?_|(refine sC ?_ ?_<;>intro hb<;>try omega)|fail)
 refine wt _ _ rfl rfl (fun D=> .tl .hd) rfl rfl rfl (fun _=>Ih _) (fun D ht=> .pick (.tl .hd) (.pick .hd (.refl _))) ?_
 refine rN fun D hD=> ?_
 have h10:=hD 10 (by decide)
 have h11:=hD 11 (by decide)
 simp only [h10,h11,cond_true]
 repeat' (first|refine sT ?_|refine sM fun _=> ?_|(refine sC ?_ ?_<;>intro hb<;>try omega)|fail)
 refine GZ (.inl rfl) Tryz.results135 rfl .hd rfl rfl (.tl .hd) rfl (MSub.nil _) ?_
 rfl
set_option maxRecDepth 10000 in
theorem f9 (r:Rct) (w:World):ay Tryz.prog 93 [.agg (bu r).toArray] w (.int .i64 (eZ r)):=by
 refine aq Tryz.func93 rfl Tryz.ntmps93 rfl ?_
 repeat' (first|(apply ah;exact rfl;exact rfl;(intro w hm;exact xp r w))|(apply ah;exact rfl;exact rfl;(intro w hm;exact fJ r.c1 r.r1 w))|(apply ah;exact rfl;exact rfl;(intro w hm;exact fJ r.c2 r.r2 w))|refine sT ?_|refine sM fun _=> ?_|(refine sC ?_ ?_<;>intro hb<;>try omega)|fail)
 all_goals ((refine rT1 ?_);((try simp only [← Int.not_lt] at*);simp_all [eZ,bq, -Int.not_lt, -Int.not_le,← Int.not_lt]))
set_option maxRecDepth 10000 in
theorem Cp (fn:Int) (w:World):ay Tryz.prog 357 [.int .u8 fn] w (.bool (sL fn)):=by
 refine aq Tryz.func357 rfl Tryz.ntmps357 rfl ?_
 repeat' (first|refine sT ?_|refine sM fun _=> ?_|(refine sC ?_ ?_<;>intro hb<;>try omega)|fail)
 all_goals ((refine rT1 ?_);((try simp only [← Int.not_lt] at*);simp_all [sL, -Int.not_lt, -Int.not_le,← Int.not_lt]))
set_option maxRecDepth 10000 in
theorem mR (fn:Int) (w:World):ay Tryz.prog 338 [.int .u8 fn] w (.bool (gW fn)):=by
 refine aq Tryz.func338 rfl Tryz.ntmps338 rfl ?_
 repeat' (first|refine sT ?_|refine sM fun _=> ?_|(refine sC ?_ ?_<;>intro hb<;>try omega)|fail)
 all_goals ((refine rT1 ?_);((try simp only [← Int.not_lt] at*);simp_all [gW, -Int.not_lt, -Int.not_le,← Int.not_lt]))
set_option maxRecDepth 10000 in
theorem CU (n:Nd) (w:World):ay Tryz.prog 306 [.agg (dD n).toArray] w (.int .i64 (below n)):=by
 refine aq Tryz.func306 rfl Tryz.ntmps306 rfl ?_
 repeat' (first|refine sT ?_|refine sM fun _=> ?_|(refine sC ?_ ?_<;>intro hb<;>try omega)|fail)
 all_goals ((refine rT1 ?_);simp_all [below])
set_option maxRecDepth 10000 in
theorem p6 (fn:Int) (w:World):ay Tryz.prog 336 [.int .u8 fn] w (.tuple #[.int .i64 (dP fn).1,.int .i64 (dP fn).2.1,.int .i64 (dP fn).2.2]):=by
 refine aq Tryz.func336 rfl Tryz.ntmps336 rfl ?_
 repeat' (first|(apply ah;exact rfl;exact rfl;(intro w hm;exact Cp fn w))|refine sT ?_|refine sM fun _=> ?_|(refine sC ?_ ?_<;>intro hb<;>try omega)|fail)
 all_goals ((refine rT3 ?_);simp_all [dP])
set_option maxRecDepth 10000 in
theorem xQ (fn i:Int) (w:World):ay Tryz.prog 337 [.int .u8 fn,.int .i64 i] w (.tuple #[.bool (kW fn i).1,.int .i64 (kW fn i).2]):=by
 refine aq Tryz.func337 rfl Tryz.ntmps337 rfl ?_
 repeat' (first|(apply ah;exact rfl;exact rfl;(intro w hm;exact p6 fn w))|(apply ah;exact rfl;exact rfl;(intro w hm;exact mR fn w))|refine sT ?_|refine sM fun _=> ?_|(refine sC ?_ ?_<;>intro hb<;>try omega)|fail)
 all_goals ((refine rT2 ?_);((try simp only [← Int.not_lt] at*);simp_all [kW, -Int.not_lt, -Int.not_le,← Int.not_lt]))
end Go.SL
namespace Go.SL
open Go Go.Proofs
attribute [local irreducible] W WL WQ WG WA VOp thn blk aN aF FnIn
def gJ:List ByteArray:= [
 ⟨#[65,66,83]⟩,⟨#[83,73,71,78]⟩,⟨#[73,78,84]⟩,⟨#[84,82,85,78,67]⟩,⟨#[82,79,85,78,68]⟩,
 ⟨#[77,79,68]⟩,⟨#[80,79,87,69,82]⟩,⟨#[83,81,82,84]⟩,⟨#[83,85,77]⟩,⟨#[80,82,79,68,85,67,84]⟩,
 ⟨#[67,79,85,78,84]⟩,⟨#[67,79,85,78,84,65]⟩,⟨#[67,79,85,78,84,66,76,65,78,75]⟩,⟨#[65,86,69,82,65,71,69]⟩,⟨#[77,73,78]⟩,
 ⟨#[77,65,88]⟩,⟨#[77,69,68,73,65,78]⟩,⟨#[76,65,82,71,69]⟩,⟨#[83,77,65,76,76]⟩,⟨#[73,70]⟩,
 ⟨#[65,78,68]⟩,⟨#[79,82]⟩,⟨#[88,79,82]⟩,⟨#[78,79,84]⟩,⟨#[73,70,69,82,82,79,82]⟩,
 ⟨#[73,83,69,82,82,79,82]⟩,⟨#[73,83,66,76,65,78,75]⟩,⟨#[73,83,78,85,77,66,69,82]⟩,⟨#[73,83,84,69,88,84]⟩,⟨#[67,72,79,79,83,69]⟩,
 ⟨#[76,69,78]⟩,⟨#[76,69,70,84]⟩,⟨#[82,73,71,72,84]⟩,⟨#[77,73,68]⟩,⟨#[85,80,80,69,82]⟩,
 ⟨#[76,79,87,69,82]⟩,⟨#[84,82,73,77]⟩,⟨#[67,79,78,67,65,84]⟩,⟨#[82,69,80,84]⟩,⟨#[69,88,65,67,84]⟩,
 ⟨#[70,73,78,68]⟩,⟨#[86,65,76,85,69]⟩,⟨#[73,78,68,69,88]⟩,⟨#[77,65,84,67,72]⟩,⟨#[67,79,85,78,84,73,70]⟩,
 ⟨#[68,83,85,77]⟩,⟨#[68,67,79,85,78,84]⟩,⟨#[68,65,86,71]⟩,⟨#[68,77,73,78]⟩,⟨#[68,77,65,88]⟩]
theorem BW (w:World):ay Tryz.prog 374 [] w (.agg (gJ.map Value.string).toArray):=by
 refine aq Tryz.func374 rfl Tryz.ntmps374 rfl ?_
 repeat' (first|(apply tQ;(iterate 5 exact rfl))|refine sT ?_|refine sM fun _=> ?_|(refine sC ?_ ?_<;>intro hb<;>try omega)|fail)
 exact sq (.inl rfl) Tryz.results374 rfl .hd rfl (MSub.nil _) rfl
theorem Ro.str1 {w:World} {g o:Nat} {L:List ByteArray} (h:Ro w g o (L.map Value.string)) (i:Nat) (hi:i<L.length):Ro w g (o+i*1) [Value.string L[i]]:=by
 have h1:=(h.drop (k:=i)).take (k:=1)
 rw [← List.map_drop,← List.map_take,H6 hi] at h1
 rw [Jt]
 exact h1
def df:List ByteArray→ByteArray→Int→Int
 | [],_,_=> -1
 |a::r,s,i=>if s=a then i else df r s (i+1)
theorem C0 (L:List ByteArray) (b:ByteArray) (tv:Value) (w:World) (ht:Reads w tv L.length (L.map Value.string)):ay Tryz.prog 375 [tv,.string b] w (.int .i64 (df L b 0)):=by
 obtain ⟨Al,cl,rfl,hl1,hl2,hl3⟩:=ht
 refine aq Tryz.func375 rfl Tryz.ntmps375 rfl ?_
 repeat' (first|refine sT ?_|refine sM fun _=> ?_|(refine sC ?_ ?_<;>intro hb<;>try omega)|fail)
 refine fI (fun i:Nat=> [(0,.slice Al L.length cl),(1,.string b),(7,.int .i64 (L.length:Int)),(8,.int .i64 (i:Int))]) (fun _=> []) (fun i=>i≤L.length∧df L b 0=df (L.drop i) b (i:Int)) (fun i=>L.length - i) 0 ⟨by omega,rfl⟩ ?_ ?_ ?_
 ·
  exact sB
 ·
  exact mS
 ·
  rintro i ⟨hi,hrec⟩
  by_cases hlt:i<L.length
  ·
   obtain ⟨gl,ol,rfl,hrl⟩:=hl3 (by omega)
   have he:=hrl.str1 i hlt
   rw [H6 hlt,df] at hrec
   repeat' (first|(apply aj;exact rfl;apply ai;exact rfl;exact rfl;exact hlt)|(apply aj;exact rfl;apply iF;exact rfl;exact he)|(apply aj;exact rfl;apply jF;exact rfl;exact rfl;(simp only [maxLen] at*;omega))|refine sT ?_|refine sM fun _=> ?_|(refine sC ?_ ?_<;>intro hb<;>try omega)|fail)
   ·
    (refine rT1 ?_)
    rw [hrec,if_pos hb]
   ·
    refine ⟨i+1,⟨by omega,?_⟩,by omega,?_,?_⟩
    ·
     rw [hrec,if_neg hb]
     rfl
    ·
     exact sB
    ·
     exact mS
  ·
   have e:i=L.length:=by omega
   subst e
   repeat' (first|refine sT ?_|refine sM fun _=> ?_|(refine sC ?_ ?_<;>intro hb<;>try omega)|fail)
   (refine rT1 ?_)
   rw [hrec,I3,df]
theorem jY:gJ.length=50:=rfl
theorem j3 (L:List ByteArray) (b:ByteArray) (i:Int) (h:0≤i):df L b i= -1∨(i≤df L b i∧df L b i<i+L.length):=by
 induction L generalizing i with
 |nil=>exact .inl rfl
 |cons a r ih=>
  unfold df
  rw [IA]
  split
  ·
   right;omega
  ·
   rcases ih (i+1) (by omega) with h1|h1
   ·
    exact .inl h1
   ·
    right;omega
def bE (b:ByteArray):Int × Int:=if df gJ b 0<0 then (0,6) else (df gJ b 0+1,0)
theorem vX (b:ByteArray) (w:World):ay Tryz.prog 370 [.string b] w (.tuple #[.int .u8 (bE b).1,.int .i64 (bE b).2]):=by
 refine aq Tryz.func370 rfl Tryz.ntmps370 rfl ?_
 have hb1:=j3 gJ b 0 (by omega)
 rw [jY] at hb1
 have hix:=fun w tv (h:Reads w tv (gJ.map Value.string).length (gJ.map Value.string))=>C0 gJ b tv w h
 unfold bE
 generalize df gJ b 0=r at hb1 hix
 repeat' (first|(apply ah;exact rfl;exact rfl;(intro w hm;exact BW w))|(apply aj;exact rfl;apply tV;exact rfl)|(apply ah;exact rfl;exact rfl;(intro w' hm;exact hix w' _ (Reads.of_box hm pK rfl)))|(apply aj;exact rfl;apply eC;exact rfl;exact rfl;exact I64.wrap ⟨by omega,by omega⟩)|(apply aj;exact rfl;apply y6;exact rfl;exact wrap_u8 (by omega) (by omega))|refine sT ?_|refine sM fun _=> ?_|(refine sC ?_ ?_<;>intro hb<;>try omega)|fail)
 ·
  refine gU (.inl rfl) Tryz.results370 rfl rfl (.nil _) ?_
  rw [if_pos hb]
 ·
  refine gU (.inl rfl) Tryz.results370 rfl rfl (.nil _) ?_
  rw [if_neg (by omega)]
theorem px {L:List Nd} {i:Nat} (h:i<L.length):mq L i=L[i].kind:=by simp [mq,h]
set_option maxHeartbeats 1000000 in
theorem El (L:List Nd) (n:Nd) (ps:List Pt) (tv lv:Value) (w:World) (ht:Reads w tv L.length (L.flatMap dD)) (hp:Reads w lv ps.length (ps.flatMap mF)) (hroot: ∀ p∈ps,p.root<L.length) (hlen:ps.length≤1000000):
  ay Tryz.prog 307 [tv,.agg (dD n).toArray,lv] w (.bool (fS L n 0 ps)):=by
 obtain ⟨At,ct,rfl,ht1,ht2,ht3⟩:=ht
 obtain ⟨Al,cl,rfl,hl1,hl2,hl3⟩:=hp
 refine aq Tryz.func307 rfl Tryz.ntmps307 rfl ?_
 repeat' (first|refine sT ?_|refine sM fun _=> ?_|(refine sC ?_ ?_<;>intro hb<;>try omega)|fail)
 rename_i gn
 refine fI (fun i:Nat=> [(0,.slice At L.length ct),(4,.pointer (some ⟨gn,0,none⟩)),(11,.slice Al ps.length cl),(12,.int .i64 (ps.length:Int)),(13,.int .i64 (i:Int))])
  (fun i=> [.box gn 293 (dD n)]) (fun i=>i≤ps.length∧fS L n 0 ps=fS L n (i:Int) (ps.drop i)) (fun i=>ps.length - i) 0 ⟨by omega,rfl⟩ ?_ ?_ ?_
 ·
  exact sB
 ·
  exact mS
 ·
  rintro i ⟨hi,hrec⟩
  by_cases hlt:i<ps.length
  ·
   obtain ⟨g,o,rfl,hro⟩:=hl3 (by omega)
   have hrp:=hro.elem jw i hlt
   have hr0:=hroot ps[i] (I7 hlt)
   obtain ⟨gt,ot,rfl,hrt⟩:=ht3 (by omega)
   have hrn:=hrt.elem fU ps[i].root hr0
   rw [H6 hlt,fS,CF,px hr0] at hrec
   repeat' (first|(apply aj;exact rfl;apply ai;exact rfl;exact rfl;first|exact hlt|exact hr0)|(apply aj;exact rfl;apply aA;exact rfl;exact hrp;exact rfl)|(apply aj;exact rfl;apply iD;exact rfl;exact hrn;exact rfl)|(apply aj;exact rfl;apply qJ;exact rfl;exact rfl;(constructor<;>omega))|(apply ah;exact rfl;exact rfl;(intro w hm;exact xQ n.fn (i:Int) w))|(apply ah;exact rfl;exact rfl;(intro w hm;exact mR n.fn w))|refine sT ?_|refine sM fun _=> ?_|(refine sC ?_ ?_<;>intro hb<;>try omega)|fail)
   all_goals first
    |((refine rT1 ?_);rw [hrec];simp_all [yp];done)
    |(refine ⟨i+1,⟨by omega,?_⟩,by omega,?_,?_⟩;(focus (rw [hrec,Int.natCast_add];simp [yp, *]));(focus exact sB);(focus exact mS))
  ·
   have e:i=ps.length:=by omega
   subst e
   rw [I3,fS] at hrec
   repeat' (first|refine sT ?_|refine sM fun _=> ?_|(refine sC ?_ ?_<;>intro hb<;>try omega)|fail)
   (refine rT1 ?_)
   rw [hrec]
end Go.SL
namespace Go.SL
open Go Go.Proofs
attribute [local irreducible] W WL WQ WG WA VOp thn blk bo aN aF FnIn
def lj (n:Nd):Bool:=decide (n.kind=2)||decide (n.kind=3)
theorem zl (n:Nd) (w:World):ay Tryz.prog 291 [.agg (dD n).toArray] w (.bool (lj n)):=by
 refine aq Tryz.func291 rfl Tryz.ntmps291 rfl ?_
 repeat' (first|refine sT ?_|refine sM fun _=> ?_|(refine sC ?_ ?_<;>intro hb<;>try omega)|fail)
 all_goals
  (refine rT1 ?_)
  simp [lj, *]
theorem CK (r:Rct):(bu r).length=4:=rfl
theorem Gg (L:List Rct) (lv:Value) (w:World) (hl:Reads w lv L.length (L.flatMap bu)):ay Tryz.prog 229 [lv] w (.bool (L.all bq)):=by
 obtain ⟨Al,cl,rfl,hl1,hl2,hl3⟩:=hl
 refine aq Tryz.func229 rfl Tryz.ntmps229 rfl ?_
 repeat' (first|refine sT ?_|refine sM fun _=> ?_|(refine sC ?_ ?_<;>intro hb<;>try omega)|fail)
 refine fI (fun i:Nat=> [(5,.slice Al L.length cl),(6,.int .i64 (L.length:Int)),(7,.int .i64 (i:Int))]) (fun _=> []) (fun i=>i≤L.length∧L.all bq=(L.drop i).all bq) (fun i=>L.length - i) 0 ⟨by omega,rfl⟩ ?_ ?_ ?_
 ·
  exact sB
 ·
  exact mS
 ·
  rintro i ⟨hi,hrec⟩
  by_cases hlt:i<L.length
  ·
   obtain ⟨gl,ol,rfl,hrl⟩:=hl3 (by omega)
   have he1:=hrl.elem CK i hlt
   rw [H6 hlt,List.all_cons] at hrec
   generalize L[i]=r at hrec he1
   repeat' (first|(apply ah;exact rfl;exact rfl;(intro w hm;exact f9 r w))|refine sT ?_|refine sN ?_|refine sO ?_|refine sM fun _=> ?_|(refine sC ?_ ?_<;>intro hb<;>try omega)|fail)
   ·
    (refine rT1 ?_)
    rw [hrec]
    cases hq:bq r<;>simp [eZ,hq] at hb ⊢
   ·
    refine ⟨i+1,⟨by omega,?_⟩,by omega,?_,?_⟩
    ·
     rw [hrec]
     cases hq:bq r<;>simp [eZ,hq] at hb ⊢
    ·
     exact sB
    ·
     exact mS
  ·
   have e:i=L.length:=by omega
   subst e
   repeat' (first|refine sT ?_|refine sM fun _=> ?_|(refine sC ?_ ?_<;>intro hb<;>try omega)|fail)
   (refine rT1 ?_)
   rw [hrec,I3]
   rfl
def uU (a b:Rct):Rct:=⟨if a.c1<b.c1 then b.c1 else a.c1,if a.r1<b.r1 then b.r1 else a.r1,if b.c2<a.c2 then b.c2 else a.c2,if b.r2<a.r2 then b.r2 else a.r2⟩
def cP (a b:Rct):Rct × Bool:=if [a,b,uU a b].all bq=true then (uU a b,true) else (aZ,false)
theorem yG (a b:Rct) (w:World):ay Tryz.prog 181 [.agg (bu a).toArray,.agg (bu b).toArray] w (.tuple #[.agg (bu (cP a b).1).toArray,.bool (cP a b).2]):=by
 refine aq Tryz.func181 rfl Tryz.ntmps181 rfl ?_
 have hall:=fun (lv:Value) (w:World)=>Gg [a,b,uU a b] lv w
 unfold cP
 generalize [a,b,uU a b].all bq=q at hall
 repeat' (first|(apply ah;exact rfl;exact rfl;(intro w hm;exact hall _ w (Reads.of_row hm pK)))|refine sT ?_|refine sM fun _=> ?_|(refine sC ?_ ?_<;>intro hb<;>try omega)|fail)
 ·
  refine qR (.inl rfl) Tryz.results181 rfl pK rfl rfl (MSub.nil _) ?_
  simp [hb,aZ,bu]
 ·
  refine qR (.inl rfl) Tryz.results181 rfl pK rfl rfl (MSub.nil _) ?_
  simp [hb,uU,bu]
end Go.SL
namespace Go.SL
open Go Go.Proofs
attribute [local irreducible] W WL WQ WG WA VOp thn blk bo aN aF FnIn WLI WR WT bi lO gA je
def HS (r:Rct) (u:Us):Bool:=(cP u.rect r).2
end Go.SL
namespace Go.SL
open Go Go.Proofs
attribute [local irreducible] W WL WQ WG WA WX WLI WR WT VOp thn blk bo scp aN bi aF FnIn
theorem gx (c:Int) (w:World):ay Tryz.prog 261 [.int .u8 c] w (.bool (aS c)):=by
 refine aq Tryz.func261 rfl Tryz.ntmps261 rfl ?_
 repeat' (first|refine sT ?_|refine sM fun _=> ?_|(refine sC ?_ ?_<;>intro hb<;>try omega)|fail)
 all_goals ((refine rT1 ?_);((try simp only [← Int.not_lt] at*);simp_all [aS, -Int.not_lt, -Int.not_le,← Int.not_lt]))
theorem lw (c:Int) (w:World):ay Tryz.prog 263 [.int .u8 c] w (.bool (fw c)):=by
 refine aq Tryz.func263 rfl Tryz.ntmps263 rfl ?_
 repeat' (first|refine sT ?_|refine sM fun _=> ?_|(refine sC ?_ ?_<;>intro hb<;>try omega)|fail)
 all_goals ((refine rT1 ?_);(try simp only [← Int.not_lt] at*);simp_all [fw, -Int.not_lt, -Int.not_le,← Int.not_lt];try omega)
theorem zA (c:Int) (w:World):ay Tryz.prog 300 [.int .u8 c] w (.bool (cJ c)):=by
 refine aq Tryz.func300 rfl Tryz.ntmps300 rfl ?_
 repeat' (first|(apply ah;exact rfl;exact rfl;(intro w hm;exact lw c w))|(apply ah;exact rfl;exact rfl;(intro w hm;exact gx c w))|refine sT ?_|refine sM fun _=> ?_|(refine sC ?_ ?_<;>intro hb<;>try omega)|fail)
 all_goals ((refine rT1 ?_);simp_all [cJ])
def eE (p:Int→Bool) (l:List Int):List Int:=l.take (aO p l)
theorem uH {p:Int→Bool} {c:Int} {r:List Int} (h:p c=true):eE p (c::r)=c::eE p r:=by simp [eE,aO,h]
theorem uG {p:Int→Bool} {c:Int} {r:List Int} (h:p c=false):eE p (c::r)= []:=by simp [eE,aO,h]
theorem qm (p:Int→Bool) (l:List Int):(eE p l).length=aO p l:=by
 simp [eE,JX (cN p l)]
set_option maxHeartbeats 1000000 in
theorem zo (a:ByteArray) (ha:a.size≤1000000) (i0:Nat) (hi0:i0≤a.size) (fis:FuncId) [Callable Tryz.prog fis] (p:Int→Bool) (hf: ∀ c w,ay Tryz.prog fis [.int .u8 c] w (.bool (p c))) (w0:World) (g4 g3 g5:Nat):
  EN Tryz.prog 330 [.pointer (some ⟨g4,0,none⟩),.pointer (some ⟨g3,0,none⟩),.pointer (some ⟨g5,0,none⟩)] w0 [.box g4 3 [.int .i64 (i0:Int)],.box g3 9 [.string a],.box g5 139 [.func (.func fis) #[] #[]]] (eE p ((ak a).drop i0)) (fun c=> [.int .u8 c]):=by
 intro l I J H0 hy h0
 refine FnIn.msub (H' := [.box g4 3 [.int .i64 (i0:Int)],.box g3 9 [.string a],.box g5 139 [.func (.func fis) #[] #[]]]++H0) ?_ MSub.swap
 refine fc Tryz.func330 rfl Tryz.ntmps330 rfl ?_
 repeat' (first|refine sT ?_|refine sT2 ?_|refine sM fun _=> ?_|(refine sC ?_ ?_<;>intro hb<;>try omega)|fail)
 refine fI (fun y:Nat × List Int × List Blk=> [(0,.func (.yield l) #[] #[]),(1,.pointer (some ⟨g4,0,none⟩)),(2,.pointer (some ⟨g3,0,none⟩)),(3,.pointer (some ⟨g5,0,none⟩)),(5,.int .i64 (y.1:Int))])
  (fun y=> [.box g4 3 [.int .i64 (i0:Int)],.box g3 9 [.string a],.box g5 139 [.func (.func fis) #[] #[]]]++y.2.2)
  (fun y=>y.1≤a.size∧eE p ((ak a).drop i0)=y.2.1++eE p ((ak a).drop y.1)∧I y.2.1 y.2.2) (fun y=>a.size - y.1) (i0,[],H0) ⟨hi0,rfl,h0⟩ sB (MSub.refl _) ?_
 rintro ⟨i,pre,H1⟩ ⟨hi,hus,hI⟩
 dsimp only at hi hus hI ⊢
 by_cases hlt:i<a.size
 ·
  rw [bO hlt] at hus
  have hfc:=fun w=>hf (bat a i) w
  cases hp:p (bat a i)
  ·
   rw [hp] at hfc
   rw [uG hp,Ig] at hus
   repeat' (first|(apply ep;exact rfl;exact rfl;infer_instance;exact rfl;(intro w' _;exact hfc w'))|refine sT ?_|refine sI ?_|refine sQ ?_|refine sT2 ?_|refine sQ2 ?_|refine sN ?_|refine sNQ ?_|refine sD ?_|refine sM fun _=> ?_|(refine sC ?_ ?_<;>intro hb<;>try omega)|(refine sCQ ?_ ?_<;>intro hb<;>try omega)|fail)
   exact eT (.inr rfl) rfl (.refl _) ⟨H1,.inl (hus ▸ hI),MSub.swap⟩
  ·
   rw [hp] at hfc
   rw [uH hp] at hus
   repeat' (first|(apply ep;exact rfl;exact rfl;infer_instance;exact rfl;(intro w' _;exact hfc w'))|(apply gO (id:=3))|(apply AE;exact rfl;exact rfl;apply ud;exact rfl;exact rfl;exact hlt)|refine sT ?_|refine sI ?_|refine sQ ?_|refine sT2 ?_|refine sQ2 ?_|refine sN ?_|refine sNQ ?_|refine sD ?_|refine sM fun _=> ?_|(refine sC ?_ ?_<;>intro hb<;>try omega)|(refine sCQ ?_ ?_<;>intro hb<;>try omega)|fail)
   (with_reducible apply fF)
   ·
    exact rfl
   ·
    exact rfl
   ·
    exact rfl
   ·
    exact MSub.swapN
   ·
    exact fun w hm=>hy pre (bat a i) _ hus H1 [] hI w hm
   intro bb H2 hq
   cases bb
   ·
    repeat' (first|refine sT ?_|refine sI ?_|refine sT2 ?_|refine sM fun _=> ?_|(refine sC ?_ ?_<;>intro hb<;>try omega)|fail)
    exact eT eIO rfl (.refl _) ⟨H2,.inr ⟨_,hq⟩,by rw [Ig];exact .refl _⟩
   ·
    repeat' (first|refine sT ?_|refine sI ?_|refine sT2 ?_|refine sN ?_|refine sM fun _=> ?_|(refine sC ?_ ?_<;>intro hb<;>try omega)|fail)
    refine ⟨(i+1,_,H2),⟨hlt,hus.trans (by rw [List.append_assoc];rfl),hq⟩,(by dsimp only;omega),sB,?_⟩
    exact MSub.swapN'
 ·
  have e:i=a.size:=by omega
  subst e
  have hl:=au a
  rw [IG (i:=a.size) (by omega),show eE p []= [] from rfl,Ig] at hus
  repeat' (first|refine sT ?_|refine sI ?_|refine sQ ?_|refine sT2 ?_|refine sQ2 ?_|refine sN ?_|refine sNQ ?_|refine sD ?_|refine sM fun _=> ?_|(refine sC ?_ ?_<;>intro hb<;>try omega)|(refine sCQ ?_ ?_<;>intro hb<;>try omega)|fail)
  exact eT (.inr rfl) rfl (.refl _) ⟨H1,.inl (hus ▸ hI),MSub.swap⟩
theorem BK (a:ByteArray) (i0:Nat) (fis:FuncId) (w:World):
  aF Tryz.prog 299 [.string a,.int .i64 (i0:Int),.func (.func fis) #[] #[]] w fun v H=> ∃ g4 g3 g5,v= .func (.func 330) #[] #[.pointer (some ⟨g4,0,none⟩),.pointer (some ⟨g3,0,none⟩),.pointer (some ⟨g5,0,none⟩)]∧H= [.box g4 3 [.int .i64 (i0:Int)],.box g3 9 [.string a],.box g5 139 [.func (.func fis) #[] #[]]]:=by
 refine aq Tryz.func299 rfl Tryz.ntmps299 rfl ?_
 repeat' (first|refine sT ?_|refine sM fun _=> ?_|(refine sC ?_ ?_<;>intro hb<;>try omega)|fail)
 rename_i g3 g4 g5
 exact bI (.inl rfl) rfl rfl (H' := [.box g4 3 [.int .i64 (i0:Int)],.box g3 9 [.string a],.box g5 139 [.func (.func fis) #[] #[]]]) mS ⟨g4,g3,g5,rfl,rfl⟩
set_option maxHeartbeats 1000000 in
theorem mo (a:ByteArray) (ha:a.size≤1000000) (i0:Nat) (hi0:i0≤a.size) (fis:FuncId) [Callable Tryz.prog fis] (p:Int→Bool) (hf: ∀ c w,ay Tryz.prog fis [.int .u8 c] w (.bool (p c))) (w:World):
  ay Tryz.prog 260 [.string a,.int .i64 (i0:Int),.func (.func fis) #[] #[]] w (.int .i64 (aO p ((ak a).drop i0):Int)):=by
 refine ju Tryz.func260 rfl Tryz.ntmps260 (by rfl) ?_
 refine kT ?_
 repeat' (first|(apply av;exact rfl;exact rfl;(intro w' hm;exact BK a i0 fis w');(rintro v H' ⟨g4,g3,g5,rfl,rfl⟩))|refine sT ?_|refine sR ?_|refine sM fun _=> ?_|(refine sC ?_ ?_<;>intro hb<;>try omega)|(refine sCR ?_ ?_<;>intro hb<;>try omega)|fail)
 rename_i gn
 have hpl:=qm p ((ak a).drop i0)
 have hll:=au a
 have hrl:=cN p ((ak a).drop i0)
 rw [IY] at hrl
 rw [← hpl]
 refine nX (ps:= [12]) (us:=eE p ((ak a).drop i0)) (encs:=fun c=> [.int .u8 c]) (Hc:= [.box g4 3 [.int .i64 (i0:Int)],.box g3 9 [.string a],.box g5 139 [.func (.func fis) #[] #[]]]) (HU0:= [.box gn 3 [.int .i64 0]]) rfl (fun _=>rfl) rfl (zo a ha i0 hi0 fis p hf w g4 g3 g5)
  (fun pre HU=>HU= [.box gn 3 [.int .i64 (pre.length:Int)]]) (fun _=>False) MSub.swap rfl ?_ ?_ ?_
 ·
  rintro l pre u post hus _ rfl F F'
  have hlu:=congrArg List.length hus
  simp only [HV,IA] at hlu
  change WR _ _ _ l _ _ ((12,Value.int .u8 u)::_) (.box gn 3 [.int .i64 (pre.length:Int)]::F)
  repeat' (first|refine sT ?_|refine sR ?_|refine sM fun _=> ?_|(refine sC ?_ ?_<;>intro hb<;>try omega)|(refine sCR ?_ ?_<;>intro hb<;>try omega)|fail)
  refine pZ ⟨[.box gn 3 [.int .i64 (pre.length:Int)]],MSub.refl _,?_⟩
  change WR _ _ _ l _ _ _ (.box gn 3 [.int .i64 (pre.length:Int)]::F')
  repeat' (first|refine sT ?_|refine sR ?_|refine sN ?_|refine sM fun _=> ?_|(refine sC ?_ ?_<;>intro hb<;>try omega)|(refine sCR ?_ ?_<;>intro hb<;>try omega)|fail)
  refine sn [.box gn 3 [.int .i64 ((pre.length+1:Nat):Int)]] ?_ (by rw [HV];rfl)
  change MSub (_::F') _
  exact mS
 ·
  rintro D _ rfl
  change bi _ _ _ _ _ (eQ D:: .box gn 3 [.int .i64 ((eE p ((ak a).drop i0)).length:Int)]::_)
  repeat' (first|refine sT ?_|refine sR ?_|refine sM fun _=> ?_|(refine sC ?_ ?_<;>intro hb<;>try omega)|(refine sCR ?_ ?_<;>intro hb<;>try omega)|fail)
  refine pQ .hd ?_
  exact bI (.inl rfl) rfl rfl (MSub.nil _) rfl
 ·
  rintro D HU h
  exact h.elim
end Go.SL
namespace Go.SL
open Go
def pX (op:Int):Int:=
 if 7≤op∧op≤12 then 1 else if op=6 then 2 else if op=1∨op=2 then 3 else if op=3∨op=4 then 4 else if op=5 then 6 else if op=13 then 7 else 0
structure PS where
 l:List Tk
 out:List Nd
def hdT (fin:Int) (l:List Tk):Tk:=l.headD { kg with at_:=fin }
def PS.skip (p:PS):PS:=⟨p.l.tail,p.out⟩
def PS.put (p:PS) (n:Nd):PS:=⟨p.l,p.out++ [n]⟩
inductive Job where
 |level (k:Int)
 |loop (k:Int)
 |sign
 |pct
 |pctl
 |prim
 |args (fn:Int) (n:Nat)
abbrev Out:=Except (Int × Int) (Nat × PS)
def dw (kind op:Int):Nd:=⟨kind,bD,aZ,op,0,0⟩
def dq (r:Option Out) (k:Nat→PS→Option Out):Option Out:=
 match r with
 |some (.ok (n,p))=>k n p
 |r=>r
def sK (t:Tk):Nd:=
 ⟨1,if t.kind=1 then ⟨1,t.num,az⟩ else if t.kind=2 then ⟨3,0,t.text⟩ else if t.kind=3 then ⟨2,t.num,az⟩ else ⟨4,t.num,az⟩,aZ,0,0,0⟩
def cC (fin:Int) (name:Tk) (fn:Int) (n:Nat) (p:PS):Option Out:=
 let t:=hdT fin p.l
 if t.kind≠10 then some (.error (t.at_,4))
 else if (n:Int)<(dP fn).1∨(dP fn).2.1<(n:Int) then some (.error (name.at_,11))
 else if 46≤fn∧(p.out.getLast?.map fun x=>decide (x.kind=2∨x.kind=3))≠some true then some (.error (name.at_,4))
 else some (.ok (0,p.skip.put ⟨7,bD,aZ,0,fn,n⟩))
def aX (fin:Int):Nat→Job→PS→Option Out
 |0,_,_=>none
 |f+1,.level k,p=>if k=5 then aX fin f .sign p else dq (aX fin f (.level (k+1)) p) fun _ p=>aX fin f (.loop k) p
 |f+1,.loop k,p=>
  let t:=hdT fin p.l
  if t.kind=8∧pX t.num=k then dq (aX fin f (.level (k+1)) p.skip) fun _ p=>aX fin f (.loop k) (p.put (dw 6 t.num))
  else some (.ok (0,p))
 |f+1,.sign,p=>
  let t:=hdT fin p.l
  if t.kind=8∧t.num=2 then dq (aX fin f .sign p.skip) fun _ p=>some (.ok (0,p.put (dw 4 0)))
  else dq (aX fin f .pct p) fun _ p=>
   let u:=hdT fin p.l
   if u.kind=8∧u.num=5 then dq (aX fin f .sign p.skip) fun _ p=>some (.ok (0,p.put (dw 6 5)))
   else some (.ok (0,p))
 |f+1,.pct,p=>dq (aX fin f .prim p) fun _ p=>aX fin f .pctl p
 |f+1,.pctl,p=>
  let t:=hdT fin p.l
  if t.kind=8∧t.num=13 then aX fin f .pctl (p.skip.put (dw 5 0)) else some (.ok (0,p))
 |f+1,.prim,p=>
  let t:=hdT fin p.l
  if 1≤t.kind∧t.kind≤4 then some (.ok (0,p.skip.put (sK t)))
  else if t.kind=5 then some (.ok (0,p.skip.put ⟨2,bD,t.rect,0,0,0⟩))
  else if t.kind=9 then dq (aX fin f (.level 1) p.skip) fun _ p=>
   let u:=hdT fin p.l
   if u.kind≠10 then some (.error (u.at_,4)) else some (.ok (0,p.skip))
  else if t.kind=7 then
   if (bE t.text).2≠0 then some (.error (t.at_,10))
   else
    let u:=hdT fin p.skip.l
    if u.kind≠9 then some (.error (u.at_,4))
    else if (hdT fin p.skip.skip.l).kind=10 then cC fin t (bE t.text).1 0 p.skip.skip
    else dq (aX fin f (.args (bE t.text).1 0) p.skip.skip) fun n p=>cC fin t (bE t.text).1 n p
  else some (.error (t.at_,4))
 |f+1,.args fn n,p=>
  let t:=hdT fin p.l
  let go:=fun (p:PS)=>if (hdT fin p.l).kind=11 then aX fin f (.args fn (n+1)) p.skip else some (.ok (n+1,p))
  if t.kind≠6 then dq (aX fin f (.level 1) p) fun _ p=>go p
  else if (kW fn n).1=false∨(kW fn n).2≠0 then some (.error (t.at_,4))
  else go (p.skip.put ⟨3,bD,t.rect,0,0,0⟩)
end Go.SL
namespace Go.SL
open Go Go.Proofs
attribute [local irreducible] W WL WQ WG VOp thn blk aN aF FnIn
theorem mJ (b:ByteArray):jz b=(ak b).map (Value.int .u8):=by simp [jz,ak]
theorem ug {α β:Type} (f:α→α) (E:α→β) (xs:List α) (i:Nat) (h:i<xs.length):(((xs.take i).map f++xs.drop i).map E).set i (E (f xs[i]))=((xs.take (i+1)).map f++xs.drop (i+1)).map E:=by
 rw [← List.map_set,J4 _ _ (by simp;omega)]
 have e1:xs.drop i=xs[i]::xs.drop (i+1):=H6 h
 have e2:xs.take (i+1)=xs.take i++ [xs[i]]:=H7 h
 have e3:i - ((xs.take i).map f).length=0:=by simp;omega
 rw [e3,e1,e2]
 simp only [List.set_cons_zero,IQ,Iv,I5,Il,HW,HZ]
set_option maxRecDepth 10000 in
theorem xq (f:FuncId) [Callable Tryz.prog f] (g:Int→Int) (hf: ∀ c w,ay Tryz.prog f [.int .u8 c] w (.int .u8 (g c))) (a:ByteArray) (ha:a.size≤1000000) (w:World):
  aF Tryz.prog 209 [.string a,.func (.func f) #[] #[]] w fun v H=> ∃ gb cap,v= .slice (some ⟨gb,0,none⟩) a.size cap∧H= [.byt gb 5 a.size cap (((ak a).map g).map (Value.int .u8))]:=by
 refine aq Tryz.func209 rfl Tryz.ntmps209 rfl ?_
 repeat' (first|(apply kn;exact rfl;exact rfl;intro gb cap)|refine sT ?_|refine sM fun _=> ?_|(refine sC ?_ ?_<;>intro hb<;>try omega)|fail)
 refine fI (fun i:Nat=> [(5,.slice (some ⟨gb,0,none⟩) a.size cap),(10,.slice (some ⟨gb,0,none⟩) a.size cap),(11,.int .i64 (a.size:Int)),(12,.int .i64 (i:Int)),(1,.func (.func f) #[] #[])])
  (fun i=> [.byt gb 5 a.size cap ((((ak a).take i).map g++(ak a).drop i).map (Value.int .u8))]) (fun i=>i≤a.size) (fun i=>a.size - i) 0 (by omega) ?_ ?_ ?_
 ·
  exact sB
 ·
  rw [mJ];simp only [JA,I5,HZ,JS];exact mS
 ·
  intro i hi
  have hl:=au a
  by_cases hlt:i<a.size
  ·
   have hil:i<(ak a).length:=by omega
   have hget:((((ak a).take i).map g++(ak a).drop i).map (Value.int .u8))[0+i*1]? =some (.int .u8 (ak a)[i]):=by
    rw [II,show 0+i*1=i by omega,Jp (by simp;omega)]
    simp [JX (Nat.le_of_lt hil),JZ]
   repeat' (first|(apply aj;exact rfl;apply ai;exact rfl;exact rfl;exact hlt)|(apply aj;exact rfl;apply iE;exact rfl;exact .hd;exact hget)|(apply gN;exact rfl;exact rfl;infer_instance;exact rfl;(intro w hm;exact hf _ w))|(apply kU;exact rfl;exact rfl;exact .hd;exact rfl;(simp;omega))|(apply aj;exact rfl;apply qJ;exact rfl;exact rfl;(constructor<;>omega))|refine sT ?_|refine sM fun _=> ?_|(refine sC ?_ ?_<;>intro hb<;>try omega)|fail)
   refine ⟨i+1,by omega,by omega,?_,?_⟩
   ·
    exact sB
   ·
    rw [show 0+i*1=i by omega,ug g (Value.int .u8) (ak a) i hil]
    exact mS
  ·
   have e:i=a.size:=by omega
   subst e
   repeat' (first|refine sT ?_|refine sM fun _=> ?_|(refine sC ?_ ?_<;>intro hb<;>try omega)|fail)
   refine bI (.inl rfl) Tryz.results209 rfl (.refl _) ⟨gb,cap,rfl,?_⟩
   rw [Jg (by omega),IG (by omega),Ig]
def fN (c:Int):Int:=if c<32∨126<c then 0 else 32
set_option maxRecDepth 10000 in
theorem D0 (c:Int) (w:World):ay Tryz.prog 210 [.int .u8 c] w (.int .u8 (fN c)):=by
 refine aq Tryz.func210 rfl Tryz.ntmps210 rfl ?_
 repeat' (first|refine sT ?_|refine sM fun _=> ?_|(refine sC ?_ ?_<;>intro hb<;>try omega)|fail)
 all_goals ((refine rT1 ?_);((try simp only [← Int.not_lt] at*);simp_all [fN, -Int.not_lt, -Int.not_le]))
set_option maxRecDepth 10000 in
theorem zE (c:Int) (w:World):ay Tryz.prog 211 [.int .i32 c] w (.bool (decide (c=0))):=by
 refine aq Tryz.func211 rfl Tryz.ntmps211 rfl ?_
 repeat' (first|refine sT ?_|refine sM fun _=> ?_|(refine sC ?_ ?_<;>intro hb<;>try omega)|fail)
 all_goals ((refine rT1 ?_);rfl)
def fA (q:Int→Bool) (l:List Int):Int:=match l.findIdx? q with
 |some i=>(i:Int)
 |none=> -1
theorem vk {q:Int→Bool} {l:List Int} {i:Nat} (h:i<l.length) (hq:q l[i]=true) (hno: ∀ j (h:j<l.length),j<i→q l[j]=false):fA q l=(i:Int):=by
 have:l.findIdx? q=some i:=by
  rw [J0]
  exact ⟨h,hq,fun j hj=>by simpa using hno j (by omega) hj⟩
 simp [fA,this]
theorem s6 {q:Int→Bool} {l:List Int} (hno: ∀ j (h:j<l.length),q l[j]=false):fA q l= -1:=by
 have:l.findIdx? q=none:=by
  rw [Kh]
  intro x hx
  obtain ⟨j,hj,rfl⟩:=JU hx
  exact hno j hj
 simp [fA,this]
set_option maxRecDepth 10000 in
theorem sY (f:FuncId) [Callable Tryz.prog f] (q:Int→Bool) (hf: ∀ c w,ay Tryz.prog f [.int .i32 c] w (.bool (q c))) (a:ByteArray) (ha:a.size≤1000000) (hasc: ∀ i (h:i<a.size),(a[i]'h).toNat<128) (w:World):
  ay Tryz.prog 256 [.string a,.func (.func f) #[] #[],.bool true] w (.int .i64 (fA q (ak a))):=by
 refine aq Tryz.func256 rfl Tryz.ntmps256 rfl ?_
 have hl:=au a
 repeat' (first|(apply rJ;exact rfl;exact rfl;intro gi)|refine sT ?_|refine sM fun _=> ?_|(refine sC ?_ ?_<;>intro hb<;>try omega)|fail)
 refine fI (fun i:Nat=> [(0,.string a),(1,.func (.func f) #[] #[]),(2,.bool true),(10,.pointer (some ⟨gi,0,none⟩))])
  (fun i=> [.obj gi (.stringIter a i)]) (fun i=>i≤a.size∧ ∀ j (h:j<(ak a).length),j<i→q (ak a)[j]=false) (fun i=>a.size - i) 0 ⟨by omega,fun j _ h=>by omega⟩ ?_ ?_ ?_
 ·
  exact sB
 ·
  exact mS
 ·
  rintro i ⟨hi,hno⟩
  repeat' (first|(apply tO;exact rfl;exact rfl;exact .hd;exact hasc i;all_goals intro hb)|(apply gN;exact rfl;exact rfl;infer_instance;exact rfl;(intro w hm;exact hf _ w))|refine sT ?_|refine sM fun _=> ?_|(refine sC ?_ ?_<;>intro hb<;>try omega)|fail)
  all_goals (try simp only [beq_true] at*)
  ·
   rename_i hlt
   have hq:=hb
   refine bI (.inl rfl) Tryz.results256 rfl (MSub.nil _) ?_
   have h1:=lA a i hlt
   rw [vk (i:=i) (by omega) (by rw [h1];exact hq) hno]
  ·
   rename_i hlt
   have hq:=hb
   refine ⟨i+1,⟨by omega,fun j hj hji=> ?_⟩,by omega,?_,?_⟩
   ·
    by_cases e:j=i
    ·
     subst e
     rw [lA a j hlt];exact hq
    ·
     exact hno j hj (by omega)
   ·
    exact sB
   ·
    exact mS
  ·
   have hge:=hb
   refine bI (.inl rfl) Tryz.results256 rfl (MSub.nil _) ?_
   rw [s6 fun j hj=>hno j hj (by omega)]
set_option maxRecDepth 10000 in
theorem tC (f:FuncId) [Callable Tryz.prog f] (q:Int→Bool) (hf: ∀ c w,ay Tryz.prog f [.int .i32 c] w (.bool (q c))) (a:ByteArray) (ha:a.size≤1000000) (hasc: ∀ i (h:i<a.size),(a[i]'h).toNat<128) (w:World):
  ay Tryz.prog 208 [.string a,.func (.func f) #[] #[]] w (.int .i64 (fA q (ak a))):=by
 refine aq Tryz.func208 rfl Tryz.ntmps208 rfl ?_
 repeat' (first|(apply ah;exact rfl;exact rfl;(intro w hm;exact sY f q hf a ha hasc w))|refine sT ?_|refine sM fun _=> ?_|(refine sC ?_ ?_<;>intro hb<;>try omega)|fail)
 all_goals ((refine rT1 ?_);rfl)
def fM (a:ByteArray):ByteArray:=⟨(((ak a).map fN).map fun n=>UInt8.ofNat n.toNat).toArray⟩
theorem jn (a:ByteArray):(fM a).size=a.size:=by
 have:(fM a).size=((ak a).map fN).length:=by simp [fM,ByteArray.size]
 rw [this];simp [au]
theorem mV (a:ByteArray):ak (fM a)=(ak a).map fN:=by
 simp only [ak,fM,JJ]
 congr 1
 funext c
 simp only [Function.comp,fN]
 split<;>simp
theorem vh (q:Int→Bool) (l:List Int):decide (fA q l<0)=l.all fun c=> !q c:=by
 unfold fA
 cases h:l.findIdx? q with
 |none=>
  rw [Kh] at h
  rw [I4]
  simpa using h
 |some i=>
  rw [J0] at h
  obtain ⟨h1,h2,_⟩:=h
  rw [I4]
  simp only [decide_eq_true_eq,Jv]
  constructor
  ·
   intro h;omega
  ·
   intro h
   have:=h _ (I7 h1)
   rw [h2] at this
   cases this
theorem uE (a:ByteArray):decide (fA (fun c=>decide (c=0)) (ak (fM a))<0)=l9 a:=by
 rw [vh,mV]
 simp only [ak,List.all_map,l9]
 congr 1
 funext c
 have e:(decide (fN (c.toNat:Int)=0))= !(decide (32≤c.toNat) && decide (c.toNat≤126)):=by
  rw [I4]
  by_cases h:(c.toNat:Int)<32∨126<(c.toNat:Int)
  ·
   simp only [fN,if_pos h];simp;omega
  ·
   simp only [fN,if_neg h];simp;omega
 simp only [Function.comp,e,Bool.not_not]
theorem sF (a:ByteArray): ∀ i (h:i<(fM a).size),((fM a)[i]'h).toNat<128:=by
 intro i h
 have h1:=lA (fM a) i h
 have h2:((fM a)[i].toNat:Int)=fN ((ak a)[i]'(by rw [au,← jn];exact h)):=by
  rw [← h1]
  simp [mV]
 have h3: ∀ x,fN x=0∨fN x=32:=fun x=>by unfold fN;split<;>simp
 rcases h3 ((ak a)[i]'(by rw [au,← jn];exact h)) with h4|h4<;>omega
set_option maxRecDepth 10000 in
theorem ll (a:ByteArray) (ha:a.size≤1000000) (w:World):ay Tryz.prog 162 [.string a] w (.bool (l9 a)):=by
 refine aq Tryz.func162 rfl Tryz.ntmps162 rfl ?_
 repeat' (first|((with_reducible apply av (R:=fun v H=> ∃ gb cap,v= .slice (some ⟨gb,0,none⟩) a.size cap∧H= [.byt gb 5 a.size cap (((ak a).map fN).map (Value.int .u8))]));exact rfl;exact rfl;(intro w hm;exact xq 210 fN D0 a ha w);(rintro v H' ⟨gb,cap,rfl,rfl⟩))|(apply aj;exact rfl;apply qD;exact rfl;exact .hd;simp [au])|(apply ah;exact rfl;exact rfl;(intro w hm;exact tC 211 (fun c=>decide (c=0)) zE (fM a) (by rw [jn];exact ha) (sF a) w))|refine sT ?_|refine sM fun _=> ?_|(refine sC ?_ ?_<;>intro hb<;>try omega)|fail)
 all_goals ((refine rT1 ?_);rw [← uE])
set_option maxRecDepth 10000 in
theorem u7 (a:ByteArray) (w:World):ay Tryz.prog 134 [.string a] w (.int .i64 (mC a)):=by
 refine aq Tryz.func134 rfl Tryz.ntmps134 rfl ?_
 repeat' (first|(apply ah;exact rfl;exact rfl;(intro w hm;exact ll a (by omega) w))|refine sT ?_|refine sM fun _=> ?_|(refine sC ?_ ?_<;>intro hb<;>try omega)|fail)
 ·
  (refine rT1 ?_)
  have:decide (256<a.size)=true:=by simp;omega
  simp [mC,this]
 all_goals
  (refine rT1 ?_)
  have h256:decide (256<a.size)=false:=by simp;omega
  simp only [mC,h256,hb,cond_true,cond_false]
set_option maxRecDepth 10000 in
theorem wu (v:Vl) (w:World):ay Tryz.prog 257 [.agg (cL v).toArray] w (.int .i64 (ww v)):=by
 refine aq Tryz.func257 rfl Tryz.ntmps257 rfl ?_
 repeat' (first|(apply ah;exact rfl;exact rfl;(intro w hm;exact u7 v.text w))|(apply aj;exact rfl;exact Bl (b:=⟨0,0,az⟩) rfl rfl)|refine sT ?_|refine sM fun _=> ?_|(refine sC ?_ ?_<;>intro hb<;>try omega)|fail)
 all_goals ((refine rT1 ?_);((try simp only [← Int.not_lt] at*);simp_all [ww,A0,eqV,az, -Int.not_lt, -Int.not_le,← Int.not_lt]);try (by_cases h:v.num=0<;>simp_all))
set_option maxHeartbeats 1000000 in
theorem rq (n:Nd) (w:World):ay Tryz.prog 305 [.agg (dD n).toArray] w (.int .i64 (dZ n)):=by
 refine aq Tryz.func305 rfl Tryz.ntmps305 rfl ?_
 repeat' (first|(apply ah;exact rfl;exact rfl;(intro w hm;exact wu n.v w))|(apply ah;exact rfl;exact rfl;(intro w hm;exact f9 n.rect w))|(apply ah;exact rfl;exact rfl;(intro w hm;exact p6 n.fn w))|(apply rR (T:=293) (fun D=> [.int .u8 n.kind,.int .u8 0,.int .i64 0,.string az,.int .i64 0,.int .i64 0,.int .i64 0,.int .i64 0,.int .i64 0,.int .u8 (bif D 5 then n.fn else 0),.int .i64 (bif D 7 then n.n else 0)]) (xs' := [.int .u8 n.kind,.int .u8 0,.int .i64 0,.string az,.int .i64 0,.int .i64 0,.int .i64 0,.int .i64 0,.int .i64 0,.int .u8 n.fn,.int .i64 n.n]);kernel_rfl;kernel_rfl;(first|exact .hd|exact .tl .hd);exact rfl;(intro D hD;simp only [hD 5 (by decide),hD 7 (by decide),cond_true]))|(apply aj;exact rfl;(first|(apply ou (b:=⟨n.kind,n.v,aZ,0,0,0⟩);exact rfl;exact rfl)|(apply ou (b:=⟨n.kind,bD,n.rect,0,0,0⟩);exact rfl;exact rfl)|(apply ou (b:=⟨n.kind,bD,aZ,0,0,0⟩);exact rfl;exact rfl)|(apply ou (b:=⟨n.kind,bD,aZ,n.op,0,0⟩);exact rfl;exact rfl)|(apply ou (b:=⟨n.kind,bD,aZ,0,n.fn,n.n⟩);exact rfl;exact rfl)))|refine sT ?_|refine sG ?_|refine sM fun _=> ?_|(refine sC ?_ ?_<;>intro hb<;>try omega)|fail)
 all_goals ((refine rT1 ?_);((try simp only [← Int.not_lt] at*);simp_all [dZ,pw,bG,E8,G5, -Int.not_lt, -Int.not_le,← Int.not_lt]))
end Go.SL
namespace Go.SL
open Go Go.Proofs
attribute [local irreducible] W WL WQ WG WA VOp thn blk bo aN aF FnIn WLI
def qK (n:Nd) (i:Nat) (r:List Nd):Us:=match r with
 |m::_=>if m.kind=7∧46≤m.fn then ⟨n.rect,((i+1:Nat):Int),m.fn⟩ else ⟨n.rect, -1,0⟩
 | []=>⟨n.rect, -1,0⟩
def dA:List Nd→Nat→List Us
 | [],_=> []
 |n::r,i=>bif lj n then qK n i r::dA r (i+1) else dA r (i+1)
def cQ (L:List Nd):List Us:=dA L 0
set_option maxHeartbeats 4000000 in
theorem Bn (L:List Nd) (tv:Value) (w0:World) (ht:Reads w0 tv L.length (L.flatMap dD)) (hlen:L.length≤1000000) (g:Nat):
  EN Tryz.prog 290 [.pointer (some ⟨g,0,none⟩)] w0 [.box g 128 [tv]] (cQ L) (fun u=> [.agg (dh u).toArray]):=by
 obtain ⟨Al,cl,rfl,hl1,hl2,hl3⟩:=ht
 intro l I J H0 hy h0
 refine FnIn.msub (H' := .box g 128 [.slice Al L.length cl]::H0) ?_ (MSub.rot (MSub.refl _))
 refine fc Tryz.func290 rfl Tryz.ntmps290 rfl ?_
 repeat' (first|refine sT ?_|refine sM fun _=> ?_|(refine sC ?_ ?_<;>intro hb<;>try omega)|fail)
 refine fI (fun y:Nat × List Us × List Blk=> [(0,.func (.yield l) #[] #[]),(1,.pointer (some ⟨g,0,none⟩)),(6,.slice Al L.length cl),(7,.int .i64 (L.length:Int)),(8,.int .i64 (y.1:Int))])
  (fun y=> .box g 128 [.slice Al L.length cl]::y.2.2)
  (fun y=>y.1≤L.length∧cQ L=y.2.1++dA (L.drop y.1) y.1∧I y.2.1 y.2.2) (fun y=>L.length - y.1) (0,[],H0) ⟨by omega,rfl,h0⟩ ?_ ?_ ?_
 ·
  exact sB
 ·
  exact MSub.refl _
 rintro ⟨i,pre,H1⟩ ⟨hi,hus,hI⟩
 dsimp only at hi hus hI ⊢
 by_cases hlt:i<L.length
 ·
  obtain ⟨gl,ol,rfl,hrl⟩:=hl3 (by omega)
  have he:=hrl.elem fU i hlt
  rw [H6 hlt,dA] at hus
  generalize hn:L[i]=n at hus he
  have hran:=fun w=>zl n w
  have next: ∀ (us:List Us) (HU:List Blk),cQ L=us++dA (L.drop (i+1)) (i+1)→I us HU→i+1≤L.length∧cQ L=us++dA (L.drop (i+1)) (i+1)∧I us HU:=fun us HU h1 h2=>⟨hlt,h1,h2⟩
  generalize lj n=q at hus hran
  cases q
  ·
   rw [cond_false] at hus
   repeat' (first|(apply ah;exact rfl;exact rfl;(intro w hm;exact hran w))|refine sT ?_|refine sN ?_|refine sO ?_|refine sM fun _=> ?_|(refine sC ?_ ?_<;>intro hb<;>try omega)|fail)
   refine ⟨(i+1,pre,H1),next _ _ hus hI,(by dsimp only;omega),?_,?_⟩
   ·
    exact sB
   ·
    exact mS
  rw [cond_true] at hus
  by_cases hn1:i+1<L.length
  ·
   have he1:=hrl.elem fU (i+1) hn1
   have hd:=H6 hn1
   generalize L[i+1]=m at he1 hd
   by_cases hrel:m.kind=7∧46≤m.fn
   ·
    have hu:qK n i (L.drop (i+1))=⟨n.rect,((i+1:Nat):Int),m.fn⟩:=by rw [hd];simp only [qK,if_pos hrel]
    rw [hu] at hus
    repeat' (first|(apply ah;exact rfl;exact rfl;(intro w hm;exact hran w))|(apply gO (id:=7))|((with_reducible apply rR (id:=6) (T:=159) (fun D=> [.int .i64 n.rect.c1,.int .i64 n.rect.r1,.int .i64 n.rect.c2,.int .i64 n.rect.r2,.int .i64 (bif D 9 then ((i+1:Nat):Int) else -1),.int .u8 (bif D 11 then m.fn else 0)]) (xs' := [.int .i64 n.rect.c1,.int .i64 n.rect.r1,.int .i64 n.rect.c2,.int .i64 n.rect.r2,.int .i64 ((i+1:Nat):Int),.int .u8 m.fn]));kernel_rfl;kernel_rfl;exact .hd;exact rfl;(intro D hD;simp only [hD 9 (by decide),hD 11 (by decide),cond_true]))|(apply wq;exact rfl;(intro D ht;first|(apply jF;exact rfl;exact rfl;(simp only [maxLen] at*;omega))|(apply ai;exact rfl;exact rfl;(first|assumption|omega))|(apply iD;exact rfl;assumption;exact rfl));exact fun _=>rfl)|refine sT ?_|refine sI ?_|refine sN ?_|refine sO ?_|refine sG ?_|refine sM fun _=> ?_|(refine sC ?_ ?_<;>intro hb<;>try omega)|fail)
    (with_reducible apply fF)
    ·
     exact rfl
    ·
     exact rfl
    ·
     exact rfl
    ·
     exact MSub.app3
    ·
     exact fun w hm=>hy pre ⟨n.rect,((i+1:Nat):Int),m.fn⟩ _ hus H1 _ hI w hm
    intro bb H2 hq
    cases bb
    ·
     repeat' (first|refine sT ?_|refine sI ?_|refine sM fun _=> ?_|(refine sC ?_ ?_<;>intro hb<;>try omega)|fail)
     exact eT eIO Tryz.results290 (H' :=H2++ [.box g 128 [.slice (some ⟨gl,ol,none⟩) L.length cl]]) MSub.app3r ⟨H2,.inr ⟨_,hq⟩,MSub.refl _⟩
    ·
     repeat' (first|refine sT ?_|refine sI ?_|refine sN ?_|refine sM fun _=> ?_|(refine sC ?_ ?_<;>intro hb<;>try omega)|fail)
     refine ⟨(i+1,_,H2),next _ _ (hus.trans (by rw [List.append_assoc];rfl)) hq,(by dsimp only;omega),?_,?_⟩
     ·
      exact sB
     ·
      exact MSub.app3'
   ·
    have hu:qK n i (L.drop (i+1))=⟨n.rect, -1,0⟩:=by rw [hd];simp only [qK,if_neg hrel]
    rw [hu] at hus
    repeat' (first|(apply ah;exact rfl;exact rfl;(intro w hm;exact hran w))|(apply gO (id:=7))|refine sT ?_|refine sI ?_|refine sN ?_|refine sO ?_|refine sM fun _=> ?_|(refine sC ?_ ?_<;>intro hb<;>try omega)|fail)
    all_goals
     (with_reducible apply fF)
     ·
      exact rfl
     ·
      exact rfl
     ·
      exact rfl
     ·
      exact MSub.app3
     ·
      exact fun w hm=>hy pre ⟨n.rect, -1,0⟩ _ hus H1 _ hI w hm
     intro bb H2 hq
     cases bb
     ·
      repeat' (first|refine sT ?_|refine sI ?_|refine sM fun _=> ?_|(refine sC ?_ ?_<;>intro hb<;>try omega)|fail)
      exact eT eIO Tryz.results290 (H' :=H2++ [.box g 128 [.slice (some ⟨gl,ol,none⟩) L.length cl]]) MSub.app3r ⟨H2,.inr ⟨_,hq⟩,MSub.refl _⟩
     ·
      repeat' (first|refine sT ?_|refine sI ?_|refine sN ?_|refine sM fun _=> ?_|(refine sC ?_ ?_<;>intro hb<;>try omega)|fail)
      refine ⟨(i+1,_,H2),next _ _ (hus.trans (by rw [List.append_assoc];rfl)) hq,(by dsimp only;omega),?_,?_⟩
      ·
       exact sB
      ·
       exact MSub.app3'
  ·
   have hu:qK n i (L.drop (i+1))=⟨n.rect, -1,0⟩:=by rw [IG (by omega)];rfl
   rw [hu] at hus
   repeat' (first|(apply ah;exact rfl;exact rfl;(intro w hm;exact hran w))|(apply gO (id:=7))|refine sT ?_|refine sI ?_|refine sN ?_|refine sO ?_|refine sM fun _=> ?_|(refine sC ?_ ?_<;>intro hb<;>try omega)|fail)
   (with_reducible apply fF)
   ·
    exact rfl
   ·
    exact rfl
   ·
    exact rfl
   ·
    exact MSub.app3
   ·
    exact fun w hm=>hy pre ⟨n.rect, -1,0⟩ _ hus H1 _ hI w hm
   intro bb H2 hq
   cases bb
   ·
    repeat' (first|refine sT ?_|refine sI ?_|refine sM fun _=> ?_|(refine sC ?_ ?_<;>intro hb<;>try omega)|fail)
    exact eT eIO Tryz.results290 (H' :=H2++ [.box g 128 [.slice (some ⟨gl,ol,none⟩) L.length cl]]) MSub.app3r ⟨H2,.inr ⟨_,hq⟩,MSub.refl _⟩
   ·
    repeat' (first|refine sT ?_|refine sI ?_|refine sN ?_|refine sM fun _=> ?_|(refine sC ?_ ?_<;>intro hb<;>try omega)|fail)
    refine ⟨(i+1,_,H2),next _ _ (hus.trans (by rw [List.append_assoc];rfl)) hq,(by dsimp only;omega),?_,?_⟩
    ·
     exact sB
    ·
     exact MSub.app3'
 ·
  have e:i=L.length:=by omega
  subst e
  rw [I3,dA,Ig] at hus
  repeat' (first|refine sT ?_|refine sM fun _=> ?_|(refine sC ?_ ?_<;>intro hb<;>try omega)|fail)
  refine eT (.inr rfl) Tryz.results290 (H' := .box g 128 [.slice Al L.length cl]::H1) mS ⟨H1,.inl (hus ▸ hI),?_⟩
  exact MSub.snoc .hd (MSub.refl _)
end Go.SL
namespace Go.SL
open Go Go.Proofs
attribute [local irreducible] W WL WQ WG WA VOp thn blk bo aN aF FnIn
structure Pc where
 m0:Int
 m1:Int
 v0:Int
 v1:Int
 ok:Bool
def ru (p:Pc):List Value:= [.int .i64 p.m0,.int .i64 p.m1,.int .i64 p.v0,.int .i64 p.v1,.bool p.ok]
def gh (p:Pc) (c:Int):Pc:=⟨p.m0+1,p.m1,min (26*p.v0+(c - 65)+1) 1025,p.v1,p.ok && decide (p.m1=0)⟩
def dC (p:Pc) (c:Int):Pc:=⟨p.m0,p.m1+1,p.v0,min (10*p.v1+(c - 48)) 1025,p.ok && (decide (c≠48)||decide (0<p.m1))⟩
structure Pc.Fit (p:Pc) (n:Int):Prop where
 m0:0≤p.m0∧p.m0≤n
 m1:0≤p.m1∧p.m1≤n
 v0:0≤p.v0∧p.v0≤1025
 v1:0≤p.v1∧p.v1≤1025
theorem B6 (a b:Int):(if b<a then b else a)=min a b:=by omega
theorem Aa (p:Pc) (c:Int) (n:Int) (hf:p.Fit n) (hn:n≤1000000) (h1:65≤c) (h2:c≤90) (g:Nat) (R:List Blk) (w0:World):
  FnIn Tryz.prog 331 [.pointer (some ⟨g,0,none⟩),.int .u8 c,.bool true] w0 (.box g 350 (ru p)::R) fun v H=>v= .tuple #[]∧H= .box g 350 (ru (gh p c))::R:=by
 refine fc Tryz.func331 rfl Tryz.ntmps331 rfl ?_
 obtain ⟨a1,a2⟩:=hf.m0
 obtain ⟨a3,a4⟩:=hf.m1
 obtain ⟨a5,a6⟩:=hf.v0
 obtain ⟨a7,a8⟩:=hf.v1
 have hwc:IntKind.u8.wrap (c - 65)=c - 65:=wrap_u8 (by omega) (by omega)
 have hwc2:IntKind.i64.wrap (c - 65)=c - 65:=I64.wrap ⟨by omega,by omega⟩
 repeat' (first|(refine lX (id:=1) (ι:=Bool) (fun _=> [(0,.pointer (some ⟨g,0,none⟩)),(1,.int .u8 c)]) (fun b=> .box g 350 [.int .i64 p.m0,.int .i64 p.m1,.int .i64 p.v0,.int .i64 p.v1,.bool b]::R) (fun b=>b=(p.ok && decide (p.m1=0))) ?_ ?_)|refine sT ?_|refine sT2 ?_|refine sG2 ?_|refine sJ ?_|refine sJG ?_|refine sG ?_|refine sM fun _=> ?_|(refine sC ?_ ?_<;>intro hb<;>try omega)|exact cT|fail)
 ·
  (apply cH;rotate_left 1;exact sB;exact mS)
  rw [hb];rfl
 ·
  (apply cH;rotate_left 1;exact sB;exact mS)
  rw [hb];rfl
 rintro _ rfl
 repeat' (first|(refine jD (id:=2) 9 (.box g 350 [.int .i64 (p.m0+1),.int .i64 p.m1,.int .i64 p.v0,.int .i64 p.v1,.bool (p.ok && decide (p.m1=0))]::R) (by kernel_rfl) (by kernel_rfl) rfl ?_)|(refine jD (id:=3) 16 (.box g 350 [.int .i64 (p.m0+1),.int .i64 p.m1,.int .i64 (min (26*p.v0+(c - 65)+1) 1025),.int .i64 p.v1,.bool (p.ok && decide (p.m1=0))]::R) (by kernel_rfl) (by kernel_rfl) rfl ?_)|(apply tS (f:=60);exact rfl;decide+kernel;exact rfl;apply gP;exact rfl;exact rfl;exact hwc)|(apply tS (f:=60);exact rfl;decide+kernel;exact rfl;apply cI;exact rfl;exact hwc2)|(apply mL;exact rfl;exact rfl;exact .hd;exact rfl;exact rfl;(try rw [B6]);exact .refl _)|refine sT ?_|refine sT2 ?_|refine sG2 ?_|refine sJ ?_|refine sJG ?_|refine sG ?_|refine sM fun _=> ?_|(refine sC ?_ ?_<;>intro hb<;>try omega)|exact cT|fail)
 exact eT (.inl rfl) rfl (.refl _) ⟨rfl,rfl⟩
theorem Ad (p:Pc) (c:Int) (n:Int) (hf:p.Fit n) (hn:n≤1000000) (h1:48≤c) (h2:c≤57) (g:Nat) (R:List Blk) (w0:World):
  FnIn Tryz.prog 331 [.pointer (some ⟨g,0,none⟩),.int .u8 c,.bool false] w0 (.box g 350 (ru p)::R) fun v H=>v= .tuple #[]∧H= .box g 350 (ru (dC p c))::R:=by
 refine fc Tryz.func331 rfl Tryz.ntmps331 rfl ?_
 obtain ⟨a1,a2⟩:=hf.m0
 obtain ⟨a3,a4⟩:=hf.m1
 obtain ⟨a5,a6⟩:=hf.v0
 obtain ⟨a7,a8⟩:=hf.v1
 have hwc:IntKind.u8.wrap (c - 48)=c - 48:=wrap_u8 (by omega) (by omega)
 have hwc2:IntKind.i64.wrap (c - 48)=c - 48:=I64.wrap ⟨by omega,by omega⟩
 repeat' (first|(refine lX (id:=4) (ι:=Bool) (fun _=> [(0,.pointer (some ⟨g,0,none⟩)),(1,.int .u8 c)]) (fun b=> .box g 350 [.int .i64 p.m0,.int .i64 p.m1,.int .i64 p.v0,.int .i64 p.v1,.bool b]::R) (fun b=>b=(p.ok && (decide (c≠48)||decide (0<p.m1)))) ?_ ?_)|refine sT ?_|refine sT2 ?_|refine sG2 ?_|refine sJ ?_|refine sJG ?_|refine sG ?_|refine sM fun _=> ?_|(refine sC ?_ ?_<;>intro hb<;>try omega)|exact cT|fail)
 ·
  (apply cH;rotate_left 1;exact sB;exact mS)
  rename_i h3
  rw [h3,decide_eq_true hb];rfl
 ·
  (apply cH;rotate_left 1;exact sB;exact mS)
  rename_i h3
  rw [h3,decide_eq_false hb];rfl
 ·
  (apply cH;rotate_left 1;exact sB;exact mS)
  rw [hb];rfl
 rintro _ rfl
 repeat' (first|(refine jD (id:=5) 9 (.box g 350 [.int .i64 p.m0,.int .i64 (p.m1+1),.int .i64 p.v0,.int .i64 p.v1,.bool (p.ok && (decide (c≠48)||decide (0<p.m1)))]::R) (by kernel_rfl) (by kernel_rfl) rfl ?_)|(refine jD (id:=6) 15 (.box g 350 [.int .i64 p.m0,.int .i64 (p.m1+1),.int .i64 p.v0,.int .i64 (min (10*p.v1+(c - 48)) 1025),.bool (p.ok && (decide (c≠48)||decide (0<p.m1)))]::R) (by kernel_rfl) (by kernel_rfl) rfl ?_)|(apply tS (f:=60);exact rfl;decide+kernel;exact rfl;apply gP;exact rfl;exact rfl;exact hwc)|(apply tS (f:=60);exact rfl;decide+kernel;exact rfl;apply cI;exact rfl;exact hwc2)|(apply mL;exact rfl;exact rfl;exact .hd;exact rfl;exact rfl;(try rw [B6]);exact .refl _)|refine sT ?_|refine sT2 ?_|refine sG2 ?_|refine sJ ?_|refine sJG ?_|refine sG ?_|refine sM fun _=> ?_|(refine sC ?_ ?_<;>intro hb<;>try omega)|exact cT|fail)
 exact eT (.inr rfl) rfl (.refl _) ⟨rfl,rfl⟩
def aY (p:Pc) (c:Int):Pc:=if 65≤upC c∧upC c≤90 then gh p (upC c) else if 48≤c∧c≤57 then dC p c else ⟨p.m0,p.m1,p.v0,p.v1,false⟩
def pc0:Pc:=⟨0,0,0,0,true⟩
theorem wT {p:Pc} {c:Int} (h1:97≤c) (h2:c≤122):aY p c=gh p (c - 32):=by
 have e:upC c=c - 32:=by rw [upC,if_pos ⟨h1,h2⟩]
 rw [aY,e,if_pos (by omega)]
theorem zp {p:Pc} {c:Int} (h1:65≤c) (h2:c≤90):aY p c=gh p c:=by
 have e:upC c=c:=by rw [upC,if_neg (by omega)]
 rw [aY,e,if_pos (by omega)]
theorem x6 {c:Int} (h: ¬ (97≤c∧c≤122)):upC c=c:=by rw [upC,if_neg h]
theorem oU {p:Pc} {c:Int} (h1:48≤c) (h2:c≤57):aY p c=dC p c:=by
 rw [aY,x6 (by omega),if_neg (by omega),if_pos ⟨h1,h2⟩]
theorem qX {p:Pc} {c:Int} (h: ¬ (97≤c∧c≤122)) (h2: ¬ (65≤c∧c≤90)) (h3: ¬ (48≤c∧c≤57)):aY p c=⟨p.m0,p.m1,p.v0,p.v1,false⟩:=by
 rw [aY,x6 h,if_neg h2,if_neg h3]
theorem wU {p:Pc} {n:Int} (h:p.Fit n) (c:Int):(aY p c).Fit (n+1):=by
 obtain ⟨⟨a1,a2⟩,⟨a3,a4⟩,⟨a5,a6⟩,⟨a7,a8⟩⟩:=h
 unfold aY
 split
 ·
  exact ⟨⟨by simp only [gh];omega,by simp only [gh];omega⟩,⟨a3,by simp only [gh];omega⟩,⟨by simp only [gh];omega,by simp only [gh];omega⟩,⟨a7,a8⟩⟩
 ·
  split
  ·
   exact ⟨⟨a1,by simp only [dC];omega⟩,⟨by simp only [dC];omega,by simp only [dC];omega⟩,⟨a5,a6⟩,⟨by simp only [dC];omega,by simp only [dC];omega⟩⟩
  ·
   exact ⟨⟨a1,by dsimp only;omega⟩,⟨a3,by dsimp only;omega⟩,⟨a5,a6⟩,⟨a7,a8⟩⟩
def nC (l:List Int):Pc:=l.foldl aY pc0
theorem vQ (a:ByteArray) (ha:a.size≤100000) (w:World):ay Tryz.prog 301 [.string a] w (.agg (ru (nC (ak a))).toArray):=by
 refine aq Tryz.func301 rfl Tryz.ntmps301 rfl ?_
 have hl:=au a
 repeat' (first|refine sT ?_|refine sT2 ?_|refine sM fun _=> ?_|(refine sC ?_ ?_<;>intro hb<;>try omega)|exact cT|fail)
 rename_i g2 g3
 refine ax [0,2,3,9] rfl (fun x:Nat × Pc=> [(10,.int .i64 (x.1:Int))]) (fun x=> [.box g3 350 (ru x.2),.box g2 350 [.int .i64 0,.int .i64 0,.int .i64 0,.int .i64 0,.bool false]]) (fun x=>x.1≤a.size∧x.2.Fit x.1∧nC (ak a)=((ak a).drop x.1).foldl aY x.2) (fun x=>a.size - x.1) (0,pc0) ⟨H5 _,⟨⟨by decide,by decide⟩,⟨by decide,by decide⟩,⟨by decide,by decide⟩,⟨by decide,by decide⟩⟩,rfl⟩ sB mS ?_
 rintro ⟨i,p⟩ ⟨hi,hf,hr⟩
 dsimp only at hi hf hr ⊢
 by_cases hlt:i<a.size
 ·
  rw [bO hlt,JI] at hr
  have hc:=Ge a i
  generalize hcd:bat a i=c at hr hc
  have hf2:=wU hf c
  repeat' (first|(apply aj (d:=15);exact rfl;exact hcd ▸ ud rfl rfl hlt)|(apply aj (d:=38);exact rfl;apply gP;exact rfl;exact rfl;exact wrap_u8 (by omega) (by omega))|(apply aB (d:=41);exact rfl;exact rfl;(first|exact FnIn.msub (Aa p _ _ hf (by omega) (by omega) (by omega) _ _ _) (.pick pK (.refl _))|exact FnIn.msub (Ad p _ _ hf (by omega) (by omega) (by omega) _ _ _) (.pick pK (.refl _)));rintro _ _ ⟨rfl,rfl⟩)|refine sT ?_|refine sT2 ?_|refine sN ?_|refine sM fun _=> ?_|(refine sC ?_ ?_<;>intro hb<;>try omega)|exact cT|fail)
  all_goals
   refine ⟨(i+1,aY p c),⟨hlt,by have:=hf2;simpa using this,hr⟩,(by dsimp only;omega),sB,sB,?_⟩
   dsimp only
   first
   |(rw [wT (by omega) (by omega)];exact mS;done)
   |(rw [zp (by omega) (by omega)];exact mS;done)
   |(rw [oU (by omega) (by omega)];exact mS;done)
   |(rw [qX (by omega) (by omega) (by omega)];exact mS;done)
 ·
  have e:i=a.size:=by omega
  subst e
  rw [IG (by omega),List.foldl_nil] at hr
  rw [hr]
  repeat' (first|refine sT ?_|refine sT2 ?_|refine sM fun _=> ?_|(refine sC ?_ ?_<;>intro hb<;>try omega)|exact cT|fail)
  exact sq (.inl rfl) rfl rfl .hd rfl (MSub.nil _) rfl
def rD (l:List Int):Int × Int × Int:=
 if (nC l).ok=false∨(nC l).m0=0∨(nC l).m1=0 then (0,0,4)
 else if valid (nC l).v0 (nC l).v1 then ((nC l).v0,(nC l).v1,0) else (0,0,3)
theorem tB (a:ByteArray) (ha:a.size≤100000) (w:World):ay Tryz.prog 266 [.string a] w (.tuple #[.agg #[.int .i64 (rD (ak a)).1,.int .i64 (rD (ak a)).2.1],.int .i64 (rD (ak a)).2.2]):=by
 refine aq Tryz.func266 rfl Tryz.ntmps266 rfl ?_
 unfold rD
 generalize hp:nC (ak a)=p
 have hR:=vQ a ha
 rw [hp] at hR
 repeat' (first|(apply ah;exact rfl;exact rfl;(intro w hm;exact hR w))|(apply ah;exact rfl;exact rfl;(intro w hm;exact fJ p.v0 p.v1 w))|refine sT ?_|refine sT2 ?_|refine sM fun _=> ?_|(refine sC ?_ ?_<;>intro hb<;>try omega)|exact cT|fail)
 all_goals
  (refine fW ?_)
  simp_all
def aW (a b:Rf):Bool:=decide (a.row<b.row)||(decide (a.row=b.row) && decide (a.col<b.col))
theorem ER (a b:Rf) (w:World):ay Tryz.prog 46 [.agg (aQ a).toArray,.agg (aQ b).toArray] w (.bool (aW a b)):=by
 refine aq Tryz.func46 rfl Tryz.ntmps46 rfl ?_
 repeat' (first|refine sT ?_|refine sM fun _=> ?_|(refine sC ?_ ?_<;>intro hb<;>try omega)|exact cT|fail)
 all_goals ((refine rT1 ?_);((try simp only [← Int.not_lt] at*);simp_all [aW, -Int.not_lt, -Int.not_le,← Int.not_lt]))
theorem Gk (a:Rf) (w:World):ay Tryz.prog 267 [.agg (aQ a).toArray] w (.agg (bu (wY a.col a.row)).toArray):=by
 refine aq Tryz.func267 rfl Tryz.ntmps267 rfl ?_
 repeat' (first|refine sT ?_|refine sM fun _=> ?_|(refine sC ?_ ?_<;>intro hb<;>try omega)|exact cT|fail)
 (refine eRC ?_)
 rfl
def Ef (r:Rct) (a:Rf):Bool:=decide (r.c1≤a.col) && decide (a.col≤r.c2) && decide (r.r1≤a.row) && decide (a.row≤r.r2)
theorem Gm (r:Rct) (a:Rf) (w:World):ay Tryz.prog 45 [.agg (bu r).toArray,.agg (aQ a).toArray] w (.bool (Ef r a)):=by
 refine aq Tryz.func45 rfl Tryz.ntmps45 rfl ?_
 repeat' (first|refine sT ?_|refine sM fun _=> ?_|(refine sC ?_ ?_<;>intro hb<;>try omega)|exact cT|fail)
 all_goals ((refine rT1 ?_);((try simp only [← Int.not_lt] at*);simp_all [Ef, -Int.not_lt, -Int.not_le,← Int.not_lt]))
end Go.SL
namespace Go.SL
open Go Go.Proofs
attribute [local irreducible] W WL WQ WG WA WX WLI WR WT VOp RW thn blk bo scp aN bf bi aF FnIn FnP
def gI (a b:Rf):Int:=if aW a b then -1 else if aW b a then 1 else 0
end Go.SL

/-
  Lemmas and walks, put together: Sb E1 W2.
-/
import Derived.Test.YthefeclkaaocnaaGreatDoorKj04
import Derived.Test.YthefeclkaaocnaaGreatDoorKj07
set_option linter.unusedSimpArgs false
set_option linter.unusedVariables false
set_option maxRecDepth 20000
namespace Go.SL
open Go Go.RowKit
theorem pK {p:Prop} (h:p:=by (repeat first|exact .hd|apply Sel.tl|apply In.tl);(first|done|fail)):p:=h
theorem sB {p:Prop} (h:p:=by (repeat (first|exact Sub.nil _|refine Sub.cons rfl ?_));(first|done|fail)):p:=h
theorem mS {p:Prop} (h:p:=by (repeat (first|exact MSub.nil _|refine MSub.pick (by (repeat first|exact .hd|apply Sel.tl|apply In.tl)) ?_|exact MSub.refl _|refine MSub.drop .hd ?_));(first|done|fail)):p:=h
theorem vC {P:Program} {w0:World} {s:az} {H:List Blk} {op:Op} {ty:TypeId} {v:Value} (h:VOp P w0 s H op ty v:=by
 first
 |((with_reducible apply jd);exact rfl)
 |((with_reducible apply cA);exact rfl)
 |((with_reducible apply mz);exact rfl)
 |((with_reducible apply ij);exact rfl)
 |((with_reducible apply tF);exact rfl)
 |((with_reducible apply bM);exact rfl;exact pK;exact rfl)
 |((with_reducible apply je);exact rfl;exact rfl)
 |((with_reducible apply ic);exact rfl;exact rfl)
 |((with_reducible apply gW);exact rfl;exact rfl)
 |((with_reducible apply iW);exact rfl;exact rfl)
 |((with_reducible apply cw);exact rfl;exact pK;exact rfl)
 |((with_reducible apply cy);exact rfl;exact pK;exact rfl;exact rfl)
 |((with_reducible apply f4);(iterate 3 exact rfl))
 |((with_reducible apply jZ);(iterate 3 exact rfl))
 |((with_reducible apply tC);exact rfl)
 |((with_reducible apply v_eqlpn);exact rfl)
 |((with_reducible apply v_neqpn);exact rfl)):VOp P w0 s H op ty v:=h
theorem vC2 {P:Program} {w0:World} {s:az} {H:List Blk} {op:Op} {ty:TypeId} {v:Value} (h:VOp P w0 s H op ty v:=by
 first
 |((with_reducible apply aV);exact rfl;exact rfl;(first|assumption|omega))
 |((with_reducible apply LV);exact rfl;exact rfl;(first|assumption|omega))
 |((with_reducible apply fD);(iterate 3 exact rfl);(first|assumption|omega))
 |((with_reducible apply tB);exact rfl;exact rfl;(first|assumption|omega))
 |((with_reducible apply J7);exact rfl;exact rfl;(first|assumption|omega))
 |((with_reducible apply BU);exact rfl;exact rfl;(first|assumption|omega))
 |((with_reducible apply aV (j:=4));exact rfl;exact rfl;(first|assumption|omega))
 |((with_reducible apply BU (hi:=4));exact rfl;exact rfl;(first|assumption|omega))
 |((with_reducible apply tB (lo:=1));exact rfl;exact rfl;(first|assumption|omega))
 |((with_reducible apply Ff);(iterate 3 exact rfl))
 |((with_reducible apply Fe);(iterate 3 exact rfl))):VOp P w0 s H op ty v:=h
theorem vA {P:Program} {w0:World} {s:az} {H:List Blk} {op:Op} {ty:TypeId} {v:Value} (h:VOp P w0 s H op ty v:=by
 first
 |((with_reducible apply dg);exact rfl;exact rfl;(simp only [maxLen] at*;omega))
 |((with_reducible apply Ej);exact rfl;exact rfl;(simp only [maxLen] at*;omega))
 |((with_reducible apply dE);exact rfl;exact rfl;(simp only [maxLen] at*;omega))
 |((with_reducible apply dM);exact rfl;exact rfl;omega;(simp only [maxLen] at*;omega))
 |((with_reducible apply kJ);exact rfl;exact rfl;omega;(simp only [maxLen] at*;omega))
 |((with_reducible apply BX);exact rfl;exact rfl)):VOp P w0 s H op ty v:=h
theorem vI {P:Program} {w0:World} {s:az} {H:List Blk} {op:Op} {ty:TypeId} {v:Value} (h:VOp P w0 s H op ty v:=by
 first
 |((with_reducible apply dw);exact rfl;exact rfl;exact ⟨by omega,by omega⟩)
 |((with_reducible apply G6);exact rfl;exact rfl;exact ⟨by omega,by omega⟩)
 |((with_reducible apply tE);exact rfl;exact rfl;exact ⟨by omega,by omega⟩)):VOp P w0 s H op ty v:=h
theorem vR {P:Program} {w0:World} {s:az} {H:List Blk} {op:Op} {ty:TypeId} {v:Value} (h:VOp P w0 s H op ty v:=by
 first
 |((with_reducible apply aj);exact rfl;exact rfl;(first|assumption|omega))
 |((with_reducible apply aA);exact rfl;assumption;exact rfl)
 |((with_reducible apply gy);exact rfl;assumption)
 |((with_reducible apply cI);exact rfl;assumption;exact rfl)):VOp P w0 s H op ty v:=h
theorem sT {p q:Prop} (k:q) (h:q→p:=by
 first
 |(with_reducible first|exact jJ|exact oG|exact oD|exact fP|exact oE|exact kG|exact kH|exact iL|exact oF|exact oH|exact oV|exact oU|exact oW|exact cut_r|exact cut_e)
 |(intro k;(with_reducible apply ak);exact rfl;exact vC;exact k)
 |(intro k;(with_reducible apply iH);exact rfl;exact rfl;exact k)
 |(intro k;(with_reducible apply fO);(iterate 4 exact rfl);exact k)
 |(intro k;(with_reducible apply fN);(iterate 3 exact rfl);exact k)
 |(intro k;(with_reducible apply bY);exact rfl;exact rfl;exact pK;(iterate 3 exact rfl);exact k)
 |(intro k;(with_reducible apply dm);exact rfl;exact rfl;exact pK;(iterate 4 exact rfl);exact k)
 |(intro k;(with_reducible apply dq);exact rfl;exact k)
 |(intro k;(with_reducible apply cM);exact rfl;exact k)
 |(intro k;(with_reducible apply oT);exact rfl;exact k)):p:=h k
theorem sM {p:Prop} {q:Nat→Prop} (k: ∀ g,q g) (h:(∀ g,q g)→p:=by
 first
 |(intro k;(with_reducible apply dA);exact rfl;exact rfl;exact k)
 |(intro k;(with_reducible apply iI);(iterate 3 exact rfl);exact k)
 |(intro k;(with_reducible apply dH);exact rfl;exact k)
 |(intro k;(with_reducible apply vu);(iterate 7 exact rfl);exact k)):p:=h k
theorem sT2 {p q:Prop} (k:q) (h:q→p:=by exact ak rfl vC2):p:=h k
theorem sQ2 {p q:Prop} (k:q) (h:q→p:=by exact aK rfl vC2):p:=h k
theorem sS {p q:Prop} (k:q) (h:q→p:=by with_reducible first|exact iJ|exact iK|exact scp_n|exact oJ|exact scp_e):p:=h k
theorem sP {p q:Prop} (k:q) (h:q→p:=by with_reducible first|exact MZ|exact Np|exact Nn|exact scp_p):p:=h k
theorem sC {p q1 q2 r1 r2:Prop} (k1:q1→q2) (k2:r1→r2) (h:(q1→q2)→(r1→r2)→p:=by
 intro k1 k2
 first
 |((with_reducible apply eE);exact rfl;exact rfl;exact fun hb=>k1 (Tidy.out hb);exact fun hb=>k2 (Tidy.out hb))
 |((with_reducible apply kI);exact rfl;exact fun hb=>k1 (Tidy.out hb);exact fun hb=>k2 (Tidy.out hb))):p:=h k1 k2
theorem cT {p:Prop} (h:p:=by (with_reducible apply bf (i:=()))<;>first|exact trivial|((repeat (first|exact Sub.nil _|refine Sub.cons rfl ?_));done)|((repeat (first|exact MSub.nil _|refine MSub.pick (by (repeat first|exact .hd|apply Sel.tl|apply In.tl)) ?_|exact MSub.refl _|refine MSub.drop .hd ?_));done)|fail):p:=h
theorem sQ {p q:Prop} (k:q) (h:q→p:=by
 first
 |(with_reducible exact LK)
 |(intro k;(with_reducible apply aK);exact rfl;exact vC;exact k)
 |(intro k;(with_reducible apply J1);exact rfl;exact rfl;exact k)
 |(intro k;(with_reducible apply GM);(iterate 4 exact rfl);exact k)
 |(intro k;(with_reducible apply GL);(iterate 3 exact rfl);exact k)):p:=h k
theorem sCQ {p q1 q2 r1 r2:Prop} (k1:q1→q2) (k2:r1→r2) (h:(q1→q2)→(r1→r2)→p:=by
 intro k1 k2
 first
 |((with_reducible apply E0);exact rfl;exact rfl;exact fun hb=>k1 (Tidy.out hb);exact fun hb=>k2 (Tidy.out hb))):p:=h k1 k2
theorem sD {p q:Prop} (k:q) (h:q→p:=by intro k;(with_reducible apply gN);kernel_rfl;kernel_rfl;exact k):p:=h k
theorem sN {p q:Prop} (k:q) (h:q→p:=by exact ak rfl vA):p:=h k
theorem sNQ {p q:Prop} (k:q) (h:q→p:=by exact aK rfl vA):p:=h k
theorem sJ {p q:Prop} (k:q) (h:q→p:=by exact ak rfl vI):p:=h k
theorem sJQ {p q:Prop} (k:q) (h:q→p:=by exact aK rfl vI):p:=h k
theorem sJG {p q:Prop} (k:q) (h:q→p:=by exact yZ (f:=60) rfl (by decide+kernel) rfl vI):p:=h k
theorem sO {p q:Prop} (k:q) (h:q→p:=by exact ak rfl vR):p:=h k
theorem sOQ {p q:Prop} (k:q) (h:q→p:=by exact aK rfl vR):p:=h k
theorem sG {p q:Prop} (k:q) (h:q→p:=by
 first
 |(with_reducible exact xu)
 |(intro k;(with_reducible apply E8);exact rfl;(intro D ht;exact vC);exact fun _=>rfl;exact k)
 |exact BR _ _ rfl rfl (fun D=> .hd) rfl rfl rfl (fun _=>QB rfl) (fun D ht=> .refl _)
 |(intro k;(with_reducible apply yZ (f:=60));exact rfl;decide+kernel;exact rfl;exact vC;exact k)):p:=h k
theorem sX {p q:Prop} (k:q) (h:q→p:=by
 first
 |(with_reducible exact wx_nil)
 |(intro k;(with_reducible apply wx_v);(iterate 3 exact rfl);(intro D ht;exact vC);exact fun _=>rfl;exact k)
 |(intro k;(with_reducible apply wx_gno);(iterate 3 exact rfl);exact fun _=>rfl;exact k)):p:=h k
theorem sCX {p q1 q2 r1 r2:Prop} (k1:q1→q2) (k2:r1→r2) (h:(q1→q2)→(r1→r2)→p:=by
 intro k1 k2
 first
 |((with_reducible apply wx_gsplit);exact rfl;exact rfl;exact fun hb=>k1 (Tidy.out hb);exact fun hb=>k2 (Tidy.out hb))):p:=h k1 k2
theorem sXO {p q:Prop} (k:q) (h:q→p:=by exact wx_v rfl rfl rfl (fun D ht=>vR) (fun _=>rfl)):p:=h k
theorem sBG {p q:Prop} (k:q) (h:q→p:=by with_reducible first|exact wl_app_c|exact wl_app_n):p:=h k
theorem sI {p q:Prop} (k:q) (h:q→p:=by first|(with_reducible exact J3)|(intro k;(with_reducible apply Lw);exact rfl;exact rfl;exact vC;exact k)):p:=h k
theorem sR {p q:Prop} (k:q) (h:q→p:=by
 first
 |(with_reducible first|exact wr_seq|exact wr_ret|exact wr_exit|exact J0|exact GK|exact GI|exact yQ|exact wt_seq_c|exact wt_seq_b|exact wt_seq_k|exact wt_last_r|exact yR|exact wt_last_c|exact F8|exact end_thn_r)
 |(intro k;(with_reducible apply wr_cond_true);exact rfl;exact k)
 |(intro k;(with_reducible apply wr_cond_false);exact rfl;exact k)
 |(intro k;(with_reducible apply EZ);exact rfl;(repeat (first|exact FB|exact assignQ_no|apply no_thn|apply Mt|apply no_cut));exact k)):p:=h k
theorem sCR {p q1 q2 r1 r2:Prop} (k1:q1→q2) (k2:r1→r2) (h:(q1→q2)→(r1→r2)→p:=by
 intro k1 k2
 first
 |((with_reducible apply wr_cond);exact rfl;exact fun hb=>k1 (Tidy.out hb);exact fun hb=>k2 (Tidy.out hb))):p:=h k1 k2
theorem sW {p q:Prop} (k:q) (h:q→p:=by
 first
 |(with_reducible exact GZ)
 |(intro k;(with_reducible apply cC);(iterate 3 exact rfl);exact vC;exact k)
 |(intro k;(with_reducible apply G0);(iterate 3 exact rfl);exact k)
 |(intro k;(with_reducible apply wc_gno0);exact rfl;exact k)
 |(intro k;(with_reducible apply MH);exact rfl;exact rfl;exact k)
 |(intro k;(with_reducible apply MG);(iterate 4 exact rfl);exact vC;exact k)
 |(intro k;(with_reducible apply JG);exact mS;exact k)):p:=h k
theorem sW2 {p q:Prop} (k:q) (h:q→p:=by exact cC rfl rfl rfl vC2):p:=h k
theorem sWN {p q:Prop} (k:q) (h:q→p:=by exact cC rfl rfl rfl vA):p:=h k
theorem sWJ {p q:Prop} (k:q) (h:q→p:=by exact cC rfl rfl rfl vI):p:=h k
theorem sCW {p q1 q2 r1 r2:Prop} (k1:q1→q2) (k2:r1→r2) (h:(q1→q2)→(r1→r2)→p:=by
 intro k1 k2
 first
 |((with_reducible apply v7);exact rfl;exact rfl;exact fun hb=>k1 (Tidy.out hb);exact fun hb=>k2 (Tidy.out hb))):p:=h k1 k2
theorem sG2 {p q:Prop} (k:q) (h:q→p:=by first|exact E8 rfl (fun D ht=>vC2) (fun _=>rfl)|exact yZ (f:=60) rfl (by decide+kernel) rfl vC2):p:=h k
theorem sX2 {p q:Prop} (k:q) (h:q→p:=by exact wx_v rfl rfl rfl (fun D ht=>vC2) (fun _=>rfl)):p:=h k
theorem eIO {p:Prop} (h:p:=by first|exact .inl rfl|exact .inr rfl):p:=h
theorem rT0 {p q:Prop} (k:q) (h:q→p:=by intro k;(with_reducible apply iX);exact .inl rfl;exact rfl;exact MSub.nil _;exact k):p:=h k
theorem rT1 {p q:Prop} (k:q) (h:q→p:=by intro k;(with_reducible apply dF);exact .inl rfl;exact rfl;exact rfl;exact MSub.nil _;exact k):p:=h k
theorem rT2 {p q:Prop} (k:q) (h:q→p:=by intro k;(with_reducible apply jh);exact .inl rfl;(iterate 3 exact rfl);exact MSub.nil _;exact k):p:=h k
theorem rT3 {p q:Prop} (k:q) (h:q→p:=by intro k;(with_reducible apply ou);exact .inl rfl;(iterate 4 exact rfl);exact MSub.nil _;exact k):p:=h k
theorem eRC {p q:Prop} (k:q) (h:q→p:=by first|exact zz (.inl rfl) rfl rfl pK rfl (MSub.nil _)|exact zz (.inr rfl) rfl rfl pK rfl (MSub.nil _)):p:=h k
theorem eV {p q:Prop} (k:q) (h:q→p:=by first|exact EC (.inl rfl) rfl rfl pK rfl rfl (MSub.nil _)|exact EC (.inr rfl) rfl rfl pK rfl rfl (MSub.nil _)):p:=h k
theorem cG {p q:Prop} (k:q) (h:q→p:=by first|exact fH (.inl rfl) rfl rfl pK rfl rfl rfl (MSub.nil _)|exact fH (.inr rfl) rfl rfl pK rfl rfl rfl (MSub.nil _)):p:=h k
theorem nP {p:Prop} (h:p:=by (repeat (first|exact Mq|apply Mo|apply Ms|apply Mr));(first|done|fail)):p:=h
theorem vP {P:Program} {w0:World} {s:az} {H:List Blk} {op:Op} {ty:TypeId} {v:Value} (h:VOp P w0 s H op ty v:=by
 first|exact vC|((with_reducible apply kJ);exact rfl;exact rfl;omega;omega)|((with_reducible apply mG);exact rfl;exact rfl;omega)):VOp P w0 s H op ty v:=h
end Go.SL
namespace Go.SL
open Go Go.Proofs
theorem Ew (w:World) (d:Nat) (a b:Vl):(Op.equalIn (d+3) 172 (.agg (dx a).toArray) (.agg (dx b).toArray)).run Tryz.prog w= .ok (eqV a b) w:=by
 rw [run_equalIn_agg w (d+2) 172 _ _ (by rw [Program.fieldsOf,Tryz.underlying172]) Tryz.stoodInHeld172]
 simp only [Program.fieldsOf,Tryz.underlying172]
 simp [Op.eqFields,dx,part,go_sem,qo,si,eqV]
 by_cases h1:a.kind=b.kind<;>by_cases h2:a.num=b.num<;>by_cases h3:a.text=b.text<;>simp [h1,h2,h3]
theorem j6 (w:World) (d:Nat) (a b:Rct):(Op.equalIn (d+3) 33 (.agg (bQ a).toArray) (.agg (bQ b).toArray)).run Tryz.prog w= .ok (eqR a b) w:=by
 rw [run_equalIn_agg w (d+2) 33 _ _ (by rw [Program.fieldsOf,Tryz.underlying33]) Tryz.stoodInHeld33]
 simp only [Program.fieldsOf,Tryz.underlying33]
 simp [Op.eqFields,bQ,part,go_sem,qo,si,eqR]
 by_cases h1:a.c1=b.c1<;>by_cases h2:a.r1=b.r1<;>by_cases h3:a.c2=b.c2<;>by_cases h4:a.r2=b.r2<;>simp [h1,h2,h3,h4]
theorem sw (w:World) (d:Nat) (a b:Rf):(Op.equalIn (d+3) 51 (.agg (cu a).toArray) (.agg (cu b).toArray)).run Tryz.prog w= .ok (eqF a b) w:=by
 rw [run_equalIn_agg w (d+2) 51 _ _ (by rw [Program.fieldsOf,Tryz.underlying51]) Tryz.stoodInHeld51]
 simp only [Program.fieldsOf,Tryz.underlying51]
 simp [Op.eqFields,cu,part,go_sem,qo,si,eqF]
 by_cases h1:a.col=b.col<;>by_cases h2:a.row=b.row<;>simp [h1,h2]
theorem Ey (w:World) (d:Nat) (a b:Nd):(Op.equalIn (d+5) 174 (.agg (cj a).toArray) (.agg (cj b).toArray)).run Tryz.prog w= .ok (eqN a b) w:=by
 rw [run_equalIn_agg w (d+4) 174 _ _ (by rw [Program.fieldsOf,Tryz.underlying174]) Tryz.stoodInHeld174]
 simp only [Program.fieldsOf,Tryz.underlying174]
 have hv: ∀ w,(Op.equalIn (d+4) 172 (.agg #[.int .u8 a.v.kind,.int .i64 a.v.num,.string a.v.text]) (.agg #[.int .u8 b.v.kind,.int .i64 b.v.num,.string b.v.text])).run Tryz.prog w= .ok (eqV a.v b.v) w:=fun w=>Ew w (d+1) a.v b.v
 have hr: ∀ w,(Op.equalIn (d+4) 33 (.agg #[.int .i64 a.rect.c1,.int .i64 a.rect.r1,.int .i64 a.rect.c2,.int .i64 a.rect.r2]) (.agg #[.int .i64 b.rect.c1,.int .i64 b.rect.r1,.int .i64 b.rect.c2,.int .i64 b.rect.r2])).run Tryz.prog w= .ok (eqR a.rect b.rect) w:=fun w=>j6 w (d+1) a.rect b.rect
 simp [Op.eqFields,cj,part,go_sem,qo,si,eqN,hv,hr]
 by_cases h1:a.kind=b.kind<;>by_cases h2:eqV a.v b.v=true<;>by_cases h3:eqR a.rect b.rect=true<;>by_cases h4:a.op=b.op<;>by_cases h5:a.fn=b.fn<;>by_cases h6:a.n=b.n<;>simp [h1,h2,h3,h4,h5,h6]
section
variable {w0:World} {s:az} {H:List Blk} {ty t' :TypeId} {x y:Operand}
theorem B6 {a b:Vl} (hx:ev s x=some (.agg (dx a).toArray)) (hy:ev s y=some (.agg (dx b).toArray)):VOp Tryz.prog w0 s H (.binOp .eql 172 x y t') ty (.bool (eqV a b)):=fun ρ w _ _ _ _ hρ _=>by
 have h:=Ew w 9997 a b
 simp only [Nat.reduceAdd] at h
 simp only [execOp,hρ x _ hx,hρ y _ hy,Sem.run_bind,run_eqGuard_agg w _ _ _ _ _ _ Tryz.eqGuardType172,Result.andThen_ok,run_eql_struct,h,Sem.run_pure]
theorem LW {a b:Rct} (hx:ev s x=some (.agg (bQ a).toArray)) (hy:ev s y=some (.agg (bQ b).toArray)):VOp Tryz.prog w0 s H (.binOp .eql 33 x y t') ty (.bool (eqR a b)):=fun ρ w _ _ _ _ hρ _=>by
 have h:=j6 w 9997 a b
 simp only [Nat.reduceAdd] at h
 simp only [execOp,hρ x _ hx,hρ y _ hy,Sem.run_bind,run_eqGuard_agg w _ _ _ _ _ _ Tryz.eqGuardType33,Result.andThen_ok,run_eql_struct,h,Sem.run_pure]
theorem LR {a b:Rct} (hx:ev s x=some (.agg (bQ a).toArray)) (hy:ev s y=some (.agg (bQ b).toArray)):VOp Tryz.prog w0 s H (.binOp .neq 33 x y t') ty (.bool (!eqR a b)):=fun ρ w _ _ _ _ hρ _=>by
 have h:=j6 w 9997 a b
 simp only [Nat.reduceAdd] at h
 simp only [execOp,hρ x _ hx,hρ y _ hy,Sem.run_bind,run_eqGuard_agg w _ _ _ _ _ _ Tryz.eqGuardType33,Result.andThen_ok,run_neq_struct,h,Sem.run_pure]
theorem HA {a b:Rf} (hx:ev s x=some (.agg (cu a).toArray)) (hy:ev s y=some (.agg (cu b).toArray)):VOp Tryz.prog w0 s H (.binOp .eql 51 x y t') ty (.bool (eqF a b)):=fun ρ w _ _ _ _ hρ _=>by
 have h:=sw w 9997 a b
 simp only [Nat.reduceAdd] at h
 simp only [execOp,hρ x _ hx,hρ y _ hy,Sem.run_bind,run_eqGuard_agg w _ _ _ _ _ _ Tryz.eqGuardType51,Result.andThen_ok,run_eql_struct,h,Sem.run_pure]
theorem LS {a b:Rf} (hx:ev s x=some (.agg (cu a).toArray)) (hy:ev s y=some (.agg (cu b).toArray)):VOp Tryz.prog w0 s H (.binOp .neq 51 x y t') ty (.bool (!eqF a b)):=fun ρ w _ _ _ _ hρ _=>by
 have h:=sw w 9997 a b
 simp only [Nat.reduceAdd] at h
 simp only [execOp,hρ x _ hx,hρ y _ hy,Sem.run_bind,run_eqGuard_agg w _ _ _ _ _ _ Tryz.eqGuardType51,Result.andThen_ok,run_neq_struct,h,Sem.run_pure]
theorem LX {a b:Nd} (hx:ev s x=some (.agg (cj a).toArray)) (hy:ev s y=some (.agg (cj b).toArray)):VOp Tryz.prog w0 s H (.binOp .eql 174 x y t') ty (.bool (eqN a b)):=fun ρ w _ _ _ _ hρ _=>by
 have h:=Ey w 9995 a b
 simp only [Nat.reduceAdd] at h
 simp only [execOp,hρ x _ hx,hρ y _ hy,Sem.run_bind,run_eqGuard_agg w _ _ _ _ _ _ Tryz.eqGuardType174,Result.andThen_ok,run_eql_struct,h,Sem.run_pure]
theorem tD {a b:Nd} (hx:ev s x=some (.agg (cj a).toArray)) (hy:ev s y=some (.agg (cj b).toArray)):VOp Tryz.prog w0 s H (.binOp .neq 174 x y t') ty (.bool (!eqN a b)):=fun ρ w _ _ _ _ hρ _=>by
 have h:=Ey w 9995 a b
 simp only [Nat.reduceAdd] at h
 simp only [execOp,hρ x _ hx,hρ y _ hy,Sem.run_bind,run_eqGuard_agg w _ _ _ _ _ _ Tryz.eqGuardType174,Result.andThen_ok,run_neq_struct,h,Sem.run_pure]
end
end Go.SL
namespace Go.SL
open Go Go.Proofs
attribute [local irreducible] W WL WQ WG VOp thn blk bg aQ FnIn
theorem oo (b:ByteArray):nN b=(ap b).map (Value.int .u8):=by simp [nN,ap]
theorem tL {α β:Type} (f:α→α) (E:α→β) (xs:List α) (i:Nat) (h:i<xs.length):(((xs.take i).map f++xs.drop i).map E).set i (E (f xs[i]))=((xs.take (i+1)).map f++xs.drop (i+1)).map E:=by
 rw [← List.map_set,PV _ _ (by simp;omega)]
 have e1:xs.drop i=xs[i]::xs.drop (i+1):=NL h
 have e2:xs.take (i+1)=xs.take i++ [xs[i]]:=NT h
 have e3:i - ((xs.take i).map f).length=0:=by simp;omega
 rw [e3,e1,e2]
 simp only [List.set_cons_zero,Pb,Ow,Pe,OA,NF,NH]
set_option maxRecDepth 10000 in
theorem Dv (f:FuncId) [Callable Tryz.prog f] (g:Int→Int) (hf: ∀ c w,ax Tryz.prog f [.int .u8 c] w (.int .u8 (g c))) (a:ByteArray) (ha:a.size≤1000000) (w:World):
  aQ Tryz.prog 231 [.string a,.func (.func f) #[] #[]] w fun v H=> ∃ gb cap,v= .slice (some ⟨gb,0,none⟩) a.size cap∧H= [.byt gb 5 a.size cap (((ap a).map g).map (Value.int .u8))]:=by
 refine aq Tryz.func231 rfl Tryz.ntmps231 rfl ?_
 repeat' (first|(apply lK;exact rfl;exact rfl;intro gb cap)|refine sT ?_|refine sM fun _=> ?_|(refine sC ?_ ?_<;>intro hb<;>try omega)|fail)
 refine fC (fun i:Nat=> [(5,.slice (some ⟨gb,0,none⟩) a.size cap),(10,.slice (some ⟨gb,0,none⟩) a.size cap),(11,.int .i64 (a.size:Int)),(12,.int .i64 (i:Int)),(1,.func (.func f) #[] #[])])
  (fun i=> [.byt gb 5 a.size cap ((((ap a).take i).map g++(ap a).drop i).map (Value.int .u8))]) (fun i=>i≤a.size) (fun i=>a.size - i) 0 (by omega) ?_ ?_ ?_
 ·
  exact sB
 ·
  rw [oo];simp only [Pj,Pe,NH,O4];exact mS
 ·
  intro i hi
  have hl:=av a
  by_cases hlt:i<a.size
  ·
   have hil:i<(ap a).length:=by omega
   have hget:((((ap a).take i).map g++(ap a).drop i).map (Value.int .u8))[0+i*1]? =some (.int .u8 (ap a)[i]):=by
    rw [OU,show 0+i*1=i by omega,OC (by simp;omega)]
    simp [Ps (Nat.le_of_lt hil),O6]
   repeat' (first|(apply ak;exact rfl;apply aj;exact rfl;exact rfl;exact hlt)|(apply ak;exact rfl;apply jM;exact rfl;exact .hd;exact hget)|(apply bH;exact rfl;exact rfl;infer_instance;exact rfl;(intro w hm;exact hf _ w))|(apply lL;exact rfl;exact rfl;exact .hd;exact rfl;(simp;omega))|(apply ak;exact rfl;apply dw;exact rfl;exact rfl;(constructor<;>omega))|refine sT ?_|refine sM fun _=> ?_|(refine sC ?_ ?_<;>intro hb<;>try omega)|fail)
   refine ⟨i+1,by omega,by omega,?_,?_⟩
   ·
    exact sB
   ·
    rw [show 0+i*1=i by omega,tL g (Value.int .u8) (ap a) i hil]
    exact mS
  ·
   have e:i=a.size:=by omega
   subst e
   repeat' (first|refine sT ?_|refine sM fun _=> ?_|(refine sC ?_ ?_<;>intro hb<;>try omega)|fail)
   refine dF (.inl rfl) Tryz.results231 rfl (.refl _) ⟨gb,cap,rfl,?_⟩
   rw [N9 (by omega),N0 (by omega),NM]
def jT (c:Int):Int:=if c<32∨126<c then 0 else 32
set_option maxRecDepth 10000 in
theorem KJ (c:Int) (w:World):ax Tryz.prog 232 [.int .u8 c] w (.int .u8 (jT c)):=by
 refine aq Tryz.func232 rfl Tryz.ntmps232 rfl ?_
 repeat' (first|refine sT ?_|refine sM fun _=> ?_|(refine sC ?_ ?_<;>intro hb<;>try omega)|fail)
 all_goals ((refine rT1 ?_);((try simp only [← Int.not_lt] at*);simp_all [jT, -Int.not_lt, -Int.not_le]))
set_option maxRecDepth 10000 in
theorem F3 (c:Int) (w:World):ax Tryz.prog 233 [.int .i32 c] w (.bool (decide (c=0))):=by
 refine aq Tryz.func233 rfl Tryz.ntmps233 rfl ?_
 repeat' (first|refine sT ?_|refine sM fun _=> ?_|(refine sC ?_ ?_<;>intro hb<;>try omega)|fail)
 all_goals ((refine rT1 ?_);rfl)
def jx (q:Int→Bool) (l:List Int):Int:=match l.findIdx? q with
 |some i=>(i:Int)
 |none=> -1
theorem AE {q:Int→Bool} {l:List Int} {i:Nat} (h:i<l.length) (hq:q l[i]=true) (hno: ∀ j (h:j<l.length),j<i→q l[j]=false):jx q l=(i:Int):=by
 have:l.findIdx? q=some i:=by
  rw [Pm]
  exact ⟨h,hq,fun j hj=>by simpa using hno j (by omega) hj⟩
 simp [jx,this]
theorem yo {q:Int→Bool} {l:List Int} (hno: ∀ j (h:j<l.length),q l[j]=false):jx q l= -1:=by
 have:l.findIdx? q=none:=by
  rw [Pd]
  intro x hx
  obtain ⟨j,hj,rfl⟩:=PG hx
  exact hno j hj
 simp [jx,this]
set_option maxRecDepth 10000 in
theorem yg (f:FuncId) [Callable Tryz.prog f] (q:Int→Bool) (hf: ∀ c w,ax Tryz.prog f [.int .i32 c] w (.bool (q c))) (a:ByteArray) (ha:a.size≤1000000) (hasc: ∀ i (h:i<a.size),(a[i]'h).toNat<128) (w:World):
  ax Tryz.prog 274 [.string a,.func (.func f) #[] #[],.bool true] w (.int .i64 (jx q (ap a))):=by
 refine aq Tryz.func274 rfl Tryz.ntmps274 rfl ?_
 have hl:=av a
 repeat' (first|(apply xm;exact rfl;exact rfl;intro gi)|refine sT ?_|refine sM fun _=> ?_|(refine sC ?_ ?_<;>intro hb<;>try omega)|fail)
 refine fC (fun i:Nat=> [(0,.string a),(1,.func (.func f) #[] #[]),(2,.bool true),(10,.pointer (some ⟨gi,0,none⟩))])
  (fun i=> [.obj gi (.stringIter a i)]) (fun i=>i≤a.size∧ ∀ j (h:j<(ap a).length),j<i→q (ap a)[j]=false) (fun i=>a.size - i) 0 ⟨by omega,fun j _ h=>by omega⟩ ?_ ?_ ?_
 ·
  exact sB
 ·
  exact mS
 ·
  rintro i ⟨hi,hno⟩
  repeat' (first|(apply yU;exact rfl;exact rfl;exact .hd;exact hasc i;all_goals intro hb)|(apply bH;exact rfl;exact rfl;infer_instance;exact rfl;(intro w hm;exact hf _ w))|refine sT ?_|refine sM fun _=> ?_|(refine sC ?_ ?_<;>intro hb<;>try omega)|fail)
  all_goals (try simp only [beq_true] at*)
  ·
   rename_i hlt
   have hq:=hb
   refine dF (.inl rfl) Tryz.results274 rfl (MSub.nil _) ?_
   have h1:=qa a i hlt
   rw [AE (i:=i) (by omega) (by rw [h1];exact hq) hno]
  ·
   rename_i hlt
   have hq:=hb
   refine ⟨i+1,⟨by omega,fun j hj hji=> ?_⟩,by omega,?_,?_⟩
   ·
    by_cases e:j=i
    ·
     subst e
     rw [qa a j hlt];exact hq
    ·
     exact hno j hj (by omega)
   ·
    exact sB
   ·
    exact mS
  ·
   have hge:=hb
   refine dF (.inl rfl) Tryz.results274 rfl (MSub.nil _) ?_
   rw [yo fun j hj=>hno j hj (by omega)]
set_option maxRecDepth 10000 in
theorem yH (f:FuncId) [Callable Tryz.prog f] (q:Int→Bool) (hf: ∀ c w,ax Tryz.prog f [.int .i32 c] w (.bool (q c))) (a:ByteArray) (ha:a.size≤1000000) (hasc: ∀ i (h:i<a.size),(a[i]'h).toNat<128) (w:World):
  ax Tryz.prog 230 [.string a,.func (.func f) #[] #[]] w (.int .i64 (jx q (ap a))):=by
 refine aq Tryz.func230 rfl Tryz.ntmps230 rfl ?_
 repeat' (first|(apply aa;exact rfl;exact rfl;(intro w hm;exact yg f q hf a ha hasc w))|refine sT ?_|refine sM fun _=> ?_|(refine sC ?_ ?_<;>intro hb<;>try omega)|fail)
 all_goals ((refine rT1 ?_);rfl)
def jS (a:ByteArray):ByteArray:=⟨(((ap a).map jT).map fun n=>UInt8.ofNat n.toNat).toArray⟩
theorem nz (a:ByteArray):(jS a).size=a.size:=by
 have:(jS a).size=((ap a).map jT).length:=by simp [jS,ByteArray.size]
 rw [this];simp [av]
theorem rD (a:ByteArray):ap (jS a)=(ap a).map jT:=by
 simp only [ap,jS,QE]
 congr 1
 funext c
 simp only [Function.comp,jT]
 split<;>simp
theorem AC (q:Int→Bool) (l:List Int):decide (jx q l<0)=l.all fun c=> !q c:=by
 unfold jx
 cases h:l.findIdx? q with
 |none=>
  rw [Pd] at h
  rw [Om]
  simpa using h
 |some i=>
  rw [Pm] at h
  obtain ⟨h1,h2,_⟩:=h
  rw [Om]
  simp only [decide_eq_true_eq,OY]
  constructor
  ·
   intro h;omega
  ·
   intro h
   have:=h _ (OD h1)
   rw [h2] at this
   cases this
theorem zS (a:ByteArray):decide (jx (fun c=>decide (c=0)) (ap (jS a))<0)=m7 a:=by
 rw [AC,rD]
 simp only [ap,List.all_map,m7]
 congr 1
 funext c
 have e:(decide (jT (c.toNat:Int)=0))= !(decide (32≤c.toNat) && decide (c.toNat≤126)):=by
  rw [Om]
  by_cases h:(c.toNat:Int)<32∨126<(c.toNat:Int)
  ·
   simp only [jT,if_pos h];simp;omega
  ·
   simp only [jT,if_neg h];simp;omega
 simp only [Function.comp,e,Bool.not_not]
theorem yd (a:ByteArray): ∀ i (h:i<(jS a).size),((jS a)[i]'h).toNat<128:=by
 intro i h
 have h1:=qa (jS a) i h
 have h2:((jS a)[i].toNat:Int)=jT ((ap a)[i]'(by rw [av,← nz];exact h)):=by
  rw [← h1]
  simp [rD]
 have h3: ∀ x,jT x=0∨jT x=32:=fun x=>by unfold jT;split<;>simp
 rcases h3 ((ap a)[i]'(by rw [av,← nz];exact h)) with h4|h4<;>omega
set_option maxRecDepth 10000 in
theorem pY (a:ByteArray) (ha:a.size≤1000000) (w:World):ax Tryz.prog 191 [.string a] w (.bool (m7 a)):=by
 refine aq Tryz.func191 rfl Tryz.ntmps191 rfl ?_
 repeat' (first|((with_reducible apply aG (R:=fun v H=> ∃ gb cap,v= .slice (some ⟨gb,0,none⟩) a.size cap∧H= [.byt gb 5 a.size cap (((ap a).map jT).map (Value.int .u8))]));exact rfl;exact rfl;(intro w hm;exact Dv 232 jT KJ a ha w);(rintro v H' ⟨gb,cap,rfl,rfl⟩))|(apply ak;exact rfl;apply qF;exact rfl;exact .hd;simp [av])|(apply aa;exact rfl;exact rfl;(intro w hm;exact yH 233 (fun c=>decide (c=0)) F3 (jS a) (by rw [nz];exact ha) (yd a) w))|refine sT ?_|refine sM fun _=> ?_|(refine sC ?_ ?_<;>intro hb<;>try omega)|fail)
 all_goals ((refine rT1 ?_);rw [← zS])
set_option maxRecDepth 10000 in
theorem uL (a:ByteArray) (w:World):ax Tryz.prog 150 [.string a] w (.int .i64 (gT a)):=by
 refine aq Tryz.func150 rfl Tryz.ntmps150 rfl ?_
 repeat' (first|(apply aa;exact rfl;exact rfl;(intro w hm;exact pY a (by omega) w))|refine sT ?_|refine sM fun _=> ?_|(refine sC ?_ ?_<;>intro hb<;>try omega)|fail)
 ·
  (refine rT1 ?_)
  have:decide (256<a.size)=true:=by simp;omega
  simp [gT,this]
 all_goals
  (refine rT1 ?_)
  have h256:decide (256<a.size)=false:=by simp;omega
  simp only [gT,h256,hb,cond_true,cond_false]
set_option maxRecDepth 10000 in
theorem BS (v:Vl) (w:World):ax Tryz.prog 275 [.agg (dx v).toArray] w (.int .i64 (oZ v)):=by
 refine aq Tryz.func275 rfl Tryz.ntmps275 rfl ?_
 repeat' (first|(apply aa;exact rfl;exact rfl;(intro w hm;exact uL v.text w))|(apply ak;exact rfl;exact B6 (b:=⟨0,0,au⟩) rfl rfl)|refine sT ?_|refine sM fun _=> ?_|(refine sC ?_ ?_<;>intro hb<;>try omega)|fail)
 all_goals ((refine rT1 ?_);((try simp only [← Int.not_lt] at*);simp_all [oZ,tA,eqV,au, -Int.not_lt, -Int.not_le,← Int.not_lt]);try (by_cases h:v.num=0<;>simp_all))
end Go.SL

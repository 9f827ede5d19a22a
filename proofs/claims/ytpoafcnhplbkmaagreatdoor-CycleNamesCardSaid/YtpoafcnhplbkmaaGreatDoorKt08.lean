/-
  Lemmas and walks, put together: Fd Sb W27 W30 W33 K1 K2 W1 W11 W4 W28 B1 Px W2 W3 Cf.
-/
import Derived.Carry
import Derived.Deep.Slices
import Derived.OpenShut
import Derived.ProofKit
import Derived.Test.YtpoafcnhplbkmaaGreatDoorRows
import Derived.Test.YtpoafcnhplbkmaaGreatDoorKt04
import Derived.Test.YtpoafcnhplbkmaaGreatDoorKt06
import Derived.Test.YtpoafcnhplbkmaaGreatDoorKt07
set_option linter.unusedSimpArgs false
set_option linter.unusedVariables false
set_option maxRecDepth 20000
set_option maxHeartbeats 16000000
namespace Go.SL
open Go Go.Proofs Go.ChangeShapes Go.WideShapes Go.ChangeAt Go.RowKit Go.Deep
section
variable {H:Type} {enc:TypeId × Value→H} {P:Program} {w:World} {base:Nat} {spare:Nat→Bool} {held:Bool}
theorem qh {f:Func} {s:ChangeSpec} {apart fresh handsOn again:Bool} {W W' :World} {args:Array Value} {v:Value} {ds gs:List (DataW H)} {dS pa pv:List MemPlace}
 (hW:DataW.Whole enc P f.params.toList s.vars apart W args.toList ds gs dS)
 (hres: ∀ (b:Nat) (sp:Nat→Bool) (hd:Bool),DataW.TrodAll enc P W' b sp hd f.resultTypes.toList (v.resultList f.resultTypes.size) (s.fn H (ds++gs)).results [])
 (hargs: ∀ sp:Nat→Bool,(∀ p∈dS,sp p.block=true)→DataW.TrodAll enc P W' 0 sp true f.params.toList args.toList (s.fn H (ds++gs)).args pa)
 (hvars: ∀ sp:Nat→Bool,(∀ p∈dS,sp p.block=true)→DataW.TrodVars enc P W' sp s.vars (s.fn H (ds++gs)).vars pv)
 (hps:dS=pa++pv) (hb:Below W.heap.size W W')
 (hok: ∀ (j:Nat) (t:TypeId) (r:Value),f.resultTypes[j]? =some t→(v.resultList f.resultTypes.size)[j]? =some r→Value.okWide P W' .any 0 t r):
 s.post enc P f apart fresh handsOn again W args v W' :=by
 have hold: ∀ p∈dS,(fun b=>decide (b<W.heap.size)) p.block=true:=fun p hp=>by simpa using hW.lt p hp
 refine ⟨ds,gs,dS,[],pa,pv,hW,hres _ _ _,hargs _ hold,hvars _ hold,hb.frame _,fun _=> ?_⟩;have hlt:=hW.lt;obtain ⟨_,_,_,_,_,hz,hn⟩:=hW;refine ⟨hok,_,_,([]++pa)++pv,⟨[]++pa,pv,trodAll_append (hargs _ (fun _ _=>rfl)) (hres _ _ _),hvars _ (fun _ _=>rfl),rfl,?_,?_⟩,?_⟩
 ·intro b off hp;have hp' :MemPlace.cell b off∈dS:=by rw [hps];simpa using hp
  have h1:=hz b off hp';have h2:=hlt _ hp';rw [← h1];exact hb.frozen h2
 ·intro ha;have:=hn ha;rw [hps] at this;simpa using this
 ·intro p hp _;rw [hps];simpa using hp
theorem Dz {t:TypeId} (hl:laidOutB P=true) (hr:P.readableRec t=true) (hrow:t<P.types.size) {W W' :World} {v:Value} {d:DataW H} {ps:List MemPlace} {sp:Nat→Bool}
 (h:DataW.Trod enc P W 0 (fun _=>true) true t v d ps) (hb:Below W.heap.size W W') (hlt: ∀ x∈ps,x.block<W.heap.size) (hs: ∀ x∈ps,sp x.block=true):DataW.Trod enc P W' 0 sp true t v d ps:=
 WideElems.Trod_stays hl hr hrow h (fun x hx=>hb.same (hlt x hx)) hs
end
theorem Fe:ownKnob Tryz.prog.godebug=none:=by kernel_rfl
theorem wq:laidOutB Tryz.prog=true:=by kernel_rfl
section
variable {H:Type} {enc:TypeId × Value→H} {w:World} {base:Nat} {spare:Nat→Bool} {held:Bool}
theorem xQ {α:Type} {enc:α→List Value} {m:Nat} (hm: ∀ a,(enc a).length=m) (w:World) (g o:Nat): ∀ (L:List α),(∀ (i:Nat) (a:α),L[i]? =some a→Cells w g (o+i*m) (enc a))→Cells w g o (L.flatMap enc):=by
 intro L h j v hv;by_cases hm0:m=0
 ·have:(L.flatMap enc).length=0:=by rw [cE hm,hm0,Nat.mul_zero]
  rw [IC (by omega)] at hv;cases hv
 have hlen:(L.flatMap enc).length=L.length*m:=cE hm L;have hj:j<(L.flatMap enc).length:=(IQ.1 hv).1;have hi:j / m<L.length:=by rw [Nat.div_lt_iff_lt_mul (by omega)];omega
 have hk:j % m<m:=Nat.mod_lt _ (by omega);have he:j / m*m+j % m=j:=by rw [Nat.mul_comm];exact Nat.div_add_mod j m
 have h1:=mB hm L (j / m) (j % m) hi hk;rw [he,hv] at h1;have h2:=h (j / m) L[j / m] (Ir hi) (j % m) v h1.symm;rw [show o+j / m*m+j % m=o+j by omega] at h2;exact h2
theorem zU {α:Type} [Inhabited α] {encA:α→List Value} {ok:α→Prop} {P:Program} {t e m fuel:Nat} {cs:List Value} {x:DataW H × List MemPlace} (ht:P.underlying t=some (.slice e)) (hm:P.cellsOf e=m) (hm0:0<m) (hlenA: ∀ a,(encA a).length=m)
 (helem: ∀ (n:Nat) (cs:List Value) (y:DataW H × List MemPlace),DataW.trod enc P w 0 spare held n e cs=some y→ ∃ a,cs=encA a∧ok a) (h:DataW.trod enc P w 0 spare held fuel t cs=some x):
 ∃ (v:Value) (L:List α),cs= [v]∧Reads w v L.length (L.flatMap encA)∧ ∀ a∈L,ok a:=by
 rcases open_slice ht h with ⟨h0,_⟩|⟨a,len,cap,mm,n,D,Pl,h0,hb,hl,hmx,hmm,_,hx⟩
 ·exact ⟨_,[],h0,⟨none,0,rfl,IK _,Iw _,fun h=>by cases h⟩,fun _ h=>by cases h⟩
 ·have hlm:len≤mm:=by rw [hmm];split<;>omega
  obtain ⟨F,hF⟩:=choose_lt (α:=α) (n:=len) (p:=fun i nd=>w.cells? 0 (a.add (i*m)) m=some (encA nd)∧ok nd) (fun i hi=>by
   obtain ⟨cs',h1,h2⟩:=hx i (by omega);rw [hm] at h1;obtain ⟨nd,rfl,hw⟩:=helem _ _ _ h2;exact ⟨nd,h1,hw⟩)
  have hlen:((List.range len).map F).length=len:=by simp
  refine ⟨_,(List.range len).map F,h0,⟨some a,cap,by rw [hlen],by omega,hmx,fun hpos=> ?_⟩,fun n hn=> ?_⟩
  rotate_left
  ·obtain ⟨i,hi,rfl⟩:=IM.1 hn;exact (hF i (IJ.1 hi)).2
  rw [hlen] at hpos;obtain ⟨g,o,spot⟩:=a;have hspot:spot=none:=by
   obtain ⟨_,_,h3⟩:=World.cells?_some (hF 0 (by omega)).1;have h4' :=h3 0 hm0;rw [Ir (by rw [hlenA];exact hm0)] at h4';have h4:=World.cell?_spot h4';simpa [Addr.add] using h4
  subst hspot;have hcell: ∀ (i:Nat) (nd:α),((List.range len).map F)[i]? =some nd→Cells w g (o+i*m) (encA nd):=by
   intro i nd hnd k v hv;have hil:i<len:=by have:=(IQ.1 hnd).1;omega
   have hnd' :F i=nd:=by simpa [hil] using hnd
   subst hnd';have hk:k<m:=by have:=(IQ.1 hv).1;rwa [hlenA] at this
   obtain ⟨_,_,h3⟩:=World.cells?_some (hF i hil).1;have:=h3 k hk;rw [hv,bA,bA] at this;exact this
  refine ⟨g,o,rfl,?_,xQ hlenA w g o _ hcell⟩;obtain ⟨u,hu⟩: ∃ u,(encA (F 0))[0]? =some u:=⟨_,Ir (by rw [hlenA];exact hm0)⟩;have h5:=hcell 0 (F 0) (by simp [hpos]) 0 u hu;simp only [World.cell?] at h5;split at h5
  ·rename_i h6;exact (IW.1 h6).1
  ·cases h5
theorem BU {n:Nat} {c:Value} {x:DataW H × List MemPlace} (h:DataW.trod enc Tryz.prog w base spare held n 3 [c]=some x): ∃ a,c= .int .i64 a∧I64 a:=by
 obtain ⟨a0,q0,_,w0⟩:=DataW.trod_int Tryz.underlying3 h;simp only [List.cons.injEq,and_true] at q0;exact ⟨a0,q0,bounds_i64 w0⟩
theorem F6 {n:Nat} {c:Value} {x:DataW H × List MemPlace} (h:DataW.trod enc Tryz.prog w base spare held n 9 [c]=some x): ∃ a,c= .string a:=by
 obtain ⟨a0,q0,_⟩:=DataW.trod_string Tryz.underlying9 h;simp only [List.cons.injEq,and_true] at q0;exact ⟨a0,q0⟩
def HP (p:Pu):Prop:=I64 p.col∧I64 p.row
set_option maxRecDepth 100000 in
theorem BT {fuel:Nat} {cs:List Value} {x:DataW H × List MemPlace} (h:DataW.trod enc Tryz.prog w base spare held fuel 104 cs=some x): ∃ v:Pu,cs=Dd v∧HP v:=by
 obtain ⟨xs,n,_,_,hlen,hxl,hf⟩:=DataW.trod_struct Tryz.underlying104 h;have eS:Tryz.prog.cellsOf 104=3:=by kernel_rfl
 have eI:Tryz.prog.cellsOf 3=1:=by kernel_rfl
 have eT:Tryz.prog.cellsOf 9=1:=by kernel_rfl
 rw [eS] at hlen
 match cs,hlen,xs,hxl with
 | [c0,c1,c2],_,[x0,x1,x2],_=>
  have h0:DataW.trod enc Tryz.prog w base spare held n 3 ((([c0,c1,c2]:List Value).drop 0).take (Tryz.prog.cellsOf 3))=some x0:=hf 0 _ rfl;rw [eI] at h0;obtain ⟨a0,rfl,w0⟩:=BU (c:=c0) h0;have h1:DataW.trod enc Tryz.prog w base spare held n 3 ((([Value.int .i64 a0,c1,c2]:List Value).drop 1).take (Tryz.prog.cellsOf 3))=some x1:=hf 1 _ rfl;rw [eI] at h1;obtain ⟨a1,rfl,w1⟩:=BU (c:=c1) h1;have h2:DataW.trod enc Tryz.prog w base spare held n 9 ((([Value.int .i64 a0,.int .i64 a1,c2]:List Value).drop 2).take (Tryz.prog.cellsOf 9))=some x2:=hf 2 _ rfl;rw [eT] at h2;obtain ⟨a2,rfl⟩:=F6 (c:=c2) h2;exact ⟨⟨a0,a1,a2⟩,rfl,w0,w1⟩
instance iN346:Inhabited Pu:=⟨⟨0,0,aA⟩⟩
set_option maxRecDepth 100000 in
theorem zV {α:Type} [Inhabited α] {encA:α→List Value} {ok:α→Prop} {t e m:Nat} {v:Value} {d:DataW H} {p:List MemPlace} (ht:Tryz.prog.underlying t=some (.slice e)) (hm:Tryz.prog.cellsOf e=m) (hm0:0<m) (hlenA: ∀ a,(encA a).length=m)
 (helem: ∀ (n:Nat) (cs:List Value) (y:DataW H × List MemPlace),DataW.trod enc Tryz.prog w 0 spare held n e cs=some y→ ∃ a,cs=encA a∧ok a)
 (hv:Value.okWide Tryz.prog w .any base t v) (h:DataW.Trod enc Tryz.prog w 0 spare held t v d p): ∃ L:List α,Reads w v L.length (L.flatMap encA)∧ ∀ a∈L,ok a:=by
 obtain ⟨fuel,hf⟩:=h;have hc:v.cells.toList= [v]:=by
  obtain ⟨a,n,c,rfl⟩:=okWide_slice ht hv
  rfl
 rw [hc] at hf;obtain ⟨v',L,q,h1,h2⟩:=zU ht hm hm0 hlenA helem hf;simp only [List.cons.injEq,and_true] at q;subst q;exact ⟨L,h1,h2⟩
set_option maxRecDepth 100000 in
theorem GY {v:Value} {d:DataW H} {p:List MemPlace} (hv:Value.okWide Tryz.prog w .any base 39 v) (h:DataW.Trod enc Tryz.prog w 0 spare held 39 v d p): ∃ L:List Pu,Reads w v L.length (L.flatMap Dd)∧ ∀ a∈L,HP a:=
 zV Tryz.underlying39 (by kernel_rfl) (by decide) AK (fun _ _ _ h=>BT h) hv h
end
end Go.SL
namespace Go.SL
open Go Go.RowKit
theorem pK {p:Prop} (h:p:=by (repeat first|exact .hd|apply Sel.tl|apply In.tl);(first|done|fail)):p:=h
theorem sB {p:Prop} (h:p:=by (repeat (first|exact Sub.nil _|refine Sub.cons rfl ?_));(first|done|fail)):p:=h
theorem mS {p:Prop} (h:p:=by (repeat (first|exact MSub.nil _|refine MSub.pick (by (repeat first|exact .hd|apply Sel.tl|apply In.tl)) ?_|exact MSub.refl _|refine MSub.drop .hd ?_));(first|done|fail)):p:=h
theorem vC {P:Program} {w0:World} {s:au} {H:List Blk} {op:Op} {ty:TypeId} {v:Value} (h:VOp P w0 s H op ty v:=by
 first
 |((with_reducible apply FQ);exact rfl)
 |((with_reducible apply uh);exact rfl)
 |((with_reducible apply Hi);exact rfl)
 |((with_reducible apply BL);exact rfl)
 |((with_reducible apply ou);exact rfl)
 |((with_reducible apply ow);exact rfl;exact pK;exact rfl)
 |((with_reducible apply FY);exact rfl;exact rfl)
 |((with_reducible apply v_neqb);exact rfl;exact rfl)
 |((with_reducible apply yq);exact rfl;exact rfl)
 |((with_reducible apply yp);exact rfl;exact rfl)
 |((with_reducible apply ub);exact rfl;exact pK;exact rfl)
 |((with_reducible apply ud);exact rfl;exact pK;exact rfl;exact rfl)
 |((with_reducible apply DS);(iterate 3 exact rfl))
 |((with_reducible apply Ha);(iterate 3 exact rfl))
 |((with_reducible apply df);exact rfl)
 |((with_reducible apply DN);exact rfl)
 |((with_reducible apply v_neqpn);exact rfl)):VOp P w0 s H op ty v:=h
theorem vC2 {P:Program} {w0:World} {s:au} {H:List Blk} {op:Op} {ty:TypeId} {v:Value} (h:VOp P w0 s H op ty v:=by
 first
 |((with_reducible apply ug);exact rfl;exact rfl;(first|assumption|omega))
 |((with_reducible apply FW);exact rfl;exact rfl;(first|assumption|omega))
 |((with_reducible apply wM);(iterate 3 exact rfl);(first|assumption|omega))
 |((with_reducible apply BC);exact rfl;exact rfl;(first|assumption|omega))
 |((with_reducible apply DM);exact rfl;exact rfl;(first|assumption|omega))
 |((with_reducible apply BD);exact rfl;exact rfl;(first|assumption|omega))
 |((with_reducible apply ug (j:=4));exact rfl;exact rfl;(first|assumption|omega))
 |((with_reducible apply BD (hi:=4));exact rfl;exact rfl;(first|assumption|omega))
 |((with_reducible apply BC (lo:=1));exact rfl;exact rfl;(first|assumption|omega))
 |((with_reducible apply zn);(iterate 3 exact rfl))
 |((with_reducible apply qF);(iterate 3 exact rfl))):VOp P w0 s H op ty v:=h
theorem vA {P:Program} {w0:World} {s:au} {H:List Blk} {op:Op} {ty:TypeId} {v:Value} (h:VOp P w0 s H op ty v:=by
 first
 |((with_reducible apply jN);exact rfl;exact rfl;(simp only [maxLen] at*;omega))
 |((with_reducible apply v_1addN);exact rfl;exact rfl;(simp only [maxLen] at*;omega))
 |((with_reducible apply rW);exact rfl;exact rfl;(simp only [maxLen] at*;omega))
 |((with_reducible apply fp);exact rfl;exact rfl;omega;(simp only [maxLen] at*;omega))
 |((with_reducible apply lX);exact rfl;exact rfl;omega;(simp only [maxLen] at*;omega))
 |((with_reducible apply BK);exact rfl;exact rfl)):VOp P w0 s H op ty v:=h
theorem vI {P:Program} {w0:World} {s:au} {H:List Blk} {op:Op} {ty:TypeId} {v:Value} (h:VOp P w0 s H op ty v:=by
 first
 |((with_reducible apply qH);exact rfl;exact rfl;exact ⟨by omega,by omega⟩)
 |((with_reducible apply tY);exact rfl;exact rfl;exact ⟨by omega,by omega⟩)
 |((with_reducible apply Fu);exact rfl;exact rfl;exact ⟨by omega,by omega⟩)):VOp P w0 s H op ty v:=h
theorem vR {P:Program} {w0:World} {s:au} {H:List Blk} {op:Op} {ty:TypeId} {v:Value} (h:VOp P w0 s H op ty v:=by
 first
 |((with_reducible apply aa);exact rfl;exact rfl;(first|assumption|omega))
 |((with_reducible apply bZ);exact rfl;assumption;exact rfl)
 |((with_reducible apply aG);exact rfl;assumption)
 |((with_reducible apply iR);exact rfl;assumption;exact rfl)):VOp P w0 s H op ty v:=h
theorem sT {p q:Prop} (k:q) (h:q→p:=by
 first
 |(with_reducible first|exact Bn|exact Hr|exact G3|exact Bw|exact G5|exact FL|exact FN|exact DL|exact Hp|exact Hs|exact H4|exact HY|exact H5|exact cut_r|exact cut_e)
 |(intro k;(with_reducible apply ai);exact rfl;exact vC;exact k)
 |(intro k;(with_reducible apply DE);exact rfl;exact rfl;exact k)
 |(intro k;(with_reducible apply Bp);(iterate 4 exact rfl);exact k)
 |(intro k;(with_reducible apply Bo);(iterate 3 exact rfl);exact k)
 |(intro k;(with_reducible apply p9);exact rfl;exact rfl;exact pK;(iterate 3 exact rfl);exact k)
 |(intro k;(with_reducible apply tQ);exact rfl;exact rfl;exact pK;(iterate 4 exact rfl);exact k)
 |(intro k;(with_reducible apply tX);exact rfl;exact k)
 |(intro k;(with_reducible apply rU);exact rfl;exact k)
 |(intro k;(with_reducible apply HX);exact rfl;exact k)):p:=h k
theorem sM {p:Prop} {q:Nat→Prop} (k: ∀ g,q g) (h:(∀ g,q g)→p:=by
 first
 |(intro k;(with_reducible apply DF);exact rfl;exact rfl;exact k)
 |(intro k;(with_reducible apply DG);(iterate 3 exact rfl);exact k)
 |(intro k;(with_reducible apply Bv);exact rfl;exact k)
 |(intro k;(with_reducible apply qa);(iterate 7 exact rfl);exact k)):p:=h k
theorem sT2 {p q:Prop} (k:q) (h:q→p:=by exact ai rfl vC2):p:=h k
theorem sQ2 {p q:Prop} (k:q) (h:q→p:=by exact cg rfl vC2):p:=h k
theorem sS {p q:Prop} (k:q) (h:q→p:=by with_reducible first|exact DI|exact DJ|exact scp_n|exact HK|exact scp_e):p:=h k
theorem sP {p q:Prop} (k:q) (h:q→p:=by with_reducible first|exact Hq|exact HZ|exact HW|exact scp_p):p:=h k
theorem sC {p q1 q2 r1 r2:Prop} (k1:q1→q2) (k2:r1→r2) (h:(q1→q2)→(r1→r2)→p:=by
 intro k1 k2
 first
 |((with_reducible apply zf);exact rfl;exact rfl;exact fun hb=>k1 (Tidy.out hb);exact fun hb=>k2 (Tidy.out hb))
 |((with_reducible apply FP);exact rfl;exact fun hb=>k1 (Tidy.out hb);exact fun hb=>k2 (Tidy.out hb))):p:=h k1 k2
theorem cT {p:Prop} (h:p:=by (with_reducible apply dr (i:=()))<;>first|exact trivial|((repeat (first|exact Sub.nil _|refine Sub.cons rfl ?_));done)|((repeat (first|exact MSub.nil _|refine MSub.pick (by (repeat first|exact .hd|apply Sel.tl|apply In.tl)) ?_|exact MSub.refl _|refine MSub.drop .hd ?_));done)|fail):p:=h
theorem sQ {p q:Prop} (k:q) (h:q→p:=by
 first
 |(with_reducible exact FG)
 |(intro k;(with_reducible apply cg);exact rfl;exact vC;exact k)
 |(intro k;(with_reducible apply DB);exact rfl;exact rfl;exact k)
 |(intro k;(with_reducible apply Bj);(iterate 4 exact rfl);exact k)
 |(intro k;(with_reducible apply wq_gno_u);(iterate 3 exact rfl);exact k)):p:=h k
theorem sCQ {p q1 q2 r1 r2:Prop} (k1:q1→q2) (k2:r1→r2) (h:(q1→q2)→(r1→r2)→p:=by
 intro k1 k2
 first
 |((with_reducible apply y9);exact rfl;exact rfl;exact fun hb=>k1 (Tidy.out hb);exact fun hb=>k2 (Tidy.out hb))):p:=h k1 k2
theorem sD {p q:Prop} (k:q) (h:q→p:=by intro k;(with_reducible apply BA);kernel_rfl;kernel_rfl;exact k):p:=h k
theorem sN {p q:Prop} (k:q) (h:q→p:=by exact ai rfl vA):p:=h k
theorem sNQ {p q:Prop} (k:q) (h:q→p:=by exact cg rfl vA):p:=h k
theorem sJ {p q:Prop} (k:q) (h:q→p:=by exact ai rfl vI):p:=h k
theorem sJQ {p q:Prop} (k:q) (h:q→p:=by exact cg rfl vI):p:=h k
theorem sJG {p q:Prop} (k:q) (h:q→p:=by exact iL (f:=60) rfl (by decide+kernel) rfl vI):p:=h k
theorem sO {p q:Prop} (k:q) (h:q→p:=by exact ai rfl vR):p:=h k
theorem sOQ {p q:Prop} (k:q) (h:q→p:=by exact cg rfl vR):p:=h k
theorem sG {p q:Prop} (k:q) (h:q→p:=by
 first
 |(with_reducible exact rM)
 |(intro k;(with_reducible apply wI);exact rfl;(intro D ht;exact vC);exact fun _=>rfl;exact k)
 |exact wJ _ _ rfl rfl (fun D=> .hd) rfl rfl rfl (fun _=>Nat.le_of_ble_eq_true rfl) (fun D ht=> .refl _)
 |(intro k;(with_reducible apply iL (f:=60));exact rfl;decide+kernel;exact rfl;exact vC;exact k)):p:=h k
theorem sX {p q:Prop} (k:q) (h:q→p:=by
 first
 |(with_reducible exact wx_nil)
 |(intro k;(with_reducible apply wx_v);(iterate 3 exact rfl);(intro D ht;exact vC);exact fun _=>rfl;exact k)
 |(intro k;(with_reducible apply wx_gno);(iterate 3 exact rfl);exact fun _=>rfl;exact k)):p:=h k
theorem sCX {p q1 q2 r1 r2:Prop} (k1:q1→q2) (k2:r1→r2) (h:(q1→q2)→(r1→r2)→p:=by
 intro k1 k2
 first
 |((with_reducible apply wx_gsplit);exact rfl;exact rfl;exact fun hb=>k1 (Tidy.out hb);exact fun hb=>k2 (Tidy.out hb))):p:=h k1 k2
theorem sXO {p q:Prop} (k:q) (h:q→p:=by exact wx_v rfl rfl rfl (fun D ht=>vR) (fun _=>rfl)):p:=h k
theorem sBG {p q:Prop} (k:q) (h:q→p:=by with_reducible first|exact wl_app_c|exact wl_app_n):p:=h k
theorem sI {p q:Prop} (k:q) (h:q→p:=by first|(with_reducible exact DD)|(intro k;(with_reducible apply Fm);exact rfl;exact rfl;exact vC;exact k)):p:=h k
theorem sR {p q:Prop} (k:q) (h:q→p:=by
 first
 |(with_reducible first|exact wr_seq|exact wr_ret|exact wr_exit|exact DA|exact Bi|exact Bh|exact nT|exact wt_seq_c|exact wt_seq_b|exact wt_seq_k|exact wt_last_r|exact tM|exact y7|exact AH|exact AG)
 |(intro k;(with_reducible apply wr_cond_true);exact rfl;exact k)
 |(intro k;(with_reducible apply wr_cond_false);exact rfl;exact k)
 |(intro k;(with_reducible apply y8);exact rfl;(repeat (first|exact zL|exact xS|apply no_thn|apply Gy|apply no_cut));exact k)):p:=h k
theorem sCR {p q1 q2 r1 r2:Prop} (k1:q1→q2) (k2:r1→r2) (h:(q1→q2)→(r1→r2)→p:=by
 intro k1 k2
 first
 |((with_reducible apply wr_cond);exact rfl;exact fun hb=>k1 (Tidy.out hb);exact fun hb=>k2 (Tidy.out hb))):p:=h k1 k2
theorem sW {p q:Prop} (k:q) (h:q→p:=by
 first
 |(with_reducible exact FJ)
 |(intro k;(with_reducible apply kX);(iterate 3 exact rfl);exact vC;exact k)
 |(intro k;(with_reducible apply FK);(iterate 3 exact rfl);exact k)
 |(intro k;(with_reducible apply wc_gno0);exact rfl;exact k)
 |(intro k;(with_reducible apply H8);exact rfl;exact rfl;exact k)
 |(intro k;(with_reducible apply wc_p);(iterate 4 exact rfl);exact vC;exact k)
 |(intro k;(with_reducible apply v6);exact mS;exact k)):p:=h k
theorem sW2 {p q:Prop} (k:q) (h:q→p:=by exact kX rfl rfl rfl vC2):p:=h k
theorem sWN {p q:Prop} (k:q) (h:q→p:=by exact kX rfl rfl rfl vA):p:=h k
theorem sWJ {p q:Prop} (k:q) (h:q→p:=by exact kX rfl rfl rfl vI):p:=h k
theorem sCW {p q1 q2 r1 r2:Prop} (k1:q1→q2) (k2:r1→r2) (h:(q1→q2)→(r1→r2)→p:=by
 intro k1 k2
 first
 |((with_reducible apply zi);exact rfl;exact rfl;exact fun hb=>k1 (Tidy.out hb);exact fun hb=>k2 (Tidy.out hb))):p:=h k1 k2
theorem sG2 {p q:Prop} (k:q) (h:q→p:=by first|exact wI rfl (fun D ht=>vC2) (fun _=>rfl)|exact iL (f:=60) rfl (by decide+kernel) rfl vC2):p:=h k
theorem sX2 {p q:Prop} (k:q) (h:q→p:=by exact wx_v rfl rfl rfl (fun D ht=>vC2) (fun _=>rfl)):p:=h k
theorem zZA {p q:Prop} (k:q) (h:q→p:=by first|exact fun k=>sT k|exact fun k=>sS k|exact fun k=>sN k|fail):p:=h k
theorem zZB {p q:Prop} (k:q) (h:q→p:=by first|exact fun k=>sT k|exact fun k=>sS k|fail):p:=h k
theorem zZC {p q:Prop} (k:q) (h:q→p:=by first|exact fun k=>sT k|exact fun k=>sP k|fail):p:=h k
theorem zZD {p q:Prop} (k:q) (h:q→p:=by first|exact fun k=>sT k|exact fun k=>sT2 k|fail):p:=h k
theorem zZE {p q:Prop} (k:q) (h:q→p:=by first|exact fun k=>sT k|exact fun k=>sS k|exact fun k=>sT2 k|exact fun k=>sN k|fail):p:=h k
theorem zZF {p q:Prop} (k:q) (h:q→p:=by first|exact fun k=>sT k|exact fun k=>sT2 k|exact fun k=>sN k|fail):p:=h k
theorem zZG {p q:Prop} (k:q) (h:q→p:=by first|exact fun k=>sT k|exact fun k=>sS k|exact fun k=>sW k|fail):p:=h k
theorem zZH {p q:Prop} (k:q) (h:q→p:=by first|exact fun k=>sT k|exact fun k=>sS k|exact fun k=>sT2 k|fail):p:=h k
theorem zZI {p q:Prop} (k:q) (h:q→p:=by first|exact fun k=>sT k|exact fun k=>sS k|exact fun k=>sQ k|exact fun k=>sN k|exact fun k=>sNQ k|exact fun k=>sD k|fail):p:=h k
theorem zZJ {p q:Prop} (k:q) (h:q→p:=by first|exact fun k=>sT k|exact fun k=>sT2 k|exact fun k=>sG2 k|exact fun k=>sJ k|exact fun k=>sJG k|exact fun k=>sG k|fail):p:=h k
theorem zZK {p q:Prop} (k:q) (h:q→p:=by first|exact fun k=>sT k|exact fun k=>sI k|exact fun k=>sQ k|exact fun k=>sT2 k|exact fun k=>sQ2 k|exact fun k=>sN k|exact fun k=>sNQ k|exact fun k=>sD k|fail):p:=h k
theorem zZL {p q:Prop} (k:q) (h:q→p:=by first|exact fun k=>sT k|exact fun k=>sS k|exact fun k=>sW k|exact fun k=>sN k|exact fun k=>sWN k|fail):p:=h k
theorem eIO {p:Prop} (h:p:=by first|exact .inl rfl|exact .inr rfl):p:=h
theorem rT0 {p q:Prop} (k:q) (h:q→p:=by intro k;(with_reducible apply gN);exact .inl rfl;exact rfl;exact MSub.nil _;exact k):p:=h k
theorem rT1 {p q:Prop} (k:q) (h:q→p:=by intro k;(with_reducible apply bB);exact .inl rfl;exact rfl;exact rfl;exact MSub.nil _;exact k):p:=h k
theorem rT2 {p q:Prop} (k:q) (h:q→p:=by intro k;(with_reducible apply eX);exact .inl rfl;(iterate 3 exact rfl);exact MSub.nil _;exact k):p:=h k
theorem rT3 {p q:Prop} (k:q) (h:q→p:=by intro k;(with_reducible apply zM);exact .inl rfl;(iterate 4 exact rfl);exact MSub.nil _;exact k):p:=h k
theorem eRC {p q:Prop} (k:q) (h:q→p:=by first|exact Cl (.inl rfl) rfl rfl pK rfl (MSub.nil _)|exact Cl (.inr rfl) rfl rfl pK rfl (MSub.nil _)):p:=h k
theorem jm {p q:Prop} (k:q) (h:q→p:=by first|exact Fy (.inl rfl) rfl rfl pK rfl rfl (MSub.nil _)|exact Fy (.inr rfl) rfl rfl pK rfl rfl (MSub.nil _)):p:=h k
theorem Iq {p q:Prop} (k:q) (h:q→p:=by first|exact kJ (.inl rfl) rfl rfl pK rfl rfl rfl (MSub.nil _)|exact kJ (.inr rfl) rfl rfl pK rfl rfl rfl (MSub.nil _)):p:=h k
theorem nP {p:Prop} (h:p:=by (repeat (first|exact Gv|apply Gt|apply Gx|apply Gw));(first|done|fail)):p:=h
theorem vP {P:Program} {w0:World} {s:au} {H:List Blk} {op:Op} {ty:TypeId} {v:Value} (h:VOp P w0 s H op ty v:=by
 first|exact vC|((with_reducible apply lX);exact rfl;exact rfl;omega;omega)|((with_reducible apply BF);exact rfl;exact rfl;omega)):VOp P w0 s H op ty v:=h
end Go.SL
namespace Go.SL
open Go Go.Proofs
attribute [local irreducible] W WL WQ WG WA VOp thn blk aW aJ FnAt FnIn
def fw (n:Nd):Bool:=decide (n.kind=2)||decide (n.kind=3)
theorem zN (n:Nd) (w:World):aC Tryz.prog 153 [.agg (dO n).toArray] w (.bool (fw n)):=by
 refine ax Tryz.func153 rfl Tryz.ntmps153 rfl ?_;repeat' (first|refine sT ?_|refine sM fun _=>?_|(refine sC ?_ ?_<;>intro hb<;>try omega)|fail)
 all_goals
  (refine rT1 ?_);simp [fw, *]
def vg (a b:Rct):Rct:=⟨if a.c1<b.c1 then b.c1 else a.c1,if a.r1<b.r1 then b.r1 else a.r1,if b.c2<a.c2 then b.c2 else a.c2,if b.r2<a.r2 then b.r2 else a.r2⟩
def FB (a b:Rct):Rct × Bool:=if [a,b,vg a b].all dC=true then (vg a b,true) else (bp,false)
end Go.SL
namespace Go.SL
open Go Go.Proofs
attribute [local irreducible] W WL WQ WG WA VOp thn blk aW aJ FnAt FnIn WLI WR WT bg rr lR oQ
def uo (r:Rct) (u:Us):Bool:=(FB u.rect r).2
end Go.SL
namespace Go.SL
open Go Go.Proofs
attribute [local irreducible] W WL WQ WG WA VOp thn blk aW aJ FnAt FnIn GV
theorem oS (r:Rct):dC r=true↔1≤r.c1∧r.c1≤1024∧1≤r.r1∧r.r1≤1024∧1≤r.c2∧r.c2≤1024∧1≤r.r2∧r.r2≤1024∧r.c1≤r.c2∧r.r1≤r.r2:=by
 simp only [dC,valid,IX,decide_eq_true_eq];omega
theorem zx (r:Rct) (u:Us):uo r u=true↔dC u.rect=true∧dC r=true∧u.rect.c1≤r.c2∧r.c1≤u.rect.c2∧u.rect.r1≤r.r2∧r.r1≤u.rect.r2:=by
 have h:uo r u= [u.rect,r,vg u.rect r].all dC:=by
  unfold uo FB;cases [u.rect,r,vg u.rect r].all dC<;>simp
 rw [h];simp only [List.all_cons,List.all_nil,Bool.and_true,IX,oS];generalize u.rect=a;unfold vg;dsimp only;repeat' split
 all_goals omega
end Go.SL
namespace Go.SL
open Go Go.Proofs
attribute [local irreducible] W WL WQ WG WA WX WLI WR WT WC VOp RW thn blk aW scp aJ aS bg FnAt FnIn FnP ceP
theorem tH (L M:List Rf) (lv mv:Value) (w:World) (hl:Reads w lv L.length (L.flatMap az)) (hm:Reads w mv M.length (M.flatMap az)):
 aC Tryz.prog 23 [lv,mv] w (.bool (decide (L=M))):=by
 obtain ⟨Al,cl,rfl,hl1,hl2,hl3⟩:=hl;obtain ⟨Am,cm,rfl,hm1,hm2,hm3⟩:=hm;refine ax Tryz.func23 rfl Tryz.ntmps23 rfl ?_;by_cases hlen:L.length=M.length
 ·repeat' (first|refine zZB ?_|refine sM fun _=>?_|(refine sC ?_ ?_<;>intro hb<;>try omega)|fail)
  refine fc (fun i:Nat=> [(0,.slice Al L.length cl),(1,.slice Am M.length cm),(5,.int .i64 (i:Int))]) (fun _=> []) (fun i=>i≤L.length∧decide (L=M)=decide (L.drop i=M.drop i)) (fun i=>L.length - i) 0 ⟨by omega,rfl⟩ ?_ ?_ ?_
  ·exact sB
  ·exact mS
  ·rintro i ⟨hi,hrec⟩;by_cases hlt:i<L.length
   ·have hlt2:i<M.length:=by omega
    obtain ⟨gl,ol,rfl,hrl⟩:=hl3 (by omega);obtain ⟨gm,om,rfl,hrm⟩:=hm3 (by omega);have he1:=hrl.elem bN i hlt;have he2:=hrm.elem bN i hlt2;rw [EO hlt hlt2,← yV] at hrec;repeat' (first|(apply cg;exact rfl;apply aa;exact rfl;exact rfl;(first|exact hlt|exact hlt2))|(apply cg;exact rfl;apply bZ;exact rfl;(first|exact he1|exact he2);exact rfl)|(apply cg;exact rfl;apply FU;exact rfl;exact rfl)|(apply ai;exact rfl;apply jN;exact rfl;exact rfl;(simp only [maxLen] at*;omega))|refine sT ?_|refine sS ?_|refine sQ ?_|refine sD ?_|refine sM fun _=>?_|(refine sC ?_ ?_<;>intro hb<;>try omega)|(refine sCQ ?_ ?_<;>intro hb<;>try omega)|fail)
    ·(refine rT1 ?_);rw [hrec];simp_all
    ·refine ⟨i+1,⟨by omega,?_⟩,by omega,?_,?_⟩
     ·rw [hrec];simp_all
     ·exact sB
     ·exact mS
   ·have e:i=L.length:=by omega
    subst e;repeat' (first|refine zZB ?_|refine sM fun _=>?_|(refine sC ?_ ?_<;>intro hb<;>try omega)|fail)
    (refine rT1 ?_);rw [hrec,JW,hlen,JW]
    rfl
 ·repeat' (first|refine zZB ?_|refine sM fun _=>?_|(refine sC ?_ ?_<;>intro hb<;>try omega)|fail)
  (refine rT1 ?_);rw [decide_eq_false];intro e;exact hlen (congrArg List.length e)
theorem eD {L M:List Rf} (h:L=M) {lv mv:Value} {w:World} (hl:Reads w lv L.length (L.flatMap az)) (hm:Reads w mv M.length (M.flatMap az)):aC Tryz.prog 23 [lv,mv] w (.bool true):=by
 have:=tH L M lv mv w hl hm;rwa [decide_eq_true h] at this
end Go.SL
namespace Go.SL
open Go Go.Proofs
attribute [local irreducible] W WL WQ WG VOp thn blk aJ FnAt FnIn
set_option maxRecDepth 10000 in
theorem jq (c r:Int) (w:World):aC Tryz.prog 44 [.agg #[.int .i64 c,.int .i64 r]] w (.bool (valid c r)):=by
 refine ax Tryz.func44 rfl Tryz.ntmps44 rfl ?_;repeat' (first|refine sT ?_|refine sM fun _=>?_|(refine sC ?_ ?_<;>intro hb<;>try omega)|fail)
 all_goals ((refine rT1 ?_);((try simp only [← Int.not_lt] at*);simp_all [valid, -Int.not_lt, -Int.not_le,← Int.not_lt]))
set_option maxRecDepth 10000 in
theorem xM (r:Rct) (w:World):aC Tryz.prog 83 [.agg (qm r).toArray] w (.tuple #[.agg #[.int .i64 r.c1,.int .i64 r.r1],.agg #[.int .i64 r.c2,.int .i64 r.r2]]):=by
 refine ax Tryz.func83 rfl Tryz.ntmps83 rfl ?_;repeat' (first|refine sT ?_|refine sM fun _=>?_|(refine sC ?_ ?_<;>intro hb<;>try omega)|fail)
 rename_i g1 g2 g3;refine nH (fun D=> [.box g2 28 [.int .i64 (bif D 10 then r.c1 else 0),.int .i64 (bif D 10 then r.r1 else 0)],.box g3 28 [.int .i64 (bif D 11 then r.c2 else 0),.int .i64 (bif D 11 then r.r2 else 0)],.box g1 61 (qm r)]) (by kernel_rfl) (by kernel_rfl) (.pick (.tl .hd) (.pick .hd (.refl _))) ?_;repeat' (first|refine sT ?_|refine sG ?_|refine sM fun _=>?_|(refine sC ?_ ?_<;>intro hb<;>try omega)|fail)
 refine wJ _ _ rfl rfl (fun D=> .tl .hd) rfl rfl rfl (fun _=>IK _) (fun D ht=> .pick (.tl .hd) (.pick .hd (.refl _))) ?_;refine rM fun D hD=> ?_;have h10:=hD 10 (by decide);have h11:=hD 11 (by decide);simp only [h10,h11,cond_true];repeat' (first|refine sT ?_|refine sM fun _=>?_|(refine sC ?_ ?_<;>intro hb<;>try omega)|fail)
 refine HM (.inl rfl) Tryz.results83 rfl .hd rfl rfl (.tl .hd) rfl (MSub.nil _) ?_
 rfl
set_option maxRecDepth 10000 in
theorem jR (r:Rct) (w:World):aC Tryz.prog 39 [.agg (qm r).toArray] w (.int .i64 (oT r)):=by
 refine ax Tryz.func39 rfl Tryz.ntmps39 rfl ?_;repeat' (first|(apply ag;exact rfl;exact rfl;(intro w hm;exact xM r w))|(apply ag;exact rfl;exact rfl;(intro w hm;exact jq r.c1 r.r1 w))|(apply ag;exact rfl;exact rfl;(intro w hm;exact jq r.c2 r.r2 w))|refine sT ?_|refine sM fun _=>?_|(refine sC ?_ ?_<;>intro hb<;>try omega)|fail)
 all_goals ((refine rT1 ?_);((try simp only [← Int.not_lt] at*);simp_all [oT,dC, -Int.not_lt, -Int.not_le,← Int.not_lt]))
set_option maxRecDepth 10000 in
theorem CN (fn:Int) (w:World):aC Tryz.prog 299 [.int .u8 fn] w (.bool (sH fn)):=by
 refine ax Tryz.func299 rfl Tryz.ntmps299 rfl ?_;repeat' (first|refine sT ?_|refine sM fun _=>?_|(refine sC ?_ ?_<;>intro hb<;>try omega)|fail)
 all_goals ((refine rT1 ?_);((try simp only [← Int.not_lt] at*);simp_all [sH, -Int.not_lt, -Int.not_le,← Int.not_lt]))
set_option maxRecDepth 10000 in
theorem mW (fn:Int) (w:World):aC Tryz.prog 281 [.int .u8 fn] w (.bool (ia fn)):=by
 refine ax Tryz.func281 rfl Tryz.ntmps281 rfl ?_;repeat' (first|refine sT ?_|refine sM fun _=>?_|(refine sC ?_ ?_<;>intro hb<;>try omega)|fail)
 all_goals ((refine rT1 ?_);((try simp only [← Int.not_lt] at*);simp_all [ia, -Int.not_lt, -Int.not_le,← Int.not_lt]))
set_option maxRecDepth 10000 in
theorem Dt (n:Nd) (w:World):aC Tryz.prog 252 [.agg (dO n).toArray] w (.int .i64 (below n)):=by
 refine ax Tryz.func252 rfl Tryz.ntmps252 rfl ?_;repeat' (first|refine sT ?_|refine sM fun _=>?_|(refine sC ?_ ?_<;>intro hb<;>try omega)|fail)
 all_goals ((refine rT1 ?_);simp_all [below])
set_option maxRecDepth 10000 in
theorem pW (fn:Int) (w:World):aC Tryz.prog 279 [.int .u8 fn] w (.tuple #[.int .i64 (dX fn).1,.int .i64 (dX fn).2.1,.int .i64 (dX fn).2.2]):=by
 refine ax Tryz.func279 rfl Tryz.ntmps279 rfl ?_;repeat' (first|(apply ag;exact rfl;exact rfl;(intro w hm;exact CN fn w))|refine sT ?_|refine sM fun _=>?_|(refine sC ?_ ?_<;>intro hb<;>try omega)|fail)
 all_goals ((refine rT3 ?_);simp_all [dX])
set_option maxRecDepth 10000 in
theorem yg (fn i:Int) (w:World):aC Tryz.prog 280 [.int .u8 fn,.int .i64 i] w (.tuple #[.bool (kW fn i).1,.int .i64 (kW fn i).2]):=by
 refine ax Tryz.func280 rfl Tryz.ntmps280 rfl ?_;repeat' (first|(apply ag;exact rfl;exact rfl;(intro w hm;exact pW fn w))|(apply ag;exact rfl;exact rfl;(intro w hm;exact mW fn w))|refine sT ?_|refine sM fun _=>?_|(refine sC ?_ ?_<;>intro hb<;>try omega)|fail)
 all_goals ((refine rT2 ?_);((try simp only [← Int.not_lt] at*);simp_all [kW, -Int.not_lt, -Int.not_le,← Int.not_lt]))
end Go.SL
namespace Go.SL
open Go Go.Proofs
attribute [local irreducible] W WL WQ WG WA VOp thn blk aJ FnAt FnIn
def gQ:List ByteArray:= [
 ⟨#[65,66,83]⟩,⟨#[83,73,71,78]⟩,⟨#[73,78,84]⟩,⟨#[84,82,85,78,67]⟩,⟨#[82,79,85,78,68]⟩,
 ⟨#[77,79,68]⟩,⟨#[80,79,87,69,82]⟩,⟨#[83,81,82,84]⟩,⟨#[83,85,77]⟩,⟨#[80,82,79,68,85,67,84]⟩,
 ⟨#[67,79,85,78,84]⟩,⟨#[67,79,85,78,84,65]⟩,⟨#[67,79,85,78,84,66,76,65,78,75]⟩,⟨#[65,86,69,82,65,71,69]⟩,⟨#[77,73,78]⟩,
 ⟨#[77,65,88]⟩,⟨#[77,69,68,73,65,78]⟩,⟨#[76,65,82,71,69]⟩,⟨#[83,77,65,76,76]⟩,⟨#[73,70]⟩,
 ⟨#[65,78,68]⟩,⟨#[79,82]⟩,⟨#[88,79,82]⟩,⟨#[78,79,84]⟩,⟨#[73,70,69,82,82,79,82]⟩,
 ⟨#[73,83,69,82,82,79,82]⟩,⟨#[73,83,66,76,65,78,75]⟩,⟨#[73,83,78,85,77,66,69,82]⟩,⟨#[73,83,84,69,88,84]⟩,⟨#[67,72,79,79,83,69]⟩,
 ⟨#[76,69,78]⟩,⟨#[76,69,70,84]⟩,⟨#[82,73,71,72,84]⟩,⟨#[77,73,68]⟩,⟨#[85,80,80,69,82]⟩,
 ⟨#[76,79,87,69,82]⟩,⟨#[84,82,73,77]⟩,⟨#[67,79,78,67,65,84]⟩,⟨#[82,69,80,84]⟩,⟨#[69,88,65,67,84]⟩,
 ⟨#[70,73,78,68]⟩,⟨#[86,65,76,85,69]⟩,⟨#[73,78,68,69,88]⟩,⟨#[77,65,84,67,72]⟩,⟨#[67,79,85,78,84,73,70]⟩,
 ⟨#[68,83,85,77]⟩,⟨#[68,67,79,85,78,84]⟩,⟨#[68,65,86,71]⟩,⟨#[68,77,73,78]⟩,⟨#[68,77,65,88]⟩]
theorem Cw (w:World):aC Tryz.prog 333 [] w (.agg (gQ.map Value.string).toArray):=by
 refine ax Tryz.func333 rfl Tryz.ntmps333 rfl ?_;repeat' (first|(apply tT;(iterate 5 exact rfl))|refine sT ?_|refine sM fun _=>?_|(refine sC ?_ ?_<;>intro hb<;>try omega)|fail)
 exact Cl (.inl rfl) Tryz.results333 rfl .hd rfl (MSub.nil _) rfl
theorem Ro.str1 {w:World} {g o:Nat} {L:List ByteArray} (h:Ro w g o (L.map Value.string)) (i:Nat) (hi:i<L.length):Ro w g (o+i*1) [Value.string L[i]]:=by
 have h1:=(h.drop (k:=i)).take (k:=1);rw [← List.map_drop,← List.map_take,IR hi] at h1;rw [Jd];exact h1
def dA:List ByteArray→ByteArray→Int→Int
 | [],_,_=> -1
 |a::r,s,i=>if s=a then i else dA r s (i+1)
theorem Dw (L:List ByteArray) (b:ByteArray) (tv:Value) (w:World) (ht:Reads w tv L.length (L.map Value.string)):aC Tryz.prog 334 [tv,.string b] w (.int .i64 (dA L b 0)):=by
 obtain ⟨Al,cl,rfl,hl1,hl2,hl3⟩:=ht;refine ax Tryz.func334 rfl Tryz.ntmps334 rfl ?_;repeat' (first|refine sT ?_|refine sM fun _=>?_|(refine sC ?_ ?_<;>intro hb<;>try omega)|fail)
 refine fc (fun i:Nat=> [(0,.slice Al L.length cl),(1,.string b),(7,.int .i64 (L.length:Int)),(8,.int .i64 (i:Int))]) (fun _=> []) (fun i=>i≤L.length∧dA L b 0=dA (L.drop i) b (i:Int)) (fun i=>L.length - i) 0 ⟨by omega,rfl⟩ ?_ ?_ ?_
 ·exact sB
 ·exact mS
 ·rintro i ⟨hi,hrec⟩;by_cases hlt:i<L.length
  ·obtain ⟨gl,ol,rfl,hrl⟩:=hl3 (by omega);have he:=hrl.str1 i hlt;rw [IR hlt,dA] at hrec;repeat' (first|(apply ai;exact rfl;apply aa;exact rfl;exact rfl;exact hlt)|(apply ai;exact rfl;apply aG;exact rfl;exact he)|(apply ai;exact rfl;apply jN;exact rfl;exact rfl;(simp only [maxLen] at*;omega))|refine sT ?_|refine sM fun _=>?_|(refine sC ?_ ?_<;>intro hb<;>try omega)|fail)
   ·(refine rT1 ?_);rw [hrec,if_pos hb]
   ·refine ⟨i+1,⟨by omega,?_⟩,by omega,?_,?_⟩
    ·rw [hrec,if_neg hb]
     rfl
    ·exact sB
    ·exact mS
  ·have e:i=L.length:=by omega
   subst e;repeat' (first|refine sT ?_|refine sM fun _=>?_|(refine sC ?_ ?_<;>intro hb<;>try omega)|fail)
   (refine rT1 ?_);rw [hrec,JW,dA]
theorem kq:gQ.length=50:=rfl
theorem kw (L:List ByteArray) (b:ByteArray) (i:Int) (h:0≤i):dA L b i= -1∨(i≤dA L b i∧dA L b i<i+L.length):=by
 induction L generalizing i with
 |nil=>exact .inl rfl
 |cons a r ih=>
  unfold dA;rw [IU];split
  ·right;omega
  ·rcases ih (i+1) (by omega) with h1|h1
   ·exact .inl h1
   ·right;omega
def bE (b:ByteArray):Int × Int:=if dA gQ b 0<0 then (0,6) else (dA gQ b 0+1,0)
theorem wy (b:ByteArray) (w:World):aC Tryz.prog 324 [.string b] w (.tuple #[.int .u8 (bE b).1,.int .i64 (bE b).2]):=by
 refine ax Tryz.func324 rfl Tryz.ntmps324 rfl ?_;have hb1:=kw gQ b 0 (by omega);rw [kq] at hb1;have hix:=fun w tv (h:Reads w tv (gQ.map Value.string).length (gQ.map Value.string))=>Dw gQ b tv w h;unfold bE;generalize dA gQ b 0=r at hb1 hix;repeat' (first|(apply ag;exact rfl;exact rfl;(intro w hm;exact Cw w))|(apply ai;exact rfl;apply tZ;exact rfl)|(apply ag;exact rfl;exact rfl;(intro w' hm;exact hix w' _ (Reads.of_box hm pK rfl)))|(apply ai;exact rfl;apply eJ;exact rfl;exact rfl;exact I64.wrap ⟨by omega,by omega⟩)|(apply ai;exact rfl;apply zq;exact rfl;exact jK (by omega) (by omega))|refine sT ?_|refine sM fun _=>?_|(refine sC ?_ ?_<;>intro hb<;>try omega)|fail)
 ·refine eX (.inl rfl) Tryz.results324 rfl rfl (.nil _) ?_;rw [if_pos hb]
 ·refine eX (.inl rfl) Tryz.results324 rfl rfl (.nil _) ?_;rw [if_neg (by omega)]
theorem py {L:List Nd} {i:Nat} (h:i<L.length):mo L i=L[i].kind:=by simp [mo,h]
theorem EH (L:List Nd) (n:Nd) (ps:List Pt) (tv lv:Value) (w:World) (ht:Reads w tv L.length (L.flatMap dO)) (hp:Reads w lv ps.length (ps.flatMap mC)) (hroot: ∀ p∈ps,p.root<L.length) (hlen:ps.length≤1000000):
 aC Tryz.prog 253 [tv,.agg (dO n).toArray,lv] w (.bool (f4 L n 0 ps)):=by
 obtain ⟨At,ct,rfl,ht1,ht2,ht3⟩:=ht;obtain ⟨Al,cl,rfl,hl1,hl2,hl3⟩:=hp;refine ax Tryz.func253 rfl Tryz.ntmps253 rfl ?_;repeat' (first|refine sT ?_|refine sM fun _=>?_|(refine sC ?_ ?_<;>intro hb<;>try omega)|fail)
 rename_i gn
 refine fc (fun i:Nat=> [(0,.slice At L.length ct),(4,.pointer (some ⟨gn,0,none⟩)),(11,.slice Al ps.length cl),(12,.int .i64 (ps.length:Int)),(13,.int .i64 (i:Int))])
  (fun i=> [.box gn 123 (dO n)]) (fun i=>i≤ps.length∧f4 L n 0 ps=f4 L n (i:Int) (ps.drop i)) (fun i=>ps.length - i) 0 ⟨by omega,rfl⟩ ?_ ?_ ?_
 ·exact sB
 ·exact mS
 ·rintro i ⟨hi,hrec⟩;by_cases hlt:i<ps.length
  ·obtain ⟨g,o,rfl,hro⟩:=hl3 (by omega);have hrp:=hro.elem jH i hlt;have hr0:=hroot ps[i] (IZ hlt);obtain ⟨gt,ot,rfl,hrt⟩:=ht3 (by omega);have hrn:=hrt.elem gh ps[i].root hr0;rw [IR hlt,f4,CZ,py hr0] at hrec;repeat' (first|(apply ai;exact rfl;apply aa;exact rfl;exact rfl;first|exact hlt|exact hr0)|(apply ai;exact rfl;apply bZ;exact rfl;exact hrp;exact rfl)|(apply ai;exact rfl;apply iR;exact rfl;exact hrn;exact rfl)|(apply ai;exact rfl;apply qH;exact rfl;exact rfl;(constructor<;>omega))|(apply ag;exact rfl;exact rfl;(intro w hm;exact yg n.fn (i:Int) w))|(apply ag;exact rfl;exact rfl;(intro w hm;exact mW n.fn w))|refine sT ?_|refine sM fun _=>?_|(refine sC ?_ ?_<;>intro hb<;>try omega)|fail)
   all_goals first
    |((refine rT1 ?_);rw [hrec];simp_all [yK];done)
    |(refine ⟨i+1,⟨by omega,?_⟩,by omega,?_,?_⟩;(focus (rw [hrec,Int.natCast_add];simp [yK, *]));(focus exact sB);(focus exact mS))
  ·have e:i=ps.length:=by omega
   subst e;rw [JW,f4] at hrec;repeat' (first|refine sT ?_|refine sM fun _=>?_|(refine sC ?_ ?_<;>intro hb<;>try omega)|fail)
   (refine rT1 ?_);rw [hrec]
end Go.SL
namespace Go.SL
open Go Go.Proofs
attribute [local irreducible] W WL WQ WG WA VOp thn blk aW aJ FnAt FnIn WLI
def oF (n:Nd) (i:Nat) (r:List Nd):Us:=match r with
 |m::_=>if m.kind=7∧46≤m.fn then ⟨n.rect,((i+1:Nat):Int),m.fn⟩ else ⟨n.rect, -1,0⟩
 | []=>⟨n.rect, -1,0⟩
def cH:List Nd→Nat→List Us
 | [],_=> []
 |n::r,i=>bif fw n then oF n i r::cH r (i+1) else cH r (i+1)
def cU (L:List Nd):List Us:=cH L 0
theorem BP (L:List Nd) (tv:Value) (w0:World) (ht:Reads w0 tv L.length (L.flatMap dO)) (hlen:L.length≤1000000) (g:Nat):
 GR Tryz.prog 152 [.pointer (some ⟨g,0,none⟩)] w0 [.box g 91 [tv]] (cU L) (fun u=> [.agg (fF u).toArray]):=by
 obtain ⟨Al,cl,rfl,hl1,hl2,hl3⟩:=ht;intro l I J H0 hy h0;refine FnIn.msub (H' := .box g 91 [.slice Al L.length cl]::H0) ?_ (MSub.rot (MSub.refl _));refine cd Tryz.func152 rfl Tryz.ntmps152 rfl ?_;repeat' (first|refine sT ?_|refine sM fun _=>?_|(refine sC ?_ ?_<;>intro hb<;>try omega)|fail)
 refine fc (fun y:Nat × List Us × List Blk=> [(0,.func (.yield l) #[] #[]),(1,.pointer (some ⟨g,0,none⟩)),(6,.slice Al L.length cl),(7,.int .i64 (L.length:Int)),(8,.int .i64 (y.1:Int))])
  (fun y=> .box g 91 [.slice Al L.length cl]::y.2.2)
  (fun y=>y.1≤L.length∧cU L=y.2.1++cH (L.drop y.1) y.1∧I y.2.1 y.2.2) (fun y=>L.length - y.1) (0,[],H0) ⟨by omega,rfl,h0⟩ ?_ ?_ ?_
 ·exact sB
 ·exact MSub.refl _
 rintro ⟨i,pre,H1⟩ ⟨hi,hus,hI⟩;dsimp only at hi hus hI ⊢;by_cases hlt:i<L.length
 ·obtain ⟨gl,ol,rfl,hrl⟩:=hl3 (by omega);have he:=hrl.elem gh i hlt;rw [IR hlt,cH] at hus;generalize hn:L[i]=n at hus he;have hran:=fun w=>zN n w;have next: ∀ (us:List Us) (HU:List Blk),cU L=us++cH (L.drop (i+1)) (i+1)→I us HU→i+1≤L.length∧cU L=us++cH (L.drop (i+1)) (i+1)∧I us HU:=fun us HU h1 h2=>⟨hlt,h1,h2⟩
  generalize fw n=q at hus hran;cases q
  ·rw [cond_false] at hus;repeat' (first|(apply ag;exact rfl;exact rfl;(intro w hm;exact hran w))|refine sT ?_|refine sN ?_|refine sO ?_|refine sM fun _=>?_|(refine sC ?_ ?_<;>intro hb<;>try omega)|fail)
   refine ⟨(i+1,pre,H1),next _ _ hus hI,(by dsimp only;omega),?_,?_⟩
   ·exact sB
   ·exact mS
  rw [cond_true] at hus;by_cases hn1:i+1<L.length
  ·have he1:=hrl.elem gh (i+1) hn1;have hd:=IR hn1;generalize L[i+1]=m at he1 hd;by_cases hrel:m.kind=7∧46≤m.fn
   ·have hu:oF n i (L.drop (i+1))=⟨n.rect,((i+1:Nat):Int),m.fn⟩:=by rw [hd];simp only [oF,if_pos hrel]
    rw [hu] at hus;repeat' (first|(apply ag;exact rfl;exact rfl;(intro w hm;exact hran w))|(apply jM (id:=7))|((with_reducible apply rS (id:=6) (T:=121) (fun D=> [.int .i64 n.rect.c1,.int .i64 n.rect.r1,.int .i64 n.rect.c2,.int .i64 n.rect.r2,.int .i64 (bif D 9 then ((i+1:Nat):Int) else -1),.int .u8 (bif D 11 then m.fn else 0)]) (xs' := [.int .i64 n.rect.c1,.int .i64 n.rect.r1,.int .i64 n.rect.c2,.int .i64 n.rect.r2,.int .i64 ((i+1:Nat):Int),.int .u8 m.fn]));kernel_rfl;kernel_rfl;exact .hd;exact rfl;(intro D hD;simp only [hD 9 (by decide),hD 11 (by decide),cond_true]))|(apply wI;exact rfl;(intro D ht;first|(apply jN;exact rfl;exact rfl;(simp only [maxLen] at*;omega))|(apply aa;exact rfl;exact rfl;(first|assumption|omega))|(apply iR;exact rfl;assumption;exact rfl));exact fun _=>rfl)|refine sT ?_|refine sI ?_|refine sN ?_|refine sO ?_|refine sG ?_|refine sM fun _=>?_|(refine sC ?_ ?_<;>intro hb<;>try omega)|fail)
    (with_reducible apply iI)
    ·exact rfl
    ·exact rfl
    ·exact rfl
    ·exact MSub.app3
    ·exact fun w hm=>hy pre ⟨n.rect,((i+1:Nat):Int),m.fn⟩ _ hus H1 _ hI w hm
    intro bb H2 hq;cases bb
    ·repeat' (first|refine sT ?_|refine sI ?_|refine sM fun _=>?_|(refine sC ?_ ?_<;>intro hb<;>try omega)|fail)
     exact gN eIO Tryz.results152 (H' :=H2++ [.box g 91 [.slice (some ⟨gl,ol,none⟩) L.length cl]]) MSub.app3r ⟨H2,.inr ⟨_,hq⟩,MSub.refl _⟩
    ·repeat' (first|refine sT ?_|refine sI ?_|refine sN ?_|refine sM fun _=>?_|(refine sC ?_ ?_<;>intro hb<;>try omega)|fail)
     refine ⟨(i+1,_,H2),next _ _ (hus.trans (by rw [List.append_assoc];rfl)) hq,(by dsimp only;omega),?_,?_⟩
     ·exact sB
     ·exact MSub.app3'
   ·have hu:oF n i (L.drop (i+1))=⟨n.rect, -1,0⟩:=by rw [hd];simp only [oF,if_neg hrel]
    rw [hu] at hus;repeat' (first|(apply ag;exact rfl;exact rfl;(intro w hm;exact hran w))|(apply jM (id:=7))|refine sT ?_|refine sI ?_|refine sN ?_|refine sO ?_|refine sM fun _=>?_|(refine sC ?_ ?_<;>intro hb<;>try omega)|fail)
    all_goals
     (with_reducible apply iI)
     ·exact rfl
     ·exact rfl
     ·exact rfl
     ·exact MSub.app3
     ·exact fun w hm=>hy pre ⟨n.rect, -1,0⟩ _ hus H1 _ hI w hm
     intro bb H2 hq;cases bb
     ·repeat' (first|refine sT ?_|refine sI ?_|refine sM fun _=>?_|(refine sC ?_ ?_<;>intro hb<;>try omega)|fail)
      exact gN eIO Tryz.results152 (H' :=H2++ [.box g 91 [.slice (some ⟨gl,ol,none⟩) L.length cl]]) MSub.app3r ⟨H2,.inr ⟨_,hq⟩,MSub.refl _⟩
     ·repeat' (first|refine sT ?_|refine sI ?_|refine sN ?_|refine sM fun _=>?_|(refine sC ?_ ?_<;>intro hb<;>try omega)|fail)
      refine ⟨(i+1,_,H2),next _ _ (hus.trans (by rw [List.append_assoc];rfl)) hq,(by dsimp only;omega),?_,?_⟩
      ·exact sB
      ·exact MSub.app3'
  ·have hu:oF n i (L.drop (i+1))=⟨n.rect, -1,0⟩:=by rw [I7 (by omega)];rfl
   rw [hu] at hus;repeat' (first|(apply ag;exact rfl;exact rfl;(intro w hm;exact hran w))|(apply jM (id:=7))|refine sT ?_|refine sI ?_|refine sN ?_|refine sO ?_|refine sM fun _=>?_|(refine sC ?_ ?_<;>intro hb<;>try omega)|fail)
   (with_reducible apply iI)
   ·exact rfl
   ·exact rfl
   ·exact rfl
   ·exact MSub.app3
   ·exact fun w hm=>hy pre ⟨n.rect, -1,0⟩ _ hus H1 _ hI w hm
   intro bb H2 hq;cases bb
   ·repeat' (first|refine sT ?_|refine sI ?_|refine sM fun _=>?_|(refine sC ?_ ?_<;>intro hb<;>try omega)|fail)
    exact gN eIO Tryz.results152 (H' :=H2++ [.box g 91 [.slice (some ⟨gl,ol,none⟩) L.length cl]]) MSub.app3r ⟨H2,.inr ⟨_,hq⟩,MSub.refl _⟩
   ·repeat' (first|refine sT ?_|refine sI ?_|refine sN ?_|refine sM fun _=>?_|(refine sC ?_ ?_<;>intro hb<;>try omega)|fail)
    refine ⟨(i+1,_,H2),next _ _ (hus.trans (by rw [List.append_assoc];rfl)) hq,(by dsimp only;omega),?_,?_⟩
    ·exact sB
    ·exact MSub.app3'
 ·have e:i=L.length:=by omega
  subst e;rw [JW,cH,I3] at hus;repeat' (first|refine sT ?_|refine sM fun _=>?_|(refine sC ?_ ?_<;>intro hb<;>try omega)|fail)
  refine gN (.inr rfl) Tryz.results152 (H' := .box g 91 [.slice Al L.length cl]::H1) mS ⟨H1,.inl (hus ▸ hI),?_⟩;exact MSub.snoc .hd (MSub.refl _)
end Go.SL
namespace Go.SL
open Go Go.Proofs
attribute [local irreducible] W WL WQ WG WA WX WLI WR WT VOp thn blk aW scp aJ bg FnAt FnIn
theorem gH (c:Int) (w:World):aC Tryz.prog 236 [.int .u8 c] w (.bool (aQ c)):=by
 refine ax Tryz.func236 rfl Tryz.ntmps236 rfl ?_;repeat' (first|refine sT ?_|refine sM fun _=>?_|(refine sC ?_ ?_<;>intro hb<;>try omega)|fail)
 all_goals ((refine rT1 ?_);((try simp only [← Int.not_lt] at*);simp_all [aQ, -Int.not_lt, -Int.not_le,← Int.not_lt]))
theorem lC (c:Int) (w:World):aC Tryz.prog 238 [.int .u8 c] w (.bool (fD c)):=by
 refine ax Tryz.func238 rfl Tryz.ntmps238 rfl ?_;repeat' (first|refine sT ?_|refine sM fun _=>?_|(refine sC ?_ ?_<;>intro hb<;>try omega)|fail)
 all_goals ((refine rT1 ?_);(try simp only [← Int.not_lt] at*);simp_all [fD, -Int.not_lt, -Int.not_le,← Int.not_lt];try omega)
theorem Ad (c:Int) (w:World):aC Tryz.prog 274 [.int .u8 c] w (.bool (cN c)):=by
 refine ax Tryz.func274 rfl Tryz.ntmps274 rfl ?_;repeat' (first|(apply ag;exact rfl;exact rfl;(intro w hm;exact lC c w))|(apply ag;exact rfl;exact rfl;(intro w hm;exact gH c w))|refine sT ?_|refine sM fun _=>?_|(refine sC ?_ ?_<;>intro hb<;>try omega)|fail)
 all_goals ((refine rT1 ?_);simp_all [cN])
def eK (p:Int→Bool) (l:List Int):List Int:=l.take (aM p l)
theorem uS {p:Int→Bool} {c:Int} {r:List Int} (h:p c=true):eK p (c::r)=c::eK p r:=by simp [eK,aM,h]
theorem uR {p:Int→Bool} {c:Int} {r:List Int} (h:p c=false):eK p (c::r)= []:=by simp [eK,aM,h]
theorem qi (p:Int→Bool) (l:List Int):(eK p l).length=aM p l:=by
 simp [eK,Kw (cX p l)]
theorem zQ (a:ByteArray) (ha:a.size≤1000000) (i0:Nat) (hi0:i0≤a.size) (fis:FuncId) [Callable Tryz.prog fis] (p:Int→Bool) (hf: ∀ c w,aC Tryz.prog fis [.int .u8 c] w (.bool (p c))) (w0:World) (g4 g3 g5:Nat):
 GR Tryz.prog 293 [.pointer (some ⟨g4,0,none⟩),.pointer (some ⟨g3,0,none⟩),.pointer (some ⟨g5,0,none⟩)] w0 [.box g4 3 [.int .i64 (i0:Int)],.box g3 9 [.string a],.box g5 300 [.func (.func fis) #[] #[]]] (eK p ((aq a).drop i0)) (fun c=> [.int .u8 c]):=by
 intro l I J H0 hy h0;refine FnIn.msub (H' := [.box g4 3 [.int .i64 (i0:Int)],.box g3 9 [.string a],.box g5 300 [.func (.func fis) #[] #[]]]++H0) ?_ MSub.swap;refine cd Tryz.func293 rfl Tryz.ntmps293 rfl ?_;repeat' (first|refine zZD ?_|refine sM fun _=>?_|(refine sC ?_ ?_<;>intro hb<;>try omega)|fail)
 refine fc (fun y:Nat × List Int × List Blk=> [(0,.func (.yield l) #[] #[]),(1,.pointer (some ⟨g4,0,none⟩)),(2,.pointer (some ⟨g3,0,none⟩)),(3,.pointer (some ⟨g5,0,none⟩)),(5,.int .i64 (y.1:Int))])
  (fun y=> [.box g4 3 [.int .i64 (i0:Int)],.box g3 9 [.string a],.box g5 300 [.func (.func fis) #[] #[]]]++y.2.2)
  (fun y=>y.1≤a.size∧eK p ((aq a).drop i0)=y.2.1++eK p ((aq a).drop y.1)∧I y.2.1 y.2.2) (fun y=>a.size - y.1) (i0,[],H0) ⟨hi0,rfl,h0⟩ sB (MSub.refl _) ?_
 rintro ⟨i,pre,H1⟩ ⟨hi,hus,hI⟩;dsimp only at hi hus hI ⊢;by_cases hlt:i<a.size
 ·rw [bO hlt] at hus;have hfc:=fun w=>hf (bat a i) w;cases hp:p (bat a i)
  ·rw [hp] at hfc;rw [uR hp,I3] at hus;repeat' (first|(apply qB;exact rfl;exact rfl;infer_instance;exact rfl;(intro w' _;exact hfc w'))|refine zZK ?_|refine sM fun _=>?_|(refine sC ?_ ?_<;>intro hb<;>try omega)|(refine sCQ ?_ ?_<;>intro hb<;>try omega)|fail)
   exact gN (.inr rfl) rfl (.refl _) ⟨H1,.inl (hus ▸ hI),MSub.swap⟩
  ·rw [hp] at hfc;rw [uS hp] at hus;repeat' (first|(apply qB;exact rfl;exact rfl;infer_instance;exact rfl;(intro w' _;exact hfc w'))|(apply jM (id:=3))|(apply Fm;exact rfl;exact rfl;apply ug;exact rfl;exact rfl;exact hlt)|refine zZK ?_|refine sM fun _=>?_|(refine sC ?_ ?_<;>intro hb<;>try omega)|(refine sCQ ?_ ?_<;>intro hb<;>try omega)|fail)
   (with_reducible apply iI)
   ·exact rfl
   ·exact rfl
   ·exact rfl
   ·exact MSub.swapN
   ·exact fun w hm=>hy pre (bat a i) _ hus H1 [] hI w hm
   intro bb H2 hq;cases bb
   ·repeat' (first|refine sT ?_|refine sI ?_|refine sT2 ?_|refine sM fun _=>?_|(refine sC ?_ ?_<;>intro hb<;>try omega)|fail)
    exact gN eIO rfl (.refl _) ⟨H2,.inr ⟨_,hq⟩,by rw [I3];exact .refl _⟩
   ·repeat' (first|refine sT ?_|refine sI ?_|refine sT2 ?_|refine sN ?_|refine sM fun _=>?_|(refine sC ?_ ?_<;>intro hb<;>try omega)|fail)
    refine ⟨(i+1,_,H2),⟨hlt,hus.trans (by rw [List.append_assoc];rfl),hq⟩,(by dsimp only;omega),sB,?_⟩;exact MSub.swapN'
 ·have e:i=a.size:=by omega
  subst e;have hl:=av a;rw [I7 (i:=a.size) (by omega),show eK p []= [] from rfl,I3] at hus;repeat' (first|refine zZK ?_|refine sM fun _=>?_|(refine sC ?_ ?_<;>intro hb<;>try omega)|(refine sCQ ?_ ?_<;>intro hb<;>try omega)|fail)
  exact gN (.inr rfl) rfl (.refl _) ⟨H1,.inl (hus ▸ hI),MSub.swap⟩
theorem Co (a:ByteArray) (i0:Nat) (fis:FuncId) (w:World):
 FnAt Tryz.prog 273 [.string a,.int .i64 (i0:Int),.func (.func fis) #[] #[]] w fun v H=> ∃ g4 g3 g5,v= .func (.func 293) #[] #[.pointer (some ⟨g4,0,none⟩),.pointer (some ⟨g3,0,none⟩),.pointer (some ⟨g5,0,none⟩)]∧H= [.box g4 3 [.int .i64 (i0:Int)],.box g3 9 [.string a],.box g5 300 [.func (.func fis) #[] #[]]]:=by
 refine ax Tryz.func273 rfl Tryz.ntmps273 rfl ?_;repeat' (first|refine sT ?_|refine sM fun _=>?_|(refine sC ?_ ?_<;>intro hb<;>try omega)|fail)
 rename_i g3 g4 g5;exact bB (.inl rfl) rfl rfl (H' := [.box g4 3 [.int .i64 (i0:Int)],.box g3 9 [.string a],.box g5 300 [.func (.func fis) #[] #[]]]) mS ⟨g4,g3,g5,rfl,rfl⟩
theorem mi (a:ByteArray) (ha:a.size≤1000000) (i0:Nat) (hi0:i0≤a.size) (fis:FuncId) [Callable Tryz.prog fis] (p:Int→Bool) (hf: ∀ c w,aC Tryz.prog fis [.int .u8 c] w (.bool (p c))) (w:World):
 aC Tryz.prog 235 [.string a,.int .i64 (i0:Int),.func (.func fis) #[] #[]] w (.int .i64 (aM p ((aq a).drop i0):Int)):=by
 refine m6 Tryz.func235 rfl Tryz.ntmps235 (by rfl) ?_;refine nT ?_;repeat' (first|(apply aH;exact rfl;exact rfl;(intro w' hm;exact Co a i0 fis w');(rintro v H' ⟨g4,g3,g5,rfl,rfl⟩))|refine sT ?_|refine sR ?_|refine sM fun _=>?_|(refine sC ?_ ?_<;>intro hb<;>try omega)|(refine sCR ?_ ?_<;>intro hb<;>try omega)|fail)
 rename_i gn;have hpl:=qi p ((aq a).drop i0);have hll:=av a;have hrl:=cX p ((aq a).drop i0);rw [Jg] at hrl;rw [← hpl]
 refine tL (ps:= [12]) (us:=eK p ((aq a).drop i0)) (encs:=fun c=> [.int .u8 c]) (Hc:= [.box g4 3 [.int .i64 (i0:Int)],.box g3 9 [.string a],.box g5 300 [.func (.func fis) #[] #[]]]) (HU0:= [.box gn 3 [.int .i64 0]]) rfl (fun _=>rfl) rfl (zQ a ha i0 hi0 fis p hf w g4 g3 g5)
  (fun pre HU=>HU= [.box gn 3 [.int .i64 (pre.length:Int)]]) (fun _=>False) MSub.swap rfl ?_ ?_ ?_
 ·rintro l pre u post hus _ rfl F F';have hlu:=congrArg List.length hus;simp only [Iv,IU] at hlu;change WR _ _ _ l _ _ ((12,Value.int .u8 u)::_) (.box gn 3 [.int .i64 (pre.length:Int)]::F);repeat' (first|refine sT ?_|refine sR ?_|refine sM fun _=>?_|(refine sC ?_ ?_<;>intro hb<;>try omega)|(refine sCR ?_ ?_<;>intro hb<;>try omega)|fail)
  refine wh ⟨[.box gn 3 [.int .i64 (pre.length:Int)]],MSub.refl _,?_⟩;change WR _ _ _ l _ _ _ (.box gn 3 [.int .i64 (pre.length:Int)]::F');repeat' (first|refine sT ?_|refine sR ?_|refine sN ?_|refine sM fun _=>?_|(refine sC ?_ ?_<;>intro hb<;>try omega)|(refine sCR ?_ ?_<;>intro hb<;>try omega)|fail)
  refine yA [.box gn 3 [.int .i64 ((pre.length+1:Nat):Int)]] ?_ (by rw [Iv];rfl);change MSub (_::F') _;exact mS
 ·rintro D _ rfl;change bg _ _ _ _ _ (fG D:: .box gn 3 [.int .i64 ((eK p ((aq a).drop i0)).length:Int)]::_);repeat' (first|refine sT ?_|refine sR ?_|refine sM fun _=>?_|(refine sC ?_ ?_<;>intro hb<;>try omega)|(refine sCR ?_ ?_<;>intro hb<;>try omega)|fail)
  refine vT .hd ?_;exact bB (.inl rfl) rfl rfl (MSub.nil _) rfl
 ·rintro D HU h;exact h.elim
end Go.SL
namespace Go.SL
open Go
def pU (op:Int):Int:=
 if 7≤op∧op≤12 then 1 else if op=6 then 2 else if op=1∨op=2 then 3 else if op=3∨op=4 then 4 else if op=5 then 6 else if op=13 then 7 else 0
structure PS where
 l:List Tk
 out:List Nd
def hdT (fin:Int) (l:List Tk):Tk:=l.headD { kE with at_:=fin }
def PS.skip (p:PS):PS:=⟨p.l.tail,p.out⟩
def PS.put (p:PS) (n:Nd):PS:=⟨p.l,p.out++ [n]⟩
inductive Job where
 |level (k:Int)
 |loop (k:Int)
 |sign
 |pct
 |pctl
 |prim
 |args (fn:Int) (n:Nat)
abbrev Out:=Except (Int × Int) (Nat × PS)
def dD (kind op:Int):Nd:=⟨kind,bD,bp,op,0,0⟩
def dB (r:Option Out) (k:Nat→PS→Option Out):Option Out:=
 match r with
 |some (.ok (n,p))=>k n p
 |r=>r
def sF (t:Tk):Nd:=
 ⟨1,if t.kind=1 then ⟨1,t.num,aA⟩ else if t.kind=2 then ⟨3,0,t.text⟩ else if t.kind=3 then ⟨2,t.num,aA⟩ else ⟨4,t.num,aA⟩,bp,0,0,0⟩
def cG (fin:Int) (name:Tk) (fn:Int) (n:Nat) (p:PS):Option Out:=
 let t:=hdT fin p.l
 if t.kind≠10 then some (.error (t.at_,4))
 else if (n:Int)<(dX fn).1∨(dX fn).2.1<(n:Int) then some (.error (name.at_,11))
 else if 46≤fn∧(p.out.getLast?.map fun x=>decide (x.kind=2∨x.kind=3))≠some true then some (.error (name.at_,4))
 else some (.ok (0,p.skip.put ⟨7,bD,bp,0,fn,n⟩))
def aU (fin:Int):Nat→Job→PS→Option Out
 |0,_,_=>none
 |f+1,.level k,p=>if k=5 then aU fin f .sign p else dB (aU fin f (.level (k+1)) p) fun _ p=>aU fin f (.loop k) p
 |f+1,.loop k,p=>
  let t:=hdT fin p.l
  if t.kind=8∧pU t.num=k then dB (aU fin f (.level (k+1)) p.skip) fun _ p=>aU fin f (.loop k) (p.put (dD 6 t.num))
  else some (.ok (0,p))
 |f+1,.sign,p=>
  let t:=hdT fin p.l
  if t.kind=8∧t.num=2 then dB (aU fin f .sign p.skip) fun _ p=>some (.ok (0,p.put (dD 4 0)))
  else dB (aU fin f .pct p) fun _ p=>
   let u:=hdT fin p.l
   if u.kind=8∧u.num=5 then dB (aU fin f .sign p.skip) fun _ p=>some (.ok (0,p.put (dD 6 5)))
   else some (.ok (0,p))
 |f+1,.pct,p=>dB (aU fin f .prim p) fun _ p=>aU fin f .pctl p
 |f+1,.pctl,p=>
  let t:=hdT fin p.l
  if t.kind=8∧t.num=13 then aU fin f .pctl (p.skip.put (dD 5 0)) else some (.ok (0,p))
 |f+1,.prim,p=>
  let t:=hdT fin p.l
  if 1≤t.kind∧t.kind≤4 then some (.ok (0,p.skip.put (sF t)))
  else if t.kind=5 then some (.ok (0,p.skip.put ⟨2,bD,t.rect,0,0,0⟩))
  else if t.kind=9 then dB (aU fin f (.level 1) p.skip) fun _ p=>
   let u:=hdT fin p.l
   if u.kind≠10 then some (.error (u.at_,4)) else some (.ok (0,p.skip))
  else if t.kind=7 then
   if (bE t.text).2≠0 then some (.error (t.at_,10))
   else
    let u:=hdT fin p.skip.l
    if u.kind≠9 then some (.error (u.at_,4))
    else if (hdT fin p.skip.skip.l).kind=10 then cG fin t (bE t.text).1 0 p.skip.skip
    else dB (aU fin f (.args (bE t.text).1 0) p.skip.skip) fun n p=>cG fin t (bE t.text).1 n p
  else some (.error (t.at_,4))
 |f+1,.args fn n,p=>
  let t:=hdT fin p.l;let go:=fun (p:PS)=>if (hdT fin p.l).kind=11 then aU fin f (.args fn (n+1)) p.skip else some (.ok (n+1,p))
  if t.kind≠6 then dB (aU fin f (.level 1) p) fun _ p=>go p
  else if (kW fn n).1=false∨(kW fn n).2≠0 then some (.error (t.at_,4))
  else go (p.skip.put ⟨3,bD,t.rect,0,0,0⟩)
end Go.SL
namespace Go.SL
open Go Go.Proofs
attribute [local irreducible] W WL WQ WG VOp thn blk aJ FnAt FnIn
theorem mK (b:ByteArray):jJ b=(aq b).map (Value.int .u8):=by simp [jJ,aq]
theorem ui {α β:Type} (f:α→α) (E:α→β) (xs:List α) (i:Nat) (h:i<xs.length):(((xs.take i).map f++xs.drop i).map E).set i (E (f xs[i]))=((xs.take (i+1)).map f++xs.drop (i+1)).map E:=by
 rw [← List.map_set,List.set_append_right _ _ (by simp;omega)];have e1:xs.drop i=xs[i]::xs.drop (i+1):=IR h;have e2:xs.take (i+1)=xs.take i++ [xs[i]]:=IA h;have e3:i - ((xs.take i).map f).length=0:=by simp;omega
 rw [e3,e1,e2];simp only [List.set_cons_zero,Jn,Ja,Jz,I1,IE,ID]
set_option maxRecDepth 10000 in
theorem xN (f:FuncId) [Callable Tryz.prog f] (g:Int→Int) (hf: ∀ c w,aC Tryz.prog f [.int .u8 c] w (.int .u8 (g c))) (a:ByteArray) (ha:a.size≤1000000) (w:World):
 FnAt Tryz.prog 179 [.string a,.func (.func f) #[] #[]] w fun v H=> ∃ gb cap,v= .slice (some ⟨gb,0,none⟩) a.size cap∧H= [.byt gb 5 a.size cap (((aq a).map g).map (Value.int .u8))]:=by
 refine ax Tryz.func179 rfl Tryz.ntmps179 rfl ?_;repeat' (first|(apply kF;exact rfl;exact rfl;intro gb cap)|refine sT ?_|refine sM fun _=>?_|(refine sC ?_ ?_<;>intro hb<;>try omega)|fail)
 refine fc (fun i:Nat=> [(5,.slice (some ⟨gb,0,none⟩) a.size cap),(10,.slice (some ⟨gb,0,none⟩) a.size cap),(11,.int .i64 (a.size:Int)),(12,.int .i64 (i:Int)),(1,.func (.func f) #[] #[])])
  (fun i=> [.byt gb 5 a.size cap ((((aq a).take i).map g++(aq a).drop i).map (Value.int .u8))]) (fun i=>i≤a.size) (fun i=>a.size - i) 0 (by omega) ?_ ?_ ?_
 ·exact sB
 ·rw [mK];simp only [Kf,Jz,ID,Ki];exact mS
 ·intro i hi;have hl:=av a;by_cases hlt:i<a.size
  ·have hil:i<(aq a).length:=by omega
   have hget:((((aq a).take i).map g++(aq a).drop i).map (Value.int .u8))[0+i*1]? =some (.int .u8 (aq a)[i]):=by
    rw [Iy,show 0+i*1=i by omega,Ji (by simp;omega)];simp [Kw (Nat.le_of_lt hil),J3]
   repeat' (first|(apply ai;exact rfl;apply aa;exact rfl;exact rfl;exact hlt)|(apply ai;exact rfl;apply iS;exact rfl;exact .hd;exact hget)|(apply fI;exact rfl;exact rfl;infer_instance;exact rfl;(intro w hm;exact hf _ w))|(apply kU;exact rfl;exact rfl;exact .hd;exact rfl;(simp;omega))|(apply ai;exact rfl;apply qH;exact rfl;exact rfl;(constructor<;>omega))|refine sT ?_|refine sM fun _=>?_|(refine sC ?_ ?_<;>intro hb<;>try omega)|fail)
   refine ⟨i+1,by omega,by omega,?_,?_⟩
   ·exact sB
   ·rw [show 0+i*1=i by omega,ui g (Value.int .u8) (aq a) i hil];exact mS
  ·have e:i=a.size:=by omega
   subst e;repeat' (first|refine sT ?_|refine sM fun _=>?_|(refine sC ?_ ?_<;>intro hb<;>try omega)|fail)
   refine bB (.inl rfl) Tryz.results179 rfl (.refl _) ⟨gb,cap,rfl,?_⟩;rw [JF (by omega),I7 (by omega),I3]
def fU (c:Int):Int:=if c<32∨126<c then 0 else 32
set_option maxRecDepth 10000 in
theorem Er (c:Int) (w:World):aC Tryz.prog 180 [.int .u8 c] w (.int .u8 (fU c)):=by
 refine ax Tryz.func180 rfl Tryz.ntmps180 rfl ?_;repeat' (first|refine sT ?_|refine sM fun _=>?_|(refine sC ?_ ?_<;>intro hb<;>try omega)|fail)
 all_goals ((refine rT1 ?_);((try simp only [← Int.not_lt] at*);simp_all [fU, -Int.not_lt, -Int.not_le]))
set_option maxRecDepth 10000 in
theorem Ah (c:Int) (w:World):aC Tryz.prog 181 [.int .i32 c] w (.bool (decide (c=0))):=by
 refine ax Tryz.func181 rfl Tryz.ntmps181 rfl ?_;repeat' (first|refine sT ?_|refine sM fun _=>?_|(refine sC ?_ ?_<;>intro hb<;>try omega)|fail)
 all_goals ((refine rT1 ?_);rfl)
def fE (q:Int→Bool) (l:List Int):Int:=match l.findIdx? q with
 |some i=>(i:Int)
 |none=> -1
theorem vG {q:Int→Bool} {l:List Int} {i:Nat} (h:i<l.length) (hq:q l[i]=true) (hno: ∀ j (h:j<l.length),j<i→q l[j]=false):fE q l=(i:Int):=by
 have:l.findIdx? q=some i:=by
  rw [Jb];exact ⟨h,hq,fun j hj=>by simpa using hno j (by omega) hj⟩
 simp [fE,this]
theorem s6 {q:Int→Bool} {l:List Int} (hno: ∀ j (h:j<l.length),q l[j]=false):fE q l= -1:=by
 have:l.findIdx? q=none:=by
  rw [JH];intro x hx;obtain ⟨j,hj,rfl⟩:=JZ hx;exact hno j hj
 simp [fE,this]
set_option maxRecDepth 10000 in
theorem sV (f:FuncId) [Callable Tryz.prog f] (q:Int→Bool) (hf: ∀ c w,aC Tryz.prog f [.int .i32 c] w (.bool (q c))) (a:ByteArray) (ha:a.size≤1000000) (hasc: ∀ i (h:i<a.size),(a[i]'h).toNat<128) (w:World):
 aC Tryz.prog 231 [.string a,.func (.func f) #[] #[],.bool true] w (.int .i64 (fE q (aq a))):=by
 refine ax Tryz.func231 rfl Tryz.ntmps231 rfl ?_;have hl:=av a;repeat' (first|(apply rI;exact rfl;exact rfl;intro gi)|refine sT ?_|refine sM fun _=>?_|(refine sC ?_ ?_<;>intro hb<;>try omega)|fail)
 refine fc (fun i:Nat=> [(0,.string a),(1,.func (.func f) #[] #[]),(2,.bool true),(10,.pointer (some ⟨gi,0,none⟩))])
  (fun i=> [.obj gi (.stringIter a i)]) (fun i=>i≤a.size∧ ∀ j (h:j<(aq a).length),j<i→q (aq a)[j]=false) (fun i=>a.size - i) 0 ⟨by omega,fun j _ h=>by omega⟩ ?_ ?_ ?_
 ·exact sB
 ·exact mS
 ·rintro i ⟨hi,hno⟩;repeat' (first|(apply tR;exact rfl;exact rfl;exact .hd;exact hasc i;all_goals intro hb)|(apply fI;exact rfl;exact rfl;infer_instance;exact rfl;(intro w hm;exact hf _ w))|refine sT ?_|refine sM fun _=>?_|(refine sC ?_ ?_<;>intro hb<;>try omega)|fail)
  all_goals (try simp only [beq_true] at*)
  ·rename_i hlt;have hq:=hb;refine bB (.inl rfl) Tryz.results231 rfl (MSub.nil _) ?_;have h1:=lH a i hlt;rw [vG (i:=i) (by omega) (by rw [h1];exact hq) hno]
  ·rename_i hlt;have hq:=hb;refine ⟨i+1,⟨by omega,fun j hj hji=> ?_⟩,by omega,?_,?_⟩
   ·by_cases e:j=i
    ·subst e;rw [lH a j hlt];exact hq
    ·exact hno j hj (by omega)
   ·exact sB
   ·exact mS
  ·have hge:=hb;refine bB (.inl rfl) Tryz.results231 rfl (MSub.nil _) ?_;rw [s6 fun j hj=>hno j hj (by omega)]
set_option maxRecDepth 10000 in
theorem tF (f:FuncId) [Callable Tryz.prog f] (q:Int→Bool) (hf: ∀ c w,aC Tryz.prog f [.int .i32 c] w (.bool (q c))) (a:ByteArray) (ha:a.size≤1000000) (hasc: ∀ i (h:i<a.size),(a[i]'h).toNat<128) (w:World):
 aC Tryz.prog 178 [.string a,.func (.func f) #[] #[]] w (.int .i64 (fE q (aq a))):=by
 refine ax Tryz.func178 rfl Tryz.ntmps178 rfl ?_;repeat' (first|(apply ag;exact rfl;exact rfl;(intro w hm;exact sV f q hf a ha hasc w))|refine sT ?_|refine sM fun _=>?_|(refine sC ?_ ?_<;>intro hb<;>try omega)|fail)
 all_goals ((refine rT1 ?_);rfl)
def fS (a:ByteArray):ByteArray:=⟨(((aq a).map fU).map fun n=>UInt8.ofNat n.toNat).toArray⟩
theorem jz (a:ByteArray):(fS a).size=a.size:=by
 have:(fS a).size=((aq a).map fU).length:=by simp [fS,ByteArray.size]
 rw [this];simp [av]
theorem mZ (a:ByteArray):aq (fS a)=(aq a).map fU:=by
 simp only [aq,fS,JM];congr 1;funext c;simp only [Function.comp,fU];split<;>simp
theorem vF (q:Int→Bool) (l:List Int):decide (fE q l<0)=l.all fun c=> !q c:=by
 unfold fE
 cases h:l.findIdx? q with
 |none=>
  rw [JH] at h;rw [Jp];simpa using h
 |some i=>
  rw [Jb] at h;obtain ⟨h1,h2,_⟩:=h;rw [Jp];simp only [decide_eq_true_eq,JR];constructor
  ·intro h;omega
  ·intro h;have:=h _ (IZ h1);rw [h2] at this;cases this
theorem uP (a:ByteArray):decide (fE (fun c=>decide (c=0)) (aq (fS a))<0)=mb a:=by
 rw [vF,mZ];simp only [aq,List.all_map,mb];congr 1;funext c;have e:(decide (fU (c.toNat:Int)=0))= !(decide (32≤c.toNat) && decide (c.toNat≤126)):=by
  rw [Jp];by_cases h:(c.toNat:Int)<32∨126<(c.toNat:Int)
  ·simp only [fU,if_pos h];simp;omega
  ·simp only [fU,if_neg h];simp;omega
 simp only [Function.comp,e,Bool.not_not]
theorem sA (a:ByteArray): ∀ i (h:i<(fS a).size),((fS a)[i]'h).toNat<128:=by
 intro i h;have h1:=lH (fS a) i h;have h2:((fS a)[i].toNat:Int)=fU ((aq a)[i]'(by rw [av,← jz];exact h)):=by
  rw [← h1];simp [mZ]
 have h3: ∀ x,fU x=0∨fU x=32:=fun x=>by unfold fU;split<;>simp
 rcases h3 ((aq a)[i]'(by rw [av,← jz];exact h)) with h4|h4<;>omega
set_option maxRecDepth 10000 in
theorem lr (a:ByteArray) (ha:a.size≤1000000) (w:World):aC Tryz.prog 133 [.string a] w (.bool (mb a)):=by
 refine ax Tryz.func133 rfl Tryz.ntmps133 rfl ?_;repeat' (first|((with_reducible apply aH (R:=fun v H=> ∃ gb cap,v= .slice (some ⟨gb,0,none⟩) a.size cap∧H= [.byt gb 5 a.size cap (((aq a).map fU).map (Value.int .u8))]));exact rfl;exact rfl;(intro w hm;exact xN 180 fU Er a ha w);(rintro v H' ⟨gb,cap,rfl,rfl⟩))|(apply ai;exact rfl;apply qE;exact rfl;exact .hd;simp [av])|(apply ag;exact rfl;exact rfl;(intro w hm;exact tF 181 (fun c=>decide (c=0)) Ah (fS a) (by rw [jz];exact ha) (sA a) w))|refine sT ?_|refine sM fun _=>?_|(refine sC ?_ ?_<;>intro hb<;>try omega)|fail)
 all_goals ((refine rT1 ?_);rw [← uP])
set_option maxRecDepth 10000 in
theorem vz (a:ByteArray) (w:World):aC Tryz.prog 88 [.string a] w (.int .i64 (mr a)):=by
 refine ax Tryz.func88 rfl Tryz.ntmps88 rfl ?_;repeat' (first|(apply ag;exact rfl;exact rfl;(intro w hm;exact lr a (by omega) w))|refine sT ?_|refine sM fun _=>?_|(refine sC ?_ ?_<;>intro hb<;>try omega)|fail)
 ·(refine rT1 ?_);have:decide (256<a.size)=true:=by simp;omega
  simp [mr,this]
 all_goals
  (refine rT1 ?_);have h256:decide (256<a.size)=false:=by simp;omega
  simp only [mr,h256,hb,cond_true,cond_false]
set_option maxRecDepth 10000 in
theorem wK (v:Vl) (w:World):aC Tryz.prog 232 [.agg (cQ v).toArray] w (.int .i64 (wL v)):=by
 refine ax Tryz.func232 rfl Tryz.ntmps232 rfl ?_;repeat' (first|(apply ag;exact rfl;exact rfl;(intro w hm;exact vz v.text w))|(apply ai;exact rfl;exact BN (b:=⟨0,0,aA⟩) rfl rfl)|refine sT ?_|refine sM fun _=>?_|(refine sC ?_ ?_<;>intro hb<;>try omega)|fail)
 all_goals ((refine rT1 ?_);((try simp only [← Int.not_lt] at*);simp_all [wL,BB,eqV,aA, -Int.not_lt, -Int.not_le,← Int.not_lt]);try (by_cases h:v.num=0<;>simp_all))
theorem ra (n:Nd) (w:World):aC Tryz.prog 251 [.agg (dO n).toArray] w (.int .i64 (bX n)):=by
 refine ax Tryz.func251 rfl Tryz.ntmps251 rfl ?_;repeat' (first|(apply ag;exact rfl;exact rfl;(intro w hm;exact wK n.v w))|(apply ag;exact rfl;exact rfl;(intro w hm;exact jR n.rect w))|(apply ag;exact rfl;exact rfl;(intro w hm;exact pW n.fn w))|(apply rS (T:=123) (fun D=> [.int .u8 n.kind,.int .u8 0,.int .i64 0,.string aA,.int .i64 0,.int .i64 0,.int .i64 0,.int .i64 0,.int .i64 0,.int .u8 (bif D 5 then n.fn else 0),.int .i64 (bif D 7 then n.n else 0)]) (xs' := [.int .u8 n.kind,.int .u8 0,.int .i64 0,.string aA,.int .i64 0,.int .i64 0,.int .i64 0,.int .i64 0,.int .i64 0,.int .u8 n.fn,.int .i64 n.n]);kernel_rfl;kernel_rfl;(first|exact .hd|exact .tl .hd);exact rfl;(intro D hD;simp only [hD 5 (by decide),hD 7 (by decide),cond_true]))|(apply ai;exact rfl;(first|(apply oq (b:=⟨n.kind,n.v,bp,0,0,0⟩);exact rfl;exact rfl)|(apply oq (b:=⟨n.kind,bD,n.rect,0,0,0⟩);exact rfl;exact rfl)|(apply oq (b:=⟨n.kind,bD,bp,0,0,0⟩);exact rfl;exact rfl)|(apply oq (b:=⟨n.kind,bD,bp,n.op,0,0⟩);exact rfl;exact rfl)|(apply oq (b:=⟨n.kind,bD,bp,0,n.fn,n.n⟩);exact rfl;exact rfl)))|refine sT ?_|refine sG ?_|refine sM fun _=>?_|(refine sC ?_ ?_<;>intro hb<;>try omega)|fail)
 all_goals ((refine rT1 ?_);((try simp only [← Int.not_lt] at*);simp_all [bX,jB,cx,FC,HO, -Int.not_lt, -Int.not_le,← Int.not_lt]))
end Go.SL
namespace Go.SL
open Go
structure WkI (Y:Nx) (p:Nat→Prop) (M:Nat→Bool) (todo dn:List Nat):Prop where
 ok: ∀ v,M v=true→p v
 cl: ∀ v∈dn,∀ u∈aj Y v,M u=true
 al: ∀ v,M v=true→v∈dn∨v∈todo
structure WkJ (Y:Nx) (p:Nat→Prop) (M:Nat→Bool) (v:Nat) (todo dn L:List Nat):Prop where
 ok: ∀ v,M v=true→p v
 cl: ∀ v∈dn,∀ u∈aj Y v,M u=true
 al: ∀ x,M x=true→x=v∨x∈dn∨x∈todo
 in_: ∀ u∈L,M u=true
theorem WkI.pop {Y:Nx} {p:Nat→Prop} {M:Nat→Bool} {v:Nat} {todo dn:List Nat} (h:WkI Y p M (v::todo) dn):WkJ Y p M v todo dn []:=
 ⟨h.ok,h.cl,fun x hx=>by
  rcases h.al x hx with h1|h1
  ·exact .inr (.inl h1)
  ·rcases IP.1 h1 with rfl|h1
   ·exact .inl rfl
   ·exact .inr (.inr h1),fun u hu=>by cases hu⟩
theorem WkJ.old {Y:Nx} {p:Nat→Prop} {M:Nat→Bool} {v:Nat} {todo dn L:List Nat} (h:WkJ Y p M v todo dn L) {u:Nat} (hu:M u=true):WkJ Y p M v todo dn (L++ [u]):=
 ⟨h.ok,h.cl,h.al,fun x hx=>(IL.1 hx).elim (h.in_ x) fun hx=>by rw [Iz.1 hx];exact hu⟩
theorem WkJ.new {Y:Nx} {p:Nat→Prop} {M:Nat→Bool} {v:Nat} {todo dn L:List Nat} (h:WkJ Y p M v todo dn L) {u:Nat} (hp:p u):WkJ Y p (fun x=>if x=u then true else M x) v (todo++ [u]) dn (L++ [u]):=by
 have hm: ∀ x,M x=true→(if x=u then true else M x)=true:=fun x hx=>by split<;>simp_all
 refine ⟨fun x hx=> ?_,fun x hx y hy=>hm y (h.cl x hx y hy),fun x hx=> ?_,fun x hx=> ?_⟩
 ·by_cases e:x=u
  ·rw [e];exact hp
  ·exact h.ok x (by simpa [e] using hx)
 ·by_cases e:x=u
  ·rw [e];exact .inr (.inr (by simp))
  ·rcases h.al x (by simpa [e] using hx) with h1|h1|h1
   ·exact .inl h1
   ·exact .inr (.inl h1)
   ·exact .inr (.inr (by simp [h1]))
 ·rcases IL.1 hx with hx|hx
  ·exact hm x (h.in_ x hx)
  ·rw [Iz.1 hx];simp
theorem WkJ.fin {Y:Nx} {p:Nat→Prop} {M:Nat→Bool} {v:Nat} {todo dn:List Nat} (h:WkJ Y p M v todo dn (aj Y v)):WkI Y p M todo (v::dn):=
 ⟨h.ok,fun x hx u hu=>by
  rcases IP.1 hx with rfl|hx
  ·exact h.in_ u hu
  ·exact h.cl x hx u hu,fun x hx=>by
  rcases h.al x hx with rfl|h1|h1
  ·exact .inl (by simp)
  ·exact .inl (by simp [h1])
  ·exact .inr h1⟩
theorem WkI.done {Y:Nx} {p:Nat→Prop} {M:Nat→Bool} {dn:List Nat} (h:WkI Y p M [] dn) {v u:Nat} (r:Rch Y v u) (hv:M v=true):M u=true:=
 Rch.closed (C:=fun v=>M v=true) (fun v hv u hu=>h.cl v ((h.al v hv).resolve_right (by simp)) u hu) r hv
theorem WkI.reach {X:Nx} {i:Nat} {M:Nat→Bool} {dn:List Nat} (h:WkI X (fun v=> ∃ k∈aj X i,Rch X k v) M [] dn) (hi:i∈dn) (v:Nat):M v=true↔ ∃ k∈aj X i,Rch X k v:=
 ⟨h.ok v,fun ⟨k,hk,r⟩=>h.done r (h.cl i hi k hk)⟩
def eE (X:Nx):Nx:=(List.range X.length).map (bJ X)
theorem fR (X:Nx):(eE X).length=X.length:=by simp [eE]
theorem jt {X:Nx} {i:Nat} (h:i<X.length):aj (eE X) i=bJ X i:=by simp [aj,eE,h]
theorem iV {X:Nx} {i k:Nat} (h:k∈aj X i):i<X.length:=by
 by_cases hi:i<X.length
 ·exact hi
 ·rw [aj,IC (by omega)] at h;cases h
theorem sm {X:Nx} {i j:Nat}:j∈aj (eE X) i↔i<X.length∧i∈aj X j:=by
 constructor
 ·intro h;have hi:=iV h;rw [fR] at hi;rw [jt hi,mz] at h;exact ⟨hi,h.2⟩
 ·rintro ⟨hi,h⟩;rw [jt hi,mz];exact ⟨iV h,h⟩
theorem Gf {X:Nx} (hX: ∀ i,∀ k∈aj X i,k<X.length) {v u:Nat} (r:Rch X v u):Rch (eE X) u v:=by
 induction r with
 |refl k=>exact .refl k
 |step h _ ih=>exact ih.trans (Rch.one (sm.2 ⟨hX _ _ h,h⟩))
def co (X:Nx) (v:Nat):Prop:= ∃ u,onC X u∧Rch X v u
theorem WkI.circ {X:Nx} (hX: ∀ i,∀ k∈aj X i,k<X.length) {M:Nat→Bool} {dn:List Nat} (h:WkI (eE X) (co X) M [] dn) (hb: ∀ u,onC X u→M u=true) (v:Nat):M v=true↔co X v:=
 ⟨h.ok v,fun ⟨u,hu,r⟩=>h.done (Gf hX r) (hb u hu)⟩
theorem AV {X:Nx} {v j:Nat} (h:co X v) (hj:j∈aj (eE X) v):co X j:=by
 obtain ⟨u,hu,r⟩:=h;exact ⟨u,hu,.step (sm.1 hj).2 r⟩
end Go.SL

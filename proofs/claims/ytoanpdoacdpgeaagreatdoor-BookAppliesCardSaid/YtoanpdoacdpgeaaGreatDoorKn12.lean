/-
  Lemmas and walks, put together: La D4 Rf D10 D5 Ri Sb W1 W11 W4 W27 W30 W28 B1 Px Sl33.
-/
import Derived.ChangeKeysEq
import Derived.Deep.RegionHeld3
import Derived.Test.YtoanpdoacdpgeaaGreatDoorKn07
import Derived.Test.YtoanpdoacdpgeaaGreatDoorKn08
import Derived.Test.YtoanpdoacdpgeaaGreatDoorKn10
import Derived.Test.YtoanpdoacdpgeaaGreatDoorKn11
set_option linter.unusedSimpArgs false
set_option linter.unusedVariables false
set_option maxRecDepth 20000
namespace Go.SL
open Go Go.Proofs
attribute [local irreducible] W WL WQ WG WA WX WLI WR WT WC VOp RW thn blk bE scp ba bo bL aP FnIn FnP ceP
theorem MZ {L:List Rf} {k:Nat} (h:k<L.length):((L.flatMap cw).drop (0+k*2)).take 2=cw L[k]:=by
 rw [Ny]
 exact ed IB L k h
end Go.SL
namespace Go.SL
open Go Go.Proofs
attribute [local irreducible] W WL WQ WG WA WX WLI WR WT VOp RW thn blk bE scp ba bo bL aP FnIn FnP
def M3 (a:Rf):Value:= .agg (cw a).toArray
def gB (gg gm:Nat) (es:List (Rf × Value × Nat)) (clock:Nat):List Blk:= [.box gg 199 [.map (some gm)],.obj gm (mN M3 es clock)]
end Go.SL
namespace Go.SL
open Go Go.Proofs
theorem K7 {P:Program} {n:Fr} {w0:World} {Q:bQ} {s:az} {H:List Blk} {c:Code} {A:Option Nat} {t sz m cap:Nat} {xs:List Value} (hi:In (.own A t sz m cap xs) H) (h:m≤cap→W P n w0 c Q s H):W P n w0 c Q s H:=fun a w hs hmem=>
 h (hmem.on _ hi.mem).1.2.1 a w hs hmem
theorem EQ (w:World):Reads w (.slice none 0 0) 0 []:=⟨none,0,rfl,Ni _,Ns _,fun h=>absurd h (Nat.lt_irrefl 0)⟩
attribute [local irreducible] W WL WQ WG WA WX WLI WR WT WC WE VOp RW thn blk bE scp ba bo bL aP FnIn FnP ceP
end Go.SL
namespace Go.SL
open Go Go.Proofs
attribute [local irreducible] W WL WQ WG WA WX WLI WR WT WC VOp RW thn blk bE scp ba bo bL aP FnIn FnP ceP uz mK nJ
theorem gP {w0:World} {s:az} {H:List Blk} {ty t' :TypeId} {x y:Operand} {a b:Rf} {c:Bool} (h:decide (a≠b)=c) (hx:ev s x=some (.agg (cw a).toArray)) (hy:ev s y=some (.agg (cw b).toArray)):VOp Tryz.prog w0 s H (.binOp .neq 50 x y t') ty (.bool c):=by
 have h1:=Lg (w0:=w0) (H:=H) (ty:=ty) (t' :=t') hx hy
 rw [DW] at h1
 rw [← h]
 have e:(!decide (a=b))=decide (a≠b):=by simp
 rwa [e] at h1
end Go.SL
namespace Go.SL
open Go Go.Proofs
attribute [local irreducible] W WL WQ WG WA WX WLI WR WT WC VOp RW thn blk bE scp ba bo bL aP FnIn FnP ceP
theorem bp {P:Program} {n:Fr} {w0:World} {Q:bQ} {s:az} {H:List Blk} {l:List Oper} {id:Nat} (es ps:List Nat) (hm:P.follows .mixedOrders=true) (hB:Region.lexB .any l.toArray=true) (hch:CR l es ps=true)
  (h:WC P n w0 l H es ps Q l 0 s H):W P n w0 (.region id l.toArray true) Q s H:=fP es ps H hm hB hch (MSub.refl H) h
structure En where
 at_:Rf
 ta:Option Addr
 tc:Nat
 ua:Option Addr
 uc:Nat
 tree:List Nd
 uses:List Us
 born:Nat
def En.tv (e:En):Value:= .slice e.ta e.tree.length e.tc
def En.uv (e:En):Value:= .slice e.ua e.uses.length e.uc
def En.m (e:En):Rf × Value × Nat:=(e.at_,.agg #[e.tv,e.uv],e.born)
def ME (R:List Blk) (v:Value) (m:Nat) (xs:List Value):Prop:= ∀ w0 w,Mem w0 w R→Reads w v m xs
structure EnOk (R:List Blk) (e:En):Prop where
 tree:ME R e.tv e.tree.length (e.tree.flatMap cv)
 uses:ME R e.uv e.uses.length (e.uses.flatMap M5)
 tl:e.tree.length≤1000000
 ul:e.uses.length≤1000000
def KV (a:Rf):En:=⟨a,none,0,none,0,[],[],0⟩
def wg (E:List En) (a:Rf):Option En:=E.find? fun e=>decide (e.at_=a)
def xI (E:List En) (a:Rf):En:=(wg E a).getD (KV a)
end Go.SL
namespace Go.SL
open Go Go.Proofs
attribute [local irreducible] W WL WQ WG WA WX WLI WR WT WC WE VOp RW thn blk bE scp ba bo bL aP FnIn FnP ceP
theorem pN {P:Program} {w0:World} {s:az} {H:List Blk} {ty t e lo m c sz g:Nat} {x xl:Operand} [ht:Und P t (.slice e)] [hz:Size P e sz] (hx:ev s x=some (.slice (some ⟨g,0,none⟩) m c)) (hxl:ev s xl=some (.int .i64 (lo:Nat))) (h1:lo<m) (h2:m≤c):
  VOp P w0 s H (.slice t x (some xl) none none) ty (.slice (some ⟨g,lo*sz,none⟩) (m - lo) (c - lo)):=by
 have h:=iQ (P:=P) (w0:=w0) (s:=s) (H:=H) (ty:=ty) (t:=t) (lo:=lo) (hi:=m) (x:=x) (xl:=some xl) (xh:=none) hx ⟨_,hxl⟩ rfl (by omega) h2
 rw [if_neg (show ¬ c=lo by omega)] at h
 have ha:(⟨g,0,none⟩:Addr).add (lo*sz)=⟨g,lo*sz,none⟩:=by unfold Addr.add;split<;>simp_all
 rw [Oh,ha] at h
 exact h
theorem vu {P:Program} {w0:World} {s:az} {H:List Blk} {ty t e hi m c sz:Nat} {A:Option Addr} {x xh:Operand} [ht:Und P t (.slice e)] [hz:Size P e sz] (hx:ev s x=some (.slice A m c)) (hxh:ev s xh=some (.int .i64 (hi:Nat))) (h2:hi≤c):
  VOp P w0 s H (.slice t x none (some xh) none) ty (.slice A hi c):=by
 have h:=iQ (P:=P) (w0:=w0) (s:=s) (H:=H) (ty:=ty) (t:=t) (lo:=0) (hi:=hi) (x:=x) (xl:=none) (xh:=some xh) hx rfl ⟨_,hxh⟩ (by omega) h2
 have ha:(if c=0 then A else A.map (·.add (0*sz)))=A:=by
  split
  ·
   rfl
  ·
   cases A with
   |none=>rfl
   |some a=>rw [Nat.zero_mul];simp [Addr.add]
 rw [ha] at h
 exact h
end Go.SL
namespace Go.SL
open Go Go.RowKit
theorem pK {p:Prop} (h:p:=by (repeat first|exact .hd|apply Sel.tl|apply In.tl);(first|done|fail)):p:=h
theorem sB {p:Prop} (h:p:=by (repeat (first|exact Sub.nil _|refine Sub.cons rfl ?_));(first|done|fail)):p:=h
theorem mS {p:Prop} (h:p:=by (repeat (first|exact MSub.nil _|refine MSub.pick (by (repeat first|exact .hd|apply Sel.tl|apply In.tl)) ?_|exact MSub.refl _|refine MSub.drop .hd ?_));(first|done|fail)):p:=h
theorem vC {P:Program} {w0:World} {s:az} {H:List Blk} {op:Op} {ty:TypeId} {v:Value} (h:VOp P w0 s H op ty v:=by
 first
 |((with_reducible apply Ld);exact rfl)
 |((with_reducible apply yE);exact rfl)
 |((with_reducible apply Gx);exact rfl)
 |((with_reducible apply Gw);exact rfl)
 |((with_reducible apply rU);exact rfl)
 |((with_reducible apply dC);exact rfl;exact pK;exact rfl)
 |((with_reducible apply Lj);exact rfl;exact rfl)
 |((with_reducible apply v_neqb);exact rfl;exact rfl)
 |((with_reducible apply gJ);exact rfl;exact rfl)
 |((with_reducible apply iA);exact rfl;exact rfl)
 |((with_reducible apply yA);exact rfl;exact pK;exact rfl)
 |((with_reducible apply yC);exact rfl;exact pK;exact rfl;exact rfl)
 |((with_reducible apply JI);(iterate 3 exact rfl))
 |((with_reducible apply Gt);(iterate 3 exact rfl))
 |((with_reducible apply rR);exact rfl)
 |((with_reducible apply v_eqlpn);exact rfl)
 |((with_reducible apply v_neqpn);exact rfl)):VOp P w0 s H op ty v:=h
theorem vC2 {P:Program} {w0:World} {s:az} {H:List Blk} {op:Op} {ty:TypeId} {v:Value} (h:VOp P w0 s H op ty v:=by
 first
 |((with_reducible apply aZ);exact rfl;exact rfl;(first|assumption|omega))
 |((with_reducible apply Li);exact rfl;exact rfl;(first|assumption|omega))
 |((with_reducible apply fu);(iterate 3 exact rfl);(first|assumption|omega))
 |((with_reducible apply rQ);exact rfl;exact rfl;(first|assumption|omega))
 |((with_reducible apply Jz);exact rfl;exact rfl;(first|assumption|omega))
 |((with_reducible apply Bn);exact rfl;exact rfl;(first|assumption|omega))
 |((with_reducible apply aZ (j:=4));exact rfl;exact rfl;(first|assumption|omega))
 |((with_reducible apply Bn (hi:=4));exact rfl;exact rfl;(first|assumption|omega))
 |((with_reducible apply rQ (lo:=1));exact rfl;exact rfl;(first|assumption|omega))
 |((with_reducible apply Es);(iterate 3 exact rfl))
 |((with_reducible apply Er);(iterate 3 exact rfl))):VOp P w0 s H op ty v:=h
theorem vA {P:Program} {w0:World} {s:az} {H:List Blk} {op:Op} {ty:TypeId} {v:Value} (h:VOp P w0 s H op ty v:=by
 first
 |((with_reducible apply gj);exact rfl;exact rfl;(simp only [maxLen] at*;omega))
 |((with_reducible apply Dt);exact rfl;exact rfl;(simp only [maxLen] at*;omega))
 |((with_reducible apply dr);exact rfl;exact rfl;(simp only [maxLen] at*;omega))
 |((with_reducible apply dG);exact rfl;exact rfl;omega;(simp only [maxLen] at*;omega))
 |((with_reducible apply jP);exact rfl;exact rfl;omega;(simp only [maxLen] at*;omega))
 |((with_reducible apply Bu);exact rfl;exact rfl)):VOp P w0 s H op ty v:=h
theorem vI {P:Program} {w0:World} {s:az} {H:List Blk} {op:Op} {ty:TypeId} {v:Value} (h:VOp P w0 s H op ty v:=by
 first
 |((with_reducible apply da);exact rfl;exact rfl;exact ⟨by omega,by omega⟩)
 |((with_reducible apply Dp);exact rfl;exact rfl;exact ⟨by omega,by omega⟩)
 |((with_reducible apply qi);exact rfl;exact rfl;exact ⟨by omega,by omega⟩)):VOp P w0 s H op ty v:=h
theorem vR {P:Program} {w0:World} {s:az} {H:List Blk} {op:Op} {ty:TypeId} {v:Value} (h:VOp P w0 s H op ty v:=by
 first
 |((with_reducible apply aj);exact rfl;exact rfl;(first|assumption|omega))
 |((with_reducible apply aA);exact rfl;assumption;exact rfl)
 |((with_reducible apply dh);exact rfl;assumption)
 |((with_reducible apply dB);exact rfl;assumption;exact rfl)):VOp P w0 s H op ty v:=h
theorem sT {p q:Prop} (k:q) (h:q→p:=by
 first
 |(with_reducible first|exact ny|exact Mx|exact Me|exact Gi|exact Mf|exact K5|exact K9|exact Jw|exact Mv|exact My|exact MP|exact MN|exact MQ|exact cut_r|exact cut_e)
 |(intro k;(with_reducible apply ak);exact rfl;exact vC;exact k)
 |(intro k;(with_reducible apply Jp);exact rfl;exact rfl;exact k)
 |(intro k;(with_reducible apply F9);(iterate 4 exact rfl);exact k)
 |(intro k;(with_reducible apply F8);(iterate 3 exact rfl);exact k)
 |(intro k;(with_reducible apply uK);exact rfl;exact rfl;exact pK;(iterate 3 exact rfl);exact k)
 |(intro k;(with_reducible apply yj);exact rfl;exact rfl;exact pK;(iterate 4 exact rfl);exact k)
 |(intro k;(with_reducible apply yw);exact rfl;exact k)
 |(intro k;(with_reducible apply wR);exact rfl;exact k)
 |(intro k;(with_reducible apply MM);exact rfl;exact k)):p:=h k
theorem sM {p:Prop} {q:Nat→Prop} (k: ∀ g,q g) (h:(∀ g,q g)→p:=by
 first
 |(intro k;(with_reducible apply Jq);exact rfl;exact rfl;exact k)
 |(intro k;(with_reducible apply Jr);(iterate 3 exact rfl);exact k)
 |(intro k;(with_reducible apply Gd);exact rfl;exact k)
 |(intro k;(with_reducible apply uL);(iterate 7 exact rfl);exact k)):p:=h k
theorem sT2 {p q:Prop} (k:q) (h:q→p:=by exact ak rfl vC2):p:=h k
theorem sQ2 {p q:Prop} (k:q) (h:q→p:=by exact aS rfl vC2):p:=h k
theorem sS {p q:Prop} (k:q) (h:q→p:=by with_reducible first|exact Jt|exact Ju|exact scp_n|exact MB|exact scp_e):p:=h k
theorem sP {p q:Prop} (k:q) (h:q→p:=by with_reducible first|exact Mw|exact MO|exact ML|exact scp_p):p:=h k
theorem sC {p q1 q2 r1 r2:Prop} (k1:q1→q2) (k2:r1→r2) (h:(q1→q2)→(r1→r2)→p:=by
 intro k1 k2
 first
 |((with_reducible apply Ef);exact rfl;exact rfl;exact fun hb=>k1 (Tidy.out hb);exact fun hb=>k2 (Tidy.out hb))
 |((with_reducible apply Lb);exact rfl;exact fun hb=>k1 (Tidy.out hb);exact fun hb=>k2 (Tidy.out hb))):p:=h k1 k2
theorem cT {p:Prop} (h:p:=by (with_reducible apply cu (i:=()))<;>first|exact trivial|((repeat (first|exact Sub.nil _|refine Sub.cons rfl ?_));done)|((repeat (first|exact MSub.nil _|refine MSub.pick (by (repeat first|exact .hd|apply Sel.tl|apply In.tl)) ?_|exact MSub.refl _|refine MSub.drop .hd ?_));done)|fail):p:=h
theorem sQ {p q:Prop} (k:q) (h:q→p:=by
 first
 |(with_reducible exact KY)
 |(intro k;(with_reducible apply aS);exact rfl;exact vC;exact k)
 |(intro k;(with_reducible apply Jk);exact rfl;exact rfl;exact k)
 |(intro k;(with_reducible apply F3);(iterate 4 exact rfl);exact k)
 |(intro k;(with_reducible apply F2);(iterate 3 exact rfl);exact k)):p:=h k
theorem sCQ {p q1 q2 r1 r2:Prop} (k1:q1→q2) (k2:r1→r2) (h:(q1→q2)→(r1→r2)→p:=by
 intro k1 k2
 first
 |((with_reducible apply Eb);exact rfl;exact rfl;exact fun hb=>k1 (Tidy.out hb);exact fun hb=>k2 (Tidy.out hb))):p:=h k1 k2
theorem sD {p q:Prop} (k:q) (h:q→p:=by intro k;(with_reducible apply gh);kernel_rfl;kernel_rfl;exact k):p:=h k
theorem sN {p q:Prop} (k:q) (h:q→p:=by exact ak rfl vA):p:=h k
theorem sNQ {p q:Prop} (k:q) (h:q→p:=by exact aS rfl vA):p:=h k
theorem sJ {p q:Prop} (k:q) (h:q→p:=by exact ak rfl vI):p:=h k
theorem sJQ {p q:Prop} (k:q) (h:q→p:=by exact aS rfl vI):p:=h k
theorem sJG {p q:Prop} (k:q) (h:q→p:=by exact yq (f:=60) rfl (by decide+kernel) rfl vI):p:=h k
theorem sO {p q:Prop} (k:q) (h:q→p:=by exact ak rfl vR):p:=h k
theorem sOQ {p q:Prop} (k:q) (h:q→p:=by exact aS rfl vR):p:=h k
theorem sG {p q:Prop} (k:q) (h:q→p:=by
 first
 |(with_reducible exact wN)
 |(intro k;(with_reducible apply Ej);exact rfl;(intro D ht;exact vC);exact fun _=>rfl;exact k)
 |exact Bj _ _ rfl rfl (fun D=> .hd) rfl rfl rfl (fun _=>OP rfl) (fun D ht=> .refl _)
 |(intro k;(with_reducible apply yq (f:=60));exact rfl;decide+kernel;exact rfl;exact vC;exact k)):p:=h k
theorem sX {p q:Prop} (k:q) (h:q→p:=by
 first
 |(with_reducible exact KW)
 |(intro k;(with_reducible apply yc);(iterate 3 exact rfl);(intro D ht;exact vC);exact fun _=>rfl;exact k)
 |(intro k;(with_reducible apply wx_gno);(iterate 3 exact rfl);exact fun _=>rfl;exact k)):p:=h k
theorem sCX {p q1 q2 r1 r2:Prop} (k1:q1→q2) (k2:r1→r2) (h:(q1→q2)→(r1→r2)→p:=by
 intro k1 k2
 first
 |((with_reducible apply wx_gsplit);exact rfl;exact rfl;exact fun hb=>k1 (Tidy.out hb);exact fun hb=>k2 (Tidy.out hb))):p:=h k1 k2
theorem sXO {p q:Prop} (k:q) (h:q→p:=by exact yc rfl rfl rfl (fun D ht=>vR) (fun _=>rfl)):p:=h k
theorem sBG {p q:Prop} (k:q) (h:q→p:=by with_reducible first|exact wl_app_c|exact wl_app_n):p:=h k
theorem sI {p q:Prop} (k:q) (h:q→p:=by first|(with_reducible exact Jo)|(intro k;(with_reducible apply KI);exact rfl;exact rfl;exact vC;exact k)):p:=h k
theorem sR {p q:Prop} (k:q) (h:q→p:=by
 first
 |(with_reducible first|exact wr_seq|exact wr_ret|exact wr_exit|exact Ji|exact FZ|exact FX|exact yd|exact wt_seq_c|exact wt_seq_b|exact wt_seq_k|exact wt_last_r|exact ye|exact wt_last_c|exact Fv|exact end_thn_r)
 |(intro k;(with_reducible apply wr_cond_true);exact rfl;exact k)
 |(intro k;(with_reducible apply wr_cond_false);exact rfl;exact k)
 |(intro k;(with_reducible apply Ea);exact rfl;(repeat (first|exact EO|exact assignQ_no|apply no_thn|apply LP|apply no_cut));exact k)):p:=h k
theorem sCR {p q1 q2 r1 r2:Prop} (k1:q1→q2) (k2:r1→r2) (h:(q1→q2)→(r1→r2)→p:=by
 intro k1 k2
 first
 |((with_reducible apply wr_cond);exact rfl;exact fun hb=>k1 (Tidy.out hb);exact fun hb=>k2 (Tidy.out hb))):p:=h k1 k2
theorem sW {p q:Prop} (k:q) (h:q→p:=by
 first
 |(with_reducible exact K3)
 |(intro k;(with_reducible apply bZ);(iterate 3 exact rfl);exact vC;exact k)
 |(intro k;(with_reducible apply K4);(iterate 3 exact rfl);exact k)
 |(intro k;(with_reducible apply wc_gno0);exact rfl;exact k)
 |(intro k;(with_reducible apply MW);exact rfl;exact rfl;exact k)
 |(intro k;(with_reducible apply MV);(iterate 4 exact rfl);exact vC;exact k)
 |(intro k;(with_reducible apply FG);exact mS;exact k)):p:=h k
theorem sW2 {p q:Prop} (k:q) (h:q→p:=by exact bZ rfl rfl rfl vC2):p:=h k
theorem sWN {p q:Prop} (k:q) (h:q→p:=by exact bZ rfl rfl rfl vA):p:=h k
theorem sWJ {p q:Prop} (k:q) (h:q→p:=by exact bZ rfl rfl rfl vI):p:=h k
theorem sCW {p q1 q2 r1 r2:Prop} (k1:q1→q2) (k2:r1→r2) (h:(q1→q2)→(r1→r2)→p:=by
 intro k1 k2
 first
 |((with_reducible apply El);exact rfl;exact rfl;exact fun hb=>k1 (Tidy.out hb);exact fun hb=>k2 (Tidy.out hb))):p:=h k1 k2
theorem sG2 {p q:Prop} (k:q) (h:q→p:=by first|exact Ej rfl (fun D ht=>vC2) (fun _=>rfl)|exact yq (f:=60) rfl (by decide+kernel) rfl vC2):p:=h k
theorem sX2 {p q:Prop} (k:q) (h:q→p:=by exact yc rfl rfl rfl (fun D ht=>vC2) (fun _=>rfl)):p:=h k
theorem eIO {p:Prop} (h:p:=by first|exact .inl rfl|exact .inr rfl):p:=h
theorem rT0 {p q:Prop} (k:q) (h:q→p:=by intro k;(with_reducible apply iB);exact .inl rfl;exact rfl;exact MSub.nil _;exact k):p:=h k
theorem rT1 {p q:Prop} (k:q) (h:q→p:=by intro k;(with_reducible apply cG);exact .inl rfl;exact rfl;exact rfl;exact MSub.nil _;exact k):p:=h k
theorem rT2 {p q:Prop} (k:q) (h:q→p:=by intro k;(with_reducible apply iJ);exact .inl rfl;(iterate 3 exact rfl);exact MSub.nil _;exact k):p:=h k
theorem rT3 {p q:Prop} (k:q) (h:q→p:=by intro k;(with_reducible apply mM);exact .inl rfl;(iterate 4 exact rfl);exact MSub.nil _;exact k):p:=h k
theorem eRC {p q:Prop} (k:q) (h:q→p:=by first|exact w6 (.inl rfl) rfl rfl pK rfl (MSub.nil _)|exact w6 (.inr rfl) rfl rfl pK rfl (MSub.nil _)):p:=h k
theorem du {p q:Prop} (k:q) (h:q→p:=by first|exact DE (.inl rfl) rfl rfl pK rfl rfl (MSub.nil _)|exact DE (.inr rfl) rfl rfl pK rfl rfl (MSub.nil _)):p:=h k
theorem cD {p q:Prop} (k:q) (h:q→p:=by first|exact fB (.inl rfl) rfl rfl pK rfl rfl rfl (MSub.nil _)|exact fB (.inr rfl) rfl rfl pK rfl rfl rfl (MSub.nil _)):p:=h k
theorem nP {p:Prop} (h:p:=by (repeat (first|exact LM|apply LL|apply LO|apply LN));(first|done|fail)):p:=h
theorem vP {P:Program} {w0:World} {s:az} {H:List Blk} {op:Op} {ty:TypeId} {v:Value} (h:VOp P w0 s H op ty v:=by
 first|exact vC|((with_reducible apply jP);exact rfl;exact rfl;omega;omega)|((with_reducible apply Gl);exact rfl;exact rfl;omega)):VOp P w0 s H op ty v:=h
end Go.SL
namespace Go.SL
open Go Go.Proofs
attribute [local irreducible] W WL WQ WG VOp thn blk ba aP FnIn
set_option maxRecDepth 10000 in
theorem j6 (c r:Int) (w:World):ay Tryz.prog 71 [.agg #[.int .i64 c,.int .i64 r]] w (.bool (valid c r)):=by
 refine aq Tryz.func71 rfl Tryz.ntmps71 rfl ?_
 repeat' (first|refine sT ?_|refine sM fun _=> ?_|(refine sC ?_ ?_<;>intro hb<;>try omega)|fail)
 all_goals ((refine rT1 ?_);((try simp only [← Int.not_lt] at*);simp_all [valid, -Int.not_lt, -Int.not_le,← Int.not_lt]))
set_option maxRecDepth 10000 in
theorem CN (r:Rct) (w:World):ay Tryz.prog 135 [.agg (bH r).toArray] w (.tuple #[.agg #[.int .i64 r.c1,.int .i64 r.r1],.agg #[.int .i64 r.c2,.int .i64 r.r2]]):=by
 refine aq Tryz.func135 rfl Tryz.ntmps135 rfl ?_
 repeat' (first|refine sT ?_|refine sM fun _=> ?_|(refine sC ?_ ?_<;>intro hb<;>try omega)|fail)
 rename_i g1 g2 g3
 refine rl (fun D=> [.box g2 50 [.int .i64 (bif D 10 then r.c1 else 0),.int .i64 (bif D 10 then r.r1 else 0)],.box g3 50 [.int .i64 (bif D 11 then r.c2 else 0),.int .i64 (bif D 11 then r.r2 else 0)],.box g1 32 (bH r)]) (by kernel_rfl) (by kernel_rfl) (.pick (.tl .hd) (.pick .hd (.refl _))) ?_
 repeat' (first|refine sT ?_|refine sG ?_|refine sM fun _=> ?_|(refine sC ?_ ?_<;>intro hb<;>try omega)|fail)
 refine Bj _ _ rfl rfl (fun D=> .tl .hd) rfl rfl rfl (fun _=>Ni _) (fun D ht=> .pick (.tl .hd) (.pick .hd (.refl _))) ?_
 refine wN fun D hD=> ?_
 have h10:=hD 10 (by decide)
 have h11:=hD 11 (by decide)
 simp only [h10,h11,cond_true]
 repeat' (first|refine sT ?_|refine sM fun _=> ?_|(refine sC ?_ ?_<;>intro hb<;>try omega)|fail)
 refine MC (.inl rfl) Tryz.results135 rfl .hd rfl rfl (.tl .hd) rfl (MSub.nil _) ?_
 rfl
set_option maxRecDepth 10000 in
theorem gA (r:Rct) (w:World):ay Tryz.prog 93 [.agg (bH r).toArray] w (.int .i64 (eP r)):=by
 refine aq Tryz.func93 rfl Tryz.ntmps93 rfl ?_
 repeat' (first|(apply aa;exact rfl;exact rfl;(intro w hm;exact CN r w))|(apply aa;exact rfl;exact rfl;(intro w hm;exact j6 r.c1 r.r1 w))|(apply aa;exact rfl;exact rfl;(intro w hm;exact j6 r.c2 r.r2 w))|refine sT ?_|refine sM fun _=> ?_|(refine sC ?_ ?_<;>intro hb<;>try omega)|fail)
 all_goals ((refine rT1 ?_);((try simp only [← Int.not_lt] at*);simp_all [eP,aI, -Int.not_lt, -Int.not_le,← Int.not_lt]))
set_option maxRecDepth 10000 in
theorem HQ (fn:Int) (w:World):ay Tryz.prog 357 [.int .u8 fn] w (.bool (cW fn)):=by
 refine aq Tryz.func357 rfl Tryz.ntmps357 rfl ?_
 repeat' (first|refine sT ?_|refine sM fun _=> ?_|(refine sC ?_ ?_<;>intro hb<;>try omega)|fail)
 all_goals ((refine rT1 ?_);((try simp only [← Int.not_lt] at*);simp_all [cW, -Int.not_lt, -Int.not_le,← Int.not_lt]))
set_option maxRecDepth 10000 in
theorem qq (fn:Int) (w:World):ay Tryz.prog 338 [.int .u8 fn] w (.bool (gS fn)):=by
 refine aq Tryz.func338 rfl Tryz.ntmps338 rfl ?_
 repeat' (first|refine sT ?_|refine sM fun _=> ?_|(refine sC ?_ ?_<;>intro hb<;>try omega)|fail)
 all_goals ((refine rT1 ?_);((try simp only [← Int.not_lt] at*);simp_all [gS, -Int.not_lt, -Int.not_le,← Int.not_lt]))
set_option maxRecDepth 10000 in
theorem IZ (n:Nd) (w:World):ay Tryz.prog 306 [.agg (cv n).toArray] w (.int .i64 (below n)):=by
 refine aq Tryz.func306 rfl Tryz.ntmps306 rfl ?_
 repeat' (first|refine sT ?_|refine sM fun _=> ?_|(refine sC ?_ ?_<;>intro hb<;>try omega)|fail)
 all_goals ((refine rT1 ?_);simp_all [below])
set_option maxRecDepth 10000 in
theorem uB (fn:Int) (w:World):ay Tryz.prog 336 [.int .u8 fn] w (.tuple #[.int .i64 (eE fn).1,.int .i64 (eE fn).2.1,.int .i64 (eE fn).2.2]):=by
 refine aq Tryz.func336 rfl Tryz.ntmps336 rfl ?_
 repeat' (first|(apply aa;exact rfl;exact rfl;(intro w hm;exact HQ fn w))|refine sT ?_|refine sM fun _=> ?_|(refine sC ?_ ?_<;>intro hb<;>try omega)|fail)
 all_goals ((refine rT3 ?_);simp_all [eE])
set_option maxRecDepth 10000 in
theorem Dg (fn i:Int) (w:World):ay Tryz.prog 337 [.int .u8 fn,.int .i64 i] w (.tuple #[.bool (jh fn i).1,.int .i64 (jh fn i).2]):=by
 refine aq Tryz.func337 rfl Tryz.ntmps337 rfl ?_
 repeat' (first|(apply aa;exact rfl;exact rfl;(intro w hm;exact uB fn w))|(apply aa;exact rfl;exact rfl;(intro w hm;exact qq fn w))|refine sT ?_|refine sM fun _=> ?_|(refine sC ?_ ?_<;>intro hb<;>try omega)|fail)
 all_goals ((refine rT2 ?_);((try simp only [← Int.not_lt] at*);simp_all [jh, -Int.not_lt, -Int.not_le,← Int.not_lt]))
end Go.SL
namespace Go.SL
open Go Go.Proofs
attribute [local irreducible] W WL WQ WG WA VOp thn blk ba aP FnIn
def cV:List ByteArray:= [
 ⟨#[65,66,83]⟩,⟨#[83,73,71,78]⟩,⟨#[73,78,84]⟩,⟨#[84,82,85,78,67]⟩,⟨#[82,79,85,78,68]⟩,
 ⟨#[77,79,68]⟩,⟨#[80,79,87,69,82]⟩,⟨#[83,81,82,84]⟩,⟨#[83,85,77]⟩,⟨#[80,82,79,68,85,67,84]⟩,
 ⟨#[67,79,85,78,84]⟩,⟨#[67,79,85,78,84,65]⟩,⟨#[67,79,85,78,84,66,76,65,78,75]⟩,⟨#[65,86,69,82,65,71,69]⟩,⟨#[77,73,78]⟩,
 ⟨#[77,65,88]⟩,⟨#[77,69,68,73,65,78]⟩,⟨#[76,65,82,71,69]⟩,⟨#[83,77,65,76,76]⟩,⟨#[73,70]⟩,
 ⟨#[65,78,68]⟩,⟨#[79,82]⟩,⟨#[88,79,82]⟩,⟨#[78,79,84]⟩,⟨#[73,70,69,82,82,79,82]⟩,
 ⟨#[73,83,69,82,82,79,82]⟩,⟨#[73,83,66,76,65,78,75]⟩,⟨#[73,83,78,85,77,66,69,82]⟩,⟨#[73,83,84,69,88,84]⟩,⟨#[67,72,79,79,83,69]⟩,
 ⟨#[76,69,78]⟩,⟨#[76,69,70,84]⟩,⟨#[82,73,71,72,84]⟩,⟨#[77,73,68]⟩,⟨#[85,80,80,69,82]⟩,
 ⟨#[76,79,87,69,82]⟩,⟨#[84,82,73,77]⟩,⟨#[67,79,78,67,65,84]⟩,⟨#[82,69,80,84]⟩,⟨#[69,88,65,67,84]⟩,
 ⟨#[70,73,78,68]⟩,⟨#[86,65,76,85,69]⟩,⟨#[73,78,68,69,88]⟩,⟨#[77,65,84,67,72]⟩,⟨#[67,79,85,78,84,73,70]⟩,
 ⟨#[68,83,85,77]⟩,⟨#[68,67,79,85,78,84]⟩,⟨#[68,65,86,71]⟩,⟨#[68,77,73,78]⟩,⟨#[68,77,65,88]⟩]
theorem HB (w:World):ay Tryz.prog 374 [] w (.agg (cV.map Value.string).toArray):=by
 refine aq Tryz.func374 rfl Tryz.ntmps374 rfl ?_
 repeat' (first|(apply yo;(iterate 5 exact rfl))|refine sT ?_|refine sM fun _=> ?_|(refine sC ?_ ?_<;>intro hb<;>try omega)|fail)
 exact w6 (.inl rfl) Tryz.results374 rfl .hd rfl (MSub.nil _) rfl
theorem Ro.str1 {w:World} {g o:Nat} {L:List ByteArray} (h:Ro w g o (L.map Value.string)) (i:Nat) (hi:i<L.length):Ro w g (o+i*1) [Value.string L[i]]:=by
 have h1:=(h.drop (k:=i)).take (k:=1)
 rw [← List.map_drop,← List.map_take,Nn hi] at h1
 rw [O6]
 exact h1
def dH:List ByteArray→ByteArray→Int→Int
 | [],_,_=> -1
 |a::r,s,i=>if s=a then i else dH r s (i+1)
theorem I9 (L:List ByteArray) (b:ByteArray) (tv:Value) (w:World) (ht:Reads w tv L.length (L.map Value.string)):ay Tryz.prog 375 [tv,.string b] w (.int .i64 (dH L b 0)):=by
 obtain ⟨Al,cl,rfl,hl1,hl2,hl3⟩:=ht
 refine aq Tryz.func375 rfl Tryz.ntmps375 rfl ?_
 repeat' (first|refine sT ?_|refine sM fun _=> ?_|(refine sC ?_ ?_<;>intro hb<;>try omega)|fail)
 refine fq (fun i:Nat=> [(0,.slice Al L.length cl),(1,.string b),(7,.int .i64 (L.length:Int)),(8,.int .i64 (i:Int))]) (fun _=> []) (fun i=>i≤L.length∧dH L b 0=dH (L.drop i) b (i:Int)) (fun i=>L.length - i) 0 ⟨by omega,rfl⟩ ?_ ?_ ?_
 ·
  exact sB
 ·
  exact mS
 ·
  rintro i ⟨hi,hrec⟩
  by_cases hlt:i<L.length
  ·
   obtain ⟨gl,ol,rfl,hrl⟩:=hl3 (by omega)
   have he:=hrl.str1 i hlt
   rw [Nn hlt,dH] at hrec
   repeat' (first|(apply ak;exact rfl;apply aj;exact rfl;exact rfl;exact hlt)|(apply ak;exact rfl;apply dh;exact rfl;exact he)|(apply ak;exact rfl;apply gj;exact rfl;exact rfl;(simp only [maxLen] at*;omega))|refine sT ?_|refine sM fun _=> ?_|(refine sC ?_ ?_<;>intro hb<;>try omega)|fail)
   ·
    (refine rT1 ?_)
    rw [hrec,if_pos hb]
   ·
    refine ⟨i+1,⟨by omega,?_⟩,by omega,?_,?_⟩
    ·
     rw [hrec,if_neg hb]
     rfl
    ·
     exact sB
    ·
     exact mS
  ·
   have e:i=L.length:=by omega
   subst e
   repeat' (first|refine sT ?_|refine sM fun _=> ?_|(refine sC ?_ ?_<;>intro hb<;>try omega)|fail)
   (refine rT1 ?_)
   rw [hrec,NF,dH]
theorem il:cV.length=50:=rfl
theorem iw (L:List ByteArray) (b:ByteArray) (i:Int) (h:0≤i):dH L b i= -1∨(i≤dH L b i∧dH L b i<i+L.length):=by
 induction L generalizing i with
 |nil=>exact .inl rfl
 |cons a r ih=>
  unfold dH
  rw [NB]
  split
  ·
   right;omega
  ·
   rcases ih (i+1) (by omega) with h1|h1
   ·
    exact .inl h1
   ·
    right;omega
def bf (b:ByteArray):Int × Int:=if dH cV b 0<0 then (0,6) else (dH cV b 0+1,0)
theorem AW (b:ByteArray) (w:World):ay Tryz.prog 370 [.string b] w (.tuple #[.int .u8 (bf b).1,.int .i64 (bf b).2]):=by
 refine aq Tryz.func370 rfl Tryz.ntmps370 rfl ?_
 have hb1:=iw cV b 0 (by omega)
 rw [il] at hb1
 have hix:=fun w tv (h:Reads w tv (cV.map Value.string).length (cV.map Value.string))=>I9 cV b tv w h
 unfold bf
 generalize dH cV b 0=r at hb1 hix
 repeat' (first|(apply aa;exact rfl;exact rfl;(intro w hm;exact HB w))|(apply ak;exact rfl;apply yx;exact rfl)|(apply aa;exact rfl;exact rfl;(intro w' hm;exact hix w' _ (Reads.of_box hm pK rfl)))|(apply ak;exact rfl;apply dK;exact rfl;exact rfl;exact I64.wrap ⟨by omega,by omega⟩)|(apply ak;exact rfl;apply vB;exact rfl;exact eC (by omega) (by omega))|refine sT ?_|refine sM fun _=> ?_|(refine sC ?_ ?_<;>intro hb<;>try omega)|fail)
 ·
  refine iJ (.inl rfl) Tryz.results370 rfl rfl (.nil _) ?_
  rw [if_pos hb]
 ·
  refine iJ (.inl rfl) Tryz.results370 rfl rfl (.nil _) ?_
  rw [if_neg (by omega)]
theorem gX {L:List Nd} {i:Nat} (h:i<L.length):jU L i=L[i].kind:=by simp [jU,h]
set_option maxHeartbeats 1000000 in
theorem Kk (L:List Nd) (n:Nd) (ps:List Pt) (tv lv:Value) (w:World) (ht:Reads w tv L.length (L.flatMap cv)) (hp:Reads w lv ps.length (ps.flatMap p8)) (hroot: ∀ p∈ps,p.root<L.length) (hlen:ps.length≤1000000):
  ay Tryz.prog 307 [tv,.agg (cv n).toArray,lv] w (.bool (eU L n 0 ps)):=by
 obtain ⟨At,ct,rfl,ht1,ht2,ht3⟩:=ht
 obtain ⟨Al,cl,rfl,hl1,hl2,hl3⟩:=hp
 refine aq Tryz.func307 rfl Tryz.ntmps307 rfl ?_
 repeat' (first|refine sT ?_|refine sM fun _=> ?_|(refine sC ?_ ?_<;>intro hb<;>try omega)|fail)
 rename_i gn
 refine fq (fun i:Nat=> [(0,.slice At L.length ct),(4,.pointer (some ⟨gn,0,none⟩)),(11,.slice Al ps.length cl),(12,.int .i64 (ps.length:Int)),(13,.int .i64 (i:Int))])
  (fun i=> [.box gn 293 (cv n)]) (fun i=>i≤ps.length∧eU L n 0 ps=eU L n (i:Int) (ps.drop i)) (fun i=>ps.length - i) 0 ⟨by omega,rfl⟩ ?_ ?_ ?_
 ·
  exact sB
 ·
  exact mS
 ·
  rintro i ⟨hi,hrec⟩
  by_cases hlt:i<ps.length
  ·
   obtain ⟨g,o,rfl,hro⟩:=hl3 (by omega)
   have hrp:=hro.elem l7 i hlt
   have hr0:=hroot ps[i] (NW hlt)
   obtain ⟨gt,ot,rfl,hrt⟩:=ht3 (by omega)
   have hrn:=hrt.elem fN ps[i].root hr0
   rw [Nn hlt,eU,tS,gX hr0] at hrec
   repeat' (first|(apply ak;exact rfl;apply aj;exact rfl;exact rfl;first|exact hlt|exact hr0)|(apply ak;exact rfl;apply aA;exact rfl;exact hrp;exact rfl)|(apply ak;exact rfl;apply dB;exact rfl;exact hrn;exact rfl)|(apply ak;exact rfl;apply da;exact rfl;exact rfl;(constructor<;>omega))|(apply aa;exact rfl;exact rfl;(intro w hm;exact Dg n.fn (i:Int) w))|(apply aa;exact rfl;exact rfl;(intro w hm;exact qq n.fn w))|refine sT ?_|refine sM fun _=> ?_|(refine sC ?_ ?_<;>intro hb<;>try omega)|fail)
   all_goals first
    |((refine rT1 ?_);rw [hrec];simp_all [zF];done)
    |(refine ⟨i+1,⟨by omega,?_⟩,by omega,?_,?_⟩;(focus (rw [hrec,Int.natCast_add];simp [zF, *]));(focus exact sB);(focus exact mS))
  ·
   have e:i=ps.length:=by omega
   subst e
   rw [NF,eU] at hrec
   repeat' (first|refine sT ?_|refine sM fun _=> ?_|(refine sC ?_ ?_<;>intro hb<;>try omega)|fail)
   (refine rT1 ?_)
   rw [hrec]
end Go.SL
namespace Go.SL
open Go Go.Proofs
attribute [local irreducible] W WL WQ WG WA VOp thn blk bE ba aP FnIn
def J2 (n:Nd):Bool:=decide (n.kind=2)||decide (n.kind=3)
theorem IA (r:Rct):(bH r).length=4:=rfl
theorem L7 (L:List Rct) (lv:Value) (w:World) (hl:Reads w lv L.length (L.flatMap bH)):ay Tryz.prog 229 [lv] w (.bool (L.all aI)):=by
 obtain ⟨Al,cl,rfl,hl1,hl2,hl3⟩:=hl
 refine aq Tryz.func229 rfl Tryz.ntmps229 rfl ?_
 repeat' (first|refine sT ?_|refine sM fun _=> ?_|(refine sC ?_ ?_<;>intro hb<;>try omega)|fail)
 refine fq (fun i:Nat=> [(5,.slice Al L.length cl),(6,.int .i64 (L.length:Int)),(7,.int .i64 (i:Int))]) (fun _=> []) (fun i=>i≤L.length∧L.all aI=(L.drop i).all aI) (fun i=>L.length - i) 0 ⟨by omega,rfl⟩ ?_ ?_ ?_
 ·
  exact sB
 ·
  exact mS
 ·
  rintro i ⟨hi,hrec⟩
  by_cases hlt:i<L.length
  ·
   obtain ⟨gl,ol,rfl,hrl⟩:=hl3 (by omega)
   have he1:=hrl.elem IA i hlt
   rw [Nn hlt,Pm] at hrec
   generalize L[i]=r at hrec he1
   repeat' (first|(apply aa;exact rfl;exact rfl;(intro w hm;exact gA r w))|refine sT ?_|refine sN ?_|refine sO ?_|refine sM fun _=> ?_|(refine sC ?_ ?_<;>intro hb<;>try omega)|fail)
   ·
    (refine rT1 ?_)
    rw [hrec]
    cases hq:aI r<;>simp [eP,hq] at hb ⊢
   ·
    refine ⟨i+1,⟨by omega,?_⟩,by omega,?_,?_⟩
    ·
     rw [hrec]
     cases hq:aI r<;>simp [eP,hq] at hb ⊢
    ·
     exact sB
    ·
     exact mS
  ·
   have e:i=L.length:=by omega
   subst e
   repeat' (first|refine sT ?_|refine sM fun _=> ?_|(refine sC ?_ ?_<;>intro hb<;>try omega)|fail)
   (refine rT1 ?_)
   rw [hrec,NF]
   rfl
def gL (a b:Rct):Rct:=⟨if a.c1<b.c1 then b.c1 else a.c1,if a.r1<b.r1 then b.r1 else a.r1,if b.c2<a.c2 then b.c2 else a.c2,if b.r2<a.r2 then b.r2 else a.r2⟩
def dN (a b:Rct):Rct × Bool:=if [a,b,gL a b].all aI=true then (gL a b,true) else (aO,false)
theorem D8 (a b:Rct) (w:World):ay Tryz.prog 181 [.agg (bH a).toArray,.agg (bH b).toArray] w (.tuple #[.agg (bH (dN a b).1).toArray,.bool (dN a b).2]):=by
 refine aq Tryz.func181 rfl Tryz.ntmps181 rfl ?_
 have hall:=fun (lv:Value) (w:World)=>L7 [a,b,gL a b] lv w
 unfold dN
 generalize [a,b,gL a b].all aI=q at hall
 repeat' (first|(apply aa;exact rfl;exact rfl;(intro w hm;exact hall _ w (Reads.of_row hm pK)))|refine sT ?_|refine sM fun _=> ?_|(refine sC ?_ ?_<;>intro hb<;>try omega)|fail)
 ·
  refine DE (.inl rfl) Tryz.results181 rfl pK rfl rfl (MSub.nil _) ?_
  simp [hb,aO,bH]
 ·
  refine DE (.inl rfl) Tryz.results181 rfl pK rfl rfl (MSub.nil _) ?_
  simp [hb,gL,bH]
end Go.SL
namespace Go.SL
open Go Go.Proofs
attribute [local irreducible] W WL WQ WG WA VOp thn blk bE ba aP FnIn WLI WR WT bL uz mK nJ
def M9 (r:Rct) (u:Us):Bool:=(dN u.rect r).2
end Go.SL
namespace Go.SL
open Go Go.Proofs
attribute [local irreducible] W WL WQ WG WA VOp thn blk bE ba aP FnIn WLI
def Mt (n:Nd) (i:Nat) (r:List Nd):Us:=match r with
 |m::_=>if m.kind=7∧46≤m.fn then ⟨n.rect,((i+1:Nat):Int),m.fn⟩ else ⟨n.rect, -1,0⟩
 | []=>⟨n.rect, -1,0⟩
def rY:List Nd→Nat→List Us
 | [],_=> []
 |n::r,i=>bif J2 n then Mt n i r::rY r (i+1) else rY r (i+1)
def Ms (L:List Nd):List Us:=rY L 0
end Go.SL
namespace Go.SL
open Go Go.Proofs
attribute [local irreducible] W WL WQ WG WA WX WLI WR WT VOp thn blk bE scp ba bL aP FnIn
theorem jH (c:Int) (w:World):ay Tryz.prog 261 [.int .u8 c] w (.bool (aH c)):=by
 refine aq Tryz.func261 rfl Tryz.ntmps261 rfl ?_
 repeat' (first|refine sT ?_|refine sM fun _=> ?_|(refine sC ?_ ?_<;>intro hb<;>try omega)|fail)
 all_goals ((refine rT1 ?_);((try simp only [← Int.not_lt] at*);simp_all [aH, -Int.not_lt, -Int.not_le,← Int.not_lt]))
theorem oW (c:Int) (w:World):ay Tryz.prog 263 [.int .u8 c] w (.bool (bO c)):=by
 refine aq Tryz.func263 rfl Tryz.ntmps263 rfl ?_
 repeat' (first|refine sT ?_|refine sM fun _=> ?_|(refine sC ?_ ?_<;>intro hb<;>try omega)|fail)
 all_goals ((refine rT1 ?_);(try simp only [← Int.not_lt] at*);simp_all [bO, -Int.not_lt, -Int.not_le,← Int.not_lt];try omega)
theorem E7 (c:Int) (w:World):ay Tryz.prog 300 [.int .u8 c] w (.bool (cJ c)):=by
 refine aq Tryz.func300 rfl Tryz.ntmps300 rfl ?_
 repeat' (first|(apply aa;exact rfl;exact rfl;(intro w hm;exact oW c w))|(apply aa;exact rfl;exact rfl;(intro w hm;exact jH c w))|refine sT ?_|refine sM fun _=> ?_|(refine sC ?_ ?_<;>intro hb<;>try omega)|fail)
 all_goals ((refine rT1 ?_);simp_all [cJ])
def gV (p:Int→Bool) (l:List Int):List Int:=l.take (aF p l)
theorem zu {p:Int→Bool} {c:Int} {r:List Int} (h:p c=true):gV p (c::r)=c::gV p r:=by simp [gV,aF,h]
theorem zt {p:Int→Bool} {c:Int} {r:List Int} (h:p c=false):gV p (c::r)= []:=by simp [gV,aF,h]
theorem u4 (p:Int→Bool) (l:List Int):(gV p l).length=aF p l:=by
 simp [gV,O1 (bR p l)]
set_option maxHeartbeats 1000000 in
theorem EU (a:ByteArray) (ha:a.size≤1000000) (i0:Nat) (hi0:i0≤a.size) (fis:FuncId) [Callable Tryz.prog fis] (p:Int→Bool) (hf: ∀ c w,ay Tryz.prog fis [.int .u8 c] w (.bool (p c))) (w0:World) (g4 g3 g5:Nat):
  MU Tryz.prog 330 [.pointer (some ⟨g4,0,none⟩),.pointer (some ⟨g3,0,none⟩),.pointer (some ⟨g5,0,none⟩)] w0 [.box g4 3 [.int .i64 (i0:Int)],.box g3 9 [.string a],.box g5 139 [.func (.func fis) #[] #[]]] (gV p ((ap a).drop i0)) (fun c=> [.int .u8 c]):=by
 intro l I J H0 hy h0
 refine FnIn.msub (H' := [.box g4 3 [.int .i64 (i0:Int)],.box g3 9 [.string a],.box g5 139 [.func (.func fis) #[] #[]]]++H0) ?_ MSub.swap
 refine dZ Tryz.func330 rfl Tryz.ntmps330 rfl ?_
 repeat' (first|refine sT ?_|refine sT2 ?_|refine sM fun _=> ?_|(refine sC ?_ ?_<;>intro hb<;>try omega)|fail)
 refine fq (fun y:Nat × List Int × List Blk=> [(0,.func (.yield l) #[] #[]),(1,.pointer (some ⟨g4,0,none⟩)),(2,.pointer (some ⟨g3,0,none⟩)),(3,.pointer (some ⟨g5,0,none⟩)),(5,.int .i64 (y.1:Int))])
  (fun y=> [.box g4 3 [.int .i64 (i0:Int)],.box g3 9 [.string a],.box g5 139 [.func (.func fis) #[] #[]]]++y.2.2)
  (fun y=>y.1≤a.size∧gV p ((ap a).drop i0)=y.2.1++gV p ((ap a).drop y.1)∧I y.2.1 y.2.2) (fun y=>a.size - y.1) (i0,[],H0) ⟨hi0,rfl,h0⟩ sB (MSub.refl _) ?_
 rintro ⟨i,pre,H1⟩ ⟨hi,hus,hI⟩
 dsimp only at hi hus hI ⊢
 by_cases hlt:i<a.size
 ·
  rw [bk hlt] at hus
  have hfc:=fun w=>hf (bat a i) w
  cases hp:p (bat a i)
  ·
   rw [hp] at hfc
   rw [zt hp,Nl] at hus
   repeat' (first|(apply gN;exact rfl;exact rfl;infer_instance;exact rfl;(intro w' _;exact hfc w'))|refine sT ?_|refine sI ?_|refine sQ ?_|refine sT2 ?_|refine sQ2 ?_|refine sN ?_|refine sNQ ?_|refine sD ?_|refine sM fun _=> ?_|(refine sC ?_ ?_<;>intro hb<;>try omega)|(refine sCQ ?_ ?_<;>intro hb<;>try omega)|fail)
   exact iB (.inr rfl) rfl (.refl _) ⟨H1,.inl (hus ▸ hI),MSub.swap⟩
  ·
   rw [hp] at hfc
   rw [zu hp] at hus
   repeat' (first|(apply gN;exact rfl;exact rfl;infer_instance;exact rfl;(intro w' _;exact hfc w'))|(apply Eo (id:=3))|(apply KI;exact rfl;exact rfl;apply aZ;exact rfl;exact rfl;exact hlt)|refine sT ?_|refine sI ?_|refine sQ ?_|refine sT2 ?_|refine sQ2 ?_|refine sN ?_|refine sNQ ?_|refine sD ?_|refine sM fun _=> ?_|(refine sC ?_ ?_<;>intro hb<;>try omega)|(refine sCQ ?_ ?_<;>intro hb<;>try omega)|fail)
   (with_reducible apply Bf)
   ·
    exact rfl
   ·
    exact rfl
   ·
    exact rfl
   ·
    exact MSub.swapN
   ·
    exact fun w hm=>hy pre (bat a i) _ hus H1 [] hI w hm
   intro bb H2 hq
   cases bb
   ·
    repeat' (first|refine sT ?_|refine sI ?_|refine sT2 ?_|refine sM fun _=> ?_|(refine sC ?_ ?_<;>intro hb<;>try omega)|fail)
    exact iB eIO rfl (.refl _) ⟨H2,.inr ⟨_,hq⟩,by rw [Nl];exact .refl _⟩
   ·
    repeat' (first|refine sT ?_|refine sI ?_|refine sT2 ?_|refine sN ?_|refine sM fun _=> ?_|(refine sC ?_ ?_<;>intro hb<;>try omega)|fail)
    refine ⟨(i+1,_,H2),⟨hlt,hus.trans (by rw [List.append_assoc];rfl),hq⟩,(by dsimp only;omega),sB,?_⟩
    exact MSub.swapN'
 ·
  have e:i=a.size:=by omega
  subst e
  have hl:=av a
  rw [NC (i:=a.size) (by omega),show gV p []= [] from rfl,Nl] at hus
  repeat' (first|refine sT ?_|refine sI ?_|refine sQ ?_|refine sT2 ?_|refine sQ2 ?_|refine sN ?_|refine sNQ ?_|refine sD ?_|refine sM fun _=> ?_|(refine sC ?_ ?_<;>intro hb<;>try omega)|(refine sCQ ?_ ?_<;>intro hb<;>try omega)|fail)
  exact iB (.inr rfl) rfl (.refl _) ⟨H1,.inl (hus ▸ hI),MSub.swap⟩
theorem Hl (a:ByteArray) (i0:Nat) (fis:FuncId) (w:World):
  aP Tryz.prog 299 [.string a,.int .i64 (i0:Int),.func (.func fis) #[] #[]] w fun v H=> ∃ g4 g3 g5,v= .func (.func 330) #[] #[.pointer (some ⟨g4,0,none⟩),.pointer (some ⟨g3,0,none⟩),.pointer (some ⟨g5,0,none⟩)]∧H= [.box g4 3 [.int .i64 (i0:Int)],.box g3 9 [.string a],.box g5 139 [.func (.func fis) #[] #[]]]:=by
 refine aq Tryz.func299 rfl Tryz.ntmps299 rfl ?_
 repeat' (first|refine sT ?_|refine sM fun _=> ?_|(refine sC ?_ ?_<;>intro hb<;>try omega)|fail)
 rename_i g3 g4 g5
 exact cG (.inl rfl) rfl rfl (H' := [.box g4 3 [.int .i64 (i0:Int)],.box g3 9 [.string a],.box g5 139 [.func (.func fis) #[] #[]]]) mS ⟨g4,g3,g5,rfl,rfl⟩
set_option maxHeartbeats 1000000 in
theorem p6 (a:ByteArray) (ha:a.size≤1000000) (i0:Nat) (hi0:i0≤a.size) (fis:FuncId) [Callable Tryz.prog fis] (p:Int→Bool) (hf: ∀ c w,ay Tryz.prog fis [.int .u8 c] w (.bool (p c))) (w:World):
  ay Tryz.prog 260 [.string a,.int .i64 (i0:Int),.func (.func fis) #[] #[]] w (.int .i64 (aF p ((ap a).drop i0):Int)):=by
 refine zS Tryz.func260 rfl Tryz.ntmps260 (by rfl) ?_
 refine yd ?_
 repeat' (first|(apply aC;exact rfl;exact rfl;(intro w' hm;exact Hl a i0 fis w');(rintro v H' ⟨g4,g3,g5,rfl,rfl⟩))|refine sT ?_|refine sR ?_|refine sM fun _=> ?_|(refine sC ?_ ?_<;>intro hb<;>try omega)|(refine sCR ?_ ?_<;>intro hb<;>try omega)|fail)
 rename_i gn
 have hpl:=u4 p ((ap a).drop i0)
 have hll:=av a
 have hrl:=bR p ((ap a).drop i0)
 rw [Nq] at hrl
 rw [← hpl]
 refine FY (ps:= [12]) (us:=gV p ((ap a).drop i0)) (encs:=fun c=> [.int .u8 c]) (Hc:= [.box g4 3 [.int .i64 (i0:Int)],.box g3 9 [.string a],.box g5 139 [.func (.func fis) #[] #[]]]) (HU0:= [.box gn 3 [.int .i64 0]]) rfl (fun _=>rfl) rfl (EU a ha i0 hi0 fis p hf w g4 g3 g5)
  (fun pre HU=>HU= [.box gn 3 [.int .i64 (pre.length:Int)]]) (fun _=>False) MSub.swap rfl ?_ ?_ ?_
 ·
  rintro l pre u post hus _ rfl F F'
  have hlu:=congrArg List.length hus
  simp only [Na,NB] at hlu
  change WR _ _ _ l _ _ ((12,Value.int .u8 u)::_) (.box gn 3 [.int .i64 (pre.length:Int)]::F)
  repeat' (first|refine sT ?_|refine sR ?_|refine sM fun _=> ?_|(refine sC ?_ ?_<;>intro hb<;>try omega)|(refine sCR ?_ ?_<;>intro hb<;>try omega)|fail)
  refine I1 ⟨[.box gn 3 [.int .i64 (pre.length:Int)]],MSub.refl _,?_⟩
  change WR _ _ _ l _ _ _ (.box gn 3 [.int .i64 (pre.length:Int)]::F')
  repeat' (first|refine sT ?_|refine sR ?_|refine sN ?_|refine sM fun _=> ?_|(refine sC ?_ ?_<;>intro hb<;>try omega)|(refine sCR ?_ ?_<;>intro hb<;>try omega)|fail)
  refine J1 [.box gn 3 [.int .i64 ((pre.length+1:Nat):Int)]] ?_ (by rw [Na];rfl)
  change MSub (_::F') _
  exact mS
 ·
  rintro D _ rfl
  change bL _ _ _ _ _ (jw D:: .box gn 3 [.int .i64 ((gV p ((ap a).drop i0)).length:Int)]::_)
  repeat' (first|refine sT ?_|refine sR ?_|refine sM fun _=> ?_|(refine sC ?_ ?_<;>intro hb<;>try omega)|(refine sCR ?_ ?_<;>intro hb<;>try omega)|fail)
  refine Iy .hd ?_
  exact cG (.inl rfl) rfl rfl (MSub.nil _) rfl
 ·
  rintro D HU h
  exact h.elim
end Go.SL
namespace Go.SL
open Go
def fV (op:Int):Int:=
 if 7≤op∧op≤12 then 1 else if op=6 then 2 else if op=1∨op=2 then 3 else if op=3∨op=4 then 4 else if op=5 then 6 else if op=13 then 7 else 0
structure PS where
 l:List Tk
 out:List Nd
def hdT (fin:Int) (l:List Tk):Tk:=l.headD { cU with at_:=fin }
def PS.skip (p:PS):PS:=⟨p.l.tail,p.out⟩
def PS.put (p:PS) (n:Nd):PS:=⟨p.l,p.out++ [n]⟩
inductive Job where
 |level (k:Int)
 |loop (k:Int)
 |sign
 |pct
 |pctl
 |prim
 |args (fn:Int) (n:Nat)
abbrev Out:=Except (Int × Int) (Nat × PS)
def dF (kind op:Int):Nd:=⟨kind,bK,aO,op,0,0⟩
def fI (r:Option Out) (k:Nat→PS→Option Out):Option Out:=
 match r with
 |some (.ok (n,p))=>k n p
 |r=>r
def kS (t:Tk):Nd:=
 ⟨1,if t.kind=1 then ⟨1,t.num,au⟩ else if t.kind=2 then ⟨3,0,t.text⟩ else if t.kind=3 then ⟨2,t.num,au⟩ else ⟨4,t.num,au⟩,aO,0,0,0⟩
def dm (fin:Int) (name:Tk) (fn:Int) (n:Nat) (p:PS):Option Out:=
 let t:=hdT fin p.l
 if t.kind≠10 then some (.error (t.at_,4))
 else if (n:Int)<(eE fn).1∨(eE fn).2.1<(n:Int) then some (.error (name.at_,11))
 else if 46≤fn∧(p.out.getLast?.map fun x=>decide (x.kind=2∨x.kind=3))≠some true then some (.error (name.at_,4))
 else some (.ok (0,p.skip.put ⟨7,bK,aO,0,fn,n⟩))
def bG (fin:Int):Nat→Job→PS→Option Out
 |0,_,_=>none
 |f+1,.level k,p=>if k=5 then bG fin f .sign p else fI (bG fin f (.level (k+1)) p) fun _ p=>bG fin f (.loop k) p
 |f+1,.loop k,p=>
  let t:=hdT fin p.l
  if t.kind=8∧fV t.num=k then fI (bG fin f (.level (k+1)) p.skip) fun _ p=>bG fin f (.loop k) (p.put (dF 6 t.num))
  else some (.ok (0,p))
 |f+1,.sign,p=>
  let t:=hdT fin p.l
  if t.kind=8∧t.num=2 then fI (bG fin f .sign p.skip) fun _ p=>some (.ok (0,p.put (dF 4 0)))
  else fI (bG fin f .pct p) fun _ p=>
   let u:=hdT fin p.l
   if u.kind=8∧u.num=5 then fI (bG fin f .sign p.skip) fun _ p=>some (.ok (0,p.put (dF 6 5)))
   else some (.ok (0,p))
 |f+1,.pct,p=>fI (bG fin f .prim p) fun _ p=>bG fin f .pctl p
 |f+1,.pctl,p=>
  let t:=hdT fin p.l
  if t.kind=8∧t.num=13 then bG fin f .pctl (p.skip.put (dF 5 0)) else some (.ok (0,p))
 |f+1,.prim,p=>
  let t:=hdT fin p.l
  if 1≤t.kind∧t.kind≤4 then some (.ok (0,p.skip.put (kS t)))
  else if t.kind=5 then some (.ok (0,p.skip.put ⟨2,bK,t.rect,0,0,0⟩))
  else if t.kind=9 then fI (bG fin f (.level 1) p.skip) fun _ p=>
   let u:=hdT fin p.l
   if u.kind≠10 then some (.error (u.at_,4)) else some (.ok (0,p.skip))
  else if t.kind=7 then
   if (bf t.text).2≠0 then some (.error (t.at_,10))
   else
    let u:=hdT fin p.skip.l
    if u.kind≠9 then some (.error (u.at_,4))
    else if (hdT fin p.skip.skip.l).kind=10 then dm fin t (bf t.text).1 0 p.skip.skip
    else fI (bG fin f (.args (bf t.text).1 0) p.skip.skip) fun n p=>dm fin t (bf t.text).1 n p
  else some (.error (t.at_,4))
 |f+1,.args fn n,p=>
  let t:=hdT fin p.l
  let go:=fun (p:PS)=>if (hdT fin p.l).kind=11 then bG fin f (.args fn (n+1)) p.skip else some (.ok (n+1,p))
  if t.kind≠6 then fI (bG fin f (.level 1) p) fun _ p=>go p
  else if (jh fn n).1=false∨(jh fn n).2≠0 then some (.error (t.at_,4))
  else go (p.skip.put ⟨3,bK,t.rect,0,0,0⟩)
end Go.SL
namespace Go.SL
open Go Go.RowKit
section
variable {P:Program} {n:Fr} {w0:World} {Q:bQ} {s:az} {H S:List Blk} {l:List Oper} {L:Array Bool} {f:Nat} {ty:TypeId} {p:String} {af:Array Edge} {es:List Nat} {gu:Option (Nat × Bool)}
theorem yt {i j k:Nat} {op op' op2:Op} {dst dst' dst2:Option Tmp} {ty' ty2:TypeId} {p' p2:String} {af' af2:Array Edge} {gu' gu2:Option (Nat × Bool)} (hi:l[i]? =some ⟨dst,op,ty,p,af,gu⟩) (hj:l[j]? =some ⟨dst',op',ty',p',af',gu'⟩) (hl:l[k]? =some ⟨dst2,op2,ty2,p2,af2,gu2⟩)
  (hg:gok l s gu=some true) (hg' :gok l s gu' =some true) (hg2:gok l s gu2=some true)
  (hk:es.contains i=true) (hk' :es.contains j=true) (hk2:es.contains k=true) (hr:Region.ready .any l.toArray L= [i,j,k])
  (h:WL P n w0 #[] [⟨dst,op,ty,p,af,none⟩] (ceP S (WE P n w0 l S es Q f (L.setIfInBounds i true))) s H)
  (h' :WL P n w0 #[] [⟨dst',op',ty',p',af',none⟩] (ceP S (WE P n w0 l S es Q f (L.setIfInBounds j true))) s H)
  (h2:WL P n w0 #[] [⟨dst2,op2,ty2,p2,af2,none⟩] (ceP S (WE P n w0 l S es Q f (L.setIfInBounds k true))) s H):WE P n w0 l S es Q (f+1) L s H:=by
 intro a w hs hm hS hcl
 refine ⟨hS,fun h0=>(by rw [hr] at h0;cases h0),fun x hx=> ?_⟩
 rw [hr] at hx
 rcases NA.1 hx with e|hx
 ·
  subst e
  exact ⟨_,by simpa using hi,mq hi hg hk (by rw [hr];simp) h a w hs hm hcl⟩
 ·
  rcases NA.1 hx with e|hx
  ·
   subst e
   exact ⟨_,by simpa using hj,mq hj hg' hk' (by rw [hr];simp) h' a w hs hm hcl⟩
  ·
   have e:x=k:=by simpa using hx
   subst e
   exact ⟨_,by simpa using hl,mq hl hg2 hk2 (by rw [hr];simp) h2 a w hs hm hcl⟩
end
end Go.SL

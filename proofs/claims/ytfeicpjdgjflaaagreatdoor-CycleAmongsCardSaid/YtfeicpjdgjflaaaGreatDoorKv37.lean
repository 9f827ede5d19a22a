/-
  Lemmas and walks, put together: W9 W27 W37 W8 D6 Cn E2 K1 K2 Fp G2a Q10.
-/
import Derived.Test.YtfeicpjdgjflaaaGreatDoorKv06
import Derived.Test.YtfeicpjdgjflaaaGreatDoorKv36
set_option linter.unusedSimpArgs false
set_option linter.unusedVariables false
set_option maxRecDepth 20000
set_option maxHeartbeats 16000000
namespace Go.SL
open Go Go.Proofs
attribute [local irreducible] W WL WQ WG WA VOp thn blk aS FnAt FnIn
theorem Ey (L M:List Nd) (lv mv:Value) (w:World) (hl:Reads w lv L.length (L.flatMap bu)) (hm:Reads w mv M.length (M.flatMap bu)):
 aF Tryz.prog 64 [lv,mv] w (.bool (decide (L=M))):=by
 obtain ⟨Al,cl,rfl,hl1,hl2,hl3⟩:=hl;obtain ⟨Am,cm,rfl,hm1,hm2,hm3⟩:=hm;refine aA Tryz.func64 rfl Tryz.ntmps64 rfl ?_;by_cases hlen:L.length=M.length
 ·repeat' first|refine sT ?_|refine sM fun _=>?_|refine sC ?_ ?_<;>intro hb<;>try omega|fail
  refine fP (fun i:Nat=> [(0,.slice Al L.length cl),(1,.slice Am M.length cm),(5,.int .i64 (i:Int))]) (fun _=> []) (fun i=>i≤L.length∧decide (L=M)=decide (L.drop i=M.drop i)) (fun i=>L.length - i) 0 ⟨by omega,rfl⟩ ?_ ?_ ?_
  ·exact sB
  ·exact mS
  ·rintro i ⟨hi,hrec⟩;by_cases hlt:i<L.length
   ·have hlt2:i<M.length:=by omega
    obtain ⟨gl,ol,rfl,hrl⟩:=hl3 (by omega);obtain ⟨gm,om,rfl,hrm⟩:=hm3 (by omega);have he1:=hrl.elem cR i hlt;have he2:=hrm.elem cR i hlt2;rw [xo hlt hlt2,← DV] at hrec;repeat' (first|apply aY;exact rfl;apply aa;exact rfl;exact rfl;(first|exact hlt|exact hlt2)|apply aY;exact rfl;apply bC;exact rfl;(first|exact he1|exact he2);exact rfl|apply aY;exact rfl;apply uR;exact rfl;exact rfl|apply ai;exact rfl;apply jn;exact rfl;exact rfl;simp only [maxLen] at*;omega|refine sT ?_|refine sQ ?_|refine sD ?_|refine sM fun _=>?_|refine sC ?_ ?_<;>intro hb<;>try omega|refine sCQ ?_ ?_<;>intro hb<;>try omega|fail)
    ·(refine rT1 ?_);rw [hrec,hb]
     rfl
    ·refine ⟨i+1,⟨by omega,?_⟩,by omega,?_,?_⟩
     ·rw [hrec,hb]
      rfl
     ·exact sB
     ·exact mS
   ·have e:i=L.length:=by omega
    subst e;repeat' (first|refine sT ?_|refine sM fun _=>?_|refine sC ?_ ?_<;>intro hb<;>try omega|fail)
    (refine rT1 ?_);rw [hrec,V8,hlen,V8]
    rfl
 ·repeat' first|refine sT ?_|refine sM fun _=>?_|refine sC ?_ ?_<;>intro hb<;>try omega|fail
  (refine rT1 ?_);rw [decide_eq_false];intro e;exact hlen (congrArg List.length e)
attribute [local irreducible] bg
theorem Ev (L M:List Us) (lv mv:Value) (w:World) (hl:Reads w lv L.length (L.flatMap cw)) (hm:Reads w mv M.length (M.flatMap cw)):
 aF Tryz.prog 63 [lv,mv] w (.bool (decide (L=M))):=by
 obtain ⟨Al,cl,rfl,hl1,hl2,hl3⟩:=hl;obtain ⟨Am,cm,rfl,hm1,hm2,hm3⟩:=hm;refine aA Tryz.func63 rfl Tryz.ntmps63 rfl ?_;by_cases hlen:L.length=M.length
 ·repeat' first|refine sT ?_|refine sM fun _=>?_|refine sC ?_ ?_<;>intro hb<;>try omega|fail
  refine fP (fun i:Nat=> [(0,.slice Al L.length cl),(1,.slice Am M.length cm),(5,.int .i64 (i:Int))]) (fun _=> []) (fun i=>i≤L.length∧decide (L=M)=decide (L.drop i=M.drop i)) (fun i=>L.length - i) 0 ⟨by omega,rfl⟩ ?_ ?_ ?_
  ·exact sB
  ·exact mS
  ·rintro i ⟨hi,hrec⟩;by_cases hlt:i<L.length
   ·have hlt2:i<M.length:=by omega
    obtain ⟨gl,ol,rfl,hrl⟩:=hl3 (by omega);obtain ⟨gm,om,rfl,hrm⟩:=hm3 (by omega);have he1:=hrl.elem jx i hlt;have he2:=hrm.elem jx i hlt2;rw [xo hlt hlt2,← Se] at hrec;repeat' (first|apply aY;exact rfl;apply aa;exact rfl;exact rfl;(first|exact hlt|exact hlt2)|apply aY;exact rfl;apply bC;exact rfl;(first|exact he1|exact he2);exact rfl|apply aY;exact rfl;apply Tu;exact rfl;exact rfl|apply ai;exact rfl;apply jn;exact rfl;exact rfl;simp only [maxLen] at*;omega|refine sT ?_|refine sQ ?_|refine sD ?_|refine sM fun _=>?_|refine sC ?_ ?_<;>intro hb<;>try omega|refine sCQ ?_ ?_<;>intro hb<;>try omega|fail)
    ·(refine rT1 ?_);rw [hrec,hb]
     rfl
    ·refine ⟨i+1,⟨by omega,?_⟩,by omega,?_,?_⟩
     ·rw [hrec,hb]
      rfl
     ·exact sB
     ·exact mS
   ·have e:i=L.length:=by omega
    subst e;repeat' (first|refine sT ?_|refine sM fun _=>?_|refine sC ?_ ?_<;>intro hb<;>try omega|fail)
    (refine rT1 ?_);rw [hrec,V8,hlen,V8]
    rfl
 ·repeat' first|refine sT ?_|refine sM fun _=>?_|refine sC ?_ ?_<;>intro hb<;>try omega|fail
  (refine rT1 ?_);rw [decide_eq_false];intro e;exact hlen (congrArg List.length e)
attribute [local irreducible] Qi WX
theorem IK (a b:Rct) (w:World):aF Tryz.prog 168 [.agg (bz a).toArray,.agg (bz b).toArray] w (.tuple #[.agg (bz (qf a b).1).toArray,.bool (qf a b).2]):=by
 refine aA Tryz.func168 rfl Tryz.ntmps168 rfl ?_;have h1:=fun w=>oT a w;have h2:=fun w=>oT b w;have h3:=fun w=>oT (pE a b) w;unfold qf;have hall: [a,b,pE a b].all bW=(bW a && (bW b && bW (pE a b))):=by simp
 rw [hall];unfold jr at h1 h2 h3;generalize bW a=q1 at*;generalize bW b=q2 at*;generalize bW (pE a b)=q3 at*;cases q1<;>cases q2<;>cases q3
 all_goals
  dsimp only [cond_true,cond_false] at h1 h2 h3;repeat' (first|apply ag;exact rfl;exact rfl;intro w hm;exact h1 w|apply ag;exact rfl;exact rfl;intro w hm;exact h2 w|apply ag;exact rfl;exact rfl;intro w hm;exact h3 w|refine sT ?_|refine sM fun _=>?_|refine sC ?_ ?_<;>intro hb<;>try omega|fail)
  refine BI (.inl rfl) Tryz.results168 rfl pK rfl rfl (MSub.nil _) ?_
  rfl
end Go.SL
namespace Go.SL
open Go Go.Proofs
attribute [local irreducible] W WL WQ WG WA VOp thn blk aS FnAt FnIn
theorem Cu (L:List Nd): ∀ u∈L.flatMap bu,u.oneCell' =true:=by
 intro u hu;obtain ⟨n,_,h⟩:=XB.1 hu;simp only [bu,VN,XJ,or_false] at h;rcases h with rfl|rfl|rfl|rfl|rfl|rfl|rfl|rfl|rfl|rfl|rfl<;>rfl
theorem Qk (L:List Nd) (tv:Value) (w:World) (ht:Reads w tv L.length (L.flatMap bu)) (hlen:L.length≤1000000):
 FnAt Tryz.prog 119 [tv] w fun v H=> ∃ A cap,v=sl A L.length cap∧H= [.own A 132 11 L.length cap (L.flatMap bu)]:=by
 have ht' :=ht;obtain ⟨At,ct,rfl,ht1,ht2,ht3⟩:=ht;refine aA Tryz.func119 rfl Tryz.ntmps119 rfl ?_;have hl:(L.flatMap bu).length=L.length*11:=bh cR L;refine aI 132 11 ?_;repeat' (first|apply ai;exact rfl;apply xR;exact rfl|apply dN;exact rfl;intro gb|apply dA (n' :=0) (c:=0) (A:=some _) (m:=L.length);(iterate 3 exact rfl);exact pK;intro w hm;exact ht'.of_w0 hm;exact hl;exact Cu L;omega;simp only [maxLen];omega;intro A' cap' hA|refine sT ?_|refine sM fun _=>?_|refine sC ?_ ?_<;>intro hb<;>try omega|fail)
 ·have e:L.length=0:=by
   rcases Xc L.length with h|h
   ·exact h
   ·obtain ⟨g,o,rfl,_⟩:=ht3 h;cases hb
  have e' :L= []:=Wo e;subst e';exact bp (.inl rfl) Tryz.results119 rfl (.refl _) ⟨none,0,rfl,rfl⟩
 ·exact bp (.inl rfl) Tryz.results119 rfl (H' := [.own A' 132 11 (0+L.length) cap' ([]++L.flatMap bu)]) mS ⟨A',cap',by rw [VD],by rw [VD];rfl⟩
attribute [local irreducible] FnP RW WC WLI WR WT WX aV bg bi ceP scp
theorem SB (gg gm clock:Nat) (E:List En) (a:Rf) (R:List Blk) (w0:World) (hE: ∀ e∈E,EnOk R e):
 FnIn Tryz.prog 61 [.pointer (some ⟨gg,0,none⟩),bJ a] w0 (gB gg gm (E.map En.m) clock++R) fun v H=> ∃ A cap,v= .tuple #[sl A (bf E a).tree.length cap,.bool (fD E a).isSome]∧H= .own A 132 11 (bf E a).tree.length cap ((bf E a).tree.flatMap bu)::(gB gg gm (E.map En.m) clock++R):=by
 refine bE Tryz.func61 rfl Tryz.ntmps61 rfl ?_;have hl:=Pb E a;have hok:=qR hE a;generalize bf E a=e at hl hok;have hcl:=fun (w' :World) (H' :List Blk) (hs:MSub R H') (hm:Mem w0 w' H')=>Qk e.tree e.tv w' (hok.tree _ w' (hs.use hm)) hok.tl;unfold gB;repeat' (first|apply ai;exact rfl;apply eO;exact rfl|apply lO (id:=3) [9,10] [];kernel_rfl;kernel_rfl;kernel_rfl|apply dC;(iterate 3 exact rfl);apply jc (enc:=bJ) (z:=uK);exact rfl;exact rfl;exact pK;exact hl|apply aJ (f:=119);exact rfl;exact rfl;intro w' hm;exact hcl w' _ mS hm;rintro _ _ ⟨A,cap,rfl,rfl⟩|refine zZK ?_|refine sM fun _=>?_|refine sC ?_ ?_<;>intro hb<;>try omega|refine sCW ?_ ?_<;>intro hb<;>try omega|fail)
 all_goals exact dm eIO rfl rfl rfl mS ⟨A,cap,rfl,rfl⟩
theorem Bw (X:Nx): ∀ (m:Nat) (D:List Nat),∃ R,fW X m D=D++R
 |0,D=>⟨[],by rw [fW,VB]⟩
 |m+1,D=>by
  rw [fW]
  cases h:kR X D with
  |none=>exact ⟨[],by simp⟩
  |some i=>
   obtain ⟨R,hR⟩:=Bw X m (D++ [i]);exact ⟨i::R,by simp [hR]⟩
theorem xX (X:Nx): ∀ (m:Nat) (D:List Nat) (t:Nat),D.length≤t→(ht:t<(fW X m D).length)→kR X ((fW X m D).take t)=some (fW X m D)[t]
 |0,D,t,h1,h2=>by
  rw [fW] at h2;omega
 |m+1,D,t,h1,h2=>by
  cases h:kR X D with
  |none=>
   have e:fW X (m+1) D=D:=by rw [fW,h]
   rw [e] at h2;omega
  |some i=>
   have e:fW X (m+1) D=fW X m (D++ [i]):=by rw [fW,h]
   rcases WY D.length t with h3|h3
   ·have ih:=xX X m (D++ [i]) t (by rw [Vn,Vs];exact h3) (by rw [← e];exact h2);simp only [e];exact ih
   ·have ht:t=D.length:=by omega
    subst ht;obtain ⟨R,hR⟩:=Bw X m (D++ [i]);simp only [e,hR];simp [h]
theorem Bv {X:Nx} {t:Nat} (ht:t<(cV X).length):kR X ((cV X).take t)=some (cV X)[t]:=xX X _ _ t (Vt _) ht
theorem SubN.pick_at {r:Nat→Nat→Bool} {n:Nat} {l:List Nat} {X:Nx} (S:SubN r n l X) {t:Nat} (ht:t<(cV X).length): ∃ hp:(cV X)[t]<l.length,tP r n (iT l ((cV X).take t))=some l[(cV X)[t]]:=by
 refine S.pick (fun i hi k hk=> ?_) (Bv ht);obtain ⟨j,hj,rfl⟩:=WM.1 hi;rw [VQ] at hj;rw [X9] at hk;have h1:=Bv (X:=X) (t:=j) (by omega);have h2:=(fL.1 (o5.1 h1).2.1).2 k hk;have h3:(cV X).take j=((cV X).take t).take j:=by rw [List.take_take,Xs (by omega)]
 rw [h3] at h2;exact WV h2
end Go.SL
namespace Go.SL
open Go Go.Proofs
theorem Ou (w:World) (d:Nat) (a b:Rf × Rf):(Op.equalIn (d+5) 119 (.agg (cM a).toArray) (.agg (cM b).toArray)).run Tryz.prog w= .ok (eqF a.1 b.1 && eqF a.2 b.2) w:=by
 obtain ⟨i,h1,h2⟩:=(inferInstance:Size Tryz.prog 35 2).out;have hc:Tryz.prog.cellsOf 35=2:=by kernel_rfl
 rw [run_equalIn_array w (d+4) (cM a).toArray (cM b).toArray Tryz.underlying119 h1,hc,show List.range 2= [0,1] from rfl];have hr: ∀ (a b:Rf) w,(Op.equalIn (d+4) 35 (.agg #[.int .i64 a.col,.int .i64 a.row]) (.agg #[.int .i64 b.col,.int .i64 b.row])).run Tryz.prog w= .ok (eqF a b) w:=fun a b w=>xa w (d+1) a b;have hpa: ∀ (c:Rf × Rf) w,(part 35 (cM c).toArray 0).run Tryz.prog w= .ok (.agg #[.int .i64 c.1.col,.int .i64 c.1.row]) w:=by
  intro c w;simp [part,go_sem,cM]
 have hpb: ∀ (c:Rf × Rf) w,(part 35 (cM c).toArray 2).run Tryz.prog w= .ok (.agg #[.int .i64 c.2.col,.int .i64 c.2.row]) w:=by
  intro c w;simp [part,go_sem,cM]
 by_cases h1:eqF a.1 b.1=true<;>by_cases h2:eqF a.2 b.2=true<;>simp [Op.eqItems,hpa,hpb,hr,h1,h2]
theorem PI (a b:Rf × Rf):(eqF a.1 b.1 && eqF a.2 b.2)=decide (a=b):=by
 rw [qY,qY,V3];obtain ⟨a1,a2⟩:=a;obtain ⟨b1,b2⟩:=b;simp
section
variable {w0:World} {s:aC} {H:List Blk} {ty t' :TypeId} {x y:Operand}
theorem QH {a b:Rf × Rf} (hx:ev s x=some (.agg (cM a).toArray)) (hy:ev s y=some (.agg (cM b).toArray)):VOp Tryz.prog w0 s H (.binOp .neq 119 x y t') ty (.bool (!decide (a=b))):=fun ρ w _ _ _ _ hρ _=>by
 have h:=Ou w 9995 a b;rw [PI] at h;simp only [Nat.reduceAdd] at h;simp only [execOp,hρ x _ hx,hρ y _ hy,Sem.run_bind,run_eqGuard_agg w _ _ _ _ _ _ Tryz.eqGuardType119,Result.andThen_ok,run_neq_struct,h,Sem.run_pure]
end
attribute [local irreducible] FnAt FnIn FnP RW VOp W WA WC WG WL WLI WQ WR WT WX aS aV bg bi blk ceP scp thn
theorem Ba (L M:List (Rf × Rf)) (lv mv:Value) (w:World) (hl:Reads w lv L.length (L.flatMap cM)) (hm:Reads w mv M.length (M.flatMap cM)):
 aF Tryz.prog 57 [lv,mv] w (.bool (decide (L=M))):=by
 obtain ⟨Al,cl,rfl,hl1,hl2,hl3⟩:=hl;obtain ⟨Am,cm,rfl,hm1,hm2,hm3⟩:=hm;refine aA Tryz.func57 rfl Tryz.ntmps57 rfl ?_;by_cases hlen:L.length=M.length
 ·repeat' first|refine zZB ?_|refine sM fun _=>?_|refine sC ?_ ?_<;>intro hb<;>try omega|fail
  refine fP (fun i:Nat=> [(0,.slice Al L.length cl),(1,.slice Am M.length cm),(5,.int .i64 (i:Int))]) (fun _=> []) (fun i=>i≤L.length∧decide (L=M)=decide (L.drop i=M.drop i)) (fun i=>L.length - i) 0 ⟨by omega,rfl⟩ ?_ ?_ ?_
  ·exact sB
  ·exact mS
  ·rintro i ⟨hi,hrec⟩;by_cases hlt:i<L.length
   ·have hlt2:i<M.length:=by omega
    obtain ⟨gl,ol,rfl,hrl⟩:=hl3 (by omega);obtain ⟨gm,om,rfl,hrm⟩:=hm3 (by omega);have he1:=hrl.elem q9 i hlt;have he2:=hrm.elem q9 i hlt2;rw [xo hlt hlt2] at hrec;repeat' (first|apply aY;exact rfl;apply aa;exact rfl;exact rfl;(first|exact hlt|exact hlt2)|apply aY;exact rfl;apply bC;exact rfl;(first|exact he1|exact he2);exact rfl|apply aY;exact rfl;apply QH;exact rfl;exact rfl|apply ai;exact rfl;apply jn;exact rfl;exact rfl;simp only [maxLen] at*;omega|refine sT ?_|refine sS ?_|refine sQ ?_|refine sD ?_|refine sM fun _=>?_|refine sC ?_ ?_<;>intro hb<;>try omega|refine sCQ ?_ ?_<;>intro hb<;>try omega|fail)
    ·(refine rT1 ?_);rw [hrec];simp_all
    ·refine ⟨i+1,⟨by omega,?_⟩,by omega,?_,?_⟩
     ·rw [hrec];simp_all
     ·exact sB
     ·exact mS
   ·have e:i=L.length:=by omega
    subst e;repeat' (first|refine zZB ?_|refine sM fun _=>?_|refine sC ?_ ?_<;>intro hb<;>try omega|fail)
    (refine rT1 ?_);rw [hrec,V8,hlen,V8]
    rfl
 ·repeat' first|refine zZB ?_|refine sM fun _=>?_|refine sC ?_ ?_<;>intro hb<;>try omega|fail
  (refine rT1 ?_);rw [decide_eq_false];intro e;exact hlen (congrArg List.length e)
theorem Eu {L M:List Us} (h:L=M) {lv mv:Value} {w:World} (hl:Reads w lv L.length (L.flatMap cw)) (hm:Reads w mv M.length (M.flatMap cw)):aF Tryz.prog 63 [lv,mv] w (.bool true):=by
 have:=Ev L M lv mv w hl hm;rwa [decide_eq_true h] at this
theorem AZ {L M:List (Rf × Rf)} (h:L=M) {lv mv:Value} {w:World} (hl:Reads w lv L.length (L.flatMap cM)) (hm:Reads w mv M.length (M.flatMap cM)):aF Tryz.prog 57 [lv,mv] w (.bool true):=by
 have:=Ba L M lv mv w hl hm;rwa [decide_eq_true h] at this
theorem Ew {L M:List Nd} (h:L=M) {lv mv:Value} {w:World} (hl:Reads w lv L.length (L.flatMap bu)) (hm:Reads w mv M.length (M.flatMap bu)):aF Tryz.prog 64 [lv,mv] w (.bool true):=by
 have:=Ey L M lv mv w hl hm;rwa [decide_eq_true h] at this
open Go.ChangeAt Go.ChangeShapes Go.Deep Go.RowKit Go.WideShapes
section
variable {H:Type} {enc:TypeId × Value→H} {w:World} {base:Nat} {spare:Nat→Bool} {held:Bool}
set_option maxRecDepth 100000 in
theorem Mk {v:Value} {d:DataW H} {p:List MemPlace} (hv:Value.okWide Tryz.prog w .any base 23 v) (h:DataW.Trod enc Tryz.prog w 0 spare held 23 v d p): ∃ L:List Rf,Reads w v L.length (L.flatMap aw)∧ ∀ a∈L,okF a:=
 BQ Tryz.underlying23 (by kernel_rfl) (by decide) bS (fun _ _ _ h=>N8 h) hv h
end
end Go.SL
namespace Go.SL
open Go Go.Proofs
attribute [local irreducible] W WL WQ WG WA WX WLI WR WT WC VOp RW thn blk bg scp aS aV bi FnAt FnP ceP
section
variable {R:List Blk} {E:List En} {clock:Nat} {G:Gr} (h:GOk R E clock G) (gg gm:Nat) {H:List Blk} (hs:MSub (gB gg gm (E.map En.m) clock++R) H) (w0:World)
include h hs
theorem GOk.tree_any (c:Rf):FnIn Tryz.prog 61 [.pointer (some ⟨gg,0,none⟩),bJ c] w0 H fun v H' => ∃ A cap,v= .tuple #[sl A (iM G c).length cap,.bool (isG G c)]∧H' = .own A 132 11 (iM G c).length cap ((iM G c).flatMap bu)::H:=by
 refine nk (φ:=fun v A cap=>v= .tuple #[sl A (iM G c).length cap,.bool (isG G c)]) (fun F=> ?_) hs;have h1:=SB gg gm clock E c (R++F) w0 (fun e he=>(h.en e he).sub (MSub.appL R F));rw [h.tree,h.is] at h1;rw [VC];exact h1
variable (hl:G.length≤900)
include hl
variable (hG:GrOk G)
include hG
end
attribute [local irreducible] FnIn
def AK (L:List En) (a:Rf):Int:=match L.findIdx? (fun e=>decide (e.at_=a)) with|some i=>(i:Int)|none=> -1
theorem KI {L:List En} {a:Rf} {i:Nat} (h:i<L.length) (ha:L[i].at_=a) (hno: ∀ j (h:j<L.length),j<i→L[j].at_≠a):AK L a=(i:Int):=by
 unfold AK;rw [V4.2 ⟨h,by simpa using ha,fun j hj=>by simpa using hno j (by omega) hj⟩]
theorem KH {L:List En} {a:Rf} (hno: ∀ j (h:j<L.length),L[j].at_≠a):AK L a= -1:=by
 unfold AK;rw [Wm.2];intro e he;obtain ⟨j,hj,rfl⟩:=WJ he;simpa using hno j hj
structure RGm (w:World) (g:Nat) (Al:Option Addr) (cl:Nat) (L:List En):Prop where
 box:Ro w g 0 [.slice Al L.length cl]
 row:0<L.length→ ∃ gl ol,Al=some ⟨gl,ol,none⟩∧Ro w gl ol (L.flatMap cy)
theorem RGm.of {g:Nat} {A:Option Nat} {cap:Nat} {L:List En} {H:List Blk} {w0 w:World} (hH:MSub (rgB g A cap L) H) (hm:Mem w0 w H):RGm w g (A.map fun g=>⟨g,0,none⟩) cap L:=by
 have hm' :=hH.use hm;refine ⟨Ro.of_box hm' .hd,fun hpos=> ?_⟩;obtain ⟨Al,cl,hv,_,_,hl3⟩:=Reads.of_own hm' (.tl .hd);unfold sl at hv;injection hv with hv1 hv2 hv3;rw [hv1];exact hl3 hpos
theorem ve (g:Nat) (Al:Option Addr) (cl:Nat) (L:List En) (a:Rf) (w:World) (hr:RGm w g Al cl L) (hlen:L.length≤1000000):
 aF Tryz.prog 54 [.pointer (some ⟨g,0,none⟩),bJ a] w (.int .i64 (AK L a)):=by
 obtain ⟨hr,hl3⟩:=hr;refine aA Tryz.func54 rfl Tryz.ntmps54 rfl ?_;repeat' (first|refine zZB ?_|refine sM fun _=>?_|refine sC ?_ ?_<;>intro hb<;>try omega|fail)
 rename_i g3;refine ay [0,3] rfl (fun i:Nat=> [(5,.int .i64 (i:Int))]) (fun _=> [.box g3 35 (aw a)]) (fun i=>i≤L.length∧ ∀ j (h:j<L.length),j<i→L[j].at_≠a) (fun i=>L.length - i) 0 ⟨by omega,fun j _ h=>by omega⟩ sB mS ?_;rintro i ⟨hi,hno⟩;by_cases hlt:i<L.length
 ·obtain ⟨gl,ol,rfl,hrl⟩:=hl3 (by omega);have he:=hrl.elem zB i hlt
  have hno1 := fun (h : L[i].at_ ≠ a) (j : Nat) (hj : j < L.length) (hji : j < i + 1) => (show L[j].at_ ≠ a from by
   rcases (by omega:j<i∨j=i) with h1|rfl
   ·exact hno j hj h1
   ·exact h)
  have hat:=fun h=>KI hlt h hno;generalize L[i]=e at he hno1 hat;obtain ⟨c,hc⟩: ∃ c,decide (e.at_=a)=c:=⟨_,rfl⟩;repeat' (first|apply ai (d:=10);exact rfl;apply aR (o:=0) (off:=0);exact hr;exact rfl;exact rfl|apply aY (d:=18);exact rfl;apply aR (o:=0) (off:=0);exact hr;exact rfl;exact rfl|apply aY (d:=20);exact rfl;apply aa (j:=i);exact rfl;exact rfl;exact hlt|apply aY (d:=22);exact rfl;apply cZ (off:=0) (ys:=aw e.at_) he;(iterate 3 exact rfl)|apply aY (d:=24);exact rfl;apply Bo;exact hc;exact rfl;exact rfl|refine zZG ?_|refine sM fun _=>?_|refine sC ?_ ?_<;>intro hb<;>try omega|refine sCQ ?_ ?_<;>intro hb<;>try omega|fail)
  all_goals try omega
  ·refine bp eIO rfl rfl (.nil _) ?_;rw [hat (by simp_all)]
  ·refine ⟨i+1,?_,(by first|omega|dsimp only;omega),sB,sB,mS⟩;exact ⟨hlt,hno1 (by simp_all)⟩
 ·have e2:i=L.length:=by omega
  subst e2;repeat' (first|apply ai (d:=10);exact rfl;apply aR (o:=0) (off:=0);exact hr;exact rfl;exact rfl|refine zZA ?_|refine sM fun _=>?_|refine sC ?_ ?_<;>intro hb<;>try omega|fail)
  all_goals first
   |omega
   | (refine bp eIO rfl rfl (.nil _) ?_
      rw [KH fun j hj=>hno j hj hj])
theorem wq (e:En) (r:Rct) (w:World) (ht:Reads w e.uv e.uses.length (e.uses.flatMap cw)) (hlen:e.uses.length≤1000000):
 aF Tryz.prog 105 [.agg (cy e).toArray,.agg (bz r).toArray] w (.bool (bH e.uses r)):=by
 obtain ⟨Al,cl,hv,hl1,hl2,hl3⟩:=ht;refine aA Tryz.func105 rfl Tryz.ntmps105 rfl ?_;have he:cy e= [.int .i64 e.at_.col,.int .i64 e.at_.row,e.tv,.slice Al e.uses.length cl]:=by rw [← hv];rfl
 rw [he];generalize e.tv=tv;generalize e.uses=L at hl1 hl3 hlen;repeat' (first|refine zZB ?_|refine sM fun _=>?_|refine sC ?_ ?_<;>intro hb<;>try omega|fail)
 rename_i g2 g3;refine ay [2,3] rfl (fun i:Nat=> [(5,.int .i64 (i:Int))]) (fun _=> [.box g3 53 (bz r),.box g2 200 [.int .i64 e.at_.col,.int .i64 e.at_.row,tv,.slice Al L.length cl]]) (fun i=>i≤L.length∧bH L r=bH (L.drop i) r) (fun i=>L.length - i) 0 ⟨by omega,rfl⟩ sB mS ?_;rintro i ⟨hi,hrec⟩;by_cases hlt:i<L.length
 ·obtain ⟨gl,ol,rfl,hrl⟩:=hl3 (by omega);have hu:=hrl.elem jx i hlt;rw [Vy hlt] at hrec;unfold bH at hrec;rw [List.any_cons] at hrec;unfold bH;generalize L[i]=u at hu hrec;have hM:=fun w=>IK u.rect r w;unfold lS at hrec;generalize qf u.rect r=mr at hM hrec;obtain ⟨m1,m2⟩:=mr;dsimp only at hM;repeat' (first|refine zZA ?_|refine sM fun _=>?_|refine sC ?_ ?_<;>intro hb<;>try omega|fail)
  all_goals try omega
  refine aI 0 0 ?_
  refine xI (id:=4) (fun|11=>some fun g=> .pointer (some ⟨g.2,0,none⟩)|_=>none)
   (fun (D:gN) (q:Nat→Gh)=>(bif D 11 then Blk.box (q 11).2 53 (bif D 12 then bz m1 else [.int .i64 0,.int .i64 0,.int .i64 0,.int .i64 0]) else TY):: .box g3 53 (bz r):: .box g2 200 [.int .i64 e.at_.col,.int .i64 e.at_.row,tv,.slice (some ⟨gl,ol,none⟩) L.length cl]:: []) ?_ ?_ ?_ ?_
  ·kernel_rfl
  ·kernel_rfl
  ·intro γ;exact mS
  intro γ;repeat' (first|apply CO (d:=19);(iterate 3 exact rfl);intro D ht;apply aa (j:=i);exact rfl;exact rfl;exact hlt;exact fun _=>rfl|apply CO (d:=21);(iterate 3 exact rfl);intro D ht;apply cZ (off:=0) (ys:=bz u.rect) hu;(iterate 3 exact rfl);exact fun _=>rfl|apply xy (f:=168);(iterate 3 exact rfl);decide+kernel;exact rfl;intro D ht w hm;exact hM w;exact fun _=>rfl|refine zZN ?_|refine sM fun _=>?_|refine sC ?_ ?_<;>intro hb<;>try omega|refine sCX ?_ ?_<;>intro hb<;>try omega|fail)
  refine xx rfl rfl rfl (fun D ht=> ?_) ?_
  ·have n10:D 11=false:=ht.not;have n11:D 12=false:=ht.late (j:=12) (f:=60) (by decide+kernel);simp only [gat,put,upd,Nat.reduceEqDiff,Nat.reduceAdd,reduceIte,n10,n11,cond_true,cond_false,Vq,Vp,WO,Xd,Wp,WI];(with_reducible apply EL);exact rfl;intro g;refine rQ ⟨rfl,(none,g),rfl,?_⟩;simp only [gat,put,upd,Nat.reduceEqDiff,Nat.reduceAdd,reduceIte,n10,n11,cond_true,cond_false,Vq,Vp,WO,Xd,Wp,WI];exact mS
  refine SZ (T:=53) (vs:=bz m1) rfl rfl rfl rfl rfl rfl rfl (fun D ht=> ?_) ?_
  ·have n11:D 12=false:=ht.not;have n10:D 11=true:=ht.early (i:=11) (f:=60) (by decide+kernel);simp only [gat,put,upd,Nat.reduceEqDiff,Nat.reduceAdd,reduceIte,n10,n11,cond_true,cond_false,Vq,Vp,WO,Xd,Wp,WI];refine ⟨_,_,.hd,?_,?_⟩
   ·exact YY rfl
   ·exact mS
  repeat' first|refine zZN ?_|refine sM fun _=>?_|refine sC ?_ ?_<;>intro hb<;>try omega|refine sCX ?_ ?_<;>intro hb<;>try omega|fail
  intro D hD;have n10:=hD 11 (by decide);have n11:=hD 12 (by decide);simp only [gat,put,upd,Nat.reduceEqDiff,Nat.reduceAdd,reduceIte,n10,n11,cond_true,cond_false,Vq,Vp,WO,Xd,Wp,WI];cases m2
  ·repeat' first|refine zZA ?_|refine sM fun _=>?_|refine sC ?_ ?_<;>intro hb<;>try omega|fail
   refine ⟨i+1,⟨hlt,hrec⟩,by omega,?_,?_,?_⟩
   ·exact sB
   ·exact sB
   ·exact mS
  ·repeat' first|refine zZA ?_|refine sM fun _=>?_|refine sC ?_ ?_<;>intro hb<;>try omega|fail
   refine bp eIO rfl rfl (.nil _) ?_;rw [show L.any (lS r)=true from hrec]
 ·have e2:i=L.length:=by omega
  subst e2;rw [V8] at hrec;rw [hrec];repeat' (first|refine zZA ?_|refine sM fun _=>?_|refine sC ?_ ?_<;>intro hb<;>try omega|fail)
  all_goals first
   |omega
   |exact bp eIO rfl rfl (.nil _) rfl
end Go.SL

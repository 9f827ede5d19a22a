/-
  Lemmas and walks, put together: C4 D6 W17 W18 C5 Q1.
-/
import Derived.Test.YtpoafcnhplbkmaaGreatDoorKs09
import Derived.Test.YtpoafcnhplbkmaaGreatDoorKs10
set_option linter.unusedSimpArgs false
set_option linter.unusedVariables false
set_option maxRecDepth 20000
set_option maxHeartbeats 16000000
namespace Go.SL
open Go Go.Proofs
attribute [local irreducible] W WL WQ WG WA WX WLI WR WT VOp thn blk bH scp aV bz bP FnAt FnIn FnP
def Ol (F:Int→PS→Option Out) (fid:FuncId) (args:List Value):Prop:=
 ∀ (toks:List Tk) (A:Option Nat) (cap:Nat) (fin:Int) (g:Nat) (p:PS) (lv:Value) (B:Option Nat) (cb:Nat) (r:Out) (R:List Blk) (w0:World),toks.length≤cap→toks.length≤1000→At toks A cap p lv→F fin p=some r→
  FnP Tryz.prog fid (.pointer (some ⟨g,0,none⟩)::args) w0 (pB g lv A cap fin toks B cb p.out++R) (PR toks A cap fin g R r) (PD R r)
def GM (c:Int) (fin:Int) (p:PS):Option Out:=if (hdT fin p.l).kind≠c then some (.error ((hdT fin p.l).at_,4)) else some (.ok (0,p.skip))
theorem zQ (c:Int) (h0:c≠0):Ol (GM c) 312 [.int .u8 c]:=by
 intro toks A cap fin g p lv B cb r R w0 hc hl hat hrun;refine xd Tryz.func312 rfl Tryz.ntmps312 rfl ?_;have hh:=fun w hm=>hat.head (fin:=fin) (g:=g) (B:=B) (cb:=cb) (out:=p.out) (H:=pB g lv A cap fin toks B cb p.out++R) (w0:=w0) (MSub.pick .hd (.pick .hd (.pick .hd (.nil _)))) w hm;unfold GM at hrun;obtain ⟨t,ht⟩: ∃ t,hdT fin p.l=t:=⟨_,rfl⟩;rw [ht] at hrun hh;by_cases hk:t.kind≠c
 ·rw [if_pos hk] at hrun;cases hrun;repeat' (first|(apply aa (f:=148);exact rfl;exact rfl;exact hh)|(refine bL (f:=149) rfl rfl (jE _ _ _ _ _ (fun _ _=>False)) ?_ ?_)|(exact fun _ _ h=>h.elim)|(rintro _ _ ⟨rfl,rfl⟩)|refine zZD ?_|refine sM fun _=>?_|(refine sC ?_ ?_<;>intro hb<;>try omega)|fail)
  all_goals first
   |(exfalso;omega)
   | (refine da rfl ?_
      dsimp only [List.cons_append,List.nil_append,pB];exact mS)
 ·rw [if_neg hk] at hrun;cases hrun;repeat' (first|(apply aa (f:=148);exact rfl;exact rfl;exact hh)|(apply ak (f:=249);exact rfl;exact rfl;exact hat.skip hc (c:=c) (by rw [ht];omega) h0 (MSub.pick pK (MSub.pick pK (MSub.pick pK (MSub.refl _))));rintro _ _ ⟨rfl,lv1,h1,rfl⟩)|refine zZD ?_|refine sM fun _=>?_|(refine sC ?_ ?_<;>intro hb<;>try omega)|fail)
  all_goals first
   |(exfalso;omega)
   | (refine fk (B' := B) (cb' := cb) (by first | exact .inr rfl | exact .inl rfl) rfl rfl (At1.at h1) ?_
      dsimp only [List.cons_append,List.nil_append,pB];exact mS)
theorem qD (v:Vl):Ol (fun fin p=>if (hdT fin p.l).kind=0 then none else some (.ok (0,p.skip.put ⟨1,v,aS,0,0,0⟩))) 311 [.agg (d9 v).toArray]:=by
 intro toks A cap fin g p lv B cb r R w0 hc hl hat hrun;refine xd Tryz.func311 rfl Tryz.ntmps311 rfl ?_;dsimp only at hrun;by_cases hk:(hdT fin p.l).kind=0
 ·rw [if_pos hk] at hrun;cases hrun
 rw [if_neg hk] at hrun;cases hrun;repeat' (first|(apply ak (f:=249);exact rfl;exact rfl;exact hat.skip hc rfl hk (MSub.pick pK (MSub.pick pK (MSub.pick pK (MSub.refl _))));rintro _ _ ⟨rfl,lv1,h1,rfl⟩)|(apply ak (f:=250);exact rfl;exact rfl;exact FnIn.msub (lz ⟨1,v,aS,0,0,0⟩ _ _ _ _ _ _ _ _ _ (At.len hat hl) _ _) (MSub.pick pK (MSub.pick pK (MSub.pick pK (MSub.refl _))));rintro _ _ ⟨rfl,B3,cb3,rfl⟩)|refine zZD ?_|refine sM fun _=>?_|(refine sC ?_ ?_<;>intro hb<;>try omega)|fail)
 all_goals
  refine fk (p' :=p.skip.put ⟨1,v,aS,0,0,0⟩) (B' :=B3) (cb' :=cb3) (by first|exact .inr rfl|exact .inl rfl) rfl rfl (h1.put _) ?_;dsimp only [List.cons_append,List.nil_append,pB];exact mS
theorem F2 (f:Nat) (ih:POK f (.level 1) 196 [.int .i64 1]):POK f (.level 1) 147 []:=by
 intro toks A cap fin g p lv B cb r R w0 hc hl hat hrun;refine xd Tryz.func147 rfl Tryz.ntmps147 rfl ?_;repeat' (first|(refine bL (f:=196) rfl rfl (FnP.msub (ih toks A cap fin g p _ B cb r _ w0 hc hl hat hrun) (MSub.pick pK (MSub.pick pK (MSub.pick pK (MSub.refl _))))) ?_ ?_)|(rintro _ _ ⟨rfl,n,p',lv',B',cb',rfl,h2,rfl⟩)|(rintro _ _ ⟨e,rfl,rfl,h3⟩)|refine zZD ?_|refine sM fun _=>?_|(refine sC ?_ ?_<;>intro hb<;>try omega)|fail)
 ·exact fk (by first|exact .inr rfl|exact .inl rfl) rfl rfl h2 (.refl _)
 ·exact da rfl h3
def Bd (f:Nat) (fn:Int) (n:Nat) (fin:Int) (p:PS):Option Out:=
 if (hdT fin p.l).kind≠6 then gK (bw fin f (.level 1) p) fun _ p=>some (.ok (0,p))
 else if (kB fn n).1=false∨(kB fn n).2≠0 then some (.error ((hdT fin p.l).at_,4))
 else some (.ok (0,p.skip.put ⟨3,bK,(hdT fin p.l).rect,0,0,0⟩))
theorem B6 {o:Option Out} {k k' :Nat→PS→Option Out}:gK (gK o k) k' =gK o fun n p=>gK (k n p) k' :=by
 match o with
 |none=>rfl
 |some (.ok (n,p))=>rfl
 |some (.error e)=>rfl
theorem Bc (fin:Int) (f:Nat) (fn:Int) (n:Nat) (p:PS):bw fin (f+1) (.args fn n) p=gK (Bd f fn n fin p) fun _ p=>if (hdT fin p.l).kind=11 then bw fin f (.args fn (n+1)) p.skip else some (.ok (n+1,p)):=by
 rw [bw];unfold Bd;split
 ·rw [B6];rfl
 ·split<;>rfl
theorem Ei (f:Nat) (fn:Int) (n:Nat) (ih:POK f (.level 1) 147 []):Ol (Bd f fn n) 325 [.int .u8 fn,.int .i64 n]:=by
 intro toks A cap fin g p lv B cb r R w0 hc hl hat hrun;refine xd Tryz.func325 rfl Tryz.ntmps325 rfl ?_;have hh:=fun w hm=>hat.head (fin:=fin) (g:=g) (B:=B) (cb:=cb) (out:=p.out) (H:=pB g lv A cap fin toks B cb p.out++R) (w0:=w0) (MSub.pick .hd (.pick .hd (.pick .hd (.nil _)))) w hm;unfold Bd at hrun;obtain ⟨t,ht⟩: ∃ t,hdT fin p.l=t:=⟨_,rfl⟩;rw [ht] at hrun hh;by_cases hk:t.kind≠6
 ·rw [if_pos hk] at hrun;obtain ⟨r1,hr1,hr2⟩:=bI hrun;repeat' (first|(apply aa (f:=148);exact rfl;exact rfl;exact hh)|(refine bL (f:=147) rfl rfl (FnP.msub (ih toks A cap fin g p _ B cb r1 _ w0 hc hl hat hr1) (MSub.pick pK (MSub.pick pK (MSub.pick pK (MSub.refl _))))) ?_ ?_)|(rintro _ _ ⟨rfl,n,p',lv',B',cb',rfl,h2,rfl⟩)|(rintro _ _ ⟨e,rfl,rfl,h3⟩)|refine zZD ?_|refine sM fun _=>?_|(refine sC ?_ ?_<;>intro hb<;>try omega)|fail)
  ·rcases hr2 with ⟨e,h,_⟩|⟨n1,p1,h,h5⟩
   ·cases h
   ·cases h;cases h5;refine fk (B' :=B') (cb' :=cb') (by first|exact .inr rfl|exact .inl rfl) rfl rfl h2 ?_;simp only [Re,QV,QW,pB];exact mS
  ·rcases hr2 with ⟨e',h,h5⟩|⟨n1,p1,h,h5⟩
   ·cases h;exact da h5 (MSub.trans (.drop .hd (.refl _)) h3)
   ·cases h
 ·rw [if_neg hk] at hrun;have hw:=fun w=>GK fn n w;obtain ⟨wb,we,hwe⟩: ∃ wb we,kB fn n=(wb,we):=⟨_,_,rfl⟩;rw [hwe] at hrun hw;by_cases hwk:wb=false∨we≠0
  ·rw [if_pos hwk] at hrun;cases hrun;repeat' (first|(apply aa (f:=148);exact rfl;exact rfl;exact hh)|(apply aa (f:=280);exact rfl;exact rfl;(intro w' _;exact hw w'))|(refine bL (f:=149) rfl rfl (jE _ _ _ _ _ (fun _ _=>False)) ?_ ?_)|(exact fun _ _ h=>h.elim)|(rintro _ _ ⟨rfl,rfl⟩)|refine zZD ?_|refine sM fun _=>?_|(refine sC ?_ ?_<;>intro hb<;>try omega)|fail)
   all_goals first
    |(exfalso;simp_all<;>omega)
    |(exfalso;omega)
    | (refine da rfl ?_
       simp only [Re,QV,QW,pB];exact mS)
  ·rw [if_neg hwk] at hrun;cases hrun;repeat' (first|(apply aa (f:=148);exact rfl;exact rfl;exact hh)|(apply aa (f:=280);exact rfl;exact rfl;(intro w' _;exact hw w'))|(apply ak (f:=249);exact rfl;exact rfl;exact hat.skip hc (c:=6) (by rw [ht];omega) (by decide) (MSub.pick pK (MSub.pick pK (MSub.pick pK (MSub.refl _))));rintro _ _ ⟨rfl,lv1,h1,rfl⟩)|(apply ak (f:=250);exact rfl;exact rfl;exact FnIn.msub (lz ⟨3,bK,t.rect,0,0,0⟩ _ _ _ _ _ _ _ _ _ (At.len hat hl) _ _) (MSub.pick pK (MSub.pick pK (MSub.pick pK (MSub.refl _))));rintro _ _ ⟨rfl,B3,cb3,rfl⟩)|refine zZD ?_|refine sM fun _=>?_|(refine sC ?_ ?_<;>intro hb<;>try omega)|fail)
   all_goals first
    |(exfalso;simp_all<;>omega)
    |(exfalso;omega)
    | (refine fk (p' := p.skip.put ⟨3, bK, t.rect, 0, 0, 0⟩) (B' := B3) (cb' := cb3) (by first | exact .inr rfl | exact .inl rfl) rfl rfl (h1.put _) ?_
       simp only [Re,QV,QW,pB];exact mS)
end Go.SL
namespace Go.SL
open Go Go.Proofs
attribute [local irreducible] W WL WQ WG WA WX WLI WR WT WC VOp RW thn blk bH scp aV bz bP FnAt FnIn FnP ceP
theorem Oi (gg gm clock:Nat) (E:List En) (a:Rf) (R:List Blk) (w0:World) (hE: ∀ e∈E,EnOk R e):
 FnIn Tryz.prog 61 [.pointer (some ⟨gg,0,none⟩),dm a] w0 (gB gg gm (E.map En.m) clock++R) fun v H=> ∃ A cap,v= .tuple #[sl A (aW E a).tree.length cap,.bool (eL E a).isSome]∧H= .own A 123 11 (aW E a).tree.length cap ((aW E a).tree.flatMap bf)::(gB gg gm (E.map En.m) clock++R):=by
 refine bF Tryz.func61 rfl Tryz.ntmps61 rfl ?_;have hl:=LB E a;have hok:=sx hE a;generalize aW E a=e at hl hok;have hcl:=fun (w' :World) (H' :List Blk) (hs:MSub R H') (hm:Mem w0 w' H')=>My e.tree e.tv w' (hok.tree _ w' (hs.use hm)) hok.tl;unfold gB;repeat' (first|(apply ai;exact rfl;apply eK;exact rfl)|(apply lZ (id:=3) [9,10] [];kernel_rfl;kernel_rfl;kernel_rfl)|(apply fq;(iterate 3 exact rfl);apply iy (enc:=dm) (z:=uT);exact rfl;exact rfl;exact pK;exact hl)|(apply aK (f:=104);exact rfl;exact rfl;(intro w' hm;exact hcl w' _ mS hm);rintro _ _ ⟨A,cap,rfl,rfl⟩)|refine zZI ?_|refine sM fun _=>?_|(refine sC ?_ ?_<;>intro hb<;>try omega)|(refine sCW ?_ ?_<;>intro hb<;>try omega)|fail)
 all_goals exact dB eIO rfl rfl rfl mS ⟨A,cap,rfl,rfl⟩
theorem L5 (u:Us) (b:Rf) (g:Nat) (w:World) (hr:Ro w g 0 (aB b)):aC Tryz.prog 102 [.agg (cP u).toArray,.pointer (some ⟨g,0,none⟩)] w (.bool (DC u.rect b)):=by
 refine ay Tryz.func102 rfl Tryz.ntmps102 rfl ?_;have hh:=fun w=>PT u.rect b w;repeat' (first|(apply ai;exact rfl;apply bO (o:=0);exact rfl;exact hr;exact rfl)|(apply aa;exact rfl;exact rfl;(intro w hm;exact hh w))|refine sT ?_|refine sM fun _=>?_|(refine sC ?_ ?_<;>intro hb<;>try omega)|fail)
 all_goals exact bJ eIO rfl rfl (.nil _) rfl
def FY (q:Us→Bool) (L:List Us):Int:=match L.findIdx? q with|some i=>(i:Int)|none=> -1
theorem J1 (f:FuncId) [Callable Tryz.prog f] (caps:List Value) (q:Us→Bool) (L:List Us) (hlen:L.length≤1000000) (tv:Value) (w:World) (ht:Reads w tv L.length (L.flatMap cP))
 (hf: ∀ u w' H,Mem w w' H→aC Tryz.prog f ([.agg (cP u).toArray]++caps) w' (.bool (q u))):
 aC Tryz.prog 160 [tv,.func (.func f) #[] caps.toArray] w (.int .i64 (FY q L)):=by
 obtain ⟨Al,cl,rfl,hl1,hl2,hl3⟩:=ht;refine ay Tryz.func160 rfl Tryz.ntmps160 rfl ?_;repeat' (first|refine sT ?_|refine sM fun _=>?_|(refine sC ?_ ?_<;>intro hb<;>try omega)|fail)
 refine fR (fun i:Nat=> [(0,.slice Al L.length cl),(1,.func (.func f) #[] caps.toArray),(7,.int .i64 (L.length:Int)),(8,.int .i64 (i:Int))]) (fun _=> []) (fun i=>i≤L.length∧ ∀ j (h:j<L.length),j<i→q L[j]=false) (fun i=>L.length - i) 0 ⟨by omega,fun j _ h=>by omega⟩ sB (.refl _) ?_;rintro i ⟨hi,hno⟩;by_cases hlt:i<L.length
 ·obtain ⟨gl,ol,rfl,hrl⟩:=hl3 (by omega);have he:=hrl.elem kW i hlt;have hq:=fun w' H=>hf L[i] w' H;have hnext:q L[i]=false→ ∀ j (h:j<L.length),j<i+1→q L[j]=false:=fun h0 j h hj=>by
   by_cases e:j=i
   ·subst e;exact h0
   ·exact hno j h (by omega)
  have hres:q L[i]=true→FY q L=(i:Int):=fun h0=>by
   unfold FY;rw [RU.2 ⟨hlt,h0,fun j hj=>by rw [hno j (by omega) hj];simp⟩]
  generalize L[i]=u at he hq hnext hres;generalize q u=b at hq hnext hres;repeat' (first|(apply ko;exact rfl;exact rfl;infer_instance;exact rfl;(intro w' hm;exact hq w' _ hm))|refine zZJ ?_|refine sM fun _=>?_|(refine sC ?_ ?_<;>intro hb<;>try omega)|fail)
  all_goals first
   |(refine bJ eIO rfl rfl (.nil _) ?_;rw [hres (by assumption)];done)
   |(refine ⟨i+1,⟨hlt,hnext (by assumption)⟩,by omega,?_,.nil _⟩;exact sB;done)
 ·have e:i=L.length:=by omega
  subst e;have hres:FY q L= -1:=by
   unfold FY
   rw [Sy.2 fun x hx=>by
    obtain ⟨j,hj,rfl⟩:=Tb hx;exact hno j hj hj]
  repeat' (first|refine sT ?_|refine sM fun _=>?_|(refine sC ?_ ?_<;>intro hb<;>try omega)|fail)
  all_goals (refine bJ eIO rfl rfl (.nil _) ?_;rw [hres])
theorem Bn (f:FuncId) [Callable Tryz.prog f] (caps:List Value) (q:Us→Bool) (L:List Us) (hlen:L.length≤1000000) (tv:Value) (w:World) (ht:Reads w tv L.length (L.flatMap cP))
 (hf: ∀ u w' H,Mem w w' H→aC Tryz.prog f ([.agg (cP u).toArray]++caps) w' (.bool (q u))):
 aC Tryz.prog 101 [tv,.func (.func f) #[] caps.toArray] w (.bool (L.any q)):=by
 refine ay Tryz.func101 rfl Tryz.ntmps101 rfl ?_;have hI:=fun (w' :World) (H:List Blk) (hm:Mem w w' H)=>J1 f caps q L hlen tv w' (ht.of_w0 hm) (fun u w2 H2 hm2=>hf u w2 _ (hm.call hm2));have hres:decide (0≤FY q L)=L.any q:=by
  unfold FY
  cases h:L.findIdx? q with
  |none=>
   rw [Sy] at h;have:L.any q=false:=by rw [List.any_eq_false];exact fun x hx=>by rw [h x hx];simp
   rw [this];rfl
  |some i=>
   obtain ⟨h1,h2,_⟩:=RU.1 h;have:L.any q=true:=Uk.2 ⟨_,RL h1,h2⟩;rw [this];simp
 repeat' (first|(apply aa (f:=160);exact rfl;exact rfl;(intro w' hm;exact hI w' _ hm))|refine sT ?_|refine sM fun _=>?_|(refine sC ?_ ?_<;>intro hb<;>try omega)|fail)
 all_goals (refine bJ eIO rfl rfl (.nil _) ?_;rw [hres])
end Go.SL
namespace Go.SL
open Go Go.Proofs
attribute [local irreducible] W WL WQ WG WA VOp thn blk aV FnAt FnIn
def qM (n:Nd) (i:Int) (m:Nd):Bool:=
 if n.kind≠7 then decide (m.kind≠3) else if 46≤n.fn then decide (m.kind=3)||decide (m.kind=2) else decide (m.kind≠3)||fX n.fn i
set_option maxRecDepth 10000 in
theorem Fs (n:Nd) (i:Int) (m:Nd) (w:World):aC Tryz.prog 309 [.agg (bf n).toArray,.int .i64 i,.agg (bf m).toArray] w (.bool (qM n i m)):=by
 refine ay Tryz.func309 rfl Tryz.ntmps309 rfl ?_;repeat' (first|(apply aa;exact rfl;exact rfl;(intro w hm;exact vY n.fn i w))|refine sT ?_|refine sM fun _=>?_|(refine sC ?_ ?_<;>intro hb<;>try omega)|exact cT|fail)
 all_goals ((refine rT1 ?_);((try simp only [← Int.not_lt] at*);simp_all [qM, -Int.not_lt, -Int.not_le,← Int.not_lt]))
theorem xg {n:Nd} (h:bB n=0):eR n=true∧(n.kind=7→cV n.fn=true∧(bQ n.fn).1≤n.n∧n.n≤(bQ n.fn).2):=by
 unfold bB at h;split at h
 ·cases h
 ·rename_i h1;have hf:eR n=true:=by
   unfold eR;cases ha:fj n<;>cases hb:eqN n (du n)<;>simp_all
  refine ⟨hf,fun h7=> ?_⟩;rw [if_neg (by simp [h7])] at h;cases hk:cV n.fn
  ·rw [pR hk] at h;simp at h
  ·rw [lL hk] at h;refine ⟨rfl,?_⟩;dsimp only at h;rw [if_neg (by simp)] at h;split at h
   ·cases h
   ·omega
theorem vX {fn:Int} (h:cV fn=true):jf fn=decide (46≤fn):=by
 simp only [cV,RB,decide_eq_true_eq] at h;unfold jf;rw [decide_eq_true (by omega:fn≤50),SD]
theorem xP {fn i:Int} (h:46≤fn) (hk:cV fn=true) (h0:0≤i) (h1:i<(bQ fn).2):fX fn i=true:=by
 simp only [cV,RB,decide_eq_true_eq] at hk;unfold fX;rw [if_neg (by omega),if_neg (by omega),if_neg (by omega),if_neg (by omega),decide_eq_true h,decide_eq_true hk.2]
 rfl
theorem F3 {L:List Nd} {n:Nd} {p:Pt} (h:bB n=0) (hr:p.root<L.length) (hp:p.wide=decide (L[p.root].kind=3)) {i:Int} (h0:0≤i) (h1:i<below n):sK L n i p=qM n i L[p.root]:=by
 obtain ⟨_,h7⟩:=xg h;unfold sK qM Dl;rw [jl hr,hp];generalize L[p.root].kind=k;by_cases hk7:n.kind=7
 ·obtain ⟨hk,ha,hb⟩:=h7 hk7;have hb7:below n=n.n:=by simp [below,hk7]
  rw [if_pos hk7,if_neg (by simp [hk7]),vX hk,u6 hk];by_cases h46:46≤n.fn
  ·rw [if_pos h46,xP h46 hk h0 (by omega)];by_cases e3:k=3
   ·simp [e3,hk7,h46]
   ·by_cases e2:k=2<;>simp [e3,e2,hk7,h46]
  ·rw [if_neg h46];by_cases e3:k=3<;>simp [e3,h46]
 ·rw [if_neg hk7,if_pos hk7];by_cases e3:k=3<;>simp [e3,hk7]
theorem pG {fn:Int} (hk:cV fn=true):gY fn≠ax:=by
 simp only [cV,RB,decide_eq_true_eq] at hk;obtain ⟨j,hj⟩:=Uw (by omega:0≤fn - 1);have e2:gY fn=dC.getD j ax:=by
  rw [gY,if_neg (by omega),show fn.toNat=j+1 by omega]
  rfl
 rw [e2];exact (Lg j (by omega)).1
theorem ui {fn:Int} (hk:cV fn=false) (h0:0≤fn):gY fn=ax:=by
 simp only [cV,Tc,decide_eq_false_iff_not] at hk;rw [gY];split
 ·rfl
 ·rw [show fn.toNat=0 by omega]
  rfl
theorem DQ {n:Nd} (h:bB n≠0):(eR n=false∧bB n=2)∨(eR n=true∧n.kind=7∧cV n.fn=false∧bB n=10)∨
 (eR n=true∧n.kind=7∧cV n.fn=true∧(n.n<(bQ n.fn).1∨(bQ n.fn).2<n.n)∧bB n=11):=by
 unfold bB at h ⊢;by_cases h1:fj n=false∨eqN n (du n)=false
 ·left
  refine ⟨?_,if_pos h1⟩;unfold eR;rcases h1 with h1|h1<;>simp [h1]
 ·right
  rw [if_neg h1] at h ⊢;have hf:eR n=true:=by
   unfold eR;cases ha:fj n<;>cases hb:eqN n (du n)<;>simp_all
  by_cases h7:n.kind=7
  ·rw [if_neg (by simp [h7])] at h ⊢;cases hk:cV n.fn
   ·left
    rw [pR hk] at h ⊢;exact ⟨hf,h7,rfl,by simp⟩
   ·right
    rw [lL hk] at h ⊢;dsimp only at h ⊢;rw [if_neg (by simp)] at h ⊢;by_cases hc:n.n<(bQ n.fn).1∨(bQ n.fn).2<n.n
    ·exact ⟨hf,h7,rfl,hc,if_pos hc⟩
    ·rw [if_neg hc] at h;exact absurd rfl h
  ·rw [if_pos (by simpa using h7)] at h;exact absurd rfl h
def qt (p:Pt):List Value:= [.int .i64 (p.root:Int),.int .i64 (p.depth:Int)]
theorem xq (p:Pt):(qt p).length=2:=rfl
def wfN (n:Nd):Prop:= -9223372036854775808≤n.v.num∧0≤n.fn∧n.fn≤255
def wD (L:List Nd) (n:Nd) (i:Nat) (st:List Pt):List Pt × Int:=
 match jC L n i st with
 | .inl e=>([],e)
 | .inr r=>(r.1,0)
theorem GS {P:Program} {w0:World} {s:az} {H:List Blk} {ty:TypeId} {x y:Operand} {b:Nat} {t t' :TypeId} (hx:ev s x=some (.int .i64 1)) (hy:ev s y=some (.int .i64 (b:Nat))) (hb:b+1≤maxLen):VOp P w0 s H (.binOp .add t x y t') ty (.int .i64 ((b+1:Nat):Int)):=by
 have h:=fT (P:=P) (w0:=w0) (H:=H) (ty:=ty) (t:=t) (t' :=t') (a:=1) hx hy (by omega);rwa [Th 1 b] at h
theorem JE (L:List Pt): ∀ u∈L.flatMap qt,u.oneCell' =true:=by
 intro u hu;obtain ⟨n,_,h⟩:=TX.1 hu;simp only [qt,RF,TK,or_false] at h;rcases h with rfl|rfl<;>rfl
structure TopsOk (L:List Nd) (i:Nat) (st:List Pt):Prop where
 ok: ∀ p∈st,p.root<i∧p.depth≤32∧p.wide=decide (jm L p.root=3)
 small:st.length≤i
theorem Fl (L:List Nd) (i:Nat) (hi:i<L.length) (hlen:L.length≤256) (hwf:wfN L[i]) (st:List Pt) (hst:TopsOk L i st) (tv lv:Value) (w:World) (ht:Reads w tv L.length (L.flatMap bf)) (hp:Reads w lv st.length (st.flatMap qt)):
 FnAt Tryz.prog 290 [tv,.int .i64 (i:Int),lv] w fun v H=> ∃ A cap,v= .tuple #[sl A (wD L L[i] i st).1.length cap,.int .i64 (wD L L[i] i st).2]∧H= [.own A 334 2 (wD L L[i] i st).1.length cap ((wD L L[i] i st).1.flatMap qt)]:=by
 have hp' :=hp;obtain ⟨At,ct,rfl,ht1,ht2,ht3⟩:=ht;obtain ⟨Al,cl,rfl,hl1,hl2,hl3⟩:=hp;obtain ⟨gt,ot,rfl,hrt⟩:=ht3 (by omega);have hrn:=hrt.elem cu i hi;obtain ⟨hok,hsmall⟩:=hst;refine ay Tryz.func290 rfl Tryz.ntmps290 rfl ?_;refine aI 334 2 ?_;generalize hn:L[i]=n at hrn hwf;generalize hR:wD L n i st=R;unfold wD jC at hR;by_cases hfe:bB n=0
 ·obtain ⟨hb0,hb16⟩:=sL hfe;obtain ⟨k,hk⟩:=Uw hb0;obtain ⟨hf1,hf7⟩:=xg hfe;have c1:=fun w=>hf1 ▸ j6 n hwf.1 w;have c2:=fun w=>ng n.fn hwf.2.1 hwf.2.2 w;have c3:=fun w=>lr n.fn w;have hne:=fun h7=>pG (hf7 h7).1;have har:=fun h7=>(hf7 h7).2;have c4: ∀ w,aC Tryz.prog 209 [.agg (bf n).toArray] w (.int .i64 (k:Int)):=fun w=>hk ▸ tH n w;rw [if_neg (by simp [hfe]),hk,Ud] at hR;generalize bQ n.fn=ar at har c3;repeat' (first|(apply aa;exact rfl;exact rfl;(intro w hm;exact c1 w))|(apply aa;exact rfl;exact rfl;(intro w hm;exact c2 w))|(apply aa;exact rfl;exact rfl;(intro w hm;exact c3 w))|(apply aa;exact rfl;exact rfl;(intro w hm;exact c4 w))|(apply ai;exact rfl;apply eO;exact rfl;exact rfl;exact hne (by assumption))|(apply OW (c:= .tmp 24) [0,1,2,8];exact rfl)|(apply ai;exact rfl;apply pZ;exact rfl;exact rfl;omega;(simp only [maxLen];omega))|refine sT ?_|refine sO ?_|refine sM fun _=>?_|(refine sC ?_ ?_<;>intro hb<;>try omega)|exact cT|fail)
  ·rw [if_pos (Or.inl (by omega))] at hR;subst hR;exact dB (.inl rfl) Tryz.results290 rfl rfl (H' := [.own none 334 2 0 0 []]) mS ⟨none,0,rfl,rfl⟩
  ·rename_i g;have htl:=jZ st k (by omega);have hlt: ¬ ((st.length:Int)<(k:Int)):=by omega
   refine aw [0,1,2,8,11,12] rfl (fun j:Nat=> [(13,.int .i64 (cg ((bn st k).take j):Int)),(14,.int .i64 (j:Int))]) (fun _=> [.box g 123 (bf n),.own none 334 2 0 0 []]) (fun j=>j≤k∧eG L n 0 (bn st k)=eG L n (j:Int) ((bn st k).drop j)) (fun j=>k - j) 0 ⟨by omega,rfl⟩ sB mS ?_;rintro j ⟨hj,hfit⟩;by_cases hjk:j<k
   ·obtain ⟨gl,ol,rfl,hrl⟩:=hl3 (by omega);have hjt:j<(bn st k).length:=by omega
    have hpe:(bn st k)[j]=st[st.length - k+j]'(by omega):=by simp [bn]
    have hrp:=hrl.elem xq (st.length - k+j) (by omega);have hds:=rA (bn st k) j hjt;rw [Rn hjt,eG] at hfit;rw [← hpe] at hrp;have hpm:=jd (RL hjt);generalize (bn st k)[j]=p at hpm hrp hds hfit;obtain ⟨hp1,hp2,hp3⟩:=hok p hpm;have hrr:=hrt.elem cu p.root (by omega);have hf:=F3 hfe (L:=L) (p:=p) (by omega) (by rw [hp3,jl]) (i:=(j:Int)) (by omega) (by omega);have hcall:=fun w=>Fs n (j:Int) (L[p.root]'(by omega)) w;rw [← hf] at hcall;generalize L[p.root]'(by omega)=m at hrr hcall;generalize hfo:sK L n (j:Int) p=fo at hcall hfit;have hd33:=lV ((bn st k).take j) fun q hq=>(hok q (jd (SF hq))).2.1;repeat' (first|(apply cM;exact rfl;exact rfl;(intro w hm;exact hcall w))|(apply ai;exact rfl;apply fT;exact rfl;exact rfl;(simp only [maxLen];omega))|(apply aZ;exact rfl;apply fT;exact rfl;exact rfl;(simp only [maxLen];omega))|(apply ai;exact rfl;apply GS;exact rfl;exact rfl;(simp only [maxLen];omega))|(apply ai;exact rfl;apply iJ;exact rfl;exact rfl;(simp only [maxLen];omega))|(apply ai;exact rfl;apply EK;exact rfl;exact rfl)|refine sT ?_|refine sQ ?_|refine sO ?_|refine sOQ ?_|refine sD ?_|refine sM fun _=>?_|(refine sC ?_ ?_<;>intro hb<;>try omega)|(refine sCQ ?_ ?_<;>intro hb<;>try omega)|exact cT|fail)
    ·rw [if_pos (Or.inr (by rw [hfit];simp_all))] at hR;subst hR;exact dB (.inl rfl) Tryz.results290 rfl rfl (H' := [.own none 334 2 0 0 []]) mS ⟨none,0,rfl,rfl⟩
    ·rw [Th 1,← hds];refine ⟨j+1,?_,(by first|omega|(dsimp only;omega)),sB,sB,mS⟩;refine ⟨by omega,?_⟩;rw [hfit,hb,Ss]
     rfl
   ·have e:j=k:=by omega
    subst e;have htk:(bn st j).take j=bn st j:=Sf (by omega);rw [htk];have hd33:=lV (bn st j) fun q hq=>(hok q (jd hq)).2.1;rw [RK (by omega),eG] at hfit;rw [if_neg (by rw [hfit];simp;omega)] at hR;have hcut:=hp'.cut (lo:=0) (hi:=st.length - j) (sz:=2) (by omega) (by omega);have hcl:(((st.flatMap qt).drop (0*2)).take ((st.length - j - 0)*2))=(st.take (st.length - j)).flatMap qt:=by
     rw [UA,SP,Td,sA xq]
    rw [hcl] at hcut;have hll:((st.take (st.length - j)).flatMap qt).length=(st.length - j - 0)*2:=by rw [bR xq,RI];omega
    repeat' (first|(apply df;exact rfl;intro gb)|(apply ai;exact rfl;apply mU (lo:=0) (hi:=st.length - j);exact rfl;exact rfl;exact ⟨_,rfl⟩;omega;omega)|(apply eJ (n' :=0) (c:=0) (A:=some _) (m:=st.length - j - 0);(iterate 3 exact rfl);exact pK;(intro w hm;exact hcut.of_w0 hm);exact hll;exact JE _;omega;(simp only [maxLen];omega);intro A' cap' hA)|(apply eu;(iterate 3 exact rfl);(repeat first|exact .hd|apply Sel.tl|apply In.tl);(intro w hm;exact hm.cells_own (by (repeat first|exact .hd|apply Sel.tl|apply In.tl)));exact rfl;(simp [Value.oneCell',sl]);omega;(simp only [maxLen];omega);(intro A' cap' hA'))|refine sT ?_|refine sM fun _=>?_|(refine sC ?_ ?_<;>intro hb<;>try omega)|exact cT|fail)
    ·rw [if_pos (by omega)] at hR;subst hR;exact dB (.inl rfl) Tryz.results290 rfl rfl (H' := [.own none 334 2 0 0 []]) mS ⟨none,0,rfl,rfl⟩
    ·rw [if_neg (by omega)] at hR;subst hR;have e1:(st.take (st.length - j)++ [(⟨i,cg (bn st j),decide (n.kind=3)⟩:Pt)]).length=0+(st.length - j - 0)+1:=by simp
     have e2:(st.take (st.length - j)++ [(⟨i,cg (bn st j),decide (n.kind=3)⟩:Pt)]).flatMap qt= []++(st.take (st.length - j)).flatMap qt++ [.int .i64 (i:Int),.int .i64 (cg (bn st j):Int)]:=by
      rw [Rp];rfl
     refine dB (.inl rfl) Tryz.results290 rfl rfl (H' := [.own A' 334 2 (0+(st.length - j - 0)+1) cap' ([]++(st.take (st.length - j)).flatMap qt++ [.int .i64 (i:Int),.int .i64 (cg (bn st j):Int)])]) mS ⟨A',cap',?_⟩;dsimp only;rw [e1,e2];exact ⟨rfl,rfl⟩
 ·rw [if_pos hfe] at hR;rcases DQ hfe with ⟨h1,h2⟩|⟨h1,h7,h2,h3⟩|⟨h1,h7,h2,h3,h4⟩
  ·have c1:=fun w=>h1 ▸ j6 n hwf.1 w;rw [h2] at hR;subst hR;repeat' (first|(apply ai;exact rfl;apply ag;exact rfl;exact rfl;exact hi)|(apply ai;exact rfl;apply bO;exact rfl;exact hrn;exact rfl)|(apply aa;exact rfl;exact rfl;(intro w hm;exact c1 w))|refine sT ?_|refine sM fun _=>?_|(refine sC ?_ ?_<;>intro hb<;>try omega)|exact cT|fail)
   exact dB (.inl rfl) Tryz.results290 rfl rfl (H' := [.own none 334 2 0 0 []]) mS ⟨none,0,rfl,rfl⟩
  ·have c1:=fun w=>h1 ▸ j6 n hwf.1 w;have c2:=fun w=>ui h2 hwf.2.1 ▸ ng n.fn hwf.2.1 hwf.2.2 w;rw [h3] at hR;subst hR;repeat' (first|(apply ai;exact rfl;apply ag;exact rfl;exact rfl;exact hi)|(apply ai;exact rfl;apply bO;exact rfl;exact hrn;exact rfl)|(apply aa;exact rfl;exact rfl;(intro w hm;exact c1 w))|(apply aa;exact rfl;exact rfl;(intro w hm;exact c2 w))|(apply ai;exact rfl;apply nS;(iterate 3 exact rfl))|refine sT ?_|refine sM fun _=>?_|(refine sC ?_ ?_<;>intro hb<;>try omega)|exact cT|fail)
   exact dB (.inl rfl) Tryz.results290 rfl rfl (H' := [.own none 334 2 0 0 []]) mS ⟨none,0,rfl,rfl⟩
  ·have c1:=fun w=>h1 ▸ j6 n hwf.1 w;have c2:=fun w=>ng n.fn hwf.2.1 hwf.2.2 w;have c3:=fun w=>lr n.fn w;have hne:=pG h2;rw [h4] at hR;subst hR;generalize bQ n.fn=ar at h3 c3;repeat' (first|(apply ai;exact rfl;apply ag;exact rfl;exact rfl;exact hi)|(apply ai;exact rfl;apply bO;exact rfl;exact hrn;exact rfl)|(apply aa;exact rfl;exact rfl;(intro w hm;exact c1 w))|(apply aa;exact rfl;exact rfl;(intro w hm;exact c2 w))|(apply aa;exact rfl;exact rfl;(intro w hm;exact c3 w))|(apply ai;exact rfl;apply eO;exact rfl;exact rfl;exact hne)|refine sT ?_|refine sM fun _=>?_|(refine sC ?_ ?_<;>intro hb<;>try omega)|exact cT|fail)
   all_goals exact dB (.inl rfl) Tryz.results290 rfl rfl (H' := [.own none 334 2 0 0 []]) mS ⟨none,0,rfl,rfl⟩
end Go.SL
namespace Go.SL
open Go Go.Proofs
attribute [local irreducible] W WL WQ WG WA VOp thn blk bH aV FnAt FnIn
theorem yG {L:List Nd} {n:Nd} {i:Nat} {st:List Pt} {e:Int} (h:jC L n i st= .inl e):e≠0:=by
 unfold jC at h;split at h
 ·injection h with h;subst h;assumption
 ·split at h
  ·injection h with h;omega
  ·split at h
   ·injection h with h;omega
   ·cases h
theorem tC {L:List Nd} {n:Nd} {i:Nat} {st st' :List Pt} {ks:List Nat} {d:Nat} (h:jC L n i st= .inr (st',ks,d)): ∃ a,(∀ p∈a,p∈st)∧a.length≤st.length∧st' =a++ [⟨i,d,decide (n.kind=3)⟩]∧d≤32:=by
 unfold jC at h;split at h
 ·cases h
 ·split at h
  ·cases h
  ·split at h
   ·cases h
   ·simp only [Sum.inr.injEq,Prod.mk.injEq] at h;obtain ⟨rfl,rfl,rfl⟩:=h;exact ⟨_,fun p hp=>SF hp,by simp,rfl,by omega⟩
theorem BU {L:List Nd} {i:Nat} (hi:i<L.length) {st st' :List Pt} {ks:List Nat} {d:Nat} (ho:TopsOk L i st) (h:jC L L[i] i st= .inr (st',ks,d)):TopsOk L (i+1) st' :=by
 obtain ⟨a,h1,h2,rfl,h3⟩:=tC h;refine ⟨fun p hp=> ?_,by have:=ho.small;simp;omega⟩;rcases Rz.1 hp with hp|hp
 ·obtain ⟨q1,q2,q3⟩:=ho.ok p (h1 p hp);exact ⟨by omega,q2,q3⟩
 ·rw [Rd.1 hp];exact ⟨Tz i,h3,by rw [jl hi]⟩
def cW (L:List Nd):List Nd→Nat→List Pt→List Pt × Int
 | [],_,st=>(st,0)
 |n::r,i,st=>match jC L n i st with
  | .inl e=>([],e)
  | .inr x=>cW L r (i+1) x.1
def Du (st:List Pt):Nat:=(st.getLast?.map Pt.depth).getD 0
theorem wS (L:List Nd): ∀ (r:List Nd) (i:Nat) (st:List Pt) (vs:List mK),Ho vs=Du st→
 (fu L r i st vs).1=(if (cW L r i st).2≠0 then (cW L r i st).2 else if (cW L r i st).1.length=1 then 0 else 4)∧((cW L r i st).2=0→Ho (fu L r i st vs).2=Du (cW L r i st).1)
 | [],i,st,vs,h=>by
  refine ⟨?_,fun _=>h⟩;by_cases h1:st.length=1<;>simp [fu,cW,h1]
 |n::r,i,st,vs,h=>by
  rw [fu,cW]
  cases hs:jC L n i st with
  |inl e=>have:=yG hs;simp [this]
  |inr x=>
   obtain ⟨st',ks,d⟩:=x;obtain ⟨a,_,_,rfl,_⟩:=tC hs;dsimp only;exact wS L r (i+1) _ _ (by simp [Ho,Du])
theorem CK (L:List Nd):lW L=(if 256<L.length then (0,5) else if (cW L L 0 []).2≠0 then (0,(cW L L 0 []).2) else if (cW L L 0 []).1.length≠1∨jm L (L.length - 1)=3 then (0,4) else (((Du (cW L L 0 []).1:Nat):Int),0):Int × Int):=by
 obtain ⟨h1,h2⟩:=wS L L 0 [] [] rfl;have h0:L.length=0→(cW L L 0 []).2=0∧(cW L L 0 []).1.length=0:=fun c=>by
  have:L= []:=Sl c;subst this;simp [cW]
 unfold lW dM jN;generalize fu L L 0 [] []=wk at h1 h2;generalize cW L L 0 []=j at h0 h1 h2;generalize jm L (L.length - 1)=k;obtain ⟨w1,w2⟩:=wk;obtain ⟨j1,j2⟩:=j;dsimp only at h0 h1 h2 ⊢;by_cases c1:256<L.length
 ·simp [c1]
 by_cases c2:L.length=0
 ·obtain ⟨a1,a2⟩:=h0 c2;simp only [if_neg c1,if_pos c2];simp [a1,a2]
 simp only [if_neg c1,if_neg c2];clear c1 c2 h0;by_cases c3:j2=0
 ·have h2' :=h2 c3;by_cases c4:j1.length=1
  ·by_cases c5:k=3<;>simp_all
  ·simp_all
 ·simp_all
theorem LH (L:List Nd) (hlen:L.length≤256) (hwf: ∀ n∈L,wfN n) (tv:Value) (w:World) (ht:Reads w tv L.length (L.flatMap bf)):
 FnAt Tryz.prog 262 [tv] w fun v H=> ∃ A cap,v= .tuple #[sl A (cW L L 0 []).1.length cap,.int .i64 (cW L L 0 []).2]∧H= [.own A 334 2 (cW L L 0 []).1.length cap ((cW L L 0 []).1.flatMap qt)]:=by
 have ht' :=ht;obtain ⟨At,ct,rfl,ht1,ht2,ht3⟩:=ht;refine ay Tryz.func262 rfl Tryz.ntmps262 rfl ?_;refine aI 334 2 ?_;refine aI 334 2 ?_;generalize hR:cW L L 0 []=R;repeat' (first|refine sT ?_|refine sM fun _=>?_|(refine sC ?_ ?_<;>intro hb<;>try omega)|fail)
 refine aw [0] rfl (fun x:Nat × List Pt × Option Nat × Nat=> [(4,sl x.2.2.1 x.2.1.length x.2.2.2),(5,.int .i64 (x.1:Int))]) (fun x=> [.own x.2.2.1 334 2 x.2.1.length x.2.2.2 (x.2.1.flatMap qt),.own none 334 2 0 0 []]) (fun x=>x.1≤L.length∧TopsOk L x.1 x.2.1∧R=cW L (L.drop x.1) x.1 x.2.1) (fun x=>L.length - x.1) (0,[],none,0) ⟨by omega,⟨fun p hp=>by simp at hp,QZ _⟩,hR.symm⟩ sB mS ?_;rintro ⟨i,st,A,cap⟩ ⟨hi,hok,hrec⟩;dsimp only at hi hok hrec ⊢;by_cases hlt:i<L.length
 ·rw [Rn hlt,cW] at hrec;have hnode:=fun (w' :World) (H:List Blk) (hm:Mem w w' H) (hr:Reads w' (sl A st.length cap) st.length (st.flatMap qt))=>Fl L i hlt hlen (hwf _ (RL hlt)) st hok _ _ w' (ht'.of_w0 hm) hr;have hto:=fun {st' ks d}=>BU (st' :=st') (ks:=ks) (d:=d) hlt hok;unfold wD at hnode;generalize hs:jC L L[i] i st=s at hrec hnode hto
  cases s with
  |inl e=>
   have he:=yG hs;dsimp only at hrec hnode;subst hrec;repeat' (first|(apply aK;exact rfl;exact rfl;(intro w' hm;exact hnode w' _ hm (Reads.of_own hm pK));(rintro v H' ⟨A',cap',rfl,rfl⟩))|refine sT ?_|refine sM fun _=>?_|(refine sC ?_ ?_<;>intro hb<;>try omega)|fail)
   ·exact dB (.inl rfl) Tryz.results262 rfl rfl (H' := [.own none 334 2 0 0 []]) mS ⟨none,0,rfl,rfl⟩
  |inr x=>
   obtain ⟨st',ks,d⟩:=x;dsimp only at hrec hnode;repeat' (first|(apply aK;exact rfl;exact rfl;(intro w' hm;exact hnode w' _ hm (Reads.of_own hm pK));(rintro v H' ⟨A',cap',rfl,rfl⟩))|refine sT ?_|refine sN ?_|refine sM fun _=>?_|(refine sC ?_ ?_<;>intro hb<;>try omega)|fail)
   refine ⟨(i+1,st',A',cap'),?_,(by first|omega|(dsimp only;omega)),sB,sB,mS⟩;exact ⟨hlt,hto rfl,hrec⟩
 ·have e:i=L.length:=by omega
  subst e;rw [Sn,cW] at hrec;subst hrec;repeat' (first|refine sT ?_|refine sM fun _=>?_|(refine sC ?_ ?_<;>intro hb<;>try omega)|fail)
  exact dB (.inl rfl) Tryz.results262 rfl rfl (H' := [.own A 334 2 st.length cap (st.flatMap qt)]) mS ⟨A,cap,rfl,rfl⟩
theorem Jp {st:List Pt} (h:st.length=1): ∃ p,st= [p]∧Du st=p.depth:=by
 match st,h with
 | [p],_=>exact ⟨p,rfl,rfl⟩
theorem tG (L:List Nd) (hwf: ∀ n∈L,wfN n) (tv:Value) (w:World) (ht:Reads w tv L.length (L.flatMap bf)):aC Tryz.prog 208 [tv] w (.tuple #[.int .i64 (lW L).1,.int .i64 (lW L).2]):=by
 have ht' :=ht;obtain ⟨At,ct,rfl,ht1,ht2,ht3⟩:=ht;refine ay Tryz.func208 rfl Tryz.ntmps208 rfl ?_;have hd:=CK L;generalize hde:lW L=de at hd;by_cases h256:256<L.length
 ·rw [if_pos h256] at hd;subst hd;repeat' (first|refine sT ?_|refine sM fun _=>?_|(refine sC ?_ ?_<;>intro hb<;>try omega)|fail)
  (refine rT2 ?_)
  rfl
 have hj:=fun (w' :World) (H:List Blk) (hm:Mem w w' H)=>LH L (by omega) hwf _ w' (ht'.of_w0 hm);rw [if_neg h256] at hd;have h0:L.length=0→(cW L L 0 []).1.length=0:=fun c=>by
  have:L= []:=Sl c;subst this;simp [cW]
 generalize cW L L 0 []=j at hj hd h0;obtain ⟨st,e⟩:=j;dsimp only at hj hd h0;by_cases he:e=0
 ·rw [if_neg (by simp [he])] at hd;by_cases hl:st.length=1
  ·obtain ⟨p,rfl,hp⟩:=Jp hl;obtain ⟨gt,ot,rfl,hrt⟩:=ht3 (by omega);have hrl:=hrt.elem cu (L.length - 1) (by omega);have hk:jm L (L.length - 1)=(L[L.length - 1]'(by omega)).kind:=jl _;rw [hk,hp] at hd;generalize (L[L.length - 1]'(by omega))=nl at hrl hd;subst he;repeat' (first|(apply aK;exact rfl;exact rfl;(intro w' hm;exact hj w' _ hm);(rintro v H' ⟨A',cap',rfl,rfl⟩))|refine zZJ ?_|refine sM fun _=>?_|(refine sC ?_ ?_<;>intro hb<;>try omega)|fail)
   ·rw [if_pos (.inr hb)] at hd;subst hd;(refine rT2 ?_)
    rfl
   ·rw [if_neg (by simp;omega)] at hd;subst hd;refine MG .hd (by simp) fun ga hA=> ?_;subst hA;repeat' (first|(apply ai;exact rfl;apply ag (j:=0);exact rfl;exact rfl;exact Nat.one_pos)|(apply ai;exact rfl;apply aq;exact rfl;exact pK;exact rfl)|refine sT ?_|refine sM fun _=>?_|(refine sC ?_ ?_<;>intro hb<;>try omega)|fail)
    (refine rT2 ?_)
    rfl
  ·rw [if_pos (.inl hl)] at hd;subst hd he;repeat' (first|(apply aK;exact rfl;exact rfl;(intro w' hm;exact hj w' _ hm);(rintro v H' ⟨A',cap',rfl,rfl⟩))|refine zZJ ?_|refine sM fun _=>?_|(refine sC ?_ ?_<;>intro hb<;>try omega)|fail)
   (refine rT2 ?_)
   rfl
 ·rw [if_pos he] at hd;subst hd;repeat' (first|(apply aK;exact rfl;exact rfl;(intro w' hm;exact hj w' _ hm);(rintro v H' ⟨A',cap',rfl,rfl⟩))|refine sT ?_|refine sM fun _=>?_|(refine sC ?_ ?_<;>intro hb<;>try omega)|fail)
  (refine rT2 ?_)
  rfl
theorem CM (L:List Nd) (hwf: ∀ n∈L,wfN n) (tv:Value) (w:World) (ht:Reads w tv L.length (L.flatMap bf)):aC Tryz.prog 157 [tv] w (.int .i64 (dM L)):=by
 refine ay Tryz.func157 rfl Tryz.ntmps157 rfl ?_;have hd:(lW L).2=dM L:=by
  unfold lW;split
  ·rfl
  ·rename_i h;simp at h;simp [h]
 repeat' (first|(apply aa;exact rfl;exact rfl;(intro w' hm;exact tG L hwf tv w' (ht.of_w0 hm)))|refine sT ?_|refine sM fun _=>?_|(refine sC ?_ ?_<;>intro hb<;>try omega)|fail)
 (refine rT1 ?_);rw [hd]
end Go.SL
namespace Go.SL
open Go Go.Proofs
attribute [local irreducible] W WL WQ WG WA WX WLI WR WT VOp thn blk bH scp aV bz bP FnAt FnIn FnP
instance iN497:FldT Tryz.prog 228 0 5 0:=⟨_,_,Tryz.underlying228,rfl,rfl,rfl⟩
theorem s6 {f:Nat} {fn:Int} {n:Nat} {fin:Int} {p p' :PS} {m:Nat} (h:Bd f fn n fin p=some (.ok (m,p'))):p.out.length<p'.out.length:=by
 unfold Bd at h;split at h
 ·obtain ⟨m',q,h1,h2⟩:=cE h;cases h2;exact (ku _ _ _ _ _ _ h1).some trivial
 ·split at h
  ·cases h
  ·cases h;simp [PS.put,PS.skip]
theorem xo {fin:Int} {name:Tk} {fn:Int} {n:Nat} {p:PS} {x:Nd} (hx:p.out[p.out.length - 1]? =some x):dz fin name fn n p=
 if (hdT fin p.l).kind≠10 then some (.error ((hdT fin p.l).at_,4))
 else if (n:Int)<(fa fn).1∨(fa fn).2.1<(n:Int) then some (.error (name.at_,11))
 else if 46≤fn∧x.kind≠2∧x.kind≠3 then some (.error (name.at_,4))
 else some (.ok (0,p.skip.put ⟨7,bK,aS,0,fn,n⟩)):=by
 have hx' :p.out.getLast? =some x:=by rw [Uj];exact hx
 unfold dz;simp only [hx',Sq,Option.some.injEq,decide_eq_true_eq,ne_eq,not_or]
theorem zw {fn:Int} (h1:1≤fn) (h2:fn≤50):1≤(fa fn).1:=by
 unfold fa;repeat' split
 all_goals first
  |decide
  |(rename_i h;simp [cV,h1,h2] at h)
theorem At.head' {toks:List Tk} {A:Option Nat} {cap:Nat} {fin:Int} {g:Nat} {p:PS} {lv:Value} (h:At toks A cap p lv) {u:Tk} (hu:hdT fin p.l=u) {B:Option Nat} {cb:Nat} {out:List Nd} {H:List Blk} {w0:World} (hH:MSub (pB g lv A cap fin toks B cb out) H) (w:World) (hm:Mem w0 w H):
 aC Tryz.prog 148 [.pointer (some ⟨g,0,none⟩)] w (.agg (bh u).toArray):=hu ▸ At.head h hH w hm
open Classical in
noncomputable def Bb (f:Nat) (t:Tk) (xB:Nat→Tk→Int→PS→Option Out) (fin:Int) (p:PS):Option Out:=if hdT fin p.l=t∧t.kind=7 then xB f t fin p else none
def xB (f:Nat) (t:Tk) (fin:Int) (p:PS):Option Out:=
 if (aY t.text).2≠0 then some (.error (t.at_,10))
 else
  let u:=hdT fin p.skip.l
  if u.kind≠9 then some (.error (u.at_,4))
  else if (hdT fin p.skip.skip.l).kind=10 then dz fin t (aY t.text).1 0 p.skip.skip
  else gK (bw fin f (.args (aY t.text).1 0) p.skip.skip) fun n p=>dz fin t (aY t.text).1 n p
theorem Oc (f:Nat) (t:Tk) (ih: ∀ f' ≤f,POK f' (.level 1) 147 []):Ol (Bb f t xB) 313 [.agg (bh t).toArray]:=by
 intro toks A cap fin g p lv B cb r R w0 hc hl hat hrun;refine xd Tryz.func313 rfl Tryz.ntmps313 rfl ?_;unfold Bb at hrun;by_cases ht: ¬ (hdT fin p.l=t∧t.kind=7)
 ·rw [if_neg ht] at hrun;cases hrun
 have ht:=Classical.not_not.1 ht;rw [if_pos ht] at hrun;obtain ⟨ht,ht7⟩:=ht;have hF:=fun w=>Ep t.text w;unfold xB at hrun;obtain ⟨fn,fe,hfe⟩: ∃ fn fe,aY t.text=(fn,fe):=⟨_,_,rfl⟩;have hfn:fe=0→1≤fn∧fn≤50:=by
  intro h;subst h;have hb1:=jy dC t.text 0 (by omega);rw [jw] at hb1;unfold aY at hfe;split at hfe<;>cases hfe;omega
 rw [hfe] at hrun hF;dsimp only at hF;by_cases h0:fe≠0
 ·rw [if_pos h0] at hrun;cases hrun;repeat' (first|(apply aa (f:=324);exact rfl;exact rfl;(intro w' _;exact hF w'))|(refine bL (f:=149) rfl rfl (jE _ _ _ _ _ (fun _ _=>False)) ?_ ?_)|(exact fun _ _ h=>h.elim)|(rintro _ _ ⟨rfl,rfl⟩)|refine zZD ?_|refine sM fun _=>?_|(refine sC ?_ ?_<;>intro hb<;>try omega)|exact cT|fail)
  all_goals first
   |(exfalso;omega)
   | (refine da rfl ?_
      simp only [Re,QV,QW,pB];exact mS)
 rw [if_neg h0] at hrun;dsimp only at hrun;obtain ⟨hfn1,hfn2⟩:=hfn (by omega);by_cases hw9:(hdT fin p.skip.l).kind≠9
 ·rw [if_pos hw9] at hrun;cases hrun;repeat' (first|(apply aa (f:=324);exact rfl;exact rfl;(intro w' _;exact hF w'))|(apply ak (f:=249);exact rfl;exact rfl;exact hat.skip hc (c:=7) (by rw [ht];exact ht7) (by decide) (MSub.pick pK (MSub.pick pK (MSub.pick pK (MSub.refl _))));rintro _ _ ⟨rfl,lv1,h1,rfl⟩)|(refine bL (f:=312) rfl rfl (FnP.msub (zQ 9 (by decide) toks A cap fin g p.skip lv1 B cb _ _ w0 hc hl (At1.at h1) (by unfold GM;rw [if_pos hw9])) (MSub.pick pK (MSub.pick pK (MSub.pick pK (MSub.refl _))))) ?_ ?_)|(rintro _ _ ⟨rfl,n,p',lv',B',cb',h,h2,rfl⟩;cases h)|(rintro _ _ ⟨e,h,rfl,h3⟩;cases h)|refine zZD ?_|refine sM fun _=>?_|(refine sC ?_ ?_<;>intro hb<;>try omega)|exact cT|fail)
  all_goals first
   |(exfalso;omega)
   | (refine da rfl (MSub.trans ?_ h3)
      simp only [Re,QV,QW,pB];exact mS)
 rw [if_neg hw9] at hrun;repeat' (first|(apply aa (f:=324);exact rfl;exact rfl;(intro w' _;exact hF w'))|(apply ak (f:=249);exact rfl;exact rfl;exact hat.skip hc (c:=7) (by rw [ht];exact ht7) (by decide) (MSub.pick pK (MSub.pick pK (MSub.pick pK (MSub.refl _))));rintro _ _ ⟨rfl,lv1,h1,rfl⟩)|(refine bL (f:=312) rfl rfl (FnP.msub (zQ 9 (by decide) toks A cap fin g p.skip lv1 B cb _ _ w0 hc hl (At1.at h1) (by unfold GM;rw [if_neg hw9])) (MSub.pick pK (MSub.pick pK (MSub.pick pK (MSub.refl _))))) ?_ ?_)|(rintro _ _ ⟨rfl,n,p',lv',B',cb',h,h2,rfl⟩;cases h)|(rintro _ _ ⟨e,h,rfl,h3⟩;cases h)|(rename_i g3;refine GQ (id:=7) (ι:=Nat × PS × Value × Option Nat × Nat) [0,3,4] rfl (fun x=> [(6,.int .i64 (x.1:Int))]) (fun x=> .box g3 228 (bh t)::(pB g x.2.2.1 A cap fin toks x.2.2.2.1 x.2.2.2.2 x.2.1.out++R)) (fun x=>x.1≤x.2.1.out.length∧At toks A cap x.2.1 x.2.2.1∧dz fin t fn x.1 x.2.1=some r) ?_ ?_)|refine zZD ?_|refine sM fun _=>?_|(refine sC ?_ ?_<;>intro hb<;>try omega)|exact cT|fail)
 ·obtain ⟨u,hu⟩: ∃ u,hdT fin p.skip.skip.l=u:=⟨_,rfl⟩;rw [hu] at hrun;by_cases h10:u.kind=10
  ·rw [if_pos h10] at hrun;repeat' (first|(apply ai;exact rfl;apply ee;exact rfl;exact rfl)|(apply aa (f:=148);exact rfl;exact rfl;(intro w' hm';exact At.head' (B:=B') (cb:=cb') (out:=p.skip.skip.out) (g:=g) (fin:=fin) h2 hu (MSub.pick pK (MSub.pick pK (MSub.pick pK (MSub.nil _)))) w' hm'))|refine cX ((0,p.skip.skip,lv',B',cb')) ?_ sB mS|refine zZD ?_|refine sM fun _=>?_|(refine sC ?_ ?_<;>intro hb<;>try omega)|exact cT|fail)
   all_goals first|(exfalso;omega)|exact ⟨QZ _,h2,hrun⟩
  ·rw [if_neg h10] at hrun;obtain ⟨r1,hr1,hr2⟩:=bI hrun;repeat' (first|(apply ai;exact rfl;apply ee;exact rfl;exact rfl)|(apply aa (f:=148);exact rfl;exact rfl;(intro w' hm';exact At.head' (B:=B') (cb:=cb') (out:=p.skip.skip.out) (g:=g) (fin:=fin) h2 hu (MSub.pick pK (MSub.pick pK (MSub.pick pK (MSub.nil _)))) w' hm'))|refine zZD ?_|refine sM fun _=>?_|(refine sC ?_ ?_<;>intro hb<;>try omega)|exact cT|fail)
   all_goals first
    |(exfalso;omega)
    |skip
   refine aw [0,3,4] rfl (fun x:Nat × Nat × PS × Value × Option Nat × Nat=> [(6,.int .i64 (x.2.1:Int))]) (fun x=> .box g3 228 (bh t)::(pB g x.2.2.2.1 A cap fin toks x.2.2.2.2.1 x.2.2.2.2.2 x.2.2.1.out++R)) (fun x=>x.1≤f∧x.2.1≤x.2.2.1.out.length∧At toks A cap x.2.2.1 x.2.2.2.1∧bw fin x.1 (.args fn x.2.1) x.2.2.1=some r1) (fun x=>x.1) (f,0,p.skip.skip,lv',B',cb') ⟨Rg _,QZ _,h2,hr1⟩ sB ?_ ?_
   ·simp only [Re,QV,QW,pB];exact mS
   rintro ⟨f',n',q,lq,Bq,cq⟩ ⟨hf',hn',hq1,hq2⟩;dsimp only at hf' hn' hq1 hq2 ⊢
   cases f' with
   |zero=>cases hq2
   |succ f' =>
     rw [Bc] at hq2;have hn6:n' ≤1000000:=RD hn' (At.len hq1 hl);obtain ⟨r2,hr3,hr4⟩:=bI hq2;repeat' (first|(refine bL (f:=325) rfl rfl (FnP.msub (Ei f' fn n' (ih f' (by omega)) toks A cap fin g q lq Bq cq r2 _ w0 hc hl hq1 hr3) (MSub.pick pK (MSub.pick pK (MSub.pick pK (MSub.refl _))))) ?_ ?_)|(rintro _ _ ⟨rfl,n2,q2,lv2,B2,cb2,rfl,h6,rfl⟩;obtain ⟨u2,hu2⟩: ∃ u,hdT fin q2.l=u:=⟨_,rfl⟩)|(rintro _ _ ⟨e,rfl,rfl,h3⟩)|(apply ai;exact rfl;apply ee;exact rfl;exact rfl)|(apply aa (f:=148);exact rfl;exact rfl;(intro w' hm';exact At.head' (B:=B2) (cb:=cb2) (out:=q2.out) (g:=g) (fin:=fin) h6 hu2 (MSub.pick pK (MSub.pick pK (MSub.pick pK (MSub.nil _)))) w' hm'))|(apply ak (f:=249);exact rfl;exact rfl;exact h6.skip hc (c:=11) (by rw [hu2];omega) (by decide) (MSub.pick pK (MSub.pick pK (MSub.pick pK (MSub.refl _))));rintro _ _ ⟨rfl,lv3,h7,rfl⟩)|refine cX ((n' +1,q2,lv2,B2,cb2)) ?_ sB mS|refine sT ?_|refine sP ?_|refine sN ?_|refine sM fun _=>?_|(refine sC ?_ ?_<;>intro hb<;>try omega)|exact cT|fail)
     ·rcases hr4 with ⟨e,h,_⟩|⟨n3,p3,h,h7⟩
      ·cases h
      ·cases h;rw [hu2,if_neg (by omega)] at h7;rcases hr2 with ⟨e,h,_⟩|⟨n4,p4,h,h8⟩
       ·rw [h] at h7;cases h7
       ·rw [h] at h7;cases h7;have:=s6 hr3;exact ⟨by dsimp only;omega,h6,h8⟩
     ·rcases hr4 with ⟨e,h,_⟩|⟨n3,p3,h,h7'⟩
      ·cases h
      ·cases h;rw [hu2,if_pos (by omega)] at h7';have:=s6 hr3;refine ⟨(f',n' +1,q2.skip,lv3,B2,cb2),⟨by dsimp only;omega,by dsimp only [PS.skip];omega,At1.at h7,h7'⟩,Nat.lt_succ_self _,sB,sB,?_⟩;simp only [Re,QV,QW,pB];exact mS
     ·rcases hr4 with ⟨e',h,h7⟩|⟨n3,p3,h,h7⟩
      ·cases h;rcases hr2 with ⟨e4,h,h8⟩|⟨n4,p4,h,h8⟩
       ·rw [h] at h7;cases h7;exact da h8 (MSub.trans (.drop .hd (.refl _)) h3)
       ·rw [h] at h7;cases h7
      ·cases h
 ·rintro ⟨n,q,lq,Bq,cq⟩ ⟨hn',hq1,hq2⟩;dsimp only at hn' hq1 hq2 ⊢;obtain ⟨u,hu⟩: ∃ u,hdT fin q.l=u:=⟨_,rfl⟩;have hap:=zw hfn1 hfn2;have hA:=fun w=>xD fn w;obtain ⟨least,most,ae,hae⟩: ∃ a b c,fa fn=(a,b,c):=⟨_,_,_,rfl⟩;rw [hae] at hA hap;dsimp only at hA hap;by_cases h10:u.kind≠10
  ·simp only [dz,hu,if_pos h10] at hq2;cases hq2;repeat' (first|(apply ai;exact rfl;apply ee;exact rfl;exact rfl)|(apply aa (f:=148);exact rfl;exact rfl;(intro w' hm';exact At.head' (B:=Bq) (cb:=cq) (out:=q.out) (g:=g) (fin:=fin) hq1 hu (MSub.pick pK (MSub.pick pK (MSub.pick pK (MSub.nil _)))) w' hm'))|(refine bL (f:=149) rfl rfl (jE _ _ _ _ _ (fun _ _=>False)) ?_ ?_)|(exact fun _ _ h=>h.elim)|(rintro _ _ ⟨rfl,rfl⟩)|refine zZD ?_|refine sM fun _=>?_|(refine sC ?_ ?_<;>intro hb<;>try omega)|exact cT|fail)
   all_goals first
    |(exfalso;omega)
    | (refine da rfl ?_
       simp only [Re,QV,QW,pB];exact mS)
  by_cases hlm:(n:Int)<least∨most<(n:Int)
  ·simp only [dz,hu,if_neg h10,hae,if_pos hlm] at hq2;cases hq2;repeat' (first|(apply ai;exact rfl;apply ee;exact rfl;exact rfl)|(apply aa (f:=148);exact rfl;exact rfl;(intro w' hm';exact At.head' (B:=Bq) (cb:=cq) (out:=q.out) (g:=g) (fin:=fin) hq1 hu (MSub.pick pK (MSub.pick pK (MSub.pick pK (MSub.nil _)))) w' hm'))|(apply aa (f:=279);exact rfl;exact rfl;(intro w' _;exact hA w'))|(refine bL (f:=149) rfl rfl (jE _ _ _ _ _ (fun _ _=>False)) ?_ ?_)|(exact fun _ _ h=>h.elim)|(rintro _ _ ⟨rfl,rfl⟩)|refine zZD ?_|refine sM fun _=>?_|(refine sC ?_ ?_<;>intro hb<;>try omega)|exact cT|fail)
   all_goals first
    |(exfalso;omega)
    | (refine da rfl ?_
       simp only [Re,QV,QW,pB];exact mS)
  have hpos:0<q.out.length:=by omega
  have hol:q.out.length≤1000000:=At.len hq1 hl;obtain ⟨x,hx⟩: ∃ x,q.out[q.out.length - 1]? =some x:=⟨_,QU (by omega)⟩;rw [xo hx,hu,hae,if_neg h10] at hq2;dsimp only at hq2;rw [if_neg hlm] at hq2;refine bg (A:=Bq) (by simp only [Re,QV,QW,pB];exact pK) hpos fun gb hB=> ?_;subst hB;by_cases hkx:46≤fn∧x.kind≠2∧x.kind≠3
  ·rw [if_pos hkx] at hq2;cases hq2;repeat' (first|(apply ai;exact rfl;apply ee;exact rfl;exact rfl)|(apply aa (f:=148);exact rfl;exact rfl;(intro w' hm';exact At.head' (B:=some gb) (cb:=cq) (out:=q.out) (g:=g) (fin:=fin) hq1 hu (MSub.pick pK (MSub.pick pK (MSub.pick pK (MSub.nil _)))) w' hm'))|(apply aa (f:=279);exact rfl;exact rfl;(intro w' _;exact hA w'))|(apply aZ;exact rfl;apply ij;exact rfl;exact rfl;exact hpos;(simp only [maxLen];omega))|(apply aZ;exact rfl;apply ag;exact rfl;exact rfl;omega)|(apply aZ;exact rfl;apply lg (k:=0);exact cu;exact rfl;exact pK;decide;exact hx;exact rfl)|(refine bL (f:=149) rfl rfl (jE _ _ _ _ _ (fun _ _=>False)) ?_ ?_)|(exact fun _ _ h=>h.elim)|(rintro _ _ ⟨rfl,rfl⟩)|refine sT ?_|refine sP ?_|refine sQ ?_|refine sN ?_|refine sNQ ?_|refine sD ?_|refine sM fun _=>?_|(refine sC ?_ ?_<;>intro hb<;>try omega)|(refine sCQ ?_ ?_<;>intro hb<;>try omega)|exact cT|fail)
   all_goals first
    |(exfalso;omega)
    | (refine da rfl ?_
       simp only [Re,QV,QW,pB];exact mS)
  ·rw [if_neg hkx] at hq2;cases hq2;repeat' (first|(apply ai;exact rfl;apply ee;exact rfl;exact rfl)|(apply aa (f:=148);exact rfl;exact rfl;(intro w' hm';exact At.head' (B:=some gb) (cb:=cq) (out:=q.out) (g:=g) (fin:=fin) hq1 hu (MSub.pick pK (MSub.pick pK (MSub.pick pK (MSub.nil _)))) w' hm'))|(apply aa (f:=279);exact rfl;exact rfl;(intro w' _;exact hA w'))|(apply aZ;exact rfl;apply ij;exact rfl;exact rfl;exact hpos;(simp only [maxLen];omega))|(apply aZ;exact rfl;apply ag;exact rfl;exact rfl;omega)|(apply aZ;exact rfl;apply lg (k:=0);exact cu;exact rfl;exact pK;decide;exact hx;exact rfl)|(apply ak (f:=249);exact rfl;exact rfl;exact hq1.skip hc (c:=10) (by rw [hu];omega) (by decide) (MSub.pick pK (MSub.pick pK (MSub.pick pK (MSub.refl _))));rintro _ _ ⟨rfl,lv1,h1',rfl⟩)|(apply ak (f:=250);exact rfl;exact rfl;exact FnIn.msub (lz ⟨7,bK,aS,0,fn,n⟩ _ _ _ _ _ _ _ _ _ (At.len hq1 hl) _ _) (MSub.pick pK (MSub.pick pK (MSub.pick pK (MSub.refl _))));rintro _ _ ⟨rfl,B3,cb3,rfl⟩)|refine sT ?_|refine sP ?_|refine sQ ?_|refine sN ?_|refine sNQ ?_|refine sD ?_|refine sM fun _=>?_|(refine sC ?_ ?_<;>intro hb<;>try omega)|(refine sCQ ?_ ?_<;>intro hb<;>try omega)|exact cT|fail)
   all_goals first
    |(exfalso;omega)
    | (refine fk (p' := q.skip.put ⟨7, bK, aS, 0, fn, n⟩) (B' := B3) (cb' := cb3) (by first | exact .inr rfl | exact .inl rfl) rfl rfl (h1'.put _) ?_
       simp only [Re,QV,QW,pB];exact mS)
end Go.SL
namespace Go.SL
open Go Go.Proofs
attribute [local irreducible] W WL WQ WG WA WX WLI WR WT WC VOp RW thn blk bH scp aV bz bP FnAt FnIn FnP ceP
instance fldTk1:FldT Tryz.prog 228 1 2 1:=⟨_,_,Tryz.underlying228,rfl,rfl,rfl⟩
instance fldTk4:FldT Tryz.prog 228 4 3 7:=⟨_,_,Tryz.underlying228,rfl,rfl,rfl⟩
def rC (sa:ByteArray) (A:Option Nat) (n cap k:Nat) (B:Option Nat) (m cb:Nat) (at_ e:Int):List Value:= [.string sa,sl A n cap,.int .i64 (k:Int),sl B m cb,.int .i64 at_,.int .i64 e]
def rB (g:Nat) (sa:ByteArray) (A:Option Nat) (cap:Nat) (toks:List Tk) (k:Nat) (B:Option Nat) (cb:Nat) (out:List Nd) (at_ e:Int):List Blk:=
 [.box g 277 (rC sa A toks.length cap k B out.length cb at_ e),.own A 228 8 toks.length cap (toks.flatMap bh),.own B 123 11 out.length cb (out.flatMap bf)]
theorem Qt {A:Option Nat} {cap:Nat} {toks:List Tk} {w0 w:World} {H:List Blk} (hm:Mem w0 w H) (hi:In (.own A 228 8 toks.length cap (toks.flatMap bh)) H) {k:Nat} (hk:k<toks.length): ∃ ga,A=some ga∧Ro w ga 0 (toks.flatMap bh):=by
 obtain ⟨_,_,_,h4⟩:=(hm.on _ hi.mem).1
 cases A with
 |none=>obtain ⟨h5,_⟩:=h4;omega
 |some ga=>exact ⟨ga,rfl,Ro.of_own hm hi⟩
theorem CW (g:Nat) (sa:ByteArray) (hsa:sa.size≤1000) (A:Option Nat) (cap:Nat) (toks:List Tk) (ht1:toks.length≤1000) (k:Nat) (B:Option Nat) (m cb:Nat) (at_ e:Int) (w:World) (hr:Ro w g 0 (rC sa A toks.length cap k B m cb at_ e))
 (ht:k<toks.length→ ∃ ga,A=some ga∧Ro w ga 0 (toks.flatMap bh)):aC Tryz.prog 207 [.pointer (some ⟨g,0,none⟩)] w (.agg (bh (hdT (sa.size:Int) (toks.drop k))).toArray):=by
 refine ay Tryz.func207 rfl Tryz.ntmps207 rfl ?_;unfold rC at hr;by_cases hlt:k<toks.length
 ·rw [Ht hlt];obtain ⟨ga,rfl,hra⟩:=ht hlt;have hra' :=hra.elem zj k hlt;repeat' (first|(apply pW (id:=1);kernel_rfl;kernel_rfl)|(apply aZ;exact rfl;apply aN (o:=0) (off:=1);exact hr;exact rfl;exact rfl)|(apply aZ;exact rfl;apply aN (o:=0) (off:=2);exact hr;exact rfl;exact rfl)|refine sT ?_|refine sS ?_|refine sQ ?_|refine sM fun _=>?_|(refine sC ?_ ?_<;>intro hb<;>try omega)|(refine sCQ ?_ ?_<;>intro hb<;>try omega)|fail)
  all_goals try (exfalso;omega)
  rename_i g2;refine gy (id:=2) [10] [] [] (by kernel_rfl) (by kernel_rfl) (by kernel_rfl) mS ?_;repeat' (first|(apply fq;(iterate 3 exact rfl);apply aN (o:=0) (off:=1);exact hr;exact rfl;exact rfl)|(apply fq;(iterate 3 exact rfl);apply aN (o:=0) (off:=2);exact hr;exact rfl;exact rfl)|(apply fq;(iterate 3 exact rfl);apply ag (j:=k);exact rfl;exact rfl;exact hlt)|(apply fq;(iterate 3 exact rfl);apply bO;exact rfl;exact hra';exact rfl)|refine zZI ?_|refine sM fun _=>?_|(refine sC ?_ ?_<;>intro hb<;>try omega)|(refine sCW ?_ ?_<;>intro hb<;>try omega)|fail)
  all_goals try (exfalso;omega)
  (refine eRC ?_)
  rfl
 ·rw [uN (by omega)];repeat' (first|(apply pW (id:=1);kernel_rfl;kernel_rfl)|(apply aZ;exact rfl;apply aN (o:=0) (off:=1);exact hr;exact rfl;exact rfl)|(apply aZ;exact rfl;apply aN (o:=0) (off:=2);exact hr;exact rfl;exact rfl)|(apply ai;exact rfl;apply aN (o:=0) (off:=0);exact hr;exact rfl;exact rfl)|refine sT ?_|refine sS ?_|refine sQ ?_|refine sM fun _=>?_|(refine sC ?_ ?_<;>intro hb<;>try omega)|(refine sCQ ?_ ?_<;>intro hb<;>try omega)|fail)
  all_goals try (exfalso;omega)
  (refine eRC ?_)
  rfl
theorem wh {g:Nat} {sa:ByteArray} (hsa:sa.size≤1000) {A:Option Nat} {cap:Nat} {toks:List Tk} (ht1:toks.length≤1000) {k:Nat} {B:Option Nat} {cb:Nat} {out:List Nd} {at_ e:Int} {t:Tk} (hd:hdT (sa.size:Int) (toks.drop k)=t) {H:List Blk} {w0:World} (hH:MSub (rB g sa A cap toks k B cb out at_ e) H) (w:World) (hm:Mem w0 w H):
 aC Tryz.prog 207 [.pointer (some ⟨g,0,none⟩)] w (.agg (bh t).toArray):=by
 have hm' :=hH.use hm;rw [← hd];exact CW g sa hsa A cap toks ht1 k B out.length cb at_ e w (Ro.of_box hm' .hd) fun hlt=>Qt hm' (.tl .hd) hlt
theorem IU (op:Int) (w:World):aC Tryz.prog 289 [.int .i64 op] w (.tuple #[.int .i64 (iC op),.bool (decide (op=5)),.int .i64 (if iC op=0 then 2 else 0)]):=by
 refine ay Tryz.func289 rfl Tryz.ntmps289 rfl ?_;repeat' (first|refine sT ?_|refine sM fun _=>?_|(refine sC ?_ ?_<;>intro hb<;>try omega)|fail)
 all_goals ((refine rT3 ?_);simp_all [iC];try omega)
theorem Ph (q:Int) {g:Nat} {sa:ByteArray} (hsa:sa.size≤1000) {A:Option Nat} {cap:Nat} {toks:List Tk} (ht1:toks.length≤1000) {k:Nat} {B:Option Nat} {cb:Nat} {out:List Nd} {at_ e:Int} {t:Tk} (hd:hdT (sa.size:Int) (toks.drop k)=t) {H:List Blk} {w0:World} (hH:MSub (rB g sa A cap toks k B cb out at_ e) H) (w:World) (hm:Mem w0 w H):
 aC Tryz.prog 261 [.pointer (some ⟨g,0,none⟩),.int .i64 q] w (.bool (decide (t.kind=8∧iC t.num=q))):=by
 have hm0:=hH.use hm;refine ay Tryz.func261 rfl Tryz.ntmps261 rfl ?_;have hh: ∀ w' H',Mem w w' H' →aC Tryz.prog 207 [.pointer (some ⟨g,0,none⟩)] w' (.agg (bh t).toArray):=fun w' H' hm' =>by
  rw [← hd];refine CW g sa hsa A cap toks ht1 k B out.length cb at_ e w' ((Ro.of_box hm0 .hd).next hm') fun hlt=> ?_;obtain ⟨ga,h1,h2⟩:=Qt hm0 (.tl .hd) hlt;exact ⟨ga,h1,h2.next hm'⟩
 repeat' (first|(apply aa (f:=207);exact rfl;exact rfl;(intro w' hm';exact hh w' _ hm'))|(apply aa (f:=289);exact rfl;exact rfl;(intro w' _;exact IU _ w'))|refine zZB ?_|refine sM fun _=>?_|(refine sC ?_ ?_<;>intro hb<;>try omega)|fail)
 all_goals ((refine rT1 ?_);simp_all)
theorem gH (g:Nat) (sa:ByteArray) (A:Option Nat) (n cap k:Nat) (B:Option Nat) (m cb:Nat) (at_ e a2 e2:Int) (R:List Blk) (w0:World):
 FnIn Tryz.prog 206 [.pointer (some ⟨g,0,none⟩),.int .i64 a2,.int .i64 e2] w0 (.box g 277 (rC sa A n cap k B m cb at_ e)::R) fun v H=>v= .tuple #[]∧H= .box g 277 (rC sa A n cap k B m cb (if e=0 then a2 else at_) (if e=0 then e2 else e))::R:=by
 refine bF Tryz.func206 rfl Tryz.ntmps206 rfl ?_;unfold rC;by_cases he:e=0
 ·subst he;rw [if_pos rfl,if_pos rfl];repeat' (first|refine zZB ?_|refine sM fun _=>?_|(refine sC ?_ ?_<;>intro hb<;>try omega)|fail)
  all_goals first|(exfalso;omega)|exact iP eIO rfl mS ⟨rfl,rfl⟩
 ·rw [if_neg he,if_neg he];repeat' (first|refine zZB ?_|refine sM fun _=>?_|(refine sC ?_ ?_<;>intro hb<;>try omega)|fail)
  all_goals first|(exfalso;omega)|exact iP eIO rfl mS ⟨rfl,rfl⟩
theorem l9 (c:Int) {g:Nat} {sa:ByteArray} (hsa:sa.size≤1000) {A:Option Nat} {cap:Nat} {toks:List Tk} (ht1:toks.length≤1000) {k:Nat} (hk1:k≤2000) {B:Option Nat} {cb:Nat} {out:List Nd} {at_ e:Int} {t:Tk} (hd:hdT (sa.size:Int) (toks.drop k)=t) (hc:t.kind=c) (R:List Blk) (w0:World):
 FnIn Tryz.prog 317 [.pointer (some ⟨g,0,none⟩),.int .u8 c] w0 (rB g sa A cap toks k B cb out at_ e++R) fun v H=>v= .tuple #[]∧H=rB g sa A cap toks (k+1) B cb out at_ e++R:=by
 refine bF Tryz.func317 rfl Tryz.ntmps317 rfl ?_;have hh:=fun w hm=>wh (g:=g) hsa ht1 hd (B:=B) (cb:=cb) (out:=out) (at_:=at_) (e:=e) (A:=A) (cap:=cap) (w0:=w0) (H:=rB g sa A cap toks k B cb out at_ e++R) ⟨R,.refl _⟩ w hm;unfold rB rC at hh ⊢;repeat' (first|(apply ai;exact rfl;apply ee;exact rfl;exact rfl)|(apply aa (f:=207);exact rfl;exact rfl;exact hh)|refine zZA ?_|refine sM fun _=>?_|(refine sC ?_ ?_<;>intro hb<;>try omega)|fail)
 all_goals first
  |(exfalso;omega)
  |exact iP eIO rfl (.refl _) ⟨rfl,rfl⟩
theorem wg (c:Int) {g:Nat} {sa:ByteArray} (hsa:sa.size≤1000) {A:Option Nat} {cap:Nat} {toks:List Tk} (ht1:toks.length≤1000) {k:Nat} {B:Option Nat} {cb:Nat} {out:List Nd} {at_ e:Int} {t:Tk} (hd:hdT (sa.size:Int) (toks.drop k)=t) (hc:t.kind≠c) (R:List Blk) (w0:World):
 FnIn Tryz.prog 317 [.pointer (some ⟨g,0,none⟩),.int .u8 c] w0 (rB g sa A cap toks k B cb out at_ e++R) fun v H=>v= .tuple #[]∧H=rB g sa A cap toks k B cb out (if e=0 then t.at_ else at_) (if e=0 then 4 else e)++R:=by
 refine bF Tryz.func317 rfl Tryz.ntmps317 rfl ?_;have hh:=fun w hm=>wh (g:=g) hsa ht1 hd (B:=B) (cb:=cb) (out:=out) (at_:=at_) (e:=e) (A:=A) (cap:=cap) (w0:=w0) (H:=rB g sa A cap toks k B cb out at_ e++R) ⟨R,.refl _⟩ w hm;unfold rB at hh ⊢;repeat' (first|(apply ai;exact rfl;apply ee;exact rfl;exact rfl)|(apply aa (f:=207);exact rfl;exact rfl;exact hh)|(apply ak (f:=206);exact rfl;exact rfl;exact FnIn.msub (gH g sa A _ cap k B _ cb at_ e _ _ _ _) (MSub.pick .hd (.refl _));rintro _ _ ⟨rfl,rfl⟩)|refine zZA ?_|refine sM fun _=>?_|(refine sC ?_ ?_<;>intro hb<;>try omega)|fail)
 all_goals first
  |(exfalso;omega)
  |exact iP eIO rfl (.refl _) ⟨rfl,rfl⟩
end Go.SL

/-
  Lemmas and walks, put together: Px2 C1 Px3 C2 C3 C4 C5 Q1.
-/
import Derived.Test.YtfeicpjdgjflaaaGreatDoorKv09
set_option linter.unusedSimpArgs false
set_option linter.unusedVariables false
set_option maxRecDepth 20000
set_option maxHeartbeats 16000000
namespace Go.SL
open Go
def Job.c:Job→Nat
 | .level k=>(9 - k).toNat
 | .loop _=>1
 | .sign=>3
 | .pct=>2
 | .pctl=>1
 | .prim=>1
 | .args _ _=>9
def Job.fit:Job→Prop
 | .level k=>1≤k∧k≤5
 | .loop k=>1≤k∧k≤4
 |_=>True
def Job.eats:Job→Prop
 | .loop _=>False
 | .pctl=>False
 |_=>True
def HF (p:PS) (strict:Prop) (r:Out):Prop:= ∀ n p',r= .ok (n,p')→p'.l.length≤p.l.length∧(strict→p'.l.length<p.l.length)
def JZ (o:Option Out) (B:Out→Prop):Prop:= ∃ r,o=some r∧B r
theorem fg {B:Out→Prop} {r:Out} (h:B r):JZ (some r) B:=⟨r,rfl,h⟩
theorem dQ {p:PS} {q:Prop} {e:Int × Int}:HF p q (.error e):=fun _ _ h=>by cases h
theorem kg {p p' :PS} {q:Prop} {n:Nat} (h:p'.l.length≤p.l.length) (hq:q→p'.l.length<p.l.length):HF p q (.ok (n,p')):=fun m p2 h2=>by
 cases h2;exact ⟨h,hq⟩
theorem gY {o:Option Out} {k:Nat→PS→Option Out} {p:PS} {q:Prop} {B:Out→Prop} (h:JZ o (HF p q)) (he: ∀ e,B (.error e)) (hk: ∀ n p',p'.l.length≤p.l.length→(q→p'.l.length<p.l.length)→JZ (k n p') B):JZ (iB o k) B:=by
 obtain ⟨r,rfl,hr⟩:=h
 cases r with
 |error e=>exact ⟨_,rfl,he e⟩
 |ok x=>
  obtain ⟨n,p'⟩:=x;obtain ⟨h1,h2⟩:=hr n p' rfl;exact hk n p' h1 h2
theorem jU {fin:Int} {l:List Tk} (h:(hdT fin l).kind≠0):0<l.length:=by
 cases l with
 |nil=>exact absurd rfl h
 |cons=>simp
theorem gR (p:PS):p.skip.l.length=p.l.length - 1:=by simp [PS.skip]
theorem fR (p:PS) (n:Nd):(p.put n).l=p.l:=rfl
theorem ut {fin:Int} {name:Tk} {fn:Int} {n:Nat} {p p0:PS} {q:Prop} (h:p.l.length≤p0.l.length) (hq:0<p.l.length→q→p.l.length - 1<p0.l.length):JZ (dX fin name fn n p) (HF p0 q):=by
 unfold dX;dsimp only;split
 ·exact fg dQ
 ·rename_i hk;have hpos:=jU (fin:=fin) (l:=p.l) (by omega);split
  ·exact fg dQ
  ·split
   ·exact fg dQ
   ·refine fg (kg ?_ fun hh=> ?_)
    ·rw [fR,gR];omega
    ·rw [fR,gR];exact hq hpos hh
theorem uZ (fin:Int): ∀ (f:Nat) (j:Job) (p:PS),j.fit→20*p.l.length+j.c≤f→JZ (bK fin f j p) (HF p j.eats):=by
 intro f
 induction f with
 |zero=>
  intro j p hj hf
  cases j with
  |level k=>obtain ⟨h1,h2⟩:=hj;simp only [Job.c] at hf;omega
  |_=>simp only [Job.c] at hf;omega
 |succ f ih=>
  intro j p hj hf
  cases j with
  |level k=>
   obtain ⟨h1,h2⟩:=hj;simp only [Job.c] at hf;rw [bK];split
   ·obtain ⟨r,hr,hl⟩:=ih .sign p trivial (by simp only [Job.c];omega);exact ⟨r,hr,hl⟩
   ·refine gY (ih (.level (k+1)) p ⟨by omega,by omega⟩ (by simp only [Job.c];omega)) (fun e=>dQ) fun n p' h3 h4=> ?_;have h5:=h4 trivial;obtain ⟨r,hr,hl⟩:=ih (.loop k) p' ⟨h1,by omega⟩ (by simp only [Job.c];omega);exact ⟨r,hr,fun m q hq=>⟨by have:=(hl m q hq).1;omega,fun _=>by have:=(hl m q hq).1;omega⟩⟩
  |loop k=>
   obtain ⟨h1,h2⟩:=hj;simp only [Job.c] at hf;rw [bK];split
   ·rename_i hk;have hpos:=jU (fin:=fin) (l:=p.l) (by omega);have hs:=gR p;refine gY (ih (.level (k+1)) p.skip ⟨by omega,by omega⟩ (by simp only [Job.c];omega)) (fun e=>dQ) fun n p' h3 h4=> ?_;have h5:=h4 trivial;obtain ⟨r,hr,hl⟩:=ih (.loop k) (p'.put (eW 6 (hdT fin p.l).num)) ⟨h1,h2⟩ (by rw [fR];simp only [Job.c];omega);exact ⟨r,hr,fun m q hq=>⟨by have:=(hl m q hq).1;rw [fR] at this;omega,fun h=>h.elim⟩⟩
   ·exact fg (kg (VA _) fun h=>h.elim)
  |sign=>
   simp only [Job.c] at hf;rw [bK];dsimp only;split
   ·rename_i hk;have hpos:=jU (fin:=fin) (l:=p.l) (by omega);have hs:=gR p;refine gY (ih .sign p.skip trivial (by simp only [Job.c];omega)) (fun e=>dQ) fun n p' h3 h4=> ?_;have h5:=h4 trivial;exact fg (kg (by rw [fR];omega) fun _=>by rw [fR];omega)
   ·refine gY (ih .pct p trivial (by simp only [Job.c];omega)) (fun e=>dQ) fun n p' h3 h4=> ?_;have h5:=h4 trivial;split
    ·have hs:=gR p';refine gY (ih .sign p'.skip trivial (by simp only [Job.c];omega)) (fun e=>dQ) fun n p2 h6 h7=> ?_;exact fg (kg (by rw [fR];omega) fun _=>by rw [fR];omega)
    ·exact fg (kg h3 fun _=>h5)
  |pct=>
   simp only [Job.c] at hf;rw [bK];refine gY (ih .prim p trivial (by simp only [Job.c];omega)) (fun e=>dQ) fun n p' h3 h4=> ?_;have h5:=h4 trivial;obtain ⟨r,hr,hl⟩:=ih .pctl p' trivial (by simp only [Job.c];omega);exact ⟨r,hr,fun m q hq=>⟨by have:=(hl m q hq).1;omega,fun _=>by have:=(hl m q hq).1;omega⟩⟩
  |pctl=>
   simp only [Job.c] at hf;rw [bK];split
   ·rename_i hk;have hpos:=jU (fin:=fin) (l:=p.l) (by omega);have hs:=gR p;obtain ⟨r,hr,hl⟩:=ih .pctl (p.skip.put (eW 5 0)) trivial (by rw [fR];simp only [Job.c];omega);exact ⟨r,hr,fun m q hq=>⟨by have:=(hl m q hq).1;rw [fR] at this;omega,fun h=>h.elim⟩⟩
   ·exact fg (kg (VA _) fun h=>h.elim)
  |prim=>
   simp only [Job.c] at hf;rw [bK];dsimp only;have hs:=gR p;have hs2:=gR p.skip;split
   ·rename_i hk;have hpos:=jU (fin:=fin) (l:=p.l) (by omega);exact fg (kg (by rw [fR];omega) fun _=>by rw [fR];omega)
   ·split
    ·rename_i hk;have hpos:=jU (fin:=fin) (l:=p.l) (by omega);exact fg (kg (by rw [fR];omega) fun _=>by rw [fR];omega)
    ·split
     ·rename_i hk;have hpos:=jU (fin:=fin) (l:=p.l) (by omega);refine gY (ih (.level 1) p.skip ⟨by omega,by omega⟩ (by simp only [Job.c];omega)) (fun e=>dQ) fun n p' h3 h4=> ?_;have h5:=h4 trivial;have hs3:=gR p';split
      ·exact fg dQ
      ·exact fg (kg (by omega) fun _=>by omega)
     ·split
      ·rename_i hk;have hpos:=jU (fin:=fin) (l:=p.l) (by omega);split
       ·exact fg dQ
       ·split
        ·exact fg dQ
        ·rename_i hk2;have hpos2:=jU (fin:=fin) (l:=p.skip.l) (by omega);split
         ·exact ut (by omega) fun _ _=>by omega
         ·refine gY (ih (.args (bo (hdT fin p.l).text).1 0) p.skip.skip trivial (by simp only [Job.c];omega)) (fun e=>dQ) fun n p' h3 h4=> ?_;exact ut (by omega) fun _ _=>by omega
      ·exact fg dQ
  |args fn n=>
   simp only [Job.c] at hf;rw [bK];dsimp only;have hgo: ∀ p' :PS,p'.l.length<p.l.length→JZ (if (hdT fin p'.l).kind=11 then bK fin f (.args fn (n+1)) p'.skip else some (.ok (n+1,p'))) (HF p (Job.args fn n).eats):=by
    intro p' hp;have hs:=gR p';split
    ·obtain ⟨r,hr,hl⟩:=ih (.args fn (n+1)) p'.skip trivial (by simp only [Job.c];omega);exact ⟨r,hr,fun m q hq=>⟨by have:=(hl m q hq).1;omega,fun _=>by have:=(hl m q hq).1;omega⟩⟩
    ·exact fg (kg (by omega) fun _=>hp)
   split
   ·refine gY (ih (.level 1) p ⟨by omega,by omega⟩ (by simp only [Job.c];omega)) (fun e=>dQ) fun m p' h3 h4=> ?_;exact hgo p' (h4 trivial)
   ·rename_i hk;have hpos:=jU (fin:=fin) (l:=p.l) (by omega);have hs:=gR p;split
    ·exact fg dQ
    ·exact hgo _ (by rw [fR];omega)
open Go.Proofs
attribute [local irreducible] FnAt FnIn VOp W WA WG WL WLI WQ WR WT WX aS bg bi blk scp thn
def TkV (v:Value) (A:Option Nat) (n cap k:Nat):Prop:= ∃ a:Option Addr,v= .slice a (n - k) (cap - k)∧(k<n→a=A.map fun g=>⟨g,k*8,none⟩)
def pB (g:Nat) (lv:Value) (A:Option Nat) (cap:Nat) (fin:Int) (toks:List Tk) (B:Option Nat) (cb:Nat) (out:List Nd):List Blk:=
 [.box g 337 [lv,.int .i64 fin,sl B out.length cb],.own A 339 8 toks.length cap (toks.flatMap bw),.own B 132 11 out.length cb (out.flatMap bu)]
theorem TkV.next {P:Program} {t e:Nat} {v:Value} {A:Option Nat} {n cap k:Nat} [ht:Und P t (.slice e)] [hz:Size P e 8] (h:TkV v A n cap k) (hk:k<n) (hc:n≤cap):
 ∃ v',TkV v' A n cap (k+1)∧v'.oneCell' =true∧(∃ a m c,v' = .slice a m c)∧ ∀ {w0:World} {s:aC} {H:List Blk} {ty:TypeId} {x r:Operand} {k' :IntKind},ev s x=some v→ev s r=some (.int k' 1)→VOp P w0 s H (.slice t x (some r) none none) ty v' :=by
 obtain ⟨a,rfl,ha⟩:=h;refine ⟨.slice (if cap - k=1 then a else a.map (·.add (1*8))) (n - k - 1) (cap - k - 1),⟨if cap - k=1 then a else a.map (·.add (1*8)),?_,fun hk1=> ?_⟩,rfl,⟨_,_,_,rfl⟩,fun hx hr=>jY (lo:=1) (hi:=n - k) hx ⟨_,hr⟩ rfl (by omega) (by omega)⟩
 ·congr 1
 ·rw [if_neg (by omega),ha hk]
  cases A with
  |none=>rfl
  |some g=>(simp [dR])<;>omega
theorem KJ {fin:Int} {toks:List Tk} {k:Nat} (h:k<toks.length):hdT fin (toks.drop k)=toks[k]:=by
 rw [Vy h];rfl
theorem xj {fin:Int} {toks:List Tk} {k:Nat} (h:toks.length≤k):hdT fin (toks.drop k)={ dY with at_:=fin }:=by
 rw [VY h];rfl
theorem F8 (g:Nat) (lv:Value) (A:Option Nat) (cap:Nat) (fin:Int) (toks:List Tk) (k:Nat) (hk:TkV lv A toks.length cap k) (x:Value) (w:World) (hr:Ro w g 0 [lv,.int .i64 fin,x])
 (ht:k<toks.length→ ∃ ga,A=some ga∧Ro w ga 0 (toks.flatMap bw)):aF Tryz.prog 228 [.pointer (some ⟨g,0,none⟩)] w (.agg (bw (hdT fin (toks.drop k))).toArray):=by
 refine aA Tryz.func228 rfl Tryz.ntmps228 rfl ?_;obtain ⟨a,rfl,ha⟩:=hk;by_cases hlt:k<toks.length
 ·rw [KJ hlt];obtain ⟨ga,rfl,hra⟩:=ht hlt;have ha' :=ha hlt;subst ha';have hra' :Ro w ga (k*8) (bw toks[k]):=by
   have:=hra.elem Cs k hlt;rwa [VD] at this
  have hlen:0<toks.length - k:=by omega
  repeat' first|apply ai;exact rfl;apply aR (o:=0) (off:=0);exact hr;exact rfl;exact rfl|apply ai;exact rfl;apply aR (o:=0) (off:=1);exact hr;exact rfl;exact rfl|apply ai;exact rfl;apply aa (j:=0);exact rfl;exact rfl;exact hlen|apply ai;exact rfl;apply cZ (o:=k*8) (off:=0*8);exact hra';(iterate 3 exact rfl)|refine sT ?_|refine sM fun _=>?_|refine sC ?_ ?_<;>intro hb<;>try omega|fail
  all_goals try omega
  (refine eRC ?_)
  rfl
 ·rw [xj (by omega)];repeat' (first|apply ai;exact rfl;apply aR (o:=0) (off:=0);exact hr;exact rfl;exact rfl|apply ai;exact rfl;apply aR (o:=0) (off:=1);exact hr;exact rfl;exact rfl|refine sT ?_|refine sM fun _=>?_|refine sC ?_ ?_<;>intro hb<;>try omega|fail)
  all_goals try omega
  (refine eRC ?_)
  rfl
theorem OJ {g:Nat} {lv:Value} {A:Option Nat} {cap:Nat} {fin:Int} {toks:List Tk} {k:Nat} (hk:TkV lv A toks.length cap k) {B:Option Nat} {cb:Nat} {out:List Nd} {H:List Blk} {w0:World} (hH:MSub (pB g lv A cap fin toks B cb out) H) (w:World) (hm:Mem w0 w H):
 aF Tryz.prog 228 [.pointer (some ⟨g,0,none⟩)] w (.agg (bw (hdT fin (toks.drop k))).toArray):=by
 have hm' :=hH.use hm;refine F8 g lv A cap fin toks k hk (sl B out.length cb) w (Ro.of_box hm' .hd) fun hlt=> ?_;obtain ⟨_,_,_,h4⟩:=(hm'.on _ (In.tl .hd:In (.own A 339 8 toks.length cap (toks.flatMap bw)) _).mem).1
 cases A with
 |none=>obtain ⟨h5,_⟩:=h4;omega
 |some ga=>exact ⟨ga,rfl,Ro.of_own hm' (In.tl .hd)⟩
theorem OI (g:Nat) (lv:Value) (A:Option Nat) (cap:Nat) (fin:Int) (toks:List Tk) (k:Nat) (hv:TkV lv A toks.length cap k) (hk:k<toks.length) (hc:toks.length≤cap) (B:Option Nat) (cb:Nat) (out:List Nd) (R:List Blk) (w0:World):
 FnIn Tryz.prog 352 [.pointer (some ⟨g,0,none⟩)] w0 (pB g lv A cap fin toks B cb out++R) fun v H=>v= .tuple #[]∧ ∃ lv',TkV lv' A toks.length cap (k+1)∧H=pB g lv' A cap fin toks B cb out++R:=by
 refine bE Tryz.func352 rfl Tryz.ntmps352 rfl ?_;obtain ⟨lv',h1,h3,⟨a',m',c',rfl⟩,h2⟩:=hv.next hk hc (P:=Tryz.prog) (t:=330) (e:=339);obtain ⟨a,rfl,ha⟩:=hv;repeat' (first|apply ai (d:=7);exact rfl;exact h2 rfl rfl|refine sT ?_|refine sM fun _=>?_|refine sC ?_ ?_<;>intro hb<;>try omega|fail)
 exact iO (.inr rfl) rfl (.refl _) ⟨rfl,_,h1,rfl⟩
theorem mJ (n:Nd) (g:Nat) (lv:Value) (A:Option Nat) (cap:Nat) (fin:Int) (toks:List Tk) (B:Option Nat) (cb:Nat) (out:List Nd) (hlen:out.length≤1000000) (R:List Blk) (w0:World):
 FnIn Tryz.prog 353 [.pointer (some ⟨g,0,none⟩),.agg (bu n).toArray] w0 (pB g lv A cap fin toks B cb out++R) fun v H=>v= .tuple #[]∧ ∃ B' cb',H=pB g lv A cap fin toks B' cb' (out++ [n])++R:=by
 refine bE Tryz.func353 rfl Tryz.ntmps353 rfl ?_;repeat' (first|refine sT ?_|refine sM fun _=>?_|refine sC ?_ ?_<;>intro hb<;>try omega|fail)
 refine kX 11 rfl (by kernel_rfl) ?_;((with_reducible apply aX (i:=0));exact rfl;exact rfl;(iterate 3 decide+kernel);exact nP;intro _ _;exact vP);((with_reducible apply aX (i:=1));exact rfl;exact rfl;(iterate 3 decide+kernel);exact nP;intro _ _;exact vP);((with_reducible apply aX (i:=2));exact rfl;exact rfl;(iterate 3 decide+kernel);exact nP;intro _ _;exact vP);((with_reducible apply aX (i:=3));exact rfl;exact rfl;(iterate 3 decide+kernel);exact nP;intro _ _;exact vP);repeat' (first|apply dO (i:=4) (j:=5);exact rfl;exact rfl;decide+kernel|apply dO (i:=4) (j:=6);exact rfl;exact rfl;decide+kernel|apply aM (i:=4);exact rfl;decide+kernel|apply aM (i:=5);exact rfl;decide+kernel|apply aM (i:=6);exact rfl;decide+kernel|apply aM (i:=7);exact rfl;decide+kernel|apply aM (i:=8);exact rfl;decide+kernel|apply aM (i:=9);exact rfl;decide+kernel|apply aM (i:=10);exact rfl;decide+kernel|apply kV;decide+kernel|apply aG;(iterate 3 exact rfl);exact pK;exact pK;exact rfl;simp [bu,Value.oneCell'];omega;simp only [maxLen];omega;intro g8 c8|refine sT ?_|refine sM fun _=>?_|refine sC ?_ ?_<;>intro hb<;>try omega|fail)
 all_goals
  refine iO eIO rfl (H' :=pB g lv A cap fin toks (some g8) c8 (out++ [n])++R) ?_ ⟨rfl,_,_,rfl⟩;simp only [pB,Vn,Vs,VF,VE,VZ,VB,Vp,Vq];exact mS
def DR (e:Int × Int):Value:= .iface 334 (.agg #[.int .i64 e.1,.int .i64 e.2])
theorem kC (x:Value) (at_ e:Int) (H:List Blk) (w0:World) (R:Value→List Blk→Prop):
 FnP Tryz.prog 229 [x,.int .i64 at_,.int .i64 e] w0 H R fun v H' =>v=DR (at_,e)∧H' =H:=by
 refine zp Tryz.func229 rfl Tryz.ntmps229 rfl ?_;repeat' (first|apply ai;exact rfl;apply gP;(intro m;exact fun h=>by cases h);exact rfl|apply Ny;exact rfl|refine sT ?_|refine sM fun _=>?_|refine sC ?_ ?_<;>intro hb<;>try omega|fail)
 exact SQ (.refl _) ⟨rfl,rfl⟩
theorem TL (op:Int) {g:Nat} {lv:Value} {A:Option Nat} {cap:Nat} {fin:Int} {toks:List Tk} {k:Nat} (hk:TkV lv A toks.length cap k) {B:Option Nat} {cb:Nat} {out:List Nd} {H:List Blk} {w0:World} (hH:MSub (pB g lv A cap fin toks B cb out) H) (w:World) (hm:Mem w0 w H):
 aF Tryz.prog 378 [.pointer (some ⟨g,0,none⟩),.int .i64 op] w (.bool (decide ((hdT fin (toks.drop k)).kind=8∧(hdT fin (toks.drop k)).num=op))):=by
 have hm0:=hH.use hm;refine aA Tryz.func378 rfl Tryz.ntmps378 rfl ?_;have hh: ∀ w' H',Mem w w' H' →aF Tryz.prog 228 [.pointer (some ⟨g,0,none⟩)] w' (.agg (bw (hdT fin (toks.drop k))).toArray):=fun w' H' hm' =>by
  refine F8 g lv A cap fin toks k hk (sl B out.length cb) w' ((Ro.of_box hm0 .hd).next hm') fun hlt=> ?_;obtain ⟨_,_,_,h4⟩:=(hm0.on _ (In.tl .hd:In (.own A 339 8 toks.length cap (toks.flatMap bw)) _).mem).1
  cases A with
  |none=>obtain ⟨h5,_⟩:=h4;omega
  |some ga=>exact ⟨ga,rfl,(Ro.of_own hm0 (In.tl .hd)).next hm'⟩
 generalize hdT fin (toks.drop k)=t at hh;repeat' (first|apply ag;exact rfl;exact rfl;intro w' hm';exact hh w' _ hm'|refine sT ?_|refine sM fun _=>?_|refine sC ?_ ?_<;>intro hb<;>try omega|fail)
 all_goals ((refine rT1 ?_);simp_all)
theorem BP (op:Int) (w:World):aF Tryz.prog 351 [.int .i64 op] w (.tuple #[.int .i64 (jh op),.bool (decide (op=5)),.int .i64 (if jh op=0 then 2 else 0)]):=by
 refine aA Tryz.func351 rfl Tryz.ntmps351 rfl ?_;repeat' (first|refine sT ?_|refine sM fun _=>?_|refine sC ?_ ?_<;>intro hb<;>try omega|fail)
 all_goals ((refine rT3 ?_);simp_all [jh];try omega)
structure Grew (p p' :PS) (strict:Prop):Prop where
 tok: ∃ m,p'.l=p.l.drop m∧m≤p.l.length∧p'.out.length≤p.out.length+m
 out:p.out.length≤p'.out.length
 some:strict→p.out.length<p'.out.length
theorem Grew.refl (p:PS) {q:Prop} (h: ¬ q):Grew p p q:=⟨⟨0,rfl,Vt _,VA _⟩,VA _,fun hq=>(h hq).elim⟩
theorem Grew.trans {p p' p2:PS} {q q' q2:Prop} (h:Grew p p' q) (k:Grew p' p2 q') (hq:q2→q∨q'):Grew p p2 q2:=by
 obtain ⟨⟨m,h1,h2,h3⟩,h4,h5⟩:=h;obtain ⟨⟨n,k1,k2,k3⟩,k4,k5⟩:=k;refine ⟨⟨m+n,by rw [k1,h1,Xi],?_,by omega⟩,by omega,fun hh=> ?_⟩
 ·rw [h1,VS] at k2;omega
 ·rcases hq hh with h|h
  ·have:=h5 h;omega
  ·have:=k5 h;omega
theorem Grew.step (p:PS) (n:Nd) (h:0<p.l.length) {q:Prop}:Grew p (p.skip.put n) q:=
 ⟨⟨1,by simp [PS.skip,PS.put],h,by simp [PS.skip,PS.put]⟩,by simp [PS.skip,PS.put],fun _=>by simp [PS.skip,PS.put]⟩
theorem Grew.skip (p:PS) (h:0<p.l.length) {q:Prop} (hq: ¬ q):Grew p p.skip q:=
 ⟨⟨1,by simp [PS.skip],h,by simp [PS.skip]⟩,by simp [PS.skip],fun hh=>(hq hh).elim⟩
theorem Grew.wrap {p p' :PS} {q q' :Prop} (h0:0<p.l.length) (h:Grew p.skip p' q) (n:Nd):Grew p (p'.put n) q' :=by
 obtain ⟨⟨m,h1,h2,h3⟩,h4,h5⟩:=h;simp only [PS.skip] at h1 h2 h3 h4;refine ⟨⟨1+m,?_,?_,?_⟩,?_,fun _=> ?_⟩
 ·simp only [PS.put];rw [h1,← List.drop_one,Xi]
 ·rw [YF] at h2;omega
 ·simp only [PS.put,Vn,Vs];omega
 ·simp only [PS.put,Vn,Vs];omega
 ·simp only [PS.put,Vn,Vs];omega
theorem db {r:Option Out} {k:Nat→PS→Option Out} {x:Nat × PS} (h:iB r k=some (.ok x)): ∃ n p',r=some (.ok (n,p'))∧k n p' =some (.ok x):=by
 unfold iB at h;split at h
 ·exact ⟨_,_,rfl,h⟩
 ·rename_i h1;obtain ⟨n,p'⟩:=x;exact absurd h (h1 n p')
theorem kK {fin:Int} {l:List Tk} {c:Int} (h:(hdT fin l).kind=c) (hc:c≠0):0<l.length:=jU (fin:=fin) (by omega)
theorem uq {fin:Int} {name:Tk} {fn:Int} {n m:Nat} {p p' :PS} {q:Prop} (h:dX fin name fn n p=some (.ok (m,p'))):Grew p p' q:=by
 unfold dX at h;dsimp only at h;split at h
 ·cases h
 ·rename_i hk;have hpos:=kK (Decidable.not_not.1 hk) (by decide);split at h
  ·cases h
  ·split at h
   ·cases h
   ·cases h;exact .step p _ hpos
theorem lD (fin:Int): ∀ (f:Nat) (j:Job) (p:PS) (n:Nat) (p' :PS),bK fin f j p=some (.ok (n,p'))→Grew p p' j.eats
 |0,_,_,_,_,h=>by cases h
 |f+1,j,p,n,p',h=>by
  have ih:=lD fin f
  cases j with
  |level k=>
   rw [bK] at h;split at h
   ·have g:=ih .sign _ _ _ h;exact g
   ·obtain ⟨n1,p1,h1,h2⟩:=db h;exact (ih _ _ _ _ h1).trans (ih _ _ _ _ h2) fun _=> .inl trivial
  |loop k=>
   rw [bK] at h;try dsimp only at h
   split at h
   ·rename_i hk;have hpos:=kK hk.1 (by decide);obtain ⟨n1,p1,h1,h2⟩:=db h;exact ((ih _ _ _ _ h1).wrap (q' :=True) hpos _).trans (ih _ _ _ _ h2) fun _=> .inl trivial
   ·cases h;exact .refl _ fun h=>h
  |sign=>
   rw [bK] at h;try dsimp only at h
   split at h
   ·rename_i hk;have hpos:=kK hk.1 (by decide);obtain ⟨n1,p1,h1,h2⟩:=db h;cases h2;exact (ih _ _ _ _ h1).wrap hpos _
   ·obtain ⟨n1,p1,h1,h2⟩:=db h;split at h2
    ·rename_i hk;have hpos:=kK hk.1 (by decide);obtain ⟨n2,p2,h3,h4⟩:=db h2;cases h4;exact (ih _ _ _ _ h1).trans ((ih _ _ _ _ h3).wrap (q' :=True) hpos _) fun _=> .inl trivial
    ·cases h2;have g:=ih .pct _ _ _ h1;exact g
  |pct=>
   rw [bK] at h;obtain ⟨n1,p1,h1,h2⟩:=db h;exact (ih _ _ _ _ h1).trans (ih _ _ _ _ h2) fun _=> .inl trivial
  |pctl=>
   rw [bK] at h;try dsimp only at h
   split at h
   ·rename_i hk;have hpos:=kK hk.1 (by decide);exact (Grew.step p _ hpos (q:=True)).trans (ih _ _ _ _ h) fun h=>h.elim
   ·cases h;exact .refl _ fun h=>h
  |prim=>
   rw [bK] at h;try dsimp only at h
   split at h
   ·rename_i hk;cases h;exact .step p _ (jU (fin:=fin) (by omega))
   ·split at h
    ·rename_i hk;cases h;exact .step p _ (kK hk (by decide))
    ·split at h
     ·rename_i hk;have hpos:=kK hk (by decide);obtain ⟨n1,p1,h1,h2⟩:=db h;split at h2
      ·cases h2
      ·rename_i hu;cases h2;exact ((Grew.skip p hpos (q:=False) (fun h=>h)).trans (ih _ _ _ _ h1) (q2:=True) fun _=> .inr trivial).trans (Grew.skip p1 (kK (Decidable.not_not.1 hu) (by decide)) (q:=False) fun h=>h) fun _=> .inl trivial
     ·split at h
      ·rename_i hk;have hpos:=kK hk (by decide);split at h
       ·cases h
       ·split at h
        ·cases h
        ·rename_i hu;have hpos2:=kK (Decidable.not_not.1 hu) (by decide);have g1:=(Grew.skip p hpos (q:=False) (fun h=>h)).trans (Grew.skip p.skip hpos2 (q:=False) fun h=>h) (q2:=False) fun h=>h.elim;split at h
         ·exact g1.trans (uq h (q:=True)) fun _=> .inr trivial
         ·obtain ⟨n1,p1,h1,h2⟩:=db h;exact (g1.trans (ih _ _ _ _ h1) (q2:=True) fun _=> .inr trivial).trans (uq h2 (q:=True)) fun _=> .inl trivial
      ·cases h
  |args fn i=>
   rw [bK] at h;try dsimp only at h
   have hgo: ∀ p0:PS,(if (hdT fin p0.l).kind=11 then bK fin f (.args fn (i+1)) p0.skip else some (.ok (i+1,p0)))=some (.ok (n,p'))→Grew p0 p' False:=by
    intro p0 h0;split at h0
    ·rename_i hk;exact (Grew.skip p0 (kK hk (by decide)) (q:=False) (fun h=>h)).trans (ih _ _ _ _ h0) fun h=>h.elim
    ·cases h0;exact .refl _ fun h=>h
   split at h
   ·obtain ⟨n1,p1,h1,h2⟩:=db h;exact (ih _ _ _ _ h1).trans (hgo p1 h2) fun _=> .inl trivial
   ·rename_i hk;have hpos:=jU (fin:=fin) (l:=p.l) (by omega);split at h
    ·cases h
    ·exact (Grew.step p _ hpos (q:=True)).trans (hgo _ h) fun _=> .inl trivial
attribute [local irreducible] FnP aV
def At (toks:List Tk) (A:Option Nat) (cap:Nat) (p:PS) (lv:Value):Prop:= ∃ k,k≤toks.length∧p.l=toks.drop k∧p.out.length≤k∧TkV lv A toks.length cap k
section
variable {toks:List Tk} {A:Option Nat} {cap:Nat} {fin:Int} {g:Nat}
def PR (toks:List Tk) (A:Option Nat) (cap:Nat) (fin:Int) (g:Nat) (R:List Blk) (r:Out) (v:Value) (H:List Blk):Prop:=v= .tuple #[]∧ ∃ n p' lv' B' cb',r= .ok (n,p')∧At toks A cap p' lv' ∧H=pB g lv' A cap fin toks B' cb' p'.out++R
def PD (R:List Blk) (r:Out) (v:Value) (H:List Blk):Prop:= ∃ e,r= .error e∧v=DR e∧MSub R H
def POK (f:Nat) (j:Job) (fid:FuncId) (args:List Value):Prop:=
 ∀ (toks:List Tk) (A:Option Nat) (cap:Nat) (fin:Int) (g:Nat) (p:PS) (lv:Value) (B:Option Nat) (cb:Nat) (r:Out) (R:List Blk) (w0:World),toks.length≤cap→toks.length≤1000→At toks A cap p lv→bK fin f j p=some r→
  FnP Tryz.prog fid (.pointer (some ⟨g,0,none⟩)::args) w0 (pB g lv A cap fin toks B cb p.out++R) (PR toks A cap fin g R r) (PD R r)
theorem bU {o:Option Out} {k:Nat→PS→Option Out} {r:Out} (h:iB o k=some r): ∃ r1,o=some r1∧((∃ e,r1= .error e∧r= .error e)∨(∃ n p',r1= .ok (n,p')∧k n p' =some r)):=by
 unfold iB at h;split at h
 ·rename_i n p';exact ⟨_,rfl,.inr ⟨n,p',rfl,h⟩⟩
 ·rename_i h1
  cases r with
  |error e=>exact ⟨_,h,.inl ⟨e,rfl,rfl⟩⟩
  |ok x=>obtain ⟨n,p'⟩:=x;exact absurd h (h1 n p')
theorem At.head {p:PS} {lv:Value} (h:At toks A cap p lv) {B:Option Nat} {cb:Nat} {out:List Nd} {H:List Blk} {w0:World} (hH:MSub (pB g lv A cap fin toks B cb out) H) (w:World) (hm:Mem w0 w H):
 aF Tryz.prog 228 [.pointer (some ⟨g,0,none⟩)] w (.agg (bw (hdT fin p.l)).toArray):=by
 obtain ⟨k,h1,h2,h3,h4⟩:=h;rw [h2];exact OJ h4 hH w hm
theorem At.is {p:PS} {lv:Value} (h:At toks A cap p lv) (op:Int) {B:Option Nat} {cb:Nat} {out:List Nd} {H:List Blk} {w0:World} (hH:MSub (pB g lv A cap fin toks B cb out) H) (w:World) (hm:Mem w0 w H):
 aF Tryz.prog 378 [.pointer (some ⟨g,0,none⟩),.int .i64 op] w (.bool (decide ((hdT fin p.l).kind=8∧(hdT fin p.l).num=op))):=by
 obtain ⟨k,h1,h2,h3,h4⟩:=h;rw [h2];exact TL op h4 hH w hm
def At1 (toks:List Tk) (A:Option Nat) (cap:Nat) (p:PS) (lv:Value):Prop:= ∃ k,k≤toks.length∧p.l=toks.drop k∧p.out.length+1≤k∧TkV lv A toks.length cap k
theorem At.skip {p:PS} {lv:Value} (h:At toks A cap p lv) (hc:toks.length≤cap) {c:Int} (hk:(hdT fin p.l).kind=c) (h0:c≠0) {B:Option Nat} {cb:Nat} {out:List Nd} {H R:List Blk} {w0:World} (hH:MSub (pB g lv A cap fin toks B cb out++R) H):
 FnIn Tryz.prog 352 [.pointer (some ⟨g,0,none⟩)] w0 H fun v H=>v= .tuple #[]∧ ∃ lv',At1 toks A cap p.skip lv' ∧H=pB g lv' A cap fin toks B cb out++R:=by
 obtain ⟨k,h1,h2,h3,h4⟩:=h;have hpos:=kK hk h0;rw [h2,VS] at hpos;refine (OI g lv A cap fin toks k h4 (by omega) hc B cb out R w0).msub hH|>.mono ?_;rintro v H' ⟨rfl,lv',h5,rfl⟩;exact ⟨rfl,lv',⟨k+1,by omega,by simp only [PS.skip];rw [h2,Yj],by simp only [PS.skip];omega,h5⟩,rfl⟩
theorem At1.at {p:PS} {lv:Value} (h:At1 toks A cap p lv):At toks A cap p lv:=let ⟨k,h1,h2,h3,h4⟩:=h;⟨k,h1,h2,by omega,h4⟩
theorem At1.put {p:PS} {lv:Value} (h:At1 toks A cap p lv) (n:Nd):At toks A cap (p.put n) lv:=let ⟨k,h1,h2,h3,h4⟩:=h;⟨k,h1,h2,by simp only [PS.put,Vn,Vs];exact h3,h4⟩
theorem At.len {p:PS} {lv:Value} (h:At toks A cap p lv) (hl:toks.length≤1000):p.out.length≤1000000:=let ⟨k,h1,h2,h3,h4⟩:=h;by omega
theorem At1.grew {p p' :PS} {lv lv' :Value} {q:Prop} (h:At1 toks A cap p lv) (h' :At toks A cap p' lv') (hg:Grew p p' q):At1 toks A cap p' lv' :=by
 obtain ⟨k,h1,h2,h3,h4⟩:=h;obtain ⟨k',g1,g2,g3,g4⟩:=h';obtain ⟨⟨m,e1,e2,e3⟩,_,_⟩:=hg;rw [h2,Xi] at e1;rw [h2,VS] at e2;have hk:k' =k+m:=by
  have:=congrArg List.length (g2.symm.trans e1);rw [VS,VS] at this;omega
 exact ⟨k',g1,g2,by omega,g4⟩
theorem fT {fn:Func} {fr:Fr} {w0:World} {R H:List Blk} {r:Out} {n:Nat} {p' :PS} {lv' :Value} {B' :Option Nat} {cb' :Nat} {e:Exit} {s:aC} (he:e= .ret∨e= .normal) (hf:fn.results= #[]) (hr:r= .ok (n,p')) (hat:At toks A cap p' lv') (hs:MSub (pB g lv' A cap fin toks B' cb' p'.out++R) H):
 aV Tryz.prog fn fr w0 (PR toks A cap fin g R r) (PD R r) e s H:=US (iO he hf hs ⟨rfl,n,p',lv',B',cb',hr,hat,rfl⟩)
theorem dL {fn:Func} {fr:Fr} {w0:World} {R H:List Blk} {r:Out} {e:Int × Int} {s:aC} {Rok:Value→List Blk→Prop} (hr:r= .error e) (hs:MSub R H):
 aV Tryz.prog fn fr w0 Rok (PD R r) (.panic (kO (DR e))) s H:=SQ (.refl _) ⟨e,hr,rfl,hs⟩
theorem QZ (f:Nat) (ihS:POK f .sign 349 []) (ihP:POK f .pct 379 []):POK (f+1) .sign 349 []:=by
 intro toks A cap fin g p lv B cb r R w0 hc hl hat hrun;refine zp Tryz.func349 rfl Tryz.ntmps349 rfl ?_;rw [bK] at hrun;dsimp only at hrun;have hi:=fun w hm=>hat.is 2 (fin:=fin) (g:=g) (B:=B) (cb:=cb) (out:=p.out) (H:=pB g lv A cap fin toks B cb p.out++R) (w0:=w0) (MSub.pick .hd (.pick .hd (.pick .hd (.nil _)))) w hm;by_cases hs:(hdT fin p.l).kind=8∧(hdT fin p.l).num=2
 ·rw [if_pos hs] at hrun;obtain ⟨r1,hr1,hr2⟩:=bU hrun;rw [decide_eq_true hs] at hi;repeat' (first|apply ag (f:=378);exact rfl;exact rfl;exact hi|apply ak (f:=352);exact rfl;exact rfl;exact hat.skip hc hs.1 (by decide) (MSub.pick pK (MSub.pick pK (MSub.pick pK (MSub.refl _))));rintro _ _ ⟨rfl,lv1,h1,rfl⟩|refine bY (f:=349) rfl rfl (FnP.msub (ihS toks A cap fin g p.skip _ B cb r1 _ w0 hc hl (At1.at h1) hr1) (MSub.pick pK (MSub.pick pK (MSub.pick pK (MSub.refl _))))) ?_ ?_|rintro _ _ ⟨rfl,n,p',lv',B',cb',rfl,h2,rfl⟩|rintro _ _ ⟨e,rfl,rfl,h3⟩|apply ak (f:=353);exact rfl;exact rfl;exact FnIn.msub (mJ (eW 4 0) _ _ _ _ _ _ _ _ _ (At.len h2 hl) _ _) (MSub.pick pK (MSub.pick pK (MSub.pick pK (MSub.refl _))));rintro _ _ ⟨rfl,B2,cb2,rfl⟩|refine zZD ?_|refine sM fun _=>?_|refine sC ?_ ?_<;>intro hb<;>try omega|fail)
  ·rcases hr2 with ⟨e,h,_⟩|⟨n1,p1,h,h5⟩
   ·cases h
   ·cases h;cases h5;exact fT (p' :=p'.put (eW 4 0)) (.inl rfl) rfl rfl ((h1.grew h2 (lD _ _ _ _ _ _ hr1)).put _) (.refl _)
  ·rcases hr2 with ⟨e',h,h5⟩|⟨n1,p1,h,h5⟩
   ·cases h;exact dL h5 h3
   ·cases h
 ·rw [if_neg hs] at hrun;rw [decide_eq_false hs] at hi;obtain ⟨r1,hr1,hr2⟩:=bU hrun;repeat' (first|apply ag (f:=378) (d:=3);exact rfl;exact rfl;exact hi|refine bY (f:=379) rfl rfl (FnP.msub (ihP toks A cap fin g p _ B cb r1 _ w0 hc hl hat hr1) (MSub.pick pK (MSub.pick pK (MSub.pick pK (MSub.refl _))))) ?_ ?_|rintro _ _ ⟨rfl,n,p',lv',B',cb',rfl,h2,rfl⟩|rintro _ _ ⟨e,rfl,rfl,h3⟩|refine zZD ?_|refine sM fun _=>?_|refine sC ?_ ?_<;>intro hb<;>try omega|fail)
  ·rcases hr2 with ⟨e,h,_⟩|⟨n1,p1,h,h5⟩
   ·cases h
   cases h;have hi2:=fun w hm=>h2.is 5 (fin:=fin) (g:=g) (B:=B') (cb:=cb') (out:=p'.out) (H:=pB g lv' A cap fin toks B' cb' p'.out++R) (w0:=w0) (MSub.pick .hd (.pick .hd (.pick .hd (.nil _)))) w hm;by_cases hs5:(hdT fin p'.l).kind=8∧(hdT fin p'.l).num=5
   ·rw [if_pos hs5] at h5;rw [decide_eq_true hs5] at hi2;obtain ⟨r2,hr3,hr4⟩:=bU h5;repeat' (first|apply ag (f:=378) (d:=14);exact rfl;exact rfl;exact hi2|apply ak (f:=352);exact rfl;exact rfl;exact h2.skip hc hs5.1 (by decide) (MSub.pick pK (MSub.pick pK (MSub.pick pK (MSub.refl _))));rintro _ _ ⟨rfl,lv1,h1,rfl⟩|refine bY (f:=349) rfl rfl (FnP.msub (ihS toks A cap fin g p'.skip _ B' cb' r2 _ w0 hc hl (At1.at h1) hr3) (MSub.pick pK (MSub.pick pK (MSub.pick pK (MSub.refl _))))) ?_ ?_|rintro _ _ ⟨rfl,n2,p2,lv2,B2,cb2,rfl,h6,rfl⟩|rintro _ _ ⟨e,rfl,rfl,h3⟩|apply ak (f:=353);exact rfl;exact rfl;exact FnIn.msub (mJ (eW 6 5) _ _ _ _ _ _ _ _ _ (At.len h6 hl) _ _) (MSub.pick pK (MSub.pick pK (MSub.pick pK (MSub.refl _))));rintro _ _ ⟨rfl,B3,cb3,rfl⟩|refine zZD ?_|refine sM fun _=>?_|refine sC ?_ ?_<;>intro hb<;>try omega|fail)
    ·rcases hr4 with ⟨e,h,_⟩|⟨n3,p3,h,h7⟩
     ·cases h
     ·cases h;cases h7;exact fT (p' :=p2.put (eW 6 5)) (.inr rfl) rfl rfl ((h1.grew h6 (lD _ _ _ _ _ _ hr3)).put _) (.refl _)
    ·rcases hr4 with ⟨e',h,h7⟩|⟨n3,p3,h,h7⟩
     ·cases h;exact dL h7 h3
     ·cases h
   ·rw [if_neg hs5] at h5;rw [decide_eq_false hs5] at hi2;cases h5;repeat' (first|apply ag (f:=378) (d:=14);exact rfl;exact rfl;exact hi2|refine zZD ?_|refine sM fun _=>?_|refine sC ?_ ?_<;>intro hb<;>try omega|fail)
    exact fT (.inr rfl) rfl rfl h2 (.refl _)
  ·rcases hr2 with ⟨e',h,h5⟩|⟨n1,p1,h,h5⟩
   ·cases h;exact dL h5 h3
   ·cases h
theorem I2 (f:Nat) (ihP:POK f .prim 400 []):POK (f+1) .pct 379 []:=by
 intro toks A cap fin g p lv B cb r R w0 hc hl hat hrun;refine zp Tryz.func379 rfl Tryz.ntmps379 rfl ?_;rw [bK] at hrun;obtain ⟨r1,hr1,hr2⟩:=bU hrun;repeat' (first|refine bY (f:=400) rfl rfl (FnP.msub (ihP toks A cap fin g p _ B cb r1 _ w0 hc hl hat hr1) (MSub.pick pK (MSub.pick pK (MSub.pick pK (MSub.refl _))))) ?_ ?_|rintro _ _ ⟨rfl,n,p',lv',B',cb',rfl,h2,rfl⟩|rintro _ _ ⟨e,rfl,rfl,h3⟩|refine zZD ?_|refine sM fun _=>?_|refine sC ?_ ?_<;>intro hb<;>try omega|fail)
 ·rcases hr2 with ⟨e,h,_⟩|⟨n1,p1,h,h5⟩
  ·cases h
  cases h;refine ay [0] rfl (fun _:Nat × PS × Value × Option Nat × Nat=> []) (fun x=>pB g x.2.2.1 A cap fin toks x.2.2.2.1 x.2.2.2.2 x.2.1.out++R) (fun x=>At toks A cap x.2.1 x.2.2.1∧bK fin x.1 .pctl x.2.1=some r) (fun x=>x.1) (f,p',lv',B',cb') ⟨h2,h5⟩ sB (.refl _) ?_;rintro ⟨f',q,lq,Bq,cq⟩ ⟨hq1,hq2⟩;dsimp only at hq1 hq2 ⊢
  cases f' with
  |zero=>cases hq2
  |succ f' =>
   rw [bK] at hq2;have hi:=fun w hm=>hq1.is 13 (fin:=fin) (g:=g) (B:=Bq) (cb:=cq) (out:=q.out) (H:=pB g lq A cap fin toks Bq cq q.out++R) (w0:=w0) (MSub.pick .hd (.pick .hd (.pick .hd (.nil _)))) w hm;by_cases hs:(hdT fin q.l).kind=8∧(hdT fin q.l).num=13
   ·rw [if_pos hs] at hq2;rw [decide_eq_true hs] at hi;repeat' (first|apply ag (f:=378);exact rfl;exact rfl;exact hi|apply ak (f:=352);exact rfl;exact rfl;exact hq1.skip hc hs.1 (by decide) (MSub.pick pK (MSub.pick pK (MSub.pick pK (MSub.refl _))));rintro _ _ ⟨rfl,lv1,h1,rfl⟩|apply ak (f:=353);exact rfl;exact rfl;exact FnIn.msub (mJ (eW 5 0) _ _ _ _ _ _ _ _ _ (At.len hq1 hl) _ _) (MSub.pick pK (MSub.pick pK (MSub.pick pK (MSub.refl _))));rintro _ _ ⟨rfl,B2,cb2,rfl⟩|refine zZD ?_|refine sM fun _=>?_|refine sC ?_ ?_<;>intro hb<;>try omega|fail)
    refine ⟨(f',q.skip.put (eW 5 0),lv1,B2,cb2),⟨h1.put _,hq2⟩,XH _,sB,sB,.refl _⟩
   ·rw [if_neg hs] at hq2;rw [decide_eq_false hs] at hi;cases hq2;repeat' (first|apply ag (f:=378);exact rfl;exact rfl;exact hi|refine zZD ?_|refine sM fun _=>?_|refine sC ?_ ?_<;>intro hb<;>try omega|fail)
    exact fT (by first|exact .inr rfl|exact .inl rfl) rfl rfl hq1 (.refl _)
 ·rcases hr2 with ⟨e',h,h5⟩|⟨n1,p1,h,h5⟩
  ·cases h;exact dL h5 h3
  ·cases h
end
def w6 (g g2 g3:Nat) (k:Int) (R:List Blk):List Blk:= .box g2 335 [.pointer (some ⟨g,0,none⟩)]:: .box g3 3 [.int .i64 k]::R
theorem MD (f:Nat) (k:Int) (h1:1≤k) (h4:k≤3) (ih:POK f (.level (k+1)) 300 [.int .i64 (k+1)]) (toks:List Tk) (A:Option Nat) (cap:Nat) (fin:Int) (g:Nat) (p:PS) (lv:Value) (B:Option Nat) (cb:Nat) (r:Out) (R:List Blk) (w0:World) (g2 g3:Nat) (hc:toks.length≤cap) (hl:toks.length≤1000) (hat:At toks A cap p lv) (hr:bK fin f (.level (k+1)) p=some r):
 FnP Tryz.prog 350 [.pointer (some ⟨g2,0,none⟩),.pointer (some ⟨g3,0,none⟩)] w0 (pB g lv A cap fin toks B cb p.out++w6 g g2 g3 k R) (PR toks A cap fin g (w6 g g2 g3 k R) r) (PD (w6 g g2 g3 k R) r):=by
 refine zp Tryz.func350 rfl Tryz.ntmps350 rfl ?_;repeat' (first|refine bY (f:=300) rfl rfl (ih toks A cap fin g p lv B cb r _ w0 hc hl hat hr) ?_ ?_|rintro _ _ ⟨rfl,n,p',lv',B',cb',rfl,h2,rfl⟩|rintro _ _ ⟨e,rfl,rfl,h3⟩|refine sT ?_|refine sP ?_|refine sJ ?_|refine sM fun _=>?_|refine sC ?_ ?_<;>intro hb<;>try omega|exact cT|fail)
 ·exact fT (by first|exact .inr rfl|exact .inl rfl) rfl rfl h2 (.refl _)
 ·exact dL rfl h3
def SK (f:Nat) (k:Int) (toks:List Tk) (A:Option Nat) (cap:Nat) (fin:Int) (g g2 g3:Nat) (w0:World) (bv:Value):Prop:=
 ∃ (fid:FuncId) (bs caps:List Value),bv= .func (.func fid) bs.toArray caps.toArray∧Callable Tryz.prog fid∧ ∀ (f' :Nat) (p:PS) (lv:Value) (B:Option Nat) (cb:Nat) (r:Out) (R:List Blk),f' ≤f→At toks A cap p lv→bK fin f' (.level (k+1)) p=some r→
  FnP Tryz.prog fid (bs++([]++caps)) w0 (pB g lv A cap fin toks B cb p.out++w6 g g2 g3 k R) (PR toks A cap fin g (w6 g g2 g3 k R) r) (PD (w6 g g2 g3 k R) r)
theorem Pd (f:Nat) (k:Int) (h1:1≤k) (h4:k≤4) (ihL:k≤3→ ∀ f' ≤f,POK f' (.level (k+1)) 300 [.int .i64 (k+1)]) (ihS: ∀ f' ≤f,POK f' .sign 349 []):POK (f+1) (.level k) 300 [.int .i64 k]:=by
 intro toks A cap fin g p lv B cb r R w0 hc hl hat hrun;refine zp Tryz.func300 rfl Tryz.ntmps300 rfl ?_;rw [bK,if_neg (by omega)] at hrun;obtain ⟨r1,hr1,hr2⟩:=bU hrun;repeat' (first|apply ai;exact rfl;apply oK;exact rfl|rename_i g2 g3;refine J9 (id:=2) [2,3] rfl (ι:=Value) (fun bv=> [(4,bv)]) (fun bv=>SK f k toks A cap fin g g2 g3 w0 bv) ?_ ?_|refine dH (_) ?_ sB mS|refine zZD ?_|refine sM fun _=>?_|refine sC ?_ ?_<;>intro hb<;>try omega|exact cT|fail)
 ·exact ⟨_,[],_,rfl,inferInstance,fun f' p lv B cb r R hf' hat' hr' =>MD f' k h1 (by omega) (ihL (by omega) f' hf') toks A cap fin g p lv B cb r R w0 _ _ hc hl hat' hr'⟩
 ·have hk:k=4:=by omega
  subst hk;refine ⟨_,_,[],rfl,inferInstance,fun f' p lv B cb r R hf' hat' hr' => ?_⟩
  cases f' with
  |zero=>cases hr'
  |succ f'' =>
    rw [bK,if_pos (by decide)] at hr';exact ihS f'' (by omega) toks A cap fin g p lv B cb r _ w0 hc hl hat' hr'
 ·rintro bv ⟨fid,bs,caps,rfl,hcl,hbel⟩;repeat' (first|refine Bf (f:=fid) rfl rfl hcl rfl (FnP.msub (hbel f p lv B cb r1 _ (VA _) hat hr1) (MSub.pick pK (MSub.pick pK (MSub.pick pK (MSub.pick pK (MSub.pick pK (MSub.refl _))))))) ?_ ?_|rintro _ _ ⟨rfl,n,p',lv',B',cb',rfl,h2,rfl⟩|rintro _ _ ⟨e,rfl,rfl,h3⟩|refine zZD ?_|refine sM fun _=>?_|refine sC ?_ ?_<;>intro hb<;>try omega|exact cT|fail)
  ·rcases hr2 with ⟨e,h,_⟩|⟨n1,p1,h,h5⟩
   ·cases h
   cases h;refine ay [2,3,4] rfl (fun _:Nat × PS × Value × Option Nat × Nat=> []) (fun x=>pB g x.2.2.1 A cap fin toks x.2.2.2.1 x.2.2.2.2 x.2.1.out++w6 g g2 g3 k R) (fun x=>x.1≤f∧At toks A cap x.2.1 x.2.2.1∧bK fin x.1 (.loop k) x.2.1=some r) (fun x=>x.1) (f,p',lv',B',cb') ⟨VA _,h2,h5⟩ sB (.refl _) ?_;rintro ⟨f',q,lq,Bq,cq⟩ ⟨hf',hq1,hq2⟩;dsimp only at hf' hq1 hq2 ⊢
   cases f' with
   |zero=>cases hq2
   |succ f' =>
     rw [bK] at hq2;have hh:=fun w hm=>hq1.head (fin:=fin) (g:=g) (B:=Bq) (cb:=cq) (out:=q.out) (H:=pB g lq A cap fin toks Bq cq q.out++w6 g g2 g3 k R) (w0:=w0) (MSub.pick .hd (.pick .hd (.pick .hd (.nil _)))) w hm;obtain ⟨t,ht⟩: ∃ t,hdT fin q.l=t:=⟨_,rfl⟩;rw [ht] at hq2 hh;by_cases hs:t.kind=8∧jh t.num=k
     ·rw [if_pos hs] at hq2;obtain ⟨hs8,hsk⟩:=hs;obtain ⟨r2,hr3,hr4⟩:=bU hq2;repeat' (first|apply ag (f:=228);exact rfl;exact rfl;exact hh|apply ag (f:=351);exact rfl;exact rfl;intro w' _;exact BP _ w'|apply ak (f:=352);exact rfl;exact rfl;exact hq1.skip hc (ht ▸ hs8) (by decide) (MSub.pick pK (MSub.pick pK (MSub.pick pK (MSub.refl _))));rintro _ _ ⟨rfl,lv1,h1',rfl⟩|refine Bf (f:=fid) rfl rfl hcl rfl (FnP.msub (hbel f' q.skip lv1 Bq cq r2 _ (by omega) (At1.at h1') hr3) (MSub.pick pK (MSub.pick pK (MSub.pick pK (MSub.pick pK (MSub.pick pK (MSub.refl _))))))) ?_ ?_|rintro _ _ ⟨rfl,n2,p2,lv2,B2,cb2,rfl,h6,rfl⟩|rintro _ _ ⟨e,rfl,rfl,h3⟩|apply ak (f:=353);exact rfl;exact rfl;exact FnIn.msub (mJ (eW 6 t.num) _ _ _ _ _ _ _ _ _ (At.len h6 hl) _ _) (MSub.pick pK (MSub.pick pK (MSub.pick pK (MSub.refl _))));rintro _ _ ⟨rfl,B3,cb3,rfl⟩|refine zZD ?_|refine sM fun _=>?_|refine sC ?_ ?_<;>intro hb<;>try omega|exact cT|fail)
      ·rcases hr4 with ⟨e,h,_⟩|⟨n3,p3,h,h7⟩
       ·cases h
       ·cases h;refine ⟨(f',p2.put (eW 6 t.num),lv2,B3,cb3),⟨by omega,(h1'.grew h6 (lD _ _ _ _ _ _ hr3)).put _,h7⟩,XH _,sB,sB,?_⟩;dsimp only [w6,List.cons_append,List.nil_append,pB];exact mS
      ·rcases hr4 with ⟨e',h,h7⟩|⟨n3,p3,h,h7⟩
       ·cases h;exact dL h7 (MSub.trans (by unfold w6;exact .drop (.tl (.tl .hd)) (.drop .hd (.drop .hd (.refl _)))) h3)
       ·cases h
     ·rw [if_neg hs] at hq2;cases hq2;repeat' (first|apply ag (f:=228);exact rfl;exact rfl;exact hh|apply ag (f:=351);exact rfl;exact rfl;intro w' _;exact BP _ w'|refine zZD ?_|refine sM fun _=>?_|refine sC ?_ ?_<;>intro hb<;>try omega|exact cT|fail)
      all_goals first
       |omega
       | (refine fT (B' := Bq) (cb' := cq) (by first | exact .inr rfl | exact .inl rfl) rfl rfl hq1 ?_
          dsimp only [w6,List.cons_append,List.nil_append,pB];exact mS)
  ·rcases hr2 with ⟨e',h,h5⟩|⟨n1,p1,h,h5⟩
   ·cases h;exact dL h5 (MSub.trans (by unfold w6;exact .drop .hd (.drop .hd (.refl _))) h3)
   ·cases h
def SF (F:Int→PS→Option Out) (fid:FuncId) (args:List Value):Prop:=
 ∀ (toks:List Tk) (A:Option Nat) (cap:Nat) (fin:Int) (g:Nat) (p:PS) (lv:Value) (B:Option Nat) (cb:Nat) (r:Out) (R:List Blk) (w0:World),toks.length≤cap→toks.length≤1000→At toks A cap p lv→F fin p=some r→
  FnP Tryz.prog fid (.pointer (some ⟨g,0,none⟩)::args) w0 (pB g lv A cap fin toks B cb p.out++R) (PR toks A cap fin g R r) (PD R r)
def J4 (c:Int) (fin:Int) (p:PS):Option Out:=if (hdT fin p.l).kind≠c then some (.error ((hdT fin p.l).at_,4)) else some (.ok (0,p.skip))
theorem CY (c:Int) (h0:c≠0):SF (J4 c) 413 [.int .u8 c]:=by
 intro toks A cap fin g p lv B cb r R w0 hc hl hat hrun;refine zp Tryz.func413 rfl Tryz.ntmps413 rfl ?_;have hh:=fun w hm=>hat.head (fin:=fin) (g:=g) (B:=B) (cb:=cb) (out:=p.out) (H:=pB g lv A cap fin toks B cb p.out++R) (w0:=w0) (MSub.pick .hd (.pick .hd (.pick .hd (.nil _)))) w hm;unfold J4 at hrun;obtain ⟨t,ht⟩: ∃ t,hdT fin p.l=t:=⟨_,rfl⟩;rw [ht] at hrun hh;by_cases hk:t.kind≠c
 ·rw [if_pos hk] at hrun;cases hrun;repeat' (first|apply ag (f:=228);exact rfl;exact rfl;exact hh|refine bY (f:=229) rfl rfl (kC _ _ _ _ _ (fun _ _=>False)) ?_ ?_|exact fun _ _ h=>h.elim|rintro _ _ ⟨rfl,rfl⟩|refine zZD ?_|refine sM fun _=>?_|refine sC ?_ ?_<;>intro hb<;>try omega|fail)
  all_goals first
   |omega
   | (refine dL rfl ?_
      dsimp only [List.cons_append,List.nil_append,pB];exact mS)
 ·rw [if_neg hk] at hrun;cases hrun;repeat' (first|apply ag (f:=228);exact rfl;exact rfl;exact hh|apply ak (f:=352);exact rfl;exact rfl;exact hat.skip hc (c:=c) (by rw [ht];omega) h0 (MSub.pick pK (MSub.pick pK (MSub.pick pK (MSub.refl _))));rintro _ _ ⟨rfl,lv1,h1,rfl⟩|refine zZD ?_|refine sM fun _=>?_|refine sC ?_ ?_<;>intro hb<;>try omega|fail)
  all_goals first
   |omega
   | (refine fT (B' := B) (cb' := cb) (by first | exact .inr rfl | exact .inl rfl) rfl rfl (At1.at h1) ?_
      dsimp only [List.cons_append,List.nil_append,pB];exact mS)
theorem tu (v:Vl):SF (fun fin p=>if (hdT fin p.l).kind=0 then none else some (.ok (0,p.skip.put ⟨1,v,aZ,0,0,0⟩))) 412 [.agg (eZ v).toArray]:=by
 intro toks A cap fin g p lv B cb r R w0 hc hl hat hrun;refine zp Tryz.func412 rfl Tryz.ntmps412 rfl ?_;dsimp only at hrun;by_cases hk:(hdT fin p.l).kind=0
 ·rw [if_pos hk] at hrun;cases hrun
 rw [if_neg hk] at hrun;cases hrun;repeat' (first|apply ak (f:=352);exact rfl;exact rfl;exact hat.skip hc rfl hk (MSub.pick pK (MSub.pick pK (MSub.pick pK (MSub.refl _))));rintro _ _ ⟨rfl,lv1,h1,rfl⟩|apply ak (f:=353);exact rfl;exact rfl;exact FnIn.msub (mJ ⟨1,v,aZ,0,0,0⟩ _ _ _ _ _ _ _ _ _ (At.len hat hl) _ _) (MSub.pick pK (MSub.pick pK (MSub.pick pK (MSub.refl _))));rintro _ _ ⟨rfl,B3,cb3,rfl⟩|refine zZD ?_|refine sM fun _=>?_|refine sC ?_ ?_<;>intro hb<;>try omega|fail)
 all_goals
  refine fT (p' :=p.skip.put ⟨1,v,aZ,0,0,0⟩) (B' :=B3) (cb' :=cb3) (by first|exact .inr rfl|exact .inl rfl) rfl rfl (h1.put _) ?_;dsimp only [List.cons_append,List.nil_append,pB];exact mS
theorem Jr (f:Nat) (ih:POK f (.level 1) 300 [.int .i64 1]):POK f (.level 1) 227 []:=by
 intro toks A cap fin g p lv B cb r R w0 hc hl hat hrun;refine zp Tryz.func227 rfl Tryz.ntmps227 rfl ?_;repeat' (first|refine bY (f:=300) rfl rfl (FnP.msub (ih toks A cap fin g p _ B cb r _ w0 hc hl hat hrun) (MSub.pick pK (MSub.pick pK (MSub.pick pK (MSub.refl _))))) ?_ ?_|rintro _ _ ⟨rfl,n,p',lv',B',cb',rfl,h2,rfl⟩|rintro _ _ ⟨e,rfl,rfl,h3⟩|refine zZD ?_|refine sM fun _=>?_|refine sC ?_ ?_<;>intro hb<;>try omega|fail)
 ·exact fT (by first|exact .inr rfl|exact .inl rfl) rfl rfl h2 (.refl _)
 ·exact dL rfl h3
def El (f:Nat) (fn:Int) (n:Nat) (fin:Int) (p:PS):Option Out:=
 if (hdT fin p.l).kind≠6 then iB (bK fin f (.level 1) p) fun _ p=>some (.ok (0,p))
 else if (lN fn n).1=false∨(lN fn n).2≠0 then some (.error ((hdT fin p.l).at_,4))
 else some (.ok (0,p.skip.put ⟨3,bX,(hdT fin p.l).rect,0,0,0⟩))
theorem Ff {o:Option Out} {k k' :Nat→PS→Option Out}:iB (iB o k) k' =iB o fun n p=>iB (k n p) k' :=by
 match o with
 |none=>rfl
 |some (.ok (n,p))=>rfl
 |some (.error e)=>rfl
theorem Ek (fin:Int) (f:Nat) (fn:Int) (n:Nat) (p:PS):bK fin (f+1) (.args fn n) p=iB (El f fn n fin p) fun _ p=>if (hdT fin p.l).kind=11 then bK fin f (.args fn (n+1)) p.skip else some (.ok (n+1,p)):=by
 rw [bK];unfold El;split
 ·rw [Ff];rfl
 ·split<;>rfl
theorem Hy (f:Nat) (fn:Int) (n:Nat) (ih:POK f (.level 1) 227 []):SF (El f fn n) 425 [.int .u8 fn,.int .i64 n]:=by
 intro toks A cap fin g p lv B cb r R w0 hc hl hat hrun;refine zp Tryz.func425 rfl Tryz.ntmps425 rfl ?_;have hh:=fun w hm=>hat.head (fin:=fin) (g:=g) (B:=B) (cb:=cb) (out:=p.out) (H:=pB g lv A cap fin toks B cb p.out++R) (w0:=w0) (MSub.pick .hd (.pick .hd (.pick .hd (.nil _)))) w hm;unfold El at hrun;obtain ⟨t,ht⟩: ∃ t,hdT fin p.l=t:=⟨_,rfl⟩;rw [ht] at hrun hh;by_cases hk:t.kind≠6
 ·rw [if_pos hk] at hrun;obtain ⟨r1,hr1,hr2⟩:=bU hrun;repeat' (first|apply ag (f:=228);exact rfl;exact rfl;exact hh|refine bY (f:=227) rfl rfl (FnP.msub (ih toks A cap fin g p _ B cb r1 _ w0 hc hl hat hr1) (MSub.pick pK (MSub.pick pK (MSub.pick pK (MSub.refl _))))) ?_ ?_|rintro _ _ ⟨rfl,n,p',lv',B',cb',rfl,h2,rfl⟩|rintro _ _ ⟨e,rfl,rfl,h3⟩|refine zZD ?_|refine sM fun _=>?_|refine sC ?_ ?_<;>intro hb<;>try omega|fail)
  ·rcases hr2 with ⟨e,h,_⟩|⟨n1,p1,h,h5⟩
   ·cases h
   ·cases h;cases h5;refine fT (B' :=B') (cb' :=cb') (by first|exact .inr rfl|exact .inl rfl) rfl rfl h2 ?_;simp only [Vz,Vp,Vq,pB];exact mS
  ·rcases hr2 with ⟨e',h,h5⟩|⟨n1,p1,h,h5⟩
   ·cases h;exact dL h5 (MSub.trans (.drop .hd (.refl _)) h3)
   ·cases h
 ·rw [if_neg hk] at hrun;have hw:=fun w=>J2 fn n w;obtain ⟨wb,we,hwe⟩: ∃ wb we,lN fn n=(wb,we):=⟨_,_,rfl⟩;rw [hwe] at hrun hw;by_cases hwk:wb=false∨we≠0
  ·rw [if_pos hwk] at hrun;cases hrun;repeat' (first|apply ag (f:=228);exact rfl;exact rfl;exact hh|apply ag (f:=381);exact rfl;exact rfl;intro w' _;exact hw w'|refine bY (f:=229) rfl rfl (kC _ _ _ _ _ (fun _ _=>False)) ?_ ?_|exact fun _ _ h=>h.elim|rintro _ _ ⟨rfl,rfl⟩|refine zZD ?_|refine sM fun _=>?_|refine sC ?_ ?_<;>intro hb<;>try omega|fail)
   all_goals first
    |exfalso;simp_all<;>omega
    |omega
    | (refine dL rfl ?_
       simp only [Vz,Vp,Vq,pB];exact mS)
  ·rw [if_neg hwk] at hrun;cases hrun;repeat' (first|apply ag (f:=228);exact rfl;exact rfl;exact hh|apply ag (f:=381);exact rfl;exact rfl;intro w' _;exact hw w'|apply ak (f:=352);exact rfl;exact rfl;exact hat.skip hc (c:=6) (by rw [ht];omega) (by decide) (MSub.pick pK (MSub.pick pK (MSub.pick pK (MSub.refl _))));rintro _ _ ⟨rfl,lv1,h1,rfl⟩|apply ak (f:=353);exact rfl;exact rfl;exact FnIn.msub (mJ ⟨3,bX,t.rect,0,0,0⟩ _ _ _ _ _ _ _ _ _ (At.len hat hl) _ _) (MSub.pick pK (MSub.pick pK (MSub.pick pK (MSub.refl _))));rintro _ _ ⟨rfl,B3,cb3,rfl⟩|refine zZD ?_|refine sM fun _=>?_|refine sC ?_ ?_<;>intro hb<;>try omega|fail)
   all_goals first
    |exfalso;simp_all<;>omega
    |omega
    | (refine fT (p' := p.skip.put ⟨3, bX, t.rect, 0, 0, 0⟩) (B' := B3) (cb' := cb3) (by first | exact .inr rfl | exact .inl rfl) rfl rfl (h1.put _) ?_
       simp only [Vz,Vp,Vq,pB];exact mS)
instance iN7:FldT Tryz.prog 339 0 5 0:=⟨_,_,Tryz.underlying339,rfl,rfl,rfl⟩
theorem vT {f:Nat} {fn:Int} {n:Nat} {fin:Int} {p p' :PS} {m:Nat} (h:El f fn n fin p=some (.ok (m,p'))):p.out.length<p'.out.length:=by
 unfold El at h;split at h
 ·obtain ⟨m',q,h1,h2⟩:=db h;cases h2;exact (lD _ _ _ _ _ _ h1).some trivial
 ·split at h
  ·cases h
  ·cases h;simp [PS.put,PS.skip]
theorem zy {fin:Int} {name:Tk} {fn:Int} {n:Nat} {p:PS} {x:Nd} (hx:p.out[p.out.length - 1]? =some x):dX fin name fn n p=
 if (hdT fin p.l).kind≠10 then some (.error ((hdT fin p.l).at_,4))
 else if (n:Int)<(fO fn).1∨(fO fn).2.1<(n:Int) then some (.error (name.at_,11))
 else if 46≤fn∧x.kind≠2∧x.kind≠3 then some (.error (name.at_,4))
 else some (.ok (0,p.skip.put ⟨7,bX,aZ,0,fn,n⟩)):=by
 have hx' :p.out.getLast? =some x:=by rw [XG];exact hx
 unfold dX;simp only [hx',Wq,Option.some.injEq,decide_eq_true_eq,ne_eq,not_or]
theorem CG {fn:Int} (h1:1≤fn) (h2:fn≤50):1≤(fO fn).1:=by
 unfold fO;repeat' split
 all_goals first
  |decide
  |rename_i h;simp [dF,h1,h2] at h
theorem At.head' {toks:List Tk} {A:Option Nat} {cap:Nat} {fin:Int} {g:Nat} {p:PS} {lv:Value} (h:At toks A cap p lv) {u:Tk} (hu:hdT fin p.l=u) {B:Option Nat} {cb:Nat} {out:List Nd} {H:List Blk} {w0:World} (hH:MSub (pB g lv A cap fin toks B cb out) H) (w:World) (hm:Mem w0 w H):
 aF Tryz.prog 228 [.pointer (some ⟨g,0,none⟩)] w (.agg (bw u).toArray):=hu ▸ At.head h hH w hm
open Classical in
noncomputable def Ei (f:Nat) (t:Tk) (zP:Nat→Tk→Int→PS→Option Out) (fin:Int) (p:PS):Option Out:=if hdT fin p.l=t∧t.kind=7 then zP f t fin p else none
def zP (f:Nat) (t:Tk) (fin:Int) (p:PS):Option Out:=
 if (bo t.text).2≠0 then some (.error (t.at_,10))
 else
  let u:=hdT fin p.skip.l
  if u.kind≠9 then some (.error (u.at_,4))
  else if (hdT fin p.skip.skip.l).kind=10 then dX fin t (bo t.text).1 0 p.skip.skip
  else iB (bK fin f (.args (bo t.text).1 0) p.skip.skip) fun n p=>dX fin t (bo t.text).1 n p
theorem Ss (f:Nat) (t:Tk) (ih: ∀ f' ≤f,POK f' (.level 1) 227 []):SF (Ei f t zP) 414 [.agg (bw t).toArray]:=by
 intro toks A cap fin g p lv B cb r R w0 hc hl hat hrun;refine zp Tryz.func414 rfl Tryz.ntmps414 rfl ?_;unfold Ei at hrun;by_cases ht: ¬ (hdT fin p.l=t∧t.kind=7)
 ·rw [if_neg ht] at hrun;cases hrun
 have ht:=Classical.not_not.1 ht;rw [if_pos ht] at hrun;obtain ⟨ht,ht7⟩:=ht;have hF:=fun w=>HG t.text w;unfold zP at hrun;obtain ⟨fn,fe,hfe⟩: ∃ fn fe,bo t.text=(fn,fe):=⟨_,_,rfl⟩;have hfn:fe=0→1≤fn∧fn≤50:=by
  intro h;subst h;have hb1:=kn d9 t.text 0 (by omega);rw [kf] at hb1;unfold bo at hfe;split at hfe<;>cases hfe;omega
 rw [hfe] at hrun hF;dsimp only at hF;by_cases h0:fe≠0
 ·rw [if_pos h0] at hrun;cases hrun;repeat' (first|apply ag (f:=424);exact rfl;exact rfl;intro w' _;exact hF w'|refine bY (f:=229) rfl rfl (kC _ _ _ _ _ (fun _ _=>False)) ?_ ?_|exact fun _ _ h=>h.elim|rintro _ _ ⟨rfl,rfl⟩|refine zZD ?_|refine sM fun _=>?_|refine sC ?_ ?_<;>intro hb<;>try omega|exact cT|fail)
  all_goals first
   |omega
   | (refine dL rfl ?_
      simp only [Vz,Vp,Vq,pB];exact mS)
 rw [if_neg h0] at hrun;dsimp only at hrun;obtain ⟨hfn1,hfn2⟩:=hfn (by omega);by_cases hw9:(hdT fin p.skip.l).kind≠9
 ·rw [if_pos hw9] at hrun;cases hrun;repeat' (first|apply ag (f:=424);exact rfl;exact rfl;intro w' _;exact hF w'|apply ak (f:=352);exact rfl;exact rfl;exact hat.skip hc (c:=7) (by rw [ht];exact ht7) (by decide) (MSub.pick pK (MSub.pick pK (MSub.pick pK (MSub.refl _))));rintro _ _ ⟨rfl,lv1,h1,rfl⟩|refine bY (f:=413) rfl rfl (FnP.msub (CY 9 (by decide) toks A cap fin g p.skip lv1 B cb _ _ w0 hc hl (At1.at h1) (by unfold J4;rw [if_pos hw9])) (MSub.pick pK (MSub.pick pK (MSub.pick pK (MSub.refl _))))) ?_ ?_|(rintro _ _ ⟨rfl,n,p',lv',B',cb',h,h2,rfl⟩;cases h)|(rintro _ _ ⟨e,h,rfl,h3⟩;cases h)|refine zZD ?_|refine sM fun _=>?_|refine sC ?_ ?_<;>intro hb<;>try omega|exact cT|fail)
  all_goals first
   |omega
   | (refine dL rfl (MSub.trans ?_ h3)
      simp only [Vz,Vp,Vq,pB];exact mS)
 rw [if_neg hw9] at hrun;repeat' (first|apply ag (f:=424);exact rfl;exact rfl;intro w' _;exact hF w'|apply ak (f:=352);exact rfl;exact rfl;exact hat.skip hc (c:=7) (by rw [ht];exact ht7) (by decide) (MSub.pick pK (MSub.pick pK (MSub.pick pK (MSub.refl _))));rintro _ _ ⟨rfl,lv1,h1,rfl⟩|refine bY (f:=413) rfl rfl (FnP.msub (CY 9 (by decide) toks A cap fin g p.skip lv1 B cb _ _ w0 hc hl (At1.at h1) (by unfold J4;rw [if_neg hw9])) (MSub.pick pK (MSub.pick pK (MSub.pick pK (MSub.refl _))))) ?_ ?_|(rintro _ _ ⟨rfl,n,p',lv',B',cb',h,h2,rfl⟩;cases h)|(rintro _ _ ⟨e,h,rfl,h3⟩;cases h)|rename_i g3;refine J8 (id:=7) (ι:=Nat × PS × Value × Option Nat × Nat) [0,3,4] rfl (fun x=> [(6,.int .i64 (x.1:Int))]) (fun x=> .box g3 339 (bw t)::(pB g x.2.2.1 A cap fin toks x.2.2.2.1 x.2.2.2.2 x.2.1.out++R)) (fun x=>x.1≤x.2.1.out.length∧At toks A cap x.2.1 x.2.2.1∧dX fin t fn x.1 x.2.1=some r) ?_ ?_|refine zZD ?_|refine sM fun _=>?_|refine sC ?_ ?_<;>intro hb<;>try omega|exact cT|fail)
 ·obtain ⟨u,hu⟩: ∃ u,hdT fin p.skip.skip.l=u:=⟨_,rfl⟩;rw [hu] at hrun;by_cases h10:u.kind=10
  ·rw [if_pos h10] at hrun;repeat' (first|apply ai;exact rfl;apply eu;exact rfl;exact rfl|apply ag (f:=228);exact rfl;exact rfl;intro w' hm';exact At.head' (B:=B') (cb:=cb') (out:=p.skip.skip.out) (g:=g) (fin:=fin) h2 hu (MSub.pick pK (MSub.pick pK (MSub.pick pK (MSub.nil _)))) w' hm'|refine dH ((0,p.skip.skip,lv',B',cb')) ?_ sB mS|refine zZD ?_|refine sM fun _=>?_|refine sC ?_ ?_<;>intro hb<;>try omega|exact cT|fail)
   all_goals first|omega|exact ⟨Vt _,h2,hrun⟩
  ·rw [if_neg h10] at hrun;obtain ⟨r1,hr1,hr2⟩:=bU hrun;repeat' (first|apply ai;exact rfl;apply eu;exact rfl;exact rfl|apply ag (f:=228);exact rfl;exact rfl;intro w' hm';exact At.head' (B:=B') (cb:=cb') (out:=p.skip.skip.out) (g:=g) (fin:=fin) h2 hu (MSub.pick pK (MSub.pick pK (MSub.pick pK (MSub.nil _)))) w' hm'|refine zZD ?_|refine sM fun _=>?_|refine sC ?_ ?_<;>intro hb<;>try omega|exact cT|fail)
   all_goals first
    |omega
    |skip
   refine ay [0,3,4] rfl (fun x:Nat × Nat × PS × Value × Option Nat × Nat=> [(6,.int .i64 (x.2.1:Int))]) (fun x=> .box g3 339 (bw t)::(pB g x.2.2.2.1 A cap fin toks x.2.2.2.2.1 x.2.2.2.2.2 x.2.2.1.out++R)) (fun x=>x.1≤f∧x.2.1≤x.2.2.1.out.length∧At toks A cap x.2.2.1 x.2.2.2.1∧bK fin x.1 (.args fn x.2.1) x.2.2.1=some r1) (fun x=>x.1) (f,0,p.skip.skip,lv',B',cb') ⟨VA _,Vt _,h2,hr1⟩ sB ?_ ?_
   ·simp only [Vz,Vp,Vq,pB];exact mS
   rintro ⟨f',n',q,lq,Bq,cq⟩ ⟨hf',hn',hq1,hq2⟩;dsimp only at hf' hn' hq1 hq2 ⊢
   cases f' with
   |zero=>cases hq2
   |succ f' =>
     rw [Ek] at hq2;have hn6:n' ≤1000000:=VR hn' (At.len hq1 hl);obtain ⟨r2,hr3,hr4⟩:=bU hq2;repeat' (first|refine bY (f:=425) rfl rfl (FnP.msub (Hy f' fn n' (ih f' (by omega)) toks A cap fin g q lq Bq cq r2 _ w0 hc hl hq1 hr3) (MSub.pick pK (MSub.pick pK (MSub.pick pK (MSub.refl _))))) ?_ ?_|rintro _ _ ⟨rfl,n2,q2,lv2,B2,cb2,rfl,h6,rfl⟩;obtain ⟨u2,hu2⟩: ∃ u,hdT fin q2.l=u:=⟨_,rfl⟩|rintro _ _ ⟨e,rfl,rfl,h3⟩|apply ai;exact rfl;apply eu;exact rfl;exact rfl|apply ag (f:=228);exact rfl;exact rfl;intro w' hm';exact At.head' (B:=B2) (cb:=cb2) (out:=q2.out) (g:=g) (fin:=fin) h6 hu2 (MSub.pick pK (MSub.pick pK (MSub.pick pK (MSub.nil _)))) w' hm'|apply ak (f:=352);exact rfl;exact rfl;exact h6.skip hc (c:=11) (by rw [hu2];omega) (by decide) (MSub.pick pK (MSub.pick pK (MSub.pick pK (MSub.refl _))));rintro _ _ ⟨rfl,lv3,h7,rfl⟩|refine dH ((n' +1,q2,lv2,B2,cb2)) ?_ sB mS|refine sT ?_|refine sP ?_|refine sN ?_|refine sM fun _=>?_|refine sC ?_ ?_<;>intro hb<;>try omega|exact cT|fail)
     ·rcases hr4 with ⟨e,h,_⟩|⟨n3,p3,h,h7⟩
      ·cases h
      ·cases h;rw [hu2,if_neg (by omega)] at h7;rcases hr2 with ⟨e,h,_⟩|⟨n4,p4,h,h8⟩
       ·rw [h] at h7;cases h7
       ·rw [h] at h7;cases h7;have:=vT hr3;exact ⟨by dsimp only;omega,h6,h8⟩
     ·rcases hr4 with ⟨e,h,_⟩|⟨n3,p3,h,h7'⟩
      ·cases h
      ·cases h;rw [hu2,if_pos (by omega)] at h7';have:=vT hr3;refine ⟨(f',n' +1,q2.skip,lv3,B2,cb2),⟨by dsimp only;omega,by dsimp only [PS.skip];omega,At1.at h7,h7'⟩,Nat.lt_succ_self _,sB,sB,?_⟩;simp only [Vz,Vp,Vq,pB];exact mS
     ·rcases hr4 with ⟨e',h,h7⟩|⟨n3,p3,h,h7⟩
      ·cases h;rcases hr2 with ⟨e4,h,h8⟩|⟨n4,p4,h,h8⟩
       ·rw [h] at h7;cases h7;exact dL h8 (MSub.trans (.drop .hd (.refl _)) h3)
       ·rw [h] at h7;cases h7
      ·cases h
 ·rintro ⟨n,q,lq,Bq,cq⟩ ⟨hn',hq1,hq2⟩;dsimp only at hn' hq1 hq2 ⊢;obtain ⟨u,hu⟩: ∃ u,hdT fin q.l=u:=⟨_,rfl⟩;have hap:=CG hfn1 hfn2;have hA:=fun w=>zR fn w;obtain ⟨least,most,ae,hae⟩: ∃ a b c,fO fn=(a,b,c):=⟨_,_,_,rfl⟩;rw [hae] at hA hap;dsimp only at hA hap;by_cases h10:u.kind≠10
  ·simp only [dX,hu,if_pos h10] at hq2;cases hq2;repeat' (first|apply ai;exact rfl;apply eu;exact rfl;exact rfl|apply ag (f:=228);exact rfl;exact rfl;intro w' hm';exact At.head' (B:=Bq) (cb:=cq) (out:=q.out) (g:=g) (fin:=fin) hq1 hu (MSub.pick pK (MSub.pick pK (MSub.pick pK (MSub.nil _)))) w' hm'|refine bY (f:=229) rfl rfl (kC _ _ _ _ _ (fun _ _=>False)) ?_ ?_|exact fun _ _ h=>h.elim|rintro _ _ ⟨rfl,rfl⟩|refine zZD ?_|refine sM fun _=>?_|refine sC ?_ ?_<;>intro hb<;>try omega|exact cT|fail)
   all_goals first
    |omega
    | (refine dL rfl ?_
       simp only [Vz,Vp,Vq,pB];exact mS)
  by_cases hlm:(n:Int)<least∨most<(n:Int)
  ·simp only [dX,hu,if_neg h10,hae,if_pos hlm] at hq2;cases hq2;repeat' (first|apply ai;exact rfl;apply eu;exact rfl;exact rfl|apply ag (f:=228);exact rfl;exact rfl;intro w' hm';exact At.head' (B:=Bq) (cb:=cq) (out:=q.out) (g:=g) (fin:=fin) hq1 hu (MSub.pick pK (MSub.pick pK (MSub.pick pK (MSub.nil _)))) w' hm'|apply ag (f:=380);exact rfl;exact rfl;intro w' _;exact hA w'|refine bY (f:=229) rfl rfl (kC _ _ _ _ _ (fun _ _=>False)) ?_ ?_|exact fun _ _ h=>h.elim|rintro _ _ ⟨rfl,rfl⟩|refine zZD ?_|refine sM fun _=>?_|refine sC ?_ ?_<;>intro hb<;>try omega|exact cT|fail)
   all_goals first
    |omega
    | (refine dL rfl ?_
       simp only [Vz,Vp,Vq,pB];exact mS)
  have hpos:0<q.out.length:=by omega
  have hol:q.out.length≤1000000:=At.len hq1 hl;obtain ⟨x,hx⟩: ∃ x,q.out[q.out.length - 1]? =some x:=⟨_,Vo (by omega)⟩;rw [zy hx,hu,hae,if_neg h10] at hq2;dsimp only at hq2;rw [if_neg hlm] at hq2;refine ba (A:=Bq) (by simp only [Vz,Vp,Vq,pB];exact pK) hpos fun gb hB=> ?_;subst hB;by_cases hkx:46≤fn∧x.kind≠2∧x.kind≠3
  ·rw [if_pos hkx] at hq2;cases hq2;repeat' (first|apply ai;exact rfl;apply eu;exact rfl;exact rfl|apply ag (f:=228);exact rfl;exact rfl;intro w' hm';exact At.head' (B:=some gb) (cb:=cq) (out:=q.out) (g:=g) (fin:=fin) hq1 hu (MSub.pick pK (MSub.pick pK (MSub.pick pK (MSub.nil _)))) w' hm'|apply ag (f:=380);exact rfl;exact rfl;intro w' _;exact hA w'|apply aY;exact rfl;apply fE;exact rfl;exact rfl;exact hpos;simp only [maxLen];omega|apply aY;exact rfl;apply aa;exact rfl;exact rfl;omega|apply aY;exact rfl;apply mB (k:=0);exact cR;exact rfl;exact pK;decide;exact hx;exact rfl|refine bY (f:=229) rfl rfl (kC _ _ _ _ _ (fun _ _=>False)) ?_ ?_|exact fun _ _ h=>h.elim|rintro _ _ ⟨rfl,rfl⟩|refine sT ?_|refine sP ?_|refine sQ ?_|refine sN ?_|refine sNQ ?_|refine sD ?_|refine sM fun _=>?_|refine sC ?_ ?_<;>intro hb<;>try omega|refine sCQ ?_ ?_<;>intro hb<;>try omega|exact cT|fail)
   all_goals first
    |omega
    | (refine dL rfl ?_
       simp only [Vz,Vp,Vq,pB];exact mS)
  ·rw [if_neg hkx] at hq2;cases hq2;repeat' (first|apply ai;exact rfl;apply eu;exact rfl;exact rfl|apply ag (f:=228);exact rfl;exact rfl;intro w' hm';exact At.head' (B:=some gb) (cb:=cq) (out:=q.out) (g:=g) (fin:=fin) hq1 hu (MSub.pick pK (MSub.pick pK (MSub.pick pK (MSub.nil _)))) w' hm'|apply ag (f:=380);exact rfl;exact rfl;intro w' _;exact hA w'|apply aY;exact rfl;apply fE;exact rfl;exact rfl;exact hpos;simp only [maxLen];omega|apply aY;exact rfl;apply aa;exact rfl;exact rfl;omega|apply aY;exact rfl;apply mB (k:=0);exact cR;exact rfl;exact pK;decide;exact hx;exact rfl|apply ak (f:=352);exact rfl;exact rfl;exact hq1.skip hc (c:=10) (by rw [hu];omega) (by decide) (MSub.pick pK (MSub.pick pK (MSub.pick pK (MSub.refl _))));rintro _ _ ⟨rfl,lv1,h1',rfl⟩|apply ak (f:=353);exact rfl;exact rfl;exact FnIn.msub (mJ ⟨7,bX,aZ,0,fn,n⟩ _ _ _ _ _ _ _ _ _ (At.len hq1 hl) _ _) (MSub.pick pK (MSub.pick pK (MSub.pick pK (MSub.refl _))));rintro _ _ ⟨rfl,B3,cb3,rfl⟩|refine sT ?_|refine sP ?_|refine sQ ?_|refine sN ?_|refine sNQ ?_|refine sD ?_|refine sM fun _=>?_|refine sC ?_ ?_<;>intro hb<;>try omega|refine sCQ ?_ ?_<;>intro hb<;>try omega|exact cT|fail)
   all_goals first
    |omega
    | (refine fT (p' := q.skip.put ⟨7, bX, aZ, 0, fn, n⟩) (B' := B3) (cb' := cb3) (by first | exact .inr rfl | exact .inl rfl) rfl rfl (h1'.put _) ?_
       simp only [Vz,Vp,Vq,pB];exact mS)
attribute [local irreducible] RW WC ceP
instance fldTk1:FldT Tryz.prog 339 1 2 1:=⟨_,_,Tryz.underlying339,rfl,rfl,rfl⟩
instance fldTk4:FldT Tryz.prog 339 4 3 7:=⟨_,_,Tryz.underlying339,rfl,rfl,rfl⟩
def rC (sa:ByteArray) (A:Option Nat) (n cap k:Nat) (B:Option Nat) (m cb:Nat) (at_ e:Int):List Value:= [.string sa,sl A n cap,.int .i64 (k:Int),sl B m cb,.int .i64 at_,.int .i64 e]
def rB (g:Nat) (sa:ByteArray) (A:Option Nat) (cap:Nat) (toks:List Tk) (k:Nat) (B:Option Nat) (cb:Nat) (out:List Nd) (at_ e:Int):List Blk:=
 [.box g 349 (rC sa A toks.length cap k B out.length cb at_ e),.own A 339 8 toks.length cap (toks.flatMap bw),.own B 132 11 out.length cb (out.flatMap bu)]
theorem UU {A:Option Nat} {cap:Nat} {toks:List Tk} {w0 w:World} {H:List Blk} (hm:Mem w0 w H) (hi:In (.own A 339 8 toks.length cap (toks.flatMap bw)) H) {k:Nat} (hk:k<toks.length): ∃ ga,A=some ga∧Ro w ga 0 (toks.flatMap bw):=by
 obtain ⟨_,_,_,h4⟩:=(hm.on _ hi.mem).1
 cases A with
 |none=>obtain ⟨h5,_⟩:=h4;omega
 |some ga=>exact ⟨ga,rfl,Ro.of_own hm hi⟩
theorem FY (g:Nat) (sa:ByteArray) (hsa:sa.size≤1000) (A:Option Nat) (cap:Nat) (toks:List Tk) (ht1:toks.length≤1000) (k:Nat) (B:Option Nat) (m cb:Nat) (at_ e:Int) (w:World) (hr:Ro w g 0 (rC sa A toks.length cap k B m cb at_ e))
 (ht:k<toks.length→ ∃ ga,A=some ga∧Ro w ga 0 (toks.flatMap bw)):aF Tryz.prog 243 [.pointer (some ⟨g,0,none⟩)] w (.agg (bw (hdT (sa.size:Int) (toks.drop k))).toArray):=by
 refine aA Tryz.func243 rfl Tryz.ntmps243 rfl ?_;unfold rC at hr;by_cases hlt:k<toks.length
 ·rw [KJ hlt];obtain ⟨ga,rfl,hra⟩:=ht hlt;have hra' :=hra.elem Cs k hlt;repeat' (first|apply rS (id:=1);kernel_rfl;kernel_rfl|apply aY;exact rfl;apply aR (o:=0) (off:=1);exact hr;exact rfl;exact rfl|apply aY;exact rfl;apply aR (o:=0) (off:=2);exact hr;exact rfl;exact rfl|refine sT ?_|refine sS ?_|refine sQ ?_|refine sM fun _=>?_|refine sC ?_ ?_<;>intro hb<;>try omega|refine sCQ ?_ ?_<;>intro hb<;>try omega|fail)
  all_goals try omega
  rename_i g2;refine fa (id:=2) [10] [] [] (by kernel_rfl) (by kernel_rfl) (by kernel_rfl) mS ?_;repeat' (first|apply dC;(iterate 3 exact rfl);apply aR (o:=0) (off:=1);exact hr;exact rfl;exact rfl|apply dC;(iterate 3 exact rfl);apply aR (o:=0) (off:=2);exact hr;exact rfl;exact rfl|apply dC;(iterate 3 exact rfl);apply aa (j:=k);exact rfl;exact rfl;exact hlt|apply dC;(iterate 3 exact rfl);apply bC;exact rfl;exact hra';exact rfl|refine zZK ?_|refine sM fun _=>?_|refine sC ?_ ?_<;>intro hb<;>try omega|refine sCW ?_ ?_<;>intro hb<;>try omega|fail)
  all_goals try omega
  (refine eRC ?_)
  rfl
 ·rw [xj (by omega)];repeat' (first|apply rS (id:=1);kernel_rfl;kernel_rfl|apply aY;exact rfl;apply aR (o:=0) (off:=1);exact hr;exact rfl;exact rfl|apply aY;exact rfl;apply aR (o:=0) (off:=2);exact hr;exact rfl;exact rfl|apply ai;exact rfl;apply aR (o:=0) (off:=0);exact hr;exact rfl;exact rfl|refine sT ?_|refine sS ?_|refine sQ ?_|refine sM fun _=>?_|refine sC ?_ ?_<;>intro hb<;>try omega|refine sCQ ?_ ?_<;>intro hb<;>try omega|fail)
  all_goals try omega
  (refine eRC ?_)
  rfl
theorem yx {g:Nat} {sa:ByteArray} (hsa:sa.size≤1000) {A:Option Nat} {cap:Nat} {toks:List Tk} (ht1:toks.length≤1000) {k:Nat} {B:Option Nat} {cb:Nat} {out:List Nd} {at_ e:Int} {t:Tk} (hd:hdT (sa.size:Int) (toks.drop k)=t) {H:List Blk} {w0:World} (hH:MSub (rB g sa A cap toks k B cb out at_ e) H) (w:World) (hm:Mem w0 w H):
 aF Tryz.prog 243 [.pointer (some ⟨g,0,none⟩)] w (.agg (bw t).toArray):=by
 have hm' :=hH.use hm;rw [← hd];exact FY g sa hsa A cap toks ht1 k B out.length cb at_ e w (Ro.of_box hm' .hd) fun hlt=>UU hm' (.tl .hd) hlt
theorem L7 (op:Int) (w:World):aF Tryz.prog 364 [.int .i64 op] w (.tuple #[.int .i64 (jh op),.bool (decide (op=5)),.int .i64 (if jh op=0 then 2 else 0)]):=by
 refine aA Tryz.func364 rfl Tryz.ntmps364 rfl ?_;repeat' (first|refine sT ?_|refine sM fun _=>?_|refine sC ?_ ?_<;>intro hb<;>try omega|fail)
 all_goals ((refine rT3 ?_);simp_all [jh];try omega)
theorem TK (q:Int) {g:Nat} {sa:ByteArray} (hsa:sa.size≤1000) {A:Option Nat} {cap:Nat} {toks:List Tk} (ht1:toks.length≤1000) {k:Nat} {B:Option Nat} {cb:Nat} {out:List Nd} {at_ e:Int} {t:Tk} (hd:hdT (sa.size:Int) (toks.drop k)=t) {H:List Blk} {w0:World} (hH:MSub (rB g sa A cap toks k B cb out at_ e) H) (w:World) (hm:Mem w0 w H):
 aF Tryz.prog 309 [.pointer (some ⟨g,0,none⟩),.int .i64 q] w (.bool (decide (t.kind=8∧jh t.num=q))):=by
 have hm0:=hH.use hm;refine aA Tryz.func309 rfl Tryz.ntmps309 rfl ?_;have hh: ∀ w' H',Mem w w' H' →aF Tryz.prog 243 [.pointer (some ⟨g,0,none⟩)] w' (.agg (bw t).toArray):=fun w' H' hm' =>by
  rw [← hd];refine FY g sa hsa A cap toks ht1 k B out.length cb at_ e w' ((Ro.of_box hm0 .hd).next hm') fun hlt=> ?_;obtain ⟨ga,h1,h2⟩:=UU hm0 (.tl .hd) hlt;exact ⟨ga,h1,h2.next hm'⟩
 repeat' first|apply ag (f:=243);exact rfl;exact rfl;intro w' hm';exact hh w' _ hm'|apply ag (f:=364);exact rfl;exact rfl;intro w' _;exact L7 _ w'|refine zZB ?_|refine sM fun _=>?_|refine sC ?_ ?_<;>intro hb<;>try omega|fail
 all_goals ((refine rT1 ?_);simp_all)
theorem il (g:Nat) (sa:ByteArray) (A:Option Nat) (n cap k:Nat) (B:Option Nat) (m cb:Nat) (at_ e a2 e2:Int) (R:List Blk) (w0:World):
 FnIn Tryz.prog 242 [.pointer (some ⟨g,0,none⟩),.int .i64 a2,.int .i64 e2] w0 (.box g 349 (rC sa A n cap k B m cb at_ e)::R) fun v H=>v= .tuple #[]∧H= .box g 349 (rC sa A n cap k B m cb (if e=0 then a2 else at_) (if e=0 then e2 else e))::R:=by
 refine bE Tryz.func242 rfl Tryz.ntmps242 rfl ?_;unfold rC;by_cases he:e=0
 ·subst he;rw [if_pos rfl,if_pos rfl];repeat' (first|refine zZB ?_|refine sM fun _=>?_|refine sC ?_ ?_<;>intro hb<;>try omega|fail)
  all_goals first|omega|exact iO eIO rfl mS ⟨rfl,rfl⟩
 ·rw [if_neg he,if_neg he];repeat' (first|refine zZB ?_|refine sM fun _=>?_|refine sC ?_ ?_<;>intro hb<;>try omega|fail)
  all_goals first|omega|exact iO eIO rfl mS ⟨rfl,rfl⟩
theorem nR (c:Int) {g:Nat} {sa:ByteArray} (hsa:sa.size≤1000) {A:Option Nat} {cap:Nat} {toks:List Tk} (ht1:toks.length≤1000) {k:Nat} (hk1:k≤2000) {B:Option Nat} {cb:Nat} {out:List Nd} {at_ e:Int} {t:Tk} (hd:hdT (sa.size:Int) (toks.drop k)=t) (hc:t.kind=c) (R:List Blk) (w0:World):
 FnIn Tryz.prog 405 [.pointer (some ⟨g,0,none⟩),.int .u8 c] w0 (rB g sa A cap toks k B cb out at_ e++R) fun v H=>v= .tuple #[]∧H=rB g sa A cap toks (k+1) B cb out at_ e++R:=by
 refine bE Tryz.func405 rfl Tryz.ntmps405 rfl ?_;have hh:=fun w hm=>yx (g:=g) hsa ht1 hd (B:=B) (cb:=cb) (out:=out) (at_:=at_) (e:=e) (A:=A) (cap:=cap) (w0:=w0) (H:=rB g sa A cap toks k B cb out at_ e++R) ⟨R,.refl _⟩ w hm;unfold rB rC at hh ⊢;repeat' (first|apply ai;exact rfl;apply eu;exact rfl;exact rfl|apply ag (f:=243);exact rfl;exact rfl;exact hh|refine zZA ?_|refine sM fun _=>?_|refine sC ?_ ?_<;>intro hb<;>try omega|fail)
 all_goals first
  |omega
  |exact iO eIO rfl (.refl _) ⟨rfl,rfl⟩
theorem yw (c:Int) {g:Nat} {sa:ByteArray} (hsa:sa.size≤1000) {A:Option Nat} {cap:Nat} {toks:List Tk} (ht1:toks.length≤1000) {k:Nat} {B:Option Nat} {cb:Nat} {out:List Nd} {at_ e:Int} {t:Tk} (hd:hdT (sa.size:Int) (toks.drop k)=t) (hc:t.kind≠c) (R:List Blk) (w0:World):
 FnIn Tryz.prog 405 [.pointer (some ⟨g,0,none⟩),.int .u8 c] w0 (rB g sa A cap toks k B cb out at_ e++R) fun v H=>v= .tuple #[]∧H=rB g sa A cap toks k B cb out (if e=0 then t.at_ else at_) (if e=0 then 4 else e)++R:=by
 refine bE Tryz.func405 rfl Tryz.ntmps405 rfl ?_;have hh:=fun w hm=>yx (g:=g) hsa ht1 hd (B:=B) (cb:=cb) (out:=out) (at_:=at_) (e:=e) (A:=A) (cap:=cap) (w0:=w0) (H:=rB g sa A cap toks k B cb out at_ e++R) ⟨R,.refl _⟩ w hm;unfold rB at hh ⊢;repeat' (first|apply ai;exact rfl;apply eu;exact rfl;exact rfl|apply ag (f:=243);exact rfl;exact rfl;exact hh|apply ak (f:=242);exact rfl;exact rfl;exact FnIn.msub (il g sa A _ cap k B _ cb at_ e _ _ _ _) (MSub.pick .hd (.refl _));rintro _ _ ⟨rfl,rfl⟩|refine zZA ?_|refine sM fun _=>?_|refine sC ?_ ?_<;>intro hb<;>try omega|fail)
 all_goals first
  |omega
  |exact iO eIO rfl (.refl _) ⟨rfl,rfl⟩
end Go.SL

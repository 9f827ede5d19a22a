/-
  Lemmas and walks, put together: Px2 C1 Pg Ia Px3 Pg2 Hc C2 C4.
-/
import Derived.Deep.RegionHeld3
import Derived.Ground.SlgmProg
import Derived.Shelf.SortM.Plain
import Derived.Shelf.SortM.SortNone
import Derived.Test.YthgjiibbmkiplaaGreatDoorKw08
set_option linter.unusedSimpArgs false
set_option linter.unusedVariables false
set_option maxRecDepth 20000
set_option maxHeartbeats 16000000
namespace Go.SL
open Go
def Job.c:Job→Nat
 | .level k=>(9 - k).toNat
 | .loop _=>1
 | .sign=>3
 | .pct=>2
 | .pctl=>1
 | .prim=>1
 | .args _ _=>9
def Job.fit:Job→Prop
 | .level k=>1≤k∧k≤5
 | .loop k=>1≤k∧k≤4
 |_=>True
def Job.eats:Job→Prop
 | .loop _=>False
 | .pctl=>False
 |_=>True
def M6 (p:PS) (strict:Prop) (r:Out):Prop:= ∀ n p',r= .ok (n,p')→p'.l.length≤p.l.length∧(strict→p'.l.length<p.l.length)
def JS (o:Option Out) (B:Out→Prop):Prop:= ∃ r,o=some r∧B r
theorem dG {B:Out→Prop} {r:Out} (h:B r):JS (some r) B:=⟨r,rfl,h⟩
theorem cW {p:PS} {q:Prop} {e:Int × Int}:M6 p q (.error e):=fun _ _ h=>by cases h
theorem jE {p p' :PS} {q:Prop} {n:Nat} (h:p'.l.length≤p.l.length) (hq:q→p'.l.length<p.l.length):M6 p q (.ok (n,p')):=fun m p2 h2=>by
 cases h2;exact ⟨h,hq⟩
theorem fY {o:Option Out} {k:Nat→PS→Option Out} {p:PS} {q:Prop} {B:Out→Prop} (h:JS o (M6 p q)) (he: ∀ e,B (.error e)) (hk: ∀ n p',p'.l.length≤p.l.length→(q→p'.l.length<p.l.length)→JS (k n p') B):JS (gG o k) B:=by
 obtain ⟨r,rfl,hr⟩:=h
 cases r with
 |error e=>exact ⟨_,rfl,he e⟩
 |ok x=>
  obtain ⟨n,p'⟩:=x;obtain ⟨h1,h2⟩:=hr n p' rfl;exact hk n p' h1 h2
theorem ju {fin:Int} {l:List Tk} (h:(hdT fin l).kind≠0):0<l.length:=by
 cases l with
 |nil=>exact absurd rfl h
 |cons=>simp
theorem fO (p:PS):p.skip.l.length=p.l.length - 1:=by simp [PS.skip]
theorem eK (p:PS) (n:Nd):(p.put n).l=p.l:=rfl
theorem tM {fin:Int} {name:Tk} {fn:Int} {n:Nat} {p p0:PS} {q:Prop} (h:p.l.length≤p0.l.length) (hq:0<p.l.length→q→p.l.length - 1<p0.l.length):JS (eU fin name fn n p) (M6 p0 q):=by
 unfold eU;dsimp only;split
 ·exact dG cW
 ·rename_i hk;have hpos:=ju (fin:=fin) (l:=p.l) (by omega);split
  ·exact dG cW
  ·split
   ·exact dG cW
   ·refine dG (jE ?_ fun hh=> ?_)
    ·rw [eK,fO];omega
    ·rw [eK,fO];exact hq hpos hh
theorem AV (fin:Int): ∀ (f:Nat) (j:Job) (p:PS),j.fit→20*p.l.length+j.c≤f→JS (cy fin f j p) (M6 p j.eats):=by
 intro f
 induction f with
 |zero=>
  intro j p hj hf
  cases j with
  |level k=>obtain ⟨h1,h2⟩:=hj;simp only [Job.c] at hf;omega
  |_=>simp only [Job.c] at hf;omega
 |succ f ih=>
  intro j p hj hf
  cases j with
  |level k=>
   obtain ⟨h1,h2⟩:=hj;simp only [Job.c] at hf;rw [cy];split
   ·obtain ⟨r,hr,hl⟩:=ih .sign p trivial (by simp only [Job.c];omega);exact ⟨r,hr,hl⟩
   ·refine fY (ih (.level (k+1)) p ⟨by omega,by omega⟩ (by simp only [Job.c];omega)) (fun e=>cW) fun n p' h3 h4=> ?_;have h5:=h4 trivial;obtain ⟨r,hr,hl⟩:=ih (.loop k) p' ⟨h1,by omega⟩ (by simp only [Job.c];omega);exact ⟨r,hr,fun m q hq=>⟨by have:=(hl m q hq).1;omega,fun _=>by have:=(hl m q hq).1;omega⟩⟩
  |loop k=>
   obtain ⟨h1,h2⟩:=hj;simp only [Job.c] at hf;rw [cy];split
   ·rename_i hk;have hpos:=ju (fin:=fin) (l:=p.l) (by omega);have hs:=fO p;refine fY (ih (.level (k+1)) p.skip ⟨by omega,by omega⟩ (by simp only [Job.c];omega)) (fun e=>cW) fun n p' h3 h4=> ?_;have h5:=h4 trivial;obtain ⟨r,hr,hl⟩:=ih (.loop k) (p'.put (gJ 6 (hdT fin p.l).num)) ⟨h1,h2⟩ (by rw [eK];simp only [Job.c];omega);exact ⟨r,hr,fun m q hq=>⟨by have:=(hl m q hq).1;rw [eK] at this;omega,fun h=>h.elim⟩⟩
   ·exact dG (jE (Xy _) fun h=>h.elim)
  |sign=>
   simp only [Job.c] at hf;rw [cy];dsimp only;split
   ·rename_i hk;have hpos:=ju (fin:=fin) (l:=p.l) (by omega);have hs:=fO p;refine fY (ih .sign p.skip trivial (by simp only [Job.c];omega)) (fun e=>cW) fun n p' h3 h4=> ?_;have h5:=h4 trivial;exact dG (jE (by rw [eK];omega) fun _=>by rw [eK];omega)
   ·refine fY (ih .pct p trivial (by simp only [Job.c];omega)) (fun e=>cW) fun n p' h3 h4=> ?_;have h5:=h4 trivial;split
    ·have hs:=fO p';refine fY (ih .sign p'.skip trivial (by simp only [Job.c];omega)) (fun e=>cW) fun n p2 h6 h7=> ?_;exact dG (jE (by rw [eK];omega) fun _=>by rw [eK];omega)
    ·exact dG (jE h3 fun _=>h5)
  |pct=>
   simp only [Job.c] at hf;rw [cy];refine fY (ih .prim p trivial (by simp only [Job.c];omega)) (fun e=>cW) fun n p' h3 h4=> ?_;have h5:=h4 trivial;obtain ⟨r,hr,hl⟩:=ih .pctl p' trivial (by simp only [Job.c];omega);exact ⟨r,hr,fun m q hq=>⟨by have:=(hl m q hq).1;omega,fun _=>by have:=(hl m q hq).1;omega⟩⟩
  |pctl=>
   simp only [Job.c] at hf;rw [cy];split
   ·rename_i hk;have hpos:=ju (fin:=fin) (l:=p.l) (by omega);have hs:=fO p;obtain ⟨r,hr,hl⟩:=ih .pctl (p.skip.put (gJ 5 0)) trivial (by rw [eK];simp only [Job.c];omega);exact ⟨r,hr,fun m q hq=>⟨by have:=(hl m q hq).1;rw [eK] at this;omega,fun h=>h.elim⟩⟩
   ·exact dG (jE (Xy _) fun h=>h.elim)
  |prim=>
   simp only [Job.c] at hf;rw [cy];dsimp only;have hs:=fO p;have hs2:=fO p.skip;split
   ·rename_i hk;have hpos:=ju (fin:=fin) (l:=p.l) (by omega);exact dG (jE (by rw [eK];omega) fun _=>by rw [eK];omega)
   ·split
    ·rename_i hk;have hpos:=ju (fin:=fin) (l:=p.l) (by omega);exact dG (jE (by rw [eK];omega) fun _=>by rw [eK];omega)
    ·split
     ·rename_i hk;have hpos:=ju (fin:=fin) (l:=p.l) (by omega);refine fY (ih (.level 1) p.skip ⟨by omega,by omega⟩ (by simp only [Job.c];omega)) (fun e=>cW) fun n p' h3 h4=> ?_;have h5:=h4 trivial;have hs3:=fO p';split
      ·exact dG cW
      ·exact dG (jE (by omega) fun _=>by omega)
     ·split
      ·rename_i hk;have hpos:=ju (fin:=fin) (l:=p.l) (by omega);split
       ·exact dG cW
       ·split
        ·exact dG cW
        ·rename_i hk2;have hpos2:=ju (fin:=fin) (l:=p.skip.l) (by omega);split
         ·exact tM (by omega) fun _ _=>by omega
         ·refine fY (ih (.args (db (hdT fin p.l).text).1 0) p.skip.skip trivial (by simp only [Job.c];omega)) (fun e=>cW) fun n p' h3 h4=> ?_;exact tM (by omega) fun _ _=>by omega
      ·exact dG cW
  |args fn n=>
   simp only [Job.c] at hf;rw [cy];dsimp only;have hgo: ∀ p' :PS,p'.l.length<p.l.length→JS (if (hdT fin p'.l).kind=11 then cy fin f (.args fn (n+1)) p'.skip else some (.ok (n+1,p'))) (M6 p (Job.args fn n).eats):=by
    intro p' hp;have hs:=fO p';split
    ·obtain ⟨r,hr,hl⟩:=ih (.args fn (n+1)) p'.skip trivial (by simp only [Job.c];omega);exact ⟨r,hr,fun m q hq=>⟨by have:=(hl m q hq).1;omega,fun _=>by have:=(hl m q hq).1;omega⟩⟩
    ·exact dG (jE (by omega) fun _=>hp)
   split
   ·refine fY (ih (.level 1) p ⟨by omega,by omega⟩ (by simp only [Job.c];omega)) (fun e=>cW) fun m p' h3 h4=> ?_;exact hgo p' (h4 trivial)
   ·rename_i hk;have hpos:=ju (fin:=fin) (l:=p.l) (by omega);have hs:=fO p;split
    ·exact dG cW
    ·exact hgo _ (by rw [eK];omega)
open Go.Proofs
attribute [local irreducible] FnAt FnIn VOp W WA WG WL WLI WQ WR WT WX aY bA blk bw scp thn
def TkV (v:Value) (A:Option Nat) (n cap k:Nat):Prop:= ∃ a:Option Addr,v= .slice a (n - k) (cap - k)∧(k<n→a=A.map fun g=>⟨g,k*8,none⟩)
def pB (g:Nat) (lv:Value) (A:Option Nat) (cap:Nat) (fin:Int) (toks:List Tk) (B:Option Nat) (cb:Nat) (out:List Nd):List Blk:=
 [.box g 275 [lv,.int .i64 fin,sl B out.length cb],.own A 277 8 toks.length cap (toks.flatMap fg),.own B 283 11 out.length cb (out.flatMap gW)]
theorem TkV.next {P:Program} {t e:Nat} {v:Value} {A:Option Nat} {n cap k:Nat} [ht:Und P t (.slice e)] [hz:Size P e 8] (h:TkV v A n cap k) (hk:k<n) (hc:n≤cap):
 ∃ v',TkV v' A n cap (k+1)∧v'.oneCell' =true∧(∃ a m c,v' = .slice a m c)∧ ∀ {w0:World} {s:az} {H:List Blk} {ty:TypeId} {x r:Operand} {k' :IntKind},ev s x=some v→ev s r=some (.int k' 1)→VOp P w0 s H (.slice t x (some r) none none) ty v' :=by
 obtain ⟨a,rfl,ha⟩:=h;refine ⟨.slice (if cap - k=1 then a else a.map (·.add (1*8))) (n - k - 1) (cap - k - 1),⟨if cap - k=1 then a else a.map (·.add (1*8)),?_,fun hk1=> ?_⟩,rfl,⟨_,_,_,rfl⟩,fun hx hr=>iR (lo:=1) (hi:=n - k) hx ⟨_,hr⟩ rfl (by omega) (by omega)⟩
 ·congr 1
 ·rw [if_neg (by omega),ha hk]
  cases A with
  |none=>rfl
  |some g=>(simp [cH])<;>omega
theorem R5 {fin:Int} {toks:List Tk} {k:Nat} (h:k<toks.length):hdT fin (toks.drop k)=toks[k]:=by
 rw [XC h];rfl
theorem R6 {fin:Int} {toks:List Tk} {k:Nat} (h:toks.length≤k):hdT fin (toks.drop k)={ rk with at_:=fin }:=by
 rw [Yf h];rfl
theorem FI (g:Nat) (lv:Value) (A:Option Nat) (cap:Nat) (fin:Int) (toks:List Tk) (k:Nat) (hk:TkV lv A toks.length cap k) (x:Value) (w:World) (hr:Ro w g 0 [lv,.int .i64 fin,x])
 (ht:k<toks.length→ ∃ ga,A=some ga∧Ro w ga 0 (toks.flatMap fg)):aL Tryz.prog 170 [.pointer (some ⟨g,0,none⟩)] w (.agg (fg (hdT fin (toks.drop k))).toArray):=by
 refine aB Tryz.func170 rfl Tryz.ntmps170 rfl ?_;obtain ⟨a,rfl,ha⟩:=hk;by_cases hlt:k<toks.length
 ·rw [R5 hlt];obtain ⟨ga,rfl,hra⟩:=ht hlt;have ha' :=ha hlt;subst ha';have hra' :Ro w ga (k*8) (fg toks[k]):=by
   have:=hra.elem MB k hlt;rwa [Xv] at this
  have hlen:0<toks.length - k:=by omega
  repeat' first|apply ak;exact rfl;apply bu (o:=0) (off:=0);exact hr;exact rfl;exact rfl|apply ak;exact rfl;apply bu (o:=0) (off:=1);exact hr;exact rfl;exact rfl|apply ak;exact rfl;apply ai (j:=0);exact rfl;exact rfl;exact hlen|apply ak;exact rfl;apply m6 (o:=k*8) (off:=0*8);exact hra';(iterate 3 exact rfl)|refine sT ?_|refine sM fun _=>?_|refine sC ?_ ?_<;>intro hb<;>try omega|fail
  all_goals try omega
  (refine eRC ?_)
  rfl
 ·rw [R6 (by omega)];repeat' (first|apply ak;exact rfl;apply bu (o:=0) (off:=0);exact hr;exact rfl;exact rfl|apply ak;exact rfl;apply bu (o:=0) (off:=1);exact hr;exact rfl;exact rfl|refine sT ?_|refine sM fun _=>?_|refine sC ?_ ?_<;>intro hb<;>try omega|fail)
  all_goals try omega
  (refine eRC ?_)
  rfl
theorem OK {g:Nat} {lv:Value} {A:Option Nat} {cap:Nat} {fin:Int} {toks:List Tk} {k:Nat} (hk:TkV lv A toks.length cap k) {B:Option Nat} {cb:Nat} {out:List Nd} {H:List Blk} {w0:World} (hH:MSub (pB g lv A cap fin toks B cb out) H) (w:World) (hm:Mem w0 w H):
 aL Tryz.prog 170 [.pointer (some ⟨g,0,none⟩)] w (.agg (fg (hdT fin (toks.drop k))).toArray):=by
 have hm' :=hH.use hm;refine FI g lv A cap fin toks k hk (sl B out.length cb) w (Ro.of_box hm' .hd) fun hlt=> ?_;obtain ⟨_,_,_,h4⟩:=(hm'.on _ (In.tl .hd:In (.own A 277 8 toks.length cap (toks.flatMap fg)) _).mem).1
 cases A with
 |none=>obtain ⟨h5,_⟩:=h4;omega
 |some ga=>exact ⟨ga,rfl,Ro.of_own hm' (In.tl .hd)⟩
theorem OJ (g:Nat) (lv:Value) (A:Option Nat) (cap:Nat) (fin:Int) (toks:List Tk) (k:Nat) (hv:TkV lv A toks.length cap k) (hk:k<toks.length) (hc:toks.length≤cap) (B:Option Nat) (cb:Nat) (out:List Nd) (R:List Blk) (w0:World):
 FnIn Tryz.prog 266 [.pointer (some ⟨g,0,none⟩)] w0 (pB g lv A cap fin toks B cb out++R) fun v H=>v= .tuple #[]∧ ∃ lv',TkV lv' A toks.length cap (k+1)∧H=pB g lv' A cap fin toks B cb out++R:=by
 refine bI Tryz.func266 rfl Tryz.ntmps266 rfl ?_;obtain ⟨lv',h1,h3,⟨a',m',c',rfl⟩,h2⟩:=hv.next hk hc (P:=Tryz.prog) (t:=268) (e:=277);obtain ⟨a,rfl,ha⟩:=hv;repeat' (first|apply ak (d:=7);exact rfl;exact h2 rfl rfl|refine sT ?_|refine sM fun _=>?_|refine sC ?_ ?_<;>intro hb<;>try omega|fail)
 exact fJ (.inr rfl) rfl (.refl _) ⟨rfl,_,h1,rfl⟩
theorem lL (n:Nd) (g:Nat) (lv:Value) (A:Option Nat) (cap:Nat) (fin:Int) (toks:List Tk) (B:Option Nat) (cb:Nat) (out:List Nd) (hlen:out.length≤1000000) (R:List Blk) (w0:World):
 FnIn Tryz.prog 267 [.pointer (some ⟨g,0,none⟩),.agg (gW n).toArray] w0 (pB g lv A cap fin toks B cb out++R) fun v H=>v= .tuple #[]∧ ∃ B' cb',H=pB g lv A cap fin toks B' cb' (out++ [n])++R:=by
 refine bI Tryz.func267 rfl Tryz.ntmps267 rfl ?_;repeat' (first|refine sT ?_|refine sM fun _=>?_|refine sC ?_ ?_<;>intro hb<;>try omega|fail)
 refine CC 11 rfl (by kernel_rfl) ?_;((with_reducible apply dO (i:=0));exact rfl;exact rfl;(iterate 3 decide+kernel);exact nP;intro _ _;exact vP);((with_reducible apply dO (i:=1));exact rfl;exact rfl;(iterate 3 decide+kernel);exact nP;intro _ _;exact vP);((with_reducible apply dO (i:=2));exact rfl;exact rfl;(iterate 3 decide+kernel);exact nP;intro _ _;exact vP);((with_reducible apply dO (i:=3));exact rfl;exact rfl;(iterate 3 decide+kernel);exact nP;intro _ _;exact vP);repeat' (first|apply Cz (i:=4) (j:=5);exact rfl;exact rfl;decide+kernel|apply Cz (i:=4) (j:=6);exact rfl;exact rfl;decide+kernel|apply ig (i:=4);exact rfl;decide+kernel|apply ig (i:=5);exact rfl;decide+kernel|apply ig (i:=6);exact rfl;decide+kernel|apply ig (i:=7);exact rfl;decide+kernel|apply ig (i:=8);exact rfl;decide+kernel|apply ig (i:=9);exact rfl;decide+kernel|apply ig (i:=10);exact rfl;decide+kernel|apply CA;decide+kernel|apply mY;(iterate 3 exact rfl);exact pK;exact pK;exact rfl;simp [gW,Value.oneCell'];omega;simp only [maxLen];omega;intro g8 c8|refine sT ?_|refine sM fun _=>?_|refine sC ?_ ?_<;>intro hb<;>try omega|fail)
 all_goals
  refine fJ eIO rfl (H' :=pB g lv A cap fin toks (some g8) c8 (out++ [n])++R) ?_ ⟨rfl,_,_,rfl⟩;simp only [pB,Xa,Xe,Xz,Xx,XP,Xm,Xc,Xd];exact mS
def Dk (e:Int × Int):Value:= .iface 272 (.agg #[.int .i64 e.1,.int .i64 e.2])
theorem jK (x:Value) (at_ e:Int) (H:List Blk) (w0:World) (R:Value→List Blk→Prop):
 FnP Tryz.prog 171 [x,.int .i64 at_,.int .i64 e] w0 H R fun v H' =>v=Dk (at_,e)∧H' =H:=by
 refine yR Tryz.func171 rfl Tryz.ntmps171 rfl ?_;repeat' (first|apply ak;exact rfl;apply EL;(intro m;exact fun h=>by cases h);exact rfl|apply Nm;exact rfl|refine sT ?_|refine sM fun _=>?_|refine sC ?_ ?_<;>intro hb<;>try omega|fail)
 exact Tu (.refl _) ⟨rfl,rfl⟩
theorem Uv (op:Int) {g:Nat} {lv:Value} {A:Option Nat} {cap:Nat} {fin:Int} {toks:List Tk} {k:Nat} (hk:TkV lv A toks.length cap k) {B:Option Nat} {cb:Nat} {out:List Nd} {H:List Blk} {w0:World} (hH:MSub (pB g lv A cap fin toks B cb out) H) (w:World) (hm:Mem w0 w H):
 aL Tryz.prog 281 [.pointer (some ⟨g,0,none⟩),.int .i64 op] w (.bool (decide ((hdT fin (toks.drop k)).kind=8∧(hdT fin (toks.drop k)).num=op))):=by
 have hm0:=hH.use hm;refine aB Tryz.func281 rfl Tryz.ntmps281 rfl ?_;have hh: ∀ w' H',Mem w w' H' →aL Tryz.prog 170 [.pointer (some ⟨g,0,none⟩)] w' (.agg (fg (hdT fin (toks.drop k))).toArray):=fun w' H' hm' =>by
  refine FI g lv A cap fin toks k hk (sl B out.length cb) w' ((Ro.of_box hm0 .hd).next hm') fun hlt=> ?_;obtain ⟨_,_,_,h4⟩:=(hm0.on _ (In.tl .hd:In (.own A 277 8 toks.length cap (toks.flatMap fg)) _).mem).1
  cases A with
  |none=>obtain ⟨h5,_⟩:=h4;omega
  |some ga=>exact ⟨ga,rfl,(Ro.of_own hm0 (In.tl .hd)).next hm'⟩
 generalize hdT fin (toks.drop k)=t at hh;repeat' (first|apply aa;exact rfl;exact rfl;intro w' hm';exact hh w' _ hm'|refine sT ?_|refine sM fun _=>?_|refine sC ?_ ?_<;>intro hb<;>try omega|fail)
 all_goals ((refine rT1 ?_);simp_all)
theorem Bc (op:Int) (w:World):aL Tryz.prog 265 [.int .i64 op] w (.tuple #[.int .i64 (zg op),.bool (decide (op=5)),.int .i64 (if zg op=0 then 2 else 0)]):=by
 refine aB Tryz.func265 rfl Tryz.ntmps265 rfl ?_;repeat' (first|refine sT ?_|refine sM fun _=>?_|refine sC ?_ ?_<;>intro hb<;>try omega|fail)
 all_goals ((refine rT3 ?_);simp_all [zg];try omega)
structure Rl where
 rect:Rct
 read:BitVec 64
 write:BitVec 64
 own:BitVec 64
def bQ (r:Rl):List Value:= [.int .i64 r.rect.c1,.int .i64 r.rect.r1,.int .i64 r.rect.c2,.int .i64 r.rect.r2,vS r.read,vS r.write,vS r.own]
theorem dw (r:Rl):(bQ r).length=7:=rfl
structure Gn where
 rect:Rct
 fns:Int
 to:BitVec 64
 by_:Int
 rev:Bool
def cD (g:Gn):List Value:= [.int .i64 g.rect.c1,.int .i64 g.rect.r1,.int .i64 g.rect.c2,.int .i64 g.rect.r2,.int .u8 g.fns,vS g.to,.int .i64 g.by_,.bool g.rev]
theorem jy (g:Gn):(cD g).length=8:=rfl
def Mh (x:Int):List Int→List Int
 | []=> [x]
 |y::l=>if x≤y then x::y::l else y::Mh x l
def tE (l:List Int):List Int:=l.foldr Mh []
def iD (l:List Int):List Int:=l.mergeSort fun x y=>decide (x≤y)
theorem uN (x:Int): ∀ l:List Int,(Mh x l).Perm (x::l)
 | []=> .refl _
 |y::l=>by
  rw [Mh];split
  ·exact .refl _
  ·exact ((uN x l).cons y).trans (.swap x y l)
theorem vN (x:Int): ∀ {l:List Int},l.Pairwise (· ≤ ·)→(Mh x l).Pairwise (· ≤ ·)
 | [],_=>Yv _ _
 |y::l,h=>by
  have h1:=XG.1 h;rw [Mh];split
  ·rename_i hxy;refine XG.2 ⟨fun z hz=> ?_,h⟩;rcases Xt.1 hz with rfl|hz
   ·exact hxy
   ·exact Int.le_trans hxy (h1.1 z hz)
  ·refine XG.2 ⟨fun z hz=> ?_,vN x h1.2⟩;rcases Xt.1 ((uN x l).mem_iff.1 hz) with rfl|hz
   ·omega
   ·exact h1.1 z hz
theorem tD: ∀ l:List Int,(tE l).Perm l
 | []=> .refl _
 |x::l=>(uN x _).trans ((tD l).cons x)
theorem o4: ∀ l:List Int,(tE l).Pairwise (· ≤ ·)
 | []=> .nil
 |x::l=>vN x (o4 l)
theorem fN (l:List Int):(iD l).Perm l:=Zg _ _
theorem nu (l:List Int):(iD l).Pairwise (· ≤ ·):=by
 have h:=aai (le:=fun x y:Int=>decide (x≤y)) (fun a b c h1 h2=>by simp only [decide_eq_true_eq] at*;omega) (fun a b=>by simp only [Zn,decide_eq_true_eq];omega) l;exact h.imp fun h=>by simpa using h
theorem qG: ∀ {l m:List Int},l.Pairwise (· ≤ ·)→m.Pairwise (· ≤ ·)→l.Perm m→l=m
 | [],m,_,_,h=>(List.nil_perm.1 h).symm
 |a::l,[],_,_,h=>absurd h.length_eq (by simp)
 |a::l,b::m,h1,h2,h=>by
  have k1:=XG.1 h1;have k2:=XG.1 h2;have hab:a=b:=by
   have ha:a∈b::m:=h.mem_iff.1 Xb;have hb:b∈a::l:=h.mem_iff.2 Xb;rcases Xt.1 ha with e|ha
   ·exact e
   ·rcases Xt.1 hb with e|hb
    ·exact e.symm
    ·have:=k2.1 a ha;have:=k1.1 b hb;omega
  subst hab;rw [qG k1.2 k2.2 ((List.perm_cons a).1 h)]
theorem E6 (l:List Int):iD l=tE l:=qG (nu l) (o4 l) ((fN l).trans (tD l).symm)
def fS:List Int→List Int
 | []=> []
 |a::l=>if l.head? =some a then fS l else a::fS l
theorem BM (x:Int): ∀ l:List Int,fS (l++ [x])=if l.getLast? =some x then fS l else fS l++ [x]
 | []=>by simp [fS]
 | [a]=>by
  by_cases h:x=a
  ·subst h;simp [fS]
  ·have h2: ¬ a=x:=fun e=>h e.symm;simp [fS,h,h2]
 |a::b::l=>by
  have ih:=BM x (b::l);have h0: ∀ l,fS (a::l)=if l.head? =some a then fS l else a::fS l:=fun _=>rfl;have hh:(b::l++ [x]).head? =(b::l).head? :=rfl;rw [List.getLast?_cons_cons,Xc,h0,h0,hh,ih];by_cases h1:(b::l).head? =some a
  ·simp only [h1,if_true]
  ·simp only [h1,if_false];split<;>rfl
theorem BL {L:List Int} {j:Nat} (h:j<L.length) (h0:0<j):fS (L.take (j+1))=if L[j]=L[j - 1] then fS (L.take j) else fS (L.take j)++ [L[j]]:=by
 have h1:L.take (j+1)=L.take j++ [L[j]]:=by rw [Xk h]
 have h2:(L.take j).getLast? =some L[j - 1]:=by
  rw [Zx,XA,YO (by omega),List.getElem?_take_of_lt (by omega),Xf (by omega)]
 rw [h1,BM,h2];simp only [Option.some.injEq,eq_comm]
theorem GW {L:List Int} (h:L.length≤1):fS L=L:=by
 match L,h with
 | [],_=>rfl
 | [a],_=>rfl
theorem mq {x:Int}: ∀ {l:List Int},x∈fS l↔x∈l
 | []=>Iff.rfl
 |a::l=>by
  rw [fS];split
  ·rename_i h;rw [mq (l:=l),Xt];exact ⟨.inr,fun h2=>h2.elim (fun e=>by subst e;exact List.mem_of_mem_head? h) id⟩
  ·rw [Xt,Xt,mq (l:=l)]
theorem y7: ∀ l:List Int,(fS l).length≤l.length
 | []=>Xy _
 |a::l=>by
  have:=y7 l;rw [fS];split<;>simp only [Xs]<;>omega
theorem pH: ∀ {l:List Int},l.Pairwise (· ≤ ·)→(fS l).Pairwise (· < ·)
 | [],_=> .nil
 |a::l,h=>by
  have h1:=XG.1 h;have ih:=pH h1.2;rw [fS];split
  ·exact ih
  ·rename_i hh;refine XG.2 ⟨fun y hy=> ?_,ih⟩;have hyl:=mq.1 hy;have h2:=h1.1 y hyl;by_cases e:a=y
   ·subst e
    cases l with
    |nil=>cases hyl
    |cons b l=>
     have h3:=h1.1 b Xb;have h4:=XG.1 h1.2;rcases Xt.1 hyl with e|hm
     ·subst e;exact absurd rfl hh
     ·have h5:=h4.1 a hm;have h6:b=a:=by omega
      subst h6;exact absurd rfl hh
   ·omega
def cC:List Int→Int→List (Int × Int)
 | [],_=> []
 | [x],h=> [(x,h)]
 |x::y::l,h=>(x,y - 1)::cC (y::l) h
theorem lK (x h:Int): ∀ l:List Int,cC (l++ [x]) h=cC l (x - 1)++ [(x,h)]
 | []=>rfl
 | [a]=>rfl
 |a::b::l=>by
  have ih:=lK x h (b::l);show (a,b - 1)::cC (b::l++ [x]) h=_;rw [ih];rfl
theorem nD (h:Int): ∀ l:List Int,(cC l h).length=l.length
 | []=>rfl
 | [a]=>rfl
 |a::b::l=>by
  have ih:=nD h (b::l);show (cC (b::l) h).length+1=_;rw [ih];rfl
theorem FH (l:List Int) (h h' :Int) (hl:l≠ []): ∃ f a,cC l h=f++ [(a,h)]∧cC l h' =f++ [(a,h')]:=by
 have e:=YJ hl;refine ⟨cC l.dropLast (l.getLast hl - 1),l.getLast hl,?_,?_⟩
 ·conv=>lhs;rw [← e]
  rw [lK]
 ·conv=>lhs;rw [← e]
  rw [lK]
def dq (lo:Int) (ps:List (Int × Int)):List Int:=lo::ps.flatMap fun p=> [p.1,p.2+1]
def yZ (lo hi:Int) (ps:List (Int × Int)):List Int:=(fS (iD (dq lo ps))).filter fun x=>decide (lo≤x) && decide (x≤hi)
def cf (lo hi:Int) (ps:List (Int × Int)):List (Int × Int):=cC (yZ lo hi ps) hi
theorem iI {lo hi x:Int} {ps:List (Int × Int)}:x∈yZ lo hi ps↔(x=lo∨ ∃ p∈ps,x=p.1∨x=p.2+1)∧lo≤x∧x≤hi:=by
 rw [yZ,XM,mq,(fN _).mem_iff,dq,Xt,XL];simp
theorem nL (lo hi:Int) (ps:List (Int × Int)):(yZ lo hi ps).Pairwise (· < ·):=(pH (nu _)).filter _
theorem vZ (lo:Int) (ps:List (Int × Int)):(dq lo ps).length=1+2*ps.length:=by
 unfold dq
 induction ps with
 |nil=>rfl
 |cons p ps ih=>simp only [Xx,Xs,Xa,Yu] at ih ⊢;omega
theorem fU (lo hi:Int) (ps:List (Int × Int)):(cf lo hi ps).length≤1+2*ps.length:=by
 rw [cf,nD,yZ];refine XU (XS _ _) (XU (y7 _) ?_);rw [(fN _).length_eq,vZ];exact Xy _
theorem qf: ∀ {l:List Int} {h:Int},l.Pairwise (· < ·)→(∀ x∈l,x≤h)→ ∀ {p:Int × Int},p∈cC l h→p.1∈l∧p.1≤p.2∧p.2≤h∧ ∀ x∈l,¬ (p.1<x∧x≤p.2)
 | [],h,_,_,p,hp=>by cases hp
 | [a],h,_,hx,p,hp=>by
  rw [Xl.1 hp];have:=hx a (by simp);exact ⟨by simp,this,Zb _,fun x hx=>by rw [Xl.1 hx];simp only;omega⟩
 |a::b::l,h,hs,hx,p,hp=>by
  have h1:=XG.1 hs;have hab:=h1.1 b Xb;rcases Xt.1 hp with rfl|hp
  ·refine ⟨Xb,by simp only;omega,by have:=hx b (by simp);simp only;omega,fun x hm=> ?_⟩;simp only;rcases Xt.1 hm with rfl|hm
   ·omega
   ·rcases Xt.1 hm with rfl|hm
    ·omega
    ·have:=(XG.1 h1.2).1 x hm;omega
  ·obtain ⟨k1,k2,k3,k4⟩:=qf h1.2 (fun x hm=>hx x (Xp _ hm)) hp;refine ⟨Xp _ k1,k2,k3,fun x hm=> ?_⟩;rcases Xt.1 hm with rfl|hm
   ·have:=h1.1 p.1 k1;omega
   ·exact k4 x hm
theorem s8: ∀ {l:List Int} {h:Int},l.Pairwise (· < ·)→(∀ x∈l,x≤h)→(cC l h).Pairwise fun p q=>p.2<q.1
 | [],_,_,_=> .nil
 | [a],_,_,_=>Yv _ _
 |a::b::l,h,hs,hx=>by
  have h1:=XG.1 hs;refine XG.2 ⟨fun q hq=> ?_,s8 h1.2 fun x hm=>hx x (Xp _ hm)⟩;have hq1:=(qf h1.2 (fun x hm=>hx x (Xp _ hm)) hq).1;simp only;rcases Xt.1 hq1 with e|hm
  ·omega
  ·have:=(XG.1 h1.2).1 _ hm;omega
theorem dc {lo hi:Int} {ps:List (Int × Int)} {p:Int × Int} (hp:p∈cf lo hi ps):lo≤p.1∧p.1≤p.2∧p.2≤hi:=by
 obtain ⟨h1,h2,h3,_⟩:=qf (nL lo hi ps) (fun x hx=>(iI.1 hx).2.2) hp;exact ⟨(iI.1 h1).2.1,h2,h3⟩
theorem tS (lo hi:Int) (ps:List (Int × Int)):(cf lo hi ps).Pairwise fun p q=>p.2<q.1:=s8 (nL lo hi ps) fun x hx=>(iI.1 hx).2.2
structure Pz where
 rect:Rct
 a:Nat
 b:Nat
def cK (p:Pz):List Value:= [.int .i64 p.rect.c1,.int .i64 p.rect.r1,.int .i64 p.rect.c2,.int .i64 p.rect.r2,.int .i64 (p.a:Int),.int .i64 (p.b:Int)]
theorem cN (p:Pz):(cK p).length=6:=rfl
def j9 (a b:Rct):Bool:=(bZ a b).2 && decide ((bZ a b).1=a)
def oz (r:Rct) (L:List Rl):Nat→Nat
 |0=>0
 |n+1=>if j9 r ((L[n]?.map (·.rect)).getD bU)=true then n else oz r L n
def jh (r:Rct) (L:List Rl):Nat:=oz r L L.length
theorem zV (r:Rct) (L:List Rl): ∀ n,oz r L n≤n - 1
 |0=>Xy _
 |n+1=>by
  rw [oz];split
  ·exact Xy _
  ·have:=zV r L n;omega
def aW (r:Rct) (L:List Rl):List (Int × Int):=L.flatMap fun x=>if (bZ x.rect r).2=true then [((bZ x.rect r).1.c1,(bZ x.rect r).1.c2)] else []
def bf (r:Rct) (L:List Rl):List (Int × Int):=L.flatMap fun x=>if (bZ x.rect r).2=true then [((bZ x.rect r).1.r1,(bZ x.rect r).1.r2)] else []
def jo (A B:List Rl) (y x:Int × Int):Pz:=⟨⟨x.1,y.1,x.2,y.2⟩,jh ⟨x.1,y.1,x.2,y.2⟩ A,jh ⟨x.1,y.1,x.2,y.2⟩ B⟩
def jf (l:List Pz) (p:Pz):List Pz:=match l.getLast? with
 |some q=>if q.a=p.a∧q.b=p.b then l.dropLast++ [⟨⟨q.rect.c1,q.rect.r1,p.rect.c2,q.rect.r2⟩,q.a,q.b⟩] else l++ [p]
 |none=> [p]
def jZ (A B:List Rl) (y:Int × Int) (xs:List (Int × Int)):List Pz:=xs.foldl (fun l x=>jf l (jo A B y x)) []
theorem kz {A B:List Rl} {y:Int × Int} {xs:List (Int × Int)} {x:Int × Int}:jZ A B y (xs++ [x])=jf (jZ A B y xs) (jo A B y x):=by
 unfold jZ;rw [YG];rfl
def bW (r:Rct) (A B:List Rl):List Pz:=(cf r.r1 r.r2 (bf r A++bf r B)).flatMap fun y=>jZ A B y (cf r.c1 r.c2 (aW r A++aW r B))
def rX (l:List (BitVec 64)):BitVec 64:=l.foldl (· &&& ·) (BitVec.allOnes 64)
def yq (f:Rl→BitVec 64) (r:Rct) (L:List Rl):BitVec 64:=rX ((bW r L []).map fun p=>(L[p.a]?.map f).getD 0#64)
theorem MW {l:List (BitVec 64)} {x:BitVec 64}:rX (l++ [x])=rX l &&& x:=by unfold rX;rw [YG];rfl
structure Cl where
 at_:Rf
 node:Int
structure Ev where
 step:Int
 user:Int
 kind:Int
 rect:Rct
 done:Bool
 to:BitVec 64
def fF (x:Ev):List Value:= [.int .i64 x.step,.int .i64 x.user,.int .u8 x.kind,.int .i64 x.rect.c1,.int .i64 x.rect.r1,.int .i64 x.rect.c2,.int .i64 x.rect.r2,.bool x.done,vS x.to]
theorem mP (x:Ev):(fF x).length=9:=rfl
structure Rv where
 step:Int
 call:Cl
 fn:Int
 rect:Rct
 grant:Int
 to:BitVec 64
def fE (x:Rv):List Value:= [.int .i64 x.step,.int .i64 x.call.at_.col,.int .i64 x.call.at_.row,.int .i64 x.call.node,.int .u8 x.fn,.int .i64 x.rect.c1,.int .i64 x.rect.r1,.int .i64 x.rect.c2,.int .i64 x.rect.r2,.int .i64 x.grant,vS x.to]
theorem mM (x:Rv):(fE x).length=11:=rfl
structure Ox where
 kind:Int
 user:Int
 rect:Rct
 input:ByteArray
 rd:BitVec 64
 wr:BitVec 64
 ow:BitVec 64
 fns:Int
 to:BitVec 64
 idx:Int
def TC (x:Ox):List Value:= [.int .u8 x.kind,.int .i64 x.user,.int .i64 x.rect.c1,.int .i64 x.rect.r1,.int .i64 x.rect.c2,.int .i64 x.rect.r2,.string x.input,vS x.rd,vS x.wr,vS x.ow,.int .u8 x.fns,vS x.to,.int .i64 x.idx]
structure Grew (p p' :PS) (strict:Prop):Prop where
 tok: ∃ m,p'.l=p.l.drop m∧m≤p.l.length∧p'.out.length≤p.out.length+m
 out:p.out.length≤p'.out.length
 some:strict→p.out.length<p'.out.length
theorem Grew.refl (p:PS) {q:Prop} (h: ¬ q):Grew p p q:=⟨⟨0,rfl,Xn _,Xy _⟩,Xy _,fun hq=>(h hq).elim⟩
theorem Grew.trans {p p' p2:PS} {q q' q2:Prop} (h:Grew p p' q) (k:Grew p' p2 q') (hq:q2→q∨q'):Grew p p2 q2:=by
 obtain ⟨⟨m,h1,h2,h3⟩,h4,h5⟩:=h;obtain ⟨⟨n,k1,k2,k3⟩,k4,k5⟩:=k;refine ⟨⟨m+n,by rw [k1,h1,Zy],?_,by omega⟩,by omega,fun hh=> ?_⟩
 ·rw [h1,Ya] at k2;omega
 ·rcases hq hh with h|h
  ·have:=h5 h;omega
  ·have:=k5 h;omega
theorem Grew.step (p:PS) (n:Nd) (h:0<p.l.length) {q:Prop}:Grew p (p.skip.put n) q:=
 ⟨⟨1,by simp [PS.skip,PS.put],h,by simp [PS.skip,PS.put]⟩,by simp [PS.skip,PS.put],fun _=>by simp [PS.skip,PS.put]⟩
theorem Grew.skip (p:PS) (h:0<p.l.length) {q:Prop} (hq: ¬ q):Grew p p.skip q:=
 ⟨⟨1,by simp [PS.skip],h,by simp [PS.skip]⟩,by simp [PS.skip],fun hh=>(hq hh).elim⟩
theorem Grew.wrap {p p' :PS} {q q' :Prop} (h0:0<p.l.length) (h:Grew p.skip p' q) (n:Nd):Grew p (p'.put n) q' :=by
 obtain ⟨⟨m,h1,h2,h3⟩,h4,h5⟩:=h;simp only [PS.skip] at h1 h2 h3 h4;refine ⟨⟨1+m,?_,?_,?_⟩,?_,fun _=> ?_⟩
 ·simp only [PS.put];rw [h1,← List.drop_one,Zy]
 ·rw [List.length_tail] at h2;omega
 ·simp only [PS.put,Xa,Xe];omega
 ·simp only [PS.put,Xa,Xe];omega
 ·simp only [PS.put,Xa,Xe];omega
theorem gR {r:Option Out} {k:Nat→PS→Option Out} {x:Nat × PS} (h:gG r k=some (.ok x)): ∃ n p',r=some (.ok (n,p'))∧k n p' =some (.ok x):=by
 unfold gG at h;split at h
 ·exact ⟨_,_,rfl,h⟩
 ·rename_i h1;obtain ⟨n,p'⟩:=x;exact absurd h (h1 n p')
theorem jT {fin:Int} {l:List Tk} {c:Int} (h:(hdT fin l).kind=c) (hc:c≠0):0<l.length:=ju (fin:=fin) (by omega)
theorem tL {fin:Int} {name:Tk} {fn:Int} {n m:Nat} {p p' :PS} {q:Prop} (h:eU fin name fn n p=some (.ok (m,p'))):Grew p p' q:=by
 unfold eU at h;dsimp only at h;split at h
 ·cases h
 ·rename_i hk;have hpos:=jT (Decidable.not_not.1 hk) (by decide);split at h
  ·cases h
  ·split at h
   ·cases h
   ·cases h;exact .step p _ hpos
theorem kw (fin:Int): ∀ (f:Nat) (j:Job) (p:PS) (n:Nat) (p' :PS),cy fin f j p=some (.ok (n,p'))→Grew p p' j.eats
 |0,_,_,_,_,h=>by cases h
 |f+1,j,p,n,p',h=>by
  have ih:=kw fin f
  cases j with
  |level k=>
   rw [cy] at h;split at h
   ·have g:=ih .sign _ _ _ h;exact g
   ·obtain ⟨n1,p1,h1,h2⟩:=gR h;exact (ih _ _ _ _ h1).trans (ih _ _ _ _ h2) fun _=> .inl trivial
  |loop k=>
   rw [cy] at h;try dsimp only at h
   split at h
   ·rename_i hk;have hpos:=jT hk.1 (by decide);obtain ⟨n1,p1,h1,h2⟩:=gR h;exact ((ih _ _ _ _ h1).wrap (q' :=True) hpos _).trans (ih _ _ _ _ h2) fun _=> .inl trivial
   ·cases h;exact .refl _ fun h=>h
  |sign=>
   rw [cy] at h;try dsimp only at h
   split at h
   ·rename_i hk;have hpos:=jT hk.1 (by decide);obtain ⟨n1,p1,h1,h2⟩:=gR h;cases h2;exact (ih _ _ _ _ h1).wrap hpos _
   ·obtain ⟨n1,p1,h1,h2⟩:=gR h;split at h2
    ·rename_i hk;have hpos:=jT hk.1 (by decide);obtain ⟨n2,p2,h3,h4⟩:=gR h2;cases h4;exact (ih _ _ _ _ h1).trans ((ih _ _ _ _ h3).wrap (q' :=True) hpos _) fun _=> .inl trivial
    ·cases h2;have g:=ih .pct _ _ _ h1;exact g
  |pct=>
   rw [cy] at h;obtain ⟨n1,p1,h1,h2⟩:=gR h;exact (ih _ _ _ _ h1).trans (ih _ _ _ _ h2) fun _=> .inl trivial
  |pctl=>
   rw [cy] at h;try dsimp only at h
   split at h
   ·rename_i hk;have hpos:=jT hk.1 (by decide);exact (Grew.step p _ hpos (q:=True)).trans (ih _ _ _ _ h) fun h=>h.elim
   ·cases h;exact .refl _ fun h=>h
  |prim=>
   rw [cy] at h;try dsimp only at h
   split at h
   ·rename_i hk;cases h;exact .step p _ (ju (fin:=fin) (by omega))
   ·split at h
    ·rename_i hk;cases h;exact .step p _ (jT hk (by decide))
    ·split at h
     ·rename_i hk;have hpos:=jT hk (by decide);obtain ⟨n1,p1,h1,h2⟩:=gR h;split at h2
      ·cases h2
      ·rename_i hu;cases h2;exact ((Grew.skip p hpos (q:=False) (fun h=>h)).trans (ih _ _ _ _ h1) (q2:=True) fun _=> .inr trivial).trans (Grew.skip p1 (jT (Decidable.not_not.1 hu) (by decide)) (q:=False) fun h=>h) fun _=> .inl trivial
     ·split at h
      ·rename_i hk;have hpos:=jT hk (by decide);split at h
       ·cases h
       ·split at h
        ·cases h
        ·rename_i hu;have hpos2:=jT (Decidable.not_not.1 hu) (by decide);have g1:=(Grew.skip p hpos (q:=False) (fun h=>h)).trans (Grew.skip p.skip hpos2 (q:=False) fun h=>h) (q2:=False) fun h=>h.elim;split at h
         ·exact g1.trans (tL h (q:=True)) fun _=> .inr trivial
         ·obtain ⟨n1,p1,h1,h2⟩:=gR h;exact (g1.trans (ih _ _ _ _ h1) (q2:=True) fun _=> .inr trivial).trans (tL h2 (q:=True)) fun _=> .inl trivial
      ·cases h
  |args fn i=>
   rw [cy] at h;try dsimp only at h
   have hgo: ∀ p0:PS,(if (hdT fin p0.l).kind=11 then cy fin f (.args fn (i+1)) p0.skip else some (.ok (i+1,p0)))=some (.ok (n,p'))→Grew p0 p' False:=by
    intro p0 h0;split at h0
    ·rename_i hk;exact (Grew.skip p0 (jT hk (by decide)) (q:=False) (fun h=>h)).trans (ih _ _ _ _ h0) fun h=>h.elim
    ·cases h0;exact .refl _ fun h=>h
   split at h
   ·obtain ⟨n1,p1,h1,h2⟩:=gR h;exact (ih _ _ _ _ h1).trans (hgo p1 h2) fun _=> .inl trivial
   ·rename_i hk;have hpos:=ju (fin:=fin) (l:=p.l) (by omega);split at h
    ·cases h
    ·exact (Grew.step p _ hpos (q:=True)).trans (hgo _ h) fun _=> .inl trivial
def vK (a:Rf) (L:List Rl):Nat→Nat
 |0=>0
 |n+1=>if aI ((L[n]?.map (·.rect)).getD bU) a=true then n else vK a L n
def iK (L:List Rl) (a:Rf):Nat:=vK a L L.length
theorem F3 (a:Rf) (L:List Rl): ∀ n,vK a L n≤n - 1
 |0=>Xy _
 |n+1=>by
  rw [vK];split
  ·exact Xy _
  ·have:=F3 a L n;omega
theorem Pb {a:Rf} {L:List Rl} (h:L≠ []):iK L a<L.length:=by
 have:=F3 a L L.length;have h2:0<L.length:=Yr.2 h;unfold iK;omega
theorem zW {r:Rct} {L:List Rl} (h:L≠ []):jh r L<L.length:=by
 have:=zV r L L.length;have h2:0<L.length:=Yr.2 h;unfold jh;omega
theorem aV {r:Rct}:aA r=true↔1≤r.c1∧r.c1≤r.c2∧r.c2≤1024∧1≤r.r1∧r.r1≤r.r2∧r.r2≤1024:=by
 unfold aA valid;simp only [Xo,decide_eq_true_eq];omega
structure CellOf (r:Rct) (A B:List Rl) (y x:Int × Int):Prop where
 row:y∈cf r.r1 r.r2 (bf r A++bf r B)
 col:x∈cf r.c1 r.c2 (aW r A++aW r B)
def fc (y x:Int × Int):Rct:=⟨x.1,y.1,x.2,y.2⟩
theorem dh {α:Type} {p:List α→Prop} (h0:p []) (h1: ∀ l a,p l→p (l++ [a])) (l:List α):p l:=by
 have h: ∀ m:List α,p m.reverse:=fun m=>by
  induction m with
  |nil=>exact h0
  |cons a m ih=>rw [List.reverse_cons];exact h1 _ _ ih
 have:=h l.reverse;rwa [List.reverse_reverse] at this
theorem UF {l:List Pz} {p:Pz} {k:Nat}:k∈(jf l p).map (·.a)↔k∈l.map (·.a)∨k=p.a:=by
 unfold jf
 cases h:l.getLast? with
 |none=>
  rw [Zw.1 h];simp
 |some q=>
  have hne:l≠ []:=fun e=>by rw [e] at h;cases h
  have hq:l.getLast hne=q:=by rw [YH hne] at h;exact Option.some.inj h
  have he:=YJ hne;rw [hq] at he;dsimp only;split
  ·rename_i hs;rw [XI,Xr];conv=>rhs;rw [← he]
   rw [XI,Xr];simp only [XD,XR,Xl];rw [← hs.1];exact ⟨.inl,fun h=>h.elim id .inr⟩
  ·rw [XI,Xr];simp
theorem Tt {A B:List Rl} {y:Int × Int} {k:Nat} (xs:List (Int × Int)):k∈(jZ A B y xs).map (·.a)↔ ∃ x∈xs,k=(jo A B y x).a:=by
 induction xs using dh with
 |h0=>simp [jZ]
 |h1 xs x ih=>
  rw [kz,UF,ih];simp only [Xr,Xl];constructor
  ·rintro (⟨z,hz,h⟩|h)
   ·exact ⟨z,.inl hz,h⟩
   ·exact ⟨x,.inr rfl,h⟩
  ·rintro ⟨z,hz|rfl,h⟩
   ·exact .inl ⟨z,hz,h⟩
   ·exact .inr h
theorem wX {r:Rct} {A B:List Rl} {k:Nat}:k∈(bW r A B).map (·.a)↔ ∃ y x,CellOf r A B y x∧k=(jo A B y x).a:=by
 unfold bW;rw [List.map_flatMap,XL];constructor
 ·rintro ⟨y,hy,h⟩;obtain ⟨x,hx,h2⟩:=(Tt _).1 h;exact ⟨y,x,⟨hy,hx⟩,h2⟩
 ·rintro ⟨y,x,h,h2⟩;exact ⟨y,h.row,(Tt _).2 ⟨x,h.col,h2⟩⟩
def O4 (p q:Pz):Prop:=p.rect.r1<q.rect.r1∨(p.rect.r1=q.rect.r1∧p.rect.c1<q.rect.c1)
theorem Pq {l:List Pz} {p:Pz} {y c:Int} (hp:p.rect.r1=y) (hl: ∀ q∈l,q.rect.r1=y∧q.rect.c1<p.rect.c1) (hc:p.rect.c1≤c) (hs:l.Pairwise O4):(jf l p).Pairwise O4∧ ∀ q∈jf l p,q.rect.r1=y∧q.rect.c1≤c:=by
 unfold jf
 cases h:l.getLast? with
 |none=>
  exact ⟨Yv _ _,fun q hq=>by rw [Xl.1 hq];exact ⟨hp,hc⟩⟩
 |some q=>
  have hne:l≠ []:=fun e=>by rw [e] at h;cases h
  have hq:l.getLast hne=q:=by rw [YH hne] at h;exact Option.some.inj h
  have he:=YJ hne;rw [hq] at he;have hql:q∈l:=by rw [← hq];exact List.getLast_mem hne
  dsimp only;split
  ·rw [← he] at hs;obtain ⟨s1,_,s3⟩:=Yh.1 hs;refine ⟨Yh.2 ⟨s1,Yv _ _,fun a ha b hb=> ?_⟩,fun a ha=> ?_⟩
   ·rw [Xl.1 hb];exact s3 a ha q (Xl.2 rfl)
   ·rcases Xr.1 ha with ha|ha
    ·have:=hl a (List.dropLast_subset l ha);omega
    ·rw [Xl.1 ha];have:=hl q hql;simp only;omega
  ·refine ⟨Yh.2 ⟨hs,Yv _ _,fun a ha b hb=> ?_⟩,fun a ha=> ?_⟩
   ·rw [Xl.1 hb];have:=hl a ha;exact .inr ⟨by omega,this.2⟩
   ·rcases Xr.1 ha with ha|ha
    ·have:=hl a ha;omega
    ·rw [Xl.1 ha];exact ⟨hp,hc⟩
theorem rD {A B:List Rl} {y:Int × Int} (xs:List (Int × Int)) (hs:xs.Pairwise fun p q=>p.1<q.1):(jZ A B y xs).Pairwise O4∧ ∀ q∈jZ A B y xs,q.rect.r1=y.1∧ ∃ x∈xs,q.rect.c1≤x.1:=by
 induction xs using dh with
 |h0=>exact ⟨.nil,fun q hq=>by cases hq⟩
 |h1 xs x ih=>
  obtain ⟨s1,_,s3⟩:=Yh.1 hs;obtain ⟨i1,i2⟩:=ih s1;rw [kz]
  have:=Pq (l:=jZ A B y xs) (p:=jo A B y x) (y:=y.1) (c:=x.1) rfl (fun q hq=>by
   obtain ⟨h1,z,hz,h2⟩:=i2 q hq;have:=s3 z hz x (Xl.2 rfl);exact ⟨h1,by show q.rect.c1<x.1;omega⟩) (Zb _) i1
  exact ⟨this.1,fun q hq=>⟨(this.2 q hq).1,x,by simp,(this.2 q hq).2⟩⟩
theorem CW (r:Rct) (A B:List Rl):(bW r A B).Pairwise O4:=by
 unfold bW;have hx:(cf r.c1 r.c2 (aW r A++aW r B)).Pairwise fun p q=>p.1<q.1:=by
  refine (tS _ _ _).imp_of_mem fun {p q} hp _ h=> ?_;have:=dc hp;omega
 have hy:(cf r.r1 r.r2 (bf r A++bf r B)).Pairwise fun p q=>p.1<q.1:=by
  refine (tS _ _ _).imp_of_mem fun {p q} hp _ h=> ?_;have:=dc hp;omega
 generalize cf r.r1 r.r2 (bf r A++bf r B)=ys at hy;generalize cf r.c1 r.c2 (aW r A++aW r B)=xs at hx
 induction ys with
 |nil=>exact .nil
 |cons y ys ih=>
  obtain ⟨k1,k2⟩:=XG.1 hy;rw [Xx];refine Yh.2 ⟨(rD xs hx).1,ih k2,fun p hp q hq=> ?_⟩;obtain ⟨z,hz,hq⟩:=XL.1 hq;have h1:=((rD (A:=A) (B:=B) (y:=y) xs hx).2 p hp).1;have h2:=((rD (A:=A) (B:=B) (y:=z) xs hx).2 q hq).1;have h3:=k1 z hz;exact .inl (by omega)
end Go.SL
namespace Go.Proofs
open Go Go.Shelf Go.RowKit Go.Lib Go.Sort Go.SL
def Tryz.sortIn_ren:Go.Shelf.Ren:=⟨fun|5=>54|8=>105|7=>104|19=>149|20=>150|10=>140|11=>141|12=>142|13=>143|14=>144|15=>145|16=>146|17=>147|18=>148|30=>192|31=>193|32=>194|33=>195|34=>196|35=>137|40=>241|n=>n,fun|23=>40|25=>3|3=>3|32=>60|22=>40|0=>0|44=>202|46=>57|4=>4|36=>247|35=>246|41=>163|5=>5|9=>9|53=>298|57=>302|63=>345|64=>346|n=>n,fun|n=>n⟩
theorem Tryz.sortIn:Go.Proofs.SlLaysM.n5 Tryz.prog Tryz.sortIn_ren:={
 mixed:=by kernel_rfl
 f5:=⟨Tryz.f54.name,by decide,Tryz.func54.trans (congrArg some (by kernel_rfl))⟩
 f7:=⟨Tryz.f104.name,by decide,Tryz.func104.trans (congrArg some (by kernel_rfl))⟩
 f8:=Tryz.func105.trans (congrArg some (by kernel_rfl))
 f10:=⟨Tryz.f140.name,by decide,Tryz.func140.trans (congrArg some (by kernel_rfl))⟩
 f11:=⟨Tryz.f141.name,by decide,Tryz.func141.trans (congrArg some (by kernel_rfl))⟩
 f12:=⟨Tryz.f142.name,by decide,Tryz.func142.trans (congrArg some (by kernel_rfl))⟩
 f13:=⟨Tryz.f143.name,by decide,Tryz.func143.trans (congrArg some (by kernel_rfl))⟩
 f14:=⟨Tryz.f144.name,by decide,Tryz.func144.trans (congrArg some (by kernel_rfl))⟩
 f15:=⟨Tryz.f145.name,by decide,Tryz.func145.trans (congrArg some (by kernel_rfl))⟩
 f16:=⟨Tryz.f146.name,by decide,Tryz.func146.trans (congrArg some (by kernel_rfl))⟩
 f17:=⟨Tryz.f147.name,by decide,Tryz.func147.trans (congrArg some (by kernel_rfl))⟩
 f18:=⟨Tryz.f148.name,by decide,Tryz.func148.trans (congrArg some (by kernel_rfl))⟩
 f19:=Tryz.func149.trans (congrArg some (by kernel_rfl))
 f20:=Tryz.func150.trans (congrArg some (by kernel_rfl))
 f30:=⟨Tryz.f192.name,by decide,Tryz.func192.trans (congrArg some (by kernel_rfl))⟩
 f31:=Tryz.func193.trans (congrArg some (by kernel_rfl))
 f32:=Tryz.func194.trans (congrArg some (by kernel_rfl))
 f33:=⟨Tryz.f195.name,by decide,Tryz.func195.trans (congrArg some (by kernel_rfl))⟩
 f34:=⟨Tryz.f196.name,by decide,Tryz.func196.trans (congrArg some (by kernel_rfl))⟩
 f35:=⟨Tryz.f137.name,by decide,Tryz.func137.trans (congrArg some (by kernel_rfl))⟩
 f40:=⟨Tryz.f241.name,by decide,Tryz.func241.trans (congrArg some (by kernel_rfl))⟩
 t0:=Tryz.underlying0
 a0:=Tryz.isAgg0
 z0:=Tryz.sizeOf0
 v0:=Tryz.zeroValue0
 t3:=Tryz.underlying3
 a3:=Tryz.isAgg3
 z3:=Tryz.sizeOf3
 v3:=Tryz.zeroValue3
 t4:=Tryz.underlying4
 a4:=Tryz.isAgg4
 z4:=Tryz.sizeOf4
 v4:=Tryz.zeroValue4
 t5:=Tryz.underlying5
 a5:=Tryz.isAgg5
 z5:=Tryz.sizeOf5
 v5:=Tryz.zeroValue5
 t9:=Tryz.underlying9
 a9:=Tryz.isAgg9
 z9:=Tryz.sizeOf9
 v9:=Tryz.zeroValue9
 t22:=Tryz.underlying40
 a22:=Tryz.isAgg40
 z22:=Tryz.sizeOf40
 v22:=Tryz.zeroValue40
 t23:=Tryz.underlying40
 a23:=Tryz.isAgg40
 z23:=Tryz.sizeOf40
 v23:=Tryz.zeroValue40
 t25:=Tryz.underlying3
 a25:=Tryz.isAgg3
 z25:=Tryz.sizeOf3
 v25:=Tryz.zeroValue3
 t32:=Tryz.underlying60
 a32:=Tryz.isAgg60
 z32:=Tryz.sizeOf60
 v32:=Tryz.zeroValue60
 t35:=Tryz.underlying246
 a35:=Tryz.isAgg246
 z35:=Tryz.sizeOf246
 v35:=Tryz.zeroValue246
 t36:=Tryz.underlying247
 a36:=Tryz.isAgg247
 z36:=Tryz.sizeOf247
 v36:=Tryz.zeroValue247
 t41:=Tryz.underlying163
 a41:=Tryz.isAgg163
 z41:=Tryz.sizeOf163
 v41:=Tryz.zeroValue163
 t44:=Tryz.underlying202
 a44:=Tryz.isAgg202
 z44:=Tryz.sizeOf202
 v44:=Tryz.zeroValue202
 t46:=Tryz.underlying57
 a46:=Tryz.isAgg57
 z46:=Tryz.sizeOf57
 v46:=Tryz.zeroValue57
 t53:=Tryz.underlying298
 a53:=Tryz.isAgg298
 z53:=Tryz.sizeOf298
 v53:=Tryz.zeroValue298
 t57:=Tryz.underlying302
 a57:=Tryz.isAgg302
 z57:=Tryz.sizeOf302
 v57:=Tryz.zeroValue302
 t63:=Tryz.underlying345
 a63:=Tryz.isAgg345
 z63:=Tryz.sizeOf345
 v63:=Tryz.zeroValue345
 t64:=Tryz.underlying346
 a64:=Tryz.isAgg346
 z64:=Tryz.sizeOf346
 v64:=Tryz.zeroValue346 }
end Go.Proofs
namespace Go.SL
open Go Go.Proofs Go.Sort Go.Shelf
theorem E8 {α:Type} [Inhabited α] {enc:α→Value} (w:World) (g n:Nat) (d:Array α) (os:Array Obj):w.grownBy (grow (putRow enc (Sort.ahead w n) g 0 d) os) (some g):={
 os:=rfl
 tape:=rfl
 output:=rfl
 size:=by
  show w.heap.size≤((w.heap.modify g _)++os).size;rw [aah,Zi];omega
 block k hk hne:=by
  show ((w.heap.modify g _)++os)[k]? =_;rw [Yy (by rw [Zi];exact hk),Y5,if_neg (fun e=>hne (by rw [e]))] }
theorem Iz {α:Type} [Inhabited α] {enc:α→Value} (w:World) (g n:Nat) (d:Array α) (os:Array Obj) (c:Array Value) (T:TypeId) (fr:Nat × Nat) (h:w.heap[g]? =some (.cells c T fr)):
 (grow (putRow enc (Sort.ahead w n) g 0 d) os).heap[g]? =some (.cells (putCells enc 0 d c) T fr):=by
 have hlt:g<w.heap.size:=(XK.1 h).1;show ((w.heap.modify g _)++os)[g]? =_;rw [Yy (by rw [Zi];exact hlt),Y5,if_pos rfl,h]
 rfl
theorem II (L:List Int) (xs junk:List Value) (hl:xs.length=L.length):putCells dZ 0 L.toArray (xs++junk).toArray=(L.map dZ++junk).toArray:=by
 apply aae;intro j;simp only [putCells,aao,X4,YR,Xn,true_and,Xv,YC];by_cases hj:j<L.length
 ·rw [XW (by omega),XW (by rw [Xq];omega),XN,Xf (by omega),Xf hj];simp [hj]
 ·rw [Yd (by omega),Yd (by rw [Xq];omega),hl,Xq];simp [hj]
theorem vk (L:List Int) (A:Option Nat) (cap:Nat) (hL:L.length≤4000000000000) (R:List Blk) (w0:World):
 FnIn Tryz.prog 54 [sl A L.length cap] w0 (.own A 3 1 L.length cap (L.map dZ)::R) fun v H=>v= .tuple #[]∧H= .own A 3 1 L.length cap ((iD L).map dZ)::R:=by
 have hl:(iD L).length=L.length:=(fN L).length_eq
 cases A with
 |none=>
  intro w hm;obtain ⟨⟨h1,h2,h3,h4⟩,_⟩:=hm.on _ Xb;obtain ⟨h5,h6⟩:=h4;have hnil:L= []:=YB.1 h5;subst hnil;subst h6;have he:iD []= []:=YB.1 hl;refine Calls.mono (AnyM.slices_Sort_int_none Tryz.sortIn none 0 w) ?_;rintro e w' ⟨rfl,rfl⟩;exact ⟨_,_,rfl,hm,rfl,by rw [he]⟩
 |some g=>
  intro w hm;obtain ⟨⟨h1,h2,h3,junk,h4,h5⟩,hkk⟩:=hm.on _ Xb;have hlt:g<w.heap.size:=(XK.1 h5).1;have hH:Holds dZ w g 0 L.toArray:=by
   intro j hj;simp only [YR] at hj;have hc:(L.map dZ++junk).toArray[j]? =some (dZ L.toArray[j]!):=by
    rw [X4,XW (by rw [Xq];exact hj),XN,Xf hj];simp [hj]
   constructor
   ·simp only [World.cell?,Xv,h5];exact hc
   ·simp [World.frozen?,h5]
  have hs:=AnyM.slices_Sort_int Tryz.sortIn g 0 cap L w hH hlt (by omega);refine hs.mono ?_;rintro e w' ⟨rfl,n,os,rfl⟩;refine ⟨_,_,rfl,hm.upd (E8 _ _ _ _ _) (b' := .own (some g) 3 1 L.length cap ((iD L).map dZ)) ?_ fun k hk=> .inl hk,rfl,rfl⟩;refine ⟨by rw [Xq,hl,YT],h2,h3,junk,by rw [Xa,Xq,hl,← YT L.length,← h1,← Xa];exact h4,?_⟩;have h6:=Iz (enc:=dZ) w g n (iD L).toArray os _ _ _ h5;rw [II (iD L) _ _ (by rw [hl,h1,YT])] at h6;exact h6
attribute [local irreducible] FnAt FnIn FnP VOp W WA WG WL WLI WQ WR WT WX aX aY bA blk bw scp thn
def At (toks:List Tk) (A:Option Nat) (cap:Nat) (p:PS) (lv:Value):Prop:= ∃ k,k≤toks.length∧p.l=toks.drop k∧p.out.length≤k∧TkV lv A toks.length cap k
section
variable {toks:List Tk} {A:Option Nat} {cap:Nat} {fin:Int} {g:Nat}
def PR (toks:List Tk) (A:Option Nat) (cap:Nat) (fin:Int) (g:Nat) (R:List Blk) (r:Out) (v:Value) (H:List Blk):Prop:=v= .tuple #[]∧ ∃ n p' lv' B' cb',r= .ok (n,p')∧At toks A cap p' lv' ∧H=pB g lv' A cap fin toks B' cb' p'.out++R
def PD (R:List Blk) (r:Out) (v:Value) (H:List Blk):Prop:= ∃ e,r= .error e∧v=Dk e∧MSub R H
def POK (f:Nat) (j:Job) (fid:FuncId) (args:List Value):Prop:=
 ∀ (toks:List Tk) (A:Option Nat) (cap:Nat) (fin:Int) (g:Nat) (p:PS) (lv:Value) (B:Option Nat) (cb:Nat) (r:Out) (R:List Blk) (w0:World),toks.length≤cap→toks.length≤1000→At toks A cap p lv→cy fin f j p=some r→
  FnP Tryz.prog fid (.pointer (some ⟨g,0,none⟩)::args) w0 (pB g lv A cap fin toks B cb p.out++R) (PR toks A cap fin g R r) (PD R r)
theorem d9 {o:Option Out} {k:Nat→PS→Option Out} {r:Out} (h:gG o k=some r): ∃ r1,o=some r1∧((∃ e,r1= .error e∧r= .error e)∨(∃ n p',r1= .ok (n,p')∧k n p' =some r)):=by
 unfold gG at h;split at h
 ·rename_i n p';exact ⟨_,rfl,.inr ⟨n,p',rfl,h⟩⟩
 ·rename_i h1
  cases r with
  |error e=>exact ⟨_,h,.inl ⟨e,rfl,rfl⟩⟩
  |ok x=>obtain ⟨n,p'⟩:=x;exact absurd h (h1 n p')
theorem At.head {p:PS} {lv:Value} (h:At toks A cap p lv) {B:Option Nat} {cb:Nat} {out:List Nd} {H:List Blk} {w0:World} (hH:MSub (pB g lv A cap fin toks B cb out) H) (w:World) (hm:Mem w0 w H):
 aL Tryz.prog 170 [.pointer (some ⟨g,0,none⟩)] w (.agg (fg (hdT fin p.l)).toArray):=by
 obtain ⟨k,h1,h2,h3,h4⟩:=h;rw [h2];exact OK h4 hH w hm
theorem At.is {p:PS} {lv:Value} (h:At toks A cap p lv) (op:Int) {B:Option Nat} {cb:Nat} {out:List Nd} {H:List Blk} {w0:World} (hH:MSub (pB g lv A cap fin toks B cb out) H) (w:World) (hm:Mem w0 w H):
 aL Tryz.prog 281 [.pointer (some ⟨g,0,none⟩),.int .i64 op] w (.bool (decide ((hdT fin p.l).kind=8∧(hdT fin p.l).num=op))):=by
 obtain ⟨k,h1,h2,h3,h4⟩:=h;rw [h2];exact Uv op h4 hH w hm
def At1 (toks:List Tk) (A:Option Nat) (cap:Nat) (p:PS) (lv:Value):Prop:= ∃ k,k≤toks.length∧p.l=toks.drop k∧p.out.length+1≤k∧TkV lv A toks.length cap k
theorem At.skip {p:PS} {lv:Value} (h:At toks A cap p lv) (hc:toks.length≤cap) {c:Int} (hk:(hdT fin p.l).kind=c) (h0:c≠0) {B:Option Nat} {cb:Nat} {out:List Nd} {H R:List Blk} {w0:World} (hH:MSub (pB g lv A cap fin toks B cb out++R) H):
 FnIn Tryz.prog 266 [.pointer (some ⟨g,0,none⟩)] w0 H fun v H=>v= .tuple #[]∧ ∃ lv',At1 toks A cap p.skip lv' ∧H=pB g lv' A cap fin toks B cb out++R:=by
 obtain ⟨k,h1,h2,h3,h4⟩:=h;have hpos:=jT hk h0;rw [h2,Ya] at hpos;refine (OJ g lv A cap fin toks k h4 (by omega) hc B cb out R w0).msub hH|>.mono ?_;rintro v H' ⟨rfl,lv',h5,rfl⟩;exact ⟨rfl,lv',⟨k+1,by omega,by simp only [PS.skip];rw [h2,List.tail_drop],by simp only [PS.skip];omega,h5⟩,rfl⟩
theorem At1.at {p:PS} {lv:Value} (h:At1 toks A cap p lv):At toks A cap p lv:=let ⟨k,h1,h2,h3,h4⟩:=h;⟨k,h1,h2,by omega,h4⟩
theorem At1.put {p:PS} {lv:Value} (h:At1 toks A cap p lv) (n:Nd):At toks A cap (p.put n) lv:=let ⟨k,h1,h2,h3,h4⟩:=h;⟨k,h1,h2,by simp only [PS.put,Xa,Xe];exact h3,h4⟩
theorem At.len {p:PS} {lv:Value} (h:At toks A cap p lv) (hl:toks.length≤1000):p.out.length≤1000000:=let ⟨k,h1,h2,h3,h4⟩:=h;by omega
theorem At1.grew {p p' :PS} {lv lv' :Value} {q:Prop} (h:At1 toks A cap p lv) (h' :At toks A cap p' lv') (hg:Grew p p' q):At1 toks A cap p' lv' :=by
 obtain ⟨k,h1,h2,h3,h4⟩:=h;obtain ⟨k',g1,g2,g3,g4⟩:=h';obtain ⟨⟨m,e1,e2,e3⟩,_,_⟩:=hg;rw [h2,Zy] at e1;rw [h2,Ya] at e2;have hk:k' =k+m:=by
  have:=congrArg List.length (g2.symm.trans e1);rw [Ya,Ya] at this;omega
 exact ⟨k',g1,g2,by omega,g4⟩
theorem eR {fn:Func} {fr:Fr} {w0:World} {R H:List Blk} {r:Out} {n:Nat} {p' :PS} {lv' :Value} {B' :Option Nat} {cb' :Nat} {e:Exit} {s:az} (he:e= .ret∨e= .normal) (hf:fn.results= #[]) (hr:r= .ok (n,p')) (hat:At toks A cap p' lv') (hs:MSub (pB g lv' A cap fin toks B' cb' p'.out++R) H):
 aX Tryz.prog fn fr w0 (PR toks A cap fin g R r) (PD R r) e s H:=VH (fJ he hf hs ⟨rfl,n,p',lv',B',cb',hr,hat,rfl⟩)
theorem cR {fn:Func} {fr:Fr} {w0:World} {R H:List Blk} {r:Out} {e:Int × Int} {s:az} {Rok:Value→List Blk→Prop} (hr:r= .error e) (hs:MSub R H):
 aX Tryz.prog fn fr w0 Rok (PD R r) (.panic (jV (Dk e))) s H:=Tu (.refl _) ⟨e,hr,rfl,hs⟩
theorem Ru (f:Nat) (ihS:POK f .sign 263 []) (ihP:POK f .pct 282 []):POK (f+1) .sign 263 []:=by
 intro toks A cap fin g p lv B cb r R w0 hc hl hat hrun;refine yR Tryz.func263 rfl Tryz.ntmps263 rfl ?_;rw [cy] at hrun;dsimp only at hrun;have hi:=fun w hm=>hat.is 2 (fin:=fin) (g:=g) (B:=B) (cb:=cb) (out:=p.out) (H:=pB g lv A cap fin toks B cb p.out++R) (w0:=w0) (MSub.pick .hd (.pick .hd (.pick .hd (.nil _)))) w hm;by_cases hs:(hdT fin p.l).kind=8∧(hdT fin p.l).num=2
 ·rw [if_pos hs] at hrun;obtain ⟨r1,hr1,hr2⟩:=d9 hrun;rw [decide_eq_true hs] at hi;repeat' (first|apply aa (f:=281);exact rfl;exact rfl;exact hi|apply aj (f:=266);exact rfl;exact rfl;exact hat.skip hc hs.1 (by decide) (MSub.pick pK (MSub.pick pK (MSub.pick pK (MSub.refl _))));rintro _ _ ⟨rfl,lv1,h1,rfl⟩|refine bL (f:=263) rfl rfl (FnP.msub (ihS toks A cap fin g p.skip _ B cb r1 _ w0 hc hl (At1.at h1) hr1) (MSub.pick pK (MSub.pick pK (MSub.pick pK (MSub.refl _))))) ?_ ?_|rintro _ _ ⟨rfl,n,p',lv',B',cb',rfl,h2,rfl⟩|rintro _ _ ⟨e,rfl,rfl,h3⟩|apply aj (f:=267);exact rfl;exact rfl;exact FnIn.msub (lL (gJ 4 0) _ _ _ _ _ _ _ _ _ (At.len h2 hl) _ _) (MSub.pick pK (MSub.pick pK (MSub.pick pK (MSub.refl _))));rintro _ _ ⟨rfl,B2,cb2,rfl⟩|refine zZC ?_|refine sM fun _=>?_|refine sC ?_ ?_<;>intro hb<;>try omega|fail)
  ·rcases hr2 with ⟨e,h,_⟩|⟨n1,p1,h,h5⟩
   ·cases h
   ·cases h;cases h5;exact eR (p' :=p'.put (gJ 4 0)) (.inl rfl) rfl rfl ((h1.grew h2 (kw _ _ _ _ _ _ hr1)).put _) (.refl _)
  ·rcases hr2 with ⟨e',h,h5⟩|⟨n1,p1,h,h5⟩
   ·cases h;exact cR h5 h3
   ·cases h
 ·rw [if_neg hs] at hrun;rw [decide_eq_false hs] at hi;obtain ⟨r1,hr1,hr2⟩:=d9 hrun;repeat' (first|apply aa (f:=281) (d:=3);exact rfl;exact rfl;exact hi|refine bL (f:=282) rfl rfl (FnP.msub (ihP toks A cap fin g p _ B cb r1 _ w0 hc hl hat hr1) (MSub.pick pK (MSub.pick pK (MSub.pick pK (MSub.refl _))))) ?_ ?_|rintro _ _ ⟨rfl,n,p',lv',B',cb',rfl,h2,rfl⟩|rintro _ _ ⟨e,rfl,rfl,h3⟩|refine zZC ?_|refine sM fun _=>?_|refine sC ?_ ?_<;>intro hb<;>try omega|fail)
  ·rcases hr2 with ⟨e,h,_⟩|⟨n1,p1,h,h5⟩
   ·cases h
   cases h;have hi2:=fun w hm=>h2.is 5 (fin:=fin) (g:=g) (B:=B') (cb:=cb') (out:=p'.out) (H:=pB g lv' A cap fin toks B' cb' p'.out++R) (w0:=w0) (MSub.pick .hd (.pick .hd (.pick .hd (.nil _)))) w hm;by_cases hs5:(hdT fin p'.l).kind=8∧(hdT fin p'.l).num=5
   ·rw [if_pos hs5] at h5;rw [decide_eq_true hs5] at hi2;obtain ⟨r2,hr3,hr4⟩:=d9 h5;repeat' (first|apply aa (f:=281) (d:=14);exact rfl;exact rfl;exact hi2|apply aj (f:=266);exact rfl;exact rfl;exact h2.skip hc hs5.1 (by decide) (MSub.pick pK (MSub.pick pK (MSub.pick pK (MSub.refl _))));rintro _ _ ⟨rfl,lv1,h1,rfl⟩|refine bL (f:=263) rfl rfl (FnP.msub (ihS toks A cap fin g p'.skip _ B' cb' r2 _ w0 hc hl (At1.at h1) hr3) (MSub.pick pK (MSub.pick pK (MSub.pick pK (MSub.refl _))))) ?_ ?_|rintro _ _ ⟨rfl,n2,p2,lv2,B2,cb2,rfl,h6,rfl⟩|rintro _ _ ⟨e,rfl,rfl,h3⟩|apply aj (f:=267);exact rfl;exact rfl;exact FnIn.msub (lL (gJ 6 5) _ _ _ _ _ _ _ _ _ (At.len h6 hl) _ _) (MSub.pick pK (MSub.pick pK (MSub.pick pK (MSub.refl _))));rintro _ _ ⟨rfl,B3,cb3,rfl⟩|refine zZC ?_|refine sM fun _=>?_|refine sC ?_ ?_<;>intro hb<;>try omega|fail)
    ·rcases hr4 with ⟨e,h,_⟩|⟨n3,p3,h,h7⟩
     ·cases h
     ·cases h;cases h7;exact eR (p' :=p2.put (gJ 6 5)) (.inr rfl) rfl rfl ((h1.grew h6 (kw _ _ _ _ _ _ hr3)).put _) (.refl _)
    ·rcases hr4 with ⟨e',h,h7⟩|⟨n3,p3,h,h7⟩
     ·cases h;exact cR h7 h3
     ·cases h
   ·rw [if_neg hs5] at h5;rw [decide_eq_false hs5] at hi2;cases h5;repeat' (first|apply aa (f:=281) (d:=14);exact rfl;exact rfl;exact hi2|refine zZC ?_|refine sM fun _=>?_|refine sC ?_ ?_<;>intro hb<;>try omega|fail)
    exact eR (.inr rfl) rfl rfl h2 (.refl _)
  ·rcases hr2 with ⟨e',h,h5⟩|⟨n1,p1,h,h5⟩
   ·cases h;exact cR h5 h3
   ·cases h
theorem IM (f:Nat) (ihP:POK f .prim 292 []):POK (f+1) .pct 282 []:=by
 intro toks A cap fin g p lv B cb r R w0 hc hl hat hrun;refine yR Tryz.func282 rfl Tryz.ntmps282 rfl ?_;rw [cy] at hrun;obtain ⟨r1,hr1,hr2⟩:=d9 hrun;repeat' (first|refine bL (f:=292) rfl rfl (FnP.msub (ihP toks A cap fin g p _ B cb r1 _ w0 hc hl hat hr1) (MSub.pick pK (MSub.pick pK (MSub.pick pK (MSub.refl _))))) ?_ ?_|rintro _ _ ⟨rfl,n,p',lv',B',cb',rfl,h2,rfl⟩|rintro _ _ ⟨e,rfl,rfl,h3⟩|refine zZC ?_|refine sM fun _=>?_|refine sC ?_ ?_<;>intro hb<;>try omega|fail)
 ·rcases hr2 with ⟨e,h,_⟩|⟨n1,p1,h,h5⟩
  ·cases h
  cases h;refine ax [0] rfl (fun _:Nat × PS × Value × Option Nat × Nat=> []) (fun x=>pB g x.2.2.1 A cap fin toks x.2.2.2.1 x.2.2.2.2 x.2.1.out++R) (fun x=>At toks A cap x.2.1 x.2.2.1∧cy fin x.1 .pctl x.2.1=some r) (fun x=>x.1) (f,p',lv',B',cb') ⟨h2,h5⟩ sB (.refl _) ?_;rintro ⟨f',q,lq,Bq,cq⟩ ⟨hq1,hq2⟩;dsimp only at hq1 hq2 ⊢
  cases f' with
  |zero=>cases hq2
  |succ f' =>
   rw [cy] at hq2;have hi:=fun w hm=>hq1.is 13 (fin:=fin) (g:=g) (B:=Bq) (cb:=cq) (out:=q.out) (H:=pB g lq A cap fin toks Bq cq q.out++R) (w0:=w0) (MSub.pick .hd (.pick .hd (.pick .hd (.nil _)))) w hm;by_cases hs:(hdT fin q.l).kind=8∧(hdT fin q.l).num=13
   ·rw [if_pos hs] at hq2;rw [decide_eq_true hs] at hi;repeat' (first|apply aa (f:=281);exact rfl;exact rfl;exact hi|apply aj (f:=266);exact rfl;exact rfl;exact hq1.skip hc hs.1 (by decide) (MSub.pick pK (MSub.pick pK (MSub.pick pK (MSub.refl _))));rintro _ _ ⟨rfl,lv1,h1,rfl⟩|apply aj (f:=267);exact rfl;exact rfl;exact FnIn.msub (lL (gJ 5 0) _ _ _ _ _ _ _ _ _ (At.len hq1 hl) _ _) (MSub.pick pK (MSub.pick pK (MSub.pick pK (MSub.refl _))));rintro _ _ ⟨rfl,B2,cb2,rfl⟩|refine zZC ?_|refine sM fun _=>?_|refine sC ?_ ?_<;>intro hb<;>try omega|fail)
    refine ⟨(f',q.skip.put (gJ 5 0),lv1,B2,cb2),⟨h1.put _,hq2⟩,aal _,sB,sB,.refl _⟩
   ·rw [if_neg hs] at hq2;rw [decide_eq_false hs] at hi;cases hq2;repeat' (first|apply aa (f:=281);exact rfl;exact rfl;exact hi|refine zZC ?_|refine sM fun _=>?_|refine sC ?_ ?_<;>intro hb<;>try omega|fail)
    exact eR (by first|exact .inr rfl|exact .inl rfl) rfl rfl hq1 (.refl _)
 ·rcases hr2 with ⟨e',h,h5⟩|⟨n1,p1,h,h5⟩
  ·cases h;exact cR h5 h3
  ·cases h
end
def SS (F:Int→PS→Option Out) (fid:FuncId) (args:List Value):Prop:=
 ∀ (toks:List Tk) (A:Option Nat) (cap:Nat) (fin:Int) (g:Nat) (p:PS) (lv:Value) (B:Option Nat) (cb:Nat) (r:Out) (R:List Blk) (w0:World),toks.length≤cap→toks.length≤1000→At toks A cap p lv→F fin p=some r→
  FnP Tryz.prog fid (.pointer (some ⟨g,0,none⟩)::args) w0 (pB g lv A cap fin toks B cb p.out++R) (PR toks A cap fin g R r) (PD R r)
def J1 (c:Int) (fin:Int) (p:PS):Option Out:=if (hdT fin p.l).kind≠c then some (.error ((hdT fin p.l).at_,4)) else some (.ok (0,p.skip))
theorem Cy (c:Int) (h0:c≠0):SS (J1 c) 297 [.int .u8 c]:=by
 intro toks A cap fin g p lv B cb r R w0 hc hl hat hrun;refine yR Tryz.func297 rfl Tryz.ntmps297 rfl ?_;have hh:=fun w hm=>hat.head (fin:=fin) (g:=g) (B:=B) (cb:=cb) (out:=p.out) (H:=pB g lv A cap fin toks B cb p.out++R) (w0:=w0) (MSub.pick .hd (.pick .hd (.pick .hd (.nil _)))) w hm;unfold J1 at hrun;obtain ⟨t,ht⟩: ∃ t,hdT fin p.l=t:=⟨_,rfl⟩;rw [ht] at hrun hh;by_cases hk:t.kind≠c
 ·rw [if_pos hk] at hrun;cases hrun;repeat' (first|apply aa (f:=170);exact rfl;exact rfl;exact hh|refine bL (f:=171) rfl rfl (jK _ _ _ _ _ (fun _ _=>False)) ?_ ?_|exact fun _ _ h=>h.elim|rintro _ _ ⟨rfl,rfl⟩|refine zZC ?_|refine sM fun _=>?_|refine sC ?_ ?_<;>intro hb<;>try omega|fail)
  all_goals first
   |omega
   | (refine cR rfl ?_
      dsimp only [List.cons_append,List.nil_append,pB];exact mS)
 ·rw [if_neg hk] at hrun;cases hrun;repeat' (first|apply aa (f:=170);exact rfl;exact rfl;exact hh|apply aj (f:=266);exact rfl;exact rfl;exact hat.skip hc (c:=c) (by rw [ht];omega) h0 (MSub.pick pK (MSub.pick pK (MSub.pick pK (MSub.refl _))));rintro _ _ ⟨rfl,lv1,h1,rfl⟩|refine zZC ?_|refine sM fun _=>?_|refine sC ?_ ?_<;>intro hb<;>try omega|fail)
  all_goals first
   |omega
   | (refine eR (B' := B) (cb' := cb) (by first | exact .inr rfl | exact .inl rfl) rfl rfl (At1.at h1) ?_
      dsimp only [List.cons_append,List.nil_append,pB];exact mS)
theorem sr (v:Vl):SS (fun fin p=>if (hdT fin p.l).kind=0 then none else some (.ok (0,p.skip.put ⟨1,v,bU,0,0,0⟩))) 296 [.agg (fp v).toArray]:=by
 intro toks A cap fin g p lv B cb r R w0 hc hl hat hrun;refine yR Tryz.func296 rfl Tryz.ntmps296 rfl ?_;dsimp only at hrun;by_cases hk:(hdT fin p.l).kind=0
 ·rw [if_pos hk] at hrun;cases hrun
 rw [if_neg hk] at hrun;cases hrun;repeat' (first|apply aj (f:=266);exact rfl;exact rfl;exact hat.skip hc rfl hk (MSub.pick pK (MSub.pick pK (MSub.pick pK (MSub.refl _))));rintro _ _ ⟨rfl,lv1,h1,rfl⟩|apply aj (f:=267);exact rfl;exact rfl;exact FnIn.msub (lL ⟨1,v,bU,0,0,0⟩ _ _ _ _ _ _ _ _ _ (At.len hat hl) _ _) (MSub.pick pK (MSub.pick pK (MSub.pick pK (MSub.refl _))));rintro _ _ ⟨rfl,B3,cb3,rfl⟩|refine zZC ?_|refine sM fun _=>?_|refine sC ?_ ?_<;>intro hb<;>try omega|fail)
 all_goals
  refine eR (p' :=p.skip.put ⟨1,v,bU,0,0,0⟩) (B' :=B3) (cb' :=cb3) (by first|exact .inr rfl|exact .inl rfl) rfl rfl (h1.put _) ?_;dsimp only [List.cons_append,List.nil_append,pB];exact mS
theorem Jd (f:Nat) (ih:POK f (.level 1) 234 [.int .i64 1]):POK f (.level 1) 169 []:=by
 intro toks A cap fin g p lv B cb r R w0 hc hl hat hrun;refine yR Tryz.func169 rfl Tryz.ntmps169 rfl ?_;repeat' (first|refine bL (f:=234) rfl rfl (FnP.msub (ih toks A cap fin g p _ B cb r _ w0 hc hl hat hrun) (MSub.pick pK (MSub.pick pK (MSub.pick pK (MSub.refl _))))) ?_ ?_|rintro _ _ ⟨rfl,n,p',lv',B',cb',rfl,h2,rfl⟩|rintro _ _ ⟨e,rfl,rfl,h3⟩|refine zZC ?_|refine sM fun _=>?_|refine sC ?_ ?_<;>intro hb<;>try omega|fail)
 ·exact eR (by first|exact .inr rfl|exact .inl rfl) rfl rfl h2 (.refl _)
 ·exact cR rfl h3
def MV (f:Nat) (fn:Int) (n:Nat) (fin:Int) (p:PS):Option Out:=
 if (hdT fin p.l).kind≠6 then gG (cy fin f (.level 1) p) fun _ p=>some (.ok (0,p))
 else if (sm fn n).1=false∨(sm fn n).2≠0 then some (.error ((hdT fin p.l).at_,4))
 else some (.ok (0,p.skip.put ⟨3,cU,(hdT fin p.l).rect,0,0,0⟩))
theorem E0 {o:Option Out} {k k' :Nat→PS→Option Out}:gG (gG o k) k' =gG o fun n p=>gG (k n p) k' :=by
 match o with
 |none=>rfl
 |some (.ok (n,p))=>rfl
 |some (.error e)=>rfl
theorem SH (fin:Int) (f:Nat) (fn:Int) (n:Nat) (p:PS):cy fin (f+1) (.args fn n) p=gG (MV f fn n fin p) fun _ p=>if (hdT fin p.l).kind=11 then cy fin f (.args fn (n+1)) p.skip else some (.ok (n+1,p)):=by
 rw [cy];unfold MV;split
 ·rw [E0];rfl
 ·split<;>rfl
theorem G7 (f:Nat) (fn:Int) (n:Nat) (ih:POK f (.level 1) 169 []):SS (MV f fn n) 302 [.int .u8 fn,.int .i64 n]:=by
 intro toks A cap fin g p lv B cb r R w0 hc hl hat hrun;refine yR Tryz.func302 rfl Tryz.ntmps302 rfl ?_;have hh:=fun w hm=>hat.head (fin:=fin) (g:=g) (B:=B) (cb:=cb) (out:=p.out) (H:=pB g lv A cap fin toks B cb p.out++R) (w0:=w0) (MSub.pick .hd (.pick .hd (.pick .hd (.nil _)))) w hm;unfold MV at hrun;obtain ⟨t,ht⟩: ∃ t,hdT fin p.l=t:=⟨_,rfl⟩;rw [ht] at hrun hh;by_cases hk:t.kind≠6
 ·rw [if_pos hk] at hrun;obtain ⟨r1,hr1,hr2⟩:=d9 hrun;repeat' (first|apply aa (f:=170);exact rfl;exact rfl;exact hh|refine bL (f:=169) rfl rfl (FnP.msub (ih toks A cap fin g p _ B cb r1 _ w0 hc hl hat hr1) (MSub.pick pK (MSub.pick pK (MSub.pick pK (MSub.refl _))))) ?_ ?_|rintro _ _ ⟨rfl,n,p',lv',B',cb',rfl,h2,rfl⟩|rintro _ _ ⟨e,rfl,rfl,h3⟩|refine zZC ?_|refine sM fun _=>?_|refine sC ?_ ?_<;>intro hb<;>try omega|fail)
  ·rcases hr2 with ⟨e,h,_⟩|⟨n1,p1,h,h5⟩
   ·cases h
   ·cases h;cases h5;refine eR (B' :=B') (cb' :=cb') (by first|exact .inr rfl|exact .inl rfl) rfl rfl h2 ?_;simp only [XH,Xc,Xd,pB];exact mS
  ·rcases hr2 with ⟨e',h,h5⟩|⟨n1,p1,h,h5⟩
   ·cases h;exact cR h5 (MSub.trans (.drop .hd (.refl _)) h3)
   ·cases h
 ·rw [if_neg hk] at hrun;have hw:=fun w=>JY fn n w;obtain ⟨wb,we,hwe⟩: ∃ wb we,sm fn n=(wb,we):=⟨_,_,rfl⟩;rw [hwe] at hrun hw;by_cases hwk:wb=false∨we≠0
  ·rw [if_pos hwk] at hrun;cases hrun;repeat' (first|apply aa (f:=170);exact rfl;exact rfl;exact hh|apply aa (f:=284);exact rfl;exact rfl;intro w' _;exact hw w'|refine bL (f:=171) rfl rfl (jK _ _ _ _ _ (fun _ _=>False)) ?_ ?_|exact fun _ _ h=>h.elim|rintro _ _ ⟨rfl,rfl⟩|refine zZC ?_|refine sM fun _=>?_|refine sC ?_ ?_<;>intro hb<;>try omega|fail)
   all_goals first
    |exfalso;simp_all<;>omega
    |omega
    | (refine cR rfl ?_
       simp only [XH,Xc,Xd,pB];exact mS)
  ·rw [if_neg hwk] at hrun;cases hrun;repeat' (first|apply aa (f:=170);exact rfl;exact rfl;exact hh|apply aa (f:=284);exact rfl;exact rfl;intro w' _;exact hw w'|apply aj (f:=266);exact rfl;exact rfl;exact hat.skip hc (c:=6) (by rw [ht];omega) (by decide) (MSub.pick pK (MSub.pick pK (MSub.pick pK (MSub.refl _))));rintro _ _ ⟨rfl,lv1,h1,rfl⟩|apply aj (f:=267);exact rfl;exact rfl;exact FnIn.msub (lL ⟨3,cU,t.rect,0,0,0⟩ _ _ _ _ _ _ _ _ _ (At.len hat hl) _ _) (MSub.pick pK (MSub.pick pK (MSub.pick pK (MSub.refl _))));rintro _ _ ⟨rfl,B3,cb3,rfl⟩|refine zZC ?_|refine sM fun _=>?_|refine sC ?_ ?_<;>intro hb<;>try omega|fail)
   all_goals first
    |exfalso;simp_all<;>omega
    |omega
    | (refine eR (p' := p.skip.put ⟨3, cU, t.rect, 0, 0, 0⟩) (B' := B3) (cb' := cb3) (by first | exact .inr rfl | exact .inl rfl) rfl rfl (h1.put _) ?_
       simp only [XH,Xc,Xd,pB];exact mS)
end Go.SL

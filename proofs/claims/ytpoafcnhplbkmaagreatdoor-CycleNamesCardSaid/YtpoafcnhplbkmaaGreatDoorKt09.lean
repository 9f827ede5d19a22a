/-
  Lemmas and walks, put together: A2 D3 Px2 C1 D6 S1 A2p Px3 S2 S3 S4 D4 C2 D5.
-/
import Derived.Test.YtpoafcnhplbkmaaGreatDoorKt08
set_option linter.unusedSimpArgs false
set_option linter.unusedVariables false
set_option maxRecDepth 20000
set_option maxHeartbeats 16000000
namespace Go.SL
open Go Go.Proofs
attribute [local irreducible] W WL WQ WG WA VOp thn blk aW aJ FnAt FnIn
structure Pc where
 m0:Int
 m1:Int
 v0:Int
 v1:Int
 ok:Bool
def rf (p:Pc):List Value:= [.int .i64 p.m0,.int .i64 p.m1,.int .i64 p.v0,.int .i64 p.v1,.bool p.ok]
def gz (p:Pc) (c:Int):Pc:=⟨p.m0+1,p.m1,min (26*p.v0+(c - 65)+1) 1025,p.v1,p.ok && decide (p.m1=0)⟩
def dJ (p:Pc) (c:Int):Pc:=⟨p.m0,p.m1+1,p.v0,min (10*p.v1+(c - 48)) 1025,p.ok && (decide (c≠48)||decide (0<p.m1))⟩
structure Pc.Fit (p:Pc) (n:Int):Prop where
 m0:0≤p.m0∧p.m0≤n
 m1:0≤p.m1∧p.m1≤n
 v0:0≤p.v0∧p.v0≤1025
 v1:0≤p.v1∧p.v1≤1025
theorem Cz (a b:Int):(if b<a then b else a)=min a b:=by omega
theorem Ba (p:Pc) (c:Int) (n:Int) (hf:p.Fit n) (hn:n≤1000000) (h1:65≤c) (h2:c≤90) (g:Nat) (R:List Blk) (w0:World):
 FnIn Tryz.prog 294 [.pointer (some ⟨g,0,none⟩),.int .u8 c,.bool true] w0 (.box g 345 (rf p)::R) fun v H=>v= .tuple #[]∧H= .box g 345 (rf (gz p c))::R:=by
 refine cd Tryz.func294 rfl Tryz.ntmps294 rfl ?_;obtain ⟨a1,a2⟩:=hf.m0;obtain ⟨a3,a4⟩:=hf.m1;obtain ⟨a5,a6⟩:=hf.v0;obtain ⟨a7,a8⟩:=hf.v1;have hwc:IntKind.u8.wrap (c - 65)=c - 65:=jK (by omega) (by omega);have hwc2:IntKind.i64.wrap (c - 65)=c - 65:=I64.wrap ⟨by omega,by omega⟩;repeat' (first|(refine od (id:=1) (ι:=Bool) (fun _=> [(0,.pointer (some ⟨g,0,none⟩)),(1,.int .u8 c)]) (fun b=> .box g 345 [.int .i64 p.m0,.int .i64 p.m1,.int .i64 p.v0,.int .i64 p.v1,.bool b]::R) (fun b=>b=(p.ok && decide (p.m1=0))) ?_ ?_)|refine zZJ ?_|refine sM fun _=>?_|(refine sC ?_ ?_<;>intro hb<;>try omega)|exact cT|fail)
 ·(apply dr;rotate_left 1;exact sB;exact mS);rw [hb];rfl
 ·(apply dr;rotate_left 1;exact sB;exact mS);rw [hb];rfl
 rintro _ rfl;repeat' (first|(refine iN (id:=2) 9 (.box g 345 [.int .i64 (p.m0+1),.int .i64 p.m1,.int .i64 p.v0,.int .i64 p.v1,.bool (p.ok && decide (p.m1=0))]::R) (by kernel_rfl) (by kernel_rfl) rfl ?_)|(refine iN (id:=3) 16 (.box g 345 [.int .i64 (p.m0+1),.int .i64 p.m1,.int .i64 (min (26*p.v0+(c - 65)+1) 1025),.int .i64 p.v1,.bool (p.ok && decide (p.m1=0))]::R) (by kernel_rfl) (by kernel_rfl) rfl ?_)|(apply iL (f:=60);exact rfl;decide+kernel;exact rfl;apply gT;exact rfl;exact rfl;exact hwc)|(apply iL (f:=60);exact rfl;decide+kernel;exact rfl;apply dU;exact rfl;exact hwc2)|(apply mO;exact rfl;exact rfl;exact .hd;exact rfl;exact rfl;(try rw [Cz]);exact .refl _)|refine zZJ ?_|refine sM fun _=>?_|(refine sC ?_ ?_<;>intro hb<;>try omega)|exact cT|fail)
 exact gN (.inl rfl) rfl (.refl _) ⟨rfl,rfl⟩
theorem Bb (p:Pc) (c:Int) (n:Int) (hf:p.Fit n) (hn:n≤1000000) (h1:48≤c) (h2:c≤57) (g:Nat) (R:List Blk) (w0:World):
 FnIn Tryz.prog 294 [.pointer (some ⟨g,0,none⟩),.int .u8 c,.bool false] w0 (.box g 345 (rf p)::R) fun v H=>v= .tuple #[]∧H= .box g 345 (rf (dJ p c))::R:=by
 refine cd Tryz.func294 rfl Tryz.ntmps294 rfl ?_;obtain ⟨a1,a2⟩:=hf.m0;obtain ⟨a3,a4⟩:=hf.m1;obtain ⟨a5,a6⟩:=hf.v0;obtain ⟨a7,a8⟩:=hf.v1;have hwc:IntKind.u8.wrap (c - 48)=c - 48:=jK (by omega) (by omega);have hwc2:IntKind.i64.wrap (c - 48)=c - 48:=I64.wrap ⟨by omega,by omega⟩;repeat' (first|(refine od (id:=4) (ι:=Bool) (fun _=> [(0,.pointer (some ⟨g,0,none⟩)),(1,.int .u8 c)]) (fun b=> .box g 345 [.int .i64 p.m0,.int .i64 p.m1,.int .i64 p.v0,.int .i64 p.v1,.bool b]::R) (fun b=>b=(p.ok && (decide (c≠48)||decide (0<p.m1)))) ?_ ?_)|refine zZJ ?_|refine sM fun _=>?_|(refine sC ?_ ?_<;>intro hb<;>try omega)|exact cT|fail)
 ·(apply dr;rotate_left 1;exact sB;exact mS);rename_i h3;rw [h3,decide_eq_true hb];rfl
 ·(apply dr;rotate_left 1;exact sB;exact mS);rename_i h3;rw [h3,decide_eq_false hb];rfl
 ·(apply dr;rotate_left 1;exact sB;exact mS);rw [hb];rfl
 rintro _ rfl;repeat' (first|(refine iN (id:=5) 9 (.box g 345 [.int .i64 p.m0,.int .i64 (p.m1+1),.int .i64 p.v0,.int .i64 p.v1,.bool (p.ok && (decide (c≠48)||decide (0<p.m1)))]::R) (by kernel_rfl) (by kernel_rfl) rfl ?_)|(refine iN (id:=6) 15 (.box g 345 [.int .i64 p.m0,.int .i64 (p.m1+1),.int .i64 p.v0,.int .i64 (min (10*p.v1+(c - 48)) 1025),.bool (p.ok && (decide (c≠48)||decide (0<p.m1)))]::R) (by kernel_rfl) (by kernel_rfl) rfl ?_)|(apply iL (f:=60);exact rfl;decide+kernel;exact rfl;apply gT;exact rfl;exact rfl;exact hwc)|(apply iL (f:=60);exact rfl;decide+kernel;exact rfl;apply dU;exact rfl;exact hwc2)|(apply mO;exact rfl;exact rfl;exact .hd;exact rfl;exact rfl;(try rw [Cz]);exact .refl _)|refine zZJ ?_|refine sM fun _=>?_|(refine sC ?_ ?_<;>intro hb<;>try omega)|exact cT|fail)
 exact gN (.inr rfl) rfl (.refl _) ⟨rfl,rfl⟩
def aV (p:Pc) (c:Int):Pc:=if 65≤upC c∧upC c≤90 then gz p (upC c) else if 48≤c∧c≤57 then dJ p c else ⟨p.m0,p.m1,p.v0,p.v1,false⟩
def pc0:Pc:=⟨0,0,0,0,true⟩
theorem xg {p:Pc} {c:Int} (h1:97≤c) (h2:c≤122):aV p c=gz p (c - 32):=by
 have e:upC c=c - 32:=by rw [upC,if_pos ⟨h1,h2⟩]
 rw [aV,e,if_pos (by omega)]
theorem zR {p:Pc} {c:Int} (h1:65≤c) (h2:c≤90):aV p c=gz p c:=by
 have e:upC c=c:=by rw [upC,if_neg (by omega)]
 rw [aV,e,if_pos (by omega)]
theorem yt {c:Int} (h: ¬ (97≤c∧c≤122)):upC c=c:=by rw [upC,if_neg h]
theorem oX {p:Pc} {c:Int} (h1:48≤c) (h2:c≤57):aV p c=dJ p c:=by
 rw [aV,yt (by omega),if_neg (by omega),if_pos ⟨h1,h2⟩]
theorem qR {p:Pc} {c:Int} (h: ¬ (97≤c∧c≤122)) (h2: ¬ (65≤c∧c≤90)) (h3: ¬ (48≤c∧c≤57)):aV p c=⟨p.m0,p.m1,p.v0,p.v1,false⟩:=by
 rw [aV,yt h,if_neg h2,if_neg h3]
theorem xj {p:Pc} {n:Int} (h:p.Fit n) (c:Int):(aV p c).Fit (n+1):=by
 obtain ⟨⟨a1,a2⟩,⟨a3,a4⟩,⟨a5,a6⟩,⟨a7,a8⟩⟩:=h;unfold aV;split
 ·exact ⟨⟨by simp only [gz];omega,by simp only [gz];omega⟩,⟨a3,by simp only [gz];omega⟩,⟨by simp only [gz];omega,by simp only [gz];omega⟩,⟨a7,a8⟩⟩
 ·split
  ·exact ⟨⟨a1,by simp only [dJ];omega⟩,⟨by simp only [dJ];omega,by simp only [dJ];omega⟩,⟨a5,a6⟩,⟨by simp only [dJ];omega,by simp only [dJ];omega⟩⟩
  ·exact ⟨⟨a1,by dsimp only;omega⟩,⟨a3,by dsimp only;omega⟩,⟨a5,a6⟩,⟨a7,a8⟩⟩
def nB (l:List Int):Pc:=l.foldl aV pc0
theorem wo (a:ByteArray) (ha:a.size≤100000) (w:World):aC Tryz.prog 275 [.string a] w (.agg (rf (nB (aq a))).toArray):=by
 refine ax Tryz.func275 rfl Tryz.ntmps275 rfl ?_;have hl:=av a;repeat' (first|refine zZD ?_|refine sM fun _=>?_|(refine sC ?_ ?_<;>intro hb<;>try omega)|exact cT|fail)
 rename_i g2 g3;refine aB [0,2,3,9] rfl (fun x:Nat × Pc=> [(10,.int .i64 (x.1:Int))]) (fun x=> [.box g3 345 (rf x.2),.box g2 345 [.int .i64 0,.int .i64 0,.int .i64 0,.int .i64 0,.bool false]]) (fun x=>x.1≤a.size∧x.2.Fit x.1∧nB (aq a)=((aq a).drop x.1).foldl aV x.2) (fun x=>a.size - x.1) (0,pc0) ⟨Iw _,⟨⟨by decide,by decide⟩,⟨by decide,by decide⟩,⟨by decide,by decide⟩,⟨by decide,by decide⟩⟩,rfl⟩ sB mS ?_;rintro ⟨i,p⟩ ⟨hi,hf,hr⟩;dsimp only at hi hf hr ⊢;by_cases hlt:i<a.size
 ·rw [bO hlt,J9] at hr;have hc:=GP a i;generalize hcd:bat a i=c at hr hc;have hf2:=xj hf c;repeat' (first|(apply ai (d:=15);exact rfl;exact hcd ▸ ug rfl rfl hlt)|(apply ai (d:=38);exact rfl;apply gT;exact rfl;exact rfl;exact jK (by omega) (by omega))|(apply ap (d:=41);exact rfl;exact rfl;(first|exact FnIn.msub (Ba p _ _ hf (by omega) (by omega) (by omega) _ _ _) (.pick pK (.refl _))|exact FnIn.msub (Bb p _ _ hf (by omega) (by omega) (by omega) _ _ _) (.pick pK (.refl _)));rintro _ _ ⟨rfl,rfl⟩)|refine zZF ?_|refine sM fun _=>?_|(refine sC ?_ ?_<;>intro hb<;>try omega)|exact cT|fail)
  all_goals
   refine ⟨(i+1,aV p c),⟨hlt,by have:=hf2;simpa using this,hr⟩,(by dsimp only;omega),sB,sB,?_⟩;dsimp only
   first
   |(rw [xg (by omega) (by omega)];exact mS;done)
   |(rw [zR (by omega) (by omega)];exact mS;done)
   |(rw [oX (by omega) (by omega)];exact mS;done)
   |(rw [qR (by omega) (by omega) (by omega)];exact mS;done)
 ·have e:i=a.size:=by omega
  subst e;rw [I7 (by omega),List.foldl_nil] at hr;rw [hr];repeat' (first|refine zZD ?_|refine sM fun _=>?_|(refine sC ?_ ?_<;>intro hb<;>try omega)|exact cT|fail)
  exact Cl (.inl rfl) rfl rfl .hd rfl (MSub.nil _) rfl
def rB (l:List Int):Int × Int × Int:=
 if (nB l).ok=false∨(nB l).m0=0∨(nB l).m1=0 then (0,0,4)
 else if valid (nB l).v0 (nB l).v1 then ((nB l).v0,(nB l).v1,0) else (0,0,3)
theorem tE (a:ByteArray) (ha:a.size≤100000) (w:World):aC Tryz.prog 241 [.string a] w (.tuple #[.agg #[.int .i64 (rB (aq a)).1,.int .i64 (rB (aq a)).2.1],.int .i64 (rB (aq a)).2.2]):=by
 refine ax Tryz.func241 rfl Tryz.ntmps241 rfl ?_;unfold rB;generalize hp:nB (aq a)=p;have hR:=wo a ha;rw [hp] at hR;repeat' (first|(apply ag;exact rfl;exact rfl;(intro w hm;exact hR w))|(apply ag;exact rfl;exact rfl;(intro w hm;exact jq p.v0 p.v1 w))|refine zZD ?_|refine sM fun _=>?_|(refine sC ?_ ?_<;>intro hb<;>try omega)|exact cT|fail)
 all_goals
  (refine jm ?_);simp_all
def bf (a b:Rf):Bool:=decide (a.row<b.row)||(decide (a.row=b.row) && decide (a.col<b.col))
theorem Fj (a b:Rf) (w:World):aC Tryz.prog 87 [.agg (az a).toArray,.agg (az b).toArray] w (.bool (bf a b)):=by
 refine ax Tryz.func87 rfl Tryz.ntmps87 rfl ?_;repeat' (first|refine sT ?_|refine sM fun _=>?_|(refine sC ?_ ?_<;>intro hb<;>try omega)|exact cT|fail)
 all_goals ((refine rT1 ?_);((try simp only [← Int.not_lt] at*);simp_all [bf, -Int.not_lt, -Int.not_le,← Int.not_lt]))
theorem mM (a:Rf) (w:World):aC Tryz.prog 32 [.agg (az a).toArray] w (.agg (qm (j9 a.col a.row)).toArray):=by
 refine ax Tryz.func32 rfl Tryz.ntmps32 rfl ?_;repeat' (first|refine sT ?_|refine sM fun _=>?_|(refine sC ?_ ?_<;>intro hb<;>try omega)|exact cT|fail)
 (refine eRC ?_)
 rfl
def vw (r:Rct) (a:Rf):Bool:=decide (r.c1≤a.col) && decide (a.col≤r.c2) && decide (r.r1≤a.row) && decide (a.row≤r.r2)
theorem GW (r:Rct) (a:Rf) (w:World):aC Tryz.prog 74 [.agg (qm r).toArray,.agg (az a).toArray] w (.bool (vw r a)):=by
 refine ax Tryz.func74 rfl Tryz.ntmps74 rfl ?_;repeat' (first|refine sT ?_|refine sM fun _=>?_|(refine sC ?_ ?_<;>intro hb<;>try omega)|exact cT|fail)
 all_goals ((refine rT1 ?_);((try simp only [← Int.not_lt] at*);simp_all [vw, -Int.not_lt, -Int.not_le,← Int.not_lt]))
end Go.SL
namespace Go.SL
open Go Go.Proofs
attribute [local irreducible] W WL WQ WG WA WX WLI WR WT VOp RW thn blk aW scp aJ aS bg FnAt FnIn FnP
def gP (a b:Rf):Int:=if bf a b then -1 else if bf b a then 1 else 0
end Go.SL
namespace Go.SL
open Go
def Job.c:Job→Nat
 | .level k=>(9 - k).toNat
 | .loop _=>1
 | .sign=>3
 | .pct=>2
 | .pctl=>1
 | .prim=>1
 | .args _ _=>9
def Job.fit:Job→Prop
 | .level k=>1≤k∧k≤5
 | .loop k=>1≤k∧k≤4
 |_=>True
def Job.eats:Job→Prop
 | .loop _=>False
 | .pctl=>False
 |_=>True
def ww (p:PS) (strict:Prop) (r:Out):Prop:= ∀ n p',r= .ok (n,p')→p'.l.length≤p.l.length∧(strict→p'.l.length<p.l.length)
def yd (o:Option Out) (B:Out→Prop):Prop:= ∃ r,o=some r∧B r
theorem bQ {B:Out→Prop} {r:Out} (h:B r):yd (some r) B:=⟨r,rfl,h⟩
theorem bz {p:PS} {q:Prop} {e:Int × Int}:ww p q (.error e):=fun _ _ h=>by cases h
theorem eV {p p' :PS} {q:Prop} {n:Nat} (h:p'.l.length≤p.l.length) (hq:q→p'.l.length<p.l.length):ww p q (.ok (n,p')):=fun m p2 h2=>by
 cases h2;exact ⟨h,hq⟩
theorem dx {o:Option Out} {k:Nat→PS→Option Out} {p:PS} {q:Prop} {B:Out→Prop} (h:yd o (ww p q)) (he: ∀ e,B (.error e)) (hk: ∀ n p',p'.l.length≤p.l.length→(q→p'.l.length<p.l.length)→yd (k n p') B):yd (dB o k) B:=by
 obtain ⟨r,rfl,hr⟩:=h
 cases r with
 |error e=>exact ⟨_,rfl,he e⟩
 |ok x=>
  obtain ⟨n,p'⟩:=x;obtain ⟨h1,h2⟩:=hr n p' rfl;exact hk n p' h1 h2
theorem eQ {fin:Int} {l:List Tk} (h:(hdT fin l).kind≠0):0<l.length:=by
 cases l with
 |nil=>exact absurd rfl h
 |cons=>simp
theorem dm (p:PS):p.skip.l.length=p.l.length - 1:=by simp [PS.skip]
theorem cz (p:PS) (n:Nd):(p.put n).l=p.l:=rfl
theorem lN {fin:Int} {name:Tk} {fn:Int} {n:Nat} {p p0:PS} {q:Prop} (h:p.l.length≤p0.l.length) (hq:0<p.l.length→q→p.l.length - 1<p0.l.length):yd (cG fin name fn n p) (ww p0 q):=by
 unfold cG;dsimp only;split
 ·exact bQ bz
 ·rename_i hk;have hpos:=eQ (fin:=fin) (l:=p.l) (by omega);split
  ·exact bQ bz
  ·split
   ·exact bQ bz
   ·refine bQ (eV ?_ fun hh=> ?_)
    ·rw [cz,dm];omega
    ·rw [cz,dm];exact hq hpos hh
theorem qN (fin:Int): ∀ (f:Nat) (j:Job) (p:PS),j.fit→20*p.l.length+j.c≤f→yd (aU fin f j p) (ww p j.eats):=by
 intro f
 induction f with
 |zero=>
  intro j p hj hf
  cases j with
  |level k=>obtain ⟨h1,h2⟩:=hj;simp only [Job.c] at hf;omega
  |_=>simp only [Job.c] at hf;omega
 |succ f ih=>
  intro j p hj hf
  cases j with
  |level k=>
   obtain ⟨h1,h2⟩:=hj;simp only [Job.c] at hf;rw [aU];split
   ·obtain ⟨r,hr,hl⟩:=ih .sign p trivial (by simp only [Job.c];omega);exact ⟨r,hr,hl⟩
   ·refine dx (ih (.level (k+1)) p ⟨by omega,by omega⟩ (by simp only [Job.c];omega)) (fun e=>bz) fun n p' h3 h4=> ?_;have h5:=h4 trivial;obtain ⟨r,hr,hl⟩:=ih (.loop k) p' ⟨h1,by omega⟩ (by simp only [Job.c];omega);exact ⟨r,hr,fun m q hq=>⟨by have:=(hl m q hq).1;omega,fun _=>by have:=(hl m q hq).1;omega⟩⟩
  |loop k=>
   obtain ⟨h1,h2⟩:=hj;simp only [Job.c] at hf;rw [aU];split
   ·rename_i hk;have hpos:=eQ (fin:=fin) (l:=p.l) (by omega);have hs:=dm p;refine dx (ih (.level (k+1)) p.skip ⟨by omega,by omega⟩ (by simp only [Job.c];omega)) (fun e=>bz) fun n p' h3 h4=> ?_;have h5:=h4 trivial;obtain ⟨r,hr,hl⟩:=ih (.loop k) (p'.put (dD 6 (hdT fin p.l).num)) ⟨h1,h2⟩ (by rw [cz];simp only [Job.c];omega);exact ⟨r,hr,fun m q hq=>⟨by have:=(hl m q hq).1;rw [cz] at this;omega,fun h=>h.elim⟩⟩
   ·exact bQ (eV (IK _) fun h=>h.elim)
  |sign=>
   simp only [Job.c] at hf;rw [aU];dsimp only;split
   ·rename_i hk;have hpos:=eQ (fin:=fin) (l:=p.l) (by omega);have hs:=dm p;refine dx (ih .sign p.skip trivial (by simp only [Job.c];omega)) (fun e=>bz) fun n p' h3 h4=> ?_;have h5:=h4 trivial;exact bQ (eV (by rw [cz];omega) fun _=>by rw [cz];omega)
   ·refine dx (ih .pct p trivial (by simp only [Job.c];omega)) (fun e=>bz) fun n p' h3 h4=> ?_;have h5:=h4 trivial;split
    ·have hs:=dm p';refine dx (ih .sign p'.skip trivial (by simp only [Job.c];omega)) (fun e=>bz) fun n p2 h6 h7=> ?_;exact bQ (eV (by rw [cz];omega) fun _=>by rw [cz];omega)
    ·exact bQ (eV h3 fun _=>h5)
  |pct=>
   simp only [Job.c] at hf;rw [aU];refine dx (ih .prim p trivial (by simp only [Job.c];omega)) (fun e=>bz) fun n p' h3 h4=> ?_;have h5:=h4 trivial;obtain ⟨r,hr,hl⟩:=ih .pctl p' trivial (by simp only [Job.c];omega);exact ⟨r,hr,fun m q hq=>⟨by have:=(hl m q hq).1;omega,fun _=>by have:=(hl m q hq).1;omega⟩⟩
  |pctl=>
   simp only [Job.c] at hf;rw [aU];split
   ·rename_i hk;have hpos:=eQ (fin:=fin) (l:=p.l) (by omega);have hs:=dm p;obtain ⟨r,hr,hl⟩:=ih .pctl (p.skip.put (dD 5 0)) trivial (by rw [cz];simp only [Job.c];omega);exact ⟨r,hr,fun m q hq=>⟨by have:=(hl m q hq).1;rw [cz] at this;omega,fun h=>h.elim⟩⟩
   ·exact bQ (eV (IK _) fun h=>h.elim)
  |prim=>
   simp only [Job.c] at hf;rw [aU];dsimp only;have hs:=dm p;have hs2:=dm p.skip;split
   ·rename_i hk;have hpos:=eQ (fin:=fin) (l:=p.l) (by omega);exact bQ (eV (by rw [cz];omega) fun _=>by rw [cz];omega)
   ·split
    ·rename_i hk;have hpos:=eQ (fin:=fin) (l:=p.l) (by omega);exact bQ (eV (by rw [cz];omega) fun _=>by rw [cz];omega)
    ·split
     ·rename_i hk;have hpos:=eQ (fin:=fin) (l:=p.l) (by omega);refine dx (ih (.level 1) p.skip ⟨by omega,by omega⟩ (by simp only [Job.c];omega)) (fun e=>bz) fun n p' h3 h4=> ?_;have h5:=h4 trivial;have hs3:=dm p';split
      ·exact bQ bz
      ·exact bQ (eV (by omega) fun _=>by omega)
     ·split
      ·rename_i hk;have hpos:=eQ (fin:=fin) (l:=p.l) (by omega);split
       ·exact bQ bz
       ·split
        ·exact bQ bz
        ·rename_i hk2;have hpos2:=eQ (fin:=fin) (l:=p.skip.l) (by omega);split
         ·exact lN (by omega) fun _ _=>by omega
         ·refine dx (ih (.args (bE (hdT fin p.l).text).1 0) p.skip.skip trivial (by simp only [Job.c];omega)) (fun e=>bz) fun n p' h3 h4=> ?_;exact lN (by omega) fun _ _=>by omega
      ·exact bQ bz
  |args fn n=>
   simp only [Job.c] at hf;rw [aU];dsimp only;have hgo: ∀ p' :PS,p'.l.length<p.l.length→yd (if (hdT fin p'.l).kind=11 then aU fin f (.args fn (n+1)) p'.skip else some (.ok (n+1,p'))) (ww p (Job.args fn n).eats):=by
    intro p' hp;have hs:=dm p';split
    ·obtain ⟨r,hr,hl⟩:=ih (.args fn (n+1)) p'.skip trivial (by simp only [Job.c];omega);exact ⟨r,hr,fun m q hq=>⟨by have:=(hl m q hq).1;omega,fun _=>by have:=(hl m q hq).1;omega⟩⟩
    ·exact bQ (eV (by omega) fun _=>hp)
   split
   ·refine dx (ih (.level 1) p ⟨by omega,by omega⟩ (by simp only [Job.c];omega)) (fun e=>bz) fun m p' h3 h4=> ?_;exact hgo p' (h4 trivial)
   ·rename_i hk;have hpos:=eQ (fin:=fin) (l:=p.l) (by omega);have hs:=dm p;split
    ·exact bQ bz
    ·exact hgo _ (by rw [cz];omega)
end Go.SL
namespace Go.SL
open Go Go.Proofs
attribute [local irreducible] W WL WQ WG WA WX WLI WR WT VOp thn blk aW scp aJ bg FnAt FnIn
def TkV (v:Value) (A:Option Nat) (n cap k:Nat):Prop:= ∃ a:Option Addr,v= .slice a (n - k) (cap - k)∧(k<n→a=A.map fun g=>⟨g,k*8,none⟩)
def pB (g:Nat) (lv:Value) (A:Option Nat) (cap:Nat) (fin:Int) (toks:List Tk) (B:Option Nat) (cb:Nat) (out:List Nd):List Blk:=
 [.box g 226 [lv,.int .i64 fin,sl B out.length cb],.own A 228 8 toks.length cap (toks.flatMap cK),.own B 123 11 out.length cb (out.flatMap dO)]
theorem TkV.next {P:Program} {t e:Nat} {v:Value} {A:Option Nat} {n cap k:Nat} [ht:Und P t (.slice e)] [hz:Size P e 8] (h:TkV v A n cap k) (hk:k<n) (hc:n≤cap):
 ∃ v',TkV v' A n cap (k+1)∧v'.oneCell' =true∧(∃ a m c,v' = .slice a m c)∧ ∀ {w0:World} {s:au} {H:List Blk} {ty:TypeId} {x r:Operand} {k' :IntKind},ev s x=some v→ev s r=some (.int k' 1)→VOp P w0 s H (.slice t x (some r) none none) ty v' :=by
 obtain ⟨a,rfl,ha⟩:=h;refine ⟨.slice (if cap - k=1 then a else a.map (·.add (1*8))) (n - k - 1) (cap - k - 1),⟨if cap - k=1 then a else a.map (·.add (1*8)),?_,fun hk1=> ?_⟩,rfl,⟨_,_,_,rfl⟩,fun hx hr=>jO (lo:=1) (hi:=n - k) hx ⟨_,hr⟩ rfl (by omega) (by omega)⟩
 ·congr 1
 ·rw [if_neg (by omega),ha hk]
  cases A with
  |none=>rfl
  |some g=>(simp [bA])<;>omega
theorem EA {fin:Int} {toks:List Tk} {k:Nat} (h:k<toks.length):hdT fin (toks.drop k)=toks[k]:=by
 rw [IR h];rfl
theorem EB {fin:Int} {toks:List Tk} {k:Nat} (h:toks.length≤k):hdT fin (toks.drop k)={ kE with at_:=fin }:=by
 rw [I7 h];rfl
theorem uT (g:Nat) (lv:Value) (A:Option Nat) (cap:Nat) (fin:Int) (toks:List Tk) (k:Nat) (hk:TkV lv A toks.length cap k) (x:Value) (w:World) (hr:Ro w g 0 [lv,.int .i64 fin,x])
 (ht:k<toks.length→ ∃ ga,A=some ga∧Ro w ga 0 (toks.flatMap cK)):aC Tryz.prog 148 [.pointer (some ⟨g,0,none⟩)] w (.agg (cK (hdT fin (toks.drop k))).toArray):=by
 refine ax Tryz.func148 rfl Tryz.ntmps148 rfl ?_;obtain ⟨a,rfl,ha⟩:=hk;by_cases hlt:k<toks.length
 ·rw [EA hlt];obtain ⟨ga,rfl,hra⟩:=ht hlt;have ha' :=ha hlt;subst ha';have hra' :Ro w ga (k*8) (cK toks[k]):=by
   have:=hra.elem AJ k hlt;rwa [IG] at this
  have hlen:0<toks.length - k:=by omega
  repeat' (first|(apply ai;exact rfl;apply aD (o:=0) (off:=0);exact hr;exact rfl;exact rfl)|(apply ai;exact rfl;apply aD (o:=0) (off:=1);exact hr;exact rfl;exact rfl)|(apply ai;exact rfl;apply aa (j:=0);exact rfl;exact rfl;exact hlen)|(apply ai;exact rfl;apply iQ (o:=k*8) (off:=0*8);exact hra';(iterate 3 exact rfl))|refine sT ?_|refine sM fun _=>?_|(refine sC ?_ ?_<;>intro hb<;>try omega)|fail)
  all_goals try (exfalso;omega)
  (refine eRC ?_)
  rfl
 ·rw [EB (by omega)];repeat' (first|(apply ai;exact rfl;apply aD (o:=0) (off:=0);exact hr;exact rfl;exact rfl)|(apply ai;exact rfl;apply aD (o:=0) (off:=1);exact hr;exact rfl;exact rfl)|refine sT ?_|refine sM fun _=>?_|(refine sC ?_ ?_<;>intro hb<;>try omega)|fail)
  all_goals try (exfalso;omega)
  (refine eRC ?_)
  rfl
theorem Cr {g:Nat} {lv:Value} {A:Option Nat} {cap:Nat} {fin:Int} {toks:List Tk} {k:Nat} (hk:TkV lv A toks.length cap k) {B:Option Nat} {cb:Nat} {out:List Nd} {H:List Blk} {w0:World} (hH:MSub (pB g lv A cap fin toks B cb out) H) (w:World) (hm:Mem w0 w H):
 aC Tryz.prog 148 [.pointer (some ⟨g,0,none⟩)] w (.agg (cK (hdT fin (toks.drop k))).toArray):=by
 have hm' :=hH.use hm;refine uT g lv A cap fin toks k hk (sl B out.length cb) w (Ro.of_box hm' .hd) fun hlt=> ?_;obtain ⟨_,_,_,h4⟩:=(hm'.on _ (In.tl .hd:In (.own A 228 8 toks.length cap (toks.flatMap cK)) _).mem).1
 cases A with
 |none=>obtain ⟨h5,_⟩:=h4;omega
 |some ga=>exact ⟨ga,rfl,Ro.of_own hm' (In.tl .hd)⟩
theorem Cp (g:Nat) (lv:Value) (A:Option Nat) (cap:Nat) (fin:Int) (toks:List Tk) (k:Nat) (hv:TkV lv A toks.length cap k) (hk:k<toks.length) (hc:toks.length≤cap) (B:Option Nat) (cb:Nat) (out:List Nd) (R:List Blk) (w0:World):
 FnIn Tryz.prog 249 [.pointer (some ⟨g,0,none⟩)] w0 (pB g lv A cap fin toks B cb out++R) fun v H=>v= .tuple #[]∧ ∃ lv',TkV lv' A toks.length cap (k+1)∧H=pB g lv' A cap fin toks B cb out++R:=by
 refine cd Tryz.func249 rfl Tryz.ntmps249 rfl ?_;obtain ⟨lv',h1,h3,⟨a',m',c',rfl⟩,h2⟩:=hv.next hk hc (P:=Tryz.prog) (t:=219) (e:=228);obtain ⟨a,rfl,ha⟩:=hv;repeat' (first|(apply ai (d:=7);exact rfl;exact h2 rfl rfl)|refine sT ?_|refine sM fun _=>?_|(refine sC ?_ ?_<;>intro hb<;>try omega)|fail)
 exact gN (.inr rfl) rfl (.refl _) ⟨rfl,_,h1,rfl⟩
theorem gA (n:Nd) (g:Nat) (lv:Value) (A:Option Nat) (cap:Nat) (fin:Int) (toks:List Tk) (B:Option Nat) (cb:Nat) (out:List Nd) (hlen:out.length≤1000000) (R:List Blk) (w0:World):
 FnIn Tryz.prog 250 [.pointer (some ⟨g,0,none⟩),.agg (dO n).toArray] w0 (pB g lv A cap fin toks B cb out++R) fun v H=>v= .tuple #[]∧ ∃ B' cb',H=pB g lv A cap fin toks B' cb' (out++ [n])++R:=by
 refine cd Tryz.func250 rfl Tryz.ntmps250 rfl ?_;repeat' (first|refine sT ?_|refine sM fun _=>?_|(refine sC ?_ ?_<;>intro hb<;>try omega)|fail)
 refine rT 11 rfl (by kernel_rfl) ?_;((with_reducible apply bU (i:=0));exact rfl;exact rfl;(iterate 3 decide+kernel);exact nP;(intro _ _;exact vP));((with_reducible apply bU (i:=1));exact rfl;exact rfl;(iterate 3 decide+kernel);exact nP;(intro _ _;exact vP));((with_reducible apply bU (i:=2));exact rfl;exact rfl;(iterate 3 decide+kernel);exact nP;(intro _ _;exact vP));((with_reducible apply bU (i:=3));exact rfl;exact rfl;(iterate 3 decide+kernel);exact nP;(intro _ _;exact vP));repeat' (first|(apply rQ (i:=4) (j:=5);exact rfl;exact rfl;decide+kernel)|(apply rQ (i:=4) (j:=6);exact rfl;exact rfl;decide+kernel)|(apply dQ (i:=4);exact rfl;decide+kernel)|(apply dQ (i:=5);exact rfl;decide+kernel)|(apply dQ (i:=6);exact rfl;decide+kernel)|(apply dQ (i:=7);exact rfl;decide+kernel)|(apply dQ (i:=8);exact rfl;decide+kernel)|(apply dQ (i:=9);exact rfl;decide+kernel)|(apply dQ (i:=10);exact rfl;decide+kernel)|(apply rR;decide+kernel)|(apply aF;(iterate 3 exact rfl);exact pK;exact pK;exact rfl;(simp [dO,Value.oneCell']);omega;(simp only [maxLen];omega);intro g8 c8)|refine sT ?_|refine sM fun _=>?_|(refine sC ?_ ?_<;>intro hb<;>try omega)|fail)
 all_goals
  refine gN eIO rfl (H' :=pB g lv A cap fin toks (some g8) c8 (out++ [n])++R) ?_ ⟨rfl,_,_,rfl⟩;simp only [pB,Iv,IV,Jk,I8,KM,I3,IE,ID];exact mS
def s9 (e:Int × Int):Value:= .iface 223 (.agg #[.int .i64 e.1,.int .i64 e.2])
theorem eY (x:Value) (at_ e:Int) (H:List Blk) (w0:World) (R:Value→List Blk→Prop):
 FnP Tryz.prog 149 [x,.int .i64 at_,.int .i64 e] w0 H R fun v H' =>v=s9 (at_,e)∧H' =H:=by
 refine pN Tryz.func149 rfl Tryz.ntmps149 rfl ?_;repeat' (first|(apply ai;exact rfl;apply dg;(intro m;exact fun h=>by cases h);exact rfl)|(apply Bm;exact rfl)|refine sT ?_|refine sM fun _=>?_|(refine sC ?_ ?_<;>intro hb<;>try omega)|fail)
 exact Fz (.refl _) ⟨rfl,rfl⟩
theorem Gk (op:Int) {g:Nat} {lv:Value} {A:Option Nat} {cap:Nat} {fin:Int} {toks:List Tk} {k:Nat} (hk:TkV lv A toks.length cap k) {B:Option Nat} {cb:Nat} {out:List Nd} {H:List Blk} {w0:World} (hH:MSub (pB g lv A cap fin toks B cb out) H) (w:World) (hm:Mem w0 w H):
 aC Tryz.prog 277 [.pointer (some ⟨g,0,none⟩),.int .i64 op] w (.bool (decide ((hdT fin (toks.drop k)).kind=8∧(hdT fin (toks.drop k)).num=op))):=by
 have hm0:=hH.use hm;refine ax Tryz.func277 rfl Tryz.ntmps277 rfl ?_;have hh: ∀ w' H',Mem w w' H' →aC Tryz.prog 148 [.pointer (some ⟨g,0,none⟩)] w' (.agg (cK (hdT fin (toks.drop k))).toArray):=fun w' H' hm' =>by
  refine uT g lv A cap fin toks k hk (sl B out.length cb) w' ((Ro.of_box hm0 .hd).next hm') fun hlt=> ?_;obtain ⟨_,_,_,h4⟩:=(hm0.on _ (In.tl .hd:In (.own A 228 8 toks.length cap (toks.flatMap cK)) _).mem).1
  cases A with
  |none=>obtain ⟨h5,_⟩:=h4;omega
  |some ga=>exact ⟨ga,rfl,(Ro.of_own hm0 (In.tl .hd)).next hm'⟩
 generalize hdT fin (toks.drop k)=t at hh;repeat' (first|(apply ag;exact rfl;exact rfl;(intro w' hm';exact hh w' _ hm'))|refine sT ?_|refine sM fun _=>?_|(refine sC ?_ ?_<;>intro hb<;>try omega)|fail)
 all_goals ((refine rT1 ?_);simp_all)
theorem qU (op:Int) (w:World):aC Tryz.prog 248 [.int .i64 op] w (.tuple #[.int .i64 (pU op),.bool (decide (op=5)),.int .i64 (if pU op=0 then 2 else 0)]):=by
 refine ax Tryz.func248 rfl Tryz.ntmps248 rfl ?_;repeat' (first|refine sT ?_|refine sM fun _=>?_|(refine sC ?_ ?_<;>intro hb<;>try omega)|fail)
 all_goals ((refine rT3 ?_);simp_all [pU];try omega)
end Go.SL
namespace Go.SL
open Go Go.Proofs
attribute [local irreducible] W WL WQ WG WA WX WLI WR WT WC VOp RW thn blk aW scp aJ aS bg FnAt FnIn FnP ceP
theorem De (u:Us) (b:Rf) (g:Nat) (w:World) (hr:Ro w g 0 (az b)):aC Tryz.prog 102 [.agg (fF u).toArray,.pointer (some ⟨g,0,none⟩)] w (.bool (vw u.rect b)):=by
 refine ax Tryz.func102 rfl Tryz.ntmps102 rfl ?_;have hh:=fun w=>GW u.rect b w;repeat' (first|(apply ai;exact rfl;apply bZ (o:=0);exact rfl;exact hr;exact rfl)|(apply ag;exact rfl;exact rfl;(intro w hm;exact hh w))|refine sT ?_|refine sM fun _=>?_|(refine sC ?_ ?_<;>intro hb<;>try omega)|fail)
 all_goals exact bB eIO rfl rfl (.nil _) rfl
def xF (q:Us→Bool) (L:List Us):Int:=match L.findIdx? q with|some i=>(i:Int)|none=> -1
theorem Be (f:FuncId) [Callable Tryz.prog f] (caps:List Value) (q:Us→Bool) (L:List Us) (hlen:L.length≤1000000) (tv:Value) (w:World) (ht:Reads w tv L.length (L.flatMap fF))
 (hf: ∀ u w' H,Mem w w' H→aC Tryz.prog f ([.agg (fF u).toArray]++caps) w' (.bool (q u))):
 aC Tryz.prog 160 [tv,.func (.func f) #[] caps.toArray] w (.int .i64 (xF q L)):=by
 obtain ⟨Al,cl,rfl,hl1,hl2,hl3⟩:=ht;refine ax Tryz.func160 rfl Tryz.ntmps160 rfl ?_;repeat' (first|refine sT ?_|refine sM fun _=>?_|(refine sC ?_ ?_<;>intro hb<;>try omega)|fail)
 refine fc (fun i:Nat=> [(0,.slice Al L.length cl),(1,.func (.func f) #[] caps.toArray),(7,.int .i64 (L.length:Int)),(8,.int .i64 (i:Int))]) (fun _=> []) (fun i=>i≤L.length∧ ∀ j (h:j<L.length),j<i→q L[j]=false) (fun i=>L.length - i) 0 ⟨by omega,fun j _ h=>by omega⟩ sB (.refl _) ?_;rintro i ⟨hi,hno⟩;by_cases hlt:i<L.length
 ·obtain ⟨gl,ol,rfl,hrl⟩:=hl3 (by omega);have he:=hrl.elem Dc i hlt;have hq:=fun w' H=>hf L[i] w' H;have hnext:q L[i]=false→ ∀ j (h:j<L.length),j<i+1→q L[j]=false:=fun h0 j h hj=>by
   by_cases e:j=i
   ·subst e;exact h0
   ·exact hno j h (by omega)
  have hres:q L[i]=true→xF q L=(i:Int):=fun h0=>by
   unfold xF;rw [Jb.2 ⟨hlt,h0,fun j hj=>by rw [hno j (by omega) hj];simp⟩]
  generalize L[i]=u at he hq hnext hres;generalize q u=b at hq hnext hres;repeat' (first|(apply fI;exact rfl;exact rfl;infer_instance;exact rfl;(intro w' hm;exact hq w' _ hm))|refine sT ?_|refine sN ?_|refine sO ?_|refine sM fun _=>?_|(refine sC ?_ ?_<;>intro hb<;>try omega)|fail)
  all_goals first
   |(refine bB eIO rfl rfl (.nil _) ?_;rw [hres (by assumption)];done)
   |(refine ⟨i+1,⟨hlt,hnext (by assumption)⟩,by omega,?_,.nil _⟩;exact sB;done)
 ·have e:i=L.length:=by omega
  subst e;have hres:xF q L= -1:=by
   unfold xF
   rw [JH.2 fun x hx=>by
    obtain ⟨j,hj,rfl⟩:=JZ hx;exact hno j hj hj]
  repeat' (first|refine sT ?_|refine sM fun _=>?_|(refine sC ?_ ?_<;>intro hb<;>try omega)|fail)
  all_goals (refine bB eIO rfl rfl (.nil _) ?_;rw [hres])
theorem tI (f:FuncId) [Callable Tryz.prog f] (caps:List Value) (q:Us→Bool) (L:List Us) (hlen:L.length≤1000000) (tv:Value) (w:World) (ht:Reads w tv L.length (L.flatMap fF))
 (hf: ∀ u w' H,Mem w w' H→aC Tryz.prog f ([.agg (fF u).toArray]++caps) w' (.bool (q u))):
 aC Tryz.prog 101 [tv,.func (.func f) #[] caps.toArray] w (.bool (L.any q)):=by
 refine ax Tryz.func101 rfl Tryz.ntmps101 rfl ?_;have hI:=fun (w' :World) (H:List Blk) (hm:Mem w w' H)=>Be f caps q L hlen tv w' (ht.of_w0 hm) (fun u w2 H2 hm2=>hf u w2 _ (hm.call hm2));have hres:decide (0≤xF q L)=L.any q:=by
  unfold xF
  cases h:L.findIdx? q with
  |none=>
   rw [JH] at h;have:L.any q=false:=by rw [List.any_eq_false];exact fun x hx=>by rw [h x hx];simp
   rw [this];rfl
  |some i=>
   obtain ⟨h1,h2,_⟩:=Jb.1 h;have:L.any q=true:=KO.2 ⟨_,IZ h1,h2⟩;rw [this];simp
 repeat' (first|(apply ag (f:=160);exact rfl;exact rfl;(intro w' hm;exact hI w' _ hm))|refine sT ?_|refine sM fun _=>?_|(refine sC ?_ ?_<;>intro hb<;>try omega)|fail)
 all_goals (refine bB eIO rfl rfl (.nil _) ?_;rw [hres])
end Go.SL
namespace Go.Proofs
open Go Go.Shelf Go.RowKit Go.Lib Go.Sort Go.SL
theorem Tryz.lessX (a b:Rf) (W:World):Calls Tryz.prog 87 #[.agg #[.int .i64 a.col,.int .i64 a.row],.agg #[.int .i64 b.col,.int .i64 b.row]] W fun e w' =>e= .returned (.bool (bf a b))∧ ∃ q os',w' =grow (W.drewN q) os' :=by
 go_enter Tryz.func87,Tryz.ntmps87
 go_wp2
 all_goals
  rename_i h
  go_ret
  refine ⟨?_,0,_,by rw [alloc_eq_grow,alloc_eq_grow,grow_grow];rfl⟩
  first
   |(congr 2;simp_all [bf];done)
   |(congr 2;simp only [bf];simp;omega)
def Lays (W w' :World):Prop:= ∃ q os',w' =grow (W.drewN q) os'
theorem Lays.refl (W:World):Lays W W:=⟨0,#[],by simp [grow,World.drewN]⟩
theorem Lays.alloc {W X:World} (h:Lays W X) (o:Obj):Lays W (X.alloc o):=by
 obtain ⟨q,os,rfl⟩:=h;refine ⟨q,os.push o,?_⟩;show ({ W with heap:=(W.heap++os).push o,drawn:=W.drawn+q }:World)={ W with heap:=W.heap++os.push o,drawn:=W.drawn+q };rw [Array.append_push]
theorem Lays.grow {W X:World} (h:Lays W X) (q2:Nat) (os2:Array Obj):Lays W (Go.Sort.grow (X.drewN q2) os2):=by
 obtain ⟨q,os,rfl⟩:=h;refine ⟨q+q2,os++os2,?_⟩;show ({ W with heap:=(W.heap++os)++os2,drawn:=W.drawn+q+q2 }:World)={ W with heap:=W.heap++(os++os2),drawn:=W.drawn+(q+q2) };rw [Array.append_assoc,Kn]
theorem Tryz.orderX (a b:Rf) (W:World):Calls Tryz.prog 69 #[.agg #[.int .i64 a.col,.int .i64 a.row],.agg #[.int .i64 b.col,.int .i64 b.row]] W fun e w' =>e= .returned (.int .i64 (gP a b))∧ ∃ q os',w' =grow (W.drewN q) os' :=by
 unfold gP;have c1: ∀ q os,(grow (((W.alloc (Obj.cells #[Value.int IntKind.i64 a.col,Value.int IntKind.i64 a.row] 28)).alloc (Obj.cells #[Value.int IntKind.i64 b.col,Value.int IntKind.i64 b.row] 28)).drewN q) os).cell? ⟨W.heap.size,0,none⟩=some (.int .i64 a.col):=fun q os=>by
  refine cell_grown (by show W.heap.size<((W.heap.push _).push _).size;rw [JI,JI];omega) ?_ q os;have e: ∀ o1 o2:Obj,((W.alloc o1).alloc o2).heap[W.heap.size]? =some o1:=fun o1 o2=>by
   show ((W.heap.push o1).push o2)[W.heap.size]? =_;rw [JT,if_neg (by rw [JI];omega),JT,if_pos rfl]
  simp only [World.cell?,e]
  rfl
 have c2: ∀ q os,(grow (((W.alloc (Obj.cells #[Value.int IntKind.i64 a.col,Value.int IntKind.i64 a.row] 28)).alloc (Obj.cells #[Value.int IntKind.i64 b.col,Value.int IntKind.i64 b.row] 28)).drewN q) os).cell? ⟨W.heap.size,1,none⟩=some (.int .i64 a.row):=fun q os=>by
  refine cell_grown (by show W.heap.size<((W.heap.push _).push _).size;rw [JI,JI];omega) ?_ q os;have e: ∀ o1 o2:Obj,((W.alloc o1).alloc o2).heap[W.heap.size]? =some o1:=fun o1 o2=>by
   show ((W.heap.push o1).push o2)[W.heap.size]? =_;rw [JT,if_neg (by rw [JI];omega),JT,if_pos rfl]
  simp only [World.cell?,e]
  rfl
 have c3: ∀ q os,(grow (((W.alloc (Obj.cells #[Value.int IntKind.i64 a.col,Value.int IntKind.i64 a.row] 28)).alloc (Obj.cells #[Value.int IntKind.i64 b.col,Value.int IntKind.i64 b.row] 28)).drewN q) os).cell? ⟨W.heap.size+1,0,none⟩=some (.int .i64 b.col):=fun q os=>by
  refine cell_grown (by show W.heap.size+1<((W.heap.push _).push _).size;rw [JI,JI];omega) ?_ q os;have e: ∀ o1 o2:Obj,((W.alloc o1).alloc o2).heap[W.heap.size+1]? =some o2:=fun o1 o2=>by
   show ((W.heap.push o1).push o2)[W.heap.size+1]? =_;rw [JT,if_pos (by rw [JI])]
  simp only [World.cell?,e]
  rfl
 have c4: ∀ q os,(grow (((W.alloc (Obj.cells #[Value.int IntKind.i64 a.col,Value.int IntKind.i64 a.row] 28)).alloc (Obj.cells #[Value.int IntKind.i64 b.col,Value.int IntKind.i64 b.row] 28)).drewN q) os).cell? ⟨W.heap.size+1,1,none⟩=some (.int .i64 b.row):=fun q os=>by
  refine cell_grown (by show W.heap.size+1<((W.heap.push _).push _).size;rw [JI,JI];omega) ?_ q os;have e: ∀ o1 o2:Obj,((W.alloc o1).alloc o2).heap[W.heap.size+1]? =some o2:=fun o1 o2=>by
   show ((W.heap.push o1).push o2)[W.heap.size+1]? =_;rw [JT,if_pos (by rw [JI])]
  simp only [World.cell?,e]
  rfl
 go_enter Tryz.func69,Tryz.ntmps69
 go_wp2_with (go_at_call 87;refine (Tryz.lessX _ _ _).mono ?_;rintro e w' ⟨rfl,q,os,rfl⟩)
 all_goals
  go_ret
  exact ⟨rfl,by first|exact (((Lays.refl W).alloc _).alloc _).grow _ _|exact ((((Lays.refl W).alloc _).alloc _).grow _ _).grow _ _⟩
end Go.Proofs
namespace Go.SL
open Go
theorem oW {p:Pc} {c:Int} (h:fD c=true):aV p c=gz p (upC c):=by
 simp only [fD,Ka,IX,decide_eq_true_eq] at h;rw [aV,if_pos];unfold upC;split<;>omega
theorem dV {p:Pc} {c:Int} (h:aQ c=true):aV p c=dJ p c:=by
 simp only [aQ,IX,decide_eq_true_eq] at h;exact oX h.1 h.2
theorem jb {p:Pc} {c:Int} (h:fD c=false) (h2:aQ c=false):(aV p c).ok=false:=by
 simp only [fD,aQ,Bool.or_eq_false_iff,K9,decide_eq_false_iff_not] at h h2;rw [qR (by omega) (by omega) (by omega)]
theorem xk {p:Pc} (h:p.ok=false) (c:Int):(aV p c).ok=false:=by
 unfold aV;split
 ·simp [gz,h]
 ·split
  ·simp [dJ,h]
  ·rfl
theorem jF: ∀ (l:List Int) {p:Pc},p.ok=false→(l.foldl aV p).ok=false
 | [],_,h=>h
 |c::r,_,h=>jF r (xk h c)
theorem vB: ∀ (l:List Int) (p:Pc),(∀ c∈l,fD c=true)→p.m1=0→l.foldl aV p=⟨p.m0+l.length,0,bL l p.v0,p.v1,p.ok⟩
 | [],p,_,h=>by obtain ⟨a,b,c,d,e⟩:=p;simp only at h;subst h;simp [bL]
 |c::r,p,hl,h=>by
  rw [J9,oW (hl c Iu),vB r _ (fun d hd=>hl d (IB _ hd)) (by simp [gz,h])];simp only [gz,h,bL,decide_true,Bool.and_true,IU,Pc.mk.injEq,true_and,and_true];refine ⟨by push_cast;omega,?_⟩;rw [show 26*p.v0+(upC c - 65)+1=26*p.v0+(upC c - 64) by omega]
theorem pM: ∀ (l:List Int) (p:Pc),(∀ c∈l,aQ c=true)→0<p.m1→l.foldl aV p=⟨p.m0,p.m1+l.length,p.v0,nA l p.v1,p.ok⟩
 | [],p,_,_=>by obtain ⟨a,b,c,d,e⟩:=p;simp [nA]
 |c::r,p,hl,h=>by
  rw [J9,dV (hl c Iu),pM r _ (fun d hd=>hl d (IB _ hd)) (by simp [dJ];omega)];simp only [dJ,h,nA,decide_true,Bool.or_true,Bool.and_true,IU,Pc.mk.injEq,true_and,and_true]
  push_cast;omega
theorem kQ: ∀ (l:List Int) (p:Pc),(l.all aQ=false)→0<p.m1→(l.foldl aV p).ok=false
 | [],_,h,_=>by simp at h
 |c::r,p,h,hm=>by
  rw [J9];cases hd:aQ c
  ·apply jF;cases hl:fD c
   ·exact jb hl hd
   ·rw [oW hl];simp only [gz];rw [decide_eq_false (by omega)];simp
  ·rw [List.all_cons,hd,Bool.true_and] at h;apply kQ r _ h;rw [dV hd];simp only [dJ];omega
theorem lD: ∀ (l:List Int) {v:Int},(∀ c∈l,fD c=true)→0≤v→(l≠ []∨1≤v)→1≤bL l v
 | [],v,_,_,h=>by rcases h with h|h;exact absurd rfl h;exact h
 |c::r,v,hl,h0,_=>by
  have hc:=hl c Iu;simp only [fD,Ka,IX,decide_eq_true_eq] at hc;have hu:65≤upC c:=by unfold upC;split<;>omega
  simp only [bL];exact lD r (fun d hd=>hl d (IB _ hd)) (by omega) (.inr (by omega))
theorem uK: ∀ (l:List Int) {v:Int},(∀ c∈l,aQ c=true)→1≤v→1≤nA l v
 | [],_,_,h=>h
 |c::r,v,hl,h=>by
  have hc:=hl c Iu;simp only [aQ,IX,decide_eq_true_eq] at hc;simp only [nA];exact uK r (fun d hd=>hl d (IB _ hd)) (by omega)
theorem kr {p:Int→Bool}: ∀ {l:List Int} {c:Int},c∈l.takeWhile p→p c=true
 |d::r,c,h=>by
  rw [List.takeWhile_cons] at h;split at h
  ·rename_i hp;rcases IP.1 h with rfl|h
   ·exact hp
   ·exact kr h
  ·cases h
theorem Du (l:List Int):rB l=dw l:=by
 unfold rB dw;dsimp only;generalize ha:l.takeWhile fD=a;generalize hd:l.dropWhile fD=d;have hl:l=a++d:=by rw [← ha,← hd,List.takeWhile_append_dropWhile]
 have hal: ∀ c∈a,fD c=true:=fun c hc=>kr (ha ▸ hc);have hp:nB l=d.foldl aV ⟨a.length,0,bL a 0,0,true⟩:=by
  rw [nB,hl,List.foldl_append,vB a pc0 hal rfl];simp [pc0]
 rw [hp]
 cases d with
 |nil=>simp
 |cons c r=>
  have hcl:fD c=false:=by
   cases hq:fD c
   ·rfl
   ·exfalso;have hne:l.dropWhile fD≠ []:=by rw [hd];simp
    have:=List.head_dropWhile_not fD hne;simp only [hd,List.head_cons] at this;rw [hq] at this;cases this
  rw [J9];by_cases ha0:a= []
  ·subst ha0;have:(List.foldl aV (aV ⟨(([]:List Int).length:Int),0,bL [] 0,0,true⟩ c) r).ok=false∨(List.foldl aV (aV ⟨(([]:List Int).length:Int),0,bL [] 0,0,true⟩ c) r).m0=0∨(List.foldl aV (aV ⟨(([]:List Int).length:Int),0,bL [] 0,0,true⟩ c) r).m1=0:=by
    cases hdc:aQ c
    ·exact .inl (jF r (jb hcl hdc))
    ·cases hr:r.all aQ
     ·left
      apply kQ r _ hr;rw [dV hdc];simp [dJ]
     ·right;left
      rw [pM r _ (by simpa using hr) (by rw [dV hdc];simp [dJ])];rw [dV hdc];simp [dJ]
   rw [if_pos this,if_pos (show (([]:List Int)= []∨_) from .inl rfl)]
  ·have hlen:0<(a.length:Int):=by
    have:=Ku.2 ha0;omega
   cases hdc:aQ c
   ·rw [if_pos (.inl (jF r (jb hcl hdc))),if_pos (.inr (.inr (.inr (by simp [hdc]))))]
   ·rw [dV hdc];by_cases h48:c=48
    ·rw [if_pos (.inl (jF r (by simp [dJ,h48]))),if_pos (.inr (.inr (.inl (by simp [h48]))))]
    ·cases hr:r.all aQ
     ·rw [if_pos (.inl (kQ r _ hr (by simp [dJ]))),if_pos (.inr (.inr (.inr (by simp [hr]))))]
     ·have hr' : ∀ x∈r,aQ x=true:=by simpa using hr
      have hp2:List.foldl aV (dJ ⟨a.length,0,bL a 0,0,true⟩ c) r=⟨a.length,1+r.length,bL a 0,nA (c::r) 0,true⟩:=by
       rw [pM r _ hr' (by simp [dJ])];simp [dJ,h48,nA]
      rw [hp2,if_neg (c:=(a= []∨_)) (by simp [ha0,h48,hdc,hr])];have hd2:=hdc;simp only [aQ,IX,decide_eq_true_eq] at hd2;have h1:=lD a hal (K5 0) (.inl ha0);have h3:1≤nA (c::r) 0:=uK r (v:=min (10*0+(c - 48)) 1025) hr' (by omega);generalize nA (c::r) 0=u at h3 ⊢;split
      ·rename_i h;exfalso;rcases h with h|h|h
       ·cases h
       ·exact absurd h (by show ¬ ((a.length:Int)=0);omega)
       ·exact absurd h (by show ¬ (1+(r.length:Int)=0);omega)
      ·by_cases hb:1024<bL a 0∨1024<u
       ·rw [if_pos hb,if_neg];simp only [valid,IX,decide_eq_true_eq];omega
       ·rw [if_neg hb,if_pos];simp only [valid,IX,decide_eq_true_eq];omega
structure Grew (p p' :PS) (strict:Prop):Prop where
 tok: ∃ m,p'.l=p.l.drop m∧m≤p.l.length∧p'.out.length≤p.out.length+m
 out:p.out.length≤p'.out.length
 some:strict→p.out.length<p'.out.length
theorem Grew.refl (p:PS) {q:Prop} (h: ¬ q):Grew p p q:=⟨⟨0,rfl,Iw _,IK _⟩,IK _,fun hq=>(h hq).elim⟩
theorem Grew.trans {p p' p2:PS} {q q' q2:Prop} (h:Grew p p' q) (k:Grew p' p2 q') (hq:q2→q∨q'):Grew p p2 q2:=by
 obtain ⟨⟨m,h1,h2,h3⟩,h4,h5⟩:=h;obtain ⟨⟨n,k1,k2,k3⟩,k4,k5⟩:=k;refine ⟨⟨m+n,by rw [k1,h1,Kr],?_,by omega⟩,by omega,fun hh=> ?_⟩
 ·rw [h1,Jg] at k2;omega
 ·rcases hq hh with h|h
  ·have:=h5 h;omega
  ·have:=k5 h;omega
theorem Grew.step (p:PS) (n:Nd) (h:0<p.l.length) {q:Prop}:Grew p (p.skip.put n) q:=
 ⟨⟨1,by simp [PS.skip,PS.put],h,by simp [PS.skip,PS.put]⟩,by simp [PS.skip,PS.put],fun _=>by simp [PS.skip,PS.put]⟩
theorem Grew.skip (p:PS) (h:0<p.l.length) {q:Prop} (hq: ¬ q):Grew p p.skip q:=
 ⟨⟨1,by simp [PS.skip],h,by simp [PS.skip]⟩,by simp [PS.skip],fun hh=>(hq hh).elim⟩
theorem Grew.wrap {p p' :PS} {q q' :Prop} (h0:0<p.l.length) (h:Grew p.skip p' q) (n:Nd):Grew p (p'.put n) q' :=by
 obtain ⟨⟨m,h1,h2,h3⟩,h4,h5⟩:=h;simp only [PS.skip] at h1 h2 h3 h4;refine ⟨⟨1+m,?_,?_,?_⟩,?_,fun _=> ?_⟩
 ·simp only [PS.put];rw [h1,← List.drop_one,Kr]
 ·rw [List.length_tail] at h2;omega
 ·simp only [PS.put,Iv,IV];omega
 ·simp only [PS.put,Iv,IV];omega
 ·simp only [PS.put,Iv,IV];omega
theorem dH {r:Option Out} {k:Nat→PS→Option Out} {x:Nat × PS} (h:dB r k=some (.ok x)): ∃ n p',r=some (.ok (n,p'))∧k n p' =some (.ok x):=by
 unfold dB at h;split at h
 ·exact ⟨_,_,rfl,h⟩
 ·rename_i h1;obtain ⟨n,p'⟩:=x;exact absurd h (h1 n p')
theorem fg {fin:Int} {l:List Tk} {c:Int} (h:(hdT fin l).kind=c) (hc:c≠0):0<l.length:=eQ (fin:=fin) (by omega)
theorem lM {fin:Int} {name:Tk} {fn:Int} {n m:Nat} {p p' :PS} {q:Prop} (h:cG fin name fn n p=some (.ok (m,p'))):Grew p p' q:=by
 unfold cG at h;dsimp only at h;split at h
 ·cases h
 ·rename_i hk;have hpos:=fg (Decidable.not_not.1 hk) (by decide);split at h
  ·cases h
  ·split at h
   ·cases h
   ·cases h;exact .step p _ hpos
theorem fL (fin:Int): ∀ (f:Nat) (j:Job) (p:PS) (n:Nat) (p' :PS),aU fin f j p=some (.ok (n,p'))→Grew p p' j.eats
 |0,_,_,_,_,h=>by cases h
 |f+1,j,p,n,p',h=>by
  have ih:=fL fin f
  cases j with
  |level k=>
   rw [aU] at h;split at h
   ·have g:=ih .sign _ _ _ h;exact g
   ·obtain ⟨n1,p1,h1,h2⟩:=dH h;exact (ih _ _ _ _ h1).trans (ih _ _ _ _ h2) fun _=> .inl trivial
  |loop k=>
   rw [aU] at h;try dsimp only at h
   split at h
   ·rename_i hk;have hpos:=fg hk.1 (by decide);obtain ⟨n1,p1,h1,h2⟩:=dH h;exact ((ih _ _ _ _ h1).wrap (q' :=True) hpos _).trans (ih _ _ _ _ h2) fun _=> .inl trivial
   ·cases h;exact .refl _ fun h=>h
  |sign=>
   rw [aU] at h;try dsimp only at h
   split at h
   ·rename_i hk;have hpos:=fg hk.1 (by decide);obtain ⟨n1,p1,h1,h2⟩:=dH h;cases h2;exact (ih _ _ _ _ h1).wrap hpos _
   ·obtain ⟨n1,p1,h1,h2⟩:=dH h;split at h2
    ·rename_i hk;have hpos:=fg hk.1 (by decide);obtain ⟨n2,p2,h3,h4⟩:=dH h2;cases h4;exact (ih _ _ _ _ h1).trans ((ih _ _ _ _ h3).wrap (q' :=True) hpos _) fun _=> .inl trivial
    ·cases h2;have g:=ih .pct _ _ _ h1;exact g
  |pct=>
   rw [aU] at h;obtain ⟨n1,p1,h1,h2⟩:=dH h;exact (ih _ _ _ _ h1).trans (ih _ _ _ _ h2) fun _=> .inl trivial
  |pctl=>
   rw [aU] at h;try dsimp only at h
   split at h
   ·rename_i hk;have hpos:=fg hk.1 (by decide);exact (Grew.step p _ hpos (q:=True)).trans (ih _ _ _ _ h) fun h=>h.elim
   ·cases h;exact .refl _ fun h=>h
  |prim=>
   rw [aU] at h;try dsimp only at h
   split at h
   ·rename_i hk;cases h;exact .step p _ (eQ (fin:=fin) (by omega))
   ·split at h
    ·rename_i hk;cases h;exact .step p _ (fg hk (by decide))
    ·split at h
     ·rename_i hk;have hpos:=fg hk (by decide);obtain ⟨n1,p1,h1,h2⟩:=dH h;split at h2
      ·cases h2
      ·rename_i hu;cases h2;exact ((Grew.skip p hpos (q:=False) (fun h=>h)).trans (ih _ _ _ _ h1) (q2:=True) fun _=> .inr trivial).trans (Grew.skip p1 (fg (Decidable.not_not.1 hu) (by decide)) (q:=False) fun h=>h) fun _=> .inl trivial
     ·split at h
      ·rename_i hk;have hpos:=fg hk (by decide);split at h
       ·cases h
       ·split at h
        ·cases h
        ·rename_i hu;have hpos2:=fg (Decidable.not_not.1 hu) (by decide);have g1:=(Grew.skip p hpos (q:=False) (fun h=>h)).trans (Grew.skip p.skip hpos2 (q:=False) fun h=>h) (q2:=False) fun h=>h.elim;split at h
         ·exact g1.trans (lM h (q:=True)) fun _=> .inr trivial
         ·obtain ⟨n1,p1,h1,h2⟩:=dH h;exact (g1.trans (ih _ _ _ _ h1) (q2:=True) fun _=> .inr trivial).trans (lM h2 (q:=True)) fun _=> .inl trivial
      ·cases h
  |args fn i=>
   rw [aU] at h;try dsimp only at h
   have hgo: ∀ p0:PS,(if (hdT fin p0.l).kind=11 then aU fin f (.args fn (i+1)) p0.skip else some (.ok (i+1,p0)))=some (.ok (n,p'))→Grew p0 p' False:=by
    intro p0 h0;split at h0
    ·rename_i hk;exact (Grew.skip p0 (fg hk (by decide)) (q:=False) (fun h=>h)).trans (ih _ _ _ _ h0) fun h=>h.elim
    ·cases h0;exact .refl _ fun h=>h
   split at h
   ·obtain ⟨n1,p1,h1,h2⟩:=dH h;exact (ih _ _ _ _ h1).trans (hgo p1 h2) fun _=> .inl trivial
   ·rename_i hk;have hpos:=eQ (fin:=fin) (l:=p.l) (by omega);split at h
    ·cases h
    ·exact (Grew.step p _ hpos (q:=True)).trans (hgo _ h) fun _=> .inl trivial
end Go.SL
namespace Go.Proofs
open Go Go.Shelf Go.RowKit Go.Lib Go.Sort Go.SL
def Tryz.sortRf_ren:Go.Shelf.Ren:=⟨fun|6=>68|15=>86|14=>105|28=>131|29=>132|20=>161|21=>162|22=>163|23=>164|24=>165|25=>166|26=>167|27=>168|46=>211|47=>174|48=>175|49=>212|50=>213|57=>265|n=>n,fun|22=>22|24=>28|25=>130|3=>3|39=>159|0=>0|53=>209|55=>49|4=>4|46=>202|45=>201|50=>76|5=>5|9=>9|66=>245|70=>249|76=>292|77=>293|n=>n,fun|n=>n⟩
theorem Tryz.sortRf:Go.Proofs.SlLaysF0.n6 Tryz.prog Tryz.sortRf_ren:={
 mixed:=by kernel_rfl
 f6:=⟨Tryz.f68.name,by decide,Tryz.func68.trans (congrArg some (by kernel_rfl))⟩
 f14:=⟨Tryz.f105.name,by decide,Tryz.func105.trans (congrArg some (by kernel_rfl))⟩
 f15:=Tryz.func86.trans (congrArg some (by kernel_rfl))
 f20:=⟨Tryz.f161.name,by decide,Tryz.func161.trans (congrArg some (by kernel_rfl))⟩
 f21:=⟨Tryz.f162.name,by decide,Tryz.func162.trans (congrArg some (by kernel_rfl))⟩
 f22:=⟨Tryz.f163.name,by decide,Tryz.func163.trans (congrArg some (by kernel_rfl))⟩
 f23:=⟨Tryz.f164.name,by decide,Tryz.func164.trans (congrArg some (by kernel_rfl))⟩
 f24:=⟨Tryz.f165.name,by decide,Tryz.func165.trans (congrArg some (by kernel_rfl))⟩
 f25:=⟨Tryz.f166.name,by decide,Tryz.func166.trans (congrArg some (by kernel_rfl))⟩
 f26:=⟨Tryz.f167.name,by decide,Tryz.func167.trans (congrArg some (by kernel_rfl))⟩
 f27:=⟨Tryz.f168.name,by decide,Tryz.func168.trans (congrArg some (by kernel_rfl))⟩
 f28:=Tryz.func131.trans (congrArg some (by kernel_rfl))
 f29:=Tryz.func132.trans (congrArg some (by kernel_rfl))
 f46:=⟨Tryz.f211.name,by decide,Tryz.func211.trans (congrArg some (by kernel_rfl))⟩
 f47:=Tryz.func174.trans (congrArg some (by kernel_rfl))
 f48:=Tryz.func175.trans (congrArg some (by kernel_rfl))
 f49:=⟨Tryz.f212.name,by decide,Tryz.func212.trans (congrArg some (by kernel_rfl))⟩
 f50:=⟨Tryz.f213.name,by decide,Tryz.func213.trans (congrArg some (by kernel_rfl))⟩
 f57:=⟨Tryz.f265.name,by decide,Tryz.func265.trans (congrArg some (by kernel_rfl))⟩
 t0:=Tryz.underlying0
 a0:=Tryz.isAgg0
 z0:=Tryz.sizeOf0
 v0:=Tryz.zeroValue0
 t3:=Tryz.underlying3
 a3:=Tryz.isAgg3
 z3:=Tryz.sizeOf3
 v3:=Tryz.zeroValue3
 t4:=Tryz.underlying4
 a4:=Tryz.isAgg4
 z4:=Tryz.sizeOf4
 v4:=Tryz.zeroValue4
 t5:=Tryz.underlying5
 a5:=Tryz.isAgg5
 z5:=Tryz.sizeOf5
 v5:=Tryz.zeroValue5
 t9:=Tryz.underlying9
 a9:=Tryz.isAgg9
 z9:=Tryz.sizeOf9
 v9:=Tryz.zeroValue9
 t22:=Tryz.underlying22
 a22:=Tryz.isAgg22
 z22:=Tryz.sizeOf22
 v22:=Tryz.zeroValue22
 t25:=Tryz.underlying130
 a25:=Tryz.isAgg130
 z25:=Tryz.sizeOf130
 v25:=Tryz.zeroValue130
 t39:=Tryz.underlying159
 a39:=Tryz.isAgg159
 z39:=Tryz.sizeOf159
 v39:=Tryz.zeroValue159
 t45:=Tryz.underlying201
 a45:=Tryz.isAgg201
 z45:=Tryz.sizeOf201
 v45:=Tryz.zeroValue201
 t46:=Tryz.underlying202
 a46:=Tryz.isAgg202
 z46:=Tryz.sizeOf202
 v46:=Tryz.zeroValue202
 t50:=Tryz.underlying76
 a50:=Tryz.isAgg76
 z50:=Tryz.sizeOf76
 v50:=Tryz.zeroValue76
 t53:=Tryz.underlying209
 a53:=Tryz.isAgg209
 z53:=Tryz.sizeOf209
 v53:=Tryz.zeroValue209
 t55:=Tryz.underlying49
 a55:=Tryz.isAgg49
 z55:=Tryz.sizeOf49
 v55:=Tryz.zeroValue49
 t66:=Tryz.underlying245
 a66:=Tryz.isAgg245
 z66:=Tryz.sizeOf245
 v66:=Tryz.zeroValue245
 t70:=Tryz.underlying249
 a70:=Tryz.isAgg249
 z70:=Tryz.sizeOf249
 v70:=Tryz.zeroValue249
 t76:=Tryz.underlying292
 a76:=Tryz.isAgg292
 z76:=Tryz.sizeOf292
 v76:=Tryz.zeroValue292
 t77:=Tryz.underlying293
 a77:=Tryz.isAgg293
 z77:=Tryz.sizeOf293
 v77:=Tryz.zeroValue293 }
theorem eL (x y:Rf):ltOf gP x y=bf x y:=by
 unfold ltOf gP;cases h1:bf x y<;>cases h2:bf y x<;>simp
theorem HH:SWO (ltOf gP):={
 irrefl x:=by rw [eL];simp [bf]
 trans x y z h1 h2:=by rw [eL] at*;simp [bf] at*;omega
 ntrans x y z h1 h2:=by rw [eL] at*;simp [bf] at*;omega }
theorem Fw (x y:Rf) (h1:ltOf gP x y=false) (h2:ltOf gP y x=false):x=y:=by
 rw [eL] at h1 h2;obtain ⟨a,b⟩:=x;obtain ⟨c,d⟩:=y;simp [bf] at h1 h2;simp;omega
instance iN347:Inhabited Rf:=⟨⟨0,0⟩⟩
theorem Tryz.sortRf_calls (blk off cap:Nat) (d:Array Rf) (w:World) (hH:HoldsK az 2 w blk off d) (hblk:blk<w.heap.size) (hsz:d.size<4611686018427387904):
 Calls Tryz.prog 68 #[.slice (some ⟨blk,off,none⟩) d.size cap,.func (.func 69) #[] #[]] w fun e w' =>
  e= .returned (.tuple #[])∧ ∃ n os,w' =sortWorldK az 2 w blk off n (d.toList.mergeSort fun x y=> !(ltOf gP) y x).toArray os:=by
 have eg: ∀ args w,(callFunc 69 args).run Tryz.prog w= .ok (.enter 69 args) w:=enters_of Tryz.func69 (by kernel_rfl) rfl;exact AnyQ.slices_SortFunc_total Tryz.sortRf 2 (fun w=>by have h:=Tryz.underlying28;show (isAgg 28).run _ w=_;simp [isAgg,run_underlying h]) (fun w=>by obtain ⟨i,h1,h2⟩:=(inferInstance:Size Tryz.prog 28 2).out;show (Go.sizeOf 28).run _ w=_;simp [Go.sizeOf,typeInfo,h1,h2]) az (fun _=>rfl) (fun x v hv=>by simp [az] at hv;rcases hv with rfl|rfl<;>rfl) gP HH 69 #[] blk off cap d w eg (fun _ _ _ _ x y=>Tryz.orderX x y _) hH hblk hsz Fw
end Go.Proofs
namespace Go.SL
open Go Go.Proofs Go.Sort Go.Shelf
def sortRf (L:List Rf):List Rf:=L.mergeSort fun x y=> !(bf y x)
theorem vE (L:List Rf) (j:Nat) (h:j<L.length*2):(L.flatMap az)[j]? =some ((flatK az 2 L.toArray)[j]!):=by
 rw [get_flatK _ _ _ _ (by simpa using h)];have h1:j / 2<L.length:=by omega
 have h2:j % 2<2:=Nat.mod_lt _ (by omega);have h3:=mB bN L (j / 2) (j % 2) h1 h2;rw [show j / 2*2+j % 2=j by omega] at h3;rw [h3];have h4:L.toArray[j / 2]! =L[j / 2]:=by simp [h1]
 rw [h4,Ir (by rw [bN];exact h2)];congr 1;rw [getElem!_pos _ _ (by rw [bN];exact h2)]
theorem wW (w:World) (g n:Nat) (d:Array Rf) (os:Array Obj):w.grownBy (sortWorldK az 2 w g 0 n d os) (some g):={
 os:=rfl
 tape:=rfl
 output:=rfl
 size:=by
  show w.heap.size≤((w.heap.modify g _)++os).size;rw [Array.size_append,Ko];omega
 block k hk hne:=by
  show ((w.heap.modify g _)++os)[k]? =_;rw [Ju (by rw [Ko];exact hk),J4,if_neg (fun e=>hne (by rw [e]))] }
theorem zB (w:World) (g n:Nat) (d:Array Rf) (os:Array Obj) (c:Array Value) (T:TypeId) (fr:Nat × Nat) (h:w.heap[g]? =some (.cells c T fr)):
 (sortWorldK az 2 w g 0 n d os).heap[g]? =some (.cells (putCells id 0 (flatK az 2 d) c) T fr):=by
 have hlt:g<w.heap.size:=(IW.1 h).1;show ((w.heap.modify g _)++os)[g]? =_;rw [Ju (by rw [Ko];exact hlt),J4,if_pos rfl,h]
 rfl
theorem zO (L:List Rf) (xs junk:List Value) (hl:xs.length=L.length*2):putCells id 0 (flatK az 2 L.toArray) (xs++junk).toArray=(L.flatMap az++junk).toArray:=by
 have hfl:(L.flatMap az).length=L.length*2:=cE bN L;apply KY;intro j;simp only [putCells,Lb,I0,size_flatK,JK,Iw,true_and,IG,JJ];by_cases hj:j<L.length*2
 ·rw [I6 (by omega),I6 (by omega),vE L j hj,Ir (by omega)];simp [hj]
 ·rw [Ji (by omega),Ji (by omega),hl,hfl];simp [hj]
theorem uC (L:List Rf) (g cap:Nat) (hL:L.length≤1000000) (R:List Blk) (w0:World):
 FnIn Tryz.prog 68 [sl (some g) L.length cap,.func (.func 69) #[] #[]] w0 (.own (some g) 28 2 L.length cap (L.flatMap az)::R) fun v H=>v= .tuple #[]∧H= .own (some g) 28 2 L.length cap ((sortRf L).flatMap az)::R:=by
 intro w hm;obtain ⟨⟨h1,h2,h3,junk,h4,h5⟩,hk⟩:=hm.on _ Iu;have hlt:g<w.heap.size:=(IW.1 h5).1;have hH:HoldsK az 2 w g 0 L.toArray:=by
  intro j hj;simp only [size_flatK,JK] at hj;have hc:(L.flatMap az++junk).toArray[j]? =some (flatK az 2 L.toArray)[j]! :=by
   rw [I0,I6 (by omega),vE L j hj]
  constructor
  ·simp only [World.cell?,IG,h5];exact hc
  ·simp [World.frozen?,h5]
 have hs:=Tryz.sortRf_calls g 0 cap L.toArray w hH hlt (by simp;omega);have hsz:L.toArray.size=L.length:=by simp
 rw [hsz] at hs;refine hs.mono ?_;rintro e w' ⟨rfl,n,os,rfl⟩;have hlen:(sortRf L).length=L.length:=by simp [sortRf]
 have heq:(L.toArray.toList.mergeSort fun x y=> !(ltOf gP) y x)=sortRf L:=by
  simp only [sortRf,eL]
 rw [heq];refine ⟨_,_,rfl,hm.upd (wW _ _ _ _ _) (b' := .own (some g) 28 2 L.length cap ((sortRf L).flatMap az)) ?_ fun k hk=> .inl hk,rfl,rfl⟩;have hfl:((sortRf L).flatMap az).length=L.length*2:=by rw [cE bN,hlen]
 refine ⟨hfl,h2,h3,junk,by rw [Iv,hfl,← h1,← Iv];exact h4,?_⟩;rw [zB _ _ _ _ _ _ _ _ h5,zO (sortRf L) _ _ (by rw [hlen];exact h1)]
theorem si (L:List Rf) (A:Option Nat) (cap:Nat) (hL:L.length≤1000000) (R:List Blk) (w0:World):
 FnIn Tryz.prog 68 [sl A L.length cap,.func (.func 69) #[] #[]] w0 (.own A 28 2 L.length cap (L.flatMap az)::R) fun v H=>v= .tuple #[]∧H= .own A 28 2 L.length cap ((sortRf L).flatMap az)::R:=by
 cases A with
 |some g=>exact uC L g cap hL R w0
 |none=>
  intro w hm;obtain ⟨⟨h1,h2,h3,h4⟩,_⟩:=hm.on _ Iu;obtain ⟨h5,h6⟩:=h4;have hnil:L= []:=JX.1 h5;subst hnil;subst h6;refine Calls.mono (AnyF.slices_SortFunc_none Tryz.sortRf none 0 _ w) ?_;rintro e w' ⟨rfl,rfl⟩;exact ⟨_,_,rfl,hm,rfl,by simp [sortRf]⟩
end Go.SL
namespace Go.SL
open Go Go.Proofs
attribute [local irreducible] W WL WQ WG WA WX WLI WR WT VOp RW thn blk aW scp aJ aS bg FnAt FnIn FnP
def dE (a:Rf):Value:= .agg (az a).toArray
def gB (gg gm:Nat) (es:List (Rf × Value × Nat)) (clock:Nat):List Blk:= [.box gg 85 [.map (some gm)],.obj gm (bC dE es clock)]
def fj (es:List (Rf × Value × Nat)):List Rf:=sortRf (es.map fun e=>e.1)
theorem mU {L M:List Rf} (h:L.Perm M):sortRf L=sortRf M:=by
 have hp: ∀ L:List Rf,(sortRf L).Pairwise fun x y=>(!(bf y x))=true:=fun L=>
  List.pairwise_mergeSort (le:=fun x y=> !(bf y x)) (fun a b c h1 h2=>by simp [bf] at*;omega) (fun a b=>by simp [bf];omega) L
 refine List.Perm.eq_of_pairwise (fun a b _ _ h1 h2=> ?_) (hp L) (hp M) (((Kc L _).trans h).trans (Kc M _).symm);exact Fw a b (by rw [eL];simpa using h2) (by rw [eL];simpa using h1)
theorem nu (gg gm clock:Nat) (es:List (Rf × Value × Nat)) (hok:MapOk es clock) (hlen:es.length≤1000000) (R:List Blk) (w0:World):
 FnIn Tryz.prog 29 [.pointer (some ⟨gg,0,none⟩)] w0 (gB gg gm es clock++R) fun v H=> ∃ A cap,v=sl A es.length cap∧H= .own A 28 2 es.length cap ((fj es).flatMap az)::(gB gg gm es clock++R):=by
 refine cd Tryz.func29 rfl Tryz.ntmps29 rfl ?_;refine aN 28 2 ?_;repeat' (first|(apply ai;exact rfl;apply df;exact rfl)|(apply rJ (enc:=dE);exact rfl;exact rfl;exact pK;intro gi)|refine zZB ?_|refine sM fun _=>?_|(refine sC ?_ ?_<;>intro hb<;>try omega)|fail)
 refine aB [11] rfl (fun x:List (Rf × Value × Nat) × Option Nat × Nat=> [(3,sl x.2.1 x.1.length x.2.2)]) (fun x=> .obj gi (ku gm clock (x.1.map fun e=>e.2.2)):: .own x.2.1 28 2 x.1.length x.2.2 ((x.1.map fun e=>e.1).flatMap az)::(gB gg gm es clock++R)) (fun x=>Vis es x.1) (fun x=>es.length - x.1.length) ([],none,0) (Vis.nil es) sB (.refl _) ?_;rintro ⟨vis,A,cap⟩ hv;dsimp only at hv ⊢;have hvl:=hv.len;have hml:(vis.map fun e=>e.1).length=vis.length:=II _;have hS:=fun R' =>si (vis.map fun e=>e.1) A cap (by omega) R' w0;rw [hml] at hS;repeat' (first|(apply tS (enc:=dE);exact rfl;exact rfl;exact pK;exact pK;exact hok;intro e he hne)|(intro hall)|(apply ai;exact rfl;apply DR (enc:=dE);exact rfl;exact pK;exact pK;exact he;exact hok)|(apply gS;(iterate 3 exact rfl);(repeat first|exact .hd|apply Sel.tl|apply In.tl);(intro w hm;exact hm.cells_own (by (repeat first|exact .hd|apply Sel.tl|apply In.tl)));exact rfl;(simp [Value.oneCell',sl]);omega;(simp only [maxLen];omega);(intro A2 cap2 hA2))|(apply ap (f:=68);exact rfl;exact rfl;exact FnIn.msub (hS _) (MSub.pick pK (MSub.refl _));rintro _ _ ⟨rfl,rfl⟩)|refine zZB ?_|refine sM fun _=>?_|(refine sC ?_ ?_<;>intro hb<;>try omega)|fail)
 ·refine ⟨(vis++ [e],A2,cap2),hv.step he hne,?_,?_,sB,?_⟩
  ·have:=hv.lt he hne;simp only [Iv,IV];omega
  ·simp only [Iv,IV];exact sB
  ·simp only [Jn,Ja,Jz,Iv,IV,Jk,I8,KM,I3];exact mS
 ·have hperm:=hv.perm hok hall;have hl:vis.length=es.length:=hperm.length_eq;have hf:fj es=sortRf (vis.map fun e=>e.1):=mU (hperm.symm.map _);refine bB eIO rfl rfl (H' := .own A 28 2 es.length cap ((fj es).flatMap az)::(gB gg gm es clock++R)) ?_ ⟨A,cap,by rw [hl],rfl⟩;rw [hf,← hl];exact mS
end Go.SL
namespace Go.SL
open Go Go.Proofs
attribute [local irreducible] W WL WQ WG WA WX WLI WR WT VOp thn blk aW scp aJ aS bg FnAt FnIn FnP
def At (toks:List Tk) (A:Option Nat) (cap:Nat) (p:PS) (lv:Value):Prop:= ∃ k,k≤toks.length∧p.l=toks.drop k∧p.out.length≤k∧TkV lv A toks.length cap k
section
variable {toks:List Tk} {A:Option Nat} {cap:Nat} {fin:Int} {g:Nat}
def PR (toks:List Tk) (A:Option Nat) (cap:Nat) (fin:Int) (g:Nat) (R:List Blk) (r:Out) (v:Value) (H:List Blk):Prop:=v= .tuple #[]∧ ∃ n p' lv' B' cb',r= .ok (n,p')∧At toks A cap p' lv' ∧H=pB g lv' A cap fin toks B' cb' p'.out++R
def PD (R:List Blk) (r:Out) (v:Value) (H:List Blk):Prop:= ∃ e,r= .error e∧v=s9 e∧MSub R H
def POK (f:Nat) (j:Job) (fid:FuncId) (args:List Value):Prop:=
 ∀ (toks:List Tk) (A:Option Nat) (cap:Nat) (fin:Int) (g:Nat) (p:PS) (lv:Value) (B:Option Nat) (cb:Nat) (r:Out) (R:List Blk) (w0:World),toks.length≤cap→toks.length≤1000→At toks A cap p lv→aU fin f j p=some r→
  FnP Tryz.prog fid (.pointer (some ⟨g,0,none⟩)::args) w0 (pB g lv A cap fin toks B cb p.out++R) (PR toks A cap fin g R r) (PD R r)
theorem cj {o:Option Out} {k:Nat→PS→Option Out} {r:Out} (h:dB o k=some r): ∃ r1,o=some r1∧((∃ e,r1= .error e∧r= .error e)∨(∃ n p',r1= .ok (n,p')∧k n p' =some r)):=by
 unfold dB at h;split at h
 ·rename_i n p';exact ⟨_,rfl,.inr ⟨n,p',rfl,h⟩⟩
 ·rename_i h1
  cases r with
  |error e=>exact ⟨_,h,.inl ⟨e,rfl,rfl⟩⟩
  |ok x=>obtain ⟨n,p'⟩:=x;exact absurd h (h1 n p')
theorem At.head {p:PS} {lv:Value} (h:At toks A cap p lv) {B:Option Nat} {cb:Nat} {out:List Nd} {H:List Blk} {w0:World} (hH:MSub (pB g lv A cap fin toks B cb out) H) (w:World) (hm:Mem w0 w H):
 aC Tryz.prog 148 [.pointer (some ⟨g,0,none⟩)] w (.agg (cK (hdT fin p.l)).toArray):=by
 obtain ⟨k,h1,h2,h3,h4⟩:=h;rw [h2];exact Cr h4 hH w hm
theorem At.is {p:PS} {lv:Value} (h:At toks A cap p lv) (op:Int) {B:Option Nat} {cb:Nat} {out:List Nd} {H:List Blk} {w0:World} (hH:MSub (pB g lv A cap fin toks B cb out) H) (w:World) (hm:Mem w0 w H):
 aC Tryz.prog 277 [.pointer (some ⟨g,0,none⟩),.int .i64 op] w (.bool (decide ((hdT fin p.l).kind=8∧(hdT fin p.l).num=op))):=by
 obtain ⟨k,h1,h2,h3,h4⟩:=h;rw [h2];exact Gk op h4 hH w hm
def At1 (toks:List Tk) (A:Option Nat) (cap:Nat) (p:PS) (lv:Value):Prop:= ∃ k,k≤toks.length∧p.l=toks.drop k∧p.out.length+1≤k∧TkV lv A toks.length cap k
theorem At.skip {p:PS} {lv:Value} (h:At toks A cap p lv) (hc:toks.length≤cap) {c:Int} (hk:(hdT fin p.l).kind=c) (h0:c≠0) {B:Option Nat} {cb:Nat} {out:List Nd} {H R:List Blk} {w0:World} (hH:MSub (pB g lv A cap fin toks B cb out++R) H):
 FnIn Tryz.prog 249 [.pointer (some ⟨g,0,none⟩)] w0 H fun v H=>v= .tuple #[]∧ ∃ lv',At1 toks A cap p.skip lv' ∧H=pB g lv' A cap fin toks B cb out++R:=by
 obtain ⟨k,h1,h2,h3,h4⟩:=h;have hpos:=fg hk h0;rw [h2,Jg] at hpos;refine (Cp g lv A cap fin toks k h4 (by omega) hc B cb out R w0).msub hH|>.mono ?_;rintro v H' ⟨rfl,lv',h5,rfl⟩;exact ⟨rfl,lv',⟨k+1,by omega,by simp only [PS.skip];rw [h2,List.tail_drop],by simp only [PS.skip];omega,h5⟩,rfl⟩
theorem At1.at {p:PS} {lv:Value} (h:At1 toks A cap p lv):At toks A cap p lv:=let ⟨k,h1,h2,h3,h4⟩:=h;⟨k,h1,h2,by omega,h4⟩
theorem At1.put {p:PS} {lv:Value} (h:At1 toks A cap p lv) (n:Nd):At toks A cap (p.put n) lv:=let ⟨k,h1,h2,h3,h4⟩:=h;⟨k,h1,h2,by simp only [PS.put,Iv,IV];exact h3,h4⟩
theorem At.len {p:PS} {lv:Value} (h:At toks A cap p lv) (hl:toks.length≤1000):p.out.length≤1000000:=let ⟨k,h1,h2,h3,h4⟩:=h;by omega
theorem At1.grew {p p' :PS} {lv lv' :Value} {q:Prop} (h:At1 toks A cap p lv) (h' :At toks A cap p' lv') (hg:Grew p p' q):At1 toks A cap p' lv' :=by
 obtain ⟨k,h1,h2,h3,h4⟩:=h;obtain ⟨k',g1,g2,g3,g4⟩:=h';obtain ⟨⟨m,e1,e2,e3⟩,_,_⟩:=hg;rw [h2,Kr] at e1;rw [h2,Jg] at e2;have hk:k' =k+m:=by
  have:=congrArg List.length (g2.symm.trans e1);rw [Jg,Jg] at this;omega
 exact ⟨k',g1,g2,by omega,g4⟩
theorem cF {fn:Func} {fr:Fr} {w0:World} {R H:List Blk} {r:Out} {n:Nat} {p' :PS} {lv' :Value} {B' :Option Nat} {cb' :Nat} {e:Exit} {s:au} (he:e= .ret∨e= .normal) (hf:fn.results= #[]) (hr:r= .ok (n,p')) (hat:At toks A cap p' lv') (hs:MSub (pB g lv' A cap fin toks B' cb' p'.out++R) H):
 aS Tryz.prog fn fr w0 (PR toks A cap fin g R r) (PD R r) e s H:=HN (gN he hf hs ⟨rfl,n,p',lv',B',cb',hr,hat,rfl⟩)
theorem bu {fn:Func} {fr:Fr} {w0:World} {R H:List Blk} {r:Out} {e:Int × Int} {s:au} {Rok:Value→List Blk→Prop} (hr:r= .error e) (hs:MSub R H):
 aS Tryz.prog fn fr w0 Rok (PD R r) (.panic (fk (s9 e))) s H:=Fz (.refl _) ⟨e,hr,rfl,hs⟩
theorem Ea (f:Nat) (ihS:POK f .sign 246 []) (ihP:POK f .pct 278 []):POK (f+1) .sign 246 []:=by
 intro toks A cap fin g p lv B cb r R w0 hc hl hat hrun;refine pN Tryz.func246 rfl Tryz.ntmps246 rfl ?_;rw [aU] at hrun;dsimp only at hrun;have hi:=fun w hm=>hat.is 2 (fin:=fin) (g:=g) (B:=B) (cb:=cb) (out:=p.out) (H:=pB g lv A cap fin toks B cb p.out++R) (w0:=w0) (MSub.pick .hd (.pick .hd (.pick .hd (.nil _)))) w hm;by_cases hs:(hdT fin p.l).kind=8∧(hdT fin p.l).num=2
 ·rw [if_pos hs] at hrun;obtain ⟨r1,hr1,hr2⟩:=cj hrun;rw [decide_eq_true hs] at hi;repeat' (first|(apply ag (f:=277);exact rfl;exact rfl;exact hi)|(apply ap (f:=249);exact rfl;exact rfl;exact hat.skip hc hs.1 (by decide) (MSub.pick pK (MSub.pick pK (MSub.pick pK (MSub.refl _))));rintro _ _ ⟨rfl,lv1,h1,rfl⟩)|(refine aK (f:=246) rfl rfl (FnP.msub (ihS toks A cap fin g p.skip _ B cb r1 _ w0 hc hl (At1.at h1) hr1) (MSub.pick pK (MSub.pick pK (MSub.pick pK (MSub.refl _))))) ?_ ?_)|(rintro _ _ ⟨rfl,n,p',lv',B',cb',rfl,h2,rfl⟩)|(rintro _ _ ⟨e,rfl,rfl,h3⟩)|(apply ap (f:=250);exact rfl;exact rfl;exact FnIn.msub (gA (dD 4 0) _ _ _ _ _ _ _ _ _ (At.len h2 hl) _ _) (MSub.pick pK (MSub.pick pK (MSub.pick pK (MSub.refl _))));rintro _ _ ⟨rfl,B2,cb2,rfl⟩)|refine zZC ?_|refine sM fun _=>?_|(refine sC ?_ ?_<;>intro hb<;>try omega)|fail)
  ·rcases hr2 with ⟨e,h,_⟩|⟨n1,p1,h,h5⟩
   ·cases h
   ·cases h;cases h5;exact cF (p' :=p'.put (dD 4 0)) (.inl rfl) rfl rfl ((h1.grew h2 (fL _ _ _ _ _ _ hr1)).put _) (.refl _)
  ·rcases hr2 with ⟨e',h,h5⟩|⟨n1,p1,h,h5⟩
   ·cases h;exact bu h5 h3
   ·cases h
 ·rw [if_neg hs] at hrun;rw [decide_eq_false hs] at hi;obtain ⟨r1,hr1,hr2⟩:=cj hrun;repeat' (first|(apply ag (f:=277) (d:=3);exact rfl;exact rfl;exact hi)|(refine aK (f:=278) rfl rfl (FnP.msub (ihP toks A cap fin g p _ B cb r1 _ w0 hc hl hat hr1) (MSub.pick pK (MSub.pick pK (MSub.pick pK (MSub.refl _))))) ?_ ?_)|(rintro _ _ ⟨rfl,n,p',lv',B',cb',rfl,h2,rfl⟩)|(rintro _ _ ⟨e,rfl,rfl,h3⟩)|refine zZC ?_|refine sM fun _=>?_|(refine sC ?_ ?_<;>intro hb<;>try omega)|fail)
  ·rcases hr2 with ⟨e,h,_⟩|⟨n1,p1,h,h5⟩
   ·cases h
   cases h;have hi2:=fun w hm=>h2.is 5 (fin:=fin) (g:=g) (B:=B') (cb:=cb') (out:=p'.out) (H:=pB g lv' A cap fin toks B' cb' p'.out++R) (w0:=w0) (MSub.pick .hd (.pick .hd (.pick .hd (.nil _)))) w hm;by_cases hs5:(hdT fin p'.l).kind=8∧(hdT fin p'.l).num=5
   ·rw [if_pos hs5] at h5;rw [decide_eq_true hs5] at hi2;obtain ⟨r2,hr3,hr4⟩:=cj h5;repeat' (first|(apply ag (f:=277) (d:=14);exact rfl;exact rfl;exact hi2)|(apply ap (f:=249);exact rfl;exact rfl;exact h2.skip hc hs5.1 (by decide) (MSub.pick pK (MSub.pick pK (MSub.pick pK (MSub.refl _))));rintro _ _ ⟨rfl,lv1,h1,rfl⟩)|(refine aK (f:=246) rfl rfl (FnP.msub (ihS toks A cap fin g p'.skip _ B' cb' r2 _ w0 hc hl (At1.at h1) hr3) (MSub.pick pK (MSub.pick pK (MSub.pick pK (MSub.refl _))))) ?_ ?_)|(rintro _ _ ⟨rfl,n2,p2,lv2,B2,cb2,rfl,h6,rfl⟩)|(rintro _ _ ⟨e,rfl,rfl,h3⟩)|(apply ap (f:=250);exact rfl;exact rfl;exact FnIn.msub (gA (dD 6 5) _ _ _ _ _ _ _ _ _ (At.len h6 hl) _ _) (MSub.pick pK (MSub.pick pK (MSub.pick pK (MSub.refl _))));rintro _ _ ⟨rfl,B3,cb3,rfl⟩)|refine zZC ?_|refine sM fun _=>?_|(refine sC ?_ ?_<;>intro hb<;>try omega)|fail)
    ·rcases hr4 with ⟨e,h,_⟩|⟨n3,p3,h,h7⟩
     ·cases h
     ·cases h;cases h7;exact cF (p' :=p2.put (dD 6 5)) (.inr rfl) rfl rfl ((h1.grew h6 (fL _ _ _ _ _ _ hr3)).put _) (.refl _)
    ·rcases hr4 with ⟨e',h,h7⟩|⟨n3,p3,h,h7⟩
     ·cases h;exact bu h7 h3
     ·cases h
   ·rw [if_neg hs5] at h5;rw [decide_eq_false hs5] at hi2;cases h5;repeat' (first|(apply ag (f:=277) (d:=14);exact rfl;exact rfl;exact hi2)|refine zZC ?_|refine sM fun _=>?_|(refine sC ?_ ?_<;>intro hb<;>try omega)|fail)
    exact cF (.inr rfl) rfl rfl h2 (.refl _)
  ·rcases hr2 with ⟨e',h,h5⟩|⟨n1,p1,h,h5⟩
   ·cases h;exact bu h5 h3
   ·cases h
theorem xe (f:Nat) (ihP:POK f .prim 298 []):POK (f+1) .pct 278 []:=by
 intro toks A cap fin g p lv B cb r R w0 hc hl hat hrun;refine pN Tryz.func278 rfl Tryz.ntmps278 rfl ?_;rw [aU] at hrun;obtain ⟨r1,hr1,hr2⟩:=cj hrun;repeat' (first|(refine aK (f:=298) rfl rfl (FnP.msub (ihP toks A cap fin g p _ B cb r1 _ w0 hc hl hat hr1) (MSub.pick pK (MSub.pick pK (MSub.pick pK (MSub.refl _))))) ?_ ?_)|(rintro _ _ ⟨rfl,n,p',lv',B',cb',rfl,h2,rfl⟩)|(rintro _ _ ⟨e,rfl,rfl,h3⟩)|refine zZC ?_|refine sM fun _=>?_|(refine sC ?_ ?_<;>intro hb<;>try omega)|fail)
 ·rcases hr2 with ⟨e,h,_⟩|⟨n1,p1,h,h5⟩
  ·cases h
  cases h;refine aB [0] rfl (fun _:Nat × PS × Value × Option Nat × Nat=> []) (fun x=>pB g x.2.2.1 A cap fin toks x.2.2.2.1 x.2.2.2.2 x.2.1.out++R) (fun x=>At toks A cap x.2.1 x.2.2.1∧aU fin x.1 .pctl x.2.1=some r) (fun x=>x.1) (f,p',lv',B',cb') ⟨h2,h5⟩ sB (.refl _) ?_;rintro ⟨f',q,lq,Bq,cq⟩ ⟨hq1,hq2⟩;dsimp only at hq1 hq2 ⊢
  cases f' with
  |zero=>cases hq2
  |succ f' =>
   rw [aU] at hq2;have hi:=fun w hm=>hq1.is 13 (fin:=fin) (g:=g) (B:=Bq) (cb:=cq) (out:=q.out) (H:=pB g lq A cap fin toks Bq cq q.out++R) (w0:=w0) (MSub.pick .hd (.pick .hd (.pick .hd (.nil _)))) w hm;by_cases hs:(hdT fin q.l).kind=8∧(hdT fin q.l).num=13
   ·rw [if_pos hs] at hq2;rw [decide_eq_true hs] at hi;repeat' (first|(apply ag (f:=277);exact rfl;exact rfl;exact hi)|(apply ap (f:=249);exact rfl;exact rfl;exact hq1.skip hc hs.1 (by decide) (MSub.pick pK (MSub.pick pK (MSub.pick pK (MSub.refl _))));rintro _ _ ⟨rfl,lv1,h1,rfl⟩)|(apply ap (f:=250);exact rfl;exact rfl;exact FnIn.msub (gA (dD 5 0) _ _ _ _ _ _ _ _ _ (At.len hq1 hl) _ _) (MSub.pick pK (MSub.pick pK (MSub.pick pK (MSub.refl _))));rintro _ _ ⟨rfl,B2,cb2,rfl⟩)|refine zZC ?_|refine sM fun _=>?_|(refine sC ?_ ?_<;>intro hb<;>try omega)|fail)
    refine ⟨(f',q.skip.put (dD 5 0),lv1,B2,cb2),⟨h1.put _,hq2⟩,Kd _,sB,sB,.refl _⟩
   ·rw [if_neg hs] at hq2;rw [decide_eq_false hs] at hi;cases hq2;repeat' (first|(apply ag (f:=277);exact rfl;exact rfl;exact hi)|refine zZC ?_|refine sM fun _=>?_|(refine sC ?_ ?_<;>intro hb<;>try omega)|fail)
    exact cF (by first|exact .inr rfl|exact .inl rfl) rfl rfl hq1 (.refl _)
 ·rcases hr2 with ⟨e',h,h5⟩|⟨n1,p1,h,h5⟩
  ·cases h;exact bu h5 h3
  ·cases h
end
end Go.SL
namespace Go.SL
open Go Go.Proofs
attribute [local irreducible] W WL WQ WG WA WX WLI WR WT WC VOp RW thn blk aW scp aJ aS bg FnAt FnIn FnP ceP
theorem n9 {P:Program} {n:Fr} {w0:World} {Q:aO} {s:au} {H:List Blk} {l:List Oper} {id:Nat} (es ps:List Nat) (hm:P.follows .mixedOrders=true) (hB:Region.lexB .any l.toArray=true) (hch:xP l es ps=true)
 (h:WC P n w0 l H es ps Q l 0 s H):W P n w0 (.region id l.toArray true) Q s H:=nI es ps H hm hB hch (MSub.refl H) h
structure En where
 at_:Rf
 ta:Option Addr
 tc:Nat
 ua:Option Addr
 uc:Nat
 tree:List Nd
 uses:List Us
 born:Nat
def En.tv (e:En):Value:= .slice e.ta e.tree.length e.tc
def En.uv (e:En):Value:= .slice e.ua e.uses.length e.uc
def En.m (e:En):Rf × Value × Nat:=(e.at_,.agg #[e.tv,e.uv],e.born)
abbrev Bg:Value:= .agg [Value.slice none 0 0,.slice none 0 0].toArray
def rdIn (R:List Blk) (v:Value) (m:Nat) (xs:List Value):Prop:= ∀ w0 w,Mem w0 w R→Reads w v m xs
theorem rdIn.sub {R R' :List Blk} {v:Value} {m:Nat} {xs:List Value} (h:rdIn R v m xs) (hs:MSub R R'):rdIn R' v m xs:=fun w0 w hm=>h w0 w (hs.use hm)
theorem rdIn.nil (R:List Blk):rdIn R (.slice none 0 0) 0 []:=fun _ _ _=>⟨none,0,rfl,IK _,Iw _,fun h=>by cases h⟩
theorem rdIn.own {R:List Blk} {A:Option Nat} {t sz m c:Nat} {xs:List Value} (hi:In (.own A t sz m c xs) R):rdIn R (sl A m c) m xs:=fun _ _ hm=>Reads.of_own hm hi
structure EnOk (R:List Blk) (e:En):Prop where
 tree:rdIn R e.tv e.tree.length (e.tree.flatMap dO)
 uses:rdIn R e.uv e.uses.length (e.uses.flatMap fF)
 tl:e.tree.length≤1000000
 ul:e.uses.length≤1000000
theorem EnOk.sub {R R' :List Blk} {e:En} (h:EnOk R e) (hs:MSub R R'):EnOk R' e:=⟨h.tree.sub hs,h.uses.sub hs,h.tl,h.ul⟩
def rD (a:Rf):En:=⟨a,none,0,none,0,[],[],0⟩
theorem y6 (R:List Blk) (a:Rf):EnOk R (rD a):=⟨rdIn.nil _,rdIn.nil _,by simp [rD],by simp [rD]⟩
def jG (E:List En) (a:Rf):Option En:=E.find? fun e=>decide (e.at_=a)
def cn (E:List En) (a:Rf):En:=(jG E a).getD (rD a)
theorem AB {E:List En} {a:Rf} {e:En} (h:jG E a=some e):e∈E:=Kq h
theorem Az {R:List Blk} {E:List En} (h: ∀ e∈E,EnOk R e) (a:Rf):EnOk R (cn E a):=by
 unfold cn
 cases hf:jG E a with
 |none=>exact y6 _ _
 |some e=>exact h e (AB hf)
theorem Ew (E:List En) (a:Rf): ∀ i:Nat,(bn a (E.map En.m) i).map (fun x=>x.2)=(jG E a).map fun e=>e.m.2.1:=by
 induction E with
 |nil=>intro i;rfl
 |cons e r ih=>
  intro i;simp only [Ja,bn,jG,List.find?_cons];by_cases h:a=e.at_
  ·simp [En.m,h]
  ·have h' : ¬ e.at_=a:=fun x=>h x.symm;simp only [En.m,h,if_false,h',decide_false];exact ih (i+1)
theorem GH (E:List En) (a:Rf):(match bn a (E.map En.m) 0 with|some (_,v)=>v|none=>Bg)= .agg #[(cn E a).tv,(cn E a).uv]:=by
 have h:=Ew E a 0;unfold cn
 cases hk:bn a (E.map En.m) 0 with
 |none=>rw [hk] at h;cases hf:jG E a with
  |none=>rfl
  |some e=>rw [hf] at h;cases h
 |some x=>rw [hk] at h;cases hf:jG E a with
  |none=>rw [hf] at h;cases h
  |some e=>rw [hf] at h;exact Option.some.inj h
instance klaw_key:KLaw Tryz.prog 28 dE:=klaw_F
instance iN348:FldT Tryz.prog 100 1 96 1:=⟨_,_,Tryz.underlying100,rfl,rfl,rfl⟩
end Go.SL

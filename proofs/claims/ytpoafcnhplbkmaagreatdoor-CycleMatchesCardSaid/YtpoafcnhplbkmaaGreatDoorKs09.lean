/-
  Lemmas and walks, put together: A2 D3 Px2 C1 S1 A2p Px3 S2 S3 S4 D4 C2 D5.
-/
import Derived.Test.YtpoafcnhplbkmaaGreatDoorKs08
set_option linter.unusedSimpArgs false
set_option linter.unusedVariables false
set_option maxRecDepth 20000
set_option maxHeartbeats 16000000
namespace Go.SL
open Go Go.Proofs
attribute [local irreducible] W WL WQ WG WA VOp thn blk bH aV FnAt FnIn
structure Pc where
 m0:Int
 m1:Int
 v0:Int
 v1:Int
 ok:Bool
def zl (p:Pc):List Value:= [.int .i64 p.m0,.int .i64 p.m1,.int .i64 p.v0,.int .i64 p.v1,.bool p.ok]
def lu (p:Pc) (c:Int):Pc:=⟨p.m0+1,p.m1,min (26*p.v0+(c - 65)+1) 1025,p.v1,p.ok && decide (p.m1=0)⟩
def gZ (p:Pc) (c:Int):Pc:=⟨p.m0,p.m1+1,p.v0,min (10*p.v1+(c - 48)) 1025,p.ok && (decide (c≠48)||decide (0<p.m1))⟩
structure Pc.Fit (p:Pc) (n:Int):Prop where
 m0:0≤p.m0∧p.m0≤n
 m1:0≤p.m1∧p.m1≤n
 v0:0≤p.v0∧p.v0≤1025
 v1:0≤p.v1∧p.v1≤1025
theorem Ay (a b:Int):(if b<a then b else a)=min a b:=by omega
theorem JW (p:Pc) (c:Int) (n:Int) (hf:p.Fit n) (hn:n≤1000000) (h1:65≤c) (h2:c≤90) (g:Nat) (R:List Blk) (w0:World):
 FnIn Tryz.prog 294 [.pointer (some ⟨g,0,none⟩),.int .u8 c,.bool true] w0 (.box g 345 (zl p)::R) fun v H=>v= .tuple #[]∧H= .box g 345 (zl (lu p c))::R:=by
 refine bF Tryz.func294 rfl Tryz.ntmps294 rfl ?_;obtain ⟨a1,a2⟩:=hf.m0;obtain ⟨a3,a4⟩:=hf.m1;obtain ⟨a5,a6⟩:=hf.v0;obtain ⟨a7,a8⟩:=hf.v1;have hwc:IntKind.u8.wrap (c - 65)=c - 65:=fI (by omega) (by omega);have hwc2:IntKind.i64.wrap (c - 65)=c - 65:=I64.wrap ⟨by omega,by omega⟩;repeat' (first|(refine vn (id:=1) (ι:=Bool) (fun _=> [(0,.pointer (some ⟨g,0,none⟩)),(1,.int .u8 c)]) (fun b=> .box g 345 [.int .i64 p.m0,.int .i64 p.m1,.int .i64 p.v0,.int .i64 p.v1,.bool b]::R) (fun b=>b=(p.ok && decide (p.m1=0))) ?_ ?_)|refine zZN ?_|refine sM fun _=>?_|(refine sC ?_ ?_<;>intro hb<;>try omega)|exact cT|fail)
 ·(apply cX;rotate_left 1;exact sB;exact mS);rw [hb];rfl
 ·(apply cX;rotate_left 1;exact sB;exact mS);rw [hb];rfl
 rintro _ rfl;repeat' (first|(refine jW (id:=2) 9 (.box g 345 [.int .i64 (p.m0+1),.int .i64 p.m1,.int .i64 p.v0,.int .i64 p.v1,.bool (p.ok && decide (p.m1=0))]::R) (by kernel_rfl) (by kernel_rfl) rfl ?_)|(refine jW (id:=3) 16 (.box g 345 [.int .i64 (p.m0+1),.int .i64 p.m1,.int .i64 (min (26*p.v0+(c - 65)+1) 1025),.int .i64 p.v1,.bool (p.ok && decide (p.m1=0))]::R) (by kernel_rfl) (by kernel_rfl) rfl ?_)|(apply fp (f:=60);exact rfl;decide+kernel;exact rfl;apply eB;exact rfl;exact rfl;exact hwc)|(apply fp (f:=60);exact rfl;decide+kernel;exact rfl;apply cR;exact rfl;exact hwc2)|(apply tq;exact rfl;exact rfl;exact .hd;exact rfl;exact rfl;(try rw [Ay]);exact .refl _)|refine zZN ?_|refine sM fun _=>?_|(refine sC ?_ ?_<;>intro hb<;>try omega)|exact cT|fail)
 exact iP (.inl rfl) rfl (.refl _) ⟨rfl,rfl⟩
theorem JX (p:Pc) (c:Int) (n:Int) (hf:p.Fit n) (hn:n≤1000000) (h1:48≤c) (h2:c≤57) (g:Nat) (R:List Blk) (w0:World):
 FnIn Tryz.prog 294 [.pointer (some ⟨g,0,none⟩),.int .u8 c,.bool false] w0 (.box g 345 (zl p)::R) fun v H=>v= .tuple #[]∧H= .box g 345 (zl (gZ p c))::R:=by
 refine bF Tryz.func294 rfl Tryz.ntmps294 rfl ?_;obtain ⟨a1,a2⟩:=hf.m0;obtain ⟨a3,a4⟩:=hf.m1;obtain ⟨a5,a6⟩:=hf.v0;obtain ⟨a7,a8⟩:=hf.v1;have hwc:IntKind.u8.wrap (c - 48)=c - 48:=fI (by omega) (by omega);have hwc2:IntKind.i64.wrap (c - 48)=c - 48:=I64.wrap ⟨by omega,by omega⟩;repeat' (first|(refine vn (id:=4) (ι:=Bool) (fun _=> [(0,.pointer (some ⟨g,0,none⟩)),(1,.int .u8 c)]) (fun b=> .box g 345 [.int .i64 p.m0,.int .i64 p.m1,.int .i64 p.v0,.int .i64 p.v1,.bool b]::R) (fun b=>b=(p.ok && (decide (c≠48)||decide (0<p.m1)))) ?_ ?_)|refine zZN ?_|refine sM fun _=>?_|(refine sC ?_ ?_<;>intro hb<;>try omega)|exact cT|fail)
 ·(apply cX;rotate_left 1;exact sB;exact mS);rename_i h3;rw [h3,decide_eq_true hb];rfl
 ·(apply cX;rotate_left 1;exact sB;exact mS);rename_i h3;rw [h3,decide_eq_false hb];rfl
 ·(apply cX;rotate_left 1;exact sB;exact mS);rw [hb];rfl
 rintro _ rfl;repeat' (first|(refine jW (id:=5) 9 (.box g 345 [.int .i64 p.m0,.int .i64 (p.m1+1),.int .i64 p.v0,.int .i64 p.v1,.bool (p.ok && (decide (c≠48)||decide (0<p.m1)))]::R) (by kernel_rfl) (by kernel_rfl) rfl ?_)|(refine jW (id:=6) 15 (.box g 345 [.int .i64 p.m0,.int .i64 (p.m1+1),.int .i64 p.v0,.int .i64 (min (10*p.v1+(c - 48)) 1025),.bool (p.ok && (decide (c≠48)||decide (0<p.m1)))]::R) (by kernel_rfl) (by kernel_rfl) rfl ?_)|(apply fp (f:=60);exact rfl;decide+kernel;exact rfl;apply eB;exact rfl;exact rfl;exact hwc)|(apply fp (f:=60);exact rfl;decide+kernel;exact rfl;apply cR;exact rfl;exact hwc2)|(apply tq;exact rfl;exact rfl;exact .hd;exact rfl;exact rfl;(try rw [Ay]);exact .refl _)|refine zZN ?_|refine sM fun _=>?_|(refine sC ?_ ?_<;>intro hb<;>try omega)|exact cT|fail)
 exact iP (.inr rfl) rfl (.refl _) ⟨rfl,rfl⟩
def ck (p:Pc) (c:Int):Pc:=if 65≤upC c∧upC c≤90 then lu p (upC c) else if 48≤c∧c≤57 then gZ p c else ⟨p.m0,p.m1,p.v0,p.v1,false⟩
def pc0:Pc:=⟨0,0,0,0,true⟩
theorem FE {p:Pc} {c:Int} (h1:97≤c) (h2:c≤122):ck p c=lu p (c - 32):=by
 have e:upC c=c - 32:=by rw [upC,if_pos ⟨h1,h2⟩]
 rw [ck,e,if_pos (by omega)]
theorem I0 {p:Pc} {c:Int} (h1:65≤c) (h2:c≤90):ck p c=lu p c:=by
 have e:upC c=c:=by rw [upC,if_neg (by omega)]
 rw [ck,e,if_pos (by omega)]
theorem GV {c:Int} (h: ¬ (97≤c∧c≤122)):upC c=c:=by rw [upC,if_neg h]
theorem wt {p:Pc} {c:Int} (h1:48≤c) (h2:c≤57):ck p c=gZ p c:=by
 rw [ck,GV (by omega),if_neg (by omega),if_pos ⟨h1,h2⟩]
theorem yX {p:Pc} {c:Int} (h: ¬ (97≤c∧c≤122)) (h2: ¬ (65≤c∧c≤90)) (h3: ¬ (48≤c∧c≤57)):ck p c=⟨p.m0,p.m1,p.v0,p.v1,false⟩:=by
 rw [ck,GV h,if_neg h2,if_neg h3]
theorem FF {p:Pc} {n:Int} (h:p.Fit n) (c:Int):(ck p c).Fit (n+1):=by
 obtain ⟨⟨a1,a2⟩,⟨a3,a4⟩,⟨a5,a6⟩,⟨a7,a8⟩⟩:=h;unfold ck;split
 ·exact ⟨⟨by simp only [lu];omega,by simp only [lu];omega⟩,⟨a3,by simp only [lu];omega⟩,⟨by simp only [lu];omega,by simp only [lu];omega⟩,⟨a7,a8⟩⟩
 ·split
  ·exact ⟨⟨a1,by simp only [gZ];omega⟩,⟨by simp only [gZ];omega,by simp only [gZ];omega⟩,⟨a5,a6⟩,⟨by simp only [gZ];omega,by simp only [gZ];omega⟩⟩
  ·exact ⟨⟨a1,by dsimp only;omega⟩,⟨a3,by dsimp only;omega⟩,⟨a5,a6⟩,⟨a7,a8⟩⟩
def uj (l:List Int):Pc:=l.foldl ck pc0
theorem Em (a:ByteArray) (ha:a.size≤100000) (w:World):aC Tryz.prog 275 [.string a] w (.agg (zl (uj (ap a))).toArray):=by
 refine ay Tryz.func275 rfl Tryz.ntmps275 rfl ?_;have hl:=av a;repeat' (first|refine zZE ?_|refine sM fun _=>?_|(refine sC ?_ ?_<;>intro hb<;>try omega)|exact cT|fail)
 rename_i g2 g3;refine aw [0,2,3,9] rfl (fun x:Nat × Pc=> [(10,.int .i64 (x.1:Int))]) (fun x=> [.box g3 345 (zl x.2),.box g2 345 [.int .i64 0,.int .i64 0,.int .i64 0,.int .i64 0,.bool false]]) (fun x=>x.1≤a.size∧x.2.Fit x.1∧uj (ap a)=((ap a).drop x.1).foldl ck x.2) (fun x=>a.size - x.1) (0,pc0) ⟨QZ _,⟨⟨by decide,by decide⟩,⟨by decide,by decide⟩,⟨by decide,by decide⟩,⟨by decide,by decide⟩⟩,rfl⟩ sB mS ?_;rintro ⟨i,p⟩ ⟨hi,hf,hr⟩;dsimp only at hi hf hr ⊢;by_cases hlt:i<a.size
 ·rw [bi hlt,SB] at hr;have hc:=s5 a i;generalize hcd:bat a i=c at hr hc;have hf2:=FF hf c;repeat' (first|(apply ai (d:=15);exact rfl;exact hcd ▸ aX rfl rfl hlt)|(apply ai (d:=38);exact rfl;apply eB;exact rfl;exact rfl;exact fI (by omega) (by omega))|(apply ak (d:=41);exact rfl;exact rfl;(first|exact FnIn.msub (JW p _ _ hf (by omega) (by omega) (by omega) _ _ _) (.pick pK (.refl _))|exact FnIn.msub (JX p _ _ hf (by omega) (by omega) (by omega) _ _ _) (.pick pK (.refl _)));rintro _ _ ⟨rfl,rfl⟩)|refine zZG ?_|refine sM fun _=>?_|(refine sC ?_ ?_<;>intro hb<;>try omega)|exact cT|fail)
  all_goals
   refine ⟨(i+1,ck p c),⟨hlt,by have:=hf2;simpa using this,hr⟩,(by dsimp only;omega),sB,sB,?_⟩;dsimp only
   first
   |(rw [FE (by omega) (by omega)];exact mS;done)
   |(rw [I0 (by omega) (by omega)];exact mS;done)
   |(rw [wt (by omega) (by omega)];exact mS;done)
   |(rw [yX (by omega) (by omega) (by omega)];exact mS;done)
 ·have e:i=a.size:=by omega
  subst e;rw [RK (by omega),List.foldl_nil] at hr;rw [hr];repeat' (first|refine zZE ?_|refine sM fun _=>?_|(refine sC ?_ ?_<;>intro hb<;>try omega)|exact cT|fail)
  exact Fb (.inl rfl) rfl rfl .hd rfl (MSub.nil _) rfl
def zB (l:List Int):Int × Int × Int:=
 if (uj l).ok=false∨(uj l).m0=0∨(uj l).m1=0 then (0,0,4)
 else if valid (uj l).v0 (uj l).v1 then ((uj l).v0,(uj l).v1,0) else (0,0,3)
theorem Be (a:ByteArray) (ha:a.size≤100000) (w:World):aC Tryz.prog 241 [.string a] w (.tuple #[.agg #[.int .i64 (zB (ap a)).1,.int .i64 (zB (ap a)).2.1],.int .i64 (zB (ap a)).2.2]):=by
 refine ay Tryz.func241 rfl Tryz.ntmps241 rfl ?_;unfold zB;generalize hp:uj (ap a)=p;have hR:=Em a ha;rw [hp] at hR;repeat' (first|(apply aa;exact rfl;exact rfl;(intro w hm;exact hR w))|(apply aa;exact rfl;exact rfl;(intro w hm;exact nO p.v0 p.v1 w))|refine zZE ?_|refine sM fun _=>?_|(refine sC ?_ ?_<;>intro hb<;>try omega)|exact cT|fail)
 all_goals
  (refine lU ?_);simp_all
def bo (a b:Rf):Bool:=decide (a.row<b.row)||(decide (a.row=b.row) && decide (a.col<b.col))
theorem Oo (a b:Rf) (w:World):aC Tryz.prog 87 [.agg (aB a).toArray,.agg (aB b).toArray] w (.bool (bo a b)):=by
 refine ay Tryz.func87 rfl Tryz.ntmps87 rfl ?_;repeat' (first|refine sT ?_|refine sM fun _=>?_|(refine sC ?_ ?_<;>intro hb<;>try omega)|exact cT|fail)
 all_goals ((refine rT1 ?_);((try simp only [← Int.not_lt] at*);simp_all [bo, -Int.not_lt, -Int.not_le,← Int.not_lt]))
theorem s9 (a:Rf) (w:World):aC Tryz.prog 32 [.agg (aB a).toArray] w (.agg (jp (kN a.col a.row)).toArray):=by
 refine ay Tryz.func32 rfl Tryz.ntmps32 rfl ?_;repeat' (first|refine sT ?_|refine sM fun _=>?_|(refine sC ?_ ?_<;>intro hb<;>try omega)|exact cT|fail)
 (refine eRC ?_)
 rfl
def DC (r:Rct) (a:Rf):Bool:=decide (r.c1≤a.col) && decide (a.col≤r.c2) && decide (r.r1≤a.row) && decide (a.row≤r.r2)
theorem PT (r:Rct) (a:Rf) (w:World):aC Tryz.prog 74 [.agg (jp r).toArray,.agg (aB a).toArray] w (.bool (DC r a)):=by
 refine ay Tryz.func74 rfl Tryz.ntmps74 rfl ?_;repeat' (first|refine sT ?_|refine sM fun _=>?_|(refine sC ?_ ?_<;>intro hb<;>try omega)|exact cT|fail)
 all_goals ((refine rT1 ?_);((try simp only [← Int.not_lt] at*);simp_all [DC, -Int.not_lt, -Int.not_le,← Int.not_lt]))
end Go.SL
namespace Go.SL
open Go Go.Proofs
attribute [local irreducible] W WL WQ WG WA WX WLI WR WT VOp RW thn blk bH scp aV bz bP FnAt FnIn FnP
def lS (a b:Rf):Int:=if bo a b then -1 else if bo b a then 1 else 0
end Go.SL
namespace Go.SL
open Go
def Job.c:Job→Nat
 | .level k=>(9 - k).toNat
 | .loop _=>1
 | .sign=>3
 | .pct=>2
 | .pctl=>1
 | .prim=>1
 | .args _ _=>9
def Job.fit:Job→Prop
 | .level k=>1≤k∧k≤5
 | .loop k=>1≤k∧k≤4
 |_=>True
def Job.eats:Job→Prop
 | .loop _=>False
 | .pctl=>False
 |_=>True
def Eo (p:PS) (strict:Prop) (r:Out):Prop:= ∀ n p',r= .ok (n,p')→p'.l.length≤p.l.length∧(strict→p'.l.length<p.l.length)
def GH (o:Option Out) (B:Out→Prop):Prop:= ∃ r,o=some r∧B r
theorem ep {B:Out→Prop} {r:Out} (h:B r):GH (some r) B:=⟨r,rfl,h⟩
theorem di {p:PS} {q:Prop} {e:Int × Int}:Eo p q (.error e):=fun _ _ h=>by cases h
theorem jx {p p' :PS} {q:Prop} {n:Nat} (h:p'.l.length≤p.l.length) (hq:q→p'.l.length<p.l.length):Eo p q (.ok (n,p')):=fun m p2 h2=>by
 cases h2;exact ⟨h,hq⟩
theorem gz {o:Option Out} {k:Nat→PS→Option Out} {p:PS} {q:Prop} {B:Out→Prop} (h:GH o (Eo p q)) (he: ∀ e,B (.error e)) (hk: ∀ n p',p'.l.length≤p.l.length→(q→p'.l.length<p.l.length)→GH (k n p') B):GH (gK o k) B:=by
 obtain ⟨r,rfl,hr⟩:=h
 cases r with
 |error e=>exact ⟨_,rfl,he e⟩
 |ok x=>
  obtain ⟨n,p'⟩:=x;obtain ⟨h1,h2⟩:=hr n p' rfl;exact hk n p' h1 h2
theorem jo {fin:Int} {l:List Tk} (h:(hdT fin l).kind≠0):0<l.length:=by
 cases l with
 |nil=>exact absurd rfl h
 |cons=>simp
theorem fV (p:PS):p.skip.l.length=p.l.length - 1:=by simp [PS.skip]
theorem fg (p:PS) (n:Nd):(p.put n).l=p.l:=rfl
theorem ru {fin:Int} {name:Tk} {fn:Int} {n:Nat} {p p0:PS} {q:Prop} (h:p.l.length≤p0.l.length) (hq:0<p.l.length→q→p.l.length - 1<p0.l.length):GH (dz fin name fn n p) (Eo p0 q):=by
 unfold dz;dsimp only;split
 ·exact ep di
 ·rename_i hk;have hpos:=jo (fin:=fin) (l:=p.l) (by omega);split
  ·exact ep di
  ·split
   ·exact ep di
   ·refine ep (jx ?_ fun hh=> ?_)
    ·rw [fg,fV];omega
    ·rw [fg,fV];exact hq hpos hh
theorem rX (fin:Int): ∀ (f:Nat) (j:Job) (p:PS),j.fit→20*p.l.length+j.c≤f→GH (bw fin f j p) (Eo p j.eats):=by
 intro f
 induction f with
 |zero=>
  intro j p hj hf
  cases j with
  |level k=>obtain ⟨h1,h2⟩:=hj;simp only [Job.c] at hf;omega
  |_=>simp only [Job.c] at hf;omega
 |succ f ih=>
  intro j p hj hf
  cases j with
  |level k=>
   obtain ⟨h1,h2⟩:=hj;simp only [Job.c] at hf;rw [bw];split
   ·obtain ⟨r,hr,hl⟩:=ih .sign p trivial (by simp only [Job.c];omega);exact ⟨r,hr,hl⟩
   ·refine gz (ih (.level (k+1)) p ⟨by omega,by omega⟩ (by simp only [Job.c];omega)) (fun e=>di) fun n p' h3 h4=> ?_;have h5:=h4 trivial;obtain ⟨r,hr,hl⟩:=ih (.loop k) p' ⟨h1,by omega⟩ (by simp only [Job.c];omega);exact ⟨r,hr,fun m q hq=>⟨by have:=(hl m q hq).1;omega,fun _=>by have:=(hl m q hq).1;omega⟩⟩
  |loop k=>
   obtain ⟨h1,h2⟩:=hj;simp only [Job.c] at hf;rw [bw];split
   ·rename_i hk;have hpos:=jo (fin:=fin) (l:=p.l) (by omega);have hs:=fV p;refine gz (ih (.level (k+1)) p.skip ⟨by omega,by omega⟩ (by simp only [Job.c];omega)) (fun e=>di) fun n p' h3 h4=> ?_;have h5:=h4 trivial;obtain ⟨r,hr,hl⟩:=ih (.loop k) (p'.put (dY 6 (hdT fin p.l).num)) ⟨h1,h2⟩ (by rw [fg];simp only [Job.c];omega);exact ⟨r,hr,fun m q hq=>⟨by have:=(hl m q hq).1;rw [fg] at this;omega,fun h=>h.elim⟩⟩
   ·exact ep (jx (Rg _) fun h=>h.elim)
  |sign=>
   simp only [Job.c] at hf;rw [bw];dsimp only;split
   ·rename_i hk;have hpos:=jo (fin:=fin) (l:=p.l) (by omega);have hs:=fV p;refine gz (ih .sign p.skip trivial (by simp only [Job.c];omega)) (fun e=>di) fun n p' h3 h4=> ?_;have h5:=h4 trivial;exact ep (jx (by rw [fg];omega) fun _=>by rw [fg];omega)
   ·refine gz (ih .pct p trivial (by simp only [Job.c];omega)) (fun e=>di) fun n p' h3 h4=> ?_;have h5:=h4 trivial;split
    ·have hs:=fV p';refine gz (ih .sign p'.skip trivial (by simp only [Job.c];omega)) (fun e=>di) fun n p2 h6 h7=> ?_;exact ep (jx (by rw [fg];omega) fun _=>by rw [fg];omega)
    ·exact ep (jx h3 fun _=>h5)
  |pct=>
   simp only [Job.c] at hf;rw [bw];refine gz (ih .prim p trivial (by simp only [Job.c];omega)) (fun e=>di) fun n p' h3 h4=> ?_;have h5:=h4 trivial;obtain ⟨r,hr,hl⟩:=ih .pctl p' trivial (by simp only [Job.c];omega);exact ⟨r,hr,fun m q hq=>⟨by have:=(hl m q hq).1;omega,fun _=>by have:=(hl m q hq).1;omega⟩⟩
  |pctl=>
   simp only [Job.c] at hf;rw [bw];split
   ·rename_i hk;have hpos:=jo (fin:=fin) (l:=p.l) (by omega);have hs:=fV p;obtain ⟨r,hr,hl⟩:=ih .pctl (p.skip.put (dY 5 0)) trivial (by rw [fg];simp only [Job.c];omega);exact ⟨r,hr,fun m q hq=>⟨by have:=(hl m q hq).1;rw [fg] at this;omega,fun h=>h.elim⟩⟩
   ·exact ep (jx (Rg _) fun h=>h.elim)
  |prim=>
   simp only [Job.c] at hf;rw [bw];dsimp only;have hs:=fV p;have hs2:=fV p.skip;split
   ·rename_i hk;have hpos:=jo (fin:=fin) (l:=p.l) (by omega);exact ep (jx (by rw [fg];omega) fun _=>by rw [fg];omega)
   ·split
    ·rename_i hk;have hpos:=jo (fin:=fin) (l:=p.l) (by omega);exact ep (jx (by rw [fg];omega) fun _=>by rw [fg];omega)
    ·split
     ·rename_i hk;have hpos:=jo (fin:=fin) (l:=p.l) (by omega);refine gz (ih (.level 1) p.skip ⟨by omega,by omega⟩ (by simp only [Job.c];omega)) (fun e=>di) fun n p' h3 h4=> ?_;have h5:=h4 trivial;have hs3:=fV p';split
      ·exact ep di
      ·exact ep (jx (by omega) fun _=>by omega)
     ·split
      ·rename_i hk;have hpos:=jo (fin:=fin) (l:=p.l) (by omega);split
       ·exact ep di
       ·split
        ·exact ep di
        ·rename_i hk2;have hpos2:=jo (fin:=fin) (l:=p.skip.l) (by omega);split
         ·exact ru (by omega) fun _ _=>by omega
         ·refine gz (ih (.args (aY (hdT fin p.l).text).1 0) p.skip.skip trivial (by simp only [Job.c];omega)) (fun e=>di) fun n p' h3 h4=> ?_;exact ru (by omega) fun _ _=>by omega
      ·exact ep di
  |args fn n=>
   simp only [Job.c] at hf;rw [bw];dsimp only;have hgo: ∀ p' :PS,p'.l.length<p.l.length→GH (if (hdT fin p'.l).kind=11 then bw fin f (.args fn (n+1)) p'.skip else some (.ok (n+1,p'))) (Eo p (Job.args fn n).eats):=by
    intro p' hp;have hs:=fV p';split
    ·obtain ⟨r,hr,hl⟩:=ih (.args fn (n+1)) p'.skip trivial (by simp only [Job.c];omega);exact ⟨r,hr,fun m q hq=>⟨by have:=(hl m q hq).1;omega,fun _=>by have:=(hl m q hq).1;omega⟩⟩
    ·exact ep (jx (by omega) fun _=>hp)
   split
   ·refine gz (ih (.level 1) p ⟨by omega,by omega⟩ (by simp only [Job.c];omega)) (fun e=>di) fun m p' h3 h4=> ?_;exact hgo p' (h4 trivial)
   ·rename_i hk;have hpos:=jo (fin:=fin) (l:=p.l) (by omega);have hs:=fV p;split
    ·exact ep di
    ·exact hgo _ (by rw [fg];omega)
end Go.SL
namespace Go.SL
open Go Go.Proofs
attribute [local irreducible] W WL WQ WG WA WX WLI WR WT VOp thn blk bH scp aV bP FnAt FnIn
def TkV (v:Value) (A:Option Nat) (n cap k:Nat):Prop:= ∃ a:Option Addr,v= .slice a (n - k) (cap - k)∧(k<n→a=A.map fun g=>⟨g,k*8,none⟩)
def pB (g:Nat) (lv:Value) (A:Option Nat) (cap:Nat) (fin:Int) (toks:List Tk) (B:Option Nat) (cb:Nat) (out:List Nd):List Blk:=
 [.box g 226 [lv,.int .i64 fin,sl B out.length cb],.own A 228 8 toks.length cap (toks.flatMap bh),.own B 123 11 out.length cb (out.flatMap bf)]
theorem TkV.next {P:Program} {t e:Nat} {v:Value} {A:Option Nat} {n cap k:Nat} [ht:Und P t (.slice e)] [hz:Size P e 8] (h:TkV v A n cap k) (hk:k<n) (hc:n≤cap):
 ∃ v',TkV v' A n cap (k+1)∧v'.oneCell' =true∧(∃ a m c,v' = .slice a m c)∧ ∀ {w0:World} {s:az} {H:List Blk} {ty:TypeId} {x r:Operand} {k' :IntKind},ev s x=some v→ev s r=some (.int k' 1)→VOp P w0 s H (.slice t x (some r) none none) ty v' :=by
 obtain ⟨a,rfl,ha⟩:=h;refine ⟨.slice (if cap - k=1 then a else a.map (·.add (1*8))) (n - k - 1) (cap - k - 1),⟨if cap - k=1 then a else a.map (·.add (1*8)),?_,fun hk1=> ?_⟩,rfl,⟨_,_,_,rfl⟩,fun hx hr=>mU (lo:=1) (hi:=n - k) hx ⟨_,hr⟩ rfl (by omega) (by omega)⟩
 ·congr 1
 ·rw [if_neg (by omega),ha hk]
  cases A with
  |none=>rfl
  |some g=>(simp [dr])<;>omega
theorem Ht {fin:Int} {toks:List Tk} {k:Nat} (h:k<toks.length):hdT fin (toks.drop k)=toks[k]:=by
 rw [Rn h];rfl
theorem uN {fin:Int} {toks:List Tk} {k:Nat} (h:toks.length≤k):hdT fin (toks.drop k)={ dA with at_:=fin }:=by
 rw [RK h];rfl
theorem C9 (g:Nat) (lv:Value) (A:Option Nat) (cap:Nat) (fin:Int) (toks:List Tk) (k:Nat) (hk:TkV lv A toks.length cap k) (x:Value) (w:World) (hr:Ro w g 0 [lv,.int .i64 fin,x])
 (ht:k<toks.length→ ∃ ga,A=some ga∧Ro w ga 0 (toks.flatMap bh)):aC Tryz.prog 148 [.pointer (some ⟨g,0,none⟩)] w (.agg (bh (hdT fin (toks.drop k))).toArray):=by
 refine ay Tryz.func148 rfl Tryz.ntmps148 rfl ?_;obtain ⟨a,rfl,ha⟩:=hk;by_cases hlt:k<toks.length
 ·rw [Ht hlt];obtain ⟨ga,rfl,hra⟩:=ht hlt;have ha' :=ha hlt;subst ha';have hra' :Ro w ga (k*8) (bh toks[k]):=by
   have:=hra.elem zj k hlt;rwa [Rv] at this
  have hlen:0<toks.length - k:=by omega
  repeat' (first|(apply ai;exact rfl;apply aN (o:=0) (off:=0);exact hr;exact rfl;exact rfl)|(apply ai;exact rfl;apply aN (o:=0) (off:=1);exact hr;exact rfl;exact rfl)|(apply ai;exact rfl;apply ag (j:=0);exact rfl;exact rfl;exact hlen)|(apply ai;exact rfl;apply cD (o:=k*8) (off:=0*8);exact hra';(iterate 3 exact rfl))|refine sT ?_|refine sM fun _=>?_|(refine sC ?_ ?_<;>intro hb<;>try omega)|fail)
  all_goals try (exfalso;omega)
  (refine eRC ?_)
  rfl
 ·rw [uN (by omega)];repeat' (first|(apply ai;exact rfl;apply aN (o:=0) (off:=0);exact hr;exact rfl;exact rfl)|(apply ai;exact rfl;apply aN (o:=0) (off:=1);exact hr;exact rfl;exact rfl)|refine sT ?_|refine sM fun _=>?_|(refine sC ?_ ?_<;>intro hb<;>try omega)|fail)
  all_goals try (exfalso;omega)
  (refine eRC ?_)
  rfl
theorem K3 {g:Nat} {lv:Value} {A:Option Nat} {cap:Nat} {fin:Int} {toks:List Tk} {k:Nat} (hk:TkV lv A toks.length cap k) {B:Option Nat} {cb:Nat} {out:List Nd} {H:List Blk} {w0:World} (hH:MSub (pB g lv A cap fin toks B cb out) H) (w:World) (hm:Mem w0 w H):
 aC Tryz.prog 148 [.pointer (some ⟨g,0,none⟩)] w (.agg (bh (hdT fin (toks.drop k))).toArray):=by
 have hm' :=hH.use hm;refine C9 g lv A cap fin toks k hk (sl B out.length cb) w (Ro.of_box hm' .hd) fun hlt=> ?_;obtain ⟨_,_,_,h4⟩:=(hm'.on _ (In.tl .hd:In (.own A 228 8 toks.length cap (toks.flatMap bh)) _).mem).1
 cases A with
 |none=>obtain ⟨h5,_⟩:=h4;omega
 |some ga=>exact ⟨ga,rfl,Ro.of_own hm' (In.tl .hd)⟩
theorem K0 (g:Nat) (lv:Value) (A:Option Nat) (cap:Nat) (fin:Int) (toks:List Tk) (k:Nat) (hv:TkV lv A toks.length cap k) (hk:k<toks.length) (hc:toks.length≤cap) (B:Option Nat) (cb:Nat) (out:List Nd) (R:List Blk) (w0:World):
 FnIn Tryz.prog 249 [.pointer (some ⟨g,0,none⟩)] w0 (pB g lv A cap fin toks B cb out++R) fun v H=>v= .tuple #[]∧ ∃ lv',TkV lv' A toks.length cap (k+1)∧H=pB g lv' A cap fin toks B cb out++R:=by
 refine bF Tryz.func249 rfl Tryz.ntmps249 rfl ?_;obtain ⟨lv',h1,h3,⟨a',m',c',rfl⟩,h2⟩:=hv.next hk hc (P:=Tryz.prog) (t:=219) (e:=228);obtain ⟨a,rfl,ha⟩:=hv;repeat' (first|(apply ai (d:=7);exact rfl;exact h2 rfl rfl)|refine sT ?_|refine sM fun _=>?_|(refine sC ?_ ?_<;>intro hb<;>try omega)|fail)
 exact iP (.inr rfl) rfl (.refl _) ⟨rfl,_,h1,rfl⟩
theorem lz (n:Nd) (g:Nat) (lv:Value) (A:Option Nat) (cap:Nat) (fin:Int) (toks:List Tk) (B:Option Nat) (cb:Nat) (out:List Nd) (hlen:out.length≤1000000) (R:List Blk) (w0:World):
 FnIn Tryz.prog 250 [.pointer (some ⟨g,0,none⟩),.agg (bf n).toArray] w0 (pB g lv A cap fin toks B cb out++R) fun v H=>v= .tuple #[]∧ ∃ B' cb',H=pB g lv A cap fin toks B' cb' (out++ [n])++R:=by
 refine bF Tryz.func250 rfl Tryz.ntmps250 rfl ?_;repeat' (first|refine sT ?_|refine sM fun _=>?_|(refine sC ?_ ?_<;>intro hb<;>try omega)|fail)
 refine jX 11 rfl (by kernel_rfl) ?_;((with_reducible apply aR (i:=0));exact rfl;exact rfl;(iterate 3 decide+kernel);exact nP;(intro _ _;exact vP));((with_reducible apply aR (i:=1));exact rfl;exact rfl;(iterate 3 decide+kernel);exact nP;(intro _ _;exact vP));((with_reducible apply aR (i:=2));exact rfl;exact rfl;(iterate 3 decide+kernel);exact nP;(intro _ _;exact vP));((with_reducible apply aR (i:=3));exact rfl;exact rfl;(iterate 3 decide+kernel);exact nP;(intro _ _;exact vP));repeat' (first|(apply dh (i:=4) (j:=5);exact rfl;exact rfl;decide+kernel)|(apply dh (i:=4) (j:=6);exact rfl;exact rfl;decide+kernel)|(apply aJ (i:=4);exact rfl;decide+kernel)|(apply aJ (i:=5);exact rfl;decide+kernel)|(apply aJ (i:=6);exact rfl;decide+kernel)|(apply aJ (i:=7);exact rfl;decide+kernel)|(apply aJ (i:=8);exact rfl;decide+kernel)|(apply aJ (i:=9);exact rfl;decide+kernel)|(apply aJ (i:=10);exact rfl;decide+kernel)|(apply jV;decide+kernel)|(apply aD;(iterate 3 exact rfl);exact pK;exact pK;exact rfl;(simp [bf,Value.oneCell']);omega;(simp only [maxLen];omega);intro g8 c8)|refine sT ?_|refine sM fun _=>?_|(refine sC ?_ ?_<;>intro hb<;>try omega)|fail)
 all_goals
  refine iP eIO rfl (H' :=pB g lv A cap fin toks (some g8) c8 (out++ [n])++R) ?_ ⟨rfl,_,_,rfl⟩;simp only [pB,QT,QX,Rp,Rl,RN,Rc,QV,QW];exact mS
def AQ (e:Int × Int):Value:= .iface 223 (.agg #[.int .i64 e.1,.int .i64 e.2])
theorem jE (x:Value) (at_ e:Int) (H:List Blk) (w0:World) (R:Value→List Blk→Prop):
 FnP Tryz.prog 149 [x,.int .i64 at_,.int .i64 e] w0 H R fun v H' =>v=AQ (at_,e)∧H' =H:=by
 refine xd Tryz.func149 rfl Tryz.ntmps149 rfl ?_;repeat' (first|(apply ai;exact rfl;apply fS;(intro m;exact fun h=>by cases h);exact rfl)|(apply Ka;exact rfl)|refine sT ?_|refine sM fun _=>?_|(refine sC ?_ ?_<;>intro hb<;>try omega)|fail)
 exact OB (.refl _) ⟨rfl,rfl⟩
theorem Pj (op:Int) {g:Nat} {lv:Value} {A:Option Nat} {cap:Nat} {fin:Int} {toks:List Tk} {k:Nat} (hk:TkV lv A toks.length cap k) {B:Option Nat} {cb:Nat} {out:List Nd} {H:List Blk} {w0:World} (hH:MSub (pB g lv A cap fin toks B cb out) H) (w:World) (hm:Mem w0 w H):
 aC Tryz.prog 277 [.pointer (some ⟨g,0,none⟩),.int .i64 op] w (.bool (decide ((hdT fin (toks.drop k)).kind=8∧(hdT fin (toks.drop k)).num=op))):=by
 have hm0:=hH.use hm;refine ay Tryz.func277 rfl Tryz.ntmps277 rfl ?_;have hh: ∀ w' H',Mem w w' H' →aC Tryz.prog 148 [.pointer (some ⟨g,0,none⟩)] w' (.agg (bh (hdT fin (toks.drop k))).toArray):=fun w' H' hm' =>by
  refine C9 g lv A cap fin toks k hk (sl B out.length cb) w' ((Ro.of_box hm0 .hd).next hm') fun hlt=> ?_;obtain ⟨_,_,_,h4⟩:=(hm0.on _ (In.tl .hd:In (.own A 228 8 toks.length cap (toks.flatMap bh)) _).mem).1
  cases A with
  |none=>obtain ⟨h5,_⟩:=h4;omega
  |some ga=>exact ⟨ga,rfl,(Ro.of_own hm0 (In.tl .hd)).next hm'⟩
 generalize hdT fin (toks.drop k)=t at hh;repeat' (first|(apply aa;exact rfl;exact rfl;(intro w' hm';exact hh w' _ hm'))|refine sT ?_|refine sM fun _=>?_|(refine sC ?_ ?_<;>intro hb<;>try omega)|fail)
 all_goals ((refine rT1 ?_);simp_all)
theorem yY (op:Int) (w:World):aC Tryz.prog 248 [.int .i64 op] w (.tuple #[.int .i64 (iC op),.bool (decide (op=5)),.int .i64 (if iC op=0 then 2 else 0)]):=by
 refine ay Tryz.func248 rfl Tryz.ntmps248 rfl ?_;repeat' (first|refine sT ?_|refine sM fun _=>?_|(refine sC ?_ ?_<;>intro hb<;>try omega)|fail)
 all_goals ((refine rT3 ?_);simp_all [iC];try omega)
end Go.SL
namespace Go.Proofs
open Go Go.Shelf Go.RowKit Go.Lib Go.Sort Go.SL
theorem Tryz.lessX (a b:Rf) (W:World):Calls Tryz.prog 87 #[.agg #[.int .i64 a.col,.int .i64 a.row],.agg #[.int .i64 b.col,.int .i64 b.row]] W fun e w' =>e= .returned (.bool (bo a b))∧ ∃ q os',w' =grow (W.drewN q) os' :=by
 go_enter Tryz.func87,Tryz.ntmps87
 go_wp2
 all_goals
  rename_i h
  go_ret
  refine ⟨?_,0,_,by rw [alloc_eq_grow,alloc_eq_grow,grow_grow];rfl⟩
  first
   |(congr 2;simp_all [bo];done)
   |(congr 2;simp only [bo];simp;omega)
def Lays (W w' :World):Prop:= ∃ q os',w' =grow (W.drewN q) os'
theorem Lays.refl (W:World):Lays W W:=⟨0,#[],by simp [grow,World.drewN]⟩
theorem Lays.alloc {W X:World} (h:Lays W X) (o:Obj):Lays W (X.alloc o):=by
 obtain ⟨q,os,rfl⟩:=h;refine ⟨q,os.push o,?_⟩;show ({ W with heap:=(W.heap++os).push o,drawn:=W.drawn+q }:World)={ W with heap:=W.heap++os.push o,drawn:=W.drawn+q };rw [Array.append_push]
theorem Lays.grow {W X:World} (h:Lays W X) (q2:Nat) (os2:Array Obj):Lays W (Go.Sort.grow (X.drewN q2) os2):=by
 obtain ⟨q,os,rfl⟩:=h;refine ⟨q+q2,os++os2,?_⟩;show ({ W with heap:=(W.heap++os)++os2,drawn:=W.drawn+q+q2 }:World)={ W with heap:=W.heap++(os++os2),drawn:=W.drawn+(q+q2) };rw [Array.append_assoc,SC]
theorem Tryz.orderX (a b:Rf) (W:World):Calls Tryz.prog 69 #[.agg #[.int .i64 a.col,.int .i64 a.row],.agg #[.int .i64 b.col,.int .i64 b.row]] W fun e w' =>e= .returned (.int .i64 (lS a b))∧ ∃ q os',w' =grow (W.drewN q) os' :=by
 unfold lS;have c1: ∀ q os,(grow (((W.alloc (Obj.cells #[Value.int IntKind.i64 a.col,Value.int IntKind.i64 a.row] 28)).alloc (Obj.cells #[Value.int IntKind.i64 b.col,Value.int IntKind.i64 b.row] 28)).drewN q) os).cell? ⟨W.heap.size,0,none⟩=some (.int .i64 a.col):=fun q os=>by
  refine cell_grown (by show W.heap.size<((W.heap.push _).push _).size;rw [Tf,Tf];omega) ?_ q os;have e: ∀ o1 o2:Obj,((W.alloc o1).alloc o2).heap[W.heap.size]? =some o1:=fun o1 o2=>by
   show ((W.heap.push o1).push o2)[W.heap.size]? =_;rw [Tv,if_neg (by rw [Tf];omega),Tv,if_pos rfl]
  simp only [World.cell?,e]
  rfl
 have c2: ∀ q os,(grow (((W.alloc (Obj.cells #[Value.int IntKind.i64 a.col,Value.int IntKind.i64 a.row] 28)).alloc (Obj.cells #[Value.int IntKind.i64 b.col,Value.int IntKind.i64 b.row] 28)).drewN q) os).cell? ⟨W.heap.size,1,none⟩=some (.int .i64 a.row):=fun q os=>by
  refine cell_grown (by show W.heap.size<((W.heap.push _).push _).size;rw [Tf,Tf];omega) ?_ q os;have e: ∀ o1 o2:Obj,((W.alloc o1).alloc o2).heap[W.heap.size]? =some o1:=fun o1 o2=>by
   show ((W.heap.push o1).push o2)[W.heap.size]? =_;rw [Tv,if_neg (by rw [Tf];omega),Tv,if_pos rfl]
  simp only [World.cell?,e]
  rfl
 have c3: ∀ q os,(grow (((W.alloc (Obj.cells #[Value.int IntKind.i64 a.col,Value.int IntKind.i64 a.row] 28)).alloc (Obj.cells #[Value.int IntKind.i64 b.col,Value.int IntKind.i64 b.row] 28)).drewN q) os).cell? ⟨W.heap.size+1,0,none⟩=some (.int .i64 b.col):=fun q os=>by
  refine cell_grown (by show W.heap.size+1<((W.heap.push _).push _).size;rw [Tf,Tf];omega) ?_ q os;have e: ∀ o1 o2:Obj,((W.alloc o1).alloc o2).heap[W.heap.size+1]? =some o2:=fun o1 o2=>by
   show ((W.heap.push o1).push o2)[W.heap.size+1]? =_;rw [Tv,if_pos (by rw [Tf])]
  simp only [World.cell?,e]
  rfl
 have c4: ∀ q os,(grow (((W.alloc (Obj.cells #[Value.int IntKind.i64 a.col,Value.int IntKind.i64 a.row] 28)).alloc (Obj.cells #[Value.int IntKind.i64 b.col,Value.int IntKind.i64 b.row] 28)).drewN q) os).cell? ⟨W.heap.size+1,1,none⟩=some (.int .i64 b.row):=fun q os=>by
  refine cell_grown (by show W.heap.size+1<((W.heap.push _).push _).size;rw [Tf,Tf];omega) ?_ q os;have e: ∀ o1 o2:Obj,((W.alloc o1).alloc o2).heap[W.heap.size+1]? =some o2:=fun o1 o2=>by
   show ((W.heap.push o1).push o2)[W.heap.size+1]? =_;rw [Tv,if_pos (by rw [Tf])]
  simp only [World.cell?,e]
  rfl
 go_enter Tryz.func69,Tryz.ntmps69
 go_wp2_with (go_at_call 87;refine (Tryz.lessX _ _ _).mono ?_;rintro e w' ⟨rfl,q,os,rfl⟩)
 all_goals
  go_ret
  exact ⟨rfl,by first|exact (((Lays.refl W).alloc _).alloc _).grow _ _|exact ((((Lays.refl W).alloc _).alloc _).grow _ _).grow _ _⟩
end Go.Proofs
namespace Go.SL
open Go
theorem wq {p:Pc} {c:Int} (h:bT c=true):ck p c=lu p (upC c):=by
 simp only [bT,TH,RB,decide_eq_true_eq] at h;rw [ck,if_pos];unfold upC;split<;>omega
theorem iE {p:Pc} {c:Int} (h:aH c=true):ck p c=gZ p c:=by
 simp only [aH,RB,decide_eq_true_eq] at h;exact wt h.1 h.2
theorem nn {p:Pc} {c:Int} (h:bT c=false) (h2:aH c=false):(ck p c).ok=false:=by
 simp only [bT,aH,Bool.or_eq_false_iff,Tc,decide_eq_false_iff_not] at h h2;rw [yX (by omega) (by omega) (by omega)]
theorem FG {p:Pc} (h:p.ok=false) (c:Int):(ck p c).ok=false:=by
 unfold ck;split
 ·simp [lu,h]
 ·split
  ·simp [gZ,h]
  ·rfl
theorem oJ: ∀ (l:List Int) {p:Pc},p.ok=false→(l.foldl ck p).ok=false
 | [],_,h=>h
 |c::r,_,h=>oJ r (FG h c)
theorem DF: ∀ (l:List Int) (p:Pc),(∀ c∈l,bT c=true)→p.m1=0→l.foldl ck p=⟨p.m0+l.length,0,bu l p.v0,p.v1,p.ok⟩
 | [],p,_,h=>by obtain ⟨a,b,c,d,e⟩:=p;simp only at h;subst h;simp [bu]
 |c::r,p,hl,h=>by
  rw [SB,wq (hl c QY),DF r _ (fun d hd=>hl d (Rh _ hd)) (by simp [lu,h])];simp only [lu,h,bu,decide_true,SD,Rk,Pc.mk.injEq,true_and,and_true];refine ⟨by push_cast;omega,?_⟩;rw [show 26*p.v0+(upC c - 65)+1=26*p.v0+(upC c - 64) by omega]
theorem xa: ∀ (l:List Int) (p:Pc),(∀ c∈l,aH c=true)→0<p.m1→l.foldl ck p=⟨p.m0,p.m1+l.length,p.v0,nK l p.v1,p.ok⟩
 | [],p,_,_=>by obtain ⟨a,b,c,d,e⟩:=p;simp [nK]
 |c::r,p,hl,h=>by
  rw [SB,iE (hl c QY),xa r _ (fun d hd=>hl d (Rh _ hd)) (by simp [gZ];omega)];simp only [gZ,h,nK,decide_true,Bool.or_true,SD,Rk,Pc.mk.injEq,true_and,and_true]
  push_cast;omega
theorem qp: ∀ (l:List Int) (p:Pc),(l.all aH=false)→0<p.m1→(l.foldl ck p).ok=false
 | [],_,h,_=>by simp at h
 |c::r,p,h,hm=>by
  rw [SB];cases hd:aH c
  ·apply oJ;cases hl:bT c
   ·exact nn hl hd
   ·rw [wq hl];simp only [lu];rw [decide_eq_false (by omega)];simp
  ·rw [Uu,hd,Ss] at h;apply qp r _ h;rw [iE hd];simp only [gZ];omega
theorem nB: ∀ (l:List Int) {v:Int},(∀ c∈l,bT c=true)→0≤v→(l≠ []∨1≤v)→1≤bu l v
 | [],v,_,_,h=>by rcases h with h|h;exact absurd rfl h;exact h
 |c::r,v,hl,h0,_=>by
  have hc:=hl c QY;simp only [bT,TH,RB,decide_eq_true_eq] at hc;have hu:65≤upC c:=by unfold upC;split<;>omega
  simp only [bu];exact nB r (fun d hd=>hl d (Rh _ hd)) (by omega) (.inr (by omega))
theorem CB: ∀ (l:List Int) {v:Int},(∀ c∈l,aH c=true)→1≤v→1≤nK l v
 | [],_,_,h=>h
 |c::r,v,hl,h=>by
  have hc:=hl c QY;simp only [aH,RB,decide_eq_true_eq] at hc;simp only [nK];exact CB r (fun d hd=>hl d (Rh _ hd)) (by omega)
theorem pL {p:Int→Bool}: ∀ {l:List Int} {c:Int},c∈l.takeWhile p→p c=true
 |d::r,c,h=>by
  rw [List.takeWhile_cons] at h;split at h
  ·rename_i hp;rcases RF.1 h with rfl|h
   ·exact hp
   ·exact pL h
  ·cases h
theorem Mp (l:List Int):zB l=cy l:=by
 unfold zB cy;dsimp only;generalize ha:l.takeWhile bT=a;generalize hd:l.dropWhile bT=d;have hl:l=a++d:=by rw [← ha,← hd,List.takeWhile_append_dropWhile]
 have hal: ∀ c∈a,bT c=true:=fun c hc=>pL (ha ▸ hc);have hp:uj l=d.foldl ck ⟨a.length,0,bu a 0,0,true⟩:=by
  rw [uj,hl,UQ,DF a pc0 hal rfl];simp [pc0]
 rw [hp]
 cases d with
 |nil=>simp
 |cons c r=>
  have hcl:bT c=false:=by
   cases hq:bT c
   ·rfl
   ·exfalso;have hne:l.dropWhile bT≠ []:=by rw [hd];simp
    have:=List.head_dropWhile_not bT hne;simp only [hd,List.head_cons] at this;rw [hq] at this;cases this
  rw [SB];by_cases ha0:a= []
  ·subst ha0;have:(List.foldl ck (ck ⟨(([]:List Int).length:Int),0,bu [] 0,0,true⟩ c) r).ok=false∨(List.foldl ck (ck ⟨(([]:List Int).length:Int),0,bu [] 0,0,true⟩ c) r).m0=0∨(List.foldl ck (ck ⟨(([]:List Int).length:Int),0,bu [] 0,0,true⟩ c) r).m1=0:=by
    cases hdc:aH c
    ·exact .inl (oJ r (nn hcl hdc))
    ·cases hr:r.all aH
     ·left
      apply qp r _ hr;rw [iE hdc];simp [gZ]
     ·right;left
      rw [xa r _ (by simpa using hr) (by rw [iE hdc];simp [gZ])];rw [iE hdc];simp [gZ]
   rw [if_pos this,if_pos (show (([]:List Int)= []∨_) from .inl rfl)]
  ·have hlen:0<(a.length:Int):=by
    have:=TW.2 ha0;omega
   cases hdc:aH c
   ·rw [if_pos (.inl (oJ r (nn hcl hdc))),if_pos (.inr (.inr (.inr (by simp [hdc]))))]
   ·rw [iE hdc];by_cases h48:c=48
    ·rw [if_pos (.inl (oJ r (by simp [gZ,h48]))),if_pos (.inr (.inr (.inl (by simp [h48]))))]
    ·cases hr:r.all aH
     ·rw [if_pos (.inl (qp r _ hr (by simp [gZ]))),if_pos (.inr (.inr (.inr (by simp [hr]))))]
     ·have hr' : ∀ x∈r,aH x=true:=by simpa using hr
      have hp2:List.foldl ck (gZ ⟨a.length,0,bu a 0,0,true⟩ c) r=⟨a.length,1+r.length,bu a 0,nK (c::r) 0,true⟩:=by
       rw [xa r _ hr' (by simp [gZ])];simp [gZ,h48,nK]
      rw [hp2,if_neg (c:=(a= []∨_)) (by simp [ha0,h48,hdc,hr])];have hd2:=hdc;simp only [aH,RB,decide_eq_true_eq] at hd2;have h1:=nB a hal (TG 0) (.inl ha0);have h3:1≤nK (c::r) 0:=CB r (v:=min (10*0+(c - 48)) 1025) hr' (by omega);generalize nK (c::r) 0=u at h3 ⊢;split
      ·rename_i h;exfalso;rcases h with h|h|h
       ·cases h
       ·exact absurd h (by show ¬ ((a.length:Int)=0);omega)
       ·exact absurd h (by show ¬ (1+(r.length:Int)=0);omega)
      ·by_cases hb:1024<bu a 0∨1024<u
       ·rw [if_pos hb,if_neg];simp only [valid,RB,decide_eq_true_eq];omega
       ·rw [if_neg hb,if_pos];simp only [valid,RB,decide_eq_true_eq];omega
structure Grew (p p' :PS) (strict:Prop):Prop where
 tok: ∃ m,p'.l=p.l.drop m∧m≤p.l.length∧p'.out.length≤p.out.length+m
 out:p.out.length≤p'.out.length
 some:strict→p.out.length<p'.out.length
theorem Grew.refl (p:PS) {q:Prop} (h: ¬ q):Grew p p q:=⟨⟨0,rfl,QZ _,Rg _⟩,Rg _,fun hq=>(h hq).elim⟩
theorem Grew.trans {p p' p2:PS} {q q' q2:Prop} (h:Grew p p' q) (k:Grew p' p2 q') (hq:q2→q∨q'):Grew p p2 q2:=by
 obtain ⟨⟨m,h1,h2,h3⟩,h4,h5⟩:=h;obtain ⟨⟨n,k1,k2,k3⟩,k4,k5⟩:=k;refine ⟨⟨m+n,by rw [k1,h1,SV],?_,by omega⟩,by omega,fun hh=> ?_⟩
 ·rw [h1,RE] at k2;omega
 ·rcases hq hh with h|h
  ·have:=h5 h;omega
  ·have:=k5 h;omega
theorem Grew.step (p:PS) (n:Nd) (h:0<p.l.length) {q:Prop}:Grew p (p.skip.put n) q:=
 ⟨⟨1,by simp [PS.skip,PS.put],h,by simp [PS.skip,PS.put]⟩,by simp [PS.skip,PS.put],fun _=>by simp [PS.skip,PS.put]⟩
theorem Grew.skip (p:PS) (h:0<p.l.length) {q:Prop} (hq: ¬ q):Grew p p.skip q:=
 ⟨⟨1,by simp [PS.skip],h,by simp [PS.skip]⟩,by simp [PS.skip],fun hh=>(hq hh).elim⟩
theorem Grew.wrap {p p' :PS} {q q' :Prop} (h0:0<p.l.length) (h:Grew p.skip p' q) (n:Nd):Grew p (p'.put n) q' :=by
 obtain ⟨⟨m,h1,h2,h3⟩,h4,h5⟩:=h;simp only [PS.skip] at h1 h2 h3 h4;refine ⟨⟨1+m,?_,?_,?_⟩,?_,fun _=> ?_⟩
 ·simp only [PS.put];rw [h1,← List.drop_one,SV]
 ·rw [UF] at h2;omega
 ·simp only [PS.put,QT,QX];omega
 ·simp only [PS.put,QT,QX];omega
 ·simp only [PS.put,QT,QX];omega
theorem cE {r:Option Out} {k:Nat→PS→Option Out} {x:Nat × PS} (h:gK r k=some (.ok x)): ∃ n p',r=some (.ok (n,p'))∧k n p' =some (.ok x):=by
 unfold gK at h;split at h
 ·exact ⟨_,_,rfl,h⟩
 ·rename_i h1;obtain ⟨n,p'⟩:=x;exact absurd h (h1 n p')
theorem jK {fin:Int} {l:List Tk} {c:Int} (h:(hdT fin l).kind=c) (hc:c≠0):0<l.length:=jo (fin:=fin) (by omega)
theorem rq {fin:Int} {name:Tk} {fn:Int} {n m:Nat} {p p' :PS} {q:Prop} (h:dz fin name fn n p=some (.ok (m,p'))):Grew p p' q:=by
 unfold dz at h;dsimp only at h;split at h
 ·cases h
 ·rename_i hk;have hpos:=jK (Decidable.not_not.1 hk) (by decide);split at h
  ·cases h
  ·split at h
   ·cases h
   ·cases h;exact .step p _ hpos
theorem ku (fin:Int): ∀ (f:Nat) (j:Job) (p:PS) (n:Nat) (p' :PS),bw fin f j p=some (.ok (n,p'))→Grew p p' j.eats
 |0,_,_,_,_,h=>by cases h
 |f+1,j,p,n,p',h=>by
  have ih:=ku fin f
  cases j with
  |level k=>
   rw [bw] at h;split at h
   ·have g:=ih .sign _ _ _ h;exact g
   ·obtain ⟨n1,p1,h1,h2⟩:=cE h;exact (ih _ _ _ _ h1).trans (ih _ _ _ _ h2) fun _=> .inl trivial
  |loop k=>
   rw [bw] at h;try dsimp only at h
   split at h
   ·rename_i hk;have hpos:=jK hk.1 (by decide);obtain ⟨n1,p1,h1,h2⟩:=cE h;exact ((ih _ _ _ _ h1).wrap (q' :=True) hpos _).trans (ih _ _ _ _ h2) fun _=> .inl trivial
   ·cases h;exact .refl _ fun h=>h
  |sign=>
   rw [bw] at h;try dsimp only at h
   split at h
   ·rename_i hk;have hpos:=jK hk.1 (by decide);obtain ⟨n1,p1,h1,h2⟩:=cE h;cases h2;exact (ih _ _ _ _ h1).wrap hpos _
   ·obtain ⟨n1,p1,h1,h2⟩:=cE h;split at h2
    ·rename_i hk;have hpos:=jK hk.1 (by decide);obtain ⟨n2,p2,h3,h4⟩:=cE h2;cases h4;exact (ih _ _ _ _ h1).trans ((ih _ _ _ _ h3).wrap (q' :=True) hpos _) fun _=> .inl trivial
    ·cases h2;have g:=ih .pct _ _ _ h1;exact g
  |pct=>
   rw [bw] at h;obtain ⟨n1,p1,h1,h2⟩:=cE h;exact (ih _ _ _ _ h1).trans (ih _ _ _ _ h2) fun _=> .inl trivial
  |pctl=>
   rw [bw] at h;try dsimp only at h
   split at h
   ·rename_i hk;have hpos:=jK hk.1 (by decide);exact (Grew.step p _ hpos (q:=True)).trans (ih _ _ _ _ h) fun h=>h.elim
   ·cases h;exact .refl _ fun h=>h
  |prim=>
   rw [bw] at h;try dsimp only at h
   split at h
   ·rename_i hk;cases h;exact .step p _ (jo (fin:=fin) (by omega))
   ·split at h
    ·rename_i hk;cases h;exact .step p _ (jK hk (by decide))
    ·split at h
     ·rename_i hk;have hpos:=jK hk (by decide);obtain ⟨n1,p1,h1,h2⟩:=cE h;split at h2
      ·cases h2
      ·rename_i hu;cases h2;exact ((Grew.skip p hpos (q:=False) (fun h=>h)).trans (ih _ _ _ _ h1) (q2:=True) fun _=> .inr trivial).trans (Grew.skip p1 (jK (Decidable.not_not.1 hu) (by decide)) (q:=False) fun h=>h) fun _=> .inl trivial
     ·split at h
      ·rename_i hk;have hpos:=jK hk (by decide);split at h
       ·cases h
       ·split at h
        ·cases h
        ·rename_i hu;have hpos2:=jK (Decidable.not_not.1 hu) (by decide);have g1:=(Grew.skip p hpos (q:=False) (fun h=>h)).trans (Grew.skip p.skip hpos2 (q:=False) fun h=>h) (q2:=False) fun h=>h.elim;split at h
         ·exact g1.trans (rq h (q:=True)) fun _=> .inr trivial
         ·obtain ⟨n1,p1,h1,h2⟩:=cE h;exact (g1.trans (ih _ _ _ _ h1) (q2:=True) fun _=> .inr trivial).trans (rq h2 (q:=True)) fun _=> .inl trivial
      ·cases h
  |args fn i=>
   rw [bw] at h;try dsimp only at h
   have hgo: ∀ p0:PS,(if (hdT fin p0.l).kind=11 then bw fin f (.args fn (i+1)) p0.skip else some (.ok (i+1,p0)))=some (.ok (n,p'))→Grew p0 p' False:=by
    intro p0 h0;split at h0
    ·rename_i hk;exact (Grew.skip p0 (jK hk (by decide)) (q:=False) (fun h=>h)).trans (ih _ _ _ _ h0) fun h=>h.elim
    ·cases h0;exact .refl _ fun h=>h
   split at h
   ·obtain ⟨n1,p1,h1,h2⟩:=cE h;exact (ih _ _ _ _ h1).trans (hgo p1 h2) fun _=> .inl trivial
   ·rename_i hk;have hpos:=jo (fin:=fin) (l:=p.l) (by omega);split at h
    ·cases h
    ·exact (Grew.step p _ hpos (q:=True)).trans (hgo _ h) fun _=> .inl trivial
end Go.SL
namespace Go.Proofs
open Go Go.Shelf Go.RowKit Go.Lib Go.Sort Go.SL
def Tryz.sortRf_ren:Go.Shelf.Ren:=⟨fun|6=>68|15=>86|14=>105|28=>131|29=>132|20=>161|21=>162|22=>163|23=>164|24=>165|25=>166|26=>167|27=>168|46=>211|47=>174|48=>175|49=>212|50=>213|57=>265|n=>n,fun|22=>22|24=>28|25=>130|3=>3|39=>159|0=>0|53=>209|55=>49|4=>4|46=>202|45=>201|50=>76|5=>5|9=>9|66=>245|70=>249|76=>292|77=>293|n=>n,fun|n=>n⟩
theorem Tryz.sortRf:Go.Proofs.SlLaysF0.n6 Tryz.prog Tryz.sortRf_ren:={
 mixed:=by kernel_rfl
 f6:=⟨Tryz.f68.name,by decide,Tryz.func68.trans (congrArg some (by kernel_rfl))⟩
 f14:=⟨Tryz.f105.name,by decide,Tryz.func105.trans (congrArg some (by kernel_rfl))⟩
 f15:=Tryz.func86.trans (congrArg some (by kernel_rfl))
 f20:=⟨Tryz.f161.name,by decide,Tryz.func161.trans (congrArg some (by kernel_rfl))⟩
 f21:=⟨Tryz.f162.name,by decide,Tryz.func162.trans (congrArg some (by kernel_rfl))⟩
 f22:=⟨Tryz.f163.name,by decide,Tryz.func163.trans (congrArg some (by kernel_rfl))⟩
 f23:=⟨Tryz.f164.name,by decide,Tryz.func164.trans (congrArg some (by kernel_rfl))⟩
 f24:=⟨Tryz.f165.name,by decide,Tryz.func165.trans (congrArg some (by kernel_rfl))⟩
 f25:=⟨Tryz.f166.name,by decide,Tryz.func166.trans (congrArg some (by kernel_rfl))⟩
 f26:=⟨Tryz.f167.name,by decide,Tryz.func167.trans (congrArg some (by kernel_rfl))⟩
 f27:=⟨Tryz.f168.name,by decide,Tryz.func168.trans (congrArg some (by kernel_rfl))⟩
 f28:=Tryz.func131.trans (congrArg some (by kernel_rfl))
 f29:=Tryz.func132.trans (congrArg some (by kernel_rfl))
 f46:=⟨Tryz.f211.name,by decide,Tryz.func211.trans (congrArg some (by kernel_rfl))⟩
 f47:=Tryz.func174.trans (congrArg some (by kernel_rfl))
 f48:=Tryz.func175.trans (congrArg some (by kernel_rfl))
 f49:=⟨Tryz.f212.name,by decide,Tryz.func212.trans (congrArg some (by kernel_rfl))⟩
 f50:=⟨Tryz.f213.name,by decide,Tryz.func213.trans (congrArg some (by kernel_rfl))⟩
 f57:=⟨Tryz.f265.name,by decide,Tryz.func265.trans (congrArg some (by kernel_rfl))⟩
 t0:=Tryz.underlying0
 a0:=Tryz.isAgg0
 z0:=Tryz.sizeOf0
 v0:=Tryz.zeroValue0
 t3:=Tryz.underlying3
 a3:=Tryz.isAgg3
 z3:=Tryz.sizeOf3
 v3:=Tryz.zeroValue3
 t4:=Tryz.underlying4
 a4:=Tryz.isAgg4
 z4:=Tryz.sizeOf4
 v4:=Tryz.zeroValue4
 t5:=Tryz.underlying5
 a5:=Tryz.isAgg5
 z5:=Tryz.sizeOf5
 v5:=Tryz.zeroValue5
 t9:=Tryz.underlying9
 a9:=Tryz.isAgg9
 z9:=Tryz.sizeOf9
 v9:=Tryz.zeroValue9
 t22:=Tryz.underlying22
 a22:=Tryz.isAgg22
 z22:=Tryz.sizeOf22
 v22:=Tryz.zeroValue22
 t25:=Tryz.underlying130
 a25:=Tryz.isAgg130
 z25:=Tryz.sizeOf130
 v25:=Tryz.zeroValue130
 t39:=Tryz.underlying159
 a39:=Tryz.isAgg159
 z39:=Tryz.sizeOf159
 v39:=Tryz.zeroValue159
 t45:=Tryz.underlying201
 a45:=Tryz.isAgg201
 z45:=Tryz.sizeOf201
 v45:=Tryz.zeroValue201
 t46:=Tryz.underlying202
 a46:=Tryz.isAgg202
 z46:=Tryz.sizeOf202
 v46:=Tryz.zeroValue202
 t50:=Tryz.underlying76
 a50:=Tryz.isAgg76
 z50:=Tryz.sizeOf76
 v50:=Tryz.zeroValue76
 t53:=Tryz.underlying209
 a53:=Tryz.isAgg209
 z53:=Tryz.sizeOf209
 v53:=Tryz.zeroValue209
 t55:=Tryz.underlying49
 a55:=Tryz.isAgg49
 z55:=Tryz.sizeOf49
 v55:=Tryz.zeroValue49
 t66:=Tryz.underlying245
 a66:=Tryz.isAgg245
 z66:=Tryz.sizeOf245
 v66:=Tryz.zeroValue245
 t70:=Tryz.underlying249
 a70:=Tryz.isAgg249
 z70:=Tryz.sizeOf249
 v70:=Tryz.zeroValue249
 t76:=Tryz.underlying292
 a76:=Tryz.isAgg292
 z76:=Tryz.sizeOf292
 v76:=Tryz.zeroValue292
 t77:=Tryz.underlying293
 a77:=Tryz.isAgg293
 z77:=Tryz.sizeOf293
 v77:=Tryz.zeroValue293 }
theorem ji (x y:Rf):ltOf lS x y=bo x y:=by
 unfold ltOf lS;cases h1:bo x y<;>cases h2:bo y x<;>simp
theorem Qp:SWO (ltOf lS):={
 irrefl x:=by rw [ji];simp [bo]
 trans x y z h1 h2:=by rw [ji] at*;simp [bo] at*;omega
 ntrans x y z h1 h2:=by rw [ji] at*;simp [bo] at*;omega }
theorem OA (x y:Rf) (h1:ltOf lS x y=false) (h2:ltOf lS y x=false):x=y:=by
 rw [ji] at h1 h2;obtain ⟨a,b⟩:=x;obtain ⟨c,d⟩:=y;simp [bo] at h1 h2;simp;omega
instance iN494:Inhabited Rf:=⟨⟨0,0⟩⟩
theorem Tryz.sortRf_calls (blk off cap:Nat) (d:Array Rf) (w:World) (hH:HoldsK aB 2 w blk off d) (hblk:blk<w.heap.size) (hsz:d.size<4611686018427387904):
 Calls Tryz.prog 68 #[.slice (some ⟨blk,off,none⟩) d.size cap,.func (.func 69) #[] #[]] w fun e w' =>
  e= .returned (.tuple #[])∧ ∃ n os,w' =sortWorldK aB 2 w blk off n (d.toList.mergeSort fun x y=> !(ltOf lS) y x).toArray os:=by
 have eg: ∀ args w,(callFunc 69 args).run Tryz.prog w= .ok (.enter 69 args) w:=enters_of Tryz.func69 (by kernel_rfl) rfl;exact AnyQ.slices_SortFunc_total Tryz.sortRf 2 (fun w=>by have h:=Tryz.underlying28;show (isAgg 28).run _ w=_;simp [isAgg,run_underlying h]) (fun w=>by obtain ⟨i,h1,h2⟩:=(inferInstance:Size Tryz.prog 28 2).out;show (Go.sizeOf 28).run _ w=_;simp [Go.sizeOf,typeInfo,h1,h2]) aB (fun _=>rfl) (fun x v hv=>by simp [aB] at hv;rcases hv with rfl|rfl<;>rfl) lS Qp 69 #[] blk off cap d w eg (fun _ _ _ _ x y=>Tryz.orderX x y _) hH hblk hsz OA
end Go.Proofs
namespace Go.SL
open Go Go.Proofs Go.Sort Go.Shelf
def sortRf (L:List Rf):List Rf:=L.mergeSort fun x y=> !(bo y x)
theorem DH (L:List Rf) (j:Nat) (h:j<L.length*2):(L.flatMap aB)[j]? =some ((flatK aB 2 L.toArray)[j]!):=by
 rw [get_flatK _ _ _ _ (by simpa using h)];have h1:j / 2<L.length:=by omega
 have h2:j % 2<2:=Nat.mod_lt _ (by omega);have h3:=sH eW L (j / 2) (j % 2) h1 h2;rw [show j / 2*2+j % 2=j by omega] at h3;rw [h3];have h4:L.toArray[j / 2]! =L[j / 2]:=by simp [h1]
 rw [h4,QU (by rw [eW];exact h2)];congr 1;rw [getElem!_pos _ _ (by rw [eW];exact h2)]
theorem E0 (w:World) (g n:Nat) (d:Array Rf) (os:Array Obj):w.grownBy (sortWorldK aB 2 w g 0 n d os) (some g):={
 os:=rfl
 tape:=rfl
 output:=rfl
 size:=by
  show w.heap.size≤((w.heap.modify g _)++os).size;rw [Array.size_append,Ue];omega
 block k hk hne:=by
  show ((w.heap.modify g _)++os)[k]? =_;rw [SH (by rw [Ue];exact hk),TN,if_neg (fun e=>hne (by rw [e]))] }
theorem Iu (w:World) (g n:Nat) (d:Array Rf) (os:Array Obj) (c:Array Value) (T:TypeId) (fr:Nat × Nat) (h:w.heap[g]? =some (.cells c T fr)):
 (sortWorldK aB 2 w g 0 n d os).heap[g]? =some (.cells (putCells id 0 (flatK aB 2 d) c) T fr):=by
 have hlt:g<w.heap.size:=(RQ.1 h).1;show ((w.heap.modify g _)++os)[g]? =_;rw [SH (by rw [Ue];exact hlt),TN,if_pos rfl,h]
 rfl
theorem IV (L:List Rf) (xs junk:List Value) (hl:xs.length=L.length*2):putCells id 0 (flatK aB 2 L.toArray) (xs++junk).toArray=(L.flatMap aB++junk).toArray:=by
 have hfl:(L.flatMap aB).length=L.length*2:=bR eW L;apply UN;intro j;simp only [putCells,U2,RX,size_flatK,Ti,QZ,true_and,Rv,Td];by_cases hj:j<L.length*2
 ·rw [RC (by omega),RC (by omega),DH L j hj,QU (by omega)];simp [hj]
 ·rw [RM (by omega),RM (by omega),hl,hfl];simp [hj]
theorem Cr (L:List Rf) (g cap:Nat) (hL:L.length≤1000000) (R:List Blk) (w0:World):
 FnIn Tryz.prog 68 [sl (some g) L.length cap,.func (.func 69) #[] #[]] w0 (.own (some g) 28 2 L.length cap (L.flatMap aB)::R) fun v H=>v= .tuple #[]∧H= .own (some g) 28 2 L.length cap ((sortRf L).flatMap aB)::R:=by
 intro w hm;obtain ⟨⟨h1,h2,h3,junk,h4,h5⟩,hk⟩:=hm.on _ QY;have hlt:g<w.heap.size:=(RQ.1 h5).1;have hH:HoldsK aB 2 w g 0 L.toArray:=by
  intro j hj;simp only [size_flatK,Ti] at hj;have hc:(L.flatMap aB++junk).toArray[j]? =some (flatK aB 2 L.toArray)[j]! :=by
   rw [RX,RC (by omega),DH L j hj]
  constructor
  ·simp only [World.cell?,Rv,h5];exact hc
  ·simp [World.frozen?,h5]
 have hs:=Tryz.sortRf_calls g 0 cap L.toArray w hH hlt (by simp;omega);have hsz:L.toArray.size=L.length:=by simp
 rw [hsz] at hs;refine hs.mono ?_;rintro e w' ⟨rfl,n,os,rfl⟩;have hlen:(sortRf L).length=L.length:=by simp [sortRf]
 have heq:(L.toArray.toList.mergeSort fun x y=> !(ltOf lS) y x)=sortRf L:=by
  simp only [sortRf,ji]
 rw [heq];refine ⟨_,_,rfl,hm.upd (E0 _ _ _ _ _) (b' := .own (some g) 28 2 L.length cap ((sortRf L).flatMap aB)) ?_ fun k hk=> .inl hk,rfl,rfl⟩;have hfl:((sortRf L).flatMap aB).length=L.length*2:=by rw [bR eW,hlen]
 refine ⟨hfl,h2,h3,junk,by rw [QT,hfl,← h1,← QT];exact h4,?_⟩;rw [Iu _ _ _ _ _ _ _ _ h5,IV (sortRf L) _ _ (by rw [hlen];exact h1)]
theorem zX (L:List Rf) (A:Option Nat) (cap:Nat) (hL:L.length≤1000000) (R:List Blk) (w0:World):
 FnIn Tryz.prog 68 [sl A L.length cap,.func (.func 69) #[] #[]] w0 (.own A 28 2 L.length cap (L.flatMap aB)::R) fun v H=>v= .tuple #[]∧H= .own A 28 2 L.length cap ((sortRf L).flatMap aB)::R:=by
 cases A with
 |some g=>exact Cr L g cap hL R w0
 |none=>
  intro w hm;obtain ⟨⟨h1,h2,h3,h4⟩,_⟩:=hm.on _ QY;obtain ⟨h5,h6⟩:=h4;have hnil:L= []:=TD.1 h5;subst hnil;subst h6;refine Calls.mono (AnyF.slices_SortFunc_none Tryz.sortRf none 0 _ w) ?_;rintro e w' ⟨rfl,rfl⟩;exact ⟨_,_,rfl,hm,rfl,by simp [sortRf]⟩
end Go.SL
namespace Go.SL
open Go Go.Proofs
attribute [local irreducible] W WL WQ WG WA WX WLI WR WT VOp RW thn blk bH scp aV bz bP FnAt FnIn FnP
def dm (a:Rf):Value:= .agg (aB a).toArray
def gB (gg gm:Nat) (es:List (Rf × Value × Nat)) (clock:Nat):List Blk:= [.box gg 85 [.map (some gm)],.obj gm (dw dm es clock)]
def jM (es:List (Rf × Value × Nat)):List Rf:=sortRf (es.map fun e=>e.1)
theorem tD {L M:List Rf} (h:L.Perm M):sortRf L=sortRf M:=by
 have hp: ∀ L:List Rf,(sortRf L).Pairwise fun x y=>(!(bo y x))=true:=fun L=>
  List.pairwise_mergeSort (le:=fun x y=> !(bo y x)) (fun a b c h1 h2=>by simp [bo] at*;omega) (fun a b=>by simp [bo];omega) L
 refine List.Perm.eq_of_pairwise (fun a b _ _ h1 h2=> ?_) (hp L) (hp M) (((TV L _).trans h).trans (TV M _).symm);exact OA a b (by rw [ji];simpa using h2) (by rw [ji];simpa using h1)
theorem uf (gg gm clock:Nat) (es:List (Rf × Value × Nat)) (hok:MapOk es clock) (hlen:es.length≤1000000) (R:List Blk) (w0:World):
 FnIn Tryz.prog 29 [.pointer (some ⟨gg,0,none⟩)] w0 (gB gg gm es clock++R) fun v H=> ∃ A cap,v=sl A es.length cap∧H= .own A 28 2 es.length cap ((jM es).flatMap aB)::(gB gg gm es clock++R):=by
 refine bF Tryz.func29 rfl Tryz.ntmps29 rfl ?_;refine aI 28 2 ?_;repeat' (first|(apply ai;exact rfl;apply eK;exact rfl)|(apply zJ (enc:=dm);exact rfl;exact rfl;exact pK;intro gi)|refine zZB ?_|refine sM fun _=>?_|(refine sC ?_ ?_<;>intro hb<;>try omega)|fail)
 refine aw [11] rfl (fun x:List (Rf × Value × Nat) × Option Nat × Nat=> [(3,sl x.2.1 x.1.length x.2.2)]) (fun x=> .obj gi (pM gm clock (x.1.map fun e=>e.2.2)):: .own x.2.1 28 2 x.1.length x.2.2 ((x.1.map fun e=>e.1).flatMap aB)::(gB gg gm es clock++R)) (fun x=>Vis es x.1) (fun x=>es.length - x.1.length) ([],none,0) (Vis.nil es) sB (.refl _) ?_;rintro ⟨vis,A,cap⟩ hv;dsimp only at hv ⊢;have hvl:=hv.len;have hml:(vis.map fun e=>e.1).length=vis.length:=RA _;have hS:=fun R' =>zX (vis.map fun e=>e.1) A cap (by omega) R' w0;rw [hml] at hS;repeat' (first|(apply Bz (enc:=dm);exact rfl;exact rfl;exact pK;exact pK;exact hok;intro e he hne)|(intro hall)|(apply ai;exact rfl;apply MW (enc:=dm);exact rfl;exact pK;exact pK;exact he;exact hok)|(apply eu;(iterate 3 exact rfl);(repeat first|exact .hd|apply Sel.tl|apply In.tl);(intro w hm;exact hm.cells_own (by (repeat first|exact .hd|apply Sel.tl|apply In.tl)));exact rfl;(simp [Value.oneCell',sl]);omega;(simp only [maxLen];omega);(intro A2 cap2 hA2))|(apply ak (f:=68);exact rfl;exact rfl;exact FnIn.msub (hS _) (MSub.pick pK (MSub.refl _));rintro _ _ ⟨rfl,rfl⟩)|refine zZB ?_|refine sM fun _=>?_|(refine sC ?_ ?_<;>intro hb<;>try omega)|fail)
 ·refine ⟨(vis++ [e],A2,cap2),hv.step he hne,?_,?_,sB,?_⟩
  ·have:=hv.lt he hne;simp only [QT,QX];omega
  ·simp only [QT,QX];exact sB
  ·simp only [Sh,RP,SE,QT,QX,Rp,Rl,RN,Rc];exact mS
 ·have hperm:=hv.perm hok hall;have hl:vis.length=es.length:=hperm.length_eq;have hf:jM es=sortRf (vis.map fun e=>e.1):=tD (hperm.symm.map _);refine bJ eIO rfl rfl (H' := .own A 28 2 es.length cap ((jM es).flatMap aB)::(gB gg gm es clock++R)) ?_ ⟨A,cap,by rw [hl],rfl⟩;rw [hf,← hl];exact mS
end Go.SL
namespace Go.SL
open Go Go.Proofs
attribute [local irreducible] W WL WQ WG WA WX WLI WR WT VOp thn blk bH scp aV bz bP FnAt FnIn FnP
def At (toks:List Tk) (A:Option Nat) (cap:Nat) (p:PS) (lv:Value):Prop:= ∃ k,k≤toks.length∧p.l=toks.drop k∧p.out.length≤k∧TkV lv A toks.length cap k
section
variable {toks:List Tk} {A:Option Nat} {cap:Nat} {fin:Int} {g:Nat}
def PR (toks:List Tk) (A:Option Nat) (cap:Nat) (fin:Int) (g:Nat) (R:List Blk) (r:Out) (v:Value) (H:List Blk):Prop:=v= .tuple #[]∧ ∃ n p' lv' B' cb',r= .ok (n,p')∧At toks A cap p' lv' ∧H=pB g lv' A cap fin toks B' cb' p'.out++R
def PD (R:List Blk) (r:Out) (v:Value) (H:List Blk):Prop:= ∃ e,r= .error e∧v=AQ e∧MSub R H
def POK (f:Nat) (j:Job) (fid:FuncId) (args:List Value):Prop:=
 ∀ (toks:List Tk) (A:Option Nat) (cap:Nat) (fin:Int) (g:Nat) (p:PS) (lv:Value) (B:Option Nat) (cb:Nat) (r:Out) (R:List Blk) (w0:World),toks.length≤cap→toks.length≤1000→At toks A cap p lv→bw fin f j p=some r→
  FnP Tryz.prog fid (.pointer (some ⟨g,0,none⟩)::args) w0 (pB g lv A cap fin toks B cb p.out++R) (PR toks A cap fin g R r) (PD R r)
theorem bI {o:Option Out} {k:Nat→PS→Option Out} {r:Out} (h:gK o k=some r): ∃ r1,o=some r1∧((∃ e,r1= .error e∧r= .error e)∨(∃ n p',r1= .ok (n,p')∧k n p' =some r)):=by
 unfold gK at h;split at h
 ·rename_i n p';exact ⟨_,rfl,.inr ⟨n,p',rfl,h⟩⟩
 ·rename_i h1
  cases r with
  |error e=>exact ⟨_,h,.inl ⟨e,rfl,rfl⟩⟩
  |ok x=>obtain ⟨n,p'⟩:=x;exact absurd h (h1 n p')
theorem At.head {p:PS} {lv:Value} (h:At toks A cap p lv) {B:Option Nat} {cb:Nat} {out:List Nd} {H:List Blk} {w0:World} (hH:MSub (pB g lv A cap fin toks B cb out) H) (w:World) (hm:Mem w0 w H):
 aC Tryz.prog 148 [.pointer (some ⟨g,0,none⟩)] w (.agg (bh (hdT fin p.l)).toArray):=by
 obtain ⟨k,h1,h2,h3,h4⟩:=h;rw [h2];exact K3 h4 hH w hm
theorem At.is {p:PS} {lv:Value} (h:At toks A cap p lv) (op:Int) {B:Option Nat} {cb:Nat} {out:List Nd} {H:List Blk} {w0:World} (hH:MSub (pB g lv A cap fin toks B cb out) H) (w:World) (hm:Mem w0 w H):
 aC Tryz.prog 277 [.pointer (some ⟨g,0,none⟩),.int .i64 op] w (.bool (decide ((hdT fin p.l).kind=8∧(hdT fin p.l).num=op))):=by
 obtain ⟨k,h1,h2,h3,h4⟩:=h;rw [h2];exact Pj op h4 hH w hm
def At1 (toks:List Tk) (A:Option Nat) (cap:Nat) (p:PS) (lv:Value):Prop:= ∃ k,k≤toks.length∧p.l=toks.drop k∧p.out.length+1≤k∧TkV lv A toks.length cap k
theorem At.skip {p:PS} {lv:Value} (h:At toks A cap p lv) (hc:toks.length≤cap) {c:Int} (hk:(hdT fin p.l).kind=c) (h0:c≠0) {B:Option Nat} {cb:Nat} {out:List Nd} {H R:List Blk} {w0:World} (hH:MSub (pB g lv A cap fin toks B cb out++R) H):
 FnIn Tryz.prog 249 [.pointer (some ⟨g,0,none⟩)] w0 H fun v H=>v= .tuple #[]∧ ∃ lv',At1 toks A cap p.skip lv' ∧H=pB g lv' A cap fin toks B cb out++R:=by
 obtain ⟨k,h1,h2,h3,h4⟩:=h;have hpos:=jK hk h0;rw [h2,RE] at hpos;refine (K0 g lv A cap fin toks k h4 (by omega) hc B cb out R w0).msub hH|>.mono ?_;rintro v H' ⟨rfl,lv',h5,rfl⟩;exact ⟨rfl,lv',⟨k+1,by omega,by simp only [PS.skip];rw [h2,Uh],by simp only [PS.skip];omega,h5⟩,rfl⟩
theorem At1.at {p:PS} {lv:Value} (h:At1 toks A cap p lv):At toks A cap p lv:=let ⟨k,h1,h2,h3,h4⟩:=h;⟨k,h1,h2,by omega,h4⟩
theorem At1.put {p:PS} {lv:Value} (h:At1 toks A cap p lv) (n:Nd):At toks A cap (p.put n) lv:=let ⟨k,h1,h2,h3,h4⟩:=h;⟨k,h1,h2,by simp only [PS.put,QT,QX];exact h3,h4⟩
theorem At.len {p:PS} {lv:Value} (h:At toks A cap p lv) (hl:toks.length≤1000):p.out.length≤1000000:=let ⟨k,h1,h2,h3,h4⟩:=h;by omega
theorem At1.grew {p p' :PS} {lv lv' :Value} {q:Prop} (h:At1 toks A cap p lv) (h' :At toks A cap p' lv') (hg:Grew p p' q):At1 toks A cap p' lv' :=by
 obtain ⟨k,h1,h2,h3,h4⟩:=h;obtain ⟨k',g1,g2,g3,g4⟩:=h';obtain ⟨⟨m,e1,e2,e3⟩,_,_⟩:=hg;rw [h2,SV] at e1;rw [h2,RE] at e2;have hk:k' =k+m:=by
  have:=congrArg List.length (g2.symm.trans e1);rw [RE,RE] at this;omega
 exact ⟨k',g1,g2,by omega,g4⟩
theorem fk {fn:Func} {fr:Fr} {w0:World} {R H:List Blk} {r:Out} {n:Nat} {p' :PS} {lv' :Value} {B' :Option Nat} {cb' :Nat} {e:Exit} {s:az} (he:e= .ret∨e= .normal) (hf:fn.results= #[]) (hr:r= .ok (n,p')) (hat:At toks A cap p' lv') (hs:MSub (pB g lv' A cap fin toks B' cb' p'.out++R) H):
 bz Tryz.prog fn fr w0 (PR toks A cap fin g R r) (PD R r) e s H:=Qs (iP he hf hs ⟨rfl,n,p',lv',B',cb',hr,hat,rfl⟩)
theorem da {fn:Func} {fr:Fr} {w0:World} {R H:List Blk} {r:Out} {e:Int × Int} {s:az} {Rok:Value→List Blk→Prop} (hr:r= .error e) (hs:MSub R H):
 bz Tryz.prog fn fr w0 Rok (PD R r) (.panic (jO (AQ e))) s H:=OB (.refl _) ⟨e,hr,rfl,hs⟩
theorem Nf (f:Nat) (ihS:POK f .sign 246 []) (ihP:POK f .pct 278 []):POK (f+1) .sign 246 []:=by
 intro toks A cap fin g p lv B cb r R w0 hc hl hat hrun;refine xd Tryz.func246 rfl Tryz.ntmps246 rfl ?_;rw [bw] at hrun;dsimp only at hrun;have hi:=fun w hm=>hat.is 2 (fin:=fin) (g:=g) (B:=B) (cb:=cb) (out:=p.out) (H:=pB g lv A cap fin toks B cb p.out++R) (w0:=w0) (MSub.pick .hd (.pick .hd (.pick .hd (.nil _)))) w hm;by_cases hs:(hdT fin p.l).kind=8∧(hdT fin p.l).num=2
 ·rw [if_pos hs] at hrun;obtain ⟨r1,hr1,hr2⟩:=bI hrun;rw [decide_eq_true hs] at hi;repeat' (first|(apply aa (f:=277);exact rfl;exact rfl;exact hi)|(apply ak (f:=249);exact rfl;exact rfl;exact hat.skip hc hs.1 (by decide) (MSub.pick pK (MSub.pick pK (MSub.pick pK (MSub.refl _))));rintro _ _ ⟨rfl,lv1,h1,rfl⟩)|(refine bL (f:=246) rfl rfl (FnP.msub (ihS toks A cap fin g p.skip _ B cb r1 _ w0 hc hl (At1.at h1) hr1) (MSub.pick pK (MSub.pick pK (MSub.pick pK (MSub.refl _))))) ?_ ?_)|(rintro _ _ ⟨rfl,n,p',lv',B',cb',rfl,h2,rfl⟩)|(rintro _ _ ⟨e,rfl,rfl,h3⟩)|(apply ak (f:=250);exact rfl;exact rfl;exact FnIn.msub (lz (dY 4 0) _ _ _ _ _ _ _ _ _ (At.len h2 hl) _ _) (MSub.pick pK (MSub.pick pK (MSub.pick pK (MSub.refl _))));rintro _ _ ⟨rfl,B2,cb2,rfl⟩)|refine zZD ?_|refine sM fun _=>?_|(refine sC ?_ ?_<;>intro hb<;>try omega)|fail)
  ·rcases hr2 with ⟨e,h,_⟩|⟨n1,p1,h,h5⟩
   ·cases h
   ·cases h;cases h5;exact fk (p' :=p'.put (dY 4 0)) (.inl rfl) rfl rfl ((h1.grew h2 (ku _ _ _ _ _ _ hr1)).put _) (.refl _)
  ·rcases hr2 with ⟨e',h,h5⟩|⟨n1,p1,h,h5⟩
   ·cases h;exact da h5 h3
   ·cases h
 ·rw [if_neg hs] at hrun;rw [decide_eq_false hs] at hi;obtain ⟨r1,hr1,hr2⟩:=bI hrun;repeat' (first|(apply aa (f:=277) (d:=3);exact rfl;exact rfl;exact hi)|(refine bL (f:=278) rfl rfl (FnP.msub (ihP toks A cap fin g p _ B cb r1 _ w0 hc hl hat hr1) (MSub.pick pK (MSub.pick pK (MSub.pick pK (MSub.refl _))))) ?_ ?_)|(rintro _ _ ⟨rfl,n,p',lv',B',cb',rfl,h2,rfl⟩)|(rintro _ _ ⟨e,rfl,rfl,h3⟩)|refine zZD ?_|refine sM fun _=>?_|(refine sC ?_ ?_<;>intro hb<;>try omega)|fail)
  ·rcases hr2 with ⟨e,h,_⟩|⟨n1,p1,h,h5⟩
   ·cases h
   cases h;have hi2:=fun w hm=>h2.is 5 (fin:=fin) (g:=g) (B:=B') (cb:=cb') (out:=p'.out) (H:=pB g lv' A cap fin toks B' cb' p'.out++R) (w0:=w0) (MSub.pick .hd (.pick .hd (.pick .hd (.nil _)))) w hm;by_cases hs5:(hdT fin p'.l).kind=8∧(hdT fin p'.l).num=5
   ·rw [if_pos hs5] at h5;rw [decide_eq_true hs5] at hi2;obtain ⟨r2,hr3,hr4⟩:=bI h5;repeat' (first|(apply aa (f:=277) (d:=14);exact rfl;exact rfl;exact hi2)|(apply ak (f:=249);exact rfl;exact rfl;exact h2.skip hc hs5.1 (by decide) (MSub.pick pK (MSub.pick pK (MSub.pick pK (MSub.refl _))));rintro _ _ ⟨rfl,lv1,h1,rfl⟩)|(refine bL (f:=246) rfl rfl (FnP.msub (ihS toks A cap fin g p'.skip _ B' cb' r2 _ w0 hc hl (At1.at h1) hr3) (MSub.pick pK (MSub.pick pK (MSub.pick pK (MSub.refl _))))) ?_ ?_)|(rintro _ _ ⟨rfl,n2,p2,lv2,B2,cb2,rfl,h6,rfl⟩)|(rintro _ _ ⟨e,rfl,rfl,h3⟩)|(apply ak (f:=250);exact rfl;exact rfl;exact FnIn.msub (lz (dY 6 5) _ _ _ _ _ _ _ _ _ (At.len h6 hl) _ _) (MSub.pick pK (MSub.pick pK (MSub.pick pK (MSub.refl _))));rintro _ _ ⟨rfl,B3,cb3,rfl⟩)|refine zZD ?_|refine sM fun _=>?_|(refine sC ?_ ?_<;>intro hb<;>try omega)|fail)
    ·rcases hr4 with ⟨e,h,_⟩|⟨n3,p3,h,h7⟩
     ·cases h
     ·cases h;cases h7;exact fk (p' :=p2.put (dY 6 5)) (.inr rfl) rfl rfl ((h1.grew h6 (ku _ _ _ _ _ _ hr3)).put _) (.refl _)
    ·rcases hr4 with ⟨e',h,h7⟩|⟨n3,p3,h,h7⟩
     ·cases h;exact da h7 h3
     ·cases h
   ·rw [if_neg hs5] at h5;rw [decide_eq_false hs5] at hi2;cases h5;repeat' (first|(apply aa (f:=277) (d:=14);exact rfl;exact rfl;exact hi2)|refine zZD ?_|refine sM fun _=>?_|(refine sC ?_ ?_<;>intro hb<;>try omega)|fail)
    exact fk (.inr rfl) rfl rfl h2 (.refl _)
  ·rcases hr2 with ⟨e',h,h5⟩|⟨n1,p1,h,h5⟩
   ·cases h;exact da h5 h3
   ·cases h
theorem FD (f:Nat) (ihP:POK f .prim 298 []):POK (f+1) .pct 278 []:=by
 intro toks A cap fin g p lv B cb r R w0 hc hl hat hrun;refine xd Tryz.func278 rfl Tryz.ntmps278 rfl ?_;rw [bw] at hrun;obtain ⟨r1,hr1,hr2⟩:=bI hrun;repeat' (first|(refine bL (f:=298) rfl rfl (FnP.msub (ihP toks A cap fin g p _ B cb r1 _ w0 hc hl hat hr1) (MSub.pick pK (MSub.pick pK (MSub.pick pK (MSub.refl _))))) ?_ ?_)|(rintro _ _ ⟨rfl,n,p',lv',B',cb',rfl,h2,rfl⟩)|(rintro _ _ ⟨e,rfl,rfl,h3⟩)|refine zZD ?_|refine sM fun _=>?_|(refine sC ?_ ?_<;>intro hb<;>try omega)|fail)
 ·rcases hr2 with ⟨e,h,_⟩|⟨n1,p1,h,h5⟩
  ·cases h
  cases h;refine aw [0] rfl (fun _:Nat × PS × Value × Option Nat × Nat=> []) (fun x=>pB g x.2.2.1 A cap fin toks x.2.2.2.1 x.2.2.2.2 x.2.1.out++R) (fun x=>At toks A cap x.2.1 x.2.2.1∧bw fin x.1 .pctl x.2.1=some r) (fun x=>x.1) (f,p',lv',B',cb') ⟨h2,h5⟩ sB (.refl _) ?_;rintro ⟨f',q,lq,Bq,cq⟩ ⟨hq1,hq2⟩;dsimp only at hq1 hq2 ⊢
  cases f' with
  |zero=>cases hq2
  |succ f' =>
   rw [bw] at hq2;have hi:=fun w hm=>hq1.is 13 (fin:=fin) (g:=g) (B:=Bq) (cb:=cq) (out:=q.out) (H:=pB g lq A cap fin toks Bq cq q.out++R) (w0:=w0) (MSub.pick .hd (.pick .hd (.pick .hd (.nil _)))) w hm;by_cases hs:(hdT fin q.l).kind=8∧(hdT fin q.l).num=13
   ·rw [if_pos hs] at hq2;rw [decide_eq_true hs] at hi;repeat' (first|(apply aa (f:=277);exact rfl;exact rfl;exact hi)|(apply ak (f:=249);exact rfl;exact rfl;exact hq1.skip hc hs.1 (by decide) (MSub.pick pK (MSub.pick pK (MSub.pick pK (MSub.refl _))));rintro _ _ ⟨rfl,lv1,h1,rfl⟩)|(apply ak (f:=250);exact rfl;exact rfl;exact FnIn.msub (lz (dY 5 0) _ _ _ _ _ _ _ _ _ (At.len hq1 hl) _ _) (MSub.pick pK (MSub.pick pK (MSub.pick pK (MSub.refl _))));rintro _ _ ⟨rfl,B2,cb2,rfl⟩)|refine zZD ?_|refine sM fun _=>?_|(refine sC ?_ ?_<;>intro hb<;>try omega)|fail)
    refine ⟨(f',q.skip.put (dY 5 0),lv1,B2,cb2),⟨h1.put _,hq2⟩,Tz _,sB,sB,.refl _⟩
   ·rw [if_neg hs] at hq2;rw [decide_eq_false hs] at hi;cases hq2;repeat' (first|(apply aa (f:=277);exact rfl;exact rfl;exact hi)|refine zZD ?_|refine sM fun _=>?_|(refine sC ?_ ?_<;>intro hb<;>try omega)|fail)
    exact fk (by first|exact .inr rfl|exact .inl rfl) rfl rfl hq1 (.refl _)
 ·rcases hr2 with ⟨e',h,h5⟩|⟨n1,p1,h,h5⟩
  ·cases h;exact da h5 h3
  ·cases h
end
end Go.SL
namespace Go.SL
open Go Go.Proofs
attribute [local irreducible] W WL WQ WG WA WX WLI WR WT WC VOp RW thn blk bH scp aV bz bP FnAt FnIn FnP ceP
theorem lZ {P:Program} {n:Fr} {w0:World} {Q:bS} {s:az} {H:List Blk} {l:List Oper} {id:Nat} (es ps:List Nat) (hm:P.follows .mixedOrders=true) (hB:Region.lexB .any l.toArray=true) (hch:Gf l es ps=true)
 (h:WC P n w0 l H es ps Q l 0 s H):W P n w0 (.region id l.toArray true) Q s H:=gy es ps H hm hB hch (MSub.refl H) h
theorem zi (L:List Us): ∀ u∈L.flatMap cP,u.oneCell' =true:=by
 intro u hu;obtain ⟨n,_,h⟩:=TX.1 hu;simp only [cP,RF,TK,or_false] at h;rcases h with rfl|rfl|rfl|rfl|rfl|rfl<;>rfl
theorem J2 (L:List Us) (tv:Value) (w:World) (ht:Reads w tv L.length (L.flatMap cP)) (hlen:L.length≤1000000):
 FnAt Tryz.prog 103 [tv] w fun v H=> ∃ A cap,v=sl A L.length cap∧H= [.own A 121 6 L.length cap (L.flatMap cP)]:=by
 have ht' :=ht;obtain ⟨At,ct,rfl,ht1,ht2,ht3⟩:=ht;refine ay Tryz.func103 rfl Tryz.ntmps103 rfl ?_;have hl:(L.flatMap cP).length=L.length*6:=bR kW L;refine aI 121 6 ?_;repeat' (first|(apply ai;exact rfl;apply vz;exact rfl)|(apply df;exact rfl;intro gb)|(apply eJ (n' :=0) (c:=0) (A:=some _) (m:=L.length);(iterate 3 exact rfl);exact pK;(intro w hm;exact ht'.of_w0 hm);exact hl;exact zi L;omega;(simp only [maxLen];omega);intro A' cap' hA)|refine sT ?_|refine sM fun _=>?_|(refine sC ?_ ?_<;>intro hb<;>try omega)|fail)
 ·have e:L.length=0:=by
   rcases SY L.length with h|h
   ·exact h
   ·obtain ⟨g,o,rfl,_⟩:=ht3 h;cases hb
  have e' :L= []:=Sl e;subst e';exact bJ (.inl rfl) Tryz.results103 rfl (.refl _) ⟨none,0,rfl,rfl⟩
 ·exact bJ (.inl rfl) Tryz.results103 rfl (H' := [.own A' 121 6 (0+L.length) cap' ([]++L.flatMap cP)]) mS ⟨A',cap',by rw [Rv],by rw [Rv];rfl⟩
structure En where
 at_:Rf
 ta:Option Addr
 tc:Nat
 ua:Option Addr
 uc:Nat
 tree:List Nd
 uses:List Us
 born:Nat
def En.tv (e:En):Value:= .slice e.ta e.tree.length e.tc
def En.uv (e:En):Value:= .slice e.ua e.uses.length e.uc
def En.m (e:En):Rf × Value × Nat:=(e.at_,.agg #[e.tv,e.uv],e.born)
abbrev uT:Value:= .agg [Value.slice none 0 0,.slice none 0 0].toArray
def rdIn (R:List Blk) (v:Value) (m:Nat) (xs:List Value):Prop:= ∀ w0 w,Mem w0 w R→Reads w v m xs
theorem rdIn.sub {R R' :List Blk} {v:Value} {m:Nat} {xs:List Value} (h:rdIn R v m xs) (hs:MSub R R'):rdIn R' v m xs:=fun w0 w hm=>h w0 w (hs.use hm)
theorem rdIn.nil (R:List Blk):rdIn R (.slice none 0 0) 0 []:=fun _ _ _=>⟨none,0,rfl,Rg _,QZ _,fun h=>by cases h⟩
theorem rdIn.own {R:List Blk} {A:Option Nat} {t sz m c:Nat} {xs:List Value} (hi:In (.own A t sz m c xs) R):rdIn R (sl A m c) m xs:=fun _ _ hm=>Reads.of_own hm hi
structure EnOk (R:List Blk) (e:En):Prop where
 tree:rdIn R e.tv e.tree.length (e.tree.flatMap bf)
 uses:rdIn R e.uv e.uses.length (e.uses.flatMap cP)
 tl:e.tree.length≤1000000
 ul:e.uses.length≤1000000
theorem EnOk.sub {R R' :List Blk} {e:En} (h:EnOk R e) (hs:MSub R R'):EnOk R' e:=⟨h.tree.sub hs,h.uses.sub hs,h.tl,h.ul⟩
def zD (a:Rf):En:=⟨a,none,0,none,0,[],[],0⟩
theorem HN (R:List Blk) (a:Rf):EnOk R (zD a):=⟨rdIn.nil _,rdIn.nil _,by simp [zD],by simp [zD]⟩
def eL (E:List En) (a:Rf):Option En:=E.find? fun e=>decide (e.at_=a)
def aW (E:List En) (a:Rf):En:=(eL E a).getD (zD a)
theorem JB {E:List En} {a:Rf} {e:En} (h:eL E a=some e):e∈E:=Ui h
theorem sx {R:List Blk} {E:List En} (h: ∀ e∈E,EnOk R e) (a:Rf):EnOk R (aW E a):=by
 unfold aW
 cases hf:eL E a with
 |none=>exact HN _ _
 |some e=>exact h e (JB hf)
theorem Hp (E:List En) (a:Rf): ∀ i:Nat,(cx a (E.map En.m) i).map (fun x=>x.2)=(eL E a).map fun e=>e.m.2.1:=by
 induction E with
 |nil=>intro i;rfl
 |cons e r ih=>
  intro i;simp only [RP,cx,eL,List.find?_cons];by_cases h:a=e.at_
  ·simp [En.m,h]
  ·have h' : ¬ e.at_=a:=fun x=>h x.symm;simp only [En.m,h,if_false,h',decide_false];exact ih (i+1)
theorem LA (E:List En) (a:Rf):(match cx a (E.map En.m) 0 with|some (_,v)=>v|none=>uT)= .agg #[(aW E a).tv,(aW E a).uv]:=by
 have h:=Hp E a 0;unfold aW
 cases hk:cx a (E.map En.m) 0 with
 |none=>rw [hk] at h;cases hf:eL E a with
  |none=>rfl
  |some e=>rw [hf] at h;cases h
 |some x=>rw [hk] at h;cases hf:eL E a with
  |none=>rw [hf] at h;cases h
  |some e=>rw [hf] at h;exact Option.some.inj h
theorem LB (E:List En) (a:Rf):(match cx a (E.map En.m) 0 with|some (_,v)=>Value.tuple #[v,.bool true]|none=> .tuple #[uT,.bool false])= .tuple #[.agg #[(aW E a).tv,(aW E a).uv],.bool (eL E a).isSome]:=by
 have h:=Hp E a 0;unfold aW
 cases hk:cx a (E.map En.m) 0 with
 |none=>rw [hk] at h;cases hf:eL E a with
  |none=>rfl
  |some e=>rw [hf] at h;cases h
 |some x=>rw [hk] at h;cases hf:eL E a with
  |none=>rw [hf] at h;cases h
  |some e=>
   rw [hf] at h;have h1:x.2=e.m.2.1:=Option.some.inj h;simp only [Sq,Option.isSome_some,TJ];rw [h1];rfl
instance klaw_key:KLaw Tryz.prog 28 dm:=klaw_F
instance iN495:FldT Tryz.prog 100 1 96 1:=⟨_,_,Tryz.underlying100,rfl,rfl,rfl⟩
theorem Oe (gg gm clock:Nat) (E:List En) (a:Rf) (R:List Blk) (w0:World) (hE: ∀ e∈E,EnOk R e):
 FnIn Tryz.prog 59 [.pointer (some ⟨gg,0,none⟩),dm a] w0 (gB gg gm (E.map En.m) clock++R) fun v H=> ∃ A cap,v=sl A (aW E a).uses.length cap∧H= .own A 121 6 (aW E a).uses.length cap ((aW E a).uses.flatMap cP)::(gB gg gm (E.map En.m) clock++R):=by
 refine bF Tryz.func59 rfl Tryz.ntmps59 rfl ?_;have hl:=LA E a;have hok:=sx hE a;generalize aW E a=e at hl hok;have hcl:=fun (w' :World) (H' :List Blk) (hs:MSub R H') (hm:Mem w0 w' H')=>J2 e.uses e.uv w' (hok.uses _ w' (hs.use hm)) hok.ul;unfold gB;repeat' (first|(apply ai;exact rfl;apply eK;exact rfl)|(apply lZ (id:=3) [7] [];kernel_rfl;kernel_rfl;kernel_rfl)|(apply fq;(iterate 3 exact rfl);apply nQ (enc:=dm) (z:=uT);exact rfl;exact rfl;exact pK;exact hl)|(apply fq;(iterate 3 exact rfl);apply ee;exact rfl;exact rfl)|(apply aK (f:=103);exact rfl;exact rfl;(intro w' hm;exact hcl w' _ mS hm);rintro _ _ ⟨A,cap,rfl,rfl⟩)|refine zZI ?_|refine sM fun _=>?_|(refine sC ?_ ?_<;>intro hb<;>try omega)|(refine sCW ?_ ?_<;>intro hb<;>try omega)|fail)
 all_goals exact bJ eIO rfl rfl mS ⟨A,cap,rfl,rfl⟩
end Go.SL

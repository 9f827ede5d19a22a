/-
  Lemmas and walks, put together: W11 W12 W13 Px Px2 Px3 W15 W16.
-/
import Derived.Test.YthefeclkaaocnaaGreatDoorKl11
set_option linter.unusedSimpArgs false
set_option linter.unusedVariables false
set_option maxRecDepth 20000
namespace Go.SL
open Go Go.Proofs
attribute [local irreducible] W WL WQ WG WA VOp thn blk bq aS FnIn
def cN:List ByteArray:= [
 ⟨#[65,66,83]⟩,⟨#[83,73,71,78]⟩,⟨#[73,78,84]⟩,⟨#[84,82,85,78,67]⟩,⟨#[82,79,85,78,68]⟩,
 ⟨#[77,79,68]⟩,⟨#[80,79,87,69,82]⟩,⟨#[83,81,82,84]⟩,⟨#[83,85,77]⟩,⟨#[80,82,79,68,85,67,84]⟩,
 ⟨#[67,79,85,78,84]⟩,⟨#[67,79,85,78,84,65]⟩,⟨#[67,79,85,78,84,66,76,65,78,75]⟩,⟨#[65,86,69,82,65,71,69]⟩,⟨#[77,73,78]⟩,
 ⟨#[77,65,88]⟩,⟨#[77,69,68,73,65,78]⟩,⟨#[76,65,82,71,69]⟩,⟨#[83,77,65,76,76]⟩,⟨#[73,70]⟩,
 ⟨#[65,78,68]⟩,⟨#[79,82]⟩,⟨#[88,79,82]⟩,⟨#[78,79,84]⟩,⟨#[73,70,69,82,82,79,82]⟩,
 ⟨#[73,83,69,82,82,79,82]⟩,⟨#[73,83,66,76,65,78,75]⟩,⟨#[73,83,78,85,77,66,69,82]⟩,⟨#[73,83,84,69,88,84]⟩,⟨#[67,72,79,79,83,69]⟩,
 ⟨#[76,69,78]⟩,⟨#[76,69,70,84]⟩,⟨#[82,73,71,72,84]⟩,⟨#[77,73,68]⟩,⟨#[85,80,80,69,82]⟩,
 ⟨#[76,79,87,69,82]⟩,⟨#[84,82,73,77]⟩,⟨#[67,79,78,67,65,84]⟩,⟨#[82,69,80,84]⟩,⟨#[69,88,65,67,84]⟩,
 ⟨#[70,73,78,68]⟩,⟨#[86,65,76,85,69]⟩,⟨#[73,78,68,69,88]⟩,⟨#[77,65,84,67,72]⟩,⟨#[67,79,85,78,84,73,70]⟩,
 ⟨#[68,83,85,77]⟩,⟨#[68,67,79,85,78,84]⟩,⟨#[68,65,86,71]⟩,⟨#[68,77,73,78]⟩,⟨#[68,77,65,88]⟩]
theorem FZ (w:World):ay Tryz.prog 374 [] w (.agg (cN.map Value.string).toArray):=by
 refine aq Tryz.func374 rfl Tryz.ntmps374 rfl ?_
 repeat' (first|(apply wY;(iterate 5 exact rfl))|refine sT ?_|refine sM fun _=> ?_|(refine sC ?_ ?_<;>intro hb<;>try omega)|fail)
 exact vO (.inl rfl) Tryz.results374 rfl .hd rfl (MSub.nil _) rfl
theorem Ro.str1 {w:World} {g o:Nat} {L:List ByteArray} (h:Ro w g o (L.map Value.string)) (i:Nat) (hi:i<L.length):Ro w g (o+i*1) [Value.string L[i]]:=by
 have h1:=(h.drop (k:=i)).take (k:=1)
 rw [← List.map_drop,← List.map_take,LJ hi] at h1
 rw [Ni]
 exact h1
def dw:List ByteArray→ByteArray→Int→Int
 | [],_,_=> -1
 |a::r,s,i=>if s=a then i else dw r s (i+1)
theorem Hm (L:List ByteArray) (b:ByteArray) (tv:Value) (w:World) (ht:Reads w tv L.length (L.map Value.string)):ay Tryz.prog 375 [tv,.string b] w (.int .i64 (dw L b 0)):=by
 obtain ⟨Al,cl,rfl,hl1,hl2,hl3⟩:=ht
 refine aq Tryz.func375 rfl Tryz.ntmps375 rfl ?_
 repeat' (first|refine sT ?_|refine sM fun _=> ?_|(refine sC ?_ ?_<;>intro hb<;>try omega)|fail)
 refine eM (fun i:Nat=> [(0,.slice Al L.length cl),(1,.string b),(7,.int .i64 (L.length:Int)),(8,.int .i64 (i:Int))]) (fun _=> []) (fun i=>i≤L.length∧dw L b 0=dw (L.drop i) b (i:Int)) (fun i=>L.length - i) 0 ⟨by omega,rfl⟩ ?_ ?_ ?_
 ·
  exact sB
 ·
  exact mS
 ·
  rintro i ⟨hi,hrec⟩
  by_cases hlt:i<L.length
  ·
   obtain ⟨gl,ol,rfl,hrl⟩:=hl3 (by omega)
   have he:=hrl.str1 i hlt
   rw [LJ hlt,dw] at hrec
   repeat' (first|(apply ak;exact rfl;apply aj;exact rfl;exact rfl;exact hlt)|(apply ak;exact rfl;apply iP;exact rfl;exact he)|(apply ak;exact rfl;apply dr;exact rfl;exact rfl;(simp only [maxLen] at*;omega))|refine sT ?_|refine sM fun _=> ?_|(refine sC ?_ ?_<;>intro hb<;>try omega)|fail)
   ·
    (refine rT1 ?_)
    rw [hrec,if_pos hb]
   ·
    refine ⟨i+1,⟨by omega,?_⟩,by omega,?_,?_⟩
    ·
     rw [hrec,if_neg hb]
     rfl
    ·
     exact sB
    ·
     exact mS
  ·
   have e:i=L.length:=by omega
   subst e
   repeat' (first|refine sT ?_|refine sM fun _=> ?_|(refine sC ?_ ?_<;>intro hb<;>try omega)|fail)
   (refine rT1 ?_)
   rw [hrec,LU,dw]
theorem gN:cN.length=50:=rfl
theorem gP (L:List ByteArray) (b:ByteArray) (i:Int) (h:0≤i):dw L b i= -1∨(i≤dw L b i∧dw L b i<i+L.length):=by
 induction L generalizing i with
 |nil=>exact .inl rfl
 |cons a r ih=>
  unfold dw
  rw [L9]
  split
  ·
   right;omega
  ·
   rcases ih (i+1) (by omega) with h1|h1
   ·
    exact .inl h1
   ·
    right;omega
def aV (b:ByteArray):Int × Int:=if dw cN b 0<0 then (0,6) else (dw cN b 0+1,0)
theorem zC (b:ByteArray) (w:World):ay Tryz.prog 363 [.string b] w (.tuple #[.int .u8 (aV b).1,.int .i64 (aV b).2]):=by
 refine aq Tryz.func363 rfl Tryz.ntmps363 rfl ?_
 have hb1:=gP cN b 0 (by omega)
 rw [gN] at hb1
 have hix:=fun w tv (h:Reads w tv (cN.map Value.string).length (cN.map Value.string))=>Hm cN b tv w h
 unfold aV
 generalize dw cN b 0=r at hb1 hix
 repeat' (first|(apply aa;exact rfl;exact rfl;(intro w hm;exact FZ w))|(apply ak;exact rfl;apply w9;exact rfl)|(apply aa;exact rfl;exact rfl;(intro w' hm;exact hix w' _ (Reads.of_box hm pK rfl)))|(apply ak;exact rfl;apply dA;exact rfl;exact rfl;exact I64.wrap ⟨by omega,by omega⟩)|(apply ak;exact rfl;apply ug;exact rfl;exact dQ (by omega) (by omega))|refine sT ?_|refine sM fun _=> ?_|(refine sC ?_ ?_<;>intro hb<;>try omega)|fail)
 ·
  refine ic (.inl rfl) Tryz.results363 rfl rfl (.nil _) ?_
  rw [if_pos hb]
 ·
  refine ic (.inl rfl) Tryz.results363 rfl rfl (.nil _) ?_
  rw [if_neg (by omega)]
def fa (fn:Int):ByteArray:=if 51≤fn then av else (av::cN).getD fn.toNat av
theorem wrap_i64 {a:Int} (h1:0≤a) (h2:a≤255):IntKind.i64.wrap a=a:=I64.wrap ⟨by omega,by omega⟩
theorem kq (fn:Int) (h0:0≤fn) (h1:fn≤255) (w:World):ay Tryz.prog 344 [.int .u8 fn] w (.string (fa fn)):=by
 obtain ⟨j,rfl⟩:=NL h0
 refine aq Tryz.func344 rfl Tryz.ntmps344 rfl ?_
 have hg: ∀ h:j<51,((av::cN).map Value.string)[0+j*1]? =some (.string ((av::cN).getD j av)):=by
  intro h
  have:j<(av::cN).length:=h
  rw [show 0+j*1=j by omega]
  simp only [MD,LW,LF this]
  rfl
 repeat' (first|(apply ak;exact rfl;apply ug;exact rfl;exact wrap_i64 h0 h1)|(apply ak;exact rfl;apply aj (j:=j);exact rfl;exact rfl;omega)|(apply ak;exact rfl;apply bU;exact rfl;exact pK;exact hg (by omega))|refine sT ?_|refine sM fun _=> ?_|(refine sC ?_ ?_<;>intro hb<;>try omega)|fail)
 ·
  (refine rT1 ?_)
  rw [fa,if_pos (by omega)]
  rfl
 ·
  (refine rT1 ?_)
  rw [fa,if_neg (by omega)]
  rfl
theorem xP {i:Nat} (h:i<50):fa ((i:Int)+1)=cN[i]'h:=by
 have h2:i<cN.length:=h
 rw [fa,if_neg (by omega),show ((i:Int)+1).toNat=i+1 by omega]
 simp [h2]
 rfl
theorem rm (b:ByteArray) (w:World):ay Tryz.prog 370 [.string b] w (.tuple #[.int .u8 (aV b).1,.int .i64 (aV b).2]):=by
 refine aq Tryz.func370 rfl Tryz.ntmps370 rfl ?_
 repeat' (first|refine sT ?_|refine sM fun _=> ?_|(refine sC ?_ ?_<;>intro hb<;>try omega)|fail)
 refine eM (fun i:Nat=> [(0,.string b),(4,.int .u8 ((i:Int)+1))]) (fun _=> []) (fun i=>i≤50∧dw cN b 0=dw (cN.drop i) b (i:Int)) (fun i=>50 - i) 0 ⟨by omega,rfl⟩ ?_ ?_ ?_
 ·
  exact sB
 ·
  exact mS
 ·
  rintro i ⟨hi,hrec⟩
  by_cases hlt:i<50
  ·
   have hl:i<cN.length:=hlt
   have hr: ∀ w,ay Tryz.prog 344 [.int .u8 ((i:Int)+1)] w (.string (cN[i]'hl)):=fun w=>xP hlt ▸ kq _ (by omega) (by omega) w
   rw [LJ hl,dw] at hrec
   repeat' (first|(apply aa;exact rfl;exact rfl;(intro w hm;exact hr w))|(apply ak;exact rfl;apply dA (c:=((i+1:Nat):Int)+1);exact rfl;exact rfl;exact dQ (by omega) (by omega))|refine sT ?_|refine sM fun _=> ?_|(refine sC ?_ ?_<;>intro hb<;>try omega)|fail)
   ·
    refine ic (.inl rfl) Tryz.results370 rfl rfl (.nil _) ?_
    rw [aV,hrec,if_pos hb.symm,if_neg (by omega)]
   ·
    refine ⟨i+1,⟨by omega,?_⟩,by omega,?_,?_⟩
    ·
     rw [hrec,if_neg (fun h=>hb h.symm)]
     rfl
    ·
     exact sB
    ·
     exact mS
  ·
   have e:i=50:=by omega
   subst e
   repeat' (first|refine sT ?_|refine sM fun _=> ?_|(refine sC ?_ ?_<;>intro hb<;>try omega)|fail)
   refine ic (.inl rfl) Tryz.results370 rfl rfl (.nil _) ?_
   rw [aV,hrec]
   rfl
def bD (fn:Int):Int × Int:=
 if fn=5∨fn=6∨fn=7∨fn=25∨fn=39∨fn=40∨fn=18∨fn=19∨fn=45∨fn=44 then (2,2)
 else if fn=20∨fn=41∨fn=43 then (2,3)
 else if fn=32∨fn=33 then (1,2)
 else if fn=34 then (3,3)
 else if fn=21∨fn=22∨fn=23∨fn=38∨fn=9∨fn=10∨fn=11∨fn=12∨fn=14∨fn=15∨fn=16∨fn=17 then (1,16)
 else if fn=30 then (2,16)
 else (1,1)
set_option maxRecDepth 10000 in
theorem jd (fn:Int) (w:World):ay Tryz.prog 345 [.int .u8 fn] w (.tuple #[.int .i64 (bD fn).1,.int .i64 (bD fn).2]):=by
 refine aq Tryz.func345 rfl Tryz.ntmps345 rfl ?_
 repeat' (first|refine sT ?_|refine sM fun _=> ?_|(refine sC ?_ ?_<;>intro hb<;>try omega)|fail)
 all_goals ((refine rT2 ?_);simp_all [bD])
def ep (fn i:Int):Bool:=
 if i<0∨(bD fn).2≤i then false
 else if fn=9∨fn=10∨fn=11∨fn=12∨fn=14∨fn=15∨fn=16∨fn=17 then true
 else if fn=13∨fn=18∨fn=19∨fn=45∨fn=43 then decide (i=0)
 else if fn=44 then decide (i=1)
 else decide (46≤fn) && decide (fn≤50)
set_option maxRecDepth 10000 in
theorem rk (fn i:Int) (w:World):ay Tryz.prog 360 [.int .u8 fn,.int .i64 i] w (.bool (ep fn i)):=by
 refine aq Tryz.func360 rfl Tryz.ntmps360 rfl ?_
 repeat' (first|(apply aa;exact rfl;exact rfl;(intro w hm;exact jd fn w))|refine sT ?_|refine sM fun _=> ?_|(refine sC ?_ ?_<;>intro hb<;>try omega)|fail)
 all_goals ((refine rT1 ?_);((try simp only [← Int.not_lt] at*);simp_all [ep, -Int.not_lt, -Int.not_le,← Int.not_lt]))
theorem FY: ∀ j,j<50→cN.getD j av≠av∧aV (cN.getD j av)=((j:Int)+1,0):=by decide+kernel
theorem jn {fn:Int} (h:cO fn=true):dW fn=((bD fn).1,(bD fn).2,0):=by
 unfold dW bD
 (repeat' split)<;>simp_all
theorem mo {fn:Int} (h:cO fn=false):dW fn=(0,0,10):=by
 simp only [cO,MB,decide_eq_false_iff_not] at h
 have hk:cO fn=false:=by simp only [cO,MB,decide_eq_false_iff_not];exact h
 unfold dW
 (repeat' split)<;>first|(exfalso;omega)|(simp_all;done)|rfl
theorem qC {fn:Int} (h:cO fn=true) (i:Int):iN fn i=(ep fn i,if i<0∨(bD fn).2≤i then 3 else 0):=by
 unfold iN ep
 rw [jn h]
 simp only [ne_eq,not_true_eq_false,if_false]
 by_cases h1:i<0∨(bD fn).2≤i
 ·
  simp only [if_pos h1]
 ·
  simp only [if_neg h1]
  by_cases h2:fn=9∨fn=10∨fn=11∨fn=12∨fn=14∨fn=15∨fn=16∨fn=17
  ·
   simp only [if_pos h2]
  ·
   simp only [if_neg h2]
   by_cases h3:fn=44
   ·
    subst h3
    simp
   ·
    simp only [if_neg h3]
    by_cases h4:fn=18∨fn=19∨fn=45∨fn=43∨fn=13
    ·
     rw [if_pos h4,if_pos (by omega)]
    ·
     rw [if_neg h4,if_neg (by omega)]
     rfl
end Go.SL
namespace Go.SL
open Go
def fD (op:Int):Int:=
 if 7≤op∧op≤12 then 1 else if op=6 then 2 else if op=1∨op=2 then 3 else if op=3∨op=4 then 4 else if op=5 then 6 else if op=13 then 7 else 0
structure PS where
 l:List Tk
 out:List Nd
def hdT (fin:Int) (l:List Tk):Tk:=l.headD { cM with at_:=fin }
def PS.skip (p:PS):PS:=⟨p.l.tail,p.out⟩
def PS.put (p:PS) (n:Nd):PS:=⟨p.l,p.out++ [n]⟩
inductive Job where
 |level (k:Int)
 |loop (k:Int)
 |sign
 |pct
 |pctl
 |prim
 |args (fn:Int) (n:Nat)
abbrev Out:=Except (Int × Int) (Nat × PS)
def dl (kind op:Int):Nd:=⟨kind,bE,aL,op,0,0⟩
def eZ (r:Option Out) (k:Nat→PS→Option Out):Option Out:=
 match r with
 |some (.ok (n,p))=>k n p
 |r=>r
def kA (t:Tk):Nd:=
 ⟨1,if t.kind=1 then ⟨1,t.num,av⟩ else if t.kind=2 then ⟨3,0,t.text⟩ else if t.kind=3 then ⟨2,t.num,av⟩ else ⟨4,t.num,av⟩,aL,0,0,0⟩
def da (fin:Int) (name:Tk) (fn:Int) (n:Nat) (p:PS):Option Out:=
 let t:=hdT fin p.l
 if t.kind≠10 then some (.error (t.at_,4))
 else if (n:Int)<(dW fn).1∨(dW fn).2.1<(n:Int) then some (.error (name.at_,11))
 else if 46≤fn∧(p.out.getLast?.map fun x=>decide (x.kind=2∨x.kind=3))≠some true then some (.error (name.at_,4))
 else some (.ok (0,p.skip.put ⟨7,bE,aL,0,fn,n⟩))
def bB (fin:Int):Nat→Job→PS→Option Out
 |0,_,_=>none
 |f+1,.level k,p=>if k=5 then bB fin f .sign p else eZ (bB fin f (.level (k+1)) p) fun _ p=>bB fin f (.loop k) p
 |f+1,.loop k,p=>
  let t:=hdT fin p.l
  if t.kind=8∧fD t.num=k then eZ (bB fin f (.level (k+1)) p.skip) fun _ p=>bB fin f (.loop k) (p.put (dl 6 t.num))
  else some (.ok (0,p))
 |f+1,.sign,p=>
  let t:=hdT fin p.l
  if t.kind=8∧t.num=2 then eZ (bB fin f .sign p.skip) fun _ p=>some (.ok (0,p.put (dl 4 0)))
  else eZ (bB fin f .pct p) fun _ p=>
   let u:=hdT fin p.l
   if u.kind=8∧u.num=5 then eZ (bB fin f .sign p.skip) fun _ p=>some (.ok (0,p.put (dl 6 5)))
   else some (.ok (0,p))
 |f+1,.pct,p=>eZ (bB fin f .prim p) fun _ p=>bB fin f .pctl p
 |f+1,.pctl,p=>
  let t:=hdT fin p.l
  if t.kind=8∧t.num=13 then bB fin f .pctl (p.skip.put (dl 5 0)) else some (.ok (0,p))
 |f+1,.prim,p=>
  let t:=hdT fin p.l
  if 1≤t.kind∧t.kind≤4 then some (.ok (0,p.skip.put (kA t)))
  else if t.kind=5 then some (.ok (0,p.skip.put ⟨2,bE,t.rect,0,0,0⟩))
  else if t.kind=9 then eZ (bB fin f (.level 1) p.skip) fun _ p=>
   let u:=hdT fin p.l
   if u.kind≠10 then some (.error (u.at_,4)) else some (.ok (0,p.skip))
  else if t.kind=7 then
   if (aV t.text).2≠0 then some (.error (t.at_,10))
   else
    let u:=hdT fin p.skip.l
    if u.kind≠9 then some (.error (u.at_,4))
    else if (hdT fin p.skip.skip.l).kind=10 then da fin t (aV t.text).1 0 p.skip.skip
    else eZ (bB fin f (.args (aV t.text).1 0) p.skip.skip) fun n p=>da fin t (aV t.text).1 n p
  else some (.error (t.at_,4))
 |f+1,.args fn n,p=>
  let t:=hdT fin p.l
  let go:=fun (p:PS)=>if (hdT fin p.l).kind=11 then bB fin f (.args fn (n+1)) p.skip else some (.ok (n+1,p))
  if t.kind≠6 then eZ (bB fin f (.level 1) p) fun _ p=>go p
  else if (iN fn n).1=false∨(iN fn n).2≠0 then some (.error (t.at_,4))
  else go (p.skip.put ⟨3,bE,t.rect,0,0,0⟩)
def Job.c:Job→Nat
 | .level k=>(9 - k).toNat
 | .loop _=>1
 | .sign=>3
 | .pct=>2
 | .pctl=>1
 | .prim=>1
 | .args _ _=>9
def Job.fit:Job→Prop
 | .level k=>1≤k∧k≤5
 | .loop k=>1≤k∧k≤4
 |_=>True
def Job.eats:Job→Prop
 | .loop _=>False
 | .pctl=>False
 |_=>True
def EF (p:PS) (strict:Prop) (r:Out):Prop:= ∀ n p',r= .ok (n,p')→p'.l.length≤p.l.length∧(strict→p'.l.length<p.l.length)
def BU (o:Option Out) (B:Out→Prop):Prop:= ∃ r,o=some r∧B r
theorem cZ {B:Out→Prop} {r:Out} (h:B r):BU (some r) B:=⟨r,rfl,h⟩
theorem cG {p:PS} {q:Prop} {e:Int × Int}:EF p q (.error e):=fun _ _ h=>by cases h
theorem gO {p p' :PS} {q:Prop} {n:Nat} (h:p'.l.length≤p.l.length) (hq:q→p'.l.length<p.l.length):EF p q (.ok (n,p')):=fun m p2 h2=>by
 cases h2
 exact ⟨h,hq⟩
theorem eE {o:Option Out} {k:Nat→PS→Option Out} {p:PS} {q:Prop} {B:Out→Prop} (h:BU o (EF p q)) (he: ∀ e,B (.error e)) (hk: ∀ n p',p'.l.length≤p.l.length→(q→p'.l.length<p.l.length)→BU (k n p') B):BU (eZ o k) B:=by
 obtain ⟨r,rfl,hr⟩:=h
 cases r with
 |error e=>exact ⟨_,rfl,he e⟩
 |ok x=>
  obtain ⟨n,p'⟩:=x
  obtain ⟨h1,h2⟩:=hr n p' rfl
  exact hk n p' h1 h2
theorem gG {fin:Int} {l:List Tk} (h:(hdT fin l).kind≠0):0<l.length:=by
 cases l with
 |nil=>exact absurd rfl h
 |cons=>simp
theorem d9 (p:PS):p.skip.l.length=p.l.length - 1:=by simp [PS.skip]
theorem dH (p:PS) (n:Nd):(p.put n).l=p.l:=rfl
theorem nV {fin:Int} {name:Tk} {fn:Int} {n:Nat} {p p0:PS} {q:Prop} (h:p.l.length≤p0.l.length) (hq:0<p.l.length→q→p.l.length - 1<p0.l.length):BU (da fin name fn n p) (EF p0 q):=by
 unfold da
 dsimp only
 split
 ·
  exact cZ cG
 ·
  rename_i hk
  have hpos:=gG (fin:=fin) (l:=p.l) (by omega)
  split
  ·
   exact cZ cG
  ·
   split
   ·
    exact cZ cG
   ·
    refine cZ (gO ?_ fun hh=> ?_)
    ·
     rw [dH,d9];omega
    ·
     rw [dH,d9];exact hq hpos hh
theorem uq (fin:Int): ∀ (f:Nat) (j:Job) (p:PS),j.fit→20*p.l.length+j.c≤f→BU (bB fin f j p) (EF p j.eats):=by
 intro f
 induction f with
 |zero=>
  intro j p hj hf
  cases j with
  |level k=>obtain ⟨h1,h2⟩:=hj;simp only [Job.c] at hf;omega
  |_=>simp only [Job.c] at hf;omega
 |succ f ih=>
  intro j p hj hf
  cases j with
  |level k=>
   obtain ⟨h1,h2⟩:=hj
   simp only [Job.c] at hf
   rw [bB]
   split
   ·
    obtain ⟨r,hr,hl⟩:=ih .sign p trivial (by simp only [Job.c];omega)
    exact ⟨r,hr,hl⟩
   ·
    refine eE (ih (.level (k+1)) p ⟨by omega,by omega⟩ (by simp only [Job.c];omega)) (fun e=>cG) fun n p' h3 h4=> ?_
    have h5:=h4 trivial
    obtain ⟨r,hr,hl⟩:=ih (.loop k) p' ⟨h1,by omega⟩ (by simp only [Job.c];omega)
    exact ⟨r,hr,fun m q hq=>⟨by have:=(hl m q hq).1;omega,fun _=>by have:=(hl m q hq).1;omega⟩⟩
  |loop k=>
   obtain ⟨h1,h2⟩:=hj
   simp only [Job.c] at hf
   rw [bB]
   split
   ·
    rename_i hk
    have hpos:=gG (fin:=fin) (l:=p.l) (by omega)
    have hs:=d9 p
    refine eE (ih (.level (k+1)) p.skip ⟨by omega,by omega⟩ (by simp only [Job.c];omega)) (fun e=>cG) fun n p' h3 h4=> ?_
    have h5:=h4 trivial
    obtain ⟨r,hr,hl⟩:=ih (.loop k) (p'.put (dl 6 (hdT fin p.l).num)) ⟨h1,h2⟩ (by rw [dH];simp only [Job.c];omega)
    exact ⟨r,hr,fun m q hq=>⟨by have:=(hl m q hq).1;rw [dH] at this;omega,fun h=>h.elim⟩⟩
   ·
    exact cZ (gO (LK _) fun h=>h.elim)
  |sign=>
   simp only [Job.c] at hf
   rw [bB]
   dsimp only
   split
   ·
    rename_i hk
    have hpos:=gG (fin:=fin) (l:=p.l) (by omega)
    have hs:=d9 p
    refine eE (ih .sign p.skip trivial (by simp only [Job.c];omega)) (fun e=>cG) fun n p' h3 h4=> ?_
    have h5:=h4 trivial
    exact cZ (gO (by rw [dH];omega) fun _=>by rw [dH];omega)
   ·
    refine eE (ih .pct p trivial (by simp only [Job.c];omega)) (fun e=>cG) fun n p' h3 h4=> ?_
    have h5:=h4 trivial
    split
    ·
     have hs:=d9 p'
     refine eE (ih .sign p'.skip trivial (by simp only [Job.c];omega)) (fun e=>cG) fun n p2 h6 h7=> ?_
     exact cZ (gO (by rw [dH];omega) fun _=>by rw [dH];omega)
    ·
     exact cZ (gO h3 fun _=>h5)
  |pct=>
   simp only [Job.c] at hf
   rw [bB]
   refine eE (ih .prim p trivial (by simp only [Job.c];omega)) (fun e=>cG) fun n p' h3 h4=> ?_
   have h5:=h4 trivial
   obtain ⟨r,hr,hl⟩:=ih .pctl p' trivial (by simp only [Job.c];omega)
   exact ⟨r,hr,fun m q hq=>⟨by have:=(hl m q hq).1;omega,fun _=>by have:=(hl m q hq).1;omega⟩⟩
  |pctl=>
   simp only [Job.c] at hf
   rw [bB]
   split
   ·
    rename_i hk
    have hpos:=gG (fin:=fin) (l:=p.l) (by omega)
    have hs:=d9 p
    obtain ⟨r,hr,hl⟩:=ih .pctl (p.skip.put (dl 5 0)) trivial (by rw [dH];simp only [Job.c];omega)
    exact ⟨r,hr,fun m q hq=>⟨by have:=(hl m q hq).1;rw [dH] at this;omega,fun h=>h.elim⟩⟩
   ·
    exact cZ (gO (LK _) fun h=>h.elim)
  |prim=>
   simp only [Job.c] at hf
   rw [bB]
   dsimp only
   have hs:=d9 p
   have hs2:=d9 p.skip
   split
   ·
    rename_i hk
    have hpos:=gG (fin:=fin) (l:=p.l) (by omega)
    exact cZ (gO (by rw [dH];omega) fun _=>by rw [dH];omega)
   ·
    split
    ·
     rename_i hk
     have hpos:=gG (fin:=fin) (l:=p.l) (by omega)
     exact cZ (gO (by rw [dH];omega) fun _=>by rw [dH];omega)
    ·
     split
     ·
      rename_i hk
      have hpos:=gG (fin:=fin) (l:=p.l) (by omega)
      refine eE (ih (.level 1) p.skip ⟨by omega,by omega⟩ (by simp only [Job.c];omega)) (fun e=>cG) fun n p' h3 h4=> ?_
      have h5:=h4 trivial
      have hs3:=d9 p'
      split
      ·
       exact cZ cG
      ·
       exact cZ (gO (by omega) fun _=>by omega)
     ·
      split
      ·
       rename_i hk
       have hpos:=gG (fin:=fin) (l:=p.l) (by omega)
       split
       ·
        exact cZ cG
       ·
        split
        ·
         exact cZ cG
        ·
         rename_i hk2
         have hpos2:=gG (fin:=fin) (l:=p.skip.l) (by omega)
         split
         ·
          exact nV (by omega) fun _ _=>by omega
         ·
          refine eE (ih (.args (aV (hdT fin p.l).text).1 0) p.skip.skip trivial (by simp only [Job.c];omega)) (fun e=>cG) fun n p' h3 h4=> ?_
          exact nV (by omega) fun _ _=>by omega
      ·
       exact cZ cG
  |args fn n=>
   simp only [Job.c] at hf
   rw [bB]
   dsimp only
   have hgo: ∀ p' :PS,p'.l.length<p.l.length→BU (if (hdT fin p'.l).kind=11 then bB fin f (.args fn (n+1)) p'.skip else some (.ok (n+1,p'))) (EF p (Job.args fn n).eats):=by
    intro p' hp
    have hs:=d9 p'
    split
    ·
     obtain ⟨r,hr,hl⟩:=ih (.args fn (n+1)) p'.skip trivial (by simp only [Job.c];omega)
     exact ⟨r,hr,fun m q hq=>⟨by have:=(hl m q hq).1;omega,fun _=>by have:=(hl m q hq).1;omega⟩⟩
    ·
     exact cZ (gO (by omega) fun _=>hp)
   split
   ·
    refine eE (ih (.level 1) p ⟨by omega,by omega⟩ (by simp only [Job.c];omega)) (fun e=>cG) fun m p' h3 h4=> ?_
    exact hgo p' (h4 trivial)
   ·
    rename_i hk
    have hpos:=gG (fin:=fin) (l:=p.l) (by omega)
    have hs:=d9 p
    split
    ·
     exact cZ cG
    ·
     exact hgo _ (by rw [dH];omega)
structure Grew (p p' :PS) (strict:Prop):Prop where
 tok: ∃ m,p'.l=p.l.drop m∧m≤p.l.length∧p'.out.length≤p.out.length+m
 out:p.out.length≤p'.out.length
 some:strict→p.out.length<p'.out.length
theorem Grew.refl (p:PS) {q:Prop} (h: ¬ q):Grew p p q:=⟨⟨0,rfl,LS _,LK _⟩,LK _,fun hq=>(h hq).elim⟩
theorem Grew.trans {p p' p2:PS} {q q' q2:Prop} (h:Grew p p' q) (k:Grew p' p2 q') (hq:q2→q∨q'):Grew p p2 q2:=by
 obtain ⟨⟨m,h1,h2,h3⟩,h4,h5⟩:=h
 obtain ⟨⟨n,k1,k2,k3⟩,k4,k5⟩:=k
 refine ⟨⟨m+n,by rw [k1,h1,MK],?_,by omega⟩,by omega,fun hh=> ?_⟩
 ·
  rw [h1,LL] at k2;omega
 ·
  rcases hq hh with h|h
  ·
   have:=h5 h;omega
  ·
   have:=k5 h;omega
theorem Grew.step (p:PS) (n:Nd) (h:0<p.l.length) {q:Prop}:Grew p (p.skip.put n) q:=
 ⟨⟨1,by simp [PS.skip,PS.put],h,by simp [PS.skip,PS.put]⟩,by simp [PS.skip,PS.put],fun _=>by simp [PS.skip,PS.put]⟩
theorem Grew.skip (p:PS) (h:0<p.l.length) {q:Prop} (hq: ¬ q):Grew p p.skip q:=
 ⟨⟨1,by simp [PS.skip],h,by simp [PS.skip]⟩,by simp [PS.skip],fun hh=>(hq hh).elim⟩
theorem Grew.wrap {p p' :PS} {q q' :Prop} (h0:0<p.l.length) (h:Grew p.skip p' q) (n:Nd):Grew p (p'.put n) q' :=by
 obtain ⟨⟨m,h1,h2,h3⟩,h4,h5⟩:=h
 simp only [PS.skip] at h1 h2 h3 h4
 refine ⟨⟨1+m,?_,?_,?_⟩,?_,fun _=> ?_⟩
 ·
  simp only [PS.put];rw [h1,← List.drop_one,MK]
 ·
  rw [NU] at h2;omega
 ·
  simp only [PS.put,LC,LH];omega
 ·
  simp only [PS.put,LC,LH];omega
 ·
  simp only [PS.put,LC,LH];omega
theorem bV {r:Option Out} {k:Nat→PS→Option Out} {x:Nat × PS} (h:eZ r k=some (.ok x)): ∃ n p',r=some (.ok (n,p'))∧k n p' =some (.ok x):=by
 unfold eZ at h
 split at h
 ·
  exact ⟨_,_,rfl,h⟩
 ·
  rename_i h1
  obtain ⟨n,p'⟩:=x
  exact absurd h (h1 n p')
theorem ig {fin:Int} {l:List Tk} {c:Int} (h:(hdT fin l).kind=c) (hc:c≠0):0<l.length:=gG (fin:=fin) (by omega)
theorem nU {fin:Int} {name:Tk} {fn:Int} {n m:Nat} {p p' :PS} {q:Prop} (h:da fin name fn n p=some (.ok (m,p'))):Grew p p' q:=by
 unfold da at h
 dsimp only at h
 split at h
 ·
  cases h
 ·
  rename_i hk
  have hpos:=ig (Decidable.not_not.1 hk) (by decide)
  split at h
  ·
   cases h
  ·
   split at h
   ·
    cases h
   ·
    cases h
    exact .step p _ hpos
theorem jK (fin:Int): ∀ (f:Nat) (j:Job) (p:PS) (n:Nat) (p' :PS),bB fin f j p=some (.ok (n,p'))→Grew p p' j.eats
 |0,_,_,_,_,h=>by cases h
 |f+1,j,p,n,p',h=>by
  have ih:=jK fin f
  cases j with
  |level k=>
   rw [bB] at h
   split at h
   ·
    have g:=ih .sign _ _ _ h
    exact g
   ·
    obtain ⟨n1,p1,h1,h2⟩:=bV h
    exact (ih _ _ _ _ h1).trans (ih _ _ _ _ h2) fun _=> .inl trivial
  |loop k=>
   rw [bB] at h
   try dsimp only at h
   split at h
   ·
    rename_i hk
    have hpos:=ig hk.1 (by decide)
    obtain ⟨n1,p1,h1,h2⟩:=bV h
    exact ((ih _ _ _ _ h1).wrap (q' :=True) hpos _).trans (ih _ _ _ _ h2) fun _=> .inl trivial
   ·
    cases h
    exact .refl _ fun h=>h
  |sign=>
   rw [bB] at h
   try dsimp only at h
   split at h
   ·
    rename_i hk
    have hpos:=ig hk.1 (by decide)
    obtain ⟨n1,p1,h1,h2⟩:=bV h
    cases h2
    exact (ih _ _ _ _ h1).wrap hpos _
   ·
    obtain ⟨n1,p1,h1,h2⟩:=bV h
    split at h2
    ·
     rename_i hk
     have hpos:=ig hk.1 (by decide)
     obtain ⟨n2,p2,h3,h4⟩:=bV h2
     cases h4
     exact (ih _ _ _ _ h1).trans ((ih _ _ _ _ h3).wrap (q' :=True) hpos _) fun _=> .inl trivial
    ·
     cases h2
     have g:=ih .pct _ _ _ h1
     exact g
  |pct=>
   rw [bB] at h
   obtain ⟨n1,p1,h1,h2⟩:=bV h
   exact (ih _ _ _ _ h1).trans (ih _ _ _ _ h2) fun _=> .inl trivial
  |pctl=>
   rw [bB] at h
   try dsimp only at h
   split at h
   ·
    rename_i hk
    have hpos:=ig hk.1 (by decide)
    exact (Grew.step p _ hpos (q:=True)).trans (ih _ _ _ _ h) fun h=>h.elim
   ·
    cases h
    exact .refl _ fun h=>h
  |prim=>
   rw [bB] at h
   try dsimp only at h
   split at h
   ·
    rename_i hk
    cases h
    exact .step p _ (gG (fin:=fin) (by omega))
   ·
    split at h
    ·
     rename_i hk
     cases h
     exact .step p _ (ig hk (by decide))
    ·
     split at h
     ·
      rename_i hk
      have hpos:=ig hk (by decide)
      obtain ⟨n1,p1,h1,h2⟩:=bV h
      split at h2
      ·
       cases h2
      ·
       rename_i hu
       cases h2
       exact ((Grew.skip p hpos (q:=False) (fun h=>h)).trans (ih _ _ _ _ h1) (q2:=True) fun _=> .inr trivial).trans (Grew.skip p1 (ig (Decidable.not_not.1 hu) (by decide)) (q:=False) fun h=>h) fun _=> .inl trivial
     ·
      split at h
      ·
       rename_i hk
       have hpos:=ig hk (by decide)
       split at h
       ·
        cases h
       ·
        split at h
        ·
         cases h
        ·
         rename_i hu
         have hpos2:=ig (Decidable.not_not.1 hu) (by decide)
         have g1:=(Grew.skip p hpos (q:=False) (fun h=>h)).trans (Grew.skip p.skip hpos2 (q:=False) fun h=>h) (q2:=False) fun h=>h.elim
         split at h
         ·
          exact g1.trans (nU h (q:=True)) fun _=> .inr trivial
         ·
          obtain ⟨n1,p1,h1,h2⟩:=bV h
          exact (g1.trans (ih _ _ _ _ h1) (q2:=True) fun _=> .inr trivial).trans (nU h2 (q:=True)) fun _=> .inl trivial
      ·
       cases h
  |args fn i=>
   rw [bB] at h
   try dsimp only at h
   have hgo: ∀ p0:PS,(if (hdT fin p0.l).kind=11 then bB fin f (.args fn (i+1)) p0.skip else some (.ok (i+1,p0)))=some (.ok (n,p'))→Grew p0 p' False:=by
    intro p0 h0
    split at h0
    ·
     rename_i hk
     exact (Grew.skip p0 (ig hk (by decide)) (q:=False) (fun h=>h)).trans (ih _ _ _ _ h0) fun h=>h.elim
    ·
     cases h0
     exact .refl _ fun h=>h
   split at h
   ·
    obtain ⟨n1,p1,h1,h2⟩:=bV h
    exact (ih _ _ _ _ h1).trans (hgo p1 h2) fun _=> .inl trivial
   ·
    rename_i hk
    have hpos:=gG (fin:=fin) (l:=p.l) (by omega)
    split at h
    ·
     cases h
    ·
     exact (Grew.step p _ hpos (q:=True)).trans (hgo _ h) fun _=> .inl trivial
end Go.SL
namespace Go.SL
open Go Go.Proofs
attribute [local irreducible] W WL WQ WG WA VOp thn blk bq aS FnIn
set_option maxRecDepth 10000 in
theorem kX (c r:Int) (w:World):ay Tryz.prog 157 [.agg #[.int .i64 c,.int .i64 r]] w (.bool (valid c r)):=by
 refine aq Tryz.func157 rfl Tryz.ntmps157 rfl ?_
 repeat' (first|refine sT ?_|refine sM fun _=> ?_|(refine sC ?_ ?_<;>intro hb<;>try omega)|fail)
 all_goals ((refine rT1 ?_);((try simp only [← Int.not_lt] at*);simp_all [valid, -Int.not_lt, -Int.not_le,← Int.not_lt]))
set_option maxRecDepth 10000 in
theorem AJ (r:Rct) (w:World):ay Tryz.prog 372 [.agg (bO r).toArray] w (.agg #[.int .i64 r.c1,.int .i64 r.r1]):=by
 refine aq Tryz.func372 rfl Tryz.ntmps372 rfl ?_
 repeat' (first|refine sT ?_|refine sM fun _=> ?_|(refine sC ?_ ?_<;>intro hb<;>try omega)|fail)
 exact vO (.inl rfl) Tryz.results372 rfl pK rfl (MSub.nil _) rfl
set_option maxRecDepth 10000 in
theorem FJ (r:Rct) (w:World):ay Tryz.prog 373 [.agg (bO r).toArray] w (.agg #[.int .i64 r.c2,.int .i64 r.r2]):=by
 refine aq Tryz.func373 rfl Tryz.ntmps373 rfl ?_
 repeat' (first|refine sT ?_|refine sM fun _=> ?_|(refine sC ?_ ?_<;>intro hb<;>try omega)|fail)
 exact vO (.inl rfl) Tryz.results373 rfl pK rfl (MSub.nil _) rfl
set_option maxRecDepth 10000 in
theorem AE (r:Rct) (w:World):ay Tryz.prog 358 [.agg (bO r).toArray] w (.int .i64 (dS r)):=by
 refine aq Tryz.func358 rfl Tryz.ntmps358 rfl ?_
 repeat' (first|(apply aa;exact rfl;exact rfl;(intro w hm;exact AJ r w))|(apply aa;exact rfl;exact rfl;(intro w hm;exact FJ r w))|(apply aa;exact rfl;exact rfl;(intro w hm;exact kX r.c1 r.r1 w))|(apply aa;exact rfl;exact rfl;(intro w hm;exact kX r.c2 r.r2 w))|refine sT ?_|refine sM fun _=> ?_|(refine sC ?_ ?_<;>intro hb<;>try omega)|fail)
 all_goals ((refine rT1 ?_);((try simp only [← Int.not_lt] at*);simp_all [dS,bi, -Int.not_lt, -Int.not_le,← Int.not_lt]))
set_option maxRecDepth 10000 in
theorem Kd (r:Rct) (w:World):ay Tryz.prog 359 [.agg (bO r).toArray] w (.bool (FW r)):=by
 refine aq Tryz.func359 rfl Tryz.ntmps359 rfl ?_
 repeat' (first|refine sT ?_|refine sM fun _=> ?_|(refine sC ?_ ?_<;>intro hb<;>try omega)|fail)
 all_goals ((refine rT1 ?_);((try simp only [← Int.not_lt] at*);simp_all [FW, -Int.not_lt, -Int.not_le,← Int.not_lt]))
set_option maxRecDepth 10000 in
theorem xV (n:Nd) (w:World):ay Tryz.prog 270 [.agg (bY n).toArray] w (.int .i64 (below n)):=by
 refine aq Tryz.func270 rfl Tryz.ntmps270 rfl ?_
 repeat' (first|refine sT ?_|refine sM fun _=> ?_|(refine sC ?_ ?_<;>intro hb<;>try omega)|fail)
 all_goals ((refine rT1 ?_);simp_all [below])
set_option maxRecDepth 10000 in
theorem xO (b:ByteArray) (hs:b.size≤256) (w:World):ay Tryz.prog 376 [.string b] w (.bool (lc b)):=by
 refine aq Tryz.func376 rfl Tryz.ntmps376 rfl ?_
 have hsz:b.data.toList.length=b.size:=by simp
 repeat' (first|refine sT ?_|refine sT2 ?_|refine sM fun _=> ?_|(refine sC ?_ ?_<;>intro hb<;>try omega)|fail)
 refine eM (fun i:Nat=> [(0,.string b),(3,.int .i64 (i:Int))]) (fun _=> []) (fun i=>i≤b.size∧lc b=(b.data.toList.drop i).all fun c=>decide (32≤c.toNat) && decide (c.toNat≤126)) (fun i=>b.size - i) 0 ⟨by omega,rfl⟩ ?_ ?_ ?_
 ·
  exact sB
 ·
  exact mS
 ·
  rintro i ⟨hi,hrec⟩
  by_cases hlt:i<b.size
  ·
   rw [LJ (by omega),NA] at hrec
   have hbi:b.data.toList[i]'(by omega)=b[i]'hlt:=by simp [ByteArray.getElem_eq_getElem_data]
   rw [hbi] at hrec
   repeat' (first|(apply ak;exact rfl;apply px;exact rfl;exact rfl;exact hlt)|(apply ak;exact rfl;apply dr;exact rfl;exact rfl;(simp only [maxLen];omega))|refine sT ?_|refine sT2 ?_|refine sM fun _=> ?_|(refine sC ?_ ?_<;>intro hb<;>try omega)|fail)
   ·
    (refine rT1 ?_)
    rw [hrec,decide_eq_false (by omega)]
    rfl
   ·
    (refine rT1 ?_)
    rw [hrec,decide_eq_false (p:=b[i].toNat≤126) (by omega),Mq]
    rfl
   ·
    refine ⟨i+1,⟨by omega,?_⟩,by omega,?_,?_⟩
    ·
     rw [hrec,decide_eq_true (by omega),decide_eq_true (by omega)]
     rfl
    ·
     exact sB
    ·
     exact mS
  ·
   have e:i=b.size:=by omega
   subst e
   repeat' (first|refine sT ?_|refine sT2 ?_|refine sM fun _=> ?_|(refine sC ?_ ?_<;>intro hb<;>try omega)|fail)
   (refine rT1 ?_)
   rw [hrec,L6 (by omega)]
   rfl
set_option maxRecDepth 10000 in
theorem xQ (b:ByteArray) (w:World):ay Tryz.prog 367 [.string b] w (.int .i64 (fV b)):=by
 refine aq Tryz.func367 rfl Tryz.ntmps367 rfl ?_
 repeat' (first|(apply aa;exact rfl;exact rfl;(intro w hm;exact xO b (by omega) w))|refine sT ?_|refine sM fun _=> ?_|(refine sC ?_ ?_<;>intro hb<;>try omega)|fail)
 all_goals ((refine rT1 ?_);(first|rw [fV,decide_eq_true (by omega:256<b.size)]|rw [fV,decide_eq_false (by omega: ¬ 256<b.size)]);simp_all)
set_option maxRecDepth 10000 in
theorem uu (v:Vl) (hn: -9223372036854775808≤v.num) (w:World):ay Tryz.prog 353 [.agg (cY v).toArray] w (.int .i64 (mD v)):=by
 refine aq Tryz.func353 rfl Tryz.ntmps353 rfl ?_
 have h1:(v.num≠ -9223372036854775808)↔ -9223372036854775807≤v.num:=by omega
 have h2:v.num / 2=0↔(v.num=0∨v.num=1):=by omega
 repeat' (first|(apply aa;exact rfl;exact rfl;(intro w hm;exact xQ v.text w))|refine sT ?_|refine sM fun _=> ?_|(refine sC ?_ ?_<;>intro hb<;>try omega)|fail)
 all_goals ((refine rT1 ?_);simp only [mD,qF,h1,h2,av];(try simp only [← Int.not_lt] at*);simp_all [-Int.not_lt, -Int.not_le,← Int.not_lt])
theorem zR {v:Vl} (h:mD v=0) (hk:v.kind=4):1≤v.num∧v.num≤6:=by
 simp only [mD,qF,hk] at h
 cases h1:(decide (v.text=av) && decide (1≤v.num) && decide (v.num≤6))
 ·
  simp [h1] at h
 ·
  simp only [LM,decide_eq_true_eq] at h1
  exact ⟨h1.1.2,h1.2⟩
set_option maxRecDepth 10000 in
theorem BM (v:Vl) (hn: -9223372036854775808≤v.num) (w:World):ay Tryz.prog 357 [.agg (cY v).toArray] w (.bool (CL v)):=by
 refine aq Tryz.func357 rfl Tryz.ntmps357 rfl ?_
 have hE:=zR (v:=v)
 repeat' (first|(apply aa;exact rfl;exact rfl;(intro w hm;exact uu v hn w))|refine sT ?_|refine sM fun _=> ?_|(refine sC ?_ ?_<;>intro hb<;>try omega)|fail)
 all_goals ((refine rT1 ?_);unfold CL;(try have hE' :=hE (by assumption) (by assumption));(repeat' split)<;>simp_all<;>first|omega|(by_cases h6:v.num=6<;>simp [h6]<;>omega))
theorem Gx (a b:Nd):eqN a b=eqN b a:=by
 rw [CS,CS]
 by_cases h:a=b
 ·
  subst h;rfl
 ·
  rw [decide_eq_false h,decide_eq_false fun e=>h e.symm]
theorem gK {w0:World} {s:az} {H:List Blk} {ty t' :TypeId} {x y:Operand} {a b:Nd} (hx:ev s x=some (.agg (bY b).toArray)) (hy:ev s y=some (.agg (bY a).toArray)):VOp Tryz.prog w0 s H (.binOp .eql 174 x y t') ty (.bool (eqN a b)):=by
 rw [Gx]
 exact JZ hx hy
def dB (n:Nd):Bool:=jw n && eqN n (db n)
set_option maxHeartbeats 1000000 in
theorem iC (n:Nd) (hn: -9223372036854775808≤n.v.num) (w:World):ay Tryz.prog 343 [.agg (bY n).toArray] w (.bool (dB n)):=by
 refine aq Tryz.func343 rfl Tryz.ntmps343 rfl ?_
 repeat' (first|(apply aa;exact rfl;exact rfl;(intro w hm;exact BM n.v hn w))|(apply dX;exact rfl;exact rfl;(intro w hm;exact AE n.rect w))|(apply dX;exact rfl;exact rfl;(intro w hm;exact Kd n.rect w))|(apply vz (T:=174) (fun D=> [.int .u8 n.kind,.int .u8 0,.int .i64 0,.string av,.int .i64 0,.int .i64 0,.int .i64 0,.int .i64 0,.int .i64 0,.int .u8 (bif D 5 then n.fn else 0),.int .i64 (bif D 7 then n.n else 0)]) (xs' := [.int .u8 n.kind,.int .u8 0,.int .i64 0,.string av,.int .i64 0,.int .i64 0,.int .i64 0,.int .i64 0,.int .i64 0,.int .u8 n.fn,.int .i64 n.n]);decide+kernel;decide+kernel;(first|exact .hd|exact .tl .hd);exact rfl;(intro D hD;simp only [hD 5 (by decide),hD 7 (by decide),cond_true]))|(apply ak;exact rfl;(first|(apply gK (b:=⟨n.kind,n.v,aL,0,0,0⟩);exact rfl;exact rfl)|(apply gK (b:=⟨n.kind,bE,n.rect,0,0,0⟩);exact rfl;exact rfl)|(apply gK (b:=⟨n.kind,bE,aL,0,0,0⟩);exact rfl;exact rfl)|(apply gK (b:=⟨n.kind,bE,aL,n.op,0,0⟩);exact rfl;exact rfl)|(apply gK (b:=⟨n.kind,bE,aL,0,n.fn,n.n⟩);exact rfl;exact rfl)))|(apply aK;exact rfl;(first|(apply gK (b:=⟨n.kind,n.v,aL,0,0,0⟩);exact rfl;exact rfl)|(apply gK (b:=⟨n.kind,bE,n.rect,0,0,0⟩);exact rfl;exact rfl)|(apply gK (b:=⟨n.kind,bE,aL,0,0,0⟩);exact rfl;exact rfl)|(apply gK (b:=⟨n.kind,bE,aL,n.op,0,0⟩);exact rfl;exact rfl)|(apply gK (b:=⟨n.kind,bE,aL,0,n.fn,n.n⟩);exact rfl;exact rfl)))|refine sT ?_|refine sQ ?_|refine sD ?_|refine sG ?_|refine sM fun _=> ?_|(refine sC ?_ ?_<;>intro hb<;>try omega)|(refine sCQ ?_ ?_<;>intro hb<;>try omega)|fail)
 all_goals ((refine rT1 ?_);((try simp only [← Int.not_lt] at*);simp_all [dB,jw,db,FW, -Int.not_lt, -Int.not_le,← Int.not_lt]))
end Go.SL

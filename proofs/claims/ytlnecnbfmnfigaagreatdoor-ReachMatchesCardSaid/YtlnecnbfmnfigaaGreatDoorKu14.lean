/-
  Lemmas and walks, put together: W12 W13 Px Px2 C1 Px3 C2.
-/
import Derived.Test.YtlnecnbfmnfigaaGreatDoorKu13
set_option linter.unusedSimpArgs false
set_option linter.unusedVariables false
set_option maxRecDepth 20000
namespace Go.SL
open Go Go.Proofs
attribute [local irreducible] W WL WQ WG WA VOp thn blk bA FnAt FnIn
def gA (fn:Int):ByteArray:=if 51≤fn then ay else (ay::du).getD fn.toNat ay
theorem wrap_i64 {a:Int} (h1:0≤a) (h2:a≤255):IntKind.i64.wrap a=a:=I64.wrap ⟨by omega,by omega⟩
theorem mI (fn:Int) (h0:0≤fn) (h1:fn≤255) (w:World):aF Tryz.prog 326 [.int .u8 fn] w (.string (gA fn)):=by
 obtain ⟨j,rfl⟩:=Si h0
 refine aA Tryz.func326 rfl Tryz.ntmps326 rfl ?_
 have hg: ∀ h:j<51,((ay::du).map Value.string)[0+j*1]? =some (.string ((ay::du).getD j ay)):=by
  intro h
  have:j<(ay::du).length:=h
  rw [show 0+j*1=j by omega]
  simp only [Pw,PE,O5 this]
  rfl
 repeat' (first|(apply aj;exact rfl;apply xM;exact rfl;exact wrap_i64 h0 h1)|(apply aj;exact rfl;apply ag (j:=j);exact rfl;exact rfl;omega)|(apply aj;exact rfl;apply aC;exact rfl;exact pK;exact hg (by omega))|refine sT ?_|refine sT2 ?_|refine sM fun _=> ?_|(refine sC ?_ ?_<;>intro hb<;>try omega)|fail)
 ·
  (refine rT1 ?_)
  rw [gA,if_pos (by omega)]
  rfl
 ·
  (refine rT1 ?_)
  rw [gA,if_neg (by omega)]
  rfl
theorem BO {i:Nat} (h:i<50):gA ((i:Int)+1)=du[i]'h:=by
 have h2:i<du.length:=h
 rw [gA,if_neg (by omega),show ((i:Int)+1).toNat=i+1 by omega]
 simp [h2]
 rfl
theorem vn (b:ByteArray) (w:World):aF Tryz.prog 354 [.string b] w (.tuple #[.int .u8 (bf b).1,.int .i64 (bf b).2]):=by
 refine aA Tryz.func354 rfl Tryz.ntmps354 rfl ?_
 repeat' (first|refine sT ?_|refine sT2 ?_|refine sM fun _=> ?_|(refine sC ?_ ?_<;>intro hb<;>try omega)|fail)
 refine eH (fun i:Nat=> [(0,.string b),(4,.int .u8 ((i:Int)+1))]) (fun _=> []) (fun i=>i≤50∧eu du b 0=eu (du.drop i) b (i:Int)) (fun i=>50 - i) 0 ⟨by omega,rfl⟩ ?_ ?_ ?_
 ·
  exact sB
 ·
  exact mS
 ·
  rintro i ⟨hi,hrec⟩
  by_cases hlt:i<50
  ·
   have hl:i<du.length:=hlt
   have hr: ∀ w,aF Tryz.prog 326 [.int .u8 ((i:Int)+1)] w (.string (du[i]'hl)):=fun w=>BO hlt ▸ mI _ (by omega) (by omega) w
   rw [Pf hl,eu] at hrec
   repeat' (first|(apply aa;exact rfl;exact rfl;(intro w hm;exact hr w))|(apply aj;exact rfl;apply eC (c:=((i+1:Nat):Int)+1);exact rfl;exact rfl;exact fa (by omega) (by omega))|refine sT ?_|refine sT2 ?_|refine sM fun _=> ?_|(refine sC ?_ ?_<;>intro hb<;>try omega)|fail)
   ·
    refine cN (.inl rfl) Tryz.results354 rfl rfl (.nil _) ?_
    rw [bf,hrec,if_pos hb.symm,if_neg (by omega)]
   ·
    refine ⟨i+1,⟨by omega,?_⟩,by omega,?_,?_⟩
    ·
     rw [hrec,if_neg (fun h=>hb h.symm)]
     rfl
    ·
     exact sB
    ·
     exact mS
  ·
   have e:i=50:=by omega
   subst e
   repeat' (first|refine sT ?_|refine sT2 ?_|refine sM fun _=> ?_|(refine sC ?_ ?_<;>intro hb<;>try omega)|fail)
   refine cN (.inl rfl) Tryz.results354 rfl rfl (.nil _) ?_
   rw [bf,hrec]
   rfl
def bX (fn:Int):Int × Int:=
 if fn=5∨fn=6∨fn=7∨fn=25∨fn=39∨fn=40∨fn=18∨fn=19∨fn=45∨fn=44 then (2,2)
 else if fn=20∨fn=41∨fn=43 then (2,3)
 else if fn=32∨fn=33 then (1,2)
 else if fn=34 then (3,3)
 else if fn=21∨fn=22∨fn=23∨fn=38∨fn=9∨fn=10∨fn=11∨fn=12∨fn=14∨fn=15∨fn=16∨fn=17 then (1,16)
 else if fn=30 then (2,16)
 else (1,1)
set_option maxRecDepth 10000 in
theorem lg (fn:Int) (w:World):aF Tryz.prog 327 [.int .u8 fn] w (.tuple #[.int .i64 (bX fn).1,.int .i64 (bX fn).2]):=by
 refine aA Tryz.func327 rfl Tryz.ntmps327 rfl ?_
 repeat' (first|refine sT ?_|refine sT2 ?_|refine sM fun _=> ?_|(refine sC ?_ ?_<;>intro hb<;>try omega)|fail)
 all_goals ((refine rT2 ?_);simp_all [bX])
def fG (fn i:Int):Bool:=
 if i<0∨(bX fn).2≤i then false
 else if fn=9∨fn=10∨fn=11∨fn=12∨fn=14∨fn=15∨fn=16∨fn=17 then true
 else if fn=13∨fn=18∨fn=19∨fn=45∨fn=43 then decide (i=0)
 else if fn=44 then decide (i=1)
 else decide (46≤fn) && decide (fn≤50)
set_option maxRecDepth 10000 in
theorem ve (fn i:Int) (w:World):aF Tryz.prog 344 [.int .u8 fn,.int .i64 i] w (.bool (fG fn i)):=by
 refine aA Tryz.func344 rfl Tryz.ntmps344 rfl ?_
 repeat' (first|(apply aa;exact rfl;exact rfl;(intro w hm;exact lg fn w))|refine sT ?_|refine sT2 ?_|refine sM fun _=> ?_|(refine sC ?_ ?_<;>intro hb<;>try omega)|fail)
 all_goals ((refine rT1 ?_);((try simp only [← Int.not_lt] at*);simp_all [fG, -Int.not_lt, -Int.not_le,← Int.not_lt]))
theorem JT: ∀ j,j<50→du.getD j ay≠ay∧bf (du.getD j ay)=((j:Int)+1,0):=by decide+kernel
theorem lw {fn:Int} (h:cW fn=true):eG fn=((bX fn).1,(bX fn).2,0):=by
 unfold eG bX
 (repeat' split)<;>simp_all
theorem px {fn:Int} (h:cW fn=false):eG fn=(0,0,10):=by
 simp only [cW,QF,decide_eq_false_iff_not] at h
 have hk:cW fn=false:=by simp only [cW,QF,decide_eq_false_iff_not];exact h
 unfold eG
 (repeat' split)<;>first|(exfalso;omega)|(simp_all;done)|rfl
theorem uA {fn:Int} (h:cW fn=true) (i:Int):kf fn i=(fG fn i,if i<0∨(bX fn).2≤i then 3 else 0):=by
 unfold kf fG
 rw [lw h]
 simp only [ne_eq,not_true_eq_false,if_false]
 by_cases h1:i<0∨(bX fn).2≤i
 ·
  simp only [if_pos h1]
 ·
  simp only [if_neg h1]
  by_cases h2:fn=9∨fn=10∨fn=11∨fn=12∨fn=14∨fn=15∨fn=16∨fn=17
  ·
   simp only [if_pos h2]
  ·
   simp only [if_neg h2]
   by_cases h3:fn=44
   ·
    subst h3
    simp
   ·
    simp only [if_neg h3]
    by_cases h4:fn=18∨fn=19∨fn=45∨fn=43∨fn=13
    ·
     rw [if_pos h4,if_pos (by omega)]
    ·
     rw [if_neg h4,if_neg (by omega)]
     rfl
end Go.SL
namespace Go.SL
open Go
def gS (op:Int):Int:=
 if 7≤op∧op≤12 then 1 else if op=6 then 2 else if op=1∨op=2 then 3 else if op=3∨op=4 then 4 else if op=5 then 6 else if op=13 then 7 else 0
structure PS where
 l:List Tk
 out:List Nd
def hdT (fin:Int) (l:List Tk):Tk:=l.headD { dq with at_:=fin }
def PS.skip (p:PS):PS:=⟨p.l.tail,p.out⟩
def PS.put (p:PS) (n:Nd):PS:=⟨p.l,p.out++ [n]⟩
inductive Job where
 |level (k:Int)
 |loop (k:Int)
 |sign
 |pct
 |pctl
 |prim
 |args (fn:Int) (n:Nat)
abbrev Out:=Except (Int × Int) (Nat × PS)
def dK (kind op:Int):Nd:=⟨kind,bR,aW,op,0,0⟩
def fU (r:Option Out) (k:Nat→PS→Option Out):Option Out:=
 match r with
 |some (.ok (n,p))=>k n p
 |r=>r
def mP (t:Tk):Nd:=
 ⟨1,if t.kind=1 then ⟨1,t.num,ay⟩ else if t.kind=2 then ⟨3,0,t.text⟩ else if t.kind=3 then ⟨2,t.num,ay⟩ else ⟨4,t.num,ay⟩,aW,0,0,0⟩
def dl (fin:Int) (name:Tk) (fn:Int) (n:Nat) (p:PS):Option Out:=
 let t:=hdT fin p.l
 if t.kind≠10 then some (.error (t.at_,4))
 else if (n:Int)<(eG fn).1∨(eG fn).2.1<(n:Int) then some (.error (name.at_,11))
 else if 46≤fn∧(p.out.getLast?.map fun x=>decide (x.kind=2∨x.kind=3))≠some true then some (.error (name.at_,4))
 else some (.ok (0,p.skip.put ⟨7,bR,aW,0,fn,n⟩))
def bD (fin:Int):Nat→Job→PS→Option Out
 |0,_,_=>none
 |f+1,.level k,p=>if k=5 then bD fin f .sign p else fU (bD fin f (.level (k+1)) p) fun _ p=>bD fin f (.loop k) p
 |f+1,.loop k,p=>
  let t:=hdT fin p.l
  if t.kind=8∧gS t.num=k then fU (bD fin f (.level (k+1)) p.skip) fun _ p=>bD fin f (.loop k) (p.put (dK 6 t.num))
  else some (.ok (0,p))
 |f+1,.sign,p=>
  let t:=hdT fin p.l
  if t.kind=8∧t.num=2 then fU (bD fin f .sign p.skip) fun _ p=>some (.ok (0,p.put (dK 4 0)))
  else fU (bD fin f .pct p) fun _ p=>
   let u:=hdT fin p.l
   if u.kind=8∧u.num=5 then fU (bD fin f .sign p.skip) fun _ p=>some (.ok (0,p.put (dK 6 5)))
   else some (.ok (0,p))
 |f+1,.pct,p=>fU (bD fin f .prim p) fun _ p=>bD fin f .pctl p
 |f+1,.pctl,p=>
  let t:=hdT fin p.l
  if t.kind=8∧t.num=13 then bD fin f .pctl (p.skip.put (dK 5 0)) else some (.ok (0,p))
 |f+1,.prim,p=>
  let t:=hdT fin p.l
  if 1≤t.kind∧t.kind≤4 then some (.ok (0,p.skip.put (mP t)))
  else if t.kind=5 then some (.ok (0,p.skip.put ⟨2,bR,t.rect,0,0,0⟩))
  else if t.kind=9 then fU (bD fin f (.level 1) p.skip) fun _ p=>
   let u:=hdT fin p.l
   if u.kind≠10 then some (.error (u.at_,4)) else some (.ok (0,p.skip))
  else if t.kind=7 then
   if (bf t.text).2≠0 then some (.error (t.at_,10))
   else
    let u:=hdT fin p.skip.l
    if u.kind≠9 then some (.error (u.at_,4))
    else if (hdT fin p.skip.skip.l).kind=10 then dl fin t (bf t.text).1 0 p.skip.skip
    else fU (bD fin f (.args (bf t.text).1 0) p.skip.skip) fun n p=>dl fin t (bf t.text).1 n p
  else some (.error (t.at_,4))
 |f+1,.args fn n,p=>
  let t:=hdT fin p.l
  let go:=fun (p:PS)=>if (hdT fin p.l).kind=11 then bD fin f (.args fn (n+1)) p.skip else some (.ok (n+1,p))
  if t.kind≠6 then fU (bD fin f (.level 1) p) fun _ p=>go p
  else if (kf fn n).1=false∨(kf fn n).2≠0 then some (.error (t.at_,4))
  else go (p.skip.put ⟨3,bR,t.rect,0,0,0⟩)
def Job.c:Job→Nat
 | .level k=>(9 - k).toNat
 | .loop _=>1
 | .sign=>3
 | .pct=>2
 | .pctl=>1
 | .prim=>1
 | .args _ _=>9
def Job.fit:Job→Prop
 | .level k=>1≤k∧k≤5
 | .loop k=>1≤k∧k≤4
 |_=>True
def Job.eats:Job→Prop
 | .loop _=>False
 | .pctl=>False
 |_=>True
def IA (p:PS) (strict:Prop) (r:Out):Prop:= ∀ n p',r= .ok (n,p')→p'.l.length≤p.l.length∧(strict→p'.l.length<p.l.length)
def Fy (o:Option Out) (B:Out→Prop):Prop:= ∃ r,o=some r∧B r
theorem dQ {B:Out→Prop} {r:Out} (h:B r):Fy (some r) B:=⟨r,rfl,h⟩
theorem dh {p:PS} {q:Prop} {e:Int × Int}:IA p q (.error e):=fun _ _ h=>by cases h
theorem jo {p p' :PS} {q:Prop} {n:Nat} (h:p'.l.length≤p.l.length) (hq:q→p'.l.length<p.l.length):IA p q (.ok (n,p')):=fun m p2 h2=>by
 cases h2
 exact ⟨h,hq⟩
theorem fM {o:Option Out} {k:Nat→PS→Option Out} {p:PS} {q:Prop} {B:Out→Prop} (h:Fy o (IA p q)) (he: ∀ e,B (.error e)) (hk: ∀ n p',p'.l.length≤p.l.length→(q→p'.l.length<p.l.length)→Fy (k n p') B):Fy (fU o k) B:=by
 obtain ⟨r,rfl,hr⟩:=h
 cases r with
 |error e=>exact ⟨_,rfl,he e⟩
 |ok x=>
  obtain ⟨n,p'⟩:=x
  obtain ⟨h1,h2⟩:=hr n p' rfl
  exact hk n p' h1 h2
theorem jb {fin:Int} {l:List Tk} (h:(hdT fin l).kind≠0):0<l.length:=by
 cases l with
 |nil=>exact absurd rfl h
 |cons=>simp
theorem fD (p:PS):p.skip.l.length=p.l.length - 1:=by simp [PS.skip]
theorem eK (p:PS) (n:Nd):(p.put n).l=p.l:=rfl
theorem qU {fin:Int} {name:Tk} {fn:Int} {n:Nat} {p p0:PS} {q:Prop} (h:p.l.length≤p0.l.length) (hq:0<p.l.length→q→p.l.length - 1<p0.l.length):Fy (dl fin name fn n p) (IA p0 q):=by
 unfold dl
 dsimp only
 split
 ·
  exact dQ dh
 ·
  rename_i hk
  have hpos:=jb (fin:=fin) (l:=p.l) (by omega)
  split
  ·
   exact dQ dh
  ·
   split
   ·
    exact dQ dh
   ·
    refine dQ (jo ?_ fun hh=> ?_)
    ·
     rw [eK,fD];omega
    ·
     rw [eK,fD];exact hq hpos hh
theorem rM (fin:Int): ∀ (f:Nat) (j:Job) (p:PS),j.fit→20*p.l.length+j.c≤f→Fy (bD fin f j p) (IA p j.eats):=by
 intro f
 induction f with
 |zero=>
  intro j p hj hf
  cases j with
  |level k=>obtain ⟨h1,h2⟩:=hj;simp only [Job.c] at hf;omega
  |_=>simp only [Job.c] at hf;omega
 |succ f ih=>
  intro j p hj hf
  cases j with
  |level k=>
   obtain ⟨h1,h2⟩:=hj
   simp only [Job.c] at hf
   rw [bD]
   split
   ·
    obtain ⟨r,hr,hl⟩:=ih .sign p trivial (by simp only [Job.c];omega)
    exact ⟨r,hr,hl⟩
   ·
    refine fM (ih (.level (k+1)) p ⟨by omega,by omega⟩ (by simp only [Job.c];omega)) (fun e=>dh) fun n p' h3 h4=> ?_
    have h5:=h4 trivial
    obtain ⟨r,hr,hl⟩:=ih (.loop k) p' ⟨h1,by omega⟩ (by simp only [Job.c];omega)
    exact ⟨r,hr,fun m q hq=>⟨by have:=(hl m q hq).1;omega,fun _=>by have:=(hl m q hq).1;omega⟩⟩
  |loop k=>
   obtain ⟨h1,h2⟩:=hj
   simp only [Job.c] at hf
   rw [bD]
   split
   ·
    rename_i hk
    have hpos:=jb (fin:=fin) (l:=p.l) (by omega)
    have hs:=fD p
    refine fM (ih (.level (k+1)) p.skip ⟨by omega,by omega⟩ (by simp only [Job.c];omega)) (fun e=>dh) fun n p' h3 h4=> ?_
    have h5:=h4 trivial
    obtain ⟨r,hr,hl⟩:=ih (.loop k) (p'.put (dK 6 (hdT fin p.l).num)) ⟨h1,h2⟩ (by rw [eK];simp only [Job.c];omega)
    exact ⟨r,hr,fun m q hq=>⟨by have:=(hl m q hq).1;rw [eK] at this;omega,fun h=>h.elim⟩⟩
   ·
    exact dQ (jo (Ph _) fun h=>h.elim)
  |sign=>
   simp only [Job.c] at hf
   rw [bD]
   dsimp only
   split
   ·
    rename_i hk
    have hpos:=jb (fin:=fin) (l:=p.l) (by omega)
    have hs:=fD p
    refine fM (ih .sign p.skip trivial (by simp only [Job.c];omega)) (fun e=>dh) fun n p' h3 h4=> ?_
    have h5:=h4 trivial
    exact dQ (jo (by rw [eK];omega) fun _=>by rw [eK];omega)
   ·
    refine fM (ih .pct p trivial (by simp only [Job.c];omega)) (fun e=>dh) fun n p' h3 h4=> ?_
    have h5:=h4 trivial
    split
    ·
     have hs:=fD p'
     refine fM (ih .sign p'.skip trivial (by simp only [Job.c];omega)) (fun e=>dh) fun n p2 h6 h7=> ?_
     exact dQ (jo (by rw [eK];omega) fun _=>by rw [eK];omega)
    ·
     exact dQ (jo h3 fun _=>h5)
  |pct=>
   simp only [Job.c] at hf
   rw [bD]
   refine fM (ih .prim p trivial (by simp only [Job.c];omega)) (fun e=>dh) fun n p' h3 h4=> ?_
   have h5:=h4 trivial
   obtain ⟨r,hr,hl⟩:=ih .pctl p' trivial (by simp only [Job.c];omega)
   exact ⟨r,hr,fun m q hq=>⟨by have:=(hl m q hq).1;omega,fun _=>by have:=(hl m q hq).1;omega⟩⟩
  |pctl=>
   simp only [Job.c] at hf
   rw [bD]
   split
   ·
    rename_i hk
    have hpos:=jb (fin:=fin) (l:=p.l) (by omega)
    have hs:=fD p
    obtain ⟨r,hr,hl⟩:=ih .pctl (p.skip.put (dK 5 0)) trivial (by rw [eK];simp only [Job.c];omega)
    exact ⟨r,hr,fun m q hq=>⟨by have:=(hl m q hq).1;rw [eK] at this;omega,fun h=>h.elim⟩⟩
   ·
    exact dQ (jo (Ph _) fun h=>h.elim)
  |prim=>
   simp only [Job.c] at hf
   rw [bD]
   dsimp only
   have hs:=fD p
   have hs2:=fD p.skip
   split
   ·
    rename_i hk
    have hpos:=jb (fin:=fin) (l:=p.l) (by omega)
    exact dQ (jo (by rw [eK];omega) fun _=>by rw [eK];omega)
   ·
    split
    ·
     rename_i hk
     have hpos:=jb (fin:=fin) (l:=p.l) (by omega)
     exact dQ (jo (by rw [eK];omega) fun _=>by rw [eK];omega)
    ·
     split
     ·
      rename_i hk
      have hpos:=jb (fin:=fin) (l:=p.l) (by omega)
      refine fM (ih (.level 1) p.skip ⟨by omega,by omega⟩ (by simp only [Job.c];omega)) (fun e=>dh) fun n p' h3 h4=> ?_
      have h5:=h4 trivial
      have hs3:=fD p'
      split
      ·
       exact dQ dh
      ·
       exact dQ (jo (by omega) fun _=>by omega)
     ·
      split
      ·
       rename_i hk
       have hpos:=jb (fin:=fin) (l:=p.l) (by omega)
       split
       ·
        exact dQ dh
       ·
        split
        ·
         exact dQ dh
        ·
         rename_i hk2
         have hpos2:=jb (fin:=fin) (l:=p.skip.l) (by omega)
         split
         ·
          exact qU (by omega) fun _ _=>by omega
         ·
          refine fM (ih (.args (bf (hdT fin p.l).text).1 0) p.skip.skip trivial (by simp only [Job.c];omega)) (fun e=>dh) fun n p' h3 h4=> ?_
          exact qU (by omega) fun _ _=>by omega
      ·
       exact dQ dh
  |args fn n=>
   simp only [Job.c] at hf
   rw [bD]
   dsimp only
   have hgo: ∀ p' :PS,p'.l.length<p.l.length→Fy (if (hdT fin p'.l).kind=11 then bD fin f (.args fn (n+1)) p'.skip else some (.ok (n+1,p'))) (IA p (Job.args fn n).eats):=by
    intro p' hp
    have hs:=fD p'
    split
    ·
     obtain ⟨r,hr,hl⟩:=ih (.args fn (n+1)) p'.skip trivial (by simp only [Job.c];omega)
     exact ⟨r,hr,fun m q hq=>⟨by have:=(hl m q hq).1;omega,fun _=>by have:=(hl m q hq).1;omega⟩⟩
    ·
     exact dQ (jo (by omega) fun _=>hp)
   split
   ·
    refine fM (ih (.level 1) p ⟨by omega,by omega⟩ (by simp only [Job.c];omega)) (fun e=>dh) fun m p' h3 h4=> ?_
    exact hgo p' (h4 trivial)
   ·
    rename_i hk
    have hpos:=jb (fin:=fin) (l:=p.l) (by omega)
    have hs:=fD p
    split
    ·
     exact dQ dh
    ·
     exact hgo _ (by rw [eK];omega)
end Go.SL
namespace Go.SL
open Go Go.Proofs
attribute [local irreducible] W WL WQ WG WA WX WLI WR WT VOp thn blk bZ scp bA ck FnAt FnIn
def TkV (v:Value) (A:Option Nat) (n cap k:Nat):Prop:= ∃ a:Option Addr,v= .slice a (n - k) (cap - k)∧(k<n→a=A.map fun g=>⟨g,k*8,none⟩)
def pB (g:Nat) (lv:Value) (A:Option Nat) (cap:Nat) (fin:Int) (toks:List Tk) (B:Option Nat) (cb:Nat) (out:List Nd):List Blk:=
 [.box g 289 [lv,.int .i64 fin,sl B out.length cb],.own A 291 8 toks.length cap (toks.flatMap bk),.own B 157 11 out.length cb (out.flatMap bg)]
theorem TkV.next {P:Program} {t e:Nat} {v:Value} {A:Option Nat} {n cap k:Nat} [ht:Und P t (.slice e)] [hz:Size P e 8] (h:TkV v A n cap k) (hk:k<n) (hc:n≤cap):
  ∃ v',TkV v' A n cap (k+1)∧v'.oneCell' =true∧(∃ a m c,v' = .slice a m c)∧ ∀ {w0:World} {s:aB} {H:List Blk} {ty:TypeId} {x r:Operand} {k' :IntKind},ev s x=some v→ev s r=some (.int k' 1)→VOp P w0 s H (.slice t x (some r) none none) ty v' :=by
 obtain ⟨a,rfl,ha⟩:=h
 refine ⟨.slice (if cap - k=1 then a else a.map (·.add (1*8))) (n - k - 1) (cap - k - 1),⟨if cap - k=1 then a else a.map (·.add (1*8)),?_,fun hk1=> ?_⟩,rfl,⟨_,_,_,rfl⟩,fun hx hr=>jd (lo:=1) (hi:=n - k) hx ⟨_,hr⟩ rfl (by omega) (by omega)⟩
 ·
  congr 1
 ·
  rw [if_neg (by omega),ha hk]
  cases A with
  |none=>rfl
  |some g=>(simp [ee])<;>omega
theorem Ga {fin:Int} {toks:List Tk} {k:Nat} (h:k<toks.length):hdT fin (toks.drop k)=toks[k]:=by
 rw [Pf h];rfl
theorem uf {fin:Int} {toks:List Tk} {k:Nat} (h:toks.length≤k):hdT fin (toks.drop k)={ dq with at_:=fin }:=by
 rw [PA h];rfl
theorem Ch (g:Nat) (lv:Value) (A:Option Nat) (cap:Nat) (fin:Int) (toks:List Tk) (k:Nat) (hk:TkV lv A toks.length cap k) (x:Value) (w:World) (hr:Ro w g 0 [lv,.int .i64 fin,x])
  (ht:k<toks.length→ ∃ ga,A=some ga∧Ro w ga 0 (toks.flatMap bk)):aF Tryz.prog 202 [.pointer (some ⟨g,0,none⟩)] w (.agg (bk (hdT fin (toks.drop k))).toArray):=by
 refine aA Tryz.func202 rfl Tryz.ntmps202 rfl ?_
 obtain ⟨a,rfl,ha⟩:=hk
 by_cases hlt:k<toks.length
 ·
  rw [Ga hlt]
  obtain ⟨ga,rfl,hra⟩:=ht hlt
  have ha' :=ha hlt
  subst ha'
  have hra' :Ro w ga (k*8) (bk toks[k]):=by
   have:=hra.elem yF k hlt
   rwa [Pn] at this
  have hlen:0<toks.length - k:=by omega
  repeat' (first|(apply aj;exact rfl;apply aN (o:=0) (off:=0);exact hr;exact rfl;exact rfl)|(apply aj;exact rfl;apply aN (o:=0) (off:=1);exact hr;exact rfl;exact rfl)|(apply aj;exact rfl;apply ag (j:=0);exact rfl;exact rfl;exact hlen)|(apply aj;exact rfl;apply cI (o:=k*8) (off:=0*8);exact hra';(iterate 3 exact rfl))|refine sT ?_|refine sM fun _=> ?_|(refine sC ?_ ?_<;>intro hb<;>try omega)|fail)
  all_goals try (exfalso;omega)
  (refine eRC ?_)
  rfl
 ·
  rw [uf (by omega)]
  repeat' (first|(apply aj;exact rfl;apply aN (o:=0) (off:=0);exact hr;exact rfl;exact rfl)|(apply aj;exact rfl;apply aN (o:=0) (off:=1);exact hr;exact rfl;exact rfl)|refine sT ?_|refine sM fun _=> ?_|(refine sC ?_ ?_<;>intro hb<;>try omega)|fail)
  all_goals try (exfalso;omega)
  (refine eRC ?_)
  rfl
theorem JM {g:Nat} {lv:Value} {A:Option Nat} {cap:Nat} {fin:Int} {toks:List Tk} {k:Nat} (hk:TkV lv A toks.length cap k) {B:Option Nat} {cb:Nat} {out:List Nd} {H:List Blk} {w0:World} (hH:MSub (pB g lv A cap fin toks B cb out) H) (w:World) (hm:Mem w0 w H):
  aF Tryz.prog 202 [.pointer (some ⟨g,0,none⟩)] w (.agg (bk (hdT fin (toks.drop k))).toArray):=by
 have hm' :=hH.use hm
 refine Ch g lv A cap fin toks k hk (sl B out.length cb) w (Ro.of_box hm' .hd) fun hlt=> ?_
 obtain ⟨_,_,_,h4⟩:=(hm'.on _ (In.tl .hd:In (.own A 291 8 toks.length cap (toks.flatMap bk)) _).mem).1
 cases A with
 |none=>obtain ⟨h5,_⟩:=h4;omega
 |some ga=>exact ⟨ga,rfl,Ro.of_own hm' (In.tl .hd)⟩
theorem JL (g:Nat) (lv:Value) (A:Option Nat) (cap:Nat) (fin:Int) (toks:List Tk) (k:Nat) (hv:TkV lv A toks.length cap k) (hk:k<toks.length) (hc:toks.length≤cap) (B:Option Nat) (cb:Nat) (out:List Nd) (R:List Blk) (w0:World):
  FnIn Tryz.prog 291 [.pointer (some ⟨g,0,none⟩)] w0 (pB g lv A cap fin toks B cb out++R) fun v H=>v= .tuple #[]∧ ∃ lv',TkV lv' A toks.length cap (k+1)∧H=pB g lv' A cap fin toks B cb out++R:=by
 refine bM Tryz.func291 rfl Tryz.ntmps291 rfl ?_
 obtain ⟨lv',h1,h3,⟨a',m',c',rfl⟩,h2⟩:=hv.next hk hc (P:=Tryz.prog) (t:=282) (e:=291)
 obtain ⟨a,rfl,ha⟩:=hv
 repeat' (first|(apply aj (d:=7);exact rfl;exact h2 rfl rfl)|refine sT ?_|refine sM fun _=> ?_|(refine sC ?_ ?_<;>intro hb<;>try omega)|fail)
 exact jv (.inr rfl) rfl (.refl _) ⟨rfl,_,h1,rfl⟩
theorem li (n:Nd) (g:Nat) (lv:Value) (A:Option Nat) (cap:Nat) (fin:Int) (toks:List Tk) (B:Option Nat) (cb:Nat) (out:List Nd) (hlen:out.length≤1000000) (R:List Blk) (w0:World):
  FnIn Tryz.prog 292 [.pointer (some ⟨g,0,none⟩),.agg (bg n).toArray] w0 (pB g lv A cap fin toks B cb out++R) fun v H=>v= .tuple #[]∧ ∃ B' cb',H=pB g lv A cap fin toks B' cb' (out++ [n])++R:=by
 refine bM Tryz.func292 rfl Tryz.ntmps292 rfl ?_
 repeat' (first|refine sT ?_|refine sM fun _=> ?_|(refine sC ?_ ?_<;>intro hb<;>try omega)|fail)
 refine jN 11 rfl (by kernel_rfl) ?_
 ((with_reducible apply aV (i:=0));exact rfl;exact rfl;decide+kernel;decide+kernel;decide+kernel;exact nP;(intro _ _;exact vP))
 ((with_reducible apply aV (i:=1));exact rfl;exact rfl;decide+kernel;decide+kernel;decide+kernel;exact nP;(intro _ _;exact vP))
 ((with_reducible apply aV (i:=2));exact rfl;exact rfl;decide+kernel;decide+kernel;decide+kernel;exact nP;(intro _ _;exact vP))
 ((with_reducible apply aV (i:=3));exact rfl;exact rfl;decide+kernel;decide+kernel;decide+kernel;exact nP;(intro _ _;exact vP))
 repeat' (first|(apply df (i:=4) (j:=5);exact rfl;exact rfl;decide+kernel)|(apply df (i:=4) (j:=6);exact rfl;exact rfl;decide+kernel)|(apply aL (i:=4);exact rfl;decide+kernel)|(apply aL (i:=5);exact rfl;decide+kernel)|(apply aL (i:=6);exact rfl;decide+kernel)|(apply aL (i:=7);exact rfl;decide+kernel)|(apply aL (i:=8);exact rfl;decide+kernel)|(apply aL (i:=9);exact rfl;decide+kernel)|(apply aL (i:=10);exact rfl;decide+kernel)|(apply jM;decide+kernel)|(apply aU;(iterate 3 exact rfl);exact pK;exact pK;exact rfl;(simp [bg,Value.oneCell']);omega;(simp only [maxLen];omega);intro g8 c8)|refine sT ?_|refine sM fun _=> ?_|(refine sC ?_ ?_<;>intro hb<;>try omega)|fail)
 all_goals
  refine jv eIO rfl (H' :=pB g lv A cap fin toks (some g8) c8 (out++ [n])++R) ?_ ⟨rfl,_,_,rfl⟩
  simp only [pB,O2,O6,Pj,Pd,Pq,Pa,O3,O4]
  exact mS
def zY (e:Int × Int):Value:= .iface 286 (.agg #[.int .i64 e.1,.int .i64 e.2])
theorem jy (x:Value) (at_ e:Int) (H:List Blk) (w0:World) (R:Value→List Blk→Prop):
  FnP Tryz.prog 203 [x,.int .i64 at_,.int .i64 e] w0 H R fun v H' =>v=zY (at_,e)∧H' =H:=by
 refine wy Tryz.func203 rfl Tryz.ntmps203 rfl ?_
 repeat' (first|(apply aj;exact rfl;apply Bf;(intro m;exact fun h=>by cases h);exact rfl)|(apply IQ;exact rfl)|refine sT ?_|refine sM fun _=> ?_|(refine sC ?_ ?_<;>intro hb<;>try omega)|fail)
 exact ML (.refl _) ⟨rfl,rfl⟩
theorem Nv (op:Int) {g:Nat} {lv:Value} {A:Option Nat} {cap:Nat} {fin:Int} {toks:List Tk} {k:Nat} (hk:TkV lv A toks.length cap k) {B:Option Nat} {cb:Nat} {out:List Nd} {H:List Blk} {w0:World} (hH:MSub (pB g lv A cap fin toks B cb out) H) (w:World) (hm:Mem w0 w H):
  aF Tryz.prog 314 [.pointer (some ⟨g,0,none⟩),.int .i64 op] w (.bool (decide ((hdT fin (toks.drop k)).kind=8∧(hdT fin (toks.drop k)).num=op))):=by
 have hm0:=hH.use hm
 refine aA Tryz.func314 rfl Tryz.ntmps314 rfl ?_
 have hh: ∀ w' H',Mem w w' H' →aF Tryz.prog 202 [.pointer (some ⟨g,0,none⟩)] w' (.agg (bk (hdT fin (toks.drop k))).toArray):=fun w' H' hm' =>by
  refine Ch g lv A cap fin toks k hk (sl B out.length cb) w' ((Ro.of_box hm0 .hd).next hm') fun hlt=> ?_
  obtain ⟨_,_,_,h4⟩:=(hm0.on _ (In.tl .hd:In (.own A 291 8 toks.length cap (toks.flatMap bk)) _).mem).1
  cases A with
  |none=>obtain ⟨h5,_⟩:=h4;omega
  |some ga=>exact ⟨ga,rfl,(Ro.of_own hm0 (In.tl .hd)).next hm'⟩
 generalize hdT fin (toks.drop k)=t at hh
 repeat' (first|(apply aa;exact rfl;exact rfl;(intro w' hm';exact hh w' _ hm'))|refine sT ?_|refine sT2 ?_|refine sM fun _=> ?_|(refine sC ?_ ?_<;>intro hb<;>try omega)|fail)
 all_goals ((refine rT1 ?_);simp_all)
theorem ye (op:Int) (w:World):aF Tryz.prog 290 [.int .i64 op] w (.tuple #[.int .i64 (gS op),.bool (decide (op=5)),.int .i64 (if gS op=0 then 2 else 0)]):=by
 refine aA Tryz.func290 rfl Tryz.ntmps290 rfl ?_
 repeat' (first|refine sT ?_|refine sM fun _=> ?_|(refine sC ?_ ?_<;>intro hb<;>try omega)|fail)
 all_goals ((refine rT3 ?_);simp_all [gS];try omega)
end Go.SL
namespace Go.SL
open Go
structure Grew (p p' :PS) (strict:Prop):Prop where
 tok: ∃ m,p'.l=p.l.drop m∧m≤p.l.length∧p'.out.length≤p.out.length+m
 out:p.out.length≤p'.out.length
 some:strict→p.out.length<p'.out.length
theorem Grew.refl (p:PS) {q:Prop} (h: ¬ q):Grew p p q:=⟨⟨0,rfl,Pb _,Ph _⟩,Ph _,fun hq=>(h hq).elim⟩
theorem Grew.trans {p p' p2:PS} {q q' q2:Prop} (h:Grew p p' q) (k:Grew p' p2 q') (hq:q2→q∨q'):Grew p p2 q2:=by
 obtain ⟨⟨m,h1,h2,h3⟩,h4,h5⟩:=h
 obtain ⟨⟨n,k1,k2,k3⟩,k4,k5⟩:=k
 refine ⟨⟨m+n,by rw [k1,h1,Qy],?_,by omega⟩,by omega,fun hh=> ?_⟩
 ·
  rw [h1,Pp] at k2;omega
 ·
  rcases hq hh with h|h
  ·
   have:=h5 h;omega
  ·
   have:=k5 h;omega
theorem Grew.step (p:PS) (n:Nd) (h:0<p.l.length) {q:Prop}:Grew p (p.skip.put n) q:=
 ⟨⟨1,by simp [PS.skip,PS.put],h,by simp [PS.skip,PS.put]⟩,by simp [PS.skip,PS.put],fun _=>by simp [PS.skip,PS.put]⟩
theorem Grew.skip (p:PS) (h:0<p.l.length) {q:Prop} (hq: ¬ q):Grew p p.skip q:=
 ⟨⟨1,by simp [PS.skip],h,by simp [PS.skip]⟩,by simp [PS.skip],fun hh=>(hq hh).elim⟩
theorem Grew.wrap {p p' :PS} {q q' :Prop} (h0:0<p.l.length) (h:Grew p.skip p' q) (n:Nd):Grew p (p'.put n) q' :=by
 obtain ⟨⟨m,h1,h2,h3⟩,h4,h5⟩:=h
 simp only [PS.skip] at h1 h2 h3 h4
 refine ⟨⟨1+m,?_,?_,?_⟩,?_,fun _=> ?_⟩
 ·
  simp only [PS.put];rw [h1,← List.drop_one,Qy]
 ·
  rw [Su] at h2;omega
 ·
  simp only [PS.put,O2,O6];omega
 ·
  simp only [PS.put,O2,O6];omega
 ·
  simp only [PS.put,O2,O6];omega
theorem cJ {r:Option Out} {k:Nat→PS→Option Out} {x:Nat × PS} (h:fU r k=some (.ok x)): ∃ n p',r=some (.ok (n,p'))∧k n p' =some (.ok x):=by
 unfold fU at h
 split at h
 ·
  exact ⟨_,_,rfl,h⟩
 ·
  rename_i h1
  obtain ⟨n,p'⟩:=x
  exact absurd h (h1 n p')
theorem jE {fin:Int} {l:List Tk} {c:Int} (h:(hdT fin l).kind=c) (hc:c≠0):0<l.length:=jb (fin:=fin) (by omega)
theorem qR {fin:Int} {name:Tk} {fn:Int} {n m:Nat} {p p' :PS} {q:Prop} (h:dl fin name fn n p=some (.ok (m,p'))):Grew p p' q:=by
 unfold dl at h
 dsimp only at h
 split at h
 ·
  cases h
 ·
  rename_i hk
  have hpos:=jE (Decidable.not_not.1 hk) (by decide)
  split at h
  ·
   cases h
  ·
   split at h
   ·
    cases h
   ·
    cases h
    exact .step p _ hpos
theorem jX (fin:Int): ∀ (f:Nat) (j:Job) (p:PS) (n:Nat) (p' :PS),bD fin f j p=some (.ok (n,p'))→Grew p p' j.eats
 |0,_,_,_,_,h=>by cases h
 |f+1,j,p,n,p',h=>by
  have ih:=jX fin f
  cases j with
  |level k=>
   rw [bD] at h
   split at h
   ·
    have g:=ih .sign _ _ _ h
    exact g
   ·
    obtain ⟨n1,p1,h1,h2⟩:=cJ h
    exact (ih _ _ _ _ h1).trans (ih _ _ _ _ h2) fun _=> .inl trivial
  |loop k=>
   rw [bD] at h
   try dsimp only at h
   split at h
   ·
    rename_i hk
    have hpos:=jE hk.1 (by decide)
    obtain ⟨n1,p1,h1,h2⟩:=cJ h
    exact ((ih _ _ _ _ h1).wrap (q' :=True) hpos _).trans (ih _ _ _ _ h2) fun _=> .inl trivial
   ·
    cases h
    exact .refl _ fun h=>h
  |sign=>
   rw [bD] at h
   try dsimp only at h
   split at h
   ·
    rename_i hk
    have hpos:=jE hk.1 (by decide)
    obtain ⟨n1,p1,h1,h2⟩:=cJ h
    cases h2
    exact (ih _ _ _ _ h1).wrap hpos _
   ·
    obtain ⟨n1,p1,h1,h2⟩:=cJ h
    split at h2
    ·
     rename_i hk
     have hpos:=jE hk.1 (by decide)
     obtain ⟨n2,p2,h3,h4⟩:=cJ h2
     cases h4
     exact (ih _ _ _ _ h1).trans ((ih _ _ _ _ h3).wrap (q' :=True) hpos _) fun _=> .inl trivial
    ·
     cases h2
     have g:=ih .pct _ _ _ h1
     exact g
  |pct=>
   rw [bD] at h
   obtain ⟨n1,p1,h1,h2⟩:=cJ h
   exact (ih _ _ _ _ h1).trans (ih _ _ _ _ h2) fun _=> .inl trivial
  |pctl=>
   rw [bD] at h
   try dsimp only at h
   split at h
   ·
    rename_i hk
    have hpos:=jE hk.1 (by decide)
    exact (Grew.step p _ hpos (q:=True)).trans (ih _ _ _ _ h) fun h=>h.elim
   ·
    cases h
    exact .refl _ fun h=>h
  |prim=>
   rw [bD] at h
   try dsimp only at h
   split at h
   ·
    rename_i hk
    cases h
    exact .step p _ (jb (fin:=fin) (by omega))
   ·
    split at h
    ·
     rename_i hk
     cases h
     exact .step p _ (jE hk (by decide))
    ·
     split at h
     ·
      rename_i hk
      have hpos:=jE hk (by decide)
      obtain ⟨n1,p1,h1,h2⟩:=cJ h
      split at h2
      ·
       cases h2
      ·
       rename_i hu
       cases h2
       exact ((Grew.skip p hpos (q:=False) (fun h=>h)).trans (ih _ _ _ _ h1) (q2:=True) fun _=> .inr trivial).trans (Grew.skip p1 (jE (Decidable.not_not.1 hu) (by decide)) (q:=False) fun h=>h) fun _=> .inl trivial
     ·
      split at h
      ·
       rename_i hk
       have hpos:=jE hk (by decide)
       split at h
       ·
        cases h
       ·
        split at h
        ·
         cases h
        ·
         rename_i hu
         have hpos2:=jE (Decidable.not_not.1 hu) (by decide)
         have g1:=(Grew.skip p hpos (q:=False) (fun h=>h)).trans (Grew.skip p.skip hpos2 (q:=False) fun h=>h) (q2:=False) fun h=>h.elim
         split at h
         ·
          exact g1.trans (qR h (q:=True)) fun _=> .inr trivial
         ·
          obtain ⟨n1,p1,h1,h2⟩:=cJ h
          exact (g1.trans (ih _ _ _ _ h1) (q2:=True) fun _=> .inr trivial).trans (qR h2 (q:=True)) fun _=> .inl trivial
      ·
       cases h
  |args fn i=>
   rw [bD] at h
   try dsimp only at h
   have hgo: ∀ p0:PS,(if (hdT fin p0.l).kind=11 then bD fin f (.args fn (i+1)) p0.skip else some (.ok (i+1,p0)))=some (.ok (n,p'))→Grew p0 p' False:=by
    intro p0 h0
    split at h0
    ·
     rename_i hk
     exact (Grew.skip p0 (jE hk (by decide)) (q:=False) (fun h=>h)).trans (ih _ _ _ _ h0) fun h=>h.elim
    ·
     cases h0
     exact .refl _ fun h=>h
   split at h
   ·
    obtain ⟨n1,p1,h1,h2⟩:=cJ h
    exact (ih _ _ _ _ h1).trans (hgo p1 h2) fun _=> .inl trivial
   ·
    rename_i hk
    have hpos:=jb (fin:=fin) (l:=p.l) (by omega)
    split at h
    ·
     cases h
    ·
     exact (Grew.step p _ hpos (q:=True)).trans (hgo _ h) fun _=> .inl trivial
end Go.SL
namespace Go.SL
open Go Go.Proofs
attribute [local irreducible] W WL WQ WG WA WX WLI WR WT VOp thn blk bZ scp bA bV ck FnAt FnIn FnP
def At (toks:List Tk) (A:Option Nat) (cap:Nat) (p:PS) (lv:Value):Prop:= ∃ k,k≤toks.length∧p.l=toks.drop k∧p.out.length≤k∧TkV lv A toks.length cap k
section
variable {toks:List Tk} {A:Option Nat} {cap:Nat} {fin:Int} {g:Nat}
def PR (toks:List Tk) (A:Option Nat) (cap:Nat) (fin:Int) (g:Nat) (R:List Blk) (r:Out) (v:Value) (H:List Blk):Prop:=v= .tuple #[]∧ ∃ n p' lv' B' cb',r= .ok (n,p')∧At toks A cap p' lv' ∧H=pB g lv' A cap fin toks B' cb' p'.out++R
def PD (R:List Blk) (r:Out) (v:Value) (H:List Blk):Prop:= ∃ e,r= .error e∧v=zY e∧MSub R H
def POK (f:Nat) (j:Job) (fid:FuncId) (args:List Value):Prop:=
 ∀ (toks:List Tk) (A:Option Nat) (cap:Nat) (fin:Int) (g:Nat) (p:PS) (lv:Value) (B:Option Nat) (cb:Nat) (r:Out) (R:List Blk) (w0:World),toks.length≤cap→toks.length≤1000→At toks A cap p lv→bD fin f j p=some r→
  FnP Tryz.prog fid (.pointer (some ⟨g,0,none⟩)::args) w0 (pB g lv A cap fin toks B cb p.out++R) (PR toks A cap fin g R r) (PD R r)
theorem bP {o:Option Out} {k:Nat→PS→Option Out} {r:Out} (h:fU o k=some r): ∃ r1,o=some r1∧((∃ e,r1= .error e∧r= .error e)∨(∃ n p',r1= .ok (n,p')∧k n p' =some r)):=by
 unfold fU at h
 split at h
 ·
  rename_i n p'
  exact ⟨_,rfl,.inr ⟨n,p',rfl,h⟩⟩
 ·
  rename_i h1
  cases r with
  |error e=>exact ⟨_,h,.inl ⟨e,rfl,rfl⟩⟩
  |ok x=>obtain ⟨n,p'⟩:=x;exact absurd h (h1 n p')
theorem At.head {p:PS} {lv:Value} (h:At toks A cap p lv) {B:Option Nat} {cb:Nat} {out:List Nd} {H:List Blk} {w0:World} (hH:MSub (pB g lv A cap fin toks B cb out) H) (w:World) (hm:Mem w0 w H):
  aF Tryz.prog 202 [.pointer (some ⟨g,0,none⟩)] w (.agg (bk (hdT fin p.l)).toArray):=by
 obtain ⟨k,h1,h2,h3,h4⟩:=h
 rw [h2]
 exact JM h4 hH w hm
theorem At.is {p:PS} {lv:Value} (h:At toks A cap p lv) (op:Int) {B:Option Nat} {cb:Nat} {out:List Nd} {H:List Blk} {w0:World} (hH:MSub (pB g lv A cap fin toks B cb out) H) (w:World) (hm:Mem w0 w H):
  aF Tryz.prog 314 [.pointer (some ⟨g,0,none⟩),.int .i64 op] w (.bool (decide ((hdT fin p.l).kind=8∧(hdT fin p.l).num=op))):=by
 obtain ⟨k,h1,h2,h3,h4⟩:=h
 rw [h2]
 exact Nv op h4 hH w hm
def At1 (toks:List Tk) (A:Option Nat) (cap:Nat) (p:PS) (lv:Value):Prop:= ∃ k,k≤toks.length∧p.l=toks.drop k∧p.out.length+1≤k∧TkV lv A toks.length cap k
theorem At.skip {p:PS} {lv:Value} (h:At toks A cap p lv) (hc:toks.length≤cap) {c:Int} (hk:(hdT fin p.l).kind=c) (h0:c≠0) {B:Option Nat} {cb:Nat} {out:List Nd} {H R:List Blk} {w0:World} (hH:MSub (pB g lv A cap fin toks B cb out++R) H):
  FnIn Tryz.prog 291 [.pointer (some ⟨g,0,none⟩)] w0 H fun v H=>v= .tuple #[]∧ ∃ lv',At1 toks A cap p.skip lv' ∧H=pB g lv' A cap fin toks B cb out++R:=by
 obtain ⟨k,h1,h2,h3,h4⟩:=h
 have hpos:=jE hk h0
 rw [h2,Pp] at hpos
 refine (JL g lv A cap fin toks k h4 (by omega) hc B cb out R w0).msub hH|>.mono ?_
 rintro v H' ⟨rfl,lv',h5,rfl⟩
 exact ⟨rfl,lv',⟨k+1,by omega,by simp only [PS.skip];rw [h2,RU],by simp only [PS.skip];omega,h5⟩,rfl⟩
theorem At1.at {p:PS} {lv:Value} (h:At1 toks A cap p lv):At toks A cap p lv:=let ⟨k,h1,h2,h3,h4⟩:=h;⟨k,h1,h2,by omega,h4⟩
theorem At1.put {p:PS} {lv:Value} (h:At1 toks A cap p lv) (n:Nd):At toks A cap (p.put n) lv:=let ⟨k,h1,h2,h3,h4⟩:=h;⟨k,h1,h2,by simp only [PS.put,O2,O6];exact h3,h4⟩
theorem At.len {p:PS} {lv:Value} (h:At toks A cap p lv) (hl:toks.length≤1000):p.out.length≤1000000:=let ⟨k,h1,h2,h3,h4⟩:=h;by omega
theorem At1.grew {p p' :PS} {lv lv' :Value} {q:Prop} (h:At1 toks A cap p lv) (h' :At toks A cap p' lv') (hg:Grew p p' q):At1 toks A cap p' lv' :=by
 obtain ⟨k,h1,h2,h3,h4⟩:=h
 obtain ⟨k',g1,g2,g3,g4⟩:=h'
 obtain ⟨⟨m,e1,e2,e3⟩,_,_⟩:=hg
 rw [h2,Qy] at e1
 rw [h2,Pp] at e2
 have hk:k' =k+m:=by
  have:=congrArg List.length (g2.symm.trans e1)
  rw [Pp,Pp] at this
  omega
 exact ⟨k',g1,g2,by omega,g4⟩
theorem eM {fn:Func} {fr:Fr} {w0:World} {R H:List Blk} {r:Out} {n:Nat} {p' :PS} {lv' :Value} {B' :Option Nat} {cb' :Nat} {e:Exit} {s:aB} (he:e= .ret∨e= .normal) (hf:fn.results= #[]) (hr:r= .ok (n,p')) (hat:At toks A cap p' lv') (hs:MSub (pB g lv' A cap fin toks B' cb' p'.out++R) H):
  bV Tryz.prog fn fr w0 (PR toks A cap fin g R r) (PD R r) e s H:=Oy (jv he hf hs ⟨rfl,n,p',lv',B',cb',hr,hat,rfl⟩)
theorem dc {fn:Func} {fr:Fr} {w0:World} {R H:List Blk} {r:Out} {e:Int × Int} {s:aB} {Rok:Value→List Blk→Prop} (hr:r= .error e) (hs:MSub R H):
  bV Tryz.prog fn fr w0 Rok (PD R r) (.panic (jI (zY e))) s H:=ML (.refl _) ⟨e,hr,rfl,hs⟩
set_option maxHeartbeats 1000000 in
theorem LC (f:Nat) (ihS:POK f .sign 288 []) (ihP:POK f .pct 315 []):POK (f+1) .sign 288 []:=by
 intro toks A cap fin g p lv B cb r R w0 hc hl hat hrun
 refine wy Tryz.func288 rfl Tryz.ntmps288 rfl ?_
 rw [bD] at hrun
 dsimp only at hrun
 have hi:=fun w hm=>hat.is 2 (fin:=fin) (g:=g) (B:=B) (cb:=cb) (out:=p.out) (H:=pB g lv A cap fin toks B cb p.out++R) (w0:=w0) (MSub.pick .hd (.pick .hd (.pick .hd (.nil _)))) w hm
 by_cases hs:(hdT fin p.l).kind=8∧(hdT fin p.l).num=2
 ·
  rw [if_pos hs] at hrun
  obtain ⟨r1,hr1,hr2⟩:=bP hrun
  rw [decide_eq_true hs] at hi
  repeat' (first|(apply aa (f:=314);exact rfl;exact rfl;exact hi)|(apply ak (f:=291);exact rfl;exact rfl;exact hat.skip hc hs.1 (by decide) (MSub.pick pK (MSub.pick pK (MSub.pick pK (MSub.refl _))));rintro _ _ ⟨rfl,lv1,h1,rfl⟩)|(refine bS (f:=288) rfl rfl (FnP.msub (ihS toks A cap fin g p.skip _ B cb r1 _ w0 hc hl (At1.at h1) hr1) (MSub.pick pK (MSub.pick pK (MSub.pick pK (MSub.refl _))))) ?_ ?_)|(rintro _ _ ⟨rfl,n,p',lv',B',cb',rfl,h2,rfl⟩)|(rintro _ _ ⟨e,rfl,rfl,h3⟩)|(apply ak (f:=292);exact rfl;exact rfl;exact FnIn.msub (li (dK 4 0) _ _ _ _ _ _ _ _ _ (At.len h2 hl) _ _) (MSub.pick pK (MSub.pick pK (MSub.pick pK (MSub.refl _))));rintro _ _ ⟨rfl,B2,cb2,rfl⟩)|refine sT ?_|refine sP ?_|refine sM fun _=> ?_|(refine sC ?_ ?_<;>intro hb<;>try omega)|fail)
  ·
   rcases hr2 with ⟨e,h,_⟩|⟨n1,p1,h,h5⟩
   ·
    cases h
   ·
    cases h
    cases h5
    exact eM (p' :=p'.put (dK 4 0)) (.inl rfl) rfl rfl ((h1.grew h2 (jX _ _ _ _ _ _ hr1)).put _) (.refl _)
  ·
   rcases hr2 with ⟨e',h,h5⟩|⟨n1,p1,h,h5⟩
   ·
    cases h
    exact dc h5 h3
   ·
    cases h
 ·
  rw [if_neg hs] at hrun
  rw [decide_eq_false hs] at hi
  obtain ⟨r1,hr1,hr2⟩:=bP hrun
  repeat' (first|(apply aa (f:=314) (d:=3);exact rfl;exact rfl;exact hi)|(refine bS (f:=315) rfl rfl (FnP.msub (ihP toks A cap fin g p _ B cb r1 _ w0 hc hl hat hr1) (MSub.pick pK (MSub.pick pK (MSub.pick pK (MSub.refl _))))) ?_ ?_)|(rintro _ _ ⟨rfl,n,p',lv',B',cb',rfl,h2,rfl⟩)|(rintro _ _ ⟨e,rfl,rfl,h3⟩)|refine sT ?_|refine sP ?_|refine sM fun _=> ?_|(refine sC ?_ ?_<;>intro hb<;>try omega)|fail)
  ·
   rcases hr2 with ⟨e,h,_⟩|⟨n1,p1,h,h5⟩
   ·
    cases h
   cases h
   have hi2:=fun w hm=>h2.is 5 (fin:=fin) (g:=g) (B:=B') (cb:=cb') (out:=p'.out) (H:=pB g lv' A cap fin toks B' cb' p'.out++R) (w0:=w0) (MSub.pick .hd (.pick .hd (.pick .hd (.nil _)))) w hm
   by_cases hs5:(hdT fin p'.l).kind=8∧(hdT fin p'.l).num=5
   ·
    rw [if_pos hs5] at h5
    rw [decide_eq_true hs5] at hi2
    obtain ⟨r2,hr3,hr4⟩:=bP h5
    repeat' (first|(apply aa (f:=314) (d:=14);exact rfl;exact rfl;exact hi2)|(apply ak (f:=291);exact rfl;exact rfl;exact h2.skip hc hs5.1 (by decide) (MSub.pick pK (MSub.pick pK (MSub.pick pK (MSub.refl _))));rintro _ _ ⟨rfl,lv1,h1,rfl⟩)|(refine bS (f:=288) rfl rfl (FnP.msub (ihS toks A cap fin g p'.skip _ B' cb' r2 _ w0 hc hl (At1.at h1) hr3) (MSub.pick pK (MSub.pick pK (MSub.pick pK (MSub.refl _))))) ?_ ?_)|(rintro _ _ ⟨rfl,n2,p2,lv2,B2,cb2,rfl,h6,rfl⟩)|(rintro _ _ ⟨e,rfl,rfl,h3⟩)|(apply ak (f:=292);exact rfl;exact rfl;exact FnIn.msub (li (dK 6 5) _ _ _ _ _ _ _ _ _ (At.len h6 hl) _ _) (MSub.pick pK (MSub.pick pK (MSub.pick pK (MSub.refl _))));rintro _ _ ⟨rfl,B3,cb3,rfl⟩)|refine sT ?_|refine sP ?_|refine sM fun _=> ?_|(refine sC ?_ ?_<;>intro hb<;>try omega)|fail)
    ·
     rcases hr4 with ⟨e,h,_⟩|⟨n3,p3,h,h7⟩
     ·
      cases h
     ·
      cases h
      cases h7
      exact eM (p' :=p2.put (dK 6 5)) (.inr rfl) rfl rfl ((h1.grew h6 (jX _ _ _ _ _ _ hr3)).put _) (.refl _)
    ·
     rcases hr4 with ⟨e',h,h7⟩|⟨n3,p3,h,h7⟩
     ·
      cases h
      exact dc h7 h3
     ·
      cases h
   ·
    rw [if_neg hs5] at h5
    rw [decide_eq_false hs5] at hi2
    cases h5
    repeat' (first|(apply aa (f:=314) (d:=14);exact rfl;exact rfl;exact hi2)|refine sT ?_|refine sP ?_|refine sM fun _=> ?_|(refine sC ?_ ?_<;>intro hb<;>try omega)|fail)
    exact eM (.inr rfl) rfl rfl h2 (.refl _)
  ·
   rcases hr2 with ⟨e',h,h5⟩|⟨n1,p1,h,h5⟩
   ·
    cases h
    exact dc h5 h3
   ·
    cases h
set_option maxHeartbeats 1000000 in
theorem EG (f:Nat) (ihP:POK f .prim 335 []):POK (f+1) .pct 315 []:=by
 intro toks A cap fin g p lv B cb r R w0 hc hl hat hrun
 refine wy Tryz.func315 rfl Tryz.ntmps315 rfl ?_
 rw [bD] at hrun
 obtain ⟨r1,hr1,hr2⟩:=bP hrun
 repeat' (first|(refine bS (f:=335) rfl rfl (FnP.msub (ihP toks A cap fin g p _ B cb r1 _ w0 hc hl hat hr1) (MSub.pick pK (MSub.pick pK (MSub.pick pK (MSub.refl _))))) ?_ ?_)|(rintro _ _ ⟨rfl,n,p',lv',B',cb',rfl,h2,rfl⟩)|(rintro _ _ ⟨e,rfl,rfl,h3⟩)|refine sT ?_|refine sP ?_|refine sT2 ?_|refine sM fun _=> ?_|(refine sC ?_ ?_<;>intro hb<;>try omega)|fail)
 ·
  rcases hr2 with ⟨e,h,_⟩|⟨n1,p1,h,h5⟩
  ·
   cases h
  cases h
  refine ax [0] rfl (fun _:Nat × PS × Value × Option Nat × Nat=> []) (fun x=>pB g x.2.2.1 A cap fin toks x.2.2.2.1 x.2.2.2.2 x.2.1.out++R) (fun x=>At toks A cap x.2.1 x.2.2.1∧bD fin x.1 .pctl x.2.1=some r) (fun x=>x.1) (f,p',lv',B',cb') ⟨h2,h5⟩ sB (.refl _) ?_
  rintro ⟨f',q,lq,Bq,cq⟩ ⟨hq1,hq2⟩
  dsimp only at hq1 hq2 ⊢
  cases f' with
  |zero=>cases hq2
  |succ f' =>
   rw [bD] at hq2
   have hi:=fun w hm=>hq1.is 13 (fin:=fin) (g:=g) (B:=Bq) (cb:=cq) (out:=q.out) (H:=pB g lq A cap fin toks Bq cq q.out++R) (w0:=w0) (MSub.pick .hd (.pick .hd (.pick .hd (.nil _)))) w hm
   by_cases hs:(hdT fin q.l).kind=8∧(hdT fin q.l).num=13
   ·
    rw [if_pos hs] at hq2
    rw [decide_eq_true hs] at hi
    repeat' (first|(apply aa (f:=314);exact rfl;exact rfl;exact hi)|(apply ak (f:=291);exact rfl;exact rfl;exact hq1.skip hc hs.1 (by decide) (MSub.pick pK (MSub.pick pK (MSub.pick pK (MSub.refl _))));rintro _ _ ⟨rfl,lv1,h1,rfl⟩)|(apply ak (f:=292);exact rfl;exact rfl;exact FnIn.msub (li (dK 5 0) _ _ _ _ _ _ _ _ _ (At.len hq1 hl) _ _) (MSub.pick pK (MSub.pick pK (MSub.pick pK (MSub.refl _))));rintro _ _ ⟨rfl,B2,cb2,rfl⟩)|refine sT ?_|refine sP ?_|refine sT2 ?_|refine sM fun _=> ?_|(refine sC ?_ ?_<;>intro hb<;>try omega)|fail)
    refine ⟨(f',q.skip.put (dK 5 0),lv1,B2,cb2),⟨h1.put _,hq2⟩,RY _,sB,sB,.refl _⟩
   ·
    rw [if_neg hs] at hq2
    rw [decide_eq_false hs] at hi
    cases hq2
    repeat' (first|(apply aa (f:=314);exact rfl;exact rfl;exact hi)|refine sT ?_|refine sP ?_|refine sT2 ?_|refine sM fun _=> ?_|(refine sC ?_ ?_<;>intro hb<;>try omega)|fail)
    exact eM (by first|exact .inr rfl|exact .inl rfl) rfl rfl hq1 (.refl _)
 ·
  rcases hr2 with ⟨e',h,h5⟩|⟨n1,p1,h,h5⟩
  ·
   cases h
   exact dc h5 h3
  ·
   cases h
end
end Go.SL

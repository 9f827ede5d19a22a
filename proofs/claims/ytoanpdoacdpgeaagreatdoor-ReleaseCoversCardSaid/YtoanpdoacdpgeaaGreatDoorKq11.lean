/-
  Lemmas and walks, put together: Pg Px3 Hc Ia Va.
-/
import Derived.Deep.RegionHeld3
import Derived.Ground.SlgmProg
import Derived.Shelf.SortM.Plain
import Derived.Shelf.SortM.SortNone
import Derived.Test.YtoanpdoacdpgeaaGreatDoorKq09
set_option linter.unusedSimpArgs false
set_option linter.unusedVariables false
set_option maxRecDepth 20000
namespace Go.SL
open Go
structure Rl where
 rect:Rct
 read:BitVec 64
 write:BitVec 64
 own:BitVec 64
def bu (r:Rl):List Value:= [.int .i64 r.rect.c1,.int .i64 r.rect.r1,.int .i64 r.rect.c2,.int .i64 r.rect.r2,vS r.read,vS r.write,vS r.own]
theorem dm (r:Rl):(bu r).length=7:=rfl
structure Gn where
 rect:Rct
 fns:Int
 to:BitVec 64
 by_:Int
 rev:Bool
def bn (g:Gn):List Value:= [.int .i64 g.rect.c1,.int .i64 g.rect.r1,.int .i64 g.rect.c2,.int .i64 g.rect.r2,.int .u8 g.fns,vS g.to,.int .i64 g.by_,.bool g.rev]
theorem cX (g:Gn):(bn g).length=8:=rfl
def Iv (x:Int):List Int→List Int
 | []=> [x]
 |y::l=>if x≤y then x::y::l else y::Iv x l
def tV (l:List Int):List Int:=l.foldr Iv []
def jh (l:List Int):List Int:=l.mergeSort fun x y=>decide (x≤y)
theorem rQ (x:Int): ∀ l:List Int,(Iv x l).Perm (x::l)
 | []=> .refl _
 |y::l=>by
  rw [Iv];split
  ·
   exact .refl _
  ·
   exact ((rQ x l).cons y).trans (.swap x y l)
theorem sY (x:Int): ∀ {l:List Int},l.Pairwise (· ≤ ·)→(Iv x l).Pairwise (· ≤ ·)
 | [],_=>Tt _ _
 |y::l,h=>by
  have h1:=RH.1 h
  rw [Iv];split
  ·
   rename_i hxy
   refine RH.2 ⟨fun z hz=> ?_,h⟩
   rcases Rd.1 hz with rfl|hz
   ·
    exact hxy
   ·
    exact Int.le_trans hxy (h1.1 z hz)
  ·
   refine RH.2 ⟨fun z hz=> ?_,sY x h1.2⟩
   rcases Rd.1 ((rQ x l).mem_iff.1 hz) with rfl|hz
   ·
    omega
   ·
    exact h1.1 z hz
theorem qw: ∀ l:List Int,(tV l).Perm l
 | []=> .refl _
 |x::l=>(rQ x _).trans ((qw l).cons x)
theorem nz: ∀ l:List Int,(tV l).Pairwise (· ≤ ·)
 | []=> .nil
 |x::l=>sY x (nz l)
theorem ij (l:List Int):(jh l).Perm l:=List.mergeSort_perm _ _
theorem qa (l:List Int):(jh l).Pairwise (· ≤ ·):=by
 have h:=List.pairwise_mergeSort (le:=fun x y:Int=>decide (x≤y)) (fun a b c h1 h2=>by simp only [decide_eq_true_eq] at*;omega) (fun a b=>by simp only [SH,decide_eq_true_eq];omega) l
 exact h.imp fun h=>by simpa using h
theorem oL: ∀ {l m:List Int},l.Pairwise (· ≤ ·)→m.Pairwise (· ≤ ·)→l.Perm m→l=m
 | [],m,_,_,h=>(List.nil_perm.1 h).symm
 |a::l,[],_,_,h=>absurd h.length_eq (by simp)
 |a::l,b::m,h1,h2,h=>by
  have k1:=RH.1 h1
  have k2:=RH.1 h2
  have hab:a=b:=by
   have ha:a∈b::m:=h.mem_iff.1 QT
   have hb:b∈a::l:=h.mem_iff.2 QT
   rcases Rd.1 ha with e|ha
   ·
    exact e
   ·
    rcases Rd.1 hb with e|hb
    ·
     exact e.symm
    ·
     have:=k2.1 a ha
     have:=k1.1 b hb
     omega
  subst hab
  rw [oL k1.2 k2.2 ((List.perm_cons a).1 h)]
theorem JV (l:List Int):jh l=tV l:=oL (qa l) (nz l) ((ij l).trans (qw l).symm)
def fS:List Int→List Int
 | []=> []
 |a::l=>if l.head? =some a then fS l else a::fS l
theorem ye (x:Int): ∀ l:List Int,fS (l++ [x])=if l.getLast? =some x then fS l else fS l++ [x]
 | []=>by simp [fS]
 | [a]=>by
  by_cases h:x=a
  ·
   subst h;simp [fS]
  ·
   have h2: ¬ a=x:=fun e=>h e.symm
   simp [fS,h,h2]
 |a::b::l=>by
  have ih:=ye x (b::l)
  have h0: ∀ l,fS (a::l)=if l.head? =some a then fS l else a::fS l:=fun _=>rfl
  have hh:(b::l++ [x]).head? =(b::l).head? :=rfl
  rw [List.getLast?_cons_cons,QR,h0,h0,hh,ih]
  by_cases h1:(b::l).head? =some a
  ·
   simp only [h1,if_true]
  ·
   simp only [h1,if_false];split<;>rfl
theorem yd {L:List Int} {j:Nat} (h:j<L.length) (h0:0<j):fS (L.take (j+1))=if L[j]=L[j - 1] then fS (L.take j) else fS (L.take j)++ [L[j]]:=by
 have h1:L.take (j+1)=L.take j++ [L[j]]:=by rw [Rg h]
 have h2:(L.take j).getLast? =some L[j - 1]:=by
  rw [Uf,Rq,SW (by omega),SY (by omega),QQ (by omega)]
 rw [h1,ye,h2]
 simp only [Option.some.injEq,eq_comm]
theorem CE {L:List Int} (h:L.length≤1):fS L=L:=by
 match L,h with
 | [],_=>rfl
 | [a],_=>rfl
theorem m9 {x:Int}: ∀ {l:List Int},x∈fS l↔x∈l
 | []=>Iff.rfl
 |a::l=>by
  rw [fS]
  split
  ·
   rename_i h
   rw [m9 (l:=l),Rd]
   exact ⟨.inr,fun h2=>h2.elim (fun e=>by subst e;exact List.mem_of_mem_head? h) id⟩
  ·
   rw [Rd,Rd,m9 (l:=l)]
theorem wy: ∀ l:List Int,(fS l).length≤l.length
 | []=>QV _
 |a::l=>by
  have:=wy l
  rw [fS]
  split<;>simp only [Rp]<;>omega
theorem tq: ∀ {l:List Int},l.Pairwise (· ≤ ·)→(fS l).Pairwise (· < ·)
 | [],_=> .nil
 |a::l,h=>by
  have h1:=RH.1 h
  have ih:=tq h1.2
  rw [fS]
  split
  ·
   exact ih
  ·
   rename_i hh
   refine RH.2 ⟨fun y hy=> ?_,ih⟩
   have hyl:=m9.1 hy
   have h2:=h1.1 y hyl
   by_cases e:a=y
   ·
    subst e
    cases l with
    |nil=>cases hyl
    |cons b l=>
     have h3:=h1.1 b QT
     have h4:=RH.1 h1.2
     rcases Rd.1 hyl with e|hm
     ·
      subst e;exact absurd rfl hh
     ·
      have h5:=h4.1 a hm
      have h6:b=a:=by omega
      subst h6;exact absurd rfl hh
   ·
    omega
def dK:List Int→Int→List (Int × Int)
 | [],_=> []
 | [x],h=> [(x,h)]
 |x::y::l,h=>(x,y - 1)::dK (y::l) h
theorem kq (x h:Int): ∀ l:List Int,dK (l++ [x]) h=dK l (x - 1)++ [(x,h)]
 | []=>rfl
 | [a]=>rfl
 |a::b::l=>by
  have ih:=kq x h (b::l)
  show (a,b - 1)::dK (b::l++ [x]) h=_
  rw [ih];rfl
theorem lW (h:Int): ∀ l:List Int,(dK l h).length=l.length
 | []=>rfl
 | [a]=>rfl
 |a::b::l=>by
  have ih:=lW h (b::l)
  show (dK (b::l) h).length+1=_
  rw [ih];rfl
theorem BA (l:List Int) (h h' :Int) (hl:l≠ []): ∃ f a,dK l h=f++ [(a,h)]∧dK l h' =f++ [(a,h')]:=by
 have e:=SM hl
 refine ⟨dK l.dropLast (l.getLast hl - 1),l.getLast hl,?_,?_⟩
 ·
  conv=>lhs;rw [← e]
  rw [kq]
 ·
  conv=>lhs;rw [← e]
  rw [kq]
def dg (lo:Int) (ps:List (Int × Int)):List Int:=lo::ps.flatMap fun p=> [p.1,p.2+1]
def wu (lo hi:Int) (ps:List (Int × Int)):List Int:=(fS (jh (dg lo ps))).filter fun x=>decide (lo≤x) && decide (x≤hi)
def cG (lo hi:Int) (ps:List (Int × Int)):List (Int × Int):=dK (wu lo hi ps) hi
theorem gq {lo hi x:Int} {ps:List (Int × Int)}:x∈wu lo hi ps↔(x=lo∨ ∃ p∈ps,x=p.1∨x=p.2+1)∧lo≤x∧x≤hi:=by
 rw [wu,Tl,m9,(ij _).mem_iff,dg,Rd,RY]
 simp
theorem l9 (lo hi:Int) (ps:List (Int × Int)):(wu lo hi ps).Pairwise (· < ·):=(tq (qa _)).filter _
theorem tr (lo:Int) (ps:List (Int × Int)):(dg lo ps).length=1+2*ps.length:=by
 unfold dg
 induction ps with
 |nil=>rfl
 |cons p ps ih=>simp only [Rj,Rp,QP,Tp] at ih ⊢;omega
theorem iK (lo hi:Int) (ps:List (Int × Int)):(cG lo hi ps).length≤1+2*ps.length:=by
 rw [cG,lW,wu]
 refine Rt (SX _ _) (Rt (wy _) ?_)
 rw [(ij _).length_eq,tr];exact QV _
theorem n8: ∀ {l:List Int} {h:Int},l.Pairwise (· < ·)→(∀ x∈l,x≤h)→ ∀ {p:Int × Int},p∈dK l h→p.1∈l∧p.1≤p.2∧p.2≤h∧ ∀ x∈l,¬ (p.1<x∧x≤p.2)
 | [],h,_,_,p,hp=>by cases hp
 | [a],h,_,hx,p,hp=>by
  rw [RA.1 hp]
  have:=hx a (by simp)
  exact ⟨by simp,this,Ss _,fun x hx=>by rw [RA.1 hx];simp only;omega⟩
 |a::b::l,h,hs,hx,p,hp=>by
  have h1:=RH.1 hs
  have hab:=h1.1 b QT
  rcases Rd.1 hp with rfl|hp
  ·
   refine ⟨QT,by simp only;omega,by have:=hx b (by simp);simp only;omega,fun x hm=> ?_⟩
   simp only
   rcases Rd.1 hm with rfl|hm
   ·
    omega
   ·
    rcases Rd.1 hm with rfl|hm
    ·
     omega
    ·
     have:=(RH.1 h1.2).1 x hm;omega
  ·
   obtain ⟨k1,k2,k3,k4⟩:=n8 h1.2 (fun x hm=>hx x (Rc _ hm)) hp
   refine ⟨Rc _ k1,k2,k3,fun x hm=> ?_⟩
   rcases Rd.1 hm with rfl|hm
   ·
    have:=h1.1 p.1 k1;omega
   ·
    exact k4 x hm
theorem qk: ∀ {l:List Int} {h:Int},l.Pairwise (· < ·)→(∀ x∈l,x≤h)→(dK l h).Pairwise fun p q=>p.2<q.1
 | [],_,_,_=> .nil
 | [a],_,_,_=>Tt _ _
 |a::b::l,h,hs,hx=>by
  have h1:=RH.1 hs
  refine RH.2 ⟨fun q hq=> ?_,qk h1.2 fun x hm=>hx x (Rc _ hm)⟩
  have hq1:=(n8 h1.2 (fun x hm=>hx x (Rc _ hm)) hq).1
  simp only
  rcases Rd.1 hq1 with e|hm
  ·
   omega
  ·
   have:=(RH.1 h1.2).1 _ hm;omega
theorem sw: ∀ {l:List Int} {h v:Int},(∃ x∈l,x≤v)→v≤h→ ∃ p∈dK l h,p.1≤v∧v≤p.2
 | [],h,v,⟨x,hx,_⟩,_=>by cases hx
 | [a],h,v,⟨x,hx,h1⟩,h2=>by rw [RA.1 hx] at h1;exact ⟨(a,h),RA.2 rfl,h1,h2⟩
 |a::b::l,h,v,⟨x,hx,h1⟩,h2=>by
  by_cases hb: ∃ x∈b::l,x≤v
  ·
   obtain ⟨p,hp,h3⟩:=sw (h:=h) hb h2
   exact ⟨p,Rc _ hp,h3⟩
  ·
   rcases Rd.1 hx with rfl|hx
   ·
    refine ⟨(x,b - 1),QT,h1,?_⟩
    have: ¬ b≤v:=fun e=>hb ⟨b,QT,e⟩
    simp only;omega
   ·
    exact absurd ⟨x,hx,h1⟩ hb
theorem eG {lo hi:Int} {ps:List (Int × Int)} {p:Int × Int} (hp:p∈cG lo hi ps):lo≤p.1∧p.1≤p.2∧p.2≤hi:=by
 obtain ⟨h1,h2,h3,_⟩:=n8 (l9 lo hi ps) (fun x hx=>(gq.1 hx).2.2) hp
 exact ⟨(gq.1 h1).2.1,h2,h3⟩
theorem qK (lo hi:Int) (ps:List (Int × Int)):(cG lo hi ps).Pairwise fun p q=>p.2<q.1:=qk (l9 lo hi ps) fun x hx=>(gq.1 hx).2.2
theorem tz {lo hi v:Int} {ps:List (Int × Int)} (h1:lo≤v) (h2:v≤hi): ∃ p∈cG lo hi ps,p.1≤v∧v≤p.2:=
 sw ⟨lo,gq.2 ⟨.inl rfl,Ss _,by omega⟩,h1⟩ h2
theorem yn {lo hi:Int} {ps:List (Int × Int)} {p q:Int × Int} (hp:p∈cG lo hi ps) (hq:q∈ps) (h1:q.1≤p.2) (h2:p.1≤q.2):q.1≤p.1∧p.2≤q.2:=by
 obtain ⟨k1,k2,k3,k4⟩:=n8 (l9 lo hi ps) (fun x hx=>(gq.1 hx).2.2) hp
 have k5:=(gq.1 k1).2.1
 constructor
 ·
  refine Int.not_lt.1 fun hlt=>k4 q.1 (gq.2 ⟨.inr ⟨q,hq,.inl rfl⟩,by omega,by omega⟩) ⟨hlt,h1⟩
 ·
  refine Int.not_lt.1 fun hlt=>k4 (q.2+1) (gq.2 ⟨.inr ⟨q,hq,.inr rfl⟩,by omega,by omega⟩) ⟨by omega,by omega⟩
structure Pz where
 rect:Rct
 a:Nat
 b:Nat
def di (p:Pz):List Value:= [.int .i64 p.rect.c1,.int .i64 p.rect.r1,.int .i64 p.rect.c2,.int .i64 p.rect.r2,.int .i64 (p.a:Int),.int .i64 (p.b:Int)]
theorem cW (p:Pz):(di p).length=6:=rfl
def jv (a b:Rct):Bool:=(dU a b).2 && decide ((dU a b).1=a)
def mC (r:Rct) (L:List Rl):Nat→Nat
 |0=>0
 |n+1=>if jv r ((L[n]?.map (·.rect)).getD aL)=true then n else mC r L n
def gY (r:Rct) (L:List Rl):Nat:=mC r L L.length
theorem w9 (r:Rct) (L:List Rl): ∀ n,mC r L n≤n - 1
 |0=>QV _
 |n+1=>by
  rw [mC];split
  ·
   exact QV _
  ·
   have:=w9 r L n;omega
def aY (r:Rct) (L:List Rl):List (Int × Int):=L.flatMap fun x=>if (dU x.rect r).2=true then [((dU x.rect r).1.c1,(dU x.rect r).1.c2)] else []
def aX (r:Rct) (L:List Rl):List (Int × Int):=L.flatMap fun x=>if (dU x.rect r).2=true then [((dU x.rect r).1.r1,(dU x.rect r).1.r2)] else []
def mY (A B:List Rl) (y x:Int × Int):Pz:=⟨⟨x.1,y.1,x.2,y.2⟩,gY ⟨x.1,y.1,x.2,y.2⟩ A,gY ⟨x.1,y.1,x.2,y.2⟩ B⟩
def jR (l:List Pz) (p:Pz):List Pz:=match l.getLast? with
 |some q=>if q.a=p.a∧q.b=p.b then l.dropLast++ [⟨⟨q.rect.c1,q.rect.r1,p.rect.c2,q.rect.r2⟩,q.a,q.b⟩] else l++ [p]
 |none=> [p]
def jO (A B:List Rl) (y:Int × Int) (xs:List (Int × Int)):List Pz:=xs.foldl (fun l x=>jR l (mY A B y x)) []
theorem kX {A B:List Rl} {y:Int × Int} {xs:List (Int × Int)} {x:Int × Int}:jO A B y (xs++ [x])=jR (jO A B y xs) (mY A B y x):=by
 unfold jO;rw [TP];rfl
def dJ (r:Rct) (A B:List Rl):List Pz:=(cG r.r1 r.r2 (aX r A++aX r B)).flatMap fun y=>jO A B y (cG r.c1 r.c2 (aY r A++aY r B))
def tJ (l:List (BitVec 64)):BitVec 64:=l.foldl (· &&& ·) (BitVec.allOnes 64)
def vk (f:Rl→BitVec 64) (r:Rct) (L:List Rl):BitVec 64:=tJ ((dJ r L []).map fun p=>(L[p.a]?.map f).getD 0#64)
theorem I1 {l:List (BitVec 64)} {x:BitVec 64}:tJ (l++ [x])=tJ l &&& x:=by unfold tJ;rw [TP];rfl
structure Grew (p p' :PS) (strict:Prop):Prop where
 tok: ∃ m,p'.l=p.l.drop m∧m≤p.l.length∧p'.out.length≤p.out.length+m
 out:p.out.length≤p'.out.length
 some:strict→p.out.length<p'.out.length
theorem Grew.refl (p:PS) {q:Prop} (h: ¬ q):Grew p p q:=⟨⟨0,rfl,QX _,QV _⟩,QV _,fun hq=>(h hq).elim⟩
theorem Grew.trans {p p' p2:PS} {q q' q2:Prop} (h:Grew p p' q) (k:Grew p' p2 q') (hq:q2→q∨q'):Grew p p2 q2:=by
 obtain ⟨⟨m,h1,h2,h3⟩,h4,h5⟩:=h
 obtain ⟨⟨n,k1,k2,k3⟩,k4,k5⟩:=k
 refine ⟨⟨m+n,by rw [k1,h1,Sw],?_,by omega⟩,by omega,fun hh=> ?_⟩
 ·
  rw [h1,Rk] at k2;omega
 ·
  rcases hq hh with h|h
  ·
   have:=h5 h;omega
  ·
   have:=k5 h;omega
theorem Grew.step (p:PS) (n:Nd) (h:0<p.l.length) {q:Prop}:Grew p (p.skip.put n) q:=
 ⟨⟨1,by simp [PS.skip,PS.put],h,by simp [PS.skip,PS.put]⟩,by simp [PS.skip,PS.put],fun _=>by simp [PS.skip,PS.put]⟩
theorem Grew.skip (p:PS) (h:0<p.l.length) {q:Prop} (hq: ¬ q):Grew p p.skip q:=
 ⟨⟨1,by simp [PS.skip],h,by simp [PS.skip]⟩,by simp [PS.skip],fun hh=>(hq hh).elim⟩
theorem Grew.wrap {p p' :PS} {q q' :Prop} (h0:0<p.l.length) (h:Grew p.skip p' q) (n:Nd):Grew p (p'.put n) q' :=by
 obtain ⟨⟨m,h1,h2,h3⟩,h4,h5⟩:=h
 simp only [PS.skip] at h1 h2 h3 h4
 refine ⟨⟨1+m,?_,?_,?_⟩,?_,fun _=> ?_⟩
 ·
  simp only [PS.put];rw [h1,← List.drop_one,Sw]
 ·
  rw [TV] at h2;omega
 ·
  simp only [PS.put,QP,QS];omega
 ·
  simp only [PS.put,QP,QS];omega
 ·
  simp only [PS.put,QP,QS];omega
theorem cw {r:Option Out} {k:Nat→PS→Option Out} {x:Nat × PS} (h:fD r k=some (.ok x)): ∃ n p',r=some (.ok (n,p'))∧k n p' =some (.ok x):=by
 unfold fD at h
 split at h
 ·
  exact ⟨_,_,rfl,h⟩
 ·
  rename_i h1
  obtain ⟨n,p'⟩:=x
  exact absurd h (h1 n p')
theorem jd {fin:Int} {l:List Tk} {c:Int} (h:(hdT fin l).kind=c) (hc:c≠0):0<l.length:=iD (fin:=fin) (by omega)
theorem qB {fin:Int} {name:Tk} {fn:Int} {n m:Nat} {p p' :PS} {q:Prop} (h:cV fin name fn n p=some (.ok (m,p'))):Grew p p' q:=by
 unfold cV at h
 dsimp only at h
 split at h
 ·
  cases h
 ·
  rename_i hk
  have hpos:=jd (Decidable.not_not.1 hk) (by decide)
  split at h
  ·
   cases h
  ·
   split at h
   ·
    cases h
   ·
    cases h
    exact .step p _ hpos
theorem jA (fin:Int): ∀ (f:Nat) (j:Job) (p:PS) (n:Nat) (p' :PS),bq fin f j p=some (.ok (n,p'))→Grew p p' j.eats
 |0,_,_,_,_,h=>by cases h
 |f+1,j,p,n,p',h=>by
  have ih:=jA fin f
  cases j with
  |level k=>
   rw [bq] at h
   split at h
   ·
    have g:=ih .sign _ _ _ h
    exact g
   ·
    obtain ⟨n1,p1,h1,h2⟩:=cw h
    exact (ih _ _ _ _ h1).trans (ih _ _ _ _ h2) fun _=> .inl trivial
  |loop k=>
   rw [bq] at h
   try dsimp only at h
   split at h
   ·
    rename_i hk
    have hpos:=jd hk.1 (by decide)
    obtain ⟨n1,p1,h1,h2⟩:=cw h
    exact ((ih _ _ _ _ h1).wrap (q' :=True) hpos _).trans (ih _ _ _ _ h2) fun _=> .inl trivial
   ·
    cases h
    exact .refl _ fun h=>h
  |sign=>
   rw [bq] at h
   try dsimp only at h
   split at h
   ·
    rename_i hk
    have hpos:=jd hk.1 (by decide)
    obtain ⟨n1,p1,h1,h2⟩:=cw h
    cases h2
    exact (ih _ _ _ _ h1).wrap hpos _
   ·
    obtain ⟨n1,p1,h1,h2⟩:=cw h
    split at h2
    ·
     rename_i hk
     have hpos:=jd hk.1 (by decide)
     obtain ⟨n2,p2,h3,h4⟩:=cw h2
     cases h4
     exact (ih _ _ _ _ h1).trans ((ih _ _ _ _ h3).wrap (q' :=True) hpos _) fun _=> .inl trivial
    ·
     cases h2
     have g:=ih .pct _ _ _ h1
     exact g
  |pct=>
   rw [bq] at h
   obtain ⟨n1,p1,h1,h2⟩:=cw h
   exact (ih _ _ _ _ h1).trans (ih _ _ _ _ h2) fun _=> .inl trivial
  |pctl=>
   rw [bq] at h
   try dsimp only at h
   split at h
   ·
    rename_i hk
    have hpos:=jd hk.1 (by decide)
    exact (Grew.step p _ hpos (q:=True)).trans (ih _ _ _ _ h) fun h=>h.elim
   ·
    cases h
    exact .refl _ fun h=>h
  |prim=>
   rw [bq] at h
   try dsimp only at h
   split at h
   ·
    rename_i hk
    cases h
    exact .step p _ (iD (fin:=fin) (by omega))
   ·
    split at h
    ·
     rename_i hk
     cases h
     exact .step p _ (jd hk (by decide))
    ·
     split at h
     ·
      rename_i hk
      have hpos:=jd hk (by decide)
      obtain ⟨n1,p1,h1,h2⟩:=cw h
      split at h2
      ·
       cases h2
      ·
       rename_i hu
       cases h2
       exact ((Grew.skip p hpos (q:=False) (fun h=>h)).trans (ih _ _ _ _ h1) (q2:=True) fun _=> .inr trivial).trans (Grew.skip p1 (jd (Decidable.not_not.1 hu) (by decide)) (q:=False) fun h=>h) fun _=> .inl trivial
     ·
      split at h
      ·
       rename_i hk
       have hpos:=jd hk (by decide)
       split at h
       ·
        cases h
       ·
        split at h
        ·
         cases h
        ·
         rename_i hu
         have hpos2:=jd (Decidable.not_not.1 hu) (by decide)
         have g1:=(Grew.skip p hpos (q:=False) (fun h=>h)).trans (Grew.skip p.skip hpos2 (q:=False) fun h=>h) (q2:=False) fun h=>h.elim
         split at h
         ·
          exact g1.trans (qB h (q:=True)) fun _=> .inr trivial
         ·
          obtain ⟨n1,p1,h1,h2⟩:=cw h
          exact (g1.trans (ih _ _ _ _ h1) (q2:=True) fun _=> .inr trivial).trans (qB h2 (q:=True)) fun _=> .inl trivial
      ·
       cases h
  |args fn i=>
   rw [bq] at h
   try dsimp only at h
   have hgo: ∀ p0:PS,(if (hdT fin p0.l).kind=11 then bq fin f (.args fn (i+1)) p0.skip else some (.ok (i+1,p0)))=some (.ok (n,p'))→Grew p0 p' False:=by
    intro p0 h0
    split at h0
    ·
     rename_i hk
     exact (Grew.skip p0 (jd hk (by decide)) (q:=False) (fun h=>h)).trans (ih _ _ _ _ h0) fun h=>h.elim
    ·
     cases h0
     exact .refl _ fun h=>h
   split at h
   ·
    obtain ⟨n1,p1,h1,h2⟩:=cw h
    exact (ih _ _ _ _ h1).trans (hgo p1 h2) fun _=> .inl trivial
   ·
    rename_i hk
    have hpos:=iD (fin:=fin) (l:=p.l) (by omega)
    split at h
    ·
     cases h
    ·
     exact (Grew.step p _ hpos (q:=True)).trans (hgo _ h) fun _=> .inl trivial
end Go.SL
namespace Go.Proofs
open Go Go.Shelf Go.RowKit Go.Lib Go.Sort Go.SL
def Tryz.sortIn_ren:Go.Shelf.Ren:=⟨fun|5=>230|8=>202|7=>278|19=>252|20=>253|10=>308|11=>309|12=>310|13=>311|14=>312|15=>313|16=>314|17=>315|18=>316|30=>339|31=>293|32=>294|33=>340|34=>341|35=>342|40=>358|n=>n,fun|23=>75|25=>3|3=>3|32=>196|22=>75|0=>0|44=>310|46=>33|4=>4|36=>303|35=>302|41=>307|5=>5|9=>9|53=>340|57=>344|63=>370|64=>367|n=>n,fun|n=>n⟩
theorem Tryz.sortIn:Go.Proofs.SlLaysM.n5 Tryz.prog Tryz.sortIn_ren:={
 mixed:=by kernel_rfl
 f5:=⟨Tryz.f230.name,by decide,Tryz.func230.trans (congrArg some (by kernel_rfl))⟩
 f7:=⟨Tryz.f278.name,by decide,Tryz.func278.trans (congrArg some (by kernel_rfl))⟩
 f8:=Tryz.func202.trans (congrArg some (by kernel_rfl))
 f10:=⟨Tryz.f308.name,by decide,Tryz.func308.trans (congrArg some (by kernel_rfl))⟩
 f11:=⟨Tryz.f309.name,by decide,Tryz.func309.trans (congrArg some (by kernel_rfl))⟩
 f12:=⟨Tryz.f310.name,by decide,Tryz.func310.trans (congrArg some (by kernel_rfl))⟩
 f13:=⟨Tryz.f311.name,by decide,Tryz.func311.trans (congrArg some (by kernel_rfl))⟩
 f14:=⟨Tryz.f312.name,by decide,Tryz.func312.trans (congrArg some (by kernel_rfl))⟩
 f15:=⟨Tryz.f313.name,by decide,Tryz.func313.trans (congrArg some (by kernel_rfl))⟩
 f16:=⟨Tryz.f314.name,by decide,Tryz.func314.trans (congrArg some (by kernel_rfl))⟩
 f17:=⟨Tryz.f315.name,by decide,Tryz.func315.trans (congrArg some (by kernel_rfl))⟩
 f18:=⟨Tryz.f316.name,by decide,Tryz.func316.trans (congrArg some (by kernel_rfl))⟩
 f19:=Tryz.func252.trans (congrArg some (by kernel_rfl))
 f20:=Tryz.func253.trans (congrArg some (by kernel_rfl))
 f30:=⟨Tryz.f339.name,by decide,Tryz.func339.trans (congrArg some (by kernel_rfl))⟩
 f31:=Tryz.func293.trans (congrArg some (by kernel_rfl))
 f32:=Tryz.func294.trans (congrArg some (by kernel_rfl))
 f33:=⟨Tryz.f340.name,by decide,Tryz.func340.trans (congrArg some (by kernel_rfl))⟩
 f34:=⟨Tryz.f341.name,by decide,Tryz.func341.trans (congrArg some (by kernel_rfl))⟩
 f35:=⟨Tryz.f342.name,by decide,Tryz.func342.trans (congrArg some (by kernel_rfl))⟩
 f40:=⟨Tryz.f358.name,by decide,Tryz.func358.trans (congrArg some (by kernel_rfl))⟩
 t0:=Tryz.underlying0
 a0:=Tryz.isAgg0
 z0:=Tryz.sizeOf0
 v0:=Tryz.zeroValue0
 t3:=Tryz.underlying3
 a3:=Tryz.isAgg3
 z3:=Tryz.sizeOf3
 v3:=Tryz.zeroValue3
 t4:=Tryz.underlying4
 a4:=Tryz.isAgg4
 z4:=Tryz.sizeOf4
 v4:=Tryz.zeroValue4
 t5:=Tryz.underlying5
 a5:=Tryz.isAgg5
 z5:=Tryz.sizeOf5
 v5:=Tryz.zeroValue5
 t9:=Tryz.underlying9
 a9:=Tryz.isAgg9
 z9:=Tryz.sizeOf9
 v9:=Tryz.zeroValue9
 t22:=Tryz.underlying75
 a22:=Tryz.isAgg75
 z22:=Tryz.sizeOf75
 v22:=Tryz.zeroValue75
 t23:=Tryz.underlying75
 a23:=Tryz.isAgg75
 z23:=Tryz.sizeOf75
 v23:=Tryz.zeroValue75
 t25:=Tryz.underlying3
 a25:=Tryz.isAgg3
 z25:=Tryz.sizeOf3
 v25:=Tryz.zeroValue3
 t32:=Tryz.underlying196
 a32:=Tryz.isAgg196
 z32:=Tryz.sizeOf196
 v32:=Tryz.zeroValue196
 t35:=Tryz.underlying302
 a35:=Tryz.isAgg302
 z35:=Tryz.sizeOf302
 v35:=Tryz.zeroValue302
 t36:=Tryz.underlying303
 a36:=Tryz.isAgg303
 z36:=Tryz.sizeOf303
 v36:=Tryz.zeroValue303
 t41:=Tryz.underlying307
 a41:=Tryz.isAgg307
 z41:=Tryz.sizeOf307
 v41:=Tryz.zeroValue307
 t44:=Tryz.underlying310
 a44:=Tryz.isAgg310
 z44:=Tryz.sizeOf310
 v44:=Tryz.zeroValue310
 t46:=Tryz.underlying33
 a46:=Tryz.isAgg33
 z46:=Tryz.sizeOf33
 v46:=Tryz.zeroValue33
 t53:=Tryz.underlying340
 a53:=Tryz.isAgg340
 z53:=Tryz.sizeOf340
 v53:=Tryz.zeroValue340
 t57:=Tryz.underlying344
 a57:=Tryz.isAgg344
 z57:=Tryz.sizeOf344
 v57:=Tryz.zeroValue344
 t63:=Tryz.underlying370
 a63:=Tryz.isAgg370
 z63:=Tryz.sizeOf370
 v63:=Tryz.zeroValue370
 t64:=Tryz.underlying367
 a64:=Tryz.isAgg367
 z64:=Tryz.sizeOf367
 v64:=Tryz.zeroValue367 }
end Go.Proofs
namespace Go.SL
open Go Go.Proofs Go.Sort Go.Shelf
theorem AH {α:Type} [Inhabited α] {enc:α→Value} (w:World) (g n:Nat) (d:Array α) (os:Array Obj):w.grownBy (grow (putRow enc (Sort.ahead w n) g 0 d) os) (some g):={
 os:=rfl
 tape:=rfl
 output:=rfl
 size:=by
  show w.heap.size≤((w.heap.modify g _)++os).size
  rw [Array.size_append,TC]
  omega
 block k hk hne:=by
  show ((w.heap.modify g _)++os)[k]? =_
  rw [Sm (by rw [TC];exact hk),Th,if_neg (fun e=>hne (by rw [e]))] }
theorem DG {α:Type} [Inhabited α] {enc:α→Value} (w:World) (g n:Nat) (d:Array α) (os:Array Obj) (c:Array Value) (T:TypeId) (fr:Nat × Nat) (h:w.heap[g]? =some (.cells c T fr)):
  (grow (putRow enc (Sort.ahead w n) g 0 d) os).heap[g]? =some (.cells (putCells enc 0 d c) T fr):=by
 have hlt:g<w.heap.size:=(RI.1 h).1
 show ((w.heap.modify g _)++os)[g]? =_
 rw [Sm (by rw [TC];exact hlt),Th,if_pos rfl,h]
 rfl
theorem D7 (L:List Int) (xs junk:List Value) (hl:xs.length=L.length):putCells fG 0 L.toArray (xs++junk).toArray=(L.map fG++junk).toArray:=by
 apply Array.ext_getElem?
 intro j
 simp only [putCells,Array.getElem?_mapIdx,RV,Tj,QX,true_and,RB,SK]
 by_cases hj:j<L.length
 ·
  rw [Sh (by omega),Sh (by rw [RN];omega),RM,QQ (by omega),QQ hj]
  simp [hj]
 ·
  rw [RZ (by omega),RZ (by rw [RN];omega),hl,RN]
  simp [hj]
set_option maxHeartbeats 1000000 in
theorem AF (L:List Int) (A:Option Nat) (cap:Nat) (hL:L.length≤1000000) (R:List Blk) (w0:World):
  FnIn Tryz.prog 230 [sl A L.length cap] w0 (.own A 3 1 L.length cap (L.map fG)::R) fun v H=>v= .tuple #[]∧H= .own A 3 1 L.length cap ((jh L).map fG)::R:=by
 have hl:(jh L).length=L.length:=(ij L).length_eq
 cases A with
 |none=>
  intro w hm
  obtain ⟨⟨h1,h2,h3,h4⟩,_⟩:=hm.on _ QT
  obtain ⟨h5,h6⟩:=h4
  have hnil:L= []:=SC.1 h5
  subst hnil
  subst h6
  have he:jh []= []:=SC.1 hl
  refine Calls.mono (AnyM.slices_Sort_int_none Tryz.sortIn none 0 w) ?_
  rintro e w' ⟨rfl,rfl⟩
  exact ⟨_,_,rfl,hm,rfl,by rw [he]⟩
 |some g=>
  intro w hm
  obtain ⟨⟨h1,h2,h3,junk,h4,h5⟩,hkk⟩:=hm.on _ QT
  have hlt:g<w.heap.size:=(RI.1 h5).1
  have hH:Holds fG w g 0 L.toArray:=by
   intro j hj
   simp only [Tj] at hj
   have hc:(L.map fG++junk).toArray[j]? =some (fG L.toArray[j]!):=by
    rw [RV,Sh (by rw [RN];exact hj),RM,QQ hj]
    simp [hj]
   constructor
   ·
    simp only [World.cell?,RB,h5]
    exact hc
   ·
    simp [World.frozen?,h5]
  have hs:=AnyM.slices_Sort_int Tryz.sortIn g 0 cap L w hH hlt (by omega)
  refine hs.mono ?_
  rintro e w' ⟨rfl,n,os,rfl⟩
  refine ⟨_,_,rfl,hm.upd (AH _ _ _ _ _) (b' := .own (some g) 3 1 L.length cap ((jh L).map fG)) ?_ fun k hk=> .inl hk,rfl,rfl⟩
  refine ⟨by rw [RN,hl,SZ],h2,h3,junk,by rw [QP,RN,hl,← SZ L.length,← h1,← QP];exact h4,?_⟩
  have h6:=DG (enc:=fG) w g n (jh L).toArray os _ _ _ h5
  rw [D7 (jh L) _ _ (by rw [hl,h1,SZ])] at h6
  exact h6
end Go.SL
namespace Go.SL
open Go Go.Proofs
structure Cl where
 at_:Rf
 node:Int
def qD (x:Cl):List Value:= [.int .i64 x.at_.col,.int .i64 x.at_.row,.int .i64 x.node]
structure Ev where
 step:Int
 user:Int
 kind:Int
 rect:Rct
 done:Bool
 to:BitVec 64
def bf (x:Ev):List Value:= [.int .i64 x.step,.int .i64 x.user,.int .u8 x.kind,.int .i64 x.rect.c1,.int .i64 x.rect.r1,.int .i64 x.rect.c2,.int .i64 x.rect.r2,.bool x.done,vS x.to]
theorem gC (x:Ev):(bf x).length=9:=rfl
structure Rv where
 step:Int
 call:Cl
 fn:Int
 rect:Rct
 grant:Int
 to:BitVec 64
def aO (x:Rv):List Value:= [.int .i64 x.step,.int .i64 x.call.at_.col,.int .i64 x.call.at_.row,.int .i64 x.call.node,.int .u8 x.fn,.int .i64 x.rect.c1,.int .i64 x.rect.r1,.int .i64 x.rect.c2,.int .i64 x.rect.r2,.int .i64 x.grant,vS x.to]
theorem cB (x:Rv):(aO x).length=11:=rfl
structure Ox where
 kind:Int
 user:Int
 rect:Rct
 input:ByteArray
 rd:BitVec 64
 wr:BitVec 64
 ow:BitVec 64
 fns:Int
 to:BitVec 64
 idx:Int
def bO (x:Ox):List Value:= [.int .u8 x.kind,.int .i64 x.user,.int .i64 x.rect.c1,.int .i64 x.rect.r1,.int .i64 x.rect.c2,.int .i64 x.rect.r2,.string x.input,vS x.rd,vS x.wr,vS x.ow,.int .u8 x.fns,vS x.to,.int .i64 x.idx]
theorem IL (x:Ox):(bO x).length=13:=rfl
theorem j6 (x y:BitVec 64):((x.toNat:Int)=(y.toNat:Int))=(x=y):=propext ⟨fun h=>TT (by omega),fun h=>h ▸ rfl⟩
theorem j5 (x y:BitVec 64):(x.toNat=y.toNat)=(x=y):=propext ⟨fun h=>TT h,fun h=>h ▸ rfl⟩
theorem AL (w:World) (d:Nat) (a1 a2 a3 b1 b2 b3:BitVec 64):(Op.equalIn (d+3) 35 (.agg #[.int .u64 (a1.toNat:Int),.int .u64 (a2.toNat:Int),.int .u64 (a3.toNat:Int)]) (.agg #[.int .u64 (b1.toNat:Int),.int .u64 (b2.toNat:Int),.int .u64 (b3.toNat:Int)])).run Tryz.prog w= .ok (decide (a1=b1) && decide (a2=b2) && decide (a3=b3)) w:=by
 rw [run_equalIn_agg w (d+2) 35 _ _ (by rw [Program.fieldsOf,Tryz.underlying35]) Tryz.stoodInHeld35]
 simp only [Program.fieldsOf,Tryz.underlying35]
 simp [Op.eqFields,part,go_sem,pN,rT,j6,j5]
 by_cases h1:a1=b1
 rotate_left
 ·
  simp [h1]
 by_cases h2:a2=b2
 rotate_left
 ·
  simp [h1,h2]
 by_cases h3:a3=b3<;>simp [h1,h2,h3]
def EK (a b:Rl):Bool:=eqR a.rect b.rect && (decide (a.read=b.read) && decide (a.write=b.write) && decide (a.own=b.own))
theorem Cq {a b:Rl}:EK a b=true↔a=b:=by
 obtain ⟨a0,a1,a2,a3⟩:=a
 obtain ⟨b0,b1,b2,b3⟩:=b
 simp [EK,gR,jx,and_assoc]
instance:DecidableEq Rl:=fun a b=>decidable_of_iff (EK a b=true) Cq
theorem Lj (a b:Rl):EK a b=decide (a=b):=by
 rw [RP,Cq,decide_eq_true_iff]
theorem J1 (w:World) (d:Nat) (a b:Rl):(Op.equalIn (d+5) 54 (.agg (bu a).toArray) (.agg (bu b).toArray)).run Tryz.prog w= .ok (EK a b) w:=by
 rw [run_equalIn_agg w (d+4) 54 _ _ (by rw [Program.fieldsOf,Tryz.underlying54]) Tryz.stoodInHeld54]
 simp only [Program.fieldsOf,Tryz.underlying54]
 have hq_R: ∀ w,(Op.equalIn (d+4) 32 (.agg #[.int .i64 a.rect.c1,.int .i64 a.rect.r1,.int .i64 a.rect.c2,.int .i64 a.rect.r2]) (.agg #[.int .i64 b.rect.c1,.int .i64 b.rect.r1,.int .i64 b.rect.c2,.int .i64 b.rect.r2])).run Tryz.prog w= .ok (eqR a.rect b.rect) w:=fun w=>jr w (d+1) a.rect b.rect
 have hq_T: ∀ w,(Op.equalIn (d+4) 35 (.agg #[.int .u64 (a.read.toNat:Int),.int .u64 (a.write.toNat:Int),.int .u64 (a.own.toNat:Int)]) (.agg #[.int .u64 (b.read.toNat:Int),.int .u64 (b.write.toNat:Int),.int .u64 (b.own.toNat:Int)])).run Tryz.prog w= .ok (decide (a.read=b.read) && decide (a.write=b.write) && decide (a.own=b.own)) w:=fun w=>AL w (d+1) a.read a.write a.own b.read b.write b.own
 simp [Op.eqFields,bu,vS,part,go_sem,pN,rT,j6,j5,EK,hq_R,hq_T]
 by_cases h1:eqR a.rect b.rect=true
 rotate_left
 ·
  simp [h1]
 by_cases h2:a.read=b.read
 rotate_left
 ·
  simp [h1,h2]
 by_cases h3:a.write=b.write
 rotate_left
 ·
  simp [h1,h2,h3]
 by_cases h4:a.own=b.own
 rotate_left
 ·
  simp [h1,h2,h3,h4]
 simp [h1,h2,h3,h4]
def EM (a b:Gn):Bool:=eqR a.rect b.rect && decide (a.fns=b.fns) && decide (a.to=b.to) && decide (a.by_=b.by_) && decide (a.rev=b.rev)
theorem Ct {a b:Gn}:EM a b=true↔a=b:=by
 obtain ⟨a0,a1,a2,a3,a4⟩:=a
 obtain ⟨b0,b1,b2,b3,b4⟩:=b
 simp [EM,gR,jx,and_assoc]
instance:DecidableEq Gn:=fun a b=>decidable_of_iff (EM a b=true) Ct
theorem Ln (a b:Gn):EM a b=decide (a=b):=by
 rw [RP,Ct,decide_eq_true_iff]
theorem J5 (w:World) (d:Nat) (a b:Gn):(Op.equalIn (d+5) 56 (.agg (bn a).toArray) (.agg (bn b).toArray)).run Tryz.prog w= .ok (EM a b) w:=by
 rw [run_equalIn_agg w (d+4) 56 _ _ (by rw [Program.fieldsOf,Tryz.underlying56]) Tryz.stoodInHeld56]
 simp only [Program.fieldsOf,Tryz.underlying56]
 have hq_R: ∀ w,(Op.equalIn (d+4) 32 (.agg #[.int .i64 a.rect.c1,.int .i64 a.rect.r1,.int .i64 a.rect.c2,.int .i64 a.rect.r2]) (.agg #[.int .i64 b.rect.c1,.int .i64 b.rect.r1,.int .i64 b.rect.c2,.int .i64 b.rect.r2])).run Tryz.prog w= .ok (eqR a.rect b.rect) w:=fun w=>jr w (d+1) a.rect b.rect
 simp [Op.eqFields,bn,vS,part,go_sem,pN,rT,j6,j5,EM,hq_R]
 by_cases h1:eqR a.rect b.rect=true
 rotate_left
 ·
  simp [h1]
 by_cases h2:a.fns=b.fns
 rotate_left
 ·
  simp [h1,h2]
 by_cases h3:a.to=b.to
 rotate_left
 ·
  simp [h1,h2,h3]
 by_cases h4:a.by_=b.by_
 rotate_left
 ·
  simp [h1,h2,h3,h4]
 by_cases h5:a.rev=b.rev
 rotate_left
 ·
  simp [h1,h2,h3,h4,h5]
 simp [h1,h2,h3,h4,h5]
def pJ (a b:Cl):Bool:=eqF a.at_ b.at_ && decide (a.node=b.node)
theorem qA {a b:Cl}:pJ a b=true↔a=b:=by
 obtain ⟨a0,a1⟩:=a
 obtain ⟨b0,b1⟩:=b
 simp [pJ,gR,jx,and_assoc]
instance:DecidableEq Cl:=fun a b=>decidable_of_iff (pJ a b=true) qA
theorem uT (w:World) (d:Nat) (a b:Cl):(Op.equalIn (d+5) 60 (.agg (qD a).toArray) (.agg (qD b).toArray)).run Tryz.prog w= .ok (pJ a b) w:=by
 rw [run_equalIn_agg w (d+4) 60 _ _ (by rw [Program.fieldsOf,Tryz.underlying60]) Tryz.stoodInHeld60]
 simp only [Program.fieldsOf,Tryz.underlying60]
 have hq_F: ∀ w,(Op.equalIn (d+4) 50 (.agg #[.int .i64 a.at_.col,.int .i64 a.at_.row]) (.agg #[.int .i64 b.at_.col,.int .i64 b.at_.row])).run Tryz.prog w= .ok (eqF a.at_ b.at_) w:=fun w=>qb w (d+1) a.at_ b.at_
 simp [Op.eqFields,qD,vS,part,go_sem,pN,rT,j6,j5,pJ,hq_F]
 by_cases h1:eqF a.at_ b.at_=true
 rotate_left
 ·
  simp [h1]
 by_cases h2:a.node=b.node
 rotate_left
 ·
  simp [h1,h2]
 simp [h1,h2]
def EN (a b:Ev):Bool:=decide (a.step=b.step) && decide (a.user=b.user) && decide (a.kind=b.kind) && eqR a.rect b.rect && decide (a.done=b.done) && decide (a.to=b.to)
theorem Cu {a b:Ev}:EN a b=true↔a=b:=by
 obtain ⟨a0,a1,a2,a3,a4,a5⟩:=a
 obtain ⟨b0,b1,b2,b3,b4,b5⟩:=b
 simp [EN,gR,jx,and_assoc]
instance:DecidableEq Ev:=fun a b=>decidable_of_iff (EN a b=true) Cu
theorem Lo (a b:Ev):EN a b=decide (a=b):=by
 rw [RP,Cu,decide_eq_true_iff]
theorem J6 (w:World) (d:Nat) (a b:Ev):(Op.equalIn (d+5) 58 (.agg (bf a).toArray) (.agg (bf b).toArray)).run Tryz.prog w= .ok (EN a b) w:=by
 rw [run_equalIn_agg w (d+4) 58 _ _ (by rw [Program.fieldsOf,Tryz.underlying58]) Tryz.stoodInHeld58]
 simp only [Program.fieldsOf,Tryz.underlying58]
 have hq_R: ∀ w,(Op.equalIn (d+4) 32 (.agg #[.int .i64 a.rect.c1,.int .i64 a.rect.r1,.int .i64 a.rect.c2,.int .i64 a.rect.r2]) (.agg #[.int .i64 b.rect.c1,.int .i64 b.rect.r1,.int .i64 b.rect.c2,.int .i64 b.rect.r2])).run Tryz.prog w= .ok (eqR a.rect b.rect) w:=fun w=>jr w (d+1) a.rect b.rect
 simp [Op.eqFields,bf,vS,part,go_sem,pN,rT,j6,j5,EN,hq_R]
 by_cases h1:a.step=b.step
 rotate_left
 ·
  simp [h1]
 by_cases h2:a.user=b.user
 rotate_left
 ·
  simp [h1,h2]
 by_cases h3:a.kind=b.kind
 rotate_left
 ·
  simp [h1,h2,h3]
 by_cases h4:eqR a.rect b.rect=true
 rotate_left
 ·
  simp [h1,h2,h3,h4]
 by_cases h5:a.done=b.done
 rotate_left
 ·
  simp [h1,h2,h3,h4,h5]
 by_cases h6:a.to=b.to
 rotate_left
 ·
  simp [h1,h2,h3,h4,h5,h6]
 simp [h1,h2,h3,h4,h5,h6]
def EJ (a b:Rv):Bool:=decide (a.step=b.step) && pJ a.call b.call && decide (a.fn=b.fn) && eqR a.rect b.rect && decide (a.grant=b.grant) && decide (a.to=b.to)
theorem Co {a b:Rv}:EJ a b=true↔a=b:=by
 obtain ⟨a0,a1,a2,a3,a4,a5⟩:=a
 obtain ⟨b0,b1,b2,b3,b4,b5⟩:=b
 simp [EJ,gR,jx,qA,and_assoc]
instance:DecidableEq Rv:=fun a b=>decidable_of_iff (EJ a b=true) Co
theorem Cp (a b:Rv):EJ a b=decide (a=b):=by
 rw [RP,Co,decide_eq_true_iff]
theorem J0 (w:World) (d:Nat) (a b:Rv):(Op.equalIn (d+7) 62 (.agg (aO a).toArray) (.agg (aO b).toArray)).run Tryz.prog w= .ok (EJ a b) w:=by
 rw [run_equalIn_agg w (d+6) 62 _ _ (by rw [Program.fieldsOf,Tryz.underlying62]) Tryz.stoodInHeld62]
 simp only [Program.fieldsOf,Tryz.underlying62]
 have hq_C: ∀ w,(Op.equalIn (d+6) 60 (.agg #[.int .i64 a.call.at_.col,.int .i64 a.call.at_.row,.int .i64 a.call.node]) (.agg #[.int .i64 b.call.at_.col,.int .i64 b.call.at_.row,.int .i64 b.call.node])).run Tryz.prog w= .ok (pJ a.call b.call) w:=fun w=>uT w (d+1) a.call b.call
 have hq_R: ∀ w,(Op.equalIn (d+6) 32 (.agg #[.int .i64 a.rect.c1,.int .i64 a.rect.r1,.int .i64 a.rect.c2,.int .i64 a.rect.r2]) (.agg #[.int .i64 b.rect.c1,.int .i64 b.rect.r1,.int .i64 b.rect.c2,.int .i64 b.rect.r2])).run Tryz.prog w= .ok (eqR a.rect b.rect) w:=fun w=>jr w (d+3) a.rect b.rect
 simp [Op.eqFields,aO,vS,part,go_sem,pN,rT,j6,j5,EJ,hq_C,hq_R]
 by_cases h1:a.step=b.step
 rotate_left
 ·
  simp [h1]
 by_cases h2:pJ a.call b.call=true
 rotate_left
 ·
  simp [h1,h2]
 by_cases h3:a.fn=b.fn
 rotate_left
 ·
  simp [h1,h2,h3]
 by_cases h4:eqR a.rect b.rect=true
 rotate_left
 ·
  simp [h1,h2,h3,h4]
 by_cases h5:a.grant=b.grant
 rotate_left
 ·
  simp [h1,h2,h3,h4,h5]
 by_cases h6:a.to=b.to
 rotate_left
 ·
  simp [h1,h2,h3,h4,h5,h6]
 simp [h1,h2,h3,h4,h5,h6]
def EL (a b:Ox):Bool:=decide (a.kind=b.kind) && decide (a.user=b.user) && eqR a.rect b.rect && decide (a.input=b.input) && (decide (a.rd=b.rd) && decide (a.wr=b.wr) && decide (a.ow=b.ow)) && decide (a.fns=b.fns) && decide (a.to=b.to) && decide (a.idx=b.idx)
theorem Cr {a b:Ox}:EL a b=true↔a=b:=by
 obtain ⟨a0,a1,a2,a3,a4,a5,a6,a7,a8,a9⟩:=a
 obtain ⟨b0,b1,b2,b3,b4,b5,b6,b7,b8,b9⟩:=b
 simp [EL,gR,jx,and_assoc]
instance:DecidableEq Ox:=fun a b=>decidable_of_iff (EL a b=true) Cr
theorem J2 (w:World) (d:Nat) (a b:Ox):(Op.equalIn (d+5) 37 (.agg (bO a).toArray) (.agg (bO b).toArray)).run Tryz.prog w= .ok (EL a b) w:=by
 rw [run_equalIn_agg w (d+4) 37 _ _ (by rw [Program.fieldsOf,Tryz.underlying37]) Tryz.stoodInHeld37]
 simp only [Program.fieldsOf,Tryz.underlying37]
 have hq_R: ∀ w,(Op.equalIn (d+4) 32 (.agg #[.int .i64 a.rect.c1,.int .i64 a.rect.r1,.int .i64 a.rect.c2,.int .i64 a.rect.r2]) (.agg #[.int .i64 b.rect.c1,.int .i64 b.rect.r1,.int .i64 b.rect.c2,.int .i64 b.rect.r2])).run Tryz.prog w= .ok (eqR a.rect b.rect) w:=fun w=>jr w (d+1) a.rect b.rect
 have hq_T: ∀ w,(Op.equalIn (d+4) 35 (.agg #[.int .u64 (a.rd.toNat:Int),.int .u64 (a.wr.toNat:Int),.int .u64 (a.ow.toNat:Int)]) (.agg #[.int .u64 (b.rd.toNat:Int),.int .u64 (b.wr.toNat:Int),.int .u64 (b.ow.toNat:Int)])).run Tryz.prog w= .ok (decide (a.rd=b.rd) && decide (a.wr=b.wr) && decide (a.ow=b.ow)) w:=fun w=>AL w (d+1) a.rd a.wr a.ow b.rd b.wr b.ow
 simp [Op.eqFields,bO,vS,part,go_sem,pN,rT,j6,j5,EL,hq_R,hq_T]
 by_cases h1:a.kind=b.kind
 rotate_left
 ·
  simp [h1]
 by_cases h2:a.user=b.user
 rotate_left
 ·
  simp [h1,h2]
 by_cases h3:eqR a.rect b.rect=true
 rotate_left
 ·
  simp [h1,h2,h3]
 by_cases h4:a.input=b.input
 rotate_left
 ·
  simp [h1,h2,h3,h4]
 by_cases h5:a.rd=b.rd
 rotate_left
 ·
  simp [h1,h2,h3,h4,h5]
 by_cases h6:a.wr=b.wr
 rotate_left
 ·
  simp [h1,h2,h3,h4,h5,h6]
 by_cases h7:a.ow=b.ow
 rotate_left
 ·
  simp [h1,h2,h3,h4,h5,h6,h7]
 by_cases h8:a.fns=b.fns
 rotate_left
 ·
  simp [h1,h2,h3,h4,h5,h6,h7,h8]
 by_cases h9:a.to=b.to
 rotate_left
 ·
  simp [h1,h2,h3,h4,h5,h6,h7,h8,h9]
 by_cases h10:a.idx=b.idx
 rotate_left
 ·
  simp [h1,h2,h3,h4,h5,h6,h7,h8,h9,h10]
 simp [h1,h2,h3,h4,h5,h6,h7,h8,h9,h10]
section
variable {w0:World} {s:az} {H:List Blk} {ty t' :TypeId} {x y:Operand}
theorem Mw {a b:Rl} (hx:ev s x=some (.agg (bu a).toArray)) (hy:ev s y=some (.agg (bu b).toArray)):VOp Tryz.prog w0 s H (.binOp .neq 54 x y t') ty (.bool (!EK a b)):=fun ρ w _ _ _ _ hρ _=>by
 have h:=J1 w 9995 a b
 simp only [Nat.reduceAdd] at h
 simp only [execOp,hρ x _ hx,hρ y _ hy,Sem.run_bind,run_eqGuard_agg w _ _ _ _ _ _ Tryz.eqGuardType54,Result.andThen_ok,run_neq_struct,h,Sem.run_pure]
theorem My {a b:Gn} (hx:ev s x=some (.agg (bn a).toArray)) (hy:ev s y=some (.agg (bn b).toArray)):VOp Tryz.prog w0 s H (.binOp .neq 56 x y t') ty (.bool (!EM a b)):=fun ρ w _ _ _ _ hρ _=>by
 have h:=J5 w 9995 a b
 simp only [Nat.reduceAdd] at h
 simp only [execOp,hρ x _ hx,hρ y _ hy,Sem.run_bind,run_eqGuard_agg w _ _ _ _ _ _ Tryz.eqGuardType56,Result.andThen_ok,run_neq_struct,h,Sem.run_pure]
theorem ME {a b:Cl} (hx:ev s x=some (.agg (qD a).toArray)) (hy:ev s y=some (.agg (qD b).toArray)):VOp Tryz.prog w0 s H (.binOp .eql 60 x y t') ty (.bool (pJ a b)):=fun ρ w _ _ _ _ hρ _=>by
 have h:=uT w 9995 a b
 simp only [Nat.reduceAdd] at h
 simp only [execOp,hρ x _ hx,hρ y _ hy,Sem.run_bind,run_eqGuard_agg w _ _ _ _ _ _ Tryz.eqGuardType60,Result.andThen_ok,run_eql_struct,h,Sem.run_pure]
theorem Mz {a b:Ev} (hx:ev s x=some (.agg (bf a).toArray)) (hy:ev s y=some (.agg (bf b).toArray)):VOp Tryz.prog w0 s H (.binOp .neq 58 x y t') ty (.bool (!EN a b)):=fun ρ w _ _ _ _ hρ _=>by
 have h:=J6 w 9995 a b
 simp only [Nat.reduceAdd] at h
 simp only [execOp,hρ x _ hx,hρ y _ hy,Sem.run_bind,run_eqGuard_agg w _ _ _ _ _ _ Tryz.eqGuardType58,Result.andThen_ok,run_neq_struct,h,Sem.run_pure]
theorem FG {a b:Rv} (hx:ev s x=some (.agg (aO a).toArray)) (hy:ev s y=some (.agg (aO b).toArray)):VOp Tryz.prog w0 s H (.binOp .neq 62 x y t') ty (.bool (!EJ a b)):=fun ρ w _ _ _ _ hρ _=>by
 have h:=J0 w 9993 a b
 simp only [Nat.reduceAdd] at h
 simp only [execOp,hρ x _ hx,hρ y _ hy,Sem.run_bind,run_eqGuard_agg w _ _ _ _ _ _ Tryz.eqGuardType62,Result.andThen_ok,run_neq_struct,h,Sem.run_pure]
theorem Mx {a b:Ox} (hx:ev s x=some (.agg (bO a).toArray)) (hy:ev s y=some (.agg (bO b).toArray)):VOp Tryz.prog w0 s H (.binOp .neq 37 x y t') ty (.bool (!EL a b)):=fun ρ w _ _ _ _ hρ _=>by
 have h:=J2 w 9995 a b
 simp only [Nat.reduceAdd] at h
 simp only [execOp,hρ x _ hx,hρ y _ hy,Sem.run_bind,run_eqGuard_agg w _ _ _ _ _ _ Tryz.eqGuardType37,Result.andThen_ok,run_neq_struct,h,Sem.run_pure]
end
theorem EP (L:List Rl): ∀ u∈L.flatMap bu,u.oneCell' =true:=fun u hu=>by
 obtain ⟨a,_,h⟩:=RY.1 hu
 simp only [bu,Rd,S0,or_false] at h
 rcases h with rfl|rfl|rfl|rfl|rfl|rfl|rfl<;>rfl
theorem ES (L:List Ev): ∀ u∈L.flatMap bf,u.oneCell' =true:=fun u hu=>by
 obtain ⟨a,_,h⟩:=RY.1 hu
 simp only [bf,Rd,S0,or_false] at h
 rcases h with rfl|rfl|rfl|rfl|rfl|rfl|rfl|rfl|rfl<;>rfl
theorem pM (L:List Rv): ∀ u∈L.flatMap aO,u.oneCell' =true:=fun u hu=>by
 obtain ⟨a,_,h⟩:=RY.1 hu
 simp only [aO,Rd,S0,or_false] at h
 rcases h with rfl|rfl|rfl|rfl|rfl|rfl|rfl|rfl|rfl|rfl|rfl<;>rfl
structure Ky where
 call:Cl
 fn:Int
 rect:Rct
 grant:Int
def nK (x:Ky):List Value:= [.int .i64 x.call.at_.col,.int .i64 x.call.at_.row,.int .i64 x.call.node,.int .u8 x.fn,.int .i64 x.rect.c1,.int .i64 x.rect.r1,.int .i64 x.rect.c2,.int .i64 x.rect.r2,.int .i64 x.grant]
@[reducible] def BV (a:Ky):Value:= .agg (nK a).toArray
def abt (x:Rv):Ky:=⟨x.call,x.fn,x.rect,x.grant⟩
def ID (a b:Ky):Bool:=pJ a.call b.call && decide (a.fn=b.fn) && eqR a.rect b.rect && decide (a.grant=b.grant)
theorem Cs {a b:Ky}:ID a b=true↔a=b:=by
 obtain ⟨a0,a1,a2,a3⟩:=a
 obtain ⟨b0,b1,b2,b3⟩:=b
 simp [ID,gR,qA,and_assoc]
instance:DecidableEq Ky:=fun a b=>decidable_of_iff (ID a b=true) Cs
theorem Lm (a b:Ky):ID a b=decide (a=b):=by
 rw [RP,Cs,decide_eq_true_iff]
theorem J3 (w:World) (d:Nat) (a b:Ky):(Op.equalIn (d+7) 173 (.agg (nK a).toArray) (.agg (nK b).toArray)).run Tryz.prog w= .ok (ID a b) w:=by
 rw [run_equalIn_agg w (d+6) 173 _ _ (by rw [Program.fieldsOf,Tryz.underlying173]) Tryz.stoodInHeld173]
 simp only [Program.fieldsOf,Tryz.underlying173]
 have hq_C: ∀ w,(Op.equalIn (d+6) 60 (.agg #[.int .i64 a.call.at_.col,.int .i64 a.call.at_.row,.int .i64 a.call.node]) (.agg #[.int .i64 b.call.at_.col,.int .i64 b.call.at_.row,.int .i64 b.call.node])).run Tryz.prog w= .ok (pJ a.call b.call) w:=fun w=>uT w (d+1) a.call b.call
 have hq_R: ∀ w,(Op.equalIn (d+6) 32 (.agg #[.int .i64 a.rect.c1,.int .i64 a.rect.r1,.int .i64 a.rect.c2,.int .i64 a.rect.r2]) (.agg #[.int .i64 b.rect.c1,.int .i64 b.rect.r1,.int .i64 b.rect.c2,.int .i64 b.rect.r2])).run Tryz.prog w= .ok (eqR a.rect b.rect) w:=fun w=>jr w (d+3) a.rect b.rect
 simp [Op.eqFields,nK,part,go_sem,pN,rT,j6,j5,ID,hq_C,hq_R]
 by_cases h1:pJ a.call b.call=true
 rotate_left
 ·
  simp [h1]
 by_cases h2:a.fn=b.fn
 rotate_left
 ·
  simp [h1,h2]
 by_cases h3:eqR a.rect b.rect=true
 rotate_left
 ·
  simp [h1,h2,h3]
 by_cases h4:a.grant=b.grant
 rotate_left
 ·
  simp [h1,h2,h3,h4]
 simp [h1,h2,h3,h4]
instance klaw_K:KLaw Tryz.prog 173 BV:={
 check:=fun e k w=>by
  have h: ∀ m,(Instr.checkKey e (m+4) 173 (.agg (nK k).toArray)).run Tryz.prog w= .ok () w:=fun m=>by
   simp [Instr.checkKey,nK,part,go_sem,Tryz.underlying173,Tryz.underlying32,Tryz.underlying60,Tryz.underlying50]
  exact h 9996
 find:=fun k es w=>by
  refine Qr Tryz.underlying173 (fun k e w=>by have h:=J3 w 9993 k e;rw [Lm] at h;exact h) (fun k es w h=> ?_) k es w
  have hu:=run_underlying (P:=Tryz.prog) (w:=w) Tryz.underlying173
  cases es with
  |nil=>simp only [Instr.findKey,Sl,Instr.findNow,Sem.run_bind,hu,Result.andThen_ok,Sem.run_pure,cy]
  |cons e es=>
   simp only [Rz] at h ⊢
   simp only [Instr.findKey,Instr.findNow,eB,Instr.sameNow,Sem.run_bind,hu,Result.andThen_ok]
   exact h
 stays:=fun k w=>by
  have h:Instr.sameBits 10000 (.agg (nK k).toArray) (.agg (nK k).toArray)=true:=by
   have h: ∀ m,Instr.sameBits (m+1) (.agg (nK k).toArray) (.agg (nK k).toArray)=true:=fun m=>by simp [Instr.sameBits,nK]
   exact h 9999
  simp only [Instr.keyThatStays,h,if_true,Sem.run_pure] }
structure SetK {κ:Type} (es:List (κ × Value × Nat)) (S:List κ):Prop where
 mem: ∀ k,k∈es.map (fun e=>e.1)↔k∈S
 val: ∀ e∈es,e.2.1= .bool true
theorem rO {κ:Type} [DecidableEq κ] (k:κ): ∀ (es:List (κ × Value × Nat)) (i:Nat),k∈es.map (fun e=>e.1)→ ∃ j v,cy k es i=some (j,v)∧ ∃ e∈es,e.2.1=v
 | [],_,h=>by cases h
 |e::es,i,h=>by
  rw [cy]
  by_cases he:k=e.1
  ·
   rw [if_pos he];exact ⟨_,_,rfl,e,QT ..,rfl⟩
  ·
   rw [if_neg he]
   rw [Rz,Rd] at h
   obtain ⟨j,v,h1,e',h2,h3⟩:=rO k es (i+1) (h.resolve_left he)
   exact ⟨j,v,h1,e',Rc _ h2,h3⟩
theorem rN {κ:Type} [DecidableEq κ] (k:κ): ∀ (es:List (κ × Value × Nat)) (i:Nat),k∉es.map (fun e=>e.1)→cy k es i=none
 | [],_,_=>rfl
 |e::es,i,h=>by
  rw [Rz,Rd,not_or] at h
  rw [cy,if_neg h.1]
  exact rN k es (i+1) h.2
theorem SetK.nil {κ:Type}:SetK ([]:List (κ × Value × Nat)) []:=⟨fun _=>Iff.rfl,fun _ h=>by cases h⟩
theorem SetK.look {κ:Type} [DecidableEq κ] {es:List (κ × Value × Nat)} {S:List κ} (h:SetK es S) (k:κ):(match cy k es 0 with|some (_,v)=>v|none=>Value.bool false)= .bool (decide (k∈S)):=by
 by_cases hk:k∈S
 ·
  obtain ⟨j,v,h1,e,h2,h3⟩:=rO k es 0 ((h.mem k).2 hk)
  rw [h1,decide_eq_true hk]
  dsimp only
  rw [← h3,h.val e h2]
 ·
  rw [rN k es 0 (fun hm=>hk ((h.mem k).1 hm)),decide_eq_false hk]
theorem SetK.put {κ:Type} [DecidableEq κ] {es:List (κ × Value × Nat)} {S:List κ} (h:SetK es S) (k:κ) (clock:Nat):SetK (nu k (.bool true) clock es).1 (S++ [k]):=by
 unfold nu
 by_cases hk:k∈es.map (fun e=>e.1)
 ·
  obtain ⟨j,v,h1, -⟩:=rO k es 0 hk
  rw [h1]
  dsimp only
  obtain ⟨b,_,hb⟩:=lz h1
  rw [SK] at hb
  have hmap:(es.modify j fun e=>(k,Value.bool true,e.2.2)).map (fun e=>e.1)=es.map (fun e=>e.1):=by
   apply TQ
   intro i
   rw [RM,RM,TX]
   by_cases e:j=i
   ·
    subst e;rw [hb];simp
   ·
    simp [e]
  refine ⟨fun x=> ?_,fun e he=> ?_⟩
  ·
   rw [hmap,h.mem,Rs,RA]
   exact ⟨.inl,fun hh=>hh.elim id fun e=>e ▸ (h.mem k).1 hk⟩
  ·
   obtain ⟨i,hi,rfl⟩:=TD.1 he
   rw [List.getElem_modify]
   split
   ·
    rfl
   ·
    exact h.val _ (RQ _)
 ·
  rw [rN k es 0 hk]
  dsimp only
  refine ⟨fun x=> ?_,fun e he=> ?_⟩
  ·
   rw [RX,Rs,h.mem,Rs]
   exact Iff.rfl
  ·
   rcases Rs.1 he with he|he
   ·
    exact h.val e he
   ·
    rw [RA.1 he]
def dL (L M:List Rv):List Rv:=L.filter fun x=> !decide (abt x∈M.map abt)
end Go.SL

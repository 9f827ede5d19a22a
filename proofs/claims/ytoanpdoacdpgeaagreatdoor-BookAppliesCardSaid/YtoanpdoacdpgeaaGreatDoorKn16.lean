/-
  Lemmas and walks, put together: Pg Hc Hd.
-/
import Derived.Ground.SlgmProg
import Derived.Shelf.SortM.Plain
import Derived.Shelf.SortM.SortNone
import Derived.Test.YtoanpdoacdpgeaaGreatDoorKn12
set_option linter.unusedSimpArgs false
set_option linter.unusedVariables false
set_option maxRecDepth 20000
namespace Go.SL
open Go
structure Rl where
 rect:Rct
 read:BitVec 64
 write:BitVec 64
 own:BitVec 64
def aV (r:Rl):List Value:= [.int .i64 r.rect.c1,.int .i64 r.rect.r1,.int .i64 r.rect.c2,.int .i64 r.rect.r2,vS r.read,vS r.write,vS r.own]
theorem cI (r:Rl):(aV r).length=7:=rfl
structure Gn where
 rect:Rct
 fns:Int
 to:BitVec 64
 by_:Int
 rev:Bool
def aW (g:Gn):List Value:= [.int .i64 g.rect.c1,.int .i64 g.rect.r1,.int .i64 g.rect.c2,.int .i64 g.rect.r2,.int .u8 g.fns,vS g.to,.int .i64 g.by_,.bool g.rev]
theorem bW (g:Gn):(aW g).length=8:=rfl
def Fh (x:Int):List Int→List Int
 | []=> [x]
 |y::l=>if x≤y then x::y::l else y::Fh x l
def ry (l:List Int):List Int:=l.foldr Fh []
def iM (l:List Int):List Int:=l.mergeSort fun x y=>decide (x≤y)
theorem p7 (x:Int): ∀ l:List Int,(Fh x l).Perm (x::l)
 | []=> .refl _
 |y::l=>by
  rw [Fh];split
  ·
   exact .refl _
  ·
   exact ((p7 x l).cons y).trans (.swap x y l)
theorem qE (x:Int): ∀ {l:List Int},l.Pairwise (· ≤ ·)→(Fh x l).Pairwise (· ≤ ·)
 | [],_=>Pk _ _
 |y::l,h=>by
  have h1:=NR.1 h
  rw [Fh];split
  ·
   rename_i hxy
   refine NR.2 ⟨fun z hz=> ?_,h⟩
   rcases NA.1 hz with rfl|hz
   ·
    exact hxy
   ·
    exact Int.le_trans hxy (h1.1 z hz)
  ·
   refine NR.2 ⟨fun z hz=> ?_,qE x h1.2⟩
   rcases NA.1 ((p7 x l).mem_iff.1 hz) with rfl|hz
   ·
    omega
   ·
    exact h1.1 z hz
theorem oZ: ∀ l:List Int,(ry l).Perm l
 | []=> .refl _
 |x::l=>(p7 x _).trans ((oZ l).cons x)
theorem l3: ∀ l:List Int,(ry l).Pairwise (· ≤ ·)
 | []=> .nil
 |x::l=>qE x (l3 l)
theorem gR (l:List Int):(iM l).Perm l:=List.mergeSort_perm _ _
theorem oG (l:List Int):(iM l).Pairwise (· ≤ ·):=by
 have h:=List.pairwise_mergeSort (le:=fun x y:Int=>decide (x≤y)) (fun a b c h1 h2=>by simp only [decide_eq_true_eq] at*;omega) (fun a b=>by simp only [OX,decide_eq_true_eq];omega) l
 exact h.imp fun h=>by simpa using h
theorem mR: ∀ {l m:List Int},l.Pairwise (· ≤ ·)→m.Pairwise (· ≤ ·)→l.Perm m→l=m
 | [],m,_,_,h=>(List.nil_perm.1 h).symm
 |a::l,[],_,_,h=>absurd h.length_eq (by simp)
 |a::l,b::m,h1,h2,h=>by
  have k1:=NR.1 h1
  have k2:=NR.1 h2
  have hab:a=b:=by
   have ha:a∈b::m:=h.mem_iff.1 Nj
   have hb:b∈a::l:=h.mem_iff.2 Nj
   rcases NA.1 ha with e|ha
   ·
    exact e
   ·
    rcases NA.1 hb with e|hb
    ·
     exact e.symm
    ·
     have:=k2.1 a ha
     have:=k1.1 b hb
     omega
  subst hab
  rw [mR k1.2 k2.2 ((List.perm_cons a).1 h)]
theorem GI (l:List Int):iM l=ry l:=mR (oG l) (l3 l) ((gR l).trans (oZ l).symm)
def fO:List Int→List Int
 | []=> []
 |a::l=>if l.head? =some a then fO l else a::fO l
theorem ww (x:Int): ∀ l:List Int,fO (l++ [x])=if l.getLast? =some x then fO l else fO l++ [x]
 | []=>by simp [fO]
 | [a]=>by
  by_cases h:x=a
  ·
   subst h;simp [fO]
  ·
   have h2: ¬ a=x:=fun e=>h e.symm
   simp [fO,h,h2]
 |a::b::l=>by
  have ih:=ww x (b::l)
  have h0: ∀ l,fO (a::l)=if l.head? =some a then fO l else a::fO l:=fun _=>rfl
  have hh:(b::l++ [x]).head? =(b::l).head? :=rfl
  rw [List.getLast?_cons_cons,Nf,h0,h0,hh,ih]
  by_cases h1:(b::l).head? =some a
  ·
   simp only [h1,if_true]
  ·
   simp only [h1,if_false];split<;>rfl
theorem wu {L:List Int} {j:Nat} (h:j<L.length) (h0:0<j):fO (L.take (j+1))=if L[j]=L[j - 1] then fO (L.take j) else fO (L.take j)++ [L[j]]:=by
 have h1:L.take (j+1)=L.take j++ [L[j]]:=by rw [Nk h]
 have h2:(L.take j).getLast? =some L[j - 1]:=by
  rw [P0,Nu,O1 (by omega),O5 (by omega),Nc (by omega)]
 rw [h1,ww,h2]
 simp only [Option.some.injEq,eq_comm]
theorem AA {L:List Int} (h:L.length≤1):fO L=L:=by
 match L,h with
 | [],_=>rfl
 | [a],_=>rfl
theorem lT {x:Int}: ∀ {l:List Int},x∈fO l↔x∈l
 | []=>Iff.rfl
 |a::l=>by
  rw [fO]
  split
  ·
   rename_i h
   rw [lT (l:=l),NA]
   exact ⟨.inr,fun h2=>h2.elim (fun e=>by subst e;exact List.mem_of_mem_head? h) id⟩
  ·
   rw [NA,NA,lT (l:=l)]
theorem um: ∀ l:List Int,(fO l).length≤l.length
 | []=>Ni _
 |a::l=>by
  have:=um l
  rw [fO]
  split<;>simp only [NB]<;>omega
theorem qL: ∀ {l:List Int},l.Pairwise (· ≤ ·)→(fO l).Pairwise (· < ·)
 | [],_=> .nil
 |a::l,h=>by
  have h1:=NR.1 h
  have ih:=qL h1.2
  rw [fO]
  split
  ·
   exact ih
  ·
   rename_i hh
   refine NR.2 ⟨fun y hy=> ?_,ih⟩
   have hyl:=lT.1 hy
   have h2:=h1.1 y hyl
   by_cases e:a=y
   ·
    subst e
    cases l with
    |nil=>cases hyl
    |cons b l=>
     have h3:=h1.1 b Nj
     have h4:=NR.1 h1.2
     rcases NA.1 hyl with e|hm
     ·
      subst e;exact absurd rfl hh
     ·
      have h5:=h4.1 a hm
      have h6:b=a:=by omega
      subst h6;exact absurd rfl hh
   ·
    omega
def dE:List Int→Int→List (Int × Int)
 | [],_=> []
 | [x],h=> [(x,h)]
 |x::y::l,h=>(x,y - 1)::dE (y::l) h
theorem jE (x h:Int): ∀ l:List Int,dE (l++ [x]) h=dE l (x - 1)++ [(x,h)]
 | []=>rfl
 | [a]=>rfl
 |a::b::l=>by
  have ih:=jE x h (b::l)
  show (a,b - 1)::dE (b::l++ [x]) h=_
  rw [ih];rfl
theorem kQ (h:Int): ∀ l:List Int,(dE l h).length=l.length
 | []=>rfl
 | [a]=>rfl
 |a::b::l=>by
  have ih:=kQ h (b::l)
  show (dE (b::l) h).length+1=_
  rw [ih];rfl
theorem zx (l:List Int) (h h' :Int) (hl:l≠ []): ∃ f a,dE l h=f++ [(a,h)]∧dE l h' =f++ [(a,h')]:=by
 have e:=OT hl
 refine ⟨dE l.dropLast (l.getLast hl - 1),l.getLast hl,?_,?_⟩
 ·
  conv=>lhs;rw [← e]
  rw [jE]
 ·
  conv=>lhs;rw [← e]
  rw [jE]
def cZ (lo:Int) (ps:List (Int × Int)):List Int:=lo::ps.flatMap fun p=> [p.1,p.2+1]
def ui (lo hi:Int) (ps:List (Int × Int)):List Int:=(fO (iM (cZ lo ps))).filter fun x=>decide (lo≤x) && decide (x≤hi)
def cB (lo hi:Int) (ps:List (Int × Int)):List (Int × Int):=dE (ui lo hi ps) hi
theorem fZ {lo hi x:Int} {ps:List (Int × Int)}:x∈ui lo hi ps↔(x=lo∨ ∃ p∈ps,x=p.1∨x=p.2+1)∧lo≤x∧x≤hi:=by
 rw [ui,List.mem_filter,lT,(gR _).mem_iff,cZ,NA,NU]
 simp
theorem kY (lo hi:Int) (ps:List (Int × Int)):(ui lo hi ps).Pairwise (· < ·):=(qL (oG _)).filter _
theorem qM (lo:Int) (ps:List (Int × Int)):(cZ lo ps).length=1+2*ps.length:=by
 unfold cZ
 induction ps with
 |nil=>rfl
 |cons p ps ih=>simp only [Np,NB,Na,O4] at ih ⊢;omega
theorem ia (lo hi:Int) (ps:List (Int × Int)):(cB lo hi ps).length≤1+2*ps.length:=by
 rw [cB,kQ,ui]
 refine Nz (Pb _ _) (Nz (um _) ?_)
 rw [(gR _).length_eq,qM];exact Ni _
theorem mF: ∀ {l:List Int} {h:Int},l.Pairwise (· < ·)→(∀ x∈l,x≤h)→ ∀ {p:Int × Int},p∈dE l h→p.1∈l∧p.1≤p.2∧p.2≤h∧ ∀ x∈l,¬ (p.1<x∧x≤p.2)
 | [],h,_,_,p,hp=>by cases hp
 | [a],h,_,hx,p,hp=>by
  rw [NS.1 hp]
  have:=hx a (by simp)
  exact ⟨by simp,this,OH _,fun x hx=>by rw [NS.1 hx];simp only;omega⟩
 |a::b::l,h,hs,hx,p,hp=>by
  have h1:=NR.1 hs
  have hab:=h1.1 b Nj
  rcases NA.1 hp with rfl|hp
  ·
   refine ⟨Nj,by simp only;omega,by have:=hx b (by simp);simp only;omega,fun x hm=> ?_⟩
   simp only
   rcases NA.1 hm with rfl|hm
   ·
    omega
   ·
    rcases NA.1 hm with rfl|hm
    ·
     omega
    ·
     have:=(NR.1 h1.2).1 x hm;omega
  ·
   obtain ⟨k1,k2,k3,k4⟩:=mF h1.2 (fun x hm=>hx x (Nv _ hm)) hp
   refine ⟨Nv _ k1,k2,k3,fun x hm=> ?_⟩
   rcases NA.1 hm with rfl|hm
   ·
    have:=h1.1 p.1 k1;omega
   ·
    exact k4 x hm
theorem oS: ∀ {l:List Int} {h:Int},l.Pairwise (· < ·)→(∀ x∈l,x≤h)→(dE l h).Pairwise fun p q=>p.2<q.1
 | [],_,_,_=> .nil
 | [a],_,_,_=>Pk _ _
 |a::b::l,h,hs,hx=>by
  have h1:=NR.1 hs
  refine NR.2 ⟨fun q hq=> ?_,oS h1.2 fun x hm=>hx x (Nv _ hm)⟩
  have hq1:=(mF h1.2 (fun x hm=>hx x (Nv _ hm)) hq).1
  simp only
  rcases NA.1 hq1 with e|hm
  ·
   omega
  ·
   have:=(NR.1 h1.2).1 _ hm;omega
theorem qy: ∀ {l:List Int} {h v:Int},(∃ x∈l,x≤v)→v≤h→ ∃ p∈dE l h,p.1≤v∧v≤p.2
 | [],h,v,⟨x,hx,_⟩,_=>by cases hx
 | [a],h,v,⟨x,hx,h1⟩,h2=>by rw [NS.1 hx] at h1;exact ⟨(a,h),NS.2 rfl,h1,h2⟩
 |a::b::l,h,v,⟨x,hx,h1⟩,h2=>by
  by_cases hb: ∃ x∈b::l,x≤v
  ·
   obtain ⟨p,hp,h3⟩:=qy (h:=h) hb h2
   exact ⟨p,Nv _ hp,h3⟩
  ·
   rcases NA.1 hx with rfl|hx
   ·
    refine ⟨(x,b - 1),Nj,h1,?_⟩
    have: ¬ b≤v:=fun e=>hb ⟨b,Nj,e⟩
    simp only;omega
   ·
    exact absurd ⟨x,hx,h1⟩ hb
theorem eu {lo hi:Int} {ps:List (Int × Int)} {p:Int × Int} (hp:p∈cB lo hi ps):lo≤p.1∧p.1≤p.2∧p.2≤hi:=by
 obtain ⟨h1,h2,h3,_⟩:=mF (kY lo hi ps) (fun x hx=>(fZ.1 hx).2.2) hp
 exact ⟨(fZ.1 h1).2.1,h2,h3⟩
theorem pE (lo hi:Int) (ps:List (Int × Int)):(cB lo hi ps).Pairwise fun p q=>p.2<q.1:=oS (kY lo hi ps) fun x hx=>(fZ.1 hx).2.2
theorem qO {lo hi v:Int} {ps:List (Int × Int)} (h1:lo≤v) (h2:v≤hi): ∃ p∈cB lo hi ps,p.1≤v∧v≤p.2:=
 qy ⟨lo,fZ.2 ⟨.inl rfl,OH _,by omega⟩,h1⟩ h2
theorem wB {lo hi:Int} {ps:List (Int × Int)} {p q:Int × Int} (hp:p∈cB lo hi ps) (hq:q∈ps) (h1:q.1≤p.2) (h2:p.1≤q.2):q.1≤p.1∧p.2≤q.2:=by
 obtain ⟨k1,k2,k3,k4⟩:=mF (kY lo hi ps) (fun x hx=>(fZ.1 hx).2.2) hp
 have k5:=(fZ.1 k1).2.1
 constructor
 ·
  refine Int.not_lt.1 fun hlt=>k4 q.1 (fZ.2 ⟨.inr ⟨q,hq,.inl rfl⟩,by omega,by omega⟩) ⟨hlt,h1⟩
 ·
  refine Int.not_lt.1 fun hlt=>k4 (q.2+1) (fZ.2 ⟨.inr ⟨q,hq,.inr rfl⟩,by omega,by omega⟩) ⟨by omega,by omega⟩
structure Pz where
 rect:Rct
 a:Nat
 b:Nat
def db (p:Pz):List Value:= [.int .i64 p.rect.c1,.int .i64 p.rect.r1,.int .i64 p.rect.c2,.int .i64 p.rect.r2,.int .i64 (p.a:Int),.int .i64 (p.b:Int)]
theorem cR (p:Pz):(db p).length=6:=rfl
def iX (a b:Rct):Bool:=(dN a b).2 && decide ((dN a b).1=a)
def lm (r:Rct) (L:List Rl):Nat→Nat
 |0=>0
 |n+1=>if iX r ((L[n]?.map (·.rect)).getD aO)=true then n else lm r L n
def gO (r:Rct) (L:List Rl):Nat:=lm r L L.length
theorem vo (r:Rct) (L:List Rl): ∀ n,lm r L n≤n - 1
 |0=>Ni _
 |n+1=>by
  rw [lm];split
  ·
   exact Ni _
  ·
   have:=vo r L n;omega
def aY (r:Rct) (L:List Rl):List (Int × Int):=L.flatMap fun x=>if (dN x.rect r).2=true then [((dN x.rect r).1.c1,(dN x.rect r).1.c2)] else []
def aX (r:Rct) (L:List Rl):List (Int × Int):=L.flatMap fun x=>if (dN x.rect r).2=true then [((dN x.rect r).1.r1,(dN x.rect r).1.r2)] else []
def lR (A B:List Rl) (y x:Int × Int):Pz:=⟨⟨x.1,y.1,x.2,y.2⟩,gO ⟨x.1,y.1,x.2,y.2⟩ A,gO ⟨x.1,y.1,x.2,y.2⟩ B⟩
def jt (l:List Pz) (p:Pz):List Pz:=match l.getLast? with
 |some q=>if q.a=p.a∧q.b=p.b then l.dropLast++ [⟨⟨q.rect.c1,q.rect.r1,p.rect.c2,q.rect.r2⟩,q.a,q.b⟩] else l++ [p]
 |none=> [p]
def jp (A B:List Rl) (y:Int × Int) (xs:List (Int × Int)):List Pz:=xs.foldl (fun l x=>jt l (lR A B y x)) []
theorem kn {A B:List Rl} {y:Int × Int} {xs:List (Int × Int)} {x:Int × Int}:jp A B y (xs++ [x])=jt (jp A B y xs) (lR A B y x):=by
 unfold jp;rw [P2];rfl
def dD (r:Rct) (A B:List Rl):List Pz:=(cB r.r1 r.r2 (aX r A++aX r B)).flatMap fun y=>jp A B y (cB r.c1 r.c2 (aY r A++aY r B))
def ja (l:List (BitVec 64)):BitVec 64:=l.foldl (· &&& ·) (BitVec.allOnes 64)
def u5 (f:Rl→BitVec 64) (r:Rct) (L:List Rl):BitVec 64:=ja ((dD r L []).map fun p=>(L[p.a]?.map f).getD 0#64)
theorem wE {l:List (BitVec 64)} {x:BitVec 64}:ja (l++ [x])=ja l &&& x:=by unfold ja;rw [P2];rfl
end Go.SL
namespace Go.Proofs
open Go Go.Shelf Go.RowKit Go.Lib Go.Sort Go.SL
def Tryz.sortIn_ren:Go.Shelf.Ren:=⟨fun|5=>230|8=>202|7=>278|19=>252|20=>253|10=>308|11=>309|12=>310|13=>311|14=>312|15=>313|16=>314|17=>315|18=>316|30=>339|31=>293|32=>294|33=>340|34=>341|35=>342|40=>358|n=>n,fun|23=>75|25=>3|3=>3|32=>196|22=>75|0=>0|44=>310|46=>33|4=>4|36=>303|35=>302|41=>307|5=>5|9=>9|53=>340|57=>344|63=>370|64=>367|n=>n,fun|n=>n⟩
theorem Tryz.sortIn:Go.Proofs.SlLaysM.n5 Tryz.prog Tryz.sortIn_ren:={
 mixed:=by kernel_rfl
 f5:=⟨Tryz.f230.name,by decide,Tryz.func230.trans (congrArg some (by kernel_rfl))⟩
 f7:=⟨Tryz.f278.name,by decide,Tryz.func278.trans (congrArg some (by kernel_rfl))⟩
 f8:=Tryz.func202.trans (congrArg some (by kernel_rfl))
 f10:=⟨Tryz.f308.name,by decide,Tryz.func308.trans (congrArg some (by kernel_rfl))⟩
 f11:=⟨Tryz.f309.name,by decide,Tryz.func309.trans (congrArg some (by kernel_rfl))⟩
 f12:=⟨Tryz.f310.name,by decide,Tryz.func310.trans (congrArg some (by kernel_rfl))⟩
 f13:=⟨Tryz.f311.name,by decide,Tryz.func311.trans (congrArg some (by kernel_rfl))⟩
 f14:=⟨Tryz.f312.name,by decide,Tryz.func312.trans (congrArg some (by kernel_rfl))⟩
 f15:=⟨Tryz.f313.name,by decide,Tryz.func313.trans (congrArg some (by kernel_rfl))⟩
 f16:=⟨Tryz.f314.name,by decide,Tryz.func314.trans (congrArg some (by kernel_rfl))⟩
 f17:=⟨Tryz.f315.name,by decide,Tryz.func315.trans (congrArg some (by kernel_rfl))⟩
 f18:=⟨Tryz.f316.name,by decide,Tryz.func316.trans (congrArg some (by kernel_rfl))⟩
 f19:=Tryz.func252.trans (congrArg some (by kernel_rfl))
 f20:=Tryz.func253.trans (congrArg some (by kernel_rfl))
 f30:=⟨Tryz.f339.name,by decide,Tryz.func339.trans (congrArg some (by kernel_rfl))⟩
 f31:=Tryz.func293.trans (congrArg some (by kernel_rfl))
 f32:=Tryz.func294.trans (congrArg some (by kernel_rfl))
 f33:=⟨Tryz.f340.name,by decide,Tryz.func340.trans (congrArg some (by kernel_rfl))⟩
 f34:=⟨Tryz.f341.name,by decide,Tryz.func341.trans (congrArg some (by kernel_rfl))⟩
 f35:=⟨Tryz.f342.name,by decide,Tryz.func342.trans (congrArg some (by kernel_rfl))⟩
 f40:=⟨Tryz.f358.name,by decide,Tryz.func358.trans (congrArg some (by kernel_rfl))⟩
 t0:=Tryz.underlying0
 a0:=Tryz.isAgg0
 z0:=Tryz.sizeOf0
 v0:=Tryz.zeroValue0
 t3:=Tryz.underlying3
 a3:=Tryz.isAgg3
 z3:=Tryz.sizeOf3
 v3:=Tryz.zeroValue3
 t4:=Tryz.underlying4
 a4:=Tryz.isAgg4
 z4:=Tryz.sizeOf4
 v4:=Tryz.zeroValue4
 t5:=Tryz.underlying5
 a5:=Tryz.isAgg5
 z5:=Tryz.sizeOf5
 v5:=Tryz.zeroValue5
 t9:=Tryz.underlying9
 a9:=Tryz.isAgg9
 z9:=Tryz.sizeOf9
 v9:=Tryz.zeroValue9
 t22:=Tryz.underlying75
 a22:=Tryz.isAgg75
 z22:=Tryz.sizeOf75
 v22:=Tryz.zeroValue75
 t23:=Tryz.underlying75
 a23:=Tryz.isAgg75
 z23:=Tryz.sizeOf75
 v23:=Tryz.zeroValue75
 t25:=Tryz.underlying3
 a25:=Tryz.isAgg3
 z25:=Tryz.sizeOf3
 v25:=Tryz.zeroValue3
 t32:=Tryz.underlying196
 a32:=Tryz.isAgg196
 z32:=Tryz.sizeOf196
 v32:=Tryz.zeroValue196
 t35:=Tryz.underlying302
 a35:=Tryz.isAgg302
 z35:=Tryz.sizeOf302
 v35:=Tryz.zeroValue302
 t36:=Tryz.underlying303
 a36:=Tryz.isAgg303
 z36:=Tryz.sizeOf303
 v36:=Tryz.zeroValue303
 t41:=Tryz.underlying307
 a41:=Tryz.isAgg307
 z41:=Tryz.sizeOf307
 v41:=Tryz.zeroValue307
 t44:=Tryz.underlying310
 a44:=Tryz.isAgg310
 z44:=Tryz.sizeOf310
 v44:=Tryz.zeroValue310
 t46:=Tryz.underlying33
 a46:=Tryz.isAgg33
 z46:=Tryz.sizeOf33
 v46:=Tryz.zeroValue33
 t53:=Tryz.underlying340
 a53:=Tryz.isAgg340
 z53:=Tryz.sizeOf340
 v53:=Tryz.zeroValue340
 t57:=Tryz.underlying344
 a57:=Tryz.isAgg344
 z57:=Tryz.sizeOf344
 v57:=Tryz.zeroValue344
 t63:=Tryz.underlying370
 a63:=Tryz.isAgg370
 z63:=Tryz.sizeOf370
 v63:=Tryz.zeroValue370
 t64:=Tryz.underlying367
 a64:=Tryz.isAgg367
 z64:=Tryz.sizeOf367
 v64:=Tryz.zeroValue367 }
end Go.Proofs
namespace Go.SL
open Go Go.Proofs Go.Sort Go.Shelf
theorem yT {α:Type} [Inhabited α] {enc:α→Value} (w:World) (g n:Nat) (d:Array α) (os:Array Obj):w.grownBy (grow (putRow enc (Sort.ahead w n) g 0 d) os) (some g):={
 os:=rfl
 tape:=rfl
 output:=rfl
 size:=by
  show w.heap.size≤((w.heap.modify g _)++os).size
  rw [Array.size_append,Array.size_modify]
  omega
 block k hk hne:=by
  show ((w.heap.modify g _)++os)[k]? =_
  rw [OI (by rw [Array.size_modify];exact hk),PM,if_neg (fun e=>hne (by rw [e]))] }
theorem BM {α:Type} [Inhabited α] {enc:α→Value} (w:World) (g n:Nat) (d:Array α) (os:Array Obj) (c:Array Value) (T:TypeId) (fr:Nat × Nat) (h:w.heap[g]? =some (.cells c T fr)):
  (grow (putRow enc (Sort.ahead w n) g 0 d) os).heap[g]? =some (.cells (putCells enc 0 d c) T fr):=by
 have hlt:g<w.heap.size:=(NH.1 h).1
 show ((w.heap.modify g _)++os)[g]? =_
 rw [OI (by rw [Array.size_modify];exact hlt),PM,if_pos rfl,h]
 rfl
theorem Ce (L:List Int) (xs junk:List Value) (hl:xs.length=L.length):putCells cX 0 L.toArray (xs++junk).toArray=(L.map cX++junk).toArray:=by
 apply Array.ext_getElem?
 intro j
 simp only [putCells,Array.getElem?_mapIdx,NZ,PI,Ns,true_and,Ny,Pa]
 by_cases hj:j<L.length
 ·
  rw [OB (by omega),OB (by rw [Oi];omega),Om,Nc (by omega),Nc hj]
  simp [hj]
 ·
  rw [Ol (by omega),Ol (by rw [Oi];omega),hl,Oi]
  simp [hj]
set_option maxHeartbeats 1000000 in
theorem yS (L:List Int) (A:Option Nat) (cap:Nat) (hL:L.length≤1000000) (R:List Blk) (w0:World):
  FnIn Tryz.prog 230 [sl A L.length cap] w0 (.own A 3 1 L.length cap (L.map cX)::R) fun v H=>v= .tuple #[]∧H= .own A 3 1 L.length cap ((iM L).map cX)::R:=by
 have hl:(iM L).length=L.length:=(gR L).length_eq
 cases A with
 |none=>
  intro w hm
  obtain ⟨⟨h1,h2,h3,h4⟩,_⟩:=hm.on _ Nj
  obtain ⟨h5,h6⟩:=h4
  have hnil:L= []:=OV.1 h5
  subst hnil
  subst h6
  have he:iM []= []:=OV.1 hl
  refine Calls.mono (AnyM.slices_Sort_int_none Tryz.sortIn none 0 w) ?_
  rintro e w' ⟨rfl,rfl⟩
  exact ⟨_,_,rfl,hm,rfl,by rw [he]⟩
 |some g=>
  intro w hm
  obtain ⟨⟨h1,h2,h3,junk,h4,h5⟩,hkk⟩:=hm.on _ Nj
  have hlt:g<w.heap.size:=(NH.1 h5).1
  have hH:Holds cX w g 0 L.toArray:=by
   intro j hj
   simp only [PI] at hj
   have hc:(L.map cX++junk).toArray[j]? =some (cX L.toArray[j]!):=by
    rw [NZ,OB (by rw [Oi];exact hj),Om,Nc hj]
    simp [hj]
   constructor
   ·
    simp only [World.cell?,Ny,h5]
    exact hc
   ·
    simp [World.frozen?,h5]
  have hs:=AnyM.slices_Sort_int Tryz.sortIn g 0 cap L w hH hlt (by omega)
  refine hs.mono ?_
  rintro e w' ⟨rfl,n,os,rfl⟩
  refine ⟨_,_,rfl,hm.upd (yT _ _ _ _ _) (b' := .own (some g) 3 1 L.length cap ((iM L).map cX)) ?_ fun k hk=> .inl hk,rfl,rfl⟩
  refine ⟨by rw [Oi,hl,O6],h2,h3,junk,by rw [Na,Oi,hl,← O6 L.length,← h1,← Na];exact h4,?_⟩
  have h6:=BM (enc:=cX) w g n (iM L).toArray os _ _ _ h5
  rw [Ce (iM L) _ _ (by rw [hl,h1,O6])] at h6
  exact h6
end Go.SL
namespace Go.SL
open Go Go.Proofs
attribute [local irreducible] W WL WQ WG WA WX WLI WR WT WC WE VOp RW thn blk bE scp ba bo bL aP FnIn FnP ceP
theorem G5 {L:List Int} {k:Nat} (h:k<L.length):(L.map cX)[0+k*1]? =some (cX L[k]):=by
 rw [Ny,O6,Om,Nc h];rfl
theorem KR {L:List Int} {a k:Nat} (h:a+k<L.length):(L.map cX)[a*1+k*1]? =some (cX L[a+k]):=by
 rw [O6,O6,Om,Nc h];rfl
set_option maxHeartbeats 4000000 in
theorem AX (L:List Int) (A:Option Nat) (cap:Nat) (hL:L.length≤1000000) (R:List Blk) (w0:World):
    FnIn Tryz.prog 231 [sl A L.length cap] w0 (.own A 3 1 L.length cap (L.map cX)::R) fun v H=>v=sl A (fO L).length cap∧H= .own A 3 1 (fO L).length cap ((fO L).map cX)::R:=by
  refine dZ Tryz.func231 rfl Tryz.ntmps231 rfl ?_
  refine K7 (A:=A) .hd fun hle=> ?_
  by_cases h2:L.length<2
  · have hc:=AA (L:=L) (by omega)
    repeat' (first|refine sT ?_|refine sS ?_|refine sN ?_|refine sM fun _=> ?_|(refine sC ?_ ?_<;>intro hb<;>try omega)|fail)
    all_goals first
      |(exfalso;omega)
      |(refine cG eIO rfl rfl (.refl _) ?_;rw [hc];exact ⟨rfl,rfl⟩)
      |trace_state
  · refine eG (A:=A) .hd (by omega) fun g hA=> ?_
    subst hA
    repeat' (first|refine sT ?_|refine sS ?_|refine sN ?_|refine sM fun _=> ?_|(refine sC ?_ ?_<;>intro hb<;>try omega)|fail)
    all_goals try (exfalso;omega)
    refine ax [0] rfl (fun k:Nat=> [(3,.int .i64 (k:Int))]) (fun _=> .own (some g) 3 1 L.length cap (L.map cX)::R) (fun k=>1≤k∧k≤L.length∧fO (L.take k)=L.take k) (fun k=>L.length - k) 1 ⟨Ni _,by omega,AA (by rw [Nu];omega)⟩ sB mS ?_
    rintro k ⟨hk1,hk,hck⟩
    by_cases hlt:k<L.length
    · have hr1:=G5 hlt
      have hr2:=G5 (L:=L) (k:=k - 1) (by omega)
      have hst:=wu hlt hk1
      have htk:L.take (k+1)=L.take k++ [L[k]]:=by rw [Nk hlt]
      obtain ⟨c,hc⟩: ∃ c,decide (L[k]=L[k - 1])=c:=⟨_,rfl⟩
      cases c with
      |false=>
        have hne: ¬ L[k]=L[k - 1]:=by simpa using hc
        rw [if_neg hne,hck,← htk] at hst
        repeat' (first|(apply aS;exact rfl;apply dG;exact rfl;exact rfl;omega;(simp only [maxLen];omega))|(apply aS;exact rfl;apply aj (j:=k);exact rfl;exact rfl;omega)|(apply aS;exact rfl;apply aj (j:=k - 1);exact rfl;exact rfl;omega)|(apply aS;exact rfl;apply bN;exact rfl;exact pK;(first|exact hr1|exact hr2))|(apply aS;exact rfl;apply vw hc;exact rfl;exact rfl)|refine sT ?_|refine sS ?_|refine sQ ?_|refine sN ?_|refine sNQ ?_|refine sD ?_|refine sM fun _=> ?_|(refine sC ?_ ?_<;>intro hb<;>try omega)|(refine sCQ ?_ ?_<;>intro hb<;>try omega)|fail)
        all_goals first
          |(exfalso;omega)
          |(refine ⟨k+1,⟨by omega,hlt,hst⟩,by omega,by exact sB,by exact sB,by exact mS⟩;done)
          |trace_state
      |true=>
        have hne:L[k]=L[k - 1]:=by simpa using hc
        rw [if_pos hne,hck] at hst
        repeat' (first|(apply aS;exact rfl;apply dG;exact rfl;exact rfl;omega;(simp only [maxLen];omega))|(apply aS;exact rfl;apply aj (j:=k);exact rfl;exact rfl;omega)|(apply aS;exact rfl;apply aj (j:=k - 1);exact rfl;exact rfl;omega)|(apply aS;exact rfl;apply bN;exact rfl;exact pK;(first|exact hr1|exact hr2))|(apply aS;exact rfl;apply vw hc;exact rfl;exact rfl)|(apply ak;exact rfl;apply pN (lo:=k);exact rfl;exact rfl;omega;exact hle)|refine sT ?_|refine sS ?_|refine sQ ?_|refine sN ?_|refine sNQ ?_|refine sD ?_|refine sM fun _=> ?_|(refine sC ?_ ?_<;>intro hb<;>try omega)|(refine sCQ ?_ ?_<;>intro hb<;>try omega)|fail)
        all_goals try (exfalso;omega)
        refine ax [0,4] rfl (fun y:Nat × Nat × List Int=> [(5,.int .i64 (y.1:Int)),(3,.int .i64 (y.2.1:Int))]) (fun y=> .own (some g) 3 1 L.length cap (y.2.2.map cX)::R) (fun y=>1≤y.1∧k+y.1≤L.length∧y.2.1+1≤k+y.1∧y.2.2.length=L.length∧y.2.2.take y.2.1=fO (L.take (k+y.1))∧ ∀ j,k+y.1≤j+1→y.2.2[j]? =L[j]?) (fun y=>L.length - y.1) (1,k,L) ⟨Ni _,by omega,Ni _,rfl,hst.symm,fun _ _=>rfl⟩ sB mS ?_
        rintro ⟨i,k',ys⟩ ⟨hi1,hi2,hi3,hi4,hi5,hi6⟩
        dsimp only at hi1 hi2 hi3 hi4 hi5 hi6 ⊢
        by_cases hli:k+i<L.length
        · have hy1:k+i<ys.length:=by omega
          have hr3:=KR (L:=ys) (a:=k) (k:=i) hy1
          have hr4:=KR (L:=ys) (a:=k) (k:=i - 1) (by omega)
          have he1:ys[k+i]=L[k+i]:=by
            have:=hi6 (k+i) (by omega)
            rw [Nc hy1,Nc hli] at this
            exact Option.some.inj this
          have he2:ys[k+(i - 1)]=L[k+i - 1]:=by
            have:=hi6 (k+(i - 1)) (by omega)
            rw [Nc (by omega),Nc (by omega)] at this
            rw [Option.some.inj this]
            congr 1
            omega
          rw [he1] at hr3
          rw [he2] at hr4
          have hst2:=wu hli (by omega)
          obtain ⟨c,hc2⟩: ∃ c,decide (L[k+i]=L[k+i - 1])=c:=⟨_,rfl⟩
          cases c with
          |true=>
            rw [if_pos (by simpa using hc2)] at hst2
            repeat' (first|(apply aS;exact rfl;apply dG;exact rfl;exact rfl;omega;(simp only [maxLen];omega))|(apply aS;exact rfl;apply aj (j:=i);exact rfl;exact rfl;omega)|(apply aS;exact rfl;apply aj (j:=i - 1);exact rfl;exact rfl;omega)|(apply aS;exact rfl;apply bN;exact rfl;exact pK;(first|exact hr3|exact hr4))|(apply aS;exact rfl;apply vv hc2;exact rfl;exact rfl)|refine sT ?_|refine sS ?_|refine sQ ?_|refine sN ?_|refine sNQ ?_|refine sD ?_|refine sM fun _=> ?_|(refine sC ?_ ?_<;>intro hb<;>try omega)|(refine sCQ ?_ ?_<;>intro hb<;>try omega)|fail)
            all_goals first
              |(exfalso;omega)
              |(refine ⟨(i+1,k',ys),⟨by dsimp only;omega,by dsimp only;omega,by dsimp only;omega,hi4,by dsimp only;rw [hi5,← Nat.add_assoc,hst2],fun j hj=>hi6 j (by omega)⟩,by dsimp only;omega,by exact sB,by exact sB,by exact mS⟩;done)
              |trace_state
          |false=>
            rw [if_neg (by simpa using hc2)] at hst2
            have hput:(ys.map cX).set (0+k' *1) (cX L[k+i])=(ys.set k' L[k+i]).map cX:=by rw [Ny,O6,List.map_set]
            repeat' (first|(apply aS;exact rfl;apply dG;exact rfl;exact rfl;omega;(simp only [maxLen];omega))|(apply aS;exact rfl;apply aj (j:=i);exact rfl;exact rfl;omega)|(apply aS;exact rfl;apply aj (j:=i - 1);exact rfl;exact rfl;omega)|(apply aS;exact rfl;apply bN;exact rfl;exact pK;(first|exact hr3|exact hr4))|(apply aS;exact rfl;apply vv hc2;exact rfl;exact rfl)|(apply ak (d:=49);exact rfl;apply aj (j:=i);exact rfl;exact rfl;omega)|(apply ak (d:=51);exact rfl;apply aj (j:=k');exact rfl;exact rfl;omega)|(apply ak;exact rfl;apply bN;exact rfl;exact pK;exact hr3)|(apply dQ (v:=cX L[k+i]) (off:=0+k' *1);exact rfl;exact rfl;exact pK;exact rfl;(rw [Oi,hi4];omega);rw [hput])|refine sT ?_|refine sS ?_|refine sQ ?_|refine sN ?_|refine sNQ ?_|refine sD ?_|refine sM fun _=> ?_|(refine sC ?_ ?_<;>intro hb<;>try omega)|(refine sCQ ?_ ?_<;>intro hb<;>try omega)|fail)
            all_goals first
              |(exfalso;omega)
              | (refine ⟨(i + 1, k' + 1, ys.set k' L[k + i]), ⟨by dsimp only; omega, by dsimp only; omega, by dsimp only; omega, by dsimp only; rw [List.length_set, hi4], ?_, fun j hj => ?_⟩, by dsimp only; omega, by exact sB, by exact sB, by exact mS⟩
                 · dsimp only
                   rw [Nk (by rw [Ph];omega),List.take_set_of_le (Ni _),hi5,List.getElem_set_self,← OK,hst2]
                 · dsimp only at hj ⊢
                   rw [List.getElem?_set_ne (by omega)]
                   exact hi6 j (by omega))
              |trace_state
        · have hli2:k+i=L.length:=by omega
          rw [hli2,N0] at hi5
          have hcl:(fO L).length=k' :=by rw [← hi5,Nu,hi4];omega
          have hk'L:k' <L.length:=by omega
          repeat' (first|(apply ak;exact rfl;apply pN (lo:=k');exact rfl;exact rfl;omega;exact hle)|(apply yn (sz:=1) (k:=k') (n' :=L.length);exact rfl;omega;exact pK;(intro u hu;simp [Value.cells] at hu;subst hu;rfl);exact rfl)|(apply ak;exact rfl;apply vu (hi:=k');exact rfl;exact rfl;omega)|refine sT ?_|refine sS ?_|refine sN ?_|refine sM fun _=> ?_|(refine sC ?_ ?_<;>intro hb<;>try omega)|fail)
          all_goals first
            |(exfalso;omega)
            | (refine cG eIO rfl rfl (H' := .own (some g) 3 1 k' cap ((ys.map cX).take (k' * 1)) :: R) mS ?_
               rw [O6,← List.map_take,hi5,hcl]
               exact ⟨rfl,rfl⟩)
            |trace_state
    · have hkl:k=L.length:=by omega
      rw [hkl,N0] at hck
      repeat' (first|refine sT ?_|refine sS ?_|refine sN ?_|refine sM fun _=> ?_|(refine sC ?_ ?_<;>intro hb<;>try omega)|fail)
      all_goals first
        |(exfalso;omega)
        |(refine cG eIO rfl rfl (.refl _) ?_;rw [hck];exact ⟨rfl,rfl⟩)
        |trace_state
end Go.SL

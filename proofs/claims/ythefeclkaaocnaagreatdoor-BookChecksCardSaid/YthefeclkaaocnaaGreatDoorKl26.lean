/-
  Lemmas and walks, put together: Oq Pg2.
-/
import Derived.Test.YthefeclkaaocnaaGreatDoorKl19
import Derived.Test.YthefeclkaaocnaaGreatDoorKl20
import Derived.Test.YthefeclkaaocnaaGreatDoorKl25
set_option linter.unusedSimpArgs false
set_option linter.unusedVariables false
set_option maxRecDepth 20000
namespace Go.SL
open Go
def ofR (b:ByteArray):Mn × Int × Int:=
 if 256<b.size then (oE,0,5)
 else match (ap b).findIdx? (fun c=> !bp c) with
  |some i=>(oE,(i:Int),4)
  |none=>
   if (ap b).headD 0≠61 then (⟨false,sv b,[]⟩,0,0)
   else match cP (bG bz (ap (sub b 1 b.size))) ((sub b 1 b.size).size:Int) with
    |(t,at_,e)=>if e≠0 then (oE,IntKind.i64.wrap (at_+1),e) else (⟨true,bE,t⟩,0,0)
theorem wu {b:ByteArray} (h: ¬ 256<b.size) (hp:(ap b).findIdx? (fun c=> !bp c)=none):fV b=0:=by
 rw [MU] at hp
 unfold fV
 rw [kZ]
 have:(ap b).all bp=true:=by
  rw [MJ]
  intro c hc
  simpa using hp c hc
 simp [h,this]
theorem Ke (b:ByteArray):ofP b=ofR b:=by
 unfold ofP ofR
 by_cases h1:256<b.size
 ·
  rw [if_pos h1,if_pos h1]
 rw [if_neg h1,if_neg h1]
 cases hf:(ap b).findIdx? (fun c=> !bp c) with
 |some i=>rfl
 |none=>
  dsimp only
  have hq:ap eqB= [61]:=rfl
  have hs:eqB.size=1:=rfl
  have h61:(ap b).take 1= [61]↔(ap b).headD 0=61:=by cases ap b<;>simp
  have hcut:nZ b eqB=if (ap b).headD 0=61 then (sub b 1 b.size,true) else (b,false):=by
   unfold nZ
   rw [hq,hs]
   by_cases h:(ap b).headD 0=61
   ·
    rw [if_pos (h61.2 h),if_pos h]
   ·
    rw [if_neg (fun h' =>h (h61.1 h')),if_neg h]
  rw [hcut]
  by_cases h2:(ap b).headD 0=61
  ·
   rw [if_pos h2,if_neg (by simp),if_neg (show ¬ ((ap b).headD 0≠61) from fun h=>h h2),Aa]
  ·
   rw [if_neg h2,if_pos rfl,if_pos h2,Ei (wu h1 hf)]
theorem De {r:Rct} {L:List Rl} (h:L≠ []):gh r L<L.length:=by
 have:=tW r L L.length
 have h2:0<L.length:=Nc.2 h
 unfold gh;omega
theorem ku {r:Rct}:bi r=true↔1≤r.c1∧r.c1≤r.c2∧r.c2≤1024∧1≤r.r1∧r.r1≤r.r2∧r.r2≤1024:=by
 unfold bi valid
 simp only [LM,decide_eq_true_eq]
 omega
structure CellOf (r:Rct) (A B:List Rl) (y x:Int × Int):Prop where
 row:y∈cH r.r1 r.r2 (aX r A++aX r B)
 col:x∈cH r.c1 r.c2 (aY r A++aY r B)
def lu (y x:Int × Int):Rct:=⟨x.1,y.1,x.2,y.2⟩
theorem qg {α:Type} {p:List α→Prop} (h0:p []) (h1: ∀ l a,p l→p (l++ [a])) (l:List α):p l:=by
 have h: ∀ m:List α,p m.reverse:=fun m=>by
  induction m with
  |nil=>exact h0
  |cons a m ih=>rw [List.reverse_cons];exact h1 _ _ ih
 have:=h l.reverse
 rwa [List.reverse_reverse] at this
theorem Kl {l:List Pz} {p:Pz} {k:Nat}:k∈(iV l p).map (·.a)↔k∈l.map (·.a)∨k=p.a:=by
 unfold iV
 cases h:l.getLast? with
 |none=>
  rw [List.getLast?_eq_none_iff.1 h];simp
 |some q=>
  have hne:l≠ []:=fun e=>by rw [e] at h;cases h
  have hq:l.getLast hne=q:=by rw [List.getLast?_eq_some_getLast hne] at h;exact Option.some.inj h
  have he:=MZ hne
  rw [hq] at he
  dsimp only
  split
  ·
   rename_i hs
   rw [MT,Mo]
   conv=>rhs;rw [← he]
   rw [MT,Mo]
   simp only [Mh,MX,Mv]
   rw [← hs.1]
   exact ⟨.inl,fun h=>h.elim id .inr⟩
  ·
   rw [MT,Mo];simp
theorem Ju {A B:List Rl} {y:Int × Int} {k:Nat} (xs:List (Int × Int)):k∈(iS A B y xs).map (·.a)↔ ∃ x∈xs,k=(mM A B y x).a:=by
 induction xs using qg with
 |h0=>simp [iS]
 |h1 xs x ih=>
  rw [jM,Kl,ih]
  simp only [Mo,Mv]
  constructor
  ·
   rintro (⟨z,hz,h⟩|h)
   ·
    exact ⟨z,.inl hz,h⟩
   ·
    exact ⟨x,.inr rfl,h⟩
  ·
   rintro ⟨z,hz|rfl,h⟩
   ·
    exact .inl ⟨z,hz,h⟩
   ·
    exact .inr h
theorem IB {r:Rct} {A B:List Rl} {k:Nat}:k∈(dI r A B).map (·.a)↔ ∃ y x,CellOf r A B y x∧k=(mM A B y x).a:=by
 unfold dI
 rw [List.map_flatMap,MM]
 constructor
 ·
  rintro ⟨y,hy,h⟩
  obtain ⟨x,hx,h2⟩:=(Ju _).1 h
  exact ⟨y,x,⟨hy,hx⟩,h2⟩
 ·
  rintro ⟨y,x,h,h2⟩
  exact ⟨y,h.row,(Ju _).2 ⟨x,h.col,h2⟩⟩
def F5 (p q:Pz):Prop:=p.rect.r1<q.rect.r1∨(p.rect.r1=q.rect.r1∧p.rect.c1<q.rect.c1)
theorem Gj {l:List Pz} {p:Pz} {y c:Int} (hp:p.rect.r1=y) (hl: ∀ q∈l,q.rect.r1=y∧q.rect.c1<p.rect.c1) (hc:p.rect.c1≤c) (hs:l.Pairwise F5):(iV l p).Pairwise F5∧ ∀ q∈iV l p,q.rect.r1=y∧q.rect.c1≤c:=by
 unfold iV
 cases h:l.getLast? with
 |none=>
  exact ⟨Nv _ _,fun q hq=>by rw [Mv.1 hq];exact ⟨hp,hc⟩⟩
 |some q=>
  have hne:l≠ []:=fun e=>by rw [e] at h;cases h
  have hq:l.getLast hne=q:=by rw [List.getLast?_eq_some_getLast hne] at h;exact Option.some.inj h
  have he:=MZ hne
  rw [hq] at he
  have hql:q∈l:=by rw [← hq];exact List.getLast_mem hne
  dsimp only
  split
  ·
   rw [← he] at hs
   obtain ⟨s1,_,s3⟩:=M8.1 hs
   refine ⟨M8.2 ⟨s1,Nv _ _,fun a ha b hb=> ?_⟩,fun a ha=> ?_⟩
   ·
    rw [Mv.1 hb]
    exact s3 a ha q (Mv.2 rfl)
   ·
    rcases Mo.1 ha with ha|ha
    ·
     have:=hl a (List.dropLast_subset l ha);omega
    ·
     rw [Mv.1 ha]
     have:=hl q hql;simp only;omega
  ·
   refine ⟨M8.2 ⟨hs,Nv _ _,fun a ha b hb=> ?_⟩,fun a ha=> ?_⟩
   ·
    rw [Mv.1 hb]
    have:=hl a ha
    exact .inr ⟨by omega,this.2⟩
   ·
    rcases Mo.1 ha with ha|ha
    ·
     have:=hl a ha;omega
    ·
     rw [Mv.1 ha];exact ⟨hp,hc⟩
theorem mJ {A B:List Rl} {y:Int × Int} (xs:List (Int × Int)) (hs:xs.Pairwise fun p q=>p.1<q.1):(iS A B y xs).Pairwise F5∧ ∀ q∈iS A B y xs,q.rect.r1=y.1∧ ∃ x∈xs,q.rect.c1≤x.1:=by
 induction xs using qg with
 |h0=>exact ⟨.nil,fun q hq=>by cases hq⟩
 |h1 xs x ih=>
  obtain ⟨s1,_,s3⟩:=M8.1 hs
  obtain ⟨i1,i2⟩:=ih s1
  rw [jM]
  have:=Gj (l:=iS A B y xs) (p:=mM A B y x) (y:=y.1) (c:=x.1) rfl (fun q hq=>by
   obtain ⟨h1,z,hz,h2⟩:=i2 q hq
   have:=s3 z hz x (Mv.2 rfl)
   exact ⟨h1,by show q.rect.c1<x.1;omega⟩) (M7 _) i1
  exact ⟨this.1,fun q hq=>⟨(this.2 q hq).1,x,by simp,(this.2 q hq).2⟩⟩
theorem vZ (r:Rct) (A B:List Rl):(dI r A B).Pairwise F5:=by
 unfold dI
 have hx:(cH r.c1 r.c2 (aY r A++aY r B)).Pairwise fun p q=>p.1<q.1:=by
  refine (oq _ _ _).imp_of_mem fun {p q} hp _ h=> ?_
  have:=lW hp;omega
 have hy:(cH r.r1 r.r2 (aX r A++aX r B)).Pairwise fun p q=>p.1<q.1:=by
  refine (oq _ _ _).imp_of_mem fun {p q} hp _ h=> ?_
  have:=lW hp;omega
 generalize cH r.r1 r.r2 (aX r A++aX r B)=ys at hy
 generalize cH r.c1 r.c2 (aY r A++aY r B)=xs at hx
 induction ys with
 |nil=>exact .nil
 |cons y ys ih=>
  obtain ⟨k1,k2⟩:=Mg.1 hy
  rw [LR]
  refine M8.2 ⟨(mJ xs hx).1,ih k2,fun p hp q hq=> ?_⟩
  obtain ⟨z,hz,hq⟩:=MM.1 hq
  have h1:=((mJ (A:=A) (B:=B) (y:=y) xs hx).2 p hp).1
  have h2:=((mJ (A:=A) (B:=B) (y:=z) xs hx).2 q hq).1
  have h3:=k1 z hz
  exact .inl (by omega)
end Go.SL

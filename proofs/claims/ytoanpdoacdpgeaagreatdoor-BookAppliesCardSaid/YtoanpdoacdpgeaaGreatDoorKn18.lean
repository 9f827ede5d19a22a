/-
  Lemmas and walks, put together: Pg2 He Ua.
-/
import Derived.Test.YtoanpdoacdpgeaaGreatDoorKn14
import Derived.Test.YtoanpdoacdpgeaaGreatDoorKn16
set_option linter.unusedSimpArgs false
set_option linter.unusedVariables false
set_option maxRecDepth 20000
namespace Go.SL
open Go
def jI (a:Rf) (L:List Rl):Nat→Nat
 |0=>0
 |n+1=>if dx ((L[n]?.map (·.rect)).getD aO) a=true then n else jI a L n
def fL (L:List Rl) (a:Rf):Nat:=jI a L L.length
theorem zM (a:Rf) (L:List Rl): ∀ n,jI a L n≤n - 1
 |0=>Ni _
 |n+1=>by
  rw [jI];split
  ·
   exact Ni _
  ·
   have:=zM a L n;omega
theorem HO {a:Rf} {L:List Rl} (h:L≠ []):fL L a<L.length:=by
 have:=zM a L L.length
 have h2:0<L.length:=OM.2 h
 unfold fL;omega
theorem Ei {r:Rct} {L:List Rl} (h:L≠ []):gO r L<L.length:=by
 have:=vo r L L.length
 have h2:0<L.length:=OM.2 h
 unfold gO;omega
theorem cj {r:Rct}:aI r=true↔1≤r.c1∧r.c1≤r.c2∧r.c2≤1024∧1≤r.r1∧r.r1≤r.r2∧r.r2≤1024:=by
 unfold aI valid
 simp only [Nm,decide_eq_true_eq]
 omega
theorem cO {r:Rct} {a:Rf}:dx r a=true↔r.c1≤a.col∧a.col≤r.c2∧r.r1≤a.row∧a.row≤r.r2:=by
 unfold dx
 simp only [Nm,decide_eq_true_eq,and_assoc]
theorem lX (a b:Rct):(gL a b).c1=max a.c1 b.c1:=by unfold gL;simp only;split<;>omega
theorem lV (a b:Rct):(gL a b).r1=max a.r1 b.r1:=by unfold gL;simp only;split<;>omega
theorem lW (a b:Rct):(gL a b).c2=min a.c2 b.c2:=by unfold gL;simp only;split<;>omega
theorem lU (a b:Rct):(gL a b).r2=min a.r2 b.r2:=by unfold gL;simp only;split<;>omega
theorem vV {a b:Rct} (ha:aI a=true) (hb:aI b=true) {x:Rf} (h1:dx a x=true) (h2:dx b x=true):dN a b=(gL a b,true):=by
 unfold dN
 rw [if_pos]
 simp only [Pm,List.all_nil,ha,hb,NX,NI]
 rw [cj] at*
 rw [cO] at h1 h2
 rw [lX,lV,lW,lU]
 omega
theorem Rct.ext' {a b:Rct} (h1:a.c1=b.c1) (h2:a.r1=b.r1) (h3:a.c2=b.c2) (h4:a.r2=b.r2):a=b:=by
 cases a;cases b;simp only at*;subst h1 h2 h3 h4;rfl
theorem Cy {c R:Rct} (hc:aI c=true) (hR:aI R=true):iX c R=true↔R.c1≤c.c1∧c.c2≤R.c2∧R.r1≤c.r1∧c.r2≤R.r2:=by
 have hc' :=cj.1 hc
 constructor
 ·
  intro h
  unfold iX at h
  rw [Nm,decide_eq_true_eq] at h
  obtain ⟨h1,h2⟩:=h
  unfold dN at h1 h2
  split at h1
  ·
   rename_i hall
   rw [if_pos hall] at h2
   have e1:=congrArg Rct.c1 h2
   have e2:=congrArg Rct.r1 h2
   have e3:=congrArg Rct.c2 h2
   have e4:=congrArg Rct.r2 h2
   simp only [lX,lV,lW,lU] at e1 e2 e3 e4
   omega
  ·
   cases h1
 ·
  intro h
  have h1:dx c ⟨c.c1,c.r1⟩=true:=cO.2 (by simp only;omega)
  have h2:dx R ⟨c.c1,c.r1⟩=true:=cO.2 (by simp only;omega)
  unfold iX
  rw [vV hc hR h1 h2,Nm,decide_eq_true_eq]
  exact ⟨rfl,Rct.ext' (by rw [lX];omega) (by rw [lV];omega) (by rw [lW];omega) (by rw [lU];omega)⟩
structure CellOf (r:Rct) (A B:List Rl) (y x:Int × Int):Prop where
 row:y∈cB r.r1 r.r2 (aX r A++aX r B)
 col:x∈cB r.c1 r.c2 (aY r A++aY r B)
def eR (y x:Int × Int):Rct:=⟨x.1,y.1,x.2,y.2⟩
theorem CellOf.ok {r:Rct} {A B:List Rl} {y x:Int × Int} (h:CellOf r A B y x) (hr:aI r=true):aI (eR y x)=true:=by
 have h1:=eu h.row
 have h2:=eu h.col
 rw [cj] at*
 simp only [eR];omega
theorem CellOf.inside {r:Rct} {A B:List Rl} {y x:Int × Int} (h:CellOf r A B y x) (hr:aI r=true) {a:Rf} (ha:dx (eR y x) a=true) {R:Rl} (hm:R∈A∨R∈B) (hR:aI R.rect=true):iX (eR y x) R.rect=dx R.rect a:=by
 have h1:=eu h.row
 have h2:=eu h.col
 have ha' :=cO.1 ha
 simp only [eR] at ha'
 rw [NL,Cy (h.ok hr) hR,cO]
 simp only [eR]
 constructor
 ·
  intro h3;omega
 ·
  intro h3
  have har:dx r a=true:=cO.2 (by omega)
  have haR:dx R.rect a=true:=cO.2 h3
  have hmt:=vV hR hr haR har
  have hcol:((gL R.rect r).c1,(gL R.rect r).c2)∈aY r A++aY r B:=by
   rw [NJ]
   rcases hm with hm|hm
   ·
    exact .inl (NU.2 ⟨R,hm,by rw [hmt];simp⟩)
   ·
    exact .inr (NU.2 ⟨R,hm,by rw [hmt];simp⟩)
  have hrow:((gL R.rect r).r1,(gL R.rect r).r2)∈aX r A++aX r B:=by
   rw [NJ]
   rcases hm with hm|hm
   ·
    exact .inl (NU.2 ⟨R,hm,by rw [hmt];simp⟩)
   ·
    exact .inr (NU.2 ⟨R,hm,by rw [hmt];simp⟩)
  have k1:=wB h.col hcol (by simp only [lX];omega) (by simp only [lW];omega)
  have k2:=wB h.row hrow (by simp only [lV];omega) (by simp only [lU];omega)
  simp only [lX,lW,lV,lU] at k1 k2
  omega
theorem rN {c:Rct} {a:Rf} {L:List Rl} (h: ∀ R∈L,iX c R.rect=dx R.rect a): ∀ n,n≤L.length→lm c L n=jI a L n
 |0,_=>rfl
 |n+1,hn=>by
  have hlt:n<L.length:=by omega
  rw [lm,jI,Nc hlt,rN h n (by omega)]
  simp only [Oh,Pv]
  have e:=h _ (NW hlt)
  simp only [e]
theorem CellOf.which {r:Rct} {A B:List Rl} {y x:Int × Int} (h:CellOf r A B y x) (hr:aI r=true) (hA: ∀ R∈A,aI R.rect=true) {a:Rf} (ha:dx (eR y x) a=true):(lR A B y x).a=fL A a:=
 rN (fun R hR=>h.inside hr ha (.inl hR) (hA R hR)) _ (Ni _)
theorem rm {α:Type} {p:List α→Prop} (h0:p []) (h1: ∀ l a,p l→p (l++ [a])) (l:List α):p l:=by
 have h: ∀ m:List α,p m.reverse:=fun m=>by
  induction m with
  |nil=>exact h0
  |cons a m ih=>rw [List.reverse_cons];exact h1 _ _ ih
 have:=h l.reverse
 rwa [List.reverse_reverse] at this
theorem LQ {l:List Pz} {p:Pz} {k:Nat}:k∈(jt l p).map (·.a)↔k∈l.map (·.a)∨k=p.a:=by
 unfold jt
 cases h:l.getLast? with
 |none=>
  rw [List.getLast?_eq_none_iff.1 h];simp
 |some q=>
  have hne:l≠ []:=fun e=>by rw [e] at h;cases h
  have hq:l.getLast hne=q:=by rw [List.getLast?_eq_some_getLast hne] at h;exact Option.some.inj h
  have he:=OT hne
  rw [hq] at he
  dsimp only
  split
  ·
   rename_i hs
   rw [Ok,NJ]
   conv=>rhs;rw [← he]
   rw [Ok,NJ]
   simp only [NM,OD,NS]
   rw [← hs.1]
   exact ⟨.inl,fun h=>h.elim id .inr⟩
  ·
   rw [Ok,NJ];simp
theorem KO {A B:List Rl} {y:Int × Int} {k:Nat} (xs:List (Int × Int)):k∈(jp A B y xs).map (·.a)↔ ∃ x∈xs,k=(lR A B y x).a:=by
 induction xs using rm with
 |h0=>simp [jp]
 |h1 xs x ih=>
  rw [kn,LQ,ih]
  simp only [NJ,NS]
  constructor
  ·
   rintro (⟨z,hz,h⟩|h)
   ·
    exact ⟨z,.inl hz,h⟩
   ·
    exact ⟨x,.inr rfl,h⟩
  ·
   rintro ⟨z,hz|rfl,h⟩
   ·
    exact .inl ⟨z,hz,h⟩
   ·
    exact .inr h
theorem xu {r:Rct} {A B:List Rl} {k:Nat}:k∈(dD r A B).map (·.a)↔ ∃ y x,CellOf r A B y x∧k=(lR A B y x).a:=by
 unfold dD
 rw [List.map_flatMap,NU]
 constructor
 ·
  rintro ⟨y,hy,h⟩
  obtain ⟨x,hx,h2⟩:=(KO _).1 h
  exact ⟨y,x,⟨hy,hx⟩,h2⟩
 ·
  rintro ⟨y,x,h,h2⟩
  exact ⟨y,h.row,(KO _).2 ⟨x,h.col,h2⟩⟩
theorem AK {l:List (BitVec 64)} {i:Nat} (hi:i<64):(ja l).getLsbD i=true↔ ∀ x∈l,x.getLsbD i=true:=by
 have h: ∀ (l:List (BitVec 64)) (s:BitVec 64),(l.foldl (· &&& ·) s).getLsbD i=true↔s.getLsbD i=true∧ ∀ x∈l,x.getLsbD i=true:=by
  intro l
  induction l with
  |nil=>intro s;simp
  |cons a l ih=>
   intro s
   rw [O8,ih,PG,Nm]
   simp only [NA,forall_eq_or_imp,and_assoc]
 unfold ja
 rw [h,BitVec.getLsbD_allOnes]
 simp [hi]
theorem Hp {f:Rl→BitVec 64} {r:Rct} {L:List Rl} (hr:aI r=true) (hL: ∀ R∈L,aI R.rect=true) {i:Nat} (hi:i<64):
  (u5 f r L).getLsbD i=true↔ ∀ a,dx r a=true→((L[fL L a]?.map f).getD 0#64).getLsbD i=true:=by
 unfold u5
 rw [AK hi]
 have hm:(∀ x∈(dD r L []).map (fun p=>(L[p.a]?.map f).getD 0#64),x.getLsbD i=true)↔ ∀ k∈(dD r L []).map (·.a),((L[k]?.map f).getD 0#64).getLsbD i=true:=by
  simp only [OQ,forall_exists_index,and_imp,forall_apply_eq_imp_iff₂]
 rw [hm]
 constructor
 ·
  intro h a ha
  have ha' :=cO.1 ha
  obtain ⟨y,hy,hy1,hy2⟩:=qO (lo:=r.r1) (hi:=r.r2) (ps:=aX r L++aX r []) (v:=a.row) (by omega) (by omega)
  obtain ⟨x,hx,hx1,hx2⟩:=qO (lo:=r.c1) (hi:=r.c2) (ps:=aY r L++aY r []) (v:=a.col) (by omega) (by omega)
  have hc:CellOf r L [] y x:=⟨hy,hx⟩
  have hag:dx (eR y x) a=true:=cO.2 (by simp only [eR];omega)
  have:=h _ (xu.2 ⟨y,x,hc,rfl⟩)
  rwa [hc.which hr hL hag] at this
 ·
  intro h k hk
  obtain ⟨y,x,hc,rfl⟩:=xu.1 hk
  have hok:=cj.1 (hc.ok hr)
  have h1:=eu hc.row
  have h2:=eu hc.col
  simp only [eR] at hok
  have hag:dx (eR y x) ⟨x.1,y.1⟩=true:=cO.2 (by simp only [eR];omega)
  rw [hc.which hr hL hag]
  exact h ⟨x.1,y.1⟩ (cO.2 (by simp only;omega))
def HG (p q:Pz):Prop:=p.rect.r1<q.rect.r1∨(p.rect.r1=q.rect.r1∧p.rect.c1<q.rect.c1)
theorem HY {l:List Pz} {p:Pz} {y c:Int} (hp:p.rect.r1=y) (hl: ∀ q∈l,q.rect.r1=y∧q.rect.c1<p.rect.c1) (hc:p.rect.c1≤c) (hs:l.Pairwise HG):(jt l p).Pairwise HG∧ ∀ q∈jt l p,q.rect.r1=y∧q.rect.c1≤c:=by
 unfold jt
 cases h:l.getLast? with
 |none=>
  exact ⟨Pk _ _,fun q hq=>by rw [NS.1 hq];exact ⟨hp,hc⟩⟩
 |some q=>
  have hne:l≠ []:=fun e=>by rw [e] at h;cases h
  have hq:l.getLast hne=q:=by rw [List.getLast?_eq_some_getLast hne] at h;exact Option.some.inj h
  have he:=OT hne
  rw [hq] at he
  have hql:q∈l:=by rw [← hq];exact List.getLast_mem hne
  dsimp only
  split
  ·
   rw [← he] at hs
   obtain ⟨s1,_,s3⟩:=OY.1 hs
   refine ⟨OY.2 ⟨s1,Pk _ _,fun a ha b hb=> ?_⟩,fun a ha=> ?_⟩
   ·
    rw [NS.1 hb]
    exact s3 a ha q (NS.2 rfl)
   ·
    rcases NJ.1 ha with ha|ha
    ·
     have:=hl a (List.dropLast_subset l ha);omega
    ·
     rw [NS.1 ha]
     have:=hl q hql;simp only;omega
  ·
   refine ⟨OY.2 ⟨hs,Pk _ _,fun a ha b hb=> ?_⟩,fun a ha=> ?_⟩
   ·
    rw [NS.1 hb]
    have:=hl a ha
    exact .inr ⟨by omega,this.2⟩
   ·
    rcases NJ.1 ha with ha|ha
    ·
     have:=hl a ha;omega
    ·
     rw [NS.1 ha];exact ⟨hp,hc⟩
theorem nH {A B:List Rl} {y:Int × Int} (xs:List (Int × Int)) (hs:xs.Pairwise fun p q=>p.1<q.1):(jp A B y xs).Pairwise HG∧ ∀ q∈jp A B y xs,q.rect.r1=y.1∧ ∃ x∈xs,q.rect.c1≤x.1:=by
 induction xs using rm with
 |h0=>exact ⟨.nil,fun q hq=>by cases hq⟩
 |h1 xs x ih=>
  obtain ⟨s1,_,s3⟩:=OY.1 hs
  obtain ⟨i1,i2⟩:=ih s1
  rw [kn]
  have:=HY (l:=jp A B y xs) (p:=lR A B y x) (y:=y.1) (c:=x.1) rfl (fun q hq=>by
   obtain ⟨h1,z,hz,h2⟩:=i2 q hq
   have:=s3 z hz x (NS.2 rfl)
   exact ⟨h1,by show q.rect.c1<x.1;omega⟩) (OH _) i1
  exact ⟨this.1,fun q hq=>⟨(this.2 q hq).1,x,by simp,(this.2 q hq).2⟩⟩
theorem xq (r:Rct) (A B:List Rl):(dD r A B).Pairwise HG:=by
 unfold dD
 have hx:(cB r.c1 r.c2 (aY r A++aY r B)).Pairwise fun p q=>p.1<q.1:=by
  refine (pE _ _ _).imp_of_mem fun {p q} hp _ h=> ?_
  have:=eu hp;omega
 have hy:(cB r.r1 r.r2 (aX r A++aX r B)).Pairwise fun p q=>p.1<q.1:=by
  refine (pE _ _ _).imp_of_mem fun {p q} hp _ h=> ?_
  have:=eu hp;omega
 generalize cB r.r1 r.r2 (aX r A++aX r B)=ys at hy
 generalize cB r.c1 r.c2 (aY r A++aY r B)=xs at hx
 induction ys with
 |nil=>exact .nil
 |cons y ys ih=>
  obtain ⟨k1,k2⟩:=NR.1 hy
  rw [Np]
  refine OY.2 ⟨(nH xs hx).1,ih k2,fun p hp q hq=> ?_⟩
  obtain ⟨z,hz,hq⟩:=NU.1 hq
  have h1:=((nH (A:=A) (B:=B) (y:=y) xs hx).2 p hp).1
  have h2:=((nH (A:=A) (B:=B) (y:=z) xs hx).2 q hq).1
  have h3:=k1 z hz
  exact .inl (by omega)
end Go.SL
namespace Go.SL
open Go Go.Proofs
attribute [local irreducible] W WL WQ WG WA WX WLI WR WT WC WE VOp RW thn blk bE scp ba bo bL aP FnIn FnP ceP
def FC (p q:Pz):Int:=if p.rect.r1≠q.rect.r1 then p.rect.r1 - q.rect.r1 else p.rect.c1 - q.rect.c1
def sn (p:Pz):Prop:=0≤p.rect.r1∧p.rect.r1≤100000∧0≤p.rect.c1∧p.rect.c1≤100000
theorem Kv (p q:Pz) (hp:sn p) (hq:sn q) (w:World):ay Tryz.prog 185 [.agg (db p).toArray,.agg (db q).toArray] w (.int .i64 (FC p q)):=by
 refine aq Tryz.func185 rfl Tryz.ntmps185 rfl ?_
 obtain ⟨h1,h2,h3,h4⟩:=hp
 obtain ⟨h5,h6,h7,h8⟩:=hq
 repeat' (first|refine sT ?_|refine sJ ?_|refine sM fun _=> ?_|(refine sC ?_ ?_<;>intro hb<;>try omega)|fail)
 all_goals first
  |(exfalso;omega)
  |((refine rT1 ?_);rw [FC,if_pos hb];done)
  |((refine rT1 ?_);rw [FC,if_neg (fun h=>h hb)];done)
  |((refine rT1 ?_);rw [FC,if_neg (fun h=>hb h)];done)
  |trace_state
structure InZ (L:List Pz):Prop where
 sort:L.Pairwise HG
 small: ∀ p∈L,sn p
 len:L.length≤1000000
theorem InZ.cmp {L:List Pz} (h:InZ L) {i j:Nat} (hij:i≤j) (hj:j<L.length): ∃ z:Int,0≤z∧ ∀ w,ay Tryz.prog 185 [.agg (db L[j]).toArray,.agg (db (L[i]'(by omega))).toArray] w (.int .i64 z):=by
 refine ⟨_,?_,fun w=>Kv _ _ (h.small _ (NW hj)) (h.small _ (NW _)) w⟩
 by_cases e:i=j
 ·
  subst e;simp [FC]
 ·
  have:=List.pairwise_iff_getElem.1 h.sort i j (by omega) hj (by omega)
  unfold FC
  rcases this with h1|⟨h1,h2⟩
  ·
   rw [if_pos (by omega)];omega
  ·
   rw [if_neg (by omega)];omega
abbrev Kw:Value:= .func (.func 185) #[] #[]
set_option maxHeartbeats 4000000 in
theorem Ka (L:List Pz) (hL:InZ L) (lv:Value) (w:World) (hl:Reads w lv L.length (L.flatMap db)) (a b:Nat) (hb:b≤L.length) (ha:a≤L.length):
  ay Tryz.prog 279 [lv,.int .i64 (a:Int),.int .i64 (b:Int),Kw] w (.tuple #[]):=by
 obtain ⟨Al,cl,rfl,hl1,hl2,hl3⟩:=hl
 refine aq Tryz.func279 rfl Tryz.ntmps279 rfl ?_
 have hlen:=hL.len
 repeat' (first|refine sT ?_|refine sS ?_|refine sN ?_|refine sM fun _=> ?_|(refine sC ?_ ?_<;>intro hb<;>try omega)|fail)
 refine ax [0,1,2,3] rfl (fun i:Nat=> [(8,.int .i64 (i:Int))]) (fun _=> []) (fun i=>a+1≤i∧i≤max b (a+1)) (fun i=>max b (a+1) - i) (a+1) ⟨Ni _,by omega⟩ sB mS ?_
 rintro i ⟨hi,hi2⟩
 by_cases hlt:i<b
 ·
  obtain ⟨gl,ol,rfl,hrl⟩:=hl3 (by omega)
  obtain ⟨z,hz,hc⟩:=hL.cmp (i:=i - 1) (j:=i) (by omega) (by omega)
  have h1:=hrl.elem cR i (by omega)
  have h2:=hrl.elem cR (i - 1) (by omega)
  generalize L[i]'(by omega)=p at h1 hc
  generalize L[i - 1]'(by omega)=q at h2 hc
  repeat' (first|refine sT ?_|refine sS ?_|refine sN ?_|refine sM fun _=> ?_|(refine sC ?_ ?_<;>intro hb<;>try omega)|fail)
  all_goals try (exfalso;omega)
  refine ax [0,1,2,3,8] rfl (fun _:Unit=> [(9,.int .i64 (i:Int))]) (fun _=> []) (fun _=>True) (fun _=>0) () trivial sB mS ?_
  rintro _ _
  repeat' (first|(apply gh (id:=4);kernel_rfl;kernel_rfl)|(apply aS (d:=25);exact rfl;apply aj (j:=i);exact rfl;exact rfl;omega)|(apply aS (d:=30);exact rfl;apply aj (j:=i - 1);exact rfl;exact rfl;omega)|(apply aS (d:=26);exact rfl;apply aA (xs:=db p);exact rfl;exact h1;exact rfl)|(apply aS (d:=31);exact rfl;apply aA (xs:=db q);exact rfl;exact h2;exact rfl)|(apply gN;exact rfl;exact rfl;infer_instance;exact rfl;(intro w' _;exact hc w'))|refine sT ?_|refine sS ?_|refine sQ ?_|refine sN ?_|refine sNQ ?_|refine sO ?_|refine sOQ ?_|refine sD ?_|refine sM fun _=> ?_|(refine sC ?_ ?_<;>intro hb<;>try omega)|(refine sCQ ?_ ?_<;>intro hb<;>try omega)|fail)
  all_goals first
   |(exfalso;omega)
   |(refine ⟨i+1,⟨by omega,by omega⟩,by omega,by exact sB,by exact sB,by exact mS⟩;done)
   |trace_state
 ·
  repeat' (first|refine sT ?_|refine sS ?_|refine sM fun _=> ?_|(refine sC ?_ ?_<;>intro hb<;>try omega)|fail)
  all_goals first
   |(exfalso;omega)
   |(exact iB eIO rfl (MSub.nil _) rfl)
   |trace_state
end Go.SL
namespace Go.SL
open Go
def m9 (lo:Int) (B:List Int) (x:Int):Bool:=decide (x=lo)||decide (x∈B)
def pg (lo:Int) (B:List Int):Nat→List Int
 |0=> []
 |n+1=>pg lo B n++(if m9 lo B (lo+(n:Int))=true then [lo+(n:Int)] else [])
def p9 (lo hi:Int) (B:List Int):List Int:=pg lo B (hi+1 - lo).toNat
theorem jq {lo x:Int} {B:List Int}: ∀ {n:Nat},x∈pg lo B n↔lo≤x∧x<lo+(n:Int)∧m9 lo B x=true
 |0=>by simp only [pg,OL,false_iff];omega
 |n+1=>by
  rw [pg,NJ,jq]
  by_cases h:m9 lo B (lo+(n:Int))=true
  ·
   rw [if_pos h,NS]
   constructor
   ·
    rintro (⟨h1,h2,h3⟩|rfl)
    ·
     exact ⟨h1,by omega,h3⟩
    ·
     exact ⟨by omega,by omega,h⟩
   ·
    rintro ⟨h1,h2,h3⟩
    by_cases e:x=lo+(n:Int)
    ·
     exact .inr e
    ·
     exact .inl ⟨h1,by omega,h3⟩
  ·
   rw [if_neg h]
   simp only [OL,or_false]
   constructor
   ·
    rintro ⟨h1,h2,h3⟩;exact ⟨h1,by omega,h3⟩
   ·
    rintro ⟨h1,h2,h3⟩
    refine ⟨h1,?_,h3⟩
    by_cases e:x=lo+(n:Int)
    ·
     subst e;exact absurd h3 h
    ·
     omega
theorem uj {lo:Int} {B:List Int}: ∀ n:Nat,(pg lo B n).length≤n
 |0=>Ni _
 |n+1=>by
  rw [pg,Na]
  have:=uj (lo:=lo) (B:=B) n
  split
  ·
   simp only [NB,O4];omega
  ·
   simp only [O4];omega
theorem DX {lo:Int} {B:List Int}: ∀ n:Nat,∃ x,x∈pg lo B (n+1)∧x≤lo+(n:Int)∧ ∀ b∈B,¬ (x<b∧b≤lo+(n:Int))
 |0=>⟨lo,jq.2 ⟨OH _,by omega,by simp [m9]⟩,by omega,fun b _=>by omega⟩
 |n+1=>by
  by_cases h:m9 lo B (lo+((n+1:Nat):Int))=true
  ·
   exact ⟨lo+((n+1:Nat):Int),jq.2 ⟨by omega,by omega,h⟩,OH _,fun b _=>by omega⟩
  ·
   obtain ⟨x,h1,h2,h3⟩:=DX (lo:=lo) (B:=B) n
   have h1' :=jq.1 h1
   refine ⟨x,jq.2 ⟨h1'.1,by omega,h1'.2.2⟩,by omega,fun b hb=> ?_⟩
   have:=h3 b hb
   have hne:b≠lo+((n+1:Nat):Int):=fun e=>h (by rw [← e];simp [m9,hb])
   omega
def nX (L:List Rl):List Int:=L.flatMap fun r=> [r.rect.c1,r.rect.c2+1]
def nI (L:List Rl):List Int:=L.flatMap fun r=> [r.rect.r1,r.rect.r2+1]
theorem Ay: ∀ L:List Rl,(nX L).length=2*L.length
 | []=>rfl
 |x::l=>by
  have:=Ay l
  unfold nX at*
  rw [Np,Na,this];simp only [NB,O4];omega
theorem y6: ∀ L:List Rl,(nI L).length=2*L.length
 | []=>rfl
 |x::l=>by
  have:=y6 l
  unfold nI at*
  rw [Np,Na,this];simp only [NB,O4];omega
theorem FA (L:List Rl) (x:Rl):nX (L++ [x])=nX L++ [x.rect.c1,x.rect.c2+1]:=by simp [nX]
theorem EN (L:List Rl) (x:Rl):nI (L++ [x])=nI L++ [x.rect.r1,x.rect.r2+1]:=by simp [nI]
def jJ (a b:List Int):List Rf:=a.flatMap fun y=>b.map fun x=>⟨x,y⟩
def xp (r:Rct) (L:List Rl):List Rf:=jJ (p9 r.r1 r.r2 (nI L)) (p9 r.c1 r.c2 (nX L))
theorem vU {a b:List Int} {p:Rf}:p∈jJ a b↔p.row∈a∧p.col∈b:=by
 unfold jJ
 simp only [NU,OQ]
 constructor
 ·
  rintro ⟨y,hy,x,hx,rfl⟩;exact ⟨hy,hx⟩
 ·
  rintro ⟨hy,hx⟩;exact ⟨p.row,hy,p.col,hx,rfl⟩
theorem Fl (a b:List Int):(jJ a b).length=a.length*b.length:=by
 unfold jJ
 induction a with
 |nil=>simp
 |cons y l ih=>rw [Np,Na,ih,Oi,NB,Nat.succ_mul];omega
theorem tC {lo hi x:Int} {B:List Int} (h:lo≤hi):x∈p9 lo hi B↔lo≤x∧x≤hi∧m9 lo B x=true:=by
 unfold p9
 rw [jq]
 constructor
 ·
  rintro ⟨h1,h2,h3⟩;exact ⟨h1,by omega,h3⟩
 ·
  rintro ⟨h1,h2,h3⟩;exact ⟨h1,by omega,h3⟩
theorem Aq {lo hi v:Int} {B:List Int} (h1:lo≤v) (h2:v≤hi): ∃ x,x∈p9 lo hi B∧x≤v∧ ∀ b∈B,¬ (x<b∧b≤v):=by
 obtain ⟨x,h3,h4,h5⟩:=DX (lo:=lo) (B:=B) (v - lo).toNat
 have h3' :=jq.1 h3
 refine ⟨x,(tC (by omega)).2 ⟨h3'.1,by omega,h3'.2.2⟩,by omega,fun b hb=> ?_⟩
 have:=h5 b hb
 omega
theorem J3 {r:Rct} {L:List Rl} (hr:aI r=true) {p:Rf} (h:p∈xp r L):dx r p=true:=by
 have hs:=cj.1 hr
 obtain ⟨h1,h2⟩:=vU.1 h
 have h1:=(tC (by omega)).1 h1
 have h2:=(tC (by omega)).1 h2
 exact cO.2 (by omega)
theorem tH {a p:Rf} {L:List Rl} (h: ∀ R∈L,dx R.rect p=dx R.rect a): ∀ n,n≤L.length→jI p L n=jI a L n
 |0,_=>rfl
 |n+1,hn=>by
  have hlt:n<L.length:=by omega
  rw [jI,jI,Nc hlt,tH h n (by omega)]
  simp only [Oh,Pv]
  have e:=h _ (NW hlt)
  simp only [e]
theorem G9 {r:Rct} {L:List Rl} {a:Rf} (ha:dx r a=true): ∃ p∈xp r L,fL L p=fL L a:=by
 have ha:=cO.1 ha
 obtain ⟨y,hy1,hy2,hy3⟩:=Aq (lo:=r.r1) (hi:=r.r2) (v:=a.row) (B:=nI L) (by omega) (by omega)
 obtain ⟨x,hx1,hx2,hx3⟩:=Aq (lo:=r.c1) (hi:=r.c2) (v:=a.col) (B:=nX L) (by omega) (by omega)
 refine ⟨⟨x,y⟩,vU.2 ⟨hy1,hx1⟩,tH (fun R hR=> ?_) _ (Ni _)⟩
 have c1:=hx3 R.rect.c1 (NU.2 ⟨R,hR,by simp⟩)
 have c2:=hx3 (R.rect.c2+1) (NU.2 ⟨R,hR,by simp⟩)
 have r1:=hy3 R.rect.r1 (NU.2 ⟨R,hR,by simp⟩)
 have r2:=hy3 (R.rect.r2+1) (NU.2 ⟨R,hR,by simp⟩)
 rw [NL,cO,cO]
 simp only
 omega
def ovP (f:Rl→BitVec 64) (r:Rct) (L:List Rl):BitVec 64:=ja ((xp r L).map fun a=>(L[fL L a]?.map f).getD 0#64)
theorem LC {f:Rl→BitVec 64} {r:Rct} {L:List Rl} (hr:aI r=true) (hL: ∀ R∈L,aI R.rect=true):ovP f r L=u5 f r L:=by
 apply PH
 intro i hi
 rw [NL,Hp hr hL hi]
 unfold ovP
 rw [AK hi]
 simp only [OQ,forall_exists_index,and_imp,forall_apply_eq_imp_iff₂]
 constructor
 ·
  intro h a ha
  obtain ⟨p,hp,he⟩:=G9 (L:=L) ha
  rw [← he];exact h p hp
 ·
  intro h p hp
  exact h p (J3 hr hp)
end Go.SL

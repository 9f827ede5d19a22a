/-
  Lemmas and walks, put together: Pg2 Ia Ua Va.
-/
import Derived.Test.YtoanpdoacdpgeaaGreatDoorKo09
import Derived.Test.YtoanpdoacdpgeaaGreatDoorKo12
set_option linter.unusedSimpArgs false
set_option linter.unusedVariables false
set_option maxRecDepth 20000
namespace Go.SL
open Go
def jE (a:Rf) (L:List Rl):Nat→Nat
 |0=>0
 |n+1=>if iZ ((L[n]?.map (·.rect)).getD aN) a=true then n else jE a L n
def cR (L:List Rl) (a:Rf):Nat:=jE a L L.length
theorem Di (a:Rf) (L:List Rl): ∀ n,jE a L n≤n - 1
 |0=>Re _
 |n+1=>by
  rw [jE];split
  ·
   exact Re _
  ·
   have:=Di a L n;omega
theorem wR {a:Rf} {L:List Rl} (h:L≠ []):cR L a<L.length:=by
 have:=Di a L L.length
 have h2:0<L.length:=SJ.2 h
 unfold cR;omega
theorem Io {r:Rct} {L:List Rl} (h:L≠ []):iN r L<L.length:=by
 have:=yt r L L.length
 have h2:0<L.length:=SJ.2 h
 unfold iN;omega
theorem cX {r:Rct}:aO r=true↔1≤r.c1∧r.c1≤r.c2∧r.c2≤1024∧1≤r.r1∧r.r1≤r.r2∧r.r2≤1024:=by
 unfold aO valid
 simp only [Rk,decide_eq_true_eq]
 omega
theorem dc {r:Rct} {a:Rf}:iZ r a=true↔r.c1≤a.col∧a.col≤r.c2∧r.r1≤a.row∧a.row≤r.r2:=by
 unfold iZ
 simp only [Rk,decide_eq_true_eq,and_assoc]
theorem nZ (a b:Rct):(iJ a b).c1=max a.c1 b.c1:=by unfold iJ;simp only;split<;>omega
theorem nX (a b:Rct):(iJ a b).r1=max a.r1 b.r1:=by unfold iJ;simp only;split<;>omega
theorem nY (a b:Rct):(iJ a b).c2=min a.c2 b.c2:=by unfold iJ;simp only;split<;>omega
theorem nW (a b:Rct):(iJ a b).r2=min a.r2 b.r2:=by unfold iJ;simp only;split<;>omega
theorem y4 {a b:Rct} (ha:aO a=true) (hb:aO b=true) {x:Rf} (h1:iZ a x=true) (h2:iZ b x=true):eL a b=(iJ a b,true):=by
 unfold eL
 rw [if_pos]
 simp only [Tw,List.all_nil,ha,hb,Si,RX]
 rw [cX] at*
 rw [dc] at h1 h2
 rw [nZ,nX,nY,nW]
 omega
theorem Rct.ext' {a b:Rct} (h1:a.c1=b.c1) (h2:a.r1=b.r1) (h3:a.c2=b.c2) (h4:a.r2=b.r2):a=b:=by
 cases a;cases b;simp only at*;subst h1 h2 h3 h4;rfl
theorem FR {c R:Rct} (hc:aO c=true) (hR:aO R=true):jQ c R=true↔R.c1≤c.c1∧c.c2≤R.c2∧R.r1≤c.r1∧c.r2≤R.r2:=by
 have hc' :=cX.1 hc
 constructor
 ·
  intro h
  unfold jQ at h
  rw [Rk,decide_eq_true_eq] at h
  obtain ⟨h1,h2⟩:=h
  unfold eL at h1 h2
  split at h1
  ·
   rename_i hall
   rw [if_pos hall] at h2
   have e1:=congrArg Rct.c1 h2
   have e2:=congrArg Rct.r1 h2
   have e3:=congrArg Rct.c2 h2
   have e4:=congrArg Rct.r2 h2
   simp only [nZ,nX,nY,nW] at e1 e2 e3 e4
   omega
  ·
   cases h1
 ·
  intro h
  have h1:iZ c ⟨c.c1,c.r1⟩=true:=dc.2 (by simp only;omega)
  have h2:iZ R ⟨c.c1,c.r1⟩=true:=dc.2 (by simp only;omega)
  unfold jQ
  rw [y4 hc hR h1 h2,Rk,decide_eq_true_eq]
  exact ⟨rfl,Rct.ext' (by rw [nZ];omega) (by rw [nX];omega) (by rw [nY];omega) (by rw [nW];omega)⟩
structure CellOf (r:Rct) (A B:List Rl) (y x:Int × Int):Prop where
 row:y∈cJ r.r1 r.r2 (aX r A++aX r B)
 col:x∈cJ r.c1 r.c2 (aZ r A++aZ r B)
def fK (y x:Int × Int):Rct:=⟨x.1,y.1,x.2,y.2⟩
theorem CellOf.ok {r:Rct} {A B:List Rl} {y x:Int × Int} (h:CellOf r A B y x) (hr:aO r=true):aO (fK y x)=true:=by
 have h1:=fp h.row
 have h2:=fp h.col
 rw [cX] at*
 simp only [fK];omega
theorem CellOf.inside {r:Rct} {A B:List Rl} {y x:Int × Int} (h:CellOf r A B y x) (hr:aO r=true) {a:Rf} (ha:iZ (fK y x) a=true) {R:Rl} (hm:R∈A∨R∈B) (hR:aO R.rect=true):jQ (fK y x) R.rect=iZ R.rect a:=by
 have h1:=fp h.row
 have h2:=fp h.col
 have ha' :=dc.1 ha
 simp only [fK] at ha'
 rw [RQ,FR (h.ok hr) hR,dc]
 simp only [fK]
 constructor
 ·
  intro h3;omega
 ·
  intro h3
  have har:iZ r a=true:=dc.2 (by omega)
  have haR:iZ R.rect a=true:=dc.2 h3
  have hmt:=y4 hR hr haR har
  have hcol:((iJ R.rect r).c1,(iJ R.rect r).c2)∈aZ r A++aZ r B:=by
   rw [Ru]
   rcases hm with hm|hm
   ·
    exact .inl (Se.2 ⟨R,hm,by rw [hmt];simp⟩)
   ·
    exact .inr (Se.2 ⟨R,hm,by rw [hmt];simp⟩)
  have hrow:((iJ R.rect r).r1,(iJ R.rect r).r2)∈aX r A++aX r B:=by
   rw [Ru]
   rcases hm with hm|hm
   ·
    exact .inl (Se.2 ⟨R,hm,by rw [hmt];simp⟩)
   ·
    exact .inr (Se.2 ⟨R,hm,by rw [hmt];simp⟩)
  have k1:=zq h.col hcol (by simp only [nZ];omega) (by simp only [nY];omega)
  have k2:=zq h.row hrow (by simp only [nX];omega) (by simp only [nW];omega)
  simp only [nZ,nY,nX,nW] at k1 k2
  omega
theorem vp {c:Rct} {a:Rf} {L:List Rl} (h: ∀ R∈L,jQ c R.rect=iZ R.rect a): ∀ n,n≤L.length→m8 c L n=jE a L n
 |0,_=>rfl
 |n+1,hn=>by
  have hlt:n<L.length:=by omega
  rw [m8,jE,QV hlt,vp h n (by omega)]
  simp only [Sm,S5]
  have e:=h _ (RN hlt)
  simp only [e]
theorem CellOf.which {r:Rct} {A B:List Rl} {y x:Int × Int} (h:CellOf r A B y x) (hr:aO r=true) (hA: ∀ R∈A,aO R.rect=true) {a:Rf} (ha:iZ (fK y x) a=true):(nT A B y x).a=cR A a:=
 vp (fun R hR=>h.inside hr ha (.inl hR) (hA R hR)) _ (Re _)
theorem uS {α:Type} {p:List α→Prop} (h0:p []) (h1: ∀ l a,p l→p (l++ [a])) (l:List α):p l:=by
 have h: ∀ m:List α,p m.reverse:=fun m=>by
  induction m with
  |nil=>exact h0
  |cons a m ih=>rw [List.reverse_cons];exact h1 _ _ ih
 have:=h l.reverse
 rwa [List.reverse_reverse] at this
theorem PP {l:List Pz} {p:Pz} {k:Nat}:k∈(ky l p).map (·.a)↔k∈l.map (·.a)∨k=p.a:=by
 unfold ky
 cases h:l.getLast? with
 |none=>
  rw [List.getLast?_eq_none_iff.1 h];simp
 |some q=>
  have hne:l≠ []:=fun e=>by rw [e] at h;cases h
  have hq:l.getLast hne=q:=by rw [List.getLast?_eq_some_getLast hne] at h;exact Option.some.inj h
  have he:=S0 hne
  rw [hq] at he
  dsimp only
  split
  ·
   rename_i hs
   rw [RM,Ru]
   conv=>rhs;rw [← he]
   rw [RM,Ru]
   simp only [RA,Sq,Rp]
   rw [← hs.1]
   exact ⟨.inl,fun h=>h.elim id .inr⟩
  ·
   rw [RM,Ru];simp
theorem OJ {A B:List Rl} {y:Int × Int} {k:Nat} (xs:List (Int × Int)):k∈(kg A B y xs).map (·.a)↔ ∃ x∈xs,k=(nT A B y x).a:=by
 induction xs using uS with
 |h0=>simp [kg]
 |h1 xs x ih=>
  rw [lM,PP,ih]
  simp only [Ru,Rp]
  constructor
  ·
   rintro (⟨z,hz,h⟩|h)
   ·
    exact ⟨z,.inl hz,h⟩
   ·
    exact ⟨x,.inr rfl,h⟩
  ·
   rintro ⟨z,hz|rfl,h⟩
   ·
    exact .inl ⟨z,hz,h⟩
   ·
    exact .inr h
theorem Ar {r:Rct} {A B:List Rl} {k:Nat}:k∈(dY r A B).map (·.a)↔ ∃ y x,CellOf r A B y x∧k=(nT A B y x).a:=by
 unfold dY
 rw [List.map_flatMap,Se]
 constructor
 ·
  rintro ⟨y,hy,h⟩
  obtain ⟨x,hx,h2⟩:=(OJ _).1 h
  exact ⟨y,x,⟨hy,hx⟩,h2⟩
 ·
  rintro ⟨y,x,h,h2⟩
  exact ⟨y,h.row,(OJ _).2 ⟨x,h.col,h2⟩⟩
theorem Ea {l:List (BitVec 64)} {i:Nat} (hi:i<64):(jU l).getLsbD i=true↔ ∀ x∈l,x.getLsbD i=true:=by
 have h: ∀ (l:List (BitVec 64)) (s:BitVec 64),(l.foldl (· &&& ·) s).getLsbD i=true↔s.getLsbD i=true∧ ∀ x∈l,x.getLsbD i=true:=by
  intro l
  induction l with
  |nil=>intro s;simp
  |cons a l ih=>
   intro s
   rw [Su,ih,TP,Rk]
   simp only [Rs,forall_eq_or_imp,and_assoc]
 unfold jU
 rw [h,BitVec.getLsbD_allOnes]
 simp [hi]
theorem Ll {f:Rl→BitVec 64} {r:Rct} {L:List Rl} (hr:aO r=true) (hL: ∀ R∈L,aO R.rect=true) {i:Nat} (hi:i<64):
  (yd f r L).getLsbD i=true↔ ∀ a,iZ r a=true→((L[cR L a]?.map f).getD 0#64).getLsbD i=true:=by
 unfold yd
 rw [Ea hi]
 have hm:(∀ x∈(dY r L []).map (fun p=>(L[p.a]?.map f).getD 0#64),x.getLsbD i=true)↔ ∀ k∈(dY r L []).map (·.a),((L[k]?.map f).getD 0#64).getLsbD i=true:=by
  simp only [RG,forall_exists_index,and_imp,forall_apply_eq_imp_iff₂]
 rw [hm]
 constructor
 ·
  intro h a ha
  have ha' :=dc.1 ha
  obtain ⟨y,hy,hy1,hy2⟩:=uz (lo:=r.r1) (hi:=r.r2) (ps:=aX r L++aX r []) (v:=a.row) (by omega) (by omega)
  obtain ⟨x,hx,hx1,hx2⟩:=uz (lo:=r.c1) (hi:=r.c2) (ps:=aZ r L++aZ r []) (v:=a.col) (by omega) (by omega)
  have hc:CellOf r L [] y x:=⟨hy,hx⟩
  have hag:iZ (fK y x) a=true:=dc.2 (by simp only [fK];omega)
  have:=h _ (Ar.2 ⟨y,x,hc,rfl⟩)
  rwa [hc.which hr hL hag] at this
 ·
  intro h k hk
  obtain ⟨y,x,hc,rfl⟩:=Ar.1 hk
  have hok:=cX.1 (hc.ok hr)
  have h1:=fp hc.row
  have h2:=fp hc.col
  simp only [fK] at hok
  have hag:iZ (fK y x) ⟨x.1,y.1⟩=true:=dc.2 (by simp only [fK];omega)
  rw [hc.which hr hL hag]
  exact h ⟨x.1,y.1⟩ (dc.2 (by simp only;omega))
def LK (p q:Pz):Prop:=p.rect.r1<q.rect.r1∨(p.rect.r1=q.rect.r1∧p.rect.c1<q.rect.c1)
theorem LS {l:List Pz} {p:Pz} {y c:Int} (hp:p.rect.r1=y) (hl: ∀ q∈l,q.rect.r1=y∧q.rect.c1<p.rect.c1) (hc:p.rect.c1≤c) (hs:l.Pairwise LK):(ky l p).Pairwise LK∧ ∀ q∈ky l p,q.rect.r1=y∧q.rect.c1≤c:=by
 unfold ky
 cases h:l.getLast? with
 |none=>
  exact ⟨Tv _ _,fun q hq=>by rw [Rp.1 hq];exact ⟨hp,hc⟩⟩
 |some q=>
  have hne:l≠ []:=fun e=>by rw [e] at h;cases h
  have hq:l.getLast hne=q:=by rw [List.getLast?_eq_some_getLast hne] at h;exact Option.some.inj h
  have he:=S0 hne
  rw [hq] at he
  have hql:q∈l:=by rw [← hq];exact List.getLast_mem hne
  dsimp only
  split
  ·
   rw [← he] at hs
   obtain ⟨s1,_,s3⟩:=SS.1 hs
   refine ⟨SS.2 ⟨s1,Tv _ _,fun a ha b hb=> ?_⟩,fun a ha=> ?_⟩
   ·
    rw [Rp.1 hb]
    exact s3 a ha q (Rp.2 rfl)
   ·
    rcases Ru.1 ha with ha|ha
    ·
     have:=hl a (List.dropLast_subset l ha);omega
    ·
     rw [Rp.1 ha]
     have:=hl q hql;simp only;omega
  ·
   refine ⟨SS.2 ⟨hs,Tv _ _,fun a ha b hb=> ?_⟩,fun a ha=> ?_⟩
   ·
    rw [Rp.1 hb]
    have:=hl a ha
    exact .inr ⟨by omega,this.2⟩
   ·
    rcases Ru.1 ha with ha|ha
    ·
     have:=hl a ha;omega
    ·
     rw [Rp.1 ha];exact ⟨hp,hc⟩
theorem qi {A B:List Rl} {y:Int × Int} (xs:List (Int × Int)) (hs:xs.Pairwise fun p q=>p.1<q.1):(kg A B y xs).Pairwise LK∧ ∀ q∈kg A B y xs,q.rect.r1=y.1∧ ∃ x∈xs,q.rect.c1≤x.1:=by
 induction xs using uS with
 |h0=>exact ⟨.nil,fun q hq=>by cases hq⟩
 |h1 xs x ih=>
  obtain ⟨s1,_,s3⟩:=SS.1 hs
  obtain ⟨i1,i2⟩:=ih s1
  rw [lM]
  have:=LS (l:=kg A B y xs) (p:=nT A B y x) (y:=y.1) (c:=x.1) rfl (fun q hq=>by
   obtain ⟨h1,z,hz,h2⟩:=i2 q hq
   have:=s3 z hz x (Rp.2 rfl)
   exact ⟨h1,by show q.rect.c1<x.1;omega⟩) (SQ _) i1
  exact ⟨this.1,fun q hq=>⟨(this.2 q hq).1,x,by simp,(this.2 q hq).2⟩⟩
theorem Ak (r:Rct) (A B:List Rl):(dY r A B).Pairwise LK:=by
 unfold dY
 have hx:(cJ r.c1 r.c2 (aZ r A++aZ r B)).Pairwise fun p q=>p.1<q.1:=by
  refine (r9 _ _ _).imp_of_mem fun {p q} hp _ h=> ?_
  have:=fp hp;omega
 have hy:(cJ r.r1 r.r2 (aX r A++aX r B)).Pairwise fun p q=>p.1<q.1:=by
  refine (r9 _ _ _).imp_of_mem fun {p q} hp _ h=> ?_
  have:=fp hp;omega
 generalize cJ r.r1 r.r2 (aX r A++aX r B)=ys at hy
 generalize cJ r.c1 r.c2 (aZ r A++aZ r B)=xs at hx
 induction ys with
 |nil=>exact .nil
 |cons y ys ih=>
  obtain ⟨k1,k2⟩:=RV.1 hy
  rw [Rm]
  refine SS.2 ⟨(qi xs hx).1,ih k2,fun p hp q hq=> ?_⟩
  obtain ⟨z,hz,hq⟩:=Se.1 hq
  have h1:=((qi (A:=A) (B:=B) (y:=y) xs hx).2 p hp).1
  have h2:=((qi (A:=A) (B:=B) (y:=z) xs hx).2 q hq).1
  have h3:=k1 z hz
  exact .inl (by omega)
end Go.SL
namespace Go.SL
open Go Go.Proofs
structure Cl where
 at_:Rf
 node:Int
def rR (x:Cl):List Value:= [.int .i64 x.at_.col,.int .i64 x.at_.row,.int .i64 x.node]
structure Ev where
 step:Int
 user:Int
 kind:Int
 rect:Rct
 done:Bool
 to:BitVec 64
def dK (x:Ev):List Value:= [.int .i64 x.step,.int .i64 x.user,.int .u8 x.kind,.int .i64 x.rect.c1,.int .i64 x.rect.r1,.int .i64 x.rect.c2,.int .i64 x.rect.r2,.bool x.done,vS x.to]
theorem fS (x:Ev):(dK x).length=9:=rfl
structure Rv where
 step:Int
 call:Cl
 fn:Int
 rect:Rct
 grant:Int
 to:BitVec 64
def aJ (x:Rv):List Value:= [.int .i64 x.step,.int .i64 x.call.at_.col,.int .i64 x.call.at_.row,.int .i64 x.call.node,.int .u8 x.fn,.int .i64 x.rect.c1,.int .i64 x.rect.r1,.int .i64 x.rect.c2,.int .i64 x.rect.r2,.int .i64 x.grant,vS x.to]
theorem cQ (x:Rv):(aJ x).length=11:=rfl
structure Ox where
 kind:Int
 user:Int
 rect:Rct
 input:ByteArray
 rd:BitVec 64
 wr:BitVec 64
 ow:BitVec 64
 fns:Int
 to:BitVec 64
 idx:Int
def HS (x:Ox):List Value:= [.int .u8 x.kind,.int .i64 x.user,.int .i64 x.rect.c1,.int .i64 x.rect.r1,.int .i64 x.rect.c2,.int .i64 x.rect.r2,.string x.input,vS x.rd,vS x.wr,vS x.ow,.int .u8 x.fns,vS x.to,.int .i64 x.idx]
theorem mq (x y:BitVec 64):((x.toNat:Int)=(y.toNat:Int))=(x=y):=propext ⟨fun h=>TX (by omega),fun h=>h ▸ rfl⟩
theorem mo (x y:BitVec 64):(x.toNat=y.toNat)=(x=y):=propext ⟨fun h=>TX h,fun h=>h ▸ rfl⟩
theorem KV (w:World) (d:Nat) (a1 a2 a3 b1 b2 b3:BitVec 64):(Op.equalIn (d+3) 35 (.agg #[.int .u64 (a1.toNat:Int),.int .u64 (a2.toNat:Int),.int .u64 (a3.toNat:Int)]) (.agg #[.int .u64 (b1.toNat:Int),.int .u64 (b2.toNat:Int),.int .u64 (b3.toNat:Int)])).run Tryz.prog w= .ok (decide (a1=b1) && decide (a2=b2) && decide (a3=b3)) w:=by
 rw [run_equalIn_agg w (d+2) 35 _ _ (by rw [Program.fieldsOf,Tryz.underlying35]) Tryz.stoodInHeld35]
 simp only [Program.fieldsOf,Tryz.underlying35]
 simp [Op.eqFields,part,go_sem,rY,uM,mq,mo]
 by_cases h1:a1=b1
 rotate_left
 ·
  simp [h1]
 by_cases h2:a2=b2
 rotate_left
 ·
  simp [h1,h2]
 by_cases h3:a3=b3<;>simp [h1,h2,h3]
def F6 (a b:Rl):Bool:=eqR a.rect b.rect && (decide (a.read=b.read) && decide (a.write=b.write) && decide (a.own=b.own))
theorem DG {a b:Rl}:F6 a b=true↔a=b:=by
 obtain ⟨a0,a1,a2,a3⟩:=a
 obtain ⟨b0,b1,b2,b3⟩:=b
 simp [F6,jm,kX,and_assoc]
instance:DecidableEq Rl:=fun a b=>decidable_of_iff (F6 a b=true) DG
theorem Ma (a b:Rl):F6 a b=decide (a=b):=by
 rw [RQ,DG,decide_eq_true_iff]
theorem KW (w:World) (d:Nat) (a b:Rl):(Op.equalIn (d+5) 54 (.agg (bM a).toArray) (.agg (bM b).toArray)).run Tryz.prog w= .ok (F6 a b) w:=by
 rw [run_equalIn_agg w (d+4) 54 _ _ (by rw [Program.fieldsOf,Tryz.underlying54]) Tryz.stoodInHeld54]
 simp only [Program.fieldsOf,Tryz.underlying54]
 have hq_R: ∀ w,(Op.equalIn (d+4) 32 (.agg #[.int .i64 a.rect.c1,.int .i64 a.rect.r1,.int .i64 a.rect.c2,.int .i64 a.rect.r2]) (.agg #[.int .i64 b.rect.c1,.int .i64 b.rect.r1,.int .i64 b.rect.c2,.int .i64 b.rect.r2])).run Tryz.prog w= .ok (eqR a.rect b.rect) w:=fun w=>kJ w (d+1) a.rect b.rect
 have hq_T: ∀ w,(Op.equalIn (d+4) 35 (.agg #[.int .u64 (a.read.toNat:Int),.int .u64 (a.write.toNat:Int),.int .u64 (a.own.toNat:Int)]) (.agg #[.int .u64 (b.read.toNat:Int),.int .u64 (b.write.toNat:Int),.int .u64 (b.own.toNat:Int)])).run Tryz.prog w= .ok (decide (a.read=b.read) && decide (a.write=b.write) && decide (a.own=b.own)) w:=fun w=>KV w (d+1) a.read a.write a.own b.read b.write b.own
 simp [Op.eqFields,bM,vS,part,go_sem,rY,uM,mq,mo,F6,hq_R,hq_T]
 by_cases h1:eqR a.rect b.rect=true
 rotate_left
 ·
  simp [h1]
 by_cases h2:a.read=b.read
 rotate_left
 ·
  simp [h1,h2]
 by_cases h3:a.write=b.write
 rotate_left
 ·
  simp [h1,h2,h3]
 by_cases h4:a.own=b.own
 rotate_left
 ·
  simp [h1,h2,h3,h4]
 simp [h1,h2,h3,h4]
def F7 (a b:Gn):Bool:=eqR a.rect b.rect && decide (a.fns=b.fns) && decide (a.to=b.to) && decide (a.by_=b.by_) && decide (a.rev=b.rev)
theorem DI {a b:Gn}:F7 a b=true↔a=b:=by
 obtain ⟨a0,a1,a2,a3,a4⟩:=a
 obtain ⟨b0,b1,b2,b3,b4⟩:=b
 simp [F7,jm,kX,and_assoc]
instance:DecidableEq Gn:=fun a b=>decidable_of_iff (F7 a b=true) DI
theorem Me (a b:Gn):F7 a b=decide (a=b):=by
 rw [RQ,DI,decide_eq_true_iff]
theorem KZ (w:World) (d:Nat) (a b:Gn):(Op.equalIn (d+5) 56 (.agg (bX a).toArray) (.agg (bX b).toArray)).run Tryz.prog w= .ok (F7 a b) w:=by
 rw [run_equalIn_agg w (d+4) 56 _ _ (by rw [Program.fieldsOf,Tryz.underlying56]) Tryz.stoodInHeld56]
 simp only [Program.fieldsOf,Tryz.underlying56]
 have hq_R: ∀ w,(Op.equalIn (d+4) 32 (.agg #[.int .i64 a.rect.c1,.int .i64 a.rect.r1,.int .i64 a.rect.c2,.int .i64 a.rect.r2]) (.agg #[.int .i64 b.rect.c1,.int .i64 b.rect.r1,.int .i64 b.rect.c2,.int .i64 b.rect.r2])).run Tryz.prog w= .ok (eqR a.rect b.rect) w:=fun w=>kJ w (d+1) a.rect b.rect
 simp [Op.eqFields,bX,vS,part,go_sem,rY,uM,mq,mo,F7,hq_R]
 by_cases h1:eqR a.rect b.rect=true
 rotate_left
 ·
  simp [h1]
 by_cases h2:a.fns=b.fns
 rotate_left
 ·
  simp [h1,h2]
 by_cases h3:a.to=b.to
 rotate_left
 ·
  simp [h1,h2,h3]
 by_cases h4:a.by_=b.by_
 rotate_left
 ·
  simp [h1,h2,h3,h4]
 by_cases h5:a.rev=b.rev
 rotate_left
 ·
  simp [h1,h2,h3,h4,h5]
 simp [h1,h2,h3,h4,h5]
def qB (a b:Cl):Bool:=eqF a.at_ b.at_ && decide (a.node=b.node)
theorem rO {a b:Cl}:qB a b=true↔a=b:=by
 obtain ⟨a0,a1⟩:=a
 obtain ⟨b0,b1⟩:=b
 simp [qB,jm,kX,and_assoc]
instance:DecidableEq Cl:=fun a b=>decidable_of_iff (qB a b=true) rO
theorem vX (w:World) (d:Nat) (a b:Cl):(Op.equalIn (d+5) 60 (.agg (rR a).toArray) (.agg (rR b).toArray)).run Tryz.prog w= .ok (qB a b) w:=by
 rw [run_equalIn_agg w (d+4) 60 _ _ (by rw [Program.fieldsOf,Tryz.underlying60]) Tryz.stoodInHeld60]
 simp only [Program.fieldsOf,Tryz.underlying60]
 have hq_F: ∀ w,(Op.equalIn (d+4) 50 (.agg #[.int .i64 a.at_.col,.int .i64 a.at_.row]) (.agg #[.int .i64 b.at_.col,.int .i64 b.at_.row])).run Tryz.prog w= .ok (eqF a.at_ b.at_) w:=fun w=>qU w (d+1) a.at_ b.at_
 simp [Op.eqFields,rR,vS,part,go_sem,rY,uM,mq,mo,qB,hq_F]
 by_cases h1:eqF a.at_ b.at_=true
 rotate_left
 ·
  simp [h1]
 by_cases h2:a.node=b.node
 rotate_left
 ·
  simp [h1,h2]
 simp [h1,h2]
def F8 (a b:Ev):Bool:=decide (a.step=b.step) && decide (a.user=b.user) && decide (a.kind=b.kind) && eqR a.rect b.rect && decide (a.done=b.done) && decide (a.to=b.to)
theorem DJ {a b:Ev}:F8 a b=true↔a=b:=by
 obtain ⟨a0,a1,a2,a3,a4,a5⟩:=a
 obtain ⟨b0,b1,b2,b3,b4,b5⟩:=b
 simp [F8,jm,kX,and_assoc]
instance:DecidableEq Ev:=fun a b=>decidable_of_iff (F8 a b=true) DJ
theorem Mf (a b:Ev):F8 a b=decide (a=b):=by
 rw [RQ,DJ,decide_eq_true_iff]
theorem K0 (w:World) (d:Nat) (a b:Ev):(Op.equalIn (d+5) 58 (.agg (dK a).toArray) (.agg (dK b).toArray)).run Tryz.prog w= .ok (F8 a b) w:=by
 rw [run_equalIn_agg w (d+4) 58 _ _ (by rw [Program.fieldsOf,Tryz.underlying58]) Tryz.stoodInHeld58]
 simp only [Program.fieldsOf,Tryz.underlying58]
 have hq_R: ∀ w,(Op.equalIn (d+4) 32 (.agg #[.int .i64 a.rect.c1,.int .i64 a.rect.r1,.int .i64 a.rect.c2,.int .i64 a.rect.r2]) (.agg #[.int .i64 b.rect.c1,.int .i64 b.rect.r1,.int .i64 b.rect.c2,.int .i64 b.rect.r2])).run Tryz.prog w= .ok (eqR a.rect b.rect) w:=fun w=>kJ w (d+1) a.rect b.rect
 simp [Op.eqFields,dK,vS,part,go_sem,rY,uM,mq,mo,F8,hq_R]
 by_cases h1:a.step=b.step
 rotate_left
 ·
  simp [h1]
 by_cases h2:a.user=b.user
 rotate_left
 ·
  simp [h1,h2]
 by_cases h3:a.kind=b.kind
 rotate_left
 ·
  simp [h1,h2,h3]
 by_cases h4:eqR a.rect b.rect=true
 rotate_left
 ·
  simp [h1,h2,h3,h4]
 by_cases h5:a.done=b.done
 rotate_left
 ·
  simp [h1,h2,h3,h4,h5]
 by_cases h6:a.to=b.to
 rotate_left
 ·
  simp [h1,h2,h3,h4,h5,h6]
 simp [h1,h2,h3,h4,h5,h6]
def F5 (a b:Rv):Bool:=decide (a.step=b.step) && qB a.call b.call && decide (a.fn=b.fn) && eqR a.rect b.rect && decide (a.grant=b.grant) && decide (a.to=b.to)
theorem DF {a b:Rv}:F5 a b=true↔a=b:=by
 obtain ⟨a0,a1,a2,a3,a4,a5⟩:=a
 obtain ⟨b0,b1,b2,b3,b4,b5⟩:=b
 simp [F5,jm,kX,rO,and_assoc]
instance:DecidableEq Rv:=fun a b=>decidable_of_iff (F5 a b=true) DF
theorem L9 (a b:Rv):F5 a b=decide (a=b):=by
 rw [RQ,DF,decide_eq_true_iff]
theorem KU (w:World) (d:Nat) (a b:Rv):(Op.equalIn (d+7) 62 (.agg (aJ a).toArray) (.agg (aJ b).toArray)).run Tryz.prog w= .ok (F5 a b) w:=by
 rw [run_equalIn_agg w (d+6) 62 _ _ (by rw [Program.fieldsOf,Tryz.underlying62]) Tryz.stoodInHeld62]
 simp only [Program.fieldsOf,Tryz.underlying62]
 have hq_C: ∀ w,(Op.equalIn (d+6) 60 (.agg #[.int .i64 a.call.at_.col,.int .i64 a.call.at_.row,.int .i64 a.call.node]) (.agg #[.int .i64 b.call.at_.col,.int .i64 b.call.at_.row,.int .i64 b.call.node])).run Tryz.prog w= .ok (qB a.call b.call) w:=fun w=>vX w (d+1) a.call b.call
 have hq_R: ∀ w,(Op.equalIn (d+6) 32 (.agg #[.int .i64 a.rect.c1,.int .i64 a.rect.r1,.int .i64 a.rect.c2,.int .i64 a.rect.r2]) (.agg #[.int .i64 b.rect.c1,.int .i64 b.rect.r1,.int .i64 b.rect.c2,.int .i64 b.rect.r2])).run Tryz.prog w= .ok (eqR a.rect b.rect) w:=fun w=>kJ w (d+3) a.rect b.rect
 simp [Op.eqFields,aJ,vS,part,go_sem,rY,uM,mq,mo,F5,hq_C,hq_R]
 by_cases h1:a.step=b.step
 rotate_left
 ·
  simp [h1]
 by_cases h2:qB a.call b.call=true
 rotate_left
 ·
  simp [h1,h2]
 by_cases h3:a.fn=b.fn
 rotate_left
 ·
  simp [h1,h2,h3]
 by_cases h4:eqR a.rect b.rect=true
 rotate_left
 ·
  simp [h1,h2,h3,h4]
 by_cases h5:a.grant=b.grant
 rotate_left
 ·
  simp [h1,h2,h3,h4,h5]
 by_cases h6:a.to=b.to
 rotate_left
 ·
  simp [h1,h2,h3,h4,h5,h6]
 simp [h1,h2,h3,h4,h5,h6]
section
variable {w0:World} {s:az} {H:List Blk} {ty t' :TypeId} {x y:Operand}
theorem M0 {a b:Rl} (hx:ev s x=some (.agg (bM a).toArray)) (hy:ev s y=some (.agg (bM b).toArray)):VOp Tryz.prog w0 s H (.binOp .neq 54 x y t') ty (.bool (!F6 a b)):=fun ρ w _ _ _ _ hρ _=>by
 have h:=KW w 9995 a b
 simp only [Nat.reduceAdd] at h
 simp only [execOp,hρ x _ hx,hρ y _ hy,Sem.run_bind,run_eqGuard_agg w _ _ _ _ _ _ Tryz.eqGuardType54,Result.andThen_ok,run_neq_struct,h,Sem.run_pure]
theorem M3 {a b:Gn} (hx:ev s x=some (.agg (bX a).toArray)) (hy:ev s y=some (.agg (bX b).toArray)):VOp Tryz.prog w0 s H (.binOp .neq 56 x y t') ty (.bool (!F7 a b)):=fun ρ w _ _ _ _ hρ _=>by
 have h:=KZ w 9995 a b
 simp only [Nat.reduceAdd] at h
 simp only [execOp,hρ x _ hx,hρ y _ hy,Sem.run_bind,run_eqGuard_agg w _ _ _ _ _ _ Tryz.eqGuardType56,Result.andThen_ok,run_neq_struct,h,Sem.run_pure]
theorem M9 {a b:Cl} (hx:ev s x=some (.agg (rR a).toArray)) (hy:ev s y=some (.agg (rR b).toArray)):VOp Tryz.prog w0 s H (.binOp .eql 60 x y t') ty (.bool (qB a b)):=fun ρ w _ _ _ _ hρ _=>by
 have h:=vX w 9995 a b
 simp only [Nat.reduceAdd] at h
 simp only [execOp,hρ x _ hx,hρ y _ hy,Sem.run_bind,run_eqGuard_agg w _ _ _ _ _ _ Tryz.eqGuardType60,Result.andThen_ok,run_eql_struct,h,Sem.run_pure]
theorem M4 {a b:Ev} (hx:ev s x=some (.agg (dK a).toArray)) (hy:ev s y=some (.agg (dK b).toArray)):VOp Tryz.prog w0 s H (.binOp .neq 58 x y t') ty (.bool (!F8 a b)):=fun ρ w _ _ _ _ hρ _=>by
 have h:=K0 w 9995 a b
 simp only [Nat.reduceAdd] at h
 simp only [execOp,hρ x _ hx,hρ y _ hy,Sem.run_bind,run_eqGuard_agg w _ _ _ _ _ _ Tryz.eqGuardType58,Result.andThen_ok,run_neq_struct,h,Sem.run_pure]
theorem MZ {a b:Rv} (hx:ev s x=some (.agg (aJ a).toArray)) (hy:ev s y=some (.agg (aJ b).toArray)):VOp Tryz.prog w0 s H (.binOp .neq 62 x y t') ty (.bool (!F5 a b)):=fun ρ w _ _ _ _ hρ _=>by
 have h:=KU w 9993 a b
 simp only [Nat.reduceAdd] at h
 simp only [execOp,hρ x _ hx,hρ y _ hy,Sem.run_bind,run_eqGuard_agg w _ _ _ _ _ _ Tryz.eqGuardType62,Result.andThen_ok,run_neq_struct,h,Sem.run_pure]
end
theorem xm (L:List Rl): ∀ u∈L.flatMap bM,u.oneCell' =true:=fun u hu=>by
 obtain ⟨a,_,h⟩:=Se.1 hu
 simp only [bM,Rs,SK,or_false] at h
 rcases h with rfl|rfl|rfl|rfl|rfl|rfl|rfl<;>rfl
theorem xp (L:List Ev): ∀ u∈L.flatMap dK,u.oneCell' =true:=fun u hu=>by
 obtain ⟨a,_,h⟩:=Se.1 hu
 simp only [dK,Rs,SK,or_false] at h
 rcases h with rfl|rfl|rfl|rfl|rfl|rfl|rfl|rfl|rfl<;>rfl
theorem mP (L:List Rv): ∀ u∈L.flatMap aJ,u.oneCell' =true:=fun u hu=>by
 obtain ⟨a,_,h⟩:=Se.1 hu
 simp only [aJ,Rs,SK,or_false] at h
 rcases h with rfl|rfl|rfl|rfl|rfl|rfl|rfl|rfl|rfl|rfl|rfl<;>rfl
end Go.SL
namespace Go.SL
open Go
def pT (lo:Int) (B:List Int) (x:Int):Bool:=decide (x=lo)||decide (x∈B)
def rU (lo:Int) (B:List Int):Nat→List Int
 |0=> []
 |n+1=>rU lo B n++(if pT lo B (lo+(n:Int))=true then [lo+(n:Int)] else [])
def tF (lo hi:Int) (B:List Int):List Int:=rU lo B (hi+1 - lo).toNat
theorem ku {lo x:Int} {B:List Int}: ∀ {n:Nat},x∈rU lo B n↔lo≤x∧x<lo+(n:Int)∧pT lo B x=true
 |0=>by simp only [rU,SK,false_iff];omega
 |n+1=>by
  rw [rU,Ru,ku]
  by_cases h:pT lo B (lo+(n:Int))=true
  ·
   rw [if_pos h,Rp]
   constructor
   ·
    rintro (⟨h1,h2,h3⟩|rfl)
    ·
     exact ⟨h1,by omega,h3⟩
    ·
     exact ⟨by omega,by omega,h⟩
   ·
    rintro ⟨h1,h2,h3⟩
    by_cases e:x=lo+(n:Int)
    ·
     exact .inr e
    ·
     exact .inl ⟨h1,by omega,h3⟩
  ·
   rw [if_neg h]
   simp only [SK,or_false]
   constructor
   ·
    rintro ⟨h1,h2,h3⟩;exact ⟨h1,by omega,h3⟩
   ·
    rintro ⟨h1,h2,h3⟩
    refine ⟨h1,?_,h3⟩
    by_cases e:x=lo+(n:Int)
    ·
     subst e;exact absurd h3 h
    ·
     omega
theorem xv {lo:Int} {B:List Int}: ∀ n:Nat,(rU lo B n).length≤n
 |0=>Re _
 |n+1=>by
  rw [rU,QT]
  have:=xv (lo:=lo) (B:=B) n
  split
  ·
   simp only [Rx,SP];omega
  ·
   simp only [SP];omega
theorem HT {lo:Int} {B:List Int}: ∀ n:Nat,∃ x,x∈rU lo B (n+1)∧x≤lo+(n:Int)∧ ∀ b∈B,¬ (x<b∧b≤lo+(n:Int))
 |0=>⟨lo,ku.2 ⟨SQ _,by omega,by simp [pT]⟩,by omega,fun b _=>by omega⟩
 |n+1=>by
  by_cases h:pT lo B (lo+((n+1:Nat):Int))=true
  ·
   exact ⟨lo+((n+1:Nat):Int),ku.2 ⟨by omega,by omega,h⟩,SQ _,fun b _=>by omega⟩
  ·
   obtain ⟨x,h1,h2,h3⟩:=HT (lo:=lo) (B:=B) n
   have h1' :=ku.1 h1
   refine ⟨x,ku.2 ⟨h1'.1,by omega,h1'.2.2⟩,by omega,fun b hb=> ?_⟩
   have:=h3 b hb
   have hne:b≠lo+((n+1:Nat):Int):=fun e=>h (by rw [← e];simp [pT,hb])
   omega
def qE (L:List Rl):List Int:=L.flatMap fun r=> [r.rect.c1,r.rect.c2+1]
def qj (L:List Rl):List Int:=L.flatMap fun r=> [r.rect.r1,r.rect.r2+1]
theorem DV: ∀ L:List Rl,(qE L).length=2*L.length
 | []=>rfl
 |x::l=>by
  have:=DV l
  unfold qE at*
  rw [Rm,QT,this];simp only [Rx,SP];omega
theorem Cu: ∀ L:List Rl,(qj L).length=2*L.length
 | []=>rfl
 |x::l=>by
  have:=Cu l
  unfold qj at*
  rw [Rm,QT,this];simp only [Rx,SP];omega
theorem JL (L:List Rl) (x:Rl):qE (L++ [x])=qE L++ [x.rect.c1,x.rect.c2+1]:=by simp [qE]
theorem IY (L:List Rl) (x:Rl):qj (L++ [x])=qj L++ [x.rect.r1,x.rect.r2+1]:=by simp [qj]
def kV (a b:List Int):List Rf:=a.flatMap fun y=>b.map fun x=>⟨x,y⟩
def Ah (r:Rct) (L:List Rl):List Rf:=kV (tF r.r1 r.r2 (qj L)) (tF r.c1 r.c2 (qE L))
theorem yZ {a b:List Int} {p:Rf}:p∈kV a b↔p.row∈a∧p.col∈b:=by
 unfold kV
 simp only [Se,RG]
 constructor
 ·
  rintro ⟨y,hy,x,hx,rfl⟩;exact ⟨hy,hx⟩
 ·
  rintro ⟨hy,hx⟩;exact ⟨p.row,hy,p.col,hx,rfl⟩
theorem Jv (a b:List Int):(kV a b).length=a.length*b.length:=by
 unfold kV
 induction a with
 |nil=>simp
 |cons y l ih=>rw [Rm,QT,ih,RP,Rx,Nat.succ_mul];omega
theorem wK {lo hi x:Int} {B:List Int} (h:lo≤hi):x∈tF lo hi B↔lo≤x∧x≤hi∧pT lo B x=true:=by
 unfold tF
 rw [ku]
 constructor
 ·
  rintro ⟨h1,h2,h3⟩;exact ⟨h1,by omega,h3⟩
 ·
  rintro ⟨h1,h2,h3⟩;exact ⟨h1,by omega,h3⟩
theorem DQ {lo hi v:Int} {B:List Int} (h1:lo≤v) (h2:v≤hi): ∃ x,x∈tF lo hi B∧x≤v∧ ∀ b∈B,¬ (x<b∧b≤v):=by
 obtain ⟨x,h3,h4,h5⟩:=HT (lo:=lo) (B:=B) (v - lo).toNat
 have h3' :=ku.1 h3
 refine ⟨x,(wK (by omega)).2 ⟨h3'.1,by omega,h3'.2.2⟩,by omega,fun b hb=> ?_⟩
 have:=h5 b hb
 omega
theorem NC {r:Rct} {L:List Rl} (hr:aO r=true) {p:Rf} (h:p∈Ah r L):iZ r p=true:=by
 have hs:=cX.1 hr
 obtain ⟨h1,h2⟩:=yZ.1 h
 have h1:=(wK (by omega)).1 h1
 have h2:=(wK (by omega)).1 h2
 exact dc.2 (by omega)
theorem wQ {a p:Rf} {L:List Rl} (h: ∀ R∈L,iZ R.rect p=iZ R.rect a): ∀ n,n≤L.length→jE p L n=jE a L n
 |0,_=>rfl
 |n+1,hn=>by
  have hlt:n<L.length:=by omega
  rw [jE,jE,QV hlt,wQ h n (by omega)]
  simp only [Sm,S5]
  have e:=h _ (RN hlt)
  simp only [e]
theorem Lf {r:Rct} {L:List Rl} {a:Rf} (ha:iZ r a=true): ∃ p∈Ah r L,cR L p=cR L a:=by
 have ha:=dc.1 ha
 obtain ⟨y,hy1,hy2,hy3⟩:=DQ (lo:=r.r1) (hi:=r.r2) (v:=a.row) (B:=qj L) (by omega) (by omega)
 obtain ⟨x,hx1,hx2,hx3⟩:=DQ (lo:=r.c1) (hi:=r.c2) (v:=a.col) (B:=qE L) (by omega) (by omega)
 refine ⟨⟨x,y⟩,yZ.2 ⟨hy1,hx1⟩,wQ (fun R hR=> ?_) _ (Re _)⟩
 have c1:=hx3 R.rect.c1 (Se.2 ⟨R,hR,by simp⟩)
 have c2:=hx3 (R.rect.c2+1) (Se.2 ⟨R,hR,by simp⟩)
 have r1:=hy3 R.rect.r1 (Se.2 ⟨R,hR,by simp⟩)
 have r2:=hy3 (R.rect.r2+1) (Se.2 ⟨R,hR,by simp⟩)
 rw [RQ,dc,dc]
 simp only
 omega
def ovP (f:Rl→BitVec 64) (r:Rct) (L:List Rl):BitVec 64:=jU ((Ah r L).map fun a=>(L[cR L a]?.map f).getD 0#64)
theorem Pw {f:Rl→BitVec 64} {r:Rct} {L:List Rl} (hr:aO r=true) (hL: ∀ R∈L,aO R.rect=true):ovP f r L=yd f r L:=by
 apply TQ
 intro i hi
 rw [RQ,Ll hr hL hi]
 unfold ovP
 rw [Ea hi]
 simp only [RG,forall_exists_index,and_imp,forall_apply_eq_imp_iff₂]
 constructor
 ·
  intro h a ha
  obtain ⟨p,hp,he⟩:=Lf (L:=L) ha
  rw [← he];exact h p hp
 ·
  intro h p hp
  exact h p (NC hr hp)
end Go.SL
namespace Go.SL
open Go Go.Proofs
structure Ky where
 call:Cl
 fn:Int
 rect:Rct
 grant:Int
def oH (x:Ky):List Value:= [.int .i64 x.call.at_.col,.int .i64 x.call.at_.row,.int .i64 x.call.node,.int .u8 x.fn,.int .i64 x.rect.c1,.int .i64 x.rect.r1,.int .i64 x.rect.c2,.int .i64 x.rect.r2,.int .i64 x.grant]
@[reducible] def Dl (a:Ky):Value:= .agg (oH a).toArray
def abt (x:Rv):Ky:=⟨x.call,x.fn,x.rect,x.grant⟩
def JB (a b:Ky):Bool:=qB a.call b.call && decide (a.fn=b.fn) && eqR a.rect b.rect && decide (a.grant=b.grant)
theorem DH {a b:Ky}:JB a b=true↔a=b:=by
 obtain ⟨a0,a1,a2,a3⟩:=a
 obtain ⟨b0,b1,b2,b3⟩:=b
 simp [JB,jm,rO,and_assoc]
instance:DecidableEq Ky:=fun a b=>decidable_of_iff (JB a b=true) DH
theorem Mc (a b:Ky):JB a b=decide (a=b):=by
 rw [RQ,DH,decide_eq_true_iff]
theorem KX (w:World) (d:Nat) (a b:Ky):(Op.equalIn (d+7) 173 (.agg (oH a).toArray) (.agg (oH b).toArray)).run Tryz.prog w= .ok (JB a b) w:=by
 rw [run_equalIn_agg w (d+6) 173 _ _ (by rw [Program.fieldsOf,Tryz.underlying173]) Tryz.stoodInHeld173]
 simp only [Program.fieldsOf,Tryz.underlying173]
 have hq_C: ∀ w,(Op.equalIn (d+6) 60 (.agg #[.int .i64 a.call.at_.col,.int .i64 a.call.at_.row,.int .i64 a.call.node]) (.agg #[.int .i64 b.call.at_.col,.int .i64 b.call.at_.row,.int .i64 b.call.node])).run Tryz.prog w= .ok (qB a.call b.call) w:=fun w=>vX w (d+1) a.call b.call
 have hq_R: ∀ w,(Op.equalIn (d+6) 32 (.agg #[.int .i64 a.rect.c1,.int .i64 a.rect.r1,.int .i64 a.rect.c2,.int .i64 a.rect.r2]) (.agg #[.int .i64 b.rect.c1,.int .i64 b.rect.r1,.int .i64 b.rect.c2,.int .i64 b.rect.r2])).run Tryz.prog w= .ok (eqR a.rect b.rect) w:=fun w=>kJ w (d+3) a.rect b.rect
 simp [Op.eqFields,oH,part,go_sem,rY,uM,mq,mo,JB,hq_C,hq_R]
 by_cases h1:qB a.call b.call=true
 rotate_left
 ·
  simp [h1]
 by_cases h2:a.fn=b.fn
 rotate_left
 ·
  simp [h1,h2]
 by_cases h3:eqR a.rect b.rect=true
 rotate_left
 ·
  simp [h1,h2,h3]
 by_cases h4:a.grant=b.grant
 rotate_left
 ·
  simp [h1,h2,h3,h4]
 simp [h1,h2,h3,h4]
instance klaw_K:KLaw Tryz.prog 173 Dl:={
 check:=fun e k w=>by
  have h: ∀ m,(Instr.checkKey e (m+4) 173 (.agg (oH k).toArray)).run Tryz.prog w= .ok () w:=fun m=>by
   simp [Instr.checkKey,oH,part,go_sem,Tryz.underlying173,Tryz.underlying32,Tryz.underlying60,Tryz.underlying50]
  exact h 9996
 find:=fun k es w=>by
  refine Qz Tryz.underlying173 (fun k e w=>by have h:=KX w 9993 k e;rw [Mc] at h;exact h) (fun k es w h=> ?_) k es w
  have hu:=run_underlying (P:=Tryz.prog) (w:=w) Tryz.underlying173
  cases es with
  |nil=>simp only [Instr.findKey,Sq,Instr.findNow,Sem.run_bind,hu,Result.andThen_ok,Sem.run_pure,cD]
  |cons e es=>
   simp only [RA] at h ⊢
   simp only [Instr.findKey,Instr.findNow,fa,Instr.sameNow,Sem.run_bind,hu,Result.andThen_ok]
   exact h
 stays:=fun k w=>by
  have h:Instr.sameBits 10000 (.agg (oH k).toArray) (.agg (oH k).toArray)=true:=by
   have h: ∀ m,Instr.sameBits (m+1) (.agg (oH k).toArray) (.agg (oH k).toArray)=true:=fun m=>by simp [Instr.sameBits,oH]
   exact h 9999
  simp only [Instr.keyThatStays,h,if_true,Sem.run_pure] }
structure SetK {κ:Type} (es:List (κ × Value × Nat)) (S:List κ):Prop where
 mem: ∀ k,k∈es.map (fun e=>e.1)↔k∈S
 val: ∀ e∈es,e.2.1= .bool true
theorem tr {κ:Type} [DecidableEq κ] (k:κ): ∀ (es:List (κ × Value × Nat)) (i:Nat),k∈es.map (fun e=>e.1)→ ∃ j v,cD k es i=some (j,v)∧ ∃ e∈es,e.2.1=v
 | [],_,h=>by cases h
 |e::es,i,h=>by
  rw [cD]
  by_cases he:k=e.1
  ·
   rw [if_pos he];exact ⟨_,_,rfl,e,QY ..,rfl⟩
  ·
   rw [if_neg he]
   rw [RA,Rs] at h
   obtain ⟨j,v,h1,e',h2,h3⟩:=tr k es (i+1) (h.resolve_left he)
   exact ⟨j,v,h1,e',Rq _ h2,h3⟩
theorem tq {κ:Type} [DecidableEq κ] (k:κ): ∀ (es:List (κ × Value × Nat)) (i:Nat),k∉es.map (fun e=>e.1)→cD k es i=none
 | [],_,_=>rfl
 |e::es,i,h=>by
  rw [RA,Rs,not_or] at h
  rw [cD,if_neg h.1]
  exact tq k es (i+1) h.2
theorem SetK.nil {κ:Type}:SetK ([]:List (κ × Value × Nat)) []:=⟨fun _=>Iff.rfl,fun _ h=>by cases h⟩
theorem SetK.look {κ:Type} [DecidableEq κ] {es:List (κ × Value × Nat)} {S:List κ} (h:SetK es S) (k:κ):(match cD k es 0 with|some (_,v)=>v|none=>Value.bool false)= .bool (decide (k∈S)):=by
 by_cases hk:k∈S
 ·
  obtain ⟨j,v,h1,e,h2,h3⟩:=tr k es 0 ((h.mem k).2 hk)
  rw [h1,decide_eq_true hk]
  dsimp only
  rw [← h3,h.val e h2]
 ·
  rw [tq k es 0 (fun hm=>hk ((h.mem k).1 hm)),decide_eq_false hk]
theorem SetK.put {κ:Type} [DecidableEq κ] {es:List (κ × Value × Nat)} {S:List κ} (h:SetK es S) (k:κ) (clock:Nat):SetK (od k (.bool true) clock es).1 (S++ [k]):=by
 unfold od
 by_cases hk:k∈es.map (fun e=>e.1)
 ·
  obtain ⟨j,v,h1, -⟩:=tr k es 0 hk
  rw [h1]
  dsimp only
  obtain ⟨b,_,hb⟩:=lZ h1
  rw [SX] at hb
  have hmap:(es.modify j fun e=>(k,Value.bool true,e.2.2)).map (fun e=>e.1)=es.map (fun e=>e.1):=by
   apply TS
   intro i
   rw [RZ,RZ,Uc]
   by_cases e:j=i
   ·
    subst e;rw [hb];simp
   ·
    simp [e]
  refine ⟨fun x=> ?_,fun e he=> ?_⟩
  ·
   rw [hmap,h.mem,Ru,Rp]
   exact ⟨.inl,fun hh=>hh.elim id fun e=>e ▸ (h.mem k).1 hk⟩
  ·
   obtain ⟨i,hi,rfl⟩:=List.mem_iff_getElem.1 he
   rw [List.getElem_modify]
   split
   ·
    rfl
   ·
    exact h.val _ (RN _)
 ·
  rw [tq k es 0 hk]
  dsimp only
  refine ⟨fun x=> ?_,fun e he=> ?_⟩
  ·
   rw [RM,Ru,h.mem,Ru]
   exact Iff.rfl
  ·
   rcases Ru.1 he with he|he
   ·
    exact h.val e he
   ·
    rw [Rp.1 he]
def ep (L M:List Rv):List Rv:=L.filter fun x=> !decide (abt x∈M.map abt)
end Go.SL

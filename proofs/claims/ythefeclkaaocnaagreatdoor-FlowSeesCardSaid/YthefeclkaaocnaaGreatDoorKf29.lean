/-
  Lemmas and walks, put together: Hd Pg2 Hh Hi He.
-/
import Derived.Test.YthefeclkaaocnaaGreatDoorKf28
set_option linter.unusedSimpArgs false
set_option linter.unusedVariables false
set_option maxRecDepth 20000
namespace Go.SL
open Go Go.Proofs
attribute [local irreducible] W WL WQ WG WA WX WLI WR WT WC WE VOp RW thn blk bF scp ba aZ bC FnAt FnIn FnP ceP
theorem RK {L:List Int} {k:Nat} (h:k<L.length):(L.map gL)[0+k*1]? =some (gL L[k]):=by
 rw [Uc,Va,Uq,TJ h];rfl
theorem QE {L:List Int} {a k:Nat} (h:a+k<L.length):(L.map gL)[a*1+k*1]? =some (gL L[a+k]):=by
 rw [Va,Va,Uq,TJ h];rfl
set_option maxHeartbeats 4000000 in
theorem F3 (L:List Int) (A:Option Nat) (cap:Nat) (hL:L.length≤1000000) (R:List Blk) (w0:World):
    FnIn Tryz.prog 165 [sl A L.length cap] w0 (.own A 3 1 L.length cap (L.map gL)::R) fun v H=>v=sl A (gZ L).length cap∧H= .own A 3 1 (gZ L).length cap ((gZ L).map gL)::R:=by
  refine cF Tryz.func165 rfl Tryz.ntmps165 rfl ?_
  refine O1 (A:=A) .hd fun hle=> ?_
  by_cases h2:L.length<2
  · have hc:=FH (L:=L) (by omega)
    repeat' (first|refine sT ?_|refine sS ?_|refine sN ?_|refine sM fun _=> ?_|(refine sC ?_ ?_<;>intro hb<;>try omega)|fail)
    all_goals first
      |(exfalso;omega)
      |(refine cA eIO rfl rfl (.refl _) ?_;rw [hc];exact ⟨rfl,rfl⟩)
      |trace_state
  · refine bK (A:=A) .hd (by omega) fun g hA=> ?_
    subst hA
    repeat' (first|refine sT ?_|refine sS ?_|refine sN ?_|refine sM fun _=> ?_|(refine sC ?_ ?_<;>intro hb<;>try omega)|fail)
    all_goals try (exfalso;omega)
    refine ay [0] rfl (fun k:Nat=> [(3,.int .i64 (k:Int))]) (fun _=> .own (some g) 3 1 L.length cap (L.map gL)::R) (fun k=>1≤k∧k≤L.length∧gZ (L.take k)=L.take k) (fun k=>L.length - k) 1 ⟨TQ _,by omega,FH (by rw [Ue];omega)⟩ sB mS ?_
    rintro k ⟨hk1,hk,hck⟩
    by_cases hlt:k<L.length
    · have hr1:=RK hlt
      have hr2:=RK (L:=L) (k:=k - 1) (by omega)
      have hst:=Bf hlt hk1
      have htk:L.take (k+1)=L.take k++ [L[k]]:=by rw [TP hlt]
      obtain ⟨c,hc⟩: ∃ c,decide (L[k]=L[k - 1])=c:=⟨_,rfl⟩
      cases c with
      |false=>
        have hne: ¬ L[k]=L[k - 1]:=by simpa using hc
        rw [if_neg hne,hck,← htk] at hst
        repeat' (first|(apply aO;exact rfl;apply di;exact rfl;exact rfl;omega;(simp only [maxLen];omega))|(apply aO;exact rfl;apply aj (j:=k);exact rfl;exact rfl;omega)|(apply aO;exact rfl;apply aj (j:=k - 1);exact rfl;exact rfl;omega)|(apply aO;exact rfl;apply bG;exact rfl;exact pK;(first|exact hr1|exact hr2))|(apply aO;exact rfl;apply zO hc;exact rfl;exact rfl)|refine sT ?_|refine sS ?_|refine sQ ?_|refine sN ?_|refine sNQ ?_|refine sD ?_|refine sM fun _=> ?_|(refine sC ?_ ?_<;>intro hb<;>try omega)|(refine sCQ ?_ ?_<;>intro hb<;>try omega)|fail)
        all_goals first
          |(exfalso;omega)
          |(refine ⟨k+1,⟨by omega,hlt,hst⟩,by omega,by exact sB,by exact sB,by exact mS⟩;done)
          |trace_state
      |true=>
        have hne:L[k]=L[k - 1]:=by simpa using hc
        rw [if_pos hne,hck] at hst
        repeat' (first|(apply aO;exact rfl;apply di;exact rfl;exact rfl;omega;(simp only [maxLen];omega))|(apply aO;exact rfl;apply aj (j:=k);exact rfl;exact rfl;omega)|(apply aO;exact rfl;apply aj (j:=k - 1);exact rfl;exact rfl;omega)|(apply aO;exact rfl;apply bG;exact rfl;exact pK;(first|exact hr1|exact hr2))|(apply aO;exact rfl;apply zO hc;exact rfl;exact rfl)|(apply ak;exact rfl;apply p7 (lo:=k);exact rfl;exact rfl;omega;exact hle)|refine sT ?_|refine sS ?_|refine sQ ?_|refine sN ?_|refine sNQ ?_|refine sD ?_|refine sM fun _=> ?_|(refine sC ?_ ?_<;>intro hb<;>try omega)|(refine sCQ ?_ ?_<;>intro hb<;>try omega)|fail)
        all_goals try (exfalso;omega)
        refine ay [0,4] rfl (fun y:Nat × Nat × List Int=> [(5,.int .i64 (y.1:Int)),(3,.int .i64 (y.2.1:Int))]) (fun y=> .own (some g) 3 1 L.length cap (y.2.2.map gL)::R) (fun y=>1≤y.1∧k+y.1≤L.length∧y.2.1+1≤k+y.1∧y.2.2.length=L.length∧y.2.2.take y.2.1=gZ (L.take (k+y.1))∧ ∀ j,k+y.1≤j+1→y.2.2[j]? =L[j]?) (fun y=>L.length - y.1) (1,k,L) ⟨TQ _,by omega,TQ _,rfl,hst.symm,fun _ _=>rfl⟩ sB mS ?_
        rintro ⟨i,k',ys⟩ ⟨hi1,hi2,hi3,hi4,hi5,hi6⟩
        dsimp only at hi1 hi2 hi3 hi4 hi5 hi6 ⊢
        by_cases hli:k+i<L.length
        · have hy1:k+i<ys.length:=by omega
          have hr3:=QE (L:=ys) (a:=k) (k:=i) hy1
          have hr4:=QE (L:=ys) (a:=k) (k:=i - 1) (by omega)
          have he1:ys[k+i]=L[k+i]:=by
            have:=hi6 (k+i) (by omega)
            rw [TJ hy1,TJ hli] at this
            exact Option.some.inj this
          have he2:ys[k+(i - 1)]=L[k+i - 1]:=by
            have:=hi6 (k+(i - 1)) (by omega)
            rw [TJ (by omega),TJ (by omega)] at this
            rw [Option.some.inj this]
            congr 1
            omega
          rw [he1] at hr3
          rw [he2] at hr4
          have hst2:=Bf hli (by omega)
          obtain ⟨c,hc2⟩: ∃ c,decide (L[k+i]=L[k+i - 1])=c:=⟨_,rfl⟩
          cases c with
          |true=>
            rw [if_pos (by simpa using hc2)] at hst2
            repeat' (first|(apply aO;exact rfl;apply di;exact rfl;exact rfl;omega;(simp only [maxLen];omega))|(apply aO;exact rfl;apply aj (j:=i);exact rfl;exact rfl;omega)|(apply aO;exact rfl;apply aj (j:=i - 1);exact rfl;exact rfl;omega)|(apply aO;exact rfl;apply bG;exact rfl;exact pK;(first|exact hr3|exact hr4))|(apply aO;exact rfl;apply zM hc2;exact rfl;exact rfl)|refine sT ?_|refine sS ?_|refine sQ ?_|refine sN ?_|refine sNQ ?_|refine sD ?_|refine sM fun _=> ?_|(refine sC ?_ ?_<;>intro hb<;>try omega)|(refine sCQ ?_ ?_<;>intro hb<;>try omega)|fail)
            all_goals first
              |(exfalso;omega)
              |(refine ⟨(i+1,k',ys),⟨by dsimp only;omega,by dsimp only;omega,by dsimp only;omega,hi4,by dsimp only;rw [hi5,← Nat.add_assoc,hst2],fun j hj=>hi6 j (by omega)⟩,by dsimp only;omega,by exact sB,by exact sB,by exact mS⟩;done)
              |trace_state
          |false=>
            rw [if_neg (by simpa using hc2)] at hst2
            have hput:(ys.map gL).set (0+k' *1) (gL L[k+i])=(ys.set k' L[k+i]).map gL:=by rw [Uc,Va,List.map_set]
            repeat' (first|(apply aO;exact rfl;apply di;exact rfl;exact rfl;omega;(simp only [maxLen];omega))|(apply aO;exact rfl;apply aj (j:=i);exact rfl;exact rfl;omega)|(apply aO;exact rfl;apply aj (j:=i - 1);exact rfl;exact rfl;omega)|(apply aO;exact rfl;apply bG;exact rfl;exact pK;(first|exact hr3|exact hr4))|(apply aO;exact rfl;apply zM hc2;exact rfl;exact rfl)|(apply ak (d:=49);exact rfl;apply aj (j:=i);exact rfl;exact rfl;omega)|(apply ak (d:=51);exact rfl;apply aj (j:=k');exact rfl;exact rfl;omega)|(apply ak;exact rfl;apply bG;exact rfl;exact pK;exact hr3)|(apply jZ (v:=gL L[k+i]) (off:=0+k' *1);exact rfl;exact rfl;exact pK;exact rfl;(rw [Uf,hi4];omega);rw [hput])|refine sT ?_|refine sS ?_|refine sQ ?_|refine sN ?_|refine sNQ ?_|refine sD ?_|refine sM fun _=> ?_|(refine sC ?_ ?_<;>intro hb<;>try omega)|(refine sCQ ?_ ?_<;>intro hb<;>try omega)|fail)
            all_goals first
              |(exfalso;omega)
              | (refine ⟨(i + 1, k' + 1, ys.set k' L[k + i]), ⟨by dsimp only; omega, by dsimp only; omega, by dsimp only; omega, by dsimp only; rw [List.length_set, hi4], ?_, fun j hj => ?_⟩, by dsimp only; omega, by exact sB, by exact sB, by exact mS⟩
                 · dsimp only
                   rw [TP (by rw [V9];omega),List.take_set_of_le (TQ _),hi5,List.getElem_set_self,← UV,hst2]
                 · dsimp only at hj ⊢
                   rw [List.getElem?_set_ne (by omega)]
                   exact hi6 j (by omega))
              |trace_state
        · have hli2:k+i=L.length:=by omega
          rw [hli2,Ux] at hi5
          have hcl:(gZ L).length=k' :=by rw [← hi5,Ue,hi4];omega
          have hk'L:k' <L.length:=by omega
          repeat' (first|(apply ak;exact rfl;apply p7 (lo:=k');exact rfl;exact rfl;omega;exact hle)|(apply Di (sz:=1) (k:=k') (n' :=L.length);exact rfl;omega;exact pK;(intro u hu;simp [Value.cells] at hu;subst hu;rfl);exact rfl)|(apply ak;exact rfl;apply zL (hi:=k');exact rfl;exact rfl;omega)|refine sT ?_|refine sS ?_|refine sN ?_|refine sM fun _=> ?_|(refine sC ?_ ?_<;>intro hb<;>try omega)|fail)
          all_goals first
            |(exfalso;omega)
            | (refine cA eIO rfl rfl (H' := .own (some g) 3 1 k' cap ((ys.map gL).take (k' * 1)) :: R) mS ?_
               rw [Va,← List.map_take,hi5,hcl]
               exact ⟨rfl,rfl⟩)
            |trace_state
    · have hkl:k=L.length:=by omega
      rw [hkl,Ux] at hck
      repeat' (first|refine sT ?_|refine sS ?_|refine sN ?_|refine sM fun _=> ?_|(refine sC ?_ ?_<;>intro hb<;>try omega)|fail)
      all_goals first
        |(exfalso;omega)
        |(refine cA eIO rfl rfl (.refl _) ?_;rw [hck];exact ⟨rfl,rfl⟩)
        |trace_state
end Go.SL
namespace Go.SL
open Go
def oo (a:Rf) (L:List Rl):Nat→Nat
 |0=>0
 |n+1=>if cj ((L[n]?.map (·.rect)).getD aS) a=true then n else oo a L n
def gh (L:List Rl) (a:Rf):Nat:=oo a L L.length
theorem EW (a:Rf) (L:List Rl): ∀ n,oo a L n≤n - 1
 |0=>TQ _
 |n+1=>by
  rw [oo];split
  ·
   exact TQ _
  ·
   have:=EW a L n;omega
theorem NJ {a:Rf} {L:List Rl} (h:L≠ []):gh L a<L.length:=by
 have:=EW a L L.length
 have h2:0<L.length:=UX.2 h
 unfold gh;omega
theorem J6 {r:Rct} {L:List Rl} (h:L≠ []):jd r L<L.length:=by
 have:=zG r L L.length
 have h2:0<L.length:=UX.2 h
 unfold jd;omega
theorem fA {r:Rct}:aH r=true↔1≤r.c1∧r.c1≤r.c2∧r.c2≤1024∧1≤r.r1∧r.r1≤r.r2∧r.r2≤1024:=by
 unfold aH valid
 simp only [TU,decide_eq_true_eq]
 omega
structure CellOf (r:Rct) (A B:List Rl) (y x:Int × Int):Prop where
 row:y∈cX r.r1 r.r2 (bf r A++bf r B)
 col:x∈cX r.c1 r.c2 (bg r A++bg r B)
def gx (y x:Int × Int):Rct:=⟨x.1,y.1,x.2,y.2⟩
theorem wB {α:Type} {p:List α→Prop} (h0:p []) (h1: ∀ l a,p l→p (l++ [a])) (l:List α):p l:=by
 have h: ∀ m:List α,p m.reverse:=fun m=>by
  induction m with
  |nil=>exact h0
  |cons a m ih=>rw [List.reverse_cons];exact h1 _ _ ih
 have:=h l.reverse
 rwa [List.reverse_reverse] at this
theorem Sc {l:List Pz} {p:Pz} {k:Nat}:k∈(kY l p).map (·.a)↔k∈l.map (·.a)∨k=p.a:=by
 unfold kY
 cases h:l.getLast? with
 |none=>
  rw [List.getLast?_eq_none_iff.1 h];simp
 |some q=>
  have hne:l≠ []:=fun e=>by rw [e] at h;cases h
  have hq:l.getLast hne=q:=by rw [List.getLast?_eq_some_getLast hne] at h;exact Option.some.inj h
  have he:=Vm hne
  rw [hq] at he
  dsimp only
  split
  ·
   rename_i hs
   rw [UG,Ub]
   conv=>rhs;rw [← he]
   rw [UG,Ub]
   simp only [Ud,UQ,TX]
   rw [← hs.1]
   exact ⟨.inl,fun h=>h.elim id .inr⟩
  ·
   rw [UG,Ub];simp
theorem QB {A B:List Rl} {y:Int × Int} {k:Nat} (xs:List (Int × Int)):k∈(kP A B y xs).map (·.a)↔ ∃ x∈xs,k=(o6 A B y x).a:=by
 induction xs using wB with
 |h0=>simp [kP]
 |h1 xs x ih=>
  rw [mA,Sc,ih]
  simp only [Ub,TX]
  constructor
  ·
   rintro (⟨z,hz,h⟩|h)
   ·
    exact ⟨z,.inl hz,h⟩
   ·
    exact ⟨x,.inr rfl,h⟩
  ·
   rintro ⟨z,hz|rfl,h⟩
   ·
    exact .inl ⟨z,hz,h⟩
   ·
    exact .inr h
theorem Cc {r:Rct} {A B:List Rl} {k:Nat}:k∈(eK r A B).map (·.a)↔ ∃ y x,CellOf r A B y x∧k=(o6 A B y x).a:=by
 unfold eK
 rw [List.map_flatMap,UM]
 constructor
 ·
  rintro ⟨y,hy,h⟩
  obtain ⟨x,hx,h2⟩:=(QB _).1 h
  exact ⟨y,x,⟨hy,hx⟩,h2⟩
 ·
  rintro ⟨y,x,h,h2⟩
  exact ⟨y,h.row,(QB _).2 ⟨x,h.col,h2⟩⟩
def NE (p q:Pz):Prop:=p.rect.r1<q.rect.r1∨(p.rect.r1=q.rect.r1∧p.rect.c1<q.rect.c1)
theorem NT {l:List Pz} {p:Pz} {y c:Int} (hp:p.rect.r1=y) (hl: ∀ q∈l,q.rect.r1=y∧q.rect.c1<p.rect.c1) (hc:p.rect.c1≤c) (hs:l.Pairwise NE):(kY l p).Pairwise NE∧ ∀ q∈kY l p,q.rect.r1=y∧q.rect.c1≤c:=by
 unfold kY
 cases h:l.getLast? with
 |none=>
  exact ⟨U4 _ _,fun q hq=>by rw [TX.1 hq];exact ⟨hp,hc⟩⟩
 |some q=>
  have hne:l≠ []:=fun e=>by rw [e] at h;cases h
  have hq:l.getLast hne=q:=by rw [List.getLast?_eq_some_getLast hne] at h;exact Option.some.inj h
  have he:=Vm hne
  rw [hq] at he
  have hql:q∈l:=by rw [← hq];exact List.getLast_mem hne
  dsimp only
  split
  ·
   rw [← he] at hs
   obtain ⟨s1,_,s3⟩:=Vd.1 hs
   refine ⟨Vd.2 ⟨s1,U4 _ _,fun a ha b hb=> ?_⟩,fun a ha=> ?_⟩
   ·
    rw [TX.1 hb]
    exact s3 a ha q (TX.2 rfl)
   ·
    rcases Ub.1 ha with ha|ha
    ·
     have:=hl a (List.dropLast_subset l ha);omega
    ·
     rw [TX.1 ha]
     have:=hl q hql;simp only;omega
  ·
   refine ⟨Vd.2 ⟨hs,U4 _ _,fun a ha b hb=> ?_⟩,fun a ha=> ?_⟩
   ·
    rw [TX.1 hb]
    have:=hl a ha
    exact .inr ⟨by omega,this.2⟩
   ·
    rcases Ub.1 ha with ha|ha
    ·
     have:=hl a ha;omega
    ·
     rw [TX.1 ha];exact ⟨hp,hc⟩
theorem rq {A B:List Rl} {y:Int × Int} (xs:List (Int × Int)) (hs:xs.Pairwise fun p q=>p.1<q.1):(kP A B y xs).Pairwise NE∧ ∀ q∈kP A B y xs,q.rect.r1=y.1∧ ∃ x∈xs,q.rect.c1≤x.1:=by
 induction xs using wB with
 |h0=>exact ⟨.nil,fun q hq=>by cases hq⟩
 |h1 xs x ih=>
  obtain ⟨s1,_,s3⟩:=Vd.1 hs
  obtain ⟨i1,i2⟩:=ih s1
  rw [mA]
  have:=NT (l:=kP A B y xs) (p:=o6 A B y x) (y:=y.1) (c:=x.1) rfl (fun q hq=>by
   obtain ⟨h1,z,hz,h2⟩:=i2 q hq
   have:=s3 z hz x (TX.2 rfl)
   exact ⟨h1,by show q.rect.c1<x.1;omega⟩) (Vw _) i1
  exact ⟨this.1,fun q hq=>⟨(this.2 q hq).1,x,by simp,(this.2 q hq).2⟩⟩
theorem Cb (r:Rct) (A B:List Rl):(eK r A B).Pairwise NE:=by
 unfold eK
 have hx:(cX r.c1 r.c2 (bg r A++bg r B)).Pairwise fun p q=>p.1<q.1:=by
  refine (tK _ _ _).imp_of_mem fun {p q} hp _ h=> ?_
  have:=fK hp;omega
 have hy:(cX r.r1 r.r2 (bf r A++bf r B)).Pairwise fun p q=>p.1<q.1:=by
  refine (tK _ _ _).imp_of_mem fun {p q} hp _ h=> ?_
  have:=fK hp;omega
 generalize cX r.r1 r.r2 (bf r A++bf r B)=ys at hy
 generalize cX r.c1 r.c2 (bg r A++bg r B)=xs at hx
 induction ys with
 |nil=>exact .nil
 |cons y ys ih=>
  obtain ⟨k1,k2⟩:=Un.1 hy
  rw [T9]
  refine Vd.2 ⟨(rq xs hx).1,ih k2,fun p hp q hq=> ?_⟩
  obtain ⟨z,hz,hq⟩:=UM.1 hq
  have h1:=((rq (A:=A) (B:=B) (y:=y) xs hx).2 p hp).1
  have h2:=((rq (A:=A) (B:=B) (y:=z) xs hx).2 q hq).1
  have h3:=k1 z hz
  exact .inl (by omega)
end Go.SL
namespace Go.SL
open Go Go.Proofs
attribute [local irreducible] W WL WQ WG WA WX WLI WR WT WC WE VOp RW thn blk bF scp ba aZ bC FnAt FnIn FnP ceP
--
def dL (p:Int × Int):List Value:= [.int .i64 p.1,.int .i64 p.2]
theorem kI (p:Int × Int):(dL p).length=2:=rfl
theorem FM (lo:Int) (ps:List (Int × Int)) (p:Int × Int):dJ lo (ps++ [p])=dJ lo ps++ [p.1,p.2+1]:=by
 unfold dJ;simp
def rH (lo hi x:Int):Bool:=decide (lo≤x) && decide (x≤hi)
theorem KP {l:List Int} {h x:Int} (hl:l≠ []):((eL l h).flatMap dL).set (0+((eL l h).length - 1)*2+1) (gL (x - 1))=(eL l (x - 1)).flatMap dL:=by
 obtain ⟨f,a,h1,h2⟩:=EH l h (x - 1) hl
 rw [h1,h2]
 simp only [Ua,TG,TH,VJ,T9,Up,TR,dL]
 rw [VL _ _ (by rw [aR kI];omega),aR kI]
 congr 1
 rw [show 0+f.length*2+1 - f.length*2=1 by omega]
 rfl
set_option maxHeartbeats 8000000 in
theorem FN (lo hi:Int) (ps:List (Int × Int)) (lv:Value) (w:World) (hl:Reads w lv ps.length (ps.flatMap dL)) (hn:ps.length≤100000) (hlo:0≤lo∧lo≤100000) (hhi:0≤hi∧hi≤100000) (hps: ∀ p∈ps,0≤p.1∧p.1≤100000∧0≤p.2∧p.2≤100000):
    FnAt Tryz.prog 131 [.int .i64 lo,.int .i64 hi,lv] w fun v H=> ∃ A cap,v=sl A (cX lo hi ps).length cap∧H= [.own A 143 2 (cX lo hi ps).length cap ((cX lo hi ps).flatMap dL)]:=by
  obtain ⟨Al,cl,rfl,hl1,hl2,hl3⟩:=hl
  refine ax Tryz.func131 rfl Tryz.ntmps131 rfl ?_
  repeat' (first|refine sT ?_|refine sS ?_|refine sT2 ?_|refine sM fun _=> ?_|(refine sC ?_ ?_<;>intro hb<;>try omega)|fail)
  rename_i gb
  refine ay [0,1,15,16] rfl (fun y:Nat × Option Nat × Nat=> [(7,sl y.2.1 (1+2*y.1) y.2.2),(17,.int .i64 (y.1:Int))]) (fun y=> [.own y.2.1 3 1 (1+2*y.1) y.2.2 ((dJ lo (ps.take y.1)).map gL)]) (fun y=>y.1≤ps.length) (fun y=>ps.length - y.1) (0,some gb,1) (TW _) sB mS ?_
  rintro ⟨i,A,c⟩ hi0
  dsimp only at hi0 ⊢
  by_cases hlt:i<ps.length
  · obtain ⟨gl,ol,rfl,hrl⟩:=hl3 (by omega)
    have he1:=hrl.elem kI i hlt
    have hbs:dJ lo (ps.take (i+1))=dJ lo (ps.take i)++ [ps[i].1,ps[i].2+1]:=by rw [TP hlt,FM]
    have hpb:=hps _ (UA hlt)
    generalize ps[i]=p at he1 hbs hpb
    repeat' (first|(apply bi (A:=A) (m:=2);(iterate 3 exact rfl);exact pK;(intro w hm;exact hm.cells_own pK);exact rfl;(simp [Value.oneCell',sl]);omega;(simp only [maxLen];omega);(intro A' cap' hA'))|refine sT ?_|refine sS ?_|refine sT2 ?_|refine sN ?_|refine sJ ?_|refine sO ?_|refine sM fun _=> ?_|(refine sC ?_ ?_<;>intro hb<;>try omega)|fail)
    all_goals first
      |(exfalso;omega)
      | (refine ⟨(i + 1, A', cap'), hlt, by dsimp only; omega, by exact sB, by exact sB, ?_⟩
         dsimp only
         rw [hbs,UG]
         exact mS)
      |trace_state
  · have e:i=ps.length:=by omega
    subst e
    rw [Ux]
    have hbl:=vN lo ps
    have hs1:=fun (R:List Blk)=>DS (dJ lo ps) A c (by omega) R w
    have hsl:(jX (dJ lo ps)).length=1+2*ps.length:=by rw [(ji _).length_eq,hbl]
    have hs2:=fun (R:List Blk)=>F3 (jX (dJ lo ps)) A c (by omega) R w
    rw [hbl] at hs1
    rw [hsl] at hs2
    have hcl:=yP (jX (dJ lo ps))
    rw [hsl] at hcl
    have hcut:yN lo hi ps=(gZ (jX (dJ lo ps))).filter (rH lo hi):=rfl
    have hbd: ∀ x∈gZ (jX (dJ lo ps)),0≤x∧x≤100001:=fun x hx=>by
      rw [pg,(ji _).mem_iff,dJ,TS,UM] at hx
      rcases hx with rfl|⟨p,hp,hx⟩
      · omega
      · have:=hps p hp
        simp at hx
        omega
    unfold cX
    rw [hcut]
    generalize gZ (jX (dJ lo ps))=C at hs2 hcl hbd
    refine aW 143 2 ?_
    repeat' (first|(apply au (f:=164);exact rfl;exact rfl;exact FnIn.msub (hs1 _) (MSub.pick pK (MSub.refl _));rintro _ _ ⟨rfl,rfl⟩)|(apply au (f:=165);exact rfl;exact rfl;exact FnIn.msub (hs2 _) (MSub.pick pK (MSub.refl _));rintro _ _ ⟨rfl,rfl⟩)|refine sT ?_|refine sS ?_|refine sT2 ?_|refine sN ?_|refine sM fun _=> ?_|(refine sC ?_ ?_<;>intro hb<;>try omega)|fail)
    all_goals try (exfalso;omega)
    refine ay [0,1,33,34] rfl (fun y:Nat × Option Nat × Nat=> [(10,sl y.2.1 (eL ((C.take y.1).filter (rH lo hi)) hi).length y.2.2),(35,.int .i64 (y.1:Int))]) (fun y=> [.own y.2.1 143 2 (eL ((C.take y.1).filter (rH lo hi)) hi).length y.2.2 ((eL ((C.take y.1).filter (rH lo hi)) hi).flatMap dL),.own A 3 1 C.length c (C.map gL)]) (fun y=>y.1≤C.length) (fun y=>C.length - y.1) (0,none,0) (TW _) sB mS ?_
    rintro ⟨k,A2,c2⟩ hk
    dsimp only at hk ⊢
    by_cases hlk:k<C.length
    · refine bK (A:=A) pK (by omega) fun gc hA=> ?_
      subst hA
      have hrd:(C.map gL)[0+k*1]? =some (.int .i64 C[k]):=RK hlk
      have hxb:=hbd _ (UA hlk)
      have hfs:(C.take (k+1)).filter (rH lo hi)=if rH lo hi C[k]=true then (C.take k).filter (rH lo hi)++ [C[k]] else (C.take k).filter (rH lo hi):=by
        rw [TP hlk,List.filter_append]
        cases h:rH lo hi C[k]<;>simp [h]
      have hfl:((C.take k).filter (rH lo hi)).length≤300000:=Uo (VC _ _) (by rw [Ue];omega)
      generalize hx:C[k]=x at hrd hxb hfs
      generalize hF:(C.take k).filter (rH lo hi)=Fk at hfs hfl
      have hpl:=nF hi Fk
      by_cases hin:lo≤x∧x≤hi
      · have hin2:rH lo hi x=true:=by simp [rH,hin.1,hin.2]
        rw [if_pos hin2] at hfs
        have hsn:=lG x hi Fk
        rw [← hfs] at hsn
        have hpl2:=nF (x - 1) Fk
        by_cases h0:Fk= []
        · subst h0
          rw [show eL [] (x - 1)= [] from rfl,TL] at hsn
          repeat' (first|(apply ak (d:=37);exact rfl;apply aj (j:=k);exact rfl;exact rfl;exact hlk)|(apply ak (d:=38);exact rfl;apply bG;exact rfl;exact pK;exact hrd)|(apply ak;exact rfl;apply qa;(iterate 5 exact rfl))|(apply bi (A:=A2) (m:=1);(iterate 3 exact rfl);exact pK;(intro w hm;exact hm.cells_own pK);exact rfl;(simp [Value.oneCell',sl]);omega;(simp only [maxLen];omega);(intro A' cap' hA'))|refine sT ?_|refine sS ?_|refine sT2 ?_|refine sN ?_|refine sJ ?_|refine sO ?_|refine sM fun _=> ?_|(refine sC ?_ ?_<;>intro hb<;>try omega)|fail)
          all_goals first
            |(exfalso;omega)
            | (refine ⟨(k + 1, A', cap'), hlk, by dsimp only; omega, ?_, by exact sB, ?_⟩
               · dsimp only;rw [hsn];exact sB
               · dsimp only;rw [hsn];exact mS)
            |trace_state
        · have hpos:0<Fk.length:=UX.2 h0
          have hset:=KP (h:=hi) (x:=x) h0
          rw [hpl] at hset
          refine bK (A:=A2) pK (by omega) fun g2 hA=> ?_
          subst hA
          rw [hpl]
          repeat' (first|(apply ak (d:=37);exact rfl;apply aj (j:=k);exact rfl;exact rfl;exact hlk)|(apply ak (d:=38);exact rfl;apply bG;exact rfl;exact pK;exact hrd)|(apply ak (d:=53);exact rfl;apply di (a:=Fk.length);exact rfl;exact rfl;omega;(simp only [maxLen];omega))|(apply ak (d:=56);exact rfl;apply aj (j:=Fk.length - 1);exact rfl;exact rfl;omega)|(apply jZ (v:=gL (x - 1)) (off:=0+(Fk.length - 1)*2+1);exact rfl;exact rfl;exact pK;exact rfl;(rw [aR kI,hpl];omega);rw [hset])|(apply ak;exact rfl;apply qa;(iterate 5 exact rfl))|(apply bi (A:=some g2) (m:=1);(iterate 3 exact rfl);exact pK;(intro w hm;exact hm.cells_own pK);exact rfl;(simp [Value.oneCell',sl]);omega;(simp only [maxLen];omega);(intro A' cap' hA'))|refine sT ?_|refine sS ?_|refine sT2 ?_|refine sN ?_|refine sJ ?_|refine sO ?_|refine sM fun _=> ?_|(refine sC ?_ ?_<;>intro hb<;>try omega)|fail)
          all_goals first
            |(exfalso;omega)
            | (refine ⟨(k + 1, A', cap'), hlk, by dsimp only; omega, ?_, by exact sB, ?_⟩
               · dsimp only;rw [hsn,List.length_append,hpl2];exact sB
               · dsimp only;rw [hsn,List.length_append,hpl2,List.flatMap_append];exact mS)
            |trace_state
      · have hin2: ¬ rH lo hi x=true:=by simp only [rH,TU,decide_eq_true_eq];exact hin
        rw [if_neg hin2] at hfs
        repeat' (first|(apply ak (d:=37);exact rfl;apply aj (j:=k);exact rfl;exact rfl;exact hlk)|(apply ak (d:=38);exact rfl;apply bG;exact rfl;exact pK;exact hrd)|refine sT ?_|refine sS ?_|refine sT2 ?_|refine sN ?_|refine sJ ?_|refine sO ?_|refine sM fun _=> ?_|(refine sC ?_ ?_<;>intro hb<;>try omega)|fail)
        all_goals first
          |(exfalso;omega)
          | (refine ⟨(k + 1, A2, c2), hlk, by dsimp only; omega, ?_, by exact sB, ?_⟩
             · dsimp only;rw [hfs];exact sB
             · dsimp only;rw [hfs];exact mS)
          |trace_state
    · have e:k=C.length:=by omega
      subst e
      rw [Ux]
      repeat' (first|refine sT ?_|refine sS ?_|refine sT2 ?_|refine sM fun _=> ?_|(refine sC ?_ ?_<;>intro hb<;>try omega)|fail)
      all_goals first
        |(exfalso;omega)
        |(exact cA eIO rfl rfl mS ⟨A2,c2,rfl,rfl⟩)
        |trace_state
end Go.SL
namespace Go.SL
open Go Go.Proofs
def mR (p:Nat × Nat):List Value:= [.int .i64 (p.1:Int),.int .i64 (p.2:Int)]
theorem MS (w:World) (d:Nat) (a b:Nat × Nat):(Op.equalIn (d+5) 143 (.agg (mR a).toArray) (.agg (mR b).toArray)).run Tryz.prog w= .ok (decide (a=b)) w:=by
 obtain ⟨i,h1,h2⟩:=(inferInstance:Size Tryz.prog 3 1).out
 have hc:Tryz.prog.cellsOf 3=1:=by kernel_rfl
 rw [run_equalIn_array w (d+4) (mR a).toArray (mR b).toArray Tryz.underlying143 h1,hc,show List.range 2= [0,1] from rfl]
 have hr: ∀ (a b:Int) w,(Op.equalIn (d+4) 3 (.int .i64 a) (.int .i64 b)).run Tryz.prog w= .ok (a==b) w:=fun a b w=>run_equalIn_int w (d+3) 3 .i64 .i64 a b Tryz.underlying3
 have hpa: ∀ (c:Nat × Nat) w,(part 3 (mR c).toArray 0).run Tryz.prog w= .ok (.int .i64 (c.1:Int)) w:=by
  intro c w
  simp [part,go_sem,mR]
 have hpb: ∀ (c:Nat × Nat) w,(part 3 (mR c).toArray 1).run Tryz.prog w= .ok (.int .i64 (c.2:Int)) w:=by
  intro c w
  simp [part,go_sem,mR]
 have he:decide (a=b)=((a.1:Int)==b.1 && (a.2:Int)==b.2):=by
  obtain ⟨a1,a2⟩:=a
  obtain ⟨b1,b2⟩:=b
  rw [Uy]
  simp
  omega
 rw [he]
 by_cases h1:((a.1:Int)==b.1)=true<;>by_cases h2:((a.2:Int)==b.2)=true<;>simp [Op.eqItems,hpa,hpb,hr,h1,h2]
theorem Jc {w0:World} {s:aB} {H:List Blk} {ty t' :TypeId} {x y:Operand} {a b:Nat × Nat} {c:Bool} (hc:decide (a=b)=c) (hx:ev s x=some (.agg (mR a).toArray)) (hy:ev s y=some (.agg (mR b).toArray)):VOp Tryz.prog w0 s H (.binOp .eql 143 x y t') ty (.bool c):=fun ρ w _ _ _ _ hρ _=>by
 subst hc
 have h:=MS w 9995 a b
 simp only [Nat.reduceAdd] at h
 simp only [execOp,hρ x _ hx,hρ y _ hy,Sem.run_bind,run_eqGuard_agg w _ _ _ _ _ _ Tryz.eqGuardType143,Result.andThen_ok,run_eql_struct,h,Sem.run_pure]
end Go.SL
namespace Go.SL
open Go Go.Proofs
attribute [local irreducible] W WL WQ WG WA WX WLI WR WT WC WE VOp RW thn blk bF scp ba aZ bC FnAt FnIn FnP ceP
theorem JD {a b:Rct} (h:(dZ a b).2=true):aH (dZ a b).1=true:=by
 unfold dZ at h ⊢
 split at h
 ·
  rename_i hall
  rw [if_pos hall]
  simp only [VA,List.all_nil,Wg,TU] at hall
  exact hall.2.2
 ·
  cases h
theorem FF (r:Rct) (L:List Rl) (x:Rl):bg r (L++ [x])=bg r L++if (dZ x.rect r).2=true then [((dZ x.rect r).1.c1,(dZ x.rect r).1.c2)] else []:=by
 unfold bg;simp
theorem Eb (r:Rct) (L:List Rl) (x:Rl):bf r (L++ [x])=bf r L++if (dZ x.rect r).2=true then [((dZ x.rect r).1.r1,(dZ x.rect r).1.r2)] else []:=by
 unfold bf;simp
theorem fG (r:Rct): ∀ L:List Rl,(bg r L).length≤L.length
 | []=>TQ _
 |x::L=>by
  have:=fG r L
  unfold bg at this ⊢
  rw [T9,TG]
  split<;>simp only [TZ,U2]<;>omega
theorem fw (r:Rct): ∀ L:List Rl,(bf r L).length≤L.length
 | []=>TQ _
 |x::L=>by
  have:=fw r L
  unfold bf at this ⊢
  rw [T9,TG]
  split<;>simp only [TZ,U2]<;>omega
theorem tG {r:Rct} {L:List Rl}: ∀ p∈bg r L,0≤p.1∧p.1≤100000∧0≤p.2∧p.2≤100000:=fun p hp=>by
 obtain ⟨x,_,hx⟩:=UM.1 hp
 split at hx
 ·
  rename_i h
  have:=fA.1 (JD h)
  rw [TX.1 hx]
  simp only;omega
 ·
  cases hx
theorem sA {r:Rct} {L:List Rl}: ∀ p∈bf r L,0≤p.1∧p.1≤100000∧0≤p.2∧p.2≤100000:=fun p hp=>by
 obtain ⟨x,_,hx⟩:=UM.1 hp
 split at hx
 ·
  rename_i h
  have:=fA.1 (JD h)
  rw [TX.1 hx]
  simp only;omega
 ·
  cases hx
def vp (g:Nat) (A:Option Nat) (c:Nat) (C:List (Int × Int)):List Blk:= [.box g 210 [sl A C.length c],.own A 143 2 C.length c (C.flatMap dL)]
set_option maxHeartbeats 8000000 in
theorem JB (r:Rct) (L:List Rl) (lv:Value) (gr gc gw:Nat) (A1 A2:Option Nat) (c1 c2:Nat) (C D:List (Int × Int)) (R:List Blk) (w0:World) (hl:Reads w0 lv L.length (L.flatMap bM)) (hC:C.length+L.length≤100000) (hD:D.length+L.length≤100000):
  FnIn Tryz.prog 129 [lv,.pointer (some ⟨gr,0,none⟩),.pointer (some ⟨gc,0,none⟩),.pointer (some ⟨gw,0,none⟩)] w0 (.box gr 33 (aN r)::(vp gc A1 c1 C++(vp gw A2 c2 D++R))) fun v H=>
   v= .tuple #[]∧ ∃ A1' c1' A2' c2',H= .box gr 33 (aN r)::(vp gc A1' c1' (C++bg r L)++(vp gw A2' c2' (D++bf r L)++R)):=by
 obtain ⟨Al,cl,rfl,hl1,hl2,hl3⟩:=hl
 refine cF Tryz.func129 rfl Tryz.ntmps129 rfl ?_
 simp only [vp,TT,TK,TL]
 repeat' (first|refine sT ?_|refine sS ?_|refine sM fun _=> ?_|(refine sC ?_ ?_<;>intro hb<;>try omega)|fail)
 refine ay [1,2,3,9,10] rfl (fun y:Nat × Option Nat × Nat × Option Nat × Nat=> [(11,.int .i64 (y.1:Int))]) (fun y=> .box gr 33 (aN r):: .box gc 210 [sl y.2.1 (C++bg r (L.take y.1)).length y.2.2.1]:: .own y.2.1 143 2 (C++bg r (L.take y.1)).length y.2.2.1 ((C++bg r (L.take y.1)).flatMap dL):: .box gw 210 [sl y.2.2.2.1 (D++bf r (L.take y.1)).length y.2.2.2.2]:: .own y.2.2.2.1 143 2 (D++bf r (L.take y.1)).length y.2.2.2.2 ((D++bf r (L.take y.1)).flatMap dL)::R) (fun y=>y.1≤L.length) (fun y=>L.length - y.1) (0,A1,c1,A2,c2) (TW _) sB (by simp only [U7,bg,bf,Up,TR];exact mS) ?_
 rintro ⟨i,A1,c1,A2,c2⟩ hi
 dsimp only at hi ⊢
 by_cases hlt:i<L.length
 ·
  obtain ⟨gl,ol,rfl,hrl⟩:=hl3 (by omega)
  have he1:=hrl.elem dz i hlt
  have hcs:=FF r (L.take i) L[i]
  have hws:=Eb r (L.take i) L[i]
  rw [← TP hlt] at hcs hws
  have hcl:=fG r (L.take i)
  have hwl:=fw r (L.take i)
  rw [Ue] at hcl hwl
  generalize L[i]=x at he1 hcs hws
  have hM:=fun w=>CZ x.rect r w
  generalize dZ x.rect r=mt at hM hcs hws
  obtain ⟨mr,mb⟩:=mt
  dsimp only at hM hcs hws
  generalize bg r (L.take i)=C1 at hcs hcl ⊢
  generalize bf r (L.take i)=D1 at hws hwl ⊢
  have hCl:(C++C1).length≤200000:=by rw [TG];omega
  have hDl:(D++D1).length≤200000:=by rw [TG];omega
  have hC2:C++bg r (L.take (i+1))=(C++C1)++if mb=true then [(mr.c1,mr.c2)] else []:=by rw [hcs,TY]
  have hD2:D++bf r (L.take (i+1))=(D++D1)++if mb=true then [(mr.r1,mr.r2)] else []:=by rw [hws,TY]
  generalize C++C1=C3 at hC2 hCl ⊢
  generalize D++D1=D3 at hD2 hDl ⊢
  cases mb
  ·
   rw [if_neg (by decide),TR] at hC2 hD2
   repeat' (first|(apply aa;exact rfl;exact rfl;(intro w hm;exact hM w))|refine sT ?_|refine sS ?_|refine sN ?_|refine sO ?_|refine sM fun _=> ?_|(refine sC ?_ ?_<;>intro hb<;>try omega)|fail)
   all_goals first
    |(exfalso;omega)
    |(refine ⟨(i+1,A1,c1,A2,c2),hlt,by dsimp only;omega,by exact sB,by exact sB,?_⟩;dsimp only;rw [hC2,hD2];exact mS)
    |trace_state
  ·
   rw [if_pos rfl] at hC2 hD2
   have hC4:(C3++ [(mr.c1,mr.c2)]).flatMap dL=C3.flatMap dL++ [.int .i64 mr.c1,.int .i64 mr.c2]:=by simp [dL]
   have hD4:(D3++ [(mr.r1,mr.r2)]).flatMap dL=D3.flatMap dL++ [.int .i64 mr.r1,.int .i64 mr.r2]:=by simp [dL]
   repeat' (first|(apply aa;exact rfl;exact rfl;(intro w hm;exact hM w))|(apply ak;exact rfl;apply qa;(iterate 5 exact rfl))|(apply bi (d:=30) (A:=A1) (m:=1);(iterate 3 exact rfl);exact pK;(intro w hm;exact hm.cells_own pK);exact rfl;(simp [Value.oneCell',sl]);omega;(simp only [maxLen];omega);(intro A3 c3 hA3))|(apply bi (d:=38) (A:=A2) (m:=1);(iterate 3 exact rfl);exact pK;(intro w hm;exact hm.cells_own pK);exact rfl;(simp [Value.oneCell',sl]);omega;(simp only [maxLen];omega);(intro A4 c4 hA4))|refine sT ?_|refine sS ?_|refine sN ?_|refine sO ?_|refine sM fun _=> ?_|(refine sC ?_ ?_<;>intro hb<;>try omega)|fail)
   all_goals first
    |(exfalso;omega)
    |(refine ⟨(i+1,A3,c3,A4,c4),hlt,by dsimp only;omega,by exact sB,by exact sB,?_⟩;dsimp only;rw [hC2,hD2,hC4,hD4,List.length_append,List.length_append];exact mS)
    |trace_state
 ·
  have e:i=L.length:=by omega
  subst e
  rw [Ux]
  repeat' (first|refine sT ?_|refine sS ?_|refine sM fun _=> ?_|(refine sC ?_ ?_<;>intro hb<;>try omega)|fail)
  all_goals first
   |(exfalso;omega)
   |(exact fL eIO rfl (.refl _) ⟨rfl,A1,c1,A2,c2,rfl⟩)
   |trace_state
end Go.SL
namespace Go.SL
open Go Go.Proofs
attribute [local irreducible] W WL WQ WG WA WX WLI WR WT WC WE VOp RW thn blk bF scp ba aZ bC FnAt FnIn FnP ceP
def LC (p q:Pz):Int:=if p.rect.r1≠q.rect.r1 then p.rect.r1 - q.rect.r1 else p.rect.c1 - q.rect.c1
def xx (p:Pz):Prop:=0≤p.rect.r1∧p.rect.r1≤100000∧0≤p.rect.c1∧p.rect.c1≤100000
theorem Qd (p q:Pz) (hp:xx p) (hq:xx q) (w:World):aD Tryz.prog 134 [.agg (dK p).toArray,.agg (dK q).toArray] w (.int .i64 (LC p q)):=by
 refine ax Tryz.func134 rfl Tryz.ntmps134 rfl ?_
 obtain ⟨h1,h2,h3,h4⟩:=hp
 obtain ⟨h5,h6,h7,h8⟩:=hq
 repeat' (first|refine sT ?_|refine sJ ?_|refine sM fun _=> ?_|(refine sC ?_ ?_<;>intro hb<;>try omega)|fail)
 all_goals first
  |(exfalso;omega)
  |((refine rT1 ?_);rw [LC,if_pos hb];done)
  |((refine rT1 ?_);rw [LC,if_neg (fun h=>h hb)];done)
  |((refine rT1 ?_);rw [LC,if_neg (fun h=>hb h)];done)
  |trace_state
structure InZ (L:List Pz):Prop where
 sort:L.Pairwise NE
 small: ∀ p∈L,xx p
 len:L.length≤1000000
theorem InZ.cmp {L:List Pz} (h:InZ L) {i j:Nat} (hij:i≤j) (hj:j<L.length): ∃ z:Int,0≤z∧ ∀ w,aD Tryz.prog 134 [.agg (dK L[j]).toArray,.agg (dK (L[i]'(by omega))).toArray] w (.int .i64 z):=by
 refine ⟨_,?_,fun w=>Qd _ _ (h.small _ (UA hj)) (h.small _ (UA _)) w⟩
 by_cases e:i=j
 ·
  subst e;simp [LC]
 ·
  have:=List.pairwise_iff_getElem.1 h.sort i j (by omega) hj (by omega)
  unfold LC
  rcases this with h1|⟨h1,h2⟩
  ·
   rw [if_pos (by omega)];omega
  ·
   rw [if_neg (by omega)];omega
abbrev Qe:Value:= .func (.func 134) #[] #[]
set_option maxHeartbeats 4000000 in
theorem PU (L:List Pz) (hL:InZ L) (lv:Value) (w:World) (hl:Reads w lv L.length (L.flatMap dK)) (a b:Nat) (hb:b≤L.length) (ha:a≤L.length):
  aD Tryz.prog 213 [lv,.int .i64 (a:Int),.int .i64 (b:Int),Qe] w (.tuple #[]):=by
 obtain ⟨Al,cl,rfl,hl1,hl2,hl3⟩:=hl
 refine ax Tryz.func213 rfl Tryz.ntmps213 rfl ?_
 have hlen:=hL.len
 repeat' (first|refine sT ?_|refine sS ?_|refine sN ?_|refine sM fun _=> ?_|(refine sC ?_ ?_<;>intro hb<;>try omega)|fail)
 refine ay [0,1,2,3] rfl (fun i:Nat=> [(8,.int .i64 (i:Int))]) (fun _=> []) (fun i=>a+1≤i∧i≤max b (a+1)) (fun i=>max b (a+1) - i) (a+1) ⟨TQ _,by omega⟩ sB mS ?_
 rintro i ⟨hi,hi2⟩
 by_cases hlt:i<b
 ·
  obtain ⟨gl,ol,rfl,hrl⟩:=hl3 (by omega)
  obtain ⟨z,hz,hc⟩:=hL.cmp (i:=i - 1) (j:=i) (by omega) (by omega)
  have h1:=hrl.elem dA i (by omega)
  have h2:=hrl.elem dA (i - 1) (by omega)
  generalize L[i]'(by omega)=p at h1 hc
  generalize L[i - 1]'(by omega)=q at h2 hc
  repeat' (first|refine sT ?_|refine sS ?_|refine sN ?_|refine sM fun _=> ?_|(refine sC ?_ ?_<;>intro hb<;>try omega)|fail)
  all_goals try (exfalso;omega)
  refine ay [0,1,2,3,8] rfl (fun _:Unit=> [(9,.int .i64 (i:Int))]) (fun _=> []) (fun _=>True) (fun _=>0) () trivial sB mS ?_
  rintro _ _
  repeat' (first|(apply iw (id:=4);kernel_rfl;kernel_rfl)|(apply aO (d:=25);exact rfl;apply aj (j:=i);exact rfl;exact rfl;omega)|(apply aO (d:=30);exact rfl;apply aj (j:=i - 1);exact rfl;exact rfl;omega)|(apply aO (d:=26);exact rfl;apply aP (xs:=dK p);exact rfl;exact h1;exact rfl)|(apply aO (d:=31);exact rfl;apply aP (xs:=dK q);exact rfl;exact h2;exact rfl)|(apply jc;exact rfl;exact rfl;infer_instance;exact rfl;(intro w' _;exact hc w'))|refine sT ?_|refine sS ?_|refine sQ ?_|refine sN ?_|refine sNQ ?_|refine sO ?_|refine sOQ ?_|refine sD ?_|refine sM fun _=> ?_|(refine sC ?_ ?_<;>intro hb<;>try omega)|(refine sCQ ?_ ?_<;>intro hb<;>try omega)|fail)
  all_goals first
   |(exfalso;omega)
   |(refine ⟨i+1,⟨by omega,by omega⟩,by omega,by exact sB,by exact sB,by exact mS⟩;done)
   |trace_state
 ·
  repeat' (first|refine sT ?_|refine sS ?_|refine sM fun _=> ?_|(refine sC ?_ ?_<;>intro hb<;>try omega)|fail)
  all_goals first
   |(exfalso;omega)
   |(exact fL eIO rfl (MSub.nil _) rfl)
   |trace_state
end Go.SL

/-
  Lemmas and walks, put together: Pl3 Ri Pg2 Ia Rj Ro Ht Hv Fp Ik.
-/
import Derived.Test.YthefeclkaaocnaaGreatDoorKi01
set_option linter.unusedSimpArgs false
set_option linter.unusedVariables false
set_option maxRecDepth 20000
namespace Go.SL
open Go Go.Proofs Go.Sort Go.Shelf
def ju:List Rct→List Rct
 | []=> []
 |a::l=>if l.head? =some a then ju l else a::ju l
theorem Be (x:Rct): ∀ l:List Rct,ju (l++ [x])=if l.getLast? =some x then ju l else ju l++ [x]
 | []=>by simp [ju]
 | [a]=>by
  by_cases h:x=a
  ·
   subst h;simp [ju]
  ·
   have h2: ¬ a=x:=fun e=>h e.symm
   simp [ju,h,h2]
 |a::b::l=>by
  have ih:=Be x (b::l)
  have h0: ∀ l,ju (a::l)=if l.head? =some a then ju l else a::ju l:=fun _=>rfl
  have hh:(b::l++ [x]).head? =(b::l).head? :=rfl
  rw [List.getLast?_cons_cons,TK,h0,h0,hh,ih]
  by_cases h1:(b::l).head? =some a
  ·
   simp only [h1,if_true]
  ·
   simp only [h1,if_false];split<;>rfl
theorem Bd {L:List Rct} {j:Nat} (h:j<L.length) (h0:0<j):ju (L.take (j+1))=if L[j]=L[j - 1] then ju (L.take j) else ju (L.take j)++ [L[j]]:=by
 have h1:L.take (j+1)=L.take j++ [L[j]]:=by rw [TP h]
 have h2:(L.take j).getLast? =some L[j - 1]:=by
  rw [Ve,Ue,Vn (by omega),Vj (by omega),TJ (by omega)]
 rw [h1,Be,h2]
 simp only [Option.some.injEq,eq_comm]
theorem FG {L:List Rct} (h:L.length≤1):ju L=L:=by
 match L,h with
 | [],_=>rfl
 | [a],_=>rfl
theorem pd {x:Rct}: ∀ {l:List Rct},x∈ju l↔x∈l
 | []=>Iff.rfl
 |a::l=>by
  rw [ju]
  split
  ·
   rename_i h
   rw [pd (l:=l),TS]
   exact ⟨.inr,fun h2=>h2.elim (fun e=>by subst e;exact List.mem_of_mem_head? h) id⟩
  ·
   rw [TS,TS,pd (l:=l)]
theorem ND {a b:Rct} (h:ltOf cK b a=false) (hn:a≠b):ltOf cK a b=true:=by
 cases h2:ltOf cK a b
 ·
  exact absurd (ME _ _ h2 h) hn
 ·
  rfl
theorem pS: ∀ {l:List Rct},l.Pairwise (fun x y=>ltOf cK y x=false)→(ju l).Pairwise fun x y=>ltOf cK x y=true
 | [],_=> .nil
 |a::l,h=>by
  have h1:=Un.1 h
  have ih:=pS h1.2
  rw [ju]
  split
  ·
   exact ih
  ·
   rename_i hh
   refine Un.2 ⟨fun y hy=> ?_,ih⟩
   have hyl:=pd.1 hy
   refine ND (h1.1 y hyl) fun e=> ?_
   subst e
   cases l with
   |nil=>cases hyl
   |cons b l=>
    have hb:b≠a:=fun e=>hh (by rw [e];rfl)
    rcases TS.1 hyl with e|hm
    ·
     exact hb e.symm
    ·
     have h3:=(Un.1 h1.2).1 a hm
     have h4:=h1.1 b TI
     exact hb (ME _ _ h4 h3)
theorem oS (L:List Rct):(sortRc L).Perm L:=V7 L _
theorem qH (L:List Rct):(sortRc L).Pairwise fun x y=>ltOf cK y x=false:=by
 have h:=WJ (le:=fun x y=> !(ltOf cK y x)) (fun a b c h1 h2=>by
  simp only [WB] at*
  exact xu.ntrans _ _ _ h2 h1) (fun a b=>by
  cases h1:ltOf cK b a
  ·
   simp
  ·
   cases h2:ltOf cK a b
   ·
    simp
   ·
    have:=xu.trans _ _ _ h1 h2
    rw [xu.irrefl] at this
    cases this) L
 exact h.imp fun h=>by simpa using h
theorem N0 {L M:List Rct} (h:L.Pairwise fun x y=>ltOf cK x y=true) (k:M.Pairwise fun x y=>ltOf cK x y=true) (hm: ∀ a,a∈L↔a∈M):L=M:=by
 have hn: ∀ {L:List Rct},(L.Pairwise fun x y=>ltOf cK x y=true)→L.Nodup:=fun h=>h.imp fun h e=>by
  rw [e,xu.irrefl] at h;cases h
 have hp:L.Perm M:=(List.perm_ext_iff_of_nodup (hn h) (hn k)).2 hm
 refine List.Perm.eq_of_pairwise (fun a b _ _ h1 h2=> ?_) h k hp
 have:=xu.trans _ _ _ h1 h2
 rw [xu.irrefl] at this
 cases this
noncomputable def ib (G:Gr) (c:Rf):List Rct:=ju (sortRc ((c::n8 G c).flatMap fun x=>(aK G x).map fun u=>u.rect))
theorem x8 (G:Gr) (c:Rf):(ib G c).Pairwise fun x y=>ltOf cK x y=true:=pS (qH _)
theorem kV {G:Gr} {c:Rf} {r:Rct}:r∈ib G c↔ ∃ x,(x=c∨x∈n8 G c)∧ ∃ u∈aK G x,u.rect=r:=by
 unfold ib
 rw [pd,(oS _).mem_iff,UM]
 simp only [TS,Ul]
theorem K0 {G:Gr} {c:Rf} {M:List Rct} (h: ∀ r,r∈M↔ ∃ x,(x=c∨x∈n8 G c)∧ ∃ u∈aK G x,u.rect=r):ju (sortRc M)=ib G c:=by
 refine N0 (pS (qH _)) (x8 G c) fun a=> ?_
 rw [pd,(oS _).mem_iff,h,kV]
end Go.SL
namespace Go.SL
open Go Go.Proofs
attribute [local irreducible] W WL WQ WG WA WX WLI WR WT WC WE VOp RW thn blk bF scp ba aZ bC FnAt FnIn FnP ceP
theorem SX {L:List Rct} {k:Nat} (h:k<L.length):((L.flatMap aN).drop (0+k*4)).take 4=aN L[k]:=by
 rw [Uc];exact cf kH L k h
theorem QD {L:List Rct} {a k:Nat} (h:a+k<L.length):((L.flatMap aN).drop (a*4+k*4)).take 4=aN L[a+k]:=by
 rw [← Vt];exact cf kH L (a+k) h
set_option maxHeartbeats 4000000 in
theorem IX (L:List Rct) (A:Option Nat) (cap:Nat) (hL:L.length≤1000000) (R:List Blk) (w0:World):
    FnIn Tryz.prog 104 [sl A L.length cap] w0 (.own A 33 4 L.length cap (L.flatMap aN)::R) fun v H=>v=sl A (ju L).length cap∧H= .own A 33 4 (ju L).length cap ((ju L).flatMap aN)::R:=by
  refine cF Tryz.func104 rfl Tryz.ntmps104 rfl ?_
  refine O1 (A:=A) .hd fun hle=> ?_
  by_cases h2:L.length<2
  · have hc:=FG (L:=L) (by omega)
    repeat' (first|refine sT ?_|refine sS ?_|refine sN ?_|refine sM fun _=> ?_|(refine sC ?_ ?_<;>intro hb<;>try omega)|fail)
    all_goals first
      |(exfalso;omega)
      |(refine cA eIO rfl rfl (.refl _) ?_;rw [hc];exact ⟨rfl,rfl⟩)
      |trace_state
  · refine bK (A:=A) .hd (by omega) fun g hA=> ?_
    subst hA
    repeat' (first|refine sT ?_|refine sS ?_|refine sN ?_|refine sM fun _=> ?_|(refine sC ?_ ?_<;>intro hb<;>try omega)|fail)
    all_goals try (exfalso;omega)
    refine ay [0] rfl (fun k:Nat=> [(3,.int .i64 (k:Int))]) (fun _=> .own (some g) 33 4 L.length cap (L.flatMap aN)::R) (fun k=>1≤k∧k≤L.length∧ju (L.take k)=L.take k) (fun k=>L.length - k) 1 ⟨TQ _,by omega,FG (by rw [Ue];omega)⟩ sB mS ?_
    rintro k ⟨hk1,hk,hck⟩
    by_cases hlt:k<L.length
    · have hr1:=SX hlt
      have hr2:=SX (L:=L) (k:=k - 1) (by omega)
      have hst:=Bd hlt hk1
      have htk:L.take (k+1)=L.take k++ [L[k]]:=by rw [TP hlt]
      obtain ⟨c,hc⟩: ∃ c,decide (L[k]=L[k - 1])=c:=⟨_,rfl⟩
      cases c with
      |false=>
        have hne: ¬ L[k]=L[k - 1]:=by simpa using hc
        rw [if_neg hne,hck,← htk] at hst
        repeat' (first|(apply aO;exact rfl;apply di;exact rfl;exact rfl;omega;(simp only [maxLen];omega))|(apply aO;exact rfl;apply aj (j:=k);exact rfl;exact rfl;omega)|(apply aO;exact rfl;apply aj (j:=k - 1);exact rfl;exact rfl;omega)|(apply aO;exact rfl;apply aA;exact rfl;exact pK;(first|exact hr1|exact hr2);exact rfl)|(apply aO;exact rfl;apply p8 hc;exact rfl;exact rfl)|refine sT ?_|refine sS ?_|refine sQ ?_|refine sN ?_|refine sNQ ?_|refine sD ?_|refine sM fun _=> ?_|(refine sC ?_ ?_<;>intro hb<;>try omega)|(refine sCQ ?_ ?_<;>intro hb<;>try omega)|fail)
        all_goals first
          |(exfalso;omega)
          |(refine ⟨k+1,⟨by omega,hlt,hst⟩,by omega,by exact sB,by exact sB,by exact mS⟩;done)
          |trace_state
      |true=>
        have hne:L[k]=L[k - 1]:=by simpa using hc
        rw [if_pos hne,hck] at hst
        repeat' (first|(apply aO;exact rfl;apply di;exact rfl;exact rfl;omega;(simp only [maxLen];omega))|(apply aO;exact rfl;apply aj (j:=k);exact rfl;exact rfl;omega)|(apply aO;exact rfl;apply aj (j:=k - 1);exact rfl;exact rfl;omega)|(apply aO;exact rfl;apply aA;exact rfl;exact pK;(first|exact hr1|exact hr2);exact rfl)|(apply aO;exact rfl;apply p8 hc;exact rfl;exact rfl)|(apply ak;exact rfl;apply p7 (lo:=k);exact rfl;exact rfl;omega;exact hle)|refine sT ?_|refine sS ?_|refine sQ ?_|refine sN ?_|refine sNQ ?_|refine sD ?_|refine sM fun _=> ?_|(refine sC ?_ ?_<;>intro hb<;>try omega)|(refine sCQ ?_ ?_<;>intro hb<;>try omega)|fail)
        all_goals try (exfalso;omega)
        refine ay [0,4] rfl (fun y:Nat × Nat × List Rct=> [(5,.int .i64 (y.1:Int)),(3,.int .i64 (y.2.1:Int))]) (fun y=> .own (some g) 33 4 L.length cap (y.2.2.flatMap aN)::R) (fun y=>1≤y.1∧k+y.1≤L.length∧y.2.1+1≤k+y.1∧y.2.2.length=L.length∧y.2.2.take y.2.1=ju (L.take (k+y.1))∧ ∀ j,k+y.1≤j+1→y.2.2[j]? =L[j]?) (fun y=>L.length - y.1) (1,k,L) ⟨TQ _,by omega,TQ _,rfl,hst.symm,fun _ _=>rfl⟩ sB mS ?_
        rintro ⟨i,k',ys⟩ ⟨hi1,hi2,hi3,hi4,hi5,hi6⟩
        dsimp only at hi1 hi2 hi3 hi4 hi5 hi6 ⊢
        by_cases hli:k+i<L.length
        · have hy1:k+i<ys.length:=by omega
          have hr3:=QD (L:=ys) (a:=k) (k:=i) hy1
          have hr4:=QD (L:=ys) (a:=k) (k:=i - 1) (by omega)
          have he1:ys[k+i]=L[k+i]:=by
            have:=hi6 (k+i) (by omega)
            rw [TJ hy1,TJ hli] at this
            exact Option.some.inj this
          have he2:ys[k+(i - 1)]=L[k+i - 1]:=by
            have:=hi6 (k+(i - 1)) (by omega)
            rw [TJ (by omega),TJ (by omega)] at this
            rw [Option.some.inj this]
            congr 1
            omega
          rw [he1] at hr3
          rw [he2] at hr4
          have hst2:=Bd hli (by omega)
          obtain ⟨c,hc2⟩: ∃ c,decide (L[k+i]=L[k+i - 1])=c:=⟨_,rfl⟩
          cases c with
          |true=>
            rw [if_pos (by simpa using hc2)] at hst2
            repeat' (first|(apply aO;exact rfl;apply di;exact rfl;exact rfl;omega;(simp only [maxLen];omega))|(apply aO;exact rfl;apply aj (j:=i);exact rfl;exact rfl;omega)|(apply aO;exact rfl;apply aj (j:=i - 1);exact rfl;exact rfl;omega)|(apply aO;exact rfl;apply aA;exact rfl;exact pK;(first|exact hr3|exact hr4);exact rfl)|(apply aO;exact rfl;apply kA hc2;exact rfl;exact rfl)|refine sT ?_|refine sS ?_|refine sQ ?_|refine sN ?_|refine sNQ ?_|refine sD ?_|refine sM fun _=> ?_|(refine sC ?_ ?_<;>intro hb<;>try omega)|(refine sCQ ?_ ?_<;>intro hb<;>try omega)|fail)
            all_goals first
              |(exfalso;omega)
              |(refine ⟨(i+1,k',ys),⟨by dsimp only;omega,by dsimp only;omega,by dsimp only;omega,hi4,by dsimp only;rw [hi5,← Nat.add_assoc,hst2],fun j hj=>hi6 j (by omega)⟩,by dsimp only;omega,by exact sB,by exact sB,by exact mS⟩;done)
              |trace_state
          |false=>
            rw [if_neg (by simpa using hc2)] at hst2
            have hput:=Fl kH ys k' (by omega) L[k+i]
            repeat' (first|(apply aO;exact rfl;apply di;exact rfl;exact rfl;omega;(simp only [maxLen];omega))|(apply aO;exact rfl;apply aj (j:=i);exact rfl;exact rfl;omega)|(apply aO;exact rfl;apply aj (j:=i - 1);exact rfl;exact rfl;omega)|(apply aO;exact rfl;apply aA;exact rfl;exact pK;(first|exact hr3|exact hr4);exact rfl)|(apply aO;exact rfl;apply kA hc2;exact rfl;exact rfl)|(apply ak (d:=49);exact rfl;apply aj (j:=i);exact rfl;exact rfl;omega)|(apply ak (d:=51);exact rfl;apply aj (j:=k');exact rfl;exact rfl;omega)|(apply ak;exact rfl;apply aA;exact rfl;exact pK;exact hr3;exact rfl)|(apply mY (vs:=aN L[k+i]) (off:=0+k' *4);exact rfl;exact rfl;exact pK;exact rfl;exact rfl;(intro u hu;simp [aN] at hu;rcases hu with rfl|rfl|rfl|rfl<;>rfl);(rw [aR kH,hi4];omega);rw [Uc,hput])|refine sT ?_|refine sS ?_|refine sQ ?_|refine sN ?_|refine sNQ ?_|refine sD ?_|refine sM fun _=> ?_|(refine sC ?_ ?_<;>intro hb<;>try omega)|(refine sCQ ?_ ?_<;>intro hb<;>try omega)|fail)
            all_goals first
              |(exfalso;omega)
              | (refine ⟨(i + 1, k' + 1, ys.set k' L[k + i]), ⟨by dsimp only; omega, by dsimp only; omega, by dsimp only; omega, by dsimp only; rw [List.length_set, hi4], ?_, fun j hj => ?_⟩, by dsimp only; omega, by exact sB, by exact sB, by exact mS⟩
                 · dsimp only
                   rw [TP (by rw [V9];omega),List.take_set_of_le (TQ _),hi5,List.getElem_set_self,← UV,hst2]
                 · dsimp only at hj ⊢
                   rw [List.getElem?_set_ne (by omega)]
                   exact hi6 j (by omega))
              |trace_state
        · have hli2:k+i=L.length:=by omega
          rw [hli2,Ux] at hi5
          have hcl:(ju L).length=k' :=by rw [← hi5,Ue,hi4];omega
          have hk'L:k' <L.length:=by omega
          repeat' (first|(apply ak;exact rfl;apply p7 (lo:=k');exact rfl;exact rfl;omega;exact hle)|(apply Di (sz:=4) (k:=k') (n' :=L.length);exact rfl;omega;exact pK;(intro u hu;simp [Value.cells] at hu;subst hu;rfl);exact rfl)|(apply ak;exact rfl;apply zL (hi:=k');exact rfl;exact rfl;omega)|refine sT ?_|refine sS ?_|refine sN ?_|refine sM fun _=> ?_|(refine sC ?_ ?_<;>intro hb<;>try omega)|fail)
          all_goals first
            |(exfalso;omega)
            | (refine cA eIO rfl rfl (H' := .own (some g) 33 4 k' cap ((ys.flatMap aN).take (k' * 4)) :: R) mS ?_
               rw [mO kH,hi5,hcl]
               exact ⟨rfl,rfl⟩)
            |trace_state
    · have hkl:k=L.length:=by omega
      rw [hkl,Ux] at hck
      repeat' (first|refine sT ?_|refine sS ?_|refine sN ?_|refine sM fun _=> ?_|(refine sC ?_ ?_<;>intro hb<;>try omega)|fail)
      all_goals first
        |(exfalso;omega)
        |(refine cA eIO rfl rfl (.refl _) ?_;rw [hck];exact ⟨rfl,rfl⟩)
        |trace_state
end Go.SL
namespace Go.SL
open Go
theorem hasR_iff {r:Rct} {a:Rf}:cj r a=true↔r.c1≤a.col∧a.col≤r.c2∧r.r1≤a.row∧a.row≤r.r2:=by
 unfold cj
 simp only [TU,decide_eq_true_eq,and_assoc]
theorem pw (a b:Rct):(gX a b).c1=max a.c1 b.c1:=by unfold gX;simp only;split<;>omega
theorem pq (a b:Rct):(gX a b).r1=max a.r1 b.r1:=by unfold gX;simp only;split<;>omega
theorem pu (a b:Rct):(gX a b).c2=min a.c2 b.c2:=by unfold gX;simp only;split<;>omega
theorem ph (a b:Rct):(gX a b).r2=min a.r2 b.r2:=by unfold gX;simp only;split<;>omega
theorem AH {a b:Rct} (ha:aH a=true) (hb:aH b=true) {x:Rf} (h1:cj a x=true) (h2:cj b x=true):dZ a b=(gX a b,true):=by
 unfold dZ
 rw [if_pos]
 simp only [VA,List.all_nil,ha,hb,Wg,VB]
 rw [fA] at*
 rw [hasR_iff] at h1 h2
 rw [pw,pq,pu,ph]
 omega
theorem Rct.ext' {a b:Rct} (h1:a.c1=b.c1) (h2:a.r1=b.r1) (h3:a.c2=b.c2) (h4:a.r2=b.r2):a=b:=by
 cases a;cases b;simp only at*;subst h1 h2 h3 h4;rfl
theorem H8 {c R:Rct} (hc:aH c=true) (hR:aH R=true):kw c R=true↔R.c1≤c.c1∧c.c2≤R.c2∧R.r1≤c.r1∧c.r2≤R.r2:=by
 have hc' :=fA.1 hc
 constructor
 ·
  intro h
  unfold kw at h
  rw [TU,decide_eq_true_eq] at h
  obtain ⟨h1,h2⟩:=h
  unfold dZ at h1 h2
  split at h1
  ·
   rename_i hall
   rw [if_pos hall] at h2
   have e1:=congrArg Rct.c1 h2
   have e2:=congrArg Rct.r1 h2
   have e3:=congrArg Rct.c2 h2
   have e4:=congrArg Rct.r2 h2
   simp only [pw,pq,pu,ph] at e1 e2 e3 e4
   omega
  ·
   cases h1
 ·
  intro h
  have h1:cj c ⟨c.c1,c.r1⟩=true:=hasR_iff.2 (by simp only;omega)
  have h2:cj R ⟨c.c1,c.r1⟩=true:=hasR_iff.2 (by simp only;omega)
  unfold kw
  rw [AH hc hR h1 h2,TU,decide_eq_true_eq]
  exact ⟨rfl,Rct.ext' (by rw [pw];omega) (by rw [pq];omega) (by rw [pu];omega) (by rw [ph];omega)⟩
theorem CellOf.ok {r:Rct} {A B:List Rl} {y x:Int × Int} (h:CellOf r A B y x) (hr:aH r=true):aH (gx y x)=true:=by
 have h1:=fK h.row
 have h2:=fK h.col
 rw [fA] at*
 simp only [gx];omega
theorem CellOf.inside {r:Rct} {A B:List Rl} {y x:Int × Int} (h:CellOf r A B y x) (hr:aH r=true) {a:Rf} (ha:cj (gx y x) a=true) {R:Rl} (hm:R∈A∨R∈B) (hR:aH R.rect=true):kw (gx y x) R.rect=cj R.rect a:=by
 have h1:=fK h.row
 have h2:=fK h.col
 have ha' :=hasR_iff.1 ha
 simp only [gx] at ha'
 rw [Uy,H8 (h.ok hr) hR,hasR_iff]
 simp only [gx]
 constructor
 ·
  intro h3;omega
 ·
  intro h3
  have har:cj r a=true:=hasR_iff.2 (by omega)
  have haR:cj R.rect a=true:=hasR_iff.2 h3
  have hmt:=AH hR hr haR har
  have hcol:((gX R.rect r).c1,(gX R.rect r).c2)∈bg r A++bg r B:=by
   rw [Ub]
   rcases hm with hm|hm
   ·
    exact .inl (UM.2 ⟨R,hm,by rw [hmt];simp⟩)
   ·
    exact .inr (UM.2 ⟨R,hm,by rw [hmt];simp⟩)
  have hrow:((gX R.rect r).r1,(gX R.rect r).r2)∈bf r A++bf r B:=by
   rw [Ub]
   rcases hm with hm|hm
   ·
    exact .inl (UM.2 ⟨R,hm,by rw [hmt];simp⟩)
   ·
    exact .inr (UM.2 ⟨R,hm,by rw [hmt];simp⟩)
  have k1:=Bi h.col hcol (by simp only [pw];omega) (by simp only [pu];omega)
  have k2:=Bi h.row hrow (by simp only [pq];omega) (by simp only [ph];omega)
  simp only [pw,pu,pq,ph] at k1 k2
  omega
theorem wV {c:Rct} {a:Rf} {L:List Rl} (h: ∀ R∈L,kw c R.rect=cj R.rect a): ∀ n,n≤L.length→oD c L n=oo a L n
 |0,_=>rfl
 |n+1,hn=>by
  have hlt:n<L.length:=by omega
  rw [oD,oo,TJ hlt,wV h n (by omega)]
  simp only [UH,VI]
  have e:=h _ (UA hlt)
  simp only [e]
theorem CellOf.which {r:Rct} {A B:List Rl} {y x:Int × Int} (h:CellOf r A B y x) (hr:aH r=true) (hA: ∀ R∈A,aH R.rect=true) {a:Rf} (ha:cj (gx y x) a=true):(o6 A B y x).a=gh A a:=
 wV (fun R hR=>h.inside hr ha (.inl hR) (hA R hR)) _ (TQ _)
theorem Ou {l:List (BitVec 64)} {i:Nat} (hi:i<64):(wq l).getLsbD i=true↔ ∀ x∈l,x.getLsbD i=true:=by
 have h: ∀ (l:List (BitVec 64)) (s:BitVec 64),(l.foldl (· &&& ·) s).getLsbD i=true↔s.getLsbD i=true∧ ∀ x∈l,x.getLsbD i=true:=by
  intro l
  induction l with
  |nil=>intro s;simp
  |cons a l ih=>
   intro s
   rw [UK,ih,VO,TU]
   simp only [TS,forall_eq_or_imp,and_assoc]
 unfold wq
 rw [h,BitVec.getLsbD_allOnes]
 simp [hi]
theorem EJ {f:Rl→BitVec 64} {r:Rct} {L:List Rl} (hr:aH r=true) (hL: ∀ R∈L,aH R.rect=true) {i:Nat} (hi:i<64):
  (lW f r L).getLsbD i=true↔ ∀ a,cj r a=true→((L[gh L a]?.map f).getD 0#64).getLsbD i=true:=by
 unfold lW
 rw [Ou hi]
 have hm:(∀ x∈(eK r L []).map (fun p=>(L[p.a]?.map f).getD 0#64),x.getLsbD i=true)↔ ∀ k∈(eK r L []).map (·.a),((L[k]?.map f).getD 0#64).getLsbD i=true:=by
  simp only [Ul,forall_exists_index,and_imp,forall_apply_eq_imp_iff₂]
 rw [hm]
 constructor
 ·
  intro h a ha
  have ha' :=hasR_iff.1 ha
  obtain ⟨y,hy,hy1,hy2⟩:=vQ (lo:=r.r1) (hi:=r.r2) (ps:=bf r L++bf r []) (v:=a.row) (by omega) (by omega)
  obtain ⟨x,hx,hx1,hx2⟩:=vQ (lo:=r.c1) (hi:=r.c2) (ps:=bg r L++bg r []) (v:=a.col) (by omega) (by omega)
  have hc:CellOf r L [] y x:=⟨hy,hx⟩
  have hag:cj (gx y x) a=true:=hasR_iff.2 (by simp only [gx];omega)
  have:=h _ (Cc.2 ⟨y,x,hc,rfl⟩)
  rwa [hc.which hr hL hag] at this
 ·
  intro h k hk
  obtain ⟨y,x,hc,rfl⟩:=Cc.1 hk
  have hok:=fA.1 (hc.ok hr)
  have h1:=fK hc.row
  have h2:=fK hc.col
  simp only [gx] at hok
  have hag:cj (gx y x) ⟨x.1,y.1⟩=true:=hasR_iff.2 (by simp only [gx];omega)
  rw [hc.which hr hL hag]
  exact h ⟨x.1,y.1⟩ (hasR_iff.2 (by simp only;omega))
end Go.SL
namespace Go.SL
open Go Go.Proofs
theorem Iy (L:List Rl): ∀ u∈L.flatMap bM,u.oneCell' =true:=fun u hu=>by
 obtain ⟨a,_,h⟩:=UM.1 hu
 simp only [bM,TS,Vr,or_false] at h
 rcases h with rfl|rfl|rfl|rfl|rfl|rfl|rfl<;>rfl
end Go.SL
namespace Go.SL
open Go Go.Proofs
attribute [local irreducible] W WL WQ WG WA WX WLI WR WT WC WE VOp RW thn blk bF scp ba aZ bC FnAt FnIn FnP ceP
theorem EB {S:List Rf} {a:Rf} (h:a∈S):iA a (.bool true) S.length (setM S)=(setM S,S.length):=by
 have hl:=look_set S a
 rw [decide_eq_true h] at hl
 unfold iA
 cases hf:bJ a (setM S) 0 with
 |none=>rw [hf] at hl;cases hl
 |some x=>
  obtain ⟨i,v⟩:=x
  rw [hf] at hl
  simp only at hl
  obtain ⟨b,_,hb⟩:=kF hf
  rw [U9] at hb
  simp only [Prod.mk.injEq,and_true]
  apply Vv
  intro j
  rw [V0]
  by_cases e:i=j
  ·
   subst e
   rw [hb,hl];simp
  ·
   simp [e]
def zx (S:List Rf) (c:Rf):List Rf:=if c∈S then S else S++ [c]
theorem OA (S:List Rf) (c:Rf):iA c (.bool true) S.length (setM S)=(setM (zx S c),(zx S c).length):=by
 unfold zx
 split
 ·
  rename_i h;exact EB h
 ·
  rename_i h;rw [put_set h,TG,TH]
theorem II {S:List Rf} (h:S.Nodup) (c:Rf):(zx S c).Nodup:=by
 unfold zx
 split
 ·
  exact h
 ·
  rename_i hn
  exact Vu.2 ⟨h,by simp,fun a ha b hb e=>hn (by rw [← TX.1 hb,← e];exact ha)⟩
theorem NA {S:List Rf} {c x:Rf}:x∈zx S c↔x=c∨x∈S:=by
 unfold zx
 split
 ·
  rename_i h
  exact ⟨.inr,fun h2=>h2.elim (fun e=>e ▸ h) id⟩
 ·
  rw [Ub,TX,or_comm]
theorem OB (S:List Rf) (c:Rf):(zx S c).length≤S.length+1:=by
 unfold zx
 split
 ·
  omega
 ·
  rw [TG,TH];omega
def iz (G:Gr) (vis:List (Rf × Value × Nat)):List Rct:=vis.flatMap fun e=>(aK G e.1).map fun u=>u.rect
theorem Es (G:Gr) (vis:List (Rf × Value × Nat)) (e:Rf × Value × Nat):iz G (vis++ [e])=iz G vis++(aK G e.1).map fun u=>u.rect:=by simp [iz]
theorem xK {G:Gr} (h: ∀ d,(aK G d).length≤1000): ∀ vis:List (Rf × Value × Nat),(iz G vis).length≤vis.length*1000
 | []=>TW _
 |e::vis=>by
  have h1:=xK h vis
  have h2:=h e.1
  simp only [iz,T9,TG,Uf,TZ] at h1 ⊢
  omega
noncomputable def ku (G:Gr) (c:Rf):List Rct:=if l5 [c] []=0 then ib G c else []
set_option maxHeartbeats 4000000 in
theorem LX (gg:Nat) (G:Gr) (hG:GrOk G) (hGl:G.length≤900) (c:Rf) (B F:List Blk) (hB:MSub B F) (w0:World)
    (hFm: ∀ H,MSub B H→FnIn Tryz.prog 34 [.pointer (some ⟨gg,0,none⟩)] w0 H fun v H' => ∃ A cap,v=sl A (aq G).length cap∧H' = .own A 51 2 (aq G).length cap ((aq G).flatMap aC)::H)
    (hUs: ∀ d H,MSub B H→FnIn Tryz.prog 42 [.pointer (some ⟨gg,0,none⟩),aY d] w0 H fun v H' => ∃ A cap,v=sl A (aK G d).length cap∧H' = .own A 100 6 (aK G d).length cap ((aK G d).flatMap cV)::H)
    (hUl: ∀ d,(aK G d).length≤1000):
    FnIn Tryz.prog 48 [.pointer (some ⟨gg,0,none⟩),aY c] w0 F fun v H' => ∃ A cap,v= .tuple #[sl A (ku G c).length cap,.int .i64 (l5 [c] [])]∧H' = .own A 33 4 (ku G c).length cap ((ku G c).flatMap aN)::F:=by
  refine cF Tryz.func48 rfl Tryz.ntmps48 rfl ?_
  refine aW 33 4 ?_
  have hck:=fun w (v:Value) (hr:Reads w v 1 (aC c))=>LH gg [c] [] v (.slice none 0 0) w (by simpa using hr) (qd w) (by simp) (by simp)
  have hbl:=fun F hB=>Oo gg G hG hGl c B F hB w0 hFm hUs hUl
  unfold ku
  by_cases hc0:l5 [c] []=0
  · rw [if_pos hc0]
    rw [hc0] at hck ⊢
    repeat' (first|(apply aa (f:=98);exact rfl;exact rfl;(intro w' hm;exact hck w' _ (Reads.of_own (A:=some _) hm pK)))|(apply au (f:=99);exact rfl;exact rfl;exact hbl _ (MSub.trans hB mS);rintro _ _ ⟨gm,S,rfl,rfl,hI⟩)|(apply eU (enc:=aY) (k:=c);(iterate 3 exact rfl);exact pK;rw [OA])|(apply rR (enc:=aY);exact rfl;exact rfl;exact pK;intro gi)|refine sT ?_|refine sS ?_|refine sM fun _=> ?_|(refine sC ?_ ?_<;>intro hb<;>try omega)|fail)
    have hTn:=II hI.nodup c
    have hTm:=fun x=>NA (S:=S) (c:=c) (x:=x)
    have hTl:=OB S c
    have hSl:=hI.len hG.sort
    have hdone:=hI.done hG
    generalize zx S c=T at hTn hTm hTl ⊢
    have hok:=RG hTn
    have hks:=Ad T
    have hkl:=MO T
    generalize setM T=es at hok hks hkl ⊢
    refine ay [0,25] rfl (fun y:List (Rf × Value × Nat) × Option Nat × Nat=> [(8,sl y.2.1 (iz G y.1).length y.2.2)]) (fun y=> .obj gi (oh gm T.length (y.1.map fun e=>e.2.2)):: .own y.2.1 33 4 (iz G y.1).length y.2.2 ((iz G y.1).flatMap aN):: .obj gm (aU aY es T.length)::F) (fun y=>Vis es y.1) (fun y=>es.length - y.1.length) ([],none,0) (Vis.nil es) sB mS ?_
    rintro ⟨vis,A,cap⟩ hv
    dsimp only at hv ⊢
    have hvl:=hv.len
    have hrl:=xK hUl vis
    have hS:=fun R' =>BM (iz G vis) A cap (by omega) R' w0
    have hsl:(sortRc (iz G vis)).length=(iz G vis).length:=(oS _).length_eq
    have hCp:=fun A cap R' =>IX (sortRc (iz G vis)) A cap (by omega) R' w0
    rw [hsl] at hCp
    repeat' (first|(apply uV (enc:=aY);exact rfl;exact rfl;exact pK;exact pK;exact hok;intro e he hne)|(intro hall)|(apply ak;exact rfl;apply Jd (enc:=aY);exact rfl;exact pK;exact pK;exact he;exact hok)|(apply au (f:=42);exact rfl;exact rfl;exact hUs _ _ (MSub.trans hB mS);rintro _ _ ⟨Au,cu,rfl,rfl⟩)|(apply au (f:=100);exact rfl;exact rfl;exact FnIn.msub (hS _) (MSub.pick pK (MSub.refl _));rintro _ _ ⟨rfl,rfl⟩)|(apply au (f:=104);exact rfl;exact rfl;exact FnIn.msub (hCp _ _ _) (MSub.pick pK (MSub.refl _));rintro _ _ ⟨rfl,rfl⟩)|refine sT ?_|refine sS ?_|refine sM fun _=> ?_|(refine sC ?_ ?_<;>intro hb<;>try omega)|fail)
    · have hUx:=hUl e.1
      have hsn:=Es G vis e
      generalize aK G e.1=U at hUx hsn
      generalize iz G vis=M at hrl hsn
      refine ay [0,25,32,33] rfl (fun y:Nat × Option Nat × Nat=> [(8,sl y.2.1 (M++(U.take y.1).map fun u=>u.rect).length y.2.2),(34,.int .i64 (y.1:Int))]) (fun y=> .obj gi (oh gm T.length (vis.map (fun e=>e.2.2)++ [e.2.2])):: .own Au 100 6 U.length cu (U.flatMap cV):: .own y.2.1 33 4 (M++(U.take y.1).map fun u=>u.rect).length y.2.2 ((M++(U.take y.1).map fun u=>u.rect).flatMap aN):: .obj gm (aU aY es T.length)::F) (fun y=>y.1≤U.length) (fun y=>U.length - y.1) (0,A,cap) (TW _) (by simp only [U7,UQ,TR];exact sB) (by simp only [U7,UQ,TR];exact mS) ?_
      rintro ⟨i,A1,c1⟩ hi
      dsimp only at hi ⊢
      by_cases hlt:i<U.length
      · refine bK (A:=Au) pK (by omega) fun gk hA=> ?_
        subst hA
        have hread:=Aq hlt
        have htk:(M++(U.take (i+1)).map fun u=>u.rect)=(M++(U.take i).map fun u=>u.rect)++ [U[i].rect]:=by rw [TP hlt,UG,← TY];rfl
        have hml:(M++(U.take i).map fun u=>u.rect).length≤1000000:=by
          rw [TG,Uf,Ue];omega
        generalize U[i]=u at hread htk
        generalize (M++(U.take i).map fun u=>u.rect)=M1 at htk hml
        repeat' (first|(apply ak;exact rfl;apply aj (j:=i);exact rfl;exact rfl;exact hlt)|(apply ak;exact rfl;apply aA;exact rfl;exact pK;exact hread;exact rfl)|(apply bi;(iterate 3 exact rfl);(repeat first|exact .hd|apply Sel.tl|apply In.tl);(intro w hm;exact hm.cells_own (by (repeat first|exact .hd|apply Sel.tl|apply In.tl)));exact rfl;(simp [Value.oneCell',sl]);omega;(simp only [maxLen];omega);(intro A2 cap2 hA2))|refine sT ?_|refine sS ?_|refine sN ?_|refine sM fun _=> ?_|(refine sC ?_ ?_<;>intro hb<;>try omega)|fail)
        all_goals first
          |(exfalso;omega)
          | (refine ⟨(i + 1, A2, cap2), hlt, by dsimp only; omega, ?_, ?_, ?_⟩
             · dsimp only;rw [htk,List.length_append];exact sB
             · exact sB
             · dsimp only;rw [htk,List.length_append,List.flatMap_append,List.flatMap_cons,List.flatMap_nil,List.append_nil];exact mS)
          |trace_state
      · have hi2:i=U.length:=by omega
        subst hi2
        rw [Ux,← hsn]
        repeat' (first|refine sT ?_|refine sS ?_|refine sN ?_|refine sM fun _=> ?_|(refine sC ?_ ?_<;>intro hb<;>try omega)|fail)
        all_goals first
          |(exfalso;omega)
          | (refine ⟨(vis ++ [e], A1, c1), hv.step he hne, ?_, sB, sB, ?_⟩
             · have:=hv.lt he hne
               simp only [TG,TH]
               omega
             · simp only [UG,Ud,UQ]
               exact mS)
          |trace_state
    · have hperm:=hv.perm hok hall
      have hmem: ∀ r,r∈iz G vis↔ ∃ x,(x=c∨x∈n8 G c)∧ ∃ u∈aK G x,u.rect=r:=fun r=>by
        unfold iz
        simp only [UM,Ul]
        constructor
        · rintro ⟨e,he,u,hu,rfl⟩
          have h1:e.1∈T:=by
            rw [← hks];exact Ul.2 ⟨e,hv.sub e he,rfl⟩
          exact ⟨e.1,((hTm e.1).1 h1).imp id (hdone _).1,u,hu,rfl⟩
        · rintro ⟨x,hx,u,hu,rfl⟩
          have h1:x∈T:=(hTm x).2 (hx.imp id (hdone _).2)
          rw [← hks] at h1
          obtain ⟨e,he,rfl⟩:=Ul.1 h1
          exact ⟨e,hperm.mem_iff.2 he,u,hu,rfl⟩
      rw [K0 hmem]
      all_goals first
        |(exact dc eIO rfl rfl rfl (H' := .own A 33 4 (ib G c).length cap ((ib G c).flatMap aN)::F) mS ⟨A,cap,rfl,rfl⟩)
        |trace_state
  · rw [if_neg hc0]
    repeat' (first|(apply aa (f:=98);exact rfl;exact rfl;(intro w' hm;exact hck w' _ (Reads.of_own (A:=some _) hm pK)))|refine sT ?_|refine sS ?_|refine sM fun _=> ?_|(refine sC ?_ ?_<;>intro hb<;>try omega)|fail)
    all_goals first
      |(exfalso;omega)
      |(exact dc eIO rfl rfl rfl (H' := .own none 33 4 0 0 []::F) mS ⟨none,0,rfl,rfl⟩)
      |trace_state
section
variable {gg:Nat} {G:Gr} {B F:List Blk} {w0:World} (h:Rdr gg G B w0) (hB:MSub B F)
include h hB
theorem Rdr.leaves (c:Rf):FnIn Tryz.prog 48 [.pointer (some ⟨gg,0,none⟩),aY c] w0 F fun v H' => ∃ A cap,v= .tuple #[sl A (ku G c).length cap,.int .i64 (l5 [c] [])]∧H' = .own A 33 4 (ku G c).length cap ((ku G c).flatMap aN)::F:=LX gg G h.g h.l c B F hB w0 h.fm h.us (kM h.g)
end
end Go.SL
namespace Go.SL
open Go Go.Proofs
attribute [local irreducible] W WL WQ WG WA WX WLI WR WT WC WE VOp RW thn blk bF scp ba aZ bC FnAt FnIn FnP ceP gA cP dR
def encMk (x:Rf × BitVec 64):List Value:= [.int .i64 x.1.col,.int .i64 x.1.row,vS x.2]
theorem encMk_len (x:Rf × BitVec 64):(encMk x).length=3:=rfl
noncomputable def marksF (G:Gr) (w:Lw):List (Rf × BitVec 64):=(aq G).map fun c=>(c,dr G w c)
noncomputable def lbsE (G:Gr) (L:List Rl) (N:List Gn):List (Rf × BitVec 64) × Int:=if stE true L N≠0 then ([],stE true L N) else (marksF G (aI L N),0)
set_option maxHeartbeats 8000000 in
theorem Labels_in (gg:Nat) (G:Gr) (B F:List Blk) (w0:World) (R:Rdr gg G B w0) (hB:MSub B F) (L:List Rl) (N:List Gn) (Al An:Option Addr) (cl cn:Nat) (hl: ∀ w',Mem w0 w' F→Reads w' (.slice Al L.length cl) L.length (L.flatMap bM)) (hn: ∀ w',Mem w0 w' F→Reads w' (.slice An N.length cn) N.length (N.flatMap bp)) (hN:N.length≤1000000):FnIn Tryz.prog 40 [.pointer (some ⟨gg,0,none⟩),.slice Al L.length cl,.slice An N.length cn] w0 F fun v H' => ∃ A cap,v= .tuple #[sl A (lbsE G L N).1.length cap,.int .i64 (lbsE G L N).2]∧H' = .own A 109 3 (lbsE G L N).1.length cap ((lbsE G L N).1.flatMap encMk)::F:=by
 refine cF Tryz.func40 rfl Tryz.ntmps40 rfl ?_
 have hst:=fun (ok:Bool) (F2:List Blk) (h:MSub B F2) (h' :MSub F F2)=>oQ gg G B F2 w0 R h ok L N Al An cl cn (fun w' hm=>hl w' (h'.use hm)) (fun w' hm=>hn w' (h'.use hm)) hN
 have hKl:(aq G).length≤900:=by have:=R.l;rw [aq,Uf];exact this
 have hKn:(aq G).Nodup:=R.g.sort.nodup
 unfold lbsE
 have hst:=hst true
 generalize stE true L N=e at hst
 refine aW 109 3 ?_
 repeat' (first|(apply au (f:=89);exact rfl;exact rfl;exact hst _ (MSub.trans hB mS) mS;rintro _ _ (⟨he,rfl,rfl⟩|⟨he,gb,gl,gr,ga,Ac,cap,SR,SA,rfl,rfl⟩))|refine sT ?_|refine sS ?_|refine sM fun _=> ?_|(refine sC ?_ ?_<;>intro hb<;>try omega)|fail)
 all_goals first
  |(exfalso;omega)
  |(rw [if_pos he];exact dc eIO rfl rfl rfl (H' := .own none 109 3 0 0 []::F) mS ⟨none,0,rfl,rfl⟩)
  |skip
 rw [if_neg (by omega)]
 refine ay [8,26,27] rfl (fun y:Nat × Option Nat × Nat=> [(10,sl y.2.1 y.1 y.2.2),(28,.int .i64 (y.1:Int))]) (fun y=> .own y.2.1 109 3 y.1 y.2.2 (((aq G).take y.1).flatMap fun c=>encMk (c,dr G (aI L N) c)):: .box gb 164 [.pointer (some ⟨gg,0,none⟩),.slice Al L.length cl,.slice An N.length cn,sl Ac (aq G).length cap,.map (some gl),.map (some gr),.map (some ga)]:: .own Ac 51 2 (aq G).length cap ((aq G).flatMap aC):: .obj gl (aU aY (mapM (fun c=>vS (dr G (aI L N) c)) (aq G)) (aq G).length):: .obj gr (aU iR (mapM (fun r=>vS (ovE r L).1.1) SR) (SR).length):: .obj ga (aU kv (mapM (fun a=>vS (dO a.fn a.rect L N).1) SA) (SA).length)::F) (fun y=>y.1≤(aq G).length) (fun y=>(aq G).length - y.1) (0,none,0) (TW _) sB mS ?_
 rintro ⟨i,A,ca⟩ hi
 dsimp only at hi ⊢
 by_cases hlt:i<(aq G).length
 ·
  refine bK (A:=Ac) pK (by omega) fun gk hA=> ?_
  subst hA
  have hread:=xJ hlt
  have hck:=UA hlt
  have hsn:((aq G).take (i+1)).flatMap (fun c=>encMk (c,dr G (aI L N) c))=((aq G).take i).flatMap (fun c=>encMk (c,dr G (aI L N) c))++encMk ((aq G)[i],dr G (aI L N) (aq G)[i]):=by
   rw [TP hlt,Ua,Wi]
  generalize (aq G)[i]=c at hread hck hsn
  have hlk:=py (fun c=>vS (dr G (aI L N) c)) (aq G) c (vS 0#64)
  rw [if_pos hck] at hlk
  repeat' (first|(apply ak;exact rfl;apply aj (j:=i);exact rfl;exact rfl;exact hlt)|(apply ak;exact rfl;apply aA;exact rfl;exact pK;exact hread;exact rfl)|refine sT ?_|refine sS ?_|refine sN ?_|refine sM fun _=> ?_|(refine sC ?_ ?_<;>intro hb<;>try omega)|fail)
  all_goals try (exfalso;omega)
  rename_i g12
  refine fu (id:=8) [9,10] [] [.box g12 51 (aC c),.box gb 164 [.pointer (some ⟨gg,0,none⟩),.slice Al L.length cl,.slice An N.length cn,sl (some gk) (aq G).length cap,.map (some gl),.map (some gr),.map (some ga)],.obj gl (aU aY (mapM (fun c=>vS (dr G (aI L N) c)) (aq G)) (aq G).length)] (by kernel_rfl) (by kernel_rfl) (by kernel_rfl) mS ?_
  repeat' (first|(apply eG (d:=39);(iterate 3 exact rfl);apply ep (enc:=aY) (k:=c);exact rfl;exact rfl;exact pK;exact hlk)|(apply bi;(iterate 3 exact rfl);(repeat first|exact .hd|apply Sel.tl|apply In.tl);(intro w hm;exact hm.cells_own (by (repeat first|exact .hd|apply Sel.tl|apply In.tl)));exact rfl;(simp [Value.oneCell',sl]);omega;(simp only [maxLen];omega);(intro A5 c5 hA5))|refine sT ?_|refine sS ?_|refine sW ?_|refine sN ?_|refine sWN ?_|refine sM fun _=> ?_|(refine sC ?_ ?_<;>intro hb<;>try omega)|(refine sCW ?_ ?_<;>intro hb<;>try omega)|fail)
  all_goals first
   |(exfalso;omega)
   |(refine ⟨(i+1,A5,c5),hlt,by dsimp only;omega,by exact sB,by exact sB,by dsimp only;rw [hsn];exact mS⟩;done)
   |trace_state
 ·
  have hi2:i=(aq G).length:=by omega
  subst hi2
  have hfl:((aq G).take (aq G).length).flatMap (fun c=>encMk (c,dr G (aI L N) c))=(marksF G (aI L N)).flatMap encMk:=by rw [Ux,marksF,List.flatMap_map]
  have hml:(marksF G (aI L N)).length=(aq G).length:=by rw [marksF,Uf]
  rw [hfl]
  repeat' (first|refine sT ?_|refine sS ?_|refine sN ?_|refine sM fun _=> ?_|(refine sC ?_ ?_<;>intro hb<;>try omega)|fail)
  all_goals first
   |(exfalso;omega)
   |(exact dc eIO rfl rfl rfl (H' := .own A 109 3 (aq G).length ca ((marksF G (aI L N)).flatMap encMk)::F) mS ⟨A,ca,by rw [hml],by rw [hml]⟩)
   |trace_state
end Go.SL
namespace Go.SL
open Go Go.Proofs
attribute [local irreducible] W WL WQ WG WA WX WLI WR WT WC WE VOp RW thn blk bF scp ba aZ bC FnAt FnIn FnP ceP gA cP dR
theorem Iz (L:List Gn): ∀ u∈L.flatMap bp,u.oneCell' =true:=fun u hu=>by
 obtain ⟨a,_,h⟩:=UM.1 hu
 simp only [bp,TS,Vr,or_false] at h
 rcases h with rfl|rfl|rfl|rfl|rfl|rfl|rfl|rfl<;>rfl
theorem zz (L:List Gn) (tv:Value) (w:World) (ht:Reads w tv L.length (L.flatMap bp)) (hlen:L.length≤1000000):
  FnAt Tryz.prog 46 [tv] w fun v H=> ∃ A cap,v=sl A L.length cap∧H= [.own A 56 8 L.length cap (L.flatMap bp)]:=by
 refine ax Tryz.func46 rfl Tryz.ntmps46 rfl ?_
 have hl:(L.flatMap bp).length=L.length*8:=aR mT L
 refine aW 56 8 ?_
 repeat' (first|(apply eF (n' :=0) (c:=0) (A:=none) (m:=L.length);(iterate 3 exact rfl);exact pK;(intro w hm;exact ht.of_w0 hm);exact hl;exact Iz L;omega;(simp only [maxLen];omega);intro A' cap' hA)|refine sT ?_|refine sM fun _=> ?_|(refine sC ?_ ?_<;>intro hb<;>try omega)|fail)
 exact cA (.inl rfl) Tryz.results46 rfl (H' := [.own A' 56 8 (0+L.length) cap' ([]++L.flatMap bp)]) mS ⟨A',cap',by rw [Uc],by rw [Uc];rfl⟩
end Go.SL
namespace Go.SL
open Go Go.Proofs Go.ChangeShapes Go.WideShapes Go.ChangeAt Go.RowKit Go.Deep
section
variable {H:Type} {enc:TypeId × Value→H} {w:World} {base:Nat} {spare:Nat→Bool} {held:Bool}
set_option maxRecDepth 100000 in
theorem HX {v:Value} {d:DataW H} {p:List MemPlace} (hv:Value.okWide Tryz.prog w .any base 56 v) (h:DataW.Trod enc Tryz.prog w 0 spare held 56 v d p): ∃ g:Gn,v= .agg (bp g).toArray:=by
 obtain ⟨fuel,hf⟩:=h
 obtain ⟨cs,rfl,_⟩:=okWide_struct Tryz.underlying56 hv
 obtain ⟨r,e⟩:=xk hf
 exact ⟨r,by rw [← e];simp [Value.cells]⟩
set_option maxRecDepth 100000 in
theorem Np {v:Value} {d:DataW H} {p:List MemPlace} (hv:Value.okWide Tryz.prog w .any base 34 v) (h:DataW.Trod enc Tryz.prog w 0 spare held 34 v d p): ∃ x:BitVec 64,v=vS x:=by
 obtain ⟨x,rfl,_,_,wx⟩:=open_int Tryz.underlying34 hv h
 have w1:0≤x∧x≤18446744073709551615:=by
  simp [Lit.wf] at wx
  exact wx
 refine ⟨BitVec.ofNat 64 x.toNat,?_⟩
 unfold vS
 rw [BitVec.toNat_ofNat]
 congr 1
 omega
theorem BJ {P:Program} {t0 t1 t2 t3 t4:TypeId} {args:Array Value} {ds:List (DataW H)} {ps:List MemPlace} (h:DataW.TrodAll enc P w base spare held [t0,t1,t2,t3,t4] args.toList ds ps):
  ∃ v0 v1 v2 v3 v4 d0 d1 d2 d3 d4 p0 p1 p2 p3 p4,args= #[v0,v1,v2,v3,v4]∧ds= [d0,d1,d2,d3,d4]∧ps=p0++(p1++(p2++(p3++p4)))∧DataW.Trod enc P w base spare held t0 v0 d0 p0∧DataW.Trod enc P w base spare held t1 v1 d1 p1∧DataW.Trod enc P w base spare held t2 v2 d2 p2∧DataW.Trod enc P w base spare held t3 v3 d3 p3∧DataW.Trod enc P w base spare held t4 v4 d4 p4:=by
 obtain ⟨v0,vs,d0,ds',p0,q0,hargs,rfl,rfl,h0,h⟩:=trodAll_cons h
 obtain ⟨v1,vs,d1,ds',p1,q1,rfl,rfl,rfl,h1,h⟩:=trodAll_cons h
 obtain ⟨v2,vs,d2,ds',p2,q2,rfl,rfl,rfl,h2,h⟩:=trodAll_cons h
 obtain ⟨v3,vs,d3,ds',p3,q3,rfl,rfl,rfl,h3,h⟩:=trodAll_cons h
 obtain ⟨v4,vs,d4,ds',p4,q4,rfl,rfl,rfl,h4,h⟩:=trodAll_cons h
 obtain ⟨rfl,rfl,rfl⟩:=trodAll_nil h
 exact ⟨v0,v1,v2,v3,v4,d0,d1,d2,d3,d4,p0,p1,p2,p3,p4,by cases args;simp_all,rfl,by simp,h0,h1,h2,h3,h4⟩
theorem DG {P:Program} {t0 t1 t2 t3 t4:TypeId} {v0 v1 v2 v3 v4:Value} {d0 d1 d2 d3 d4:DataW H} {p0 p1 p2 p3 p4:List MemPlace} (h0:DataW.Trod enc P w base spare held t0 v0 d0 p0) (h1:DataW.Trod enc P w base spare held t1 v1 d1 p1) (h2:DataW.Trod enc P w base spare held t2 v2 d2 p2) (h3:DataW.Trod enc P w base spare held t3 v3 d3 p3) (h4:DataW.Trod enc P w base spare held t4 v4 d4 p4):
  DataW.TrodAll enc P w base spare held [t0,t1,t2,t3,t4] [v0,v1,v2,v3,v4] [d0,d1,d2,d3,d4] (p0++(p1++(p2++(p3++p4)))):=
 trodAll_cons_mk h0 (trodAll_mk4 h1 h2 h3 h4)
end
end Go.SL
namespace Go.SL
open Go Go.Proofs
attribute [local irreducible] W WL WQ WG WA WX WLI WR WT WC WE VOp RW thn blk bF scp ba aZ bC FnAt FnIn FnP ceP
structure Small (b:Bk):Prop where
 e:b.ents.length≤1000000
 r:b.rules.length≤1000000
 g:b.grants.length≤1000000
 l:b.log.length≤1000000
 s:b.rels.length≤1000000
end Go.SL

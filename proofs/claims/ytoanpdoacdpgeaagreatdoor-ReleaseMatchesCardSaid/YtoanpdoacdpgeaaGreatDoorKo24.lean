/-
  Lemmas and walks, put together: Ub.
-/
import Derived.Test.YtoanpdoacdpgeaaGreatDoorKo20
import Derived.Test.YtoanpdoacdpgeaaGreatDoorKo21
set_option linter.unusedSimpArgs false
set_option linter.unusedVariables false
set_option maxRecDepth 20000
namespace Go.SL
open Go Go.Proofs
attribute [local irreducible] W WL WQ WG WA WX WLI WR WT WC WE VOp RW thn blk bp scp aR ba bE aF FnIn FnP ceP
theorem CK (r:Rct) (a:Rf) (w:World):aA Tryz.prog 115 [.agg (bL r).toArray,.agg (aS a).toArray] w (.bool (iZ r a)):=by
 refine aq Tryz.func115 rfl Tryz.ntmps115 rfl ?_
 cases hh:iZ r a with
 |true=>
  have h:=dc.1 hh
  repeat' (first|refine sT ?_|refine sM fun _=> ?_|(refine sC ?_ ?_<;>intro hb<;>try omega)|fail)
  all_goals first|(exfalso;omega)|((refine rT1 ?_);simp;omega)|((refine rT1 ?_);rfl)
 |false=>
  have h: ¬ (r.c1≤a.col∧a.col≤r.c2∧r.r1≤a.row∧a.row≤r.r2):=fun h2=>by rw [dc.2 h2] at hh;cases hh
  repeat' (first|refine sT ?_|refine sM fun _=> ?_|(refine sC ?_ ?_<;>intro hb<;>try omega)|fail)
  all_goals first|(exfalso;omega)|((refine rT1 ?_);simp;omega)|((refine rT1 ?_);rfl)
theorem FN {a:Rf} {L:List Rl} {i:Nat} (h:i<L.length):jE a L (i+1)=if iZ L[i].rect a=true then i else jE a L i:=by
 rw [jE,QV h]
 rfl
set_option maxHeartbeats 4000000 in
theorem rr (a:Rf) (L:List Rl) (lv:Value) (w:World) (hl:Reads w lv L.length (L.flatMap bM)):aA Tryz.prog 150 [.agg (aS a).toArray,lv] w (.int .i64 (cR L a:Int)):=by
 obtain ⟨Al,cl,rfl,hl1,hl2,hl3⟩:=hl
 refine aq Tryz.func150 rfl Tryz.ntmps150 rfl ?_
 repeat' (first|refine sT ?_|refine sS ?_|refine sM fun _=> ?_|(refine sC ?_ ?_<;>intro hb<;>try omega)|fail)
 rename_i g2
 refine aw [1,2] rfl (fun i:Nat=> [(5,.int .i64 (jE a L i:Int)),(6,.int .i64 (i:Int))]) (fun _=> [.box g2 50 (aS a)]) (fun i=>i≤L.length) (fun i=>L.length - i) 0 (Rd _) sB mS ?_
 rintro i hi
 try dsimp only at hi ⊢
 by_cases hlt:i<L.length
 ·
  obtain ⟨gl,ol,rfl,hrl⟩:=hl3 (by omega)
  obtain ⟨hr1,_⟩:=Rl.ro (hrl.elem bV i hlt)
  have hn:=FN (a:=a) hlt
  have hH:=fun w=>CK L[i].rect a w
  generalize L[i].rect=r at hr1 hn hH
  cases hh:iZ r a with
  |true=>
   rw [hh] at hH hn
   rw [if_pos rfl] at hn
   repeat' (first|(apply eE (id:=5) [6] [];kernel_rfl;kernel_rfl;kernel_rfl)|(apply dm;(iterate 3 exact rfl);apply aj (j:=i);exact rfl;exact rfl;exact hlt)|(apply dm;(iterate 3 exact rfl);apply aC;exact rfl;exact hr1;exact rfl)|(apply aa (f:=115);exact rfl;exact rfl;(intro w' _;exact hH w'))|refine sT ?_|refine sS ?_|refine sQ ?_|refine sW ?_|refine sN ?_|refine sNQ ?_|refine sWN ?_|refine sD ?_|refine sM fun _=> ?_|(refine sC ?_ ?_<;>intro hb<;>try omega)|(refine sCQ ?_ ?_<;>intro hb<;>try omega)|(refine sCW ?_ ?_<;>intro hb<;>try omega)|fail)
   all_goals first
    |(exfalso;omega)
    |(refine ⟨i+1,hlt,by omega,by rw [hn];exact sB,by exact sB,by exact mS⟩;done)
  |false=>
   rw [hh] at hH hn
   rw [if_neg (by decide)] at hn
   repeat' (first|(apply eE (id:=5) [6] [];kernel_rfl;kernel_rfl;kernel_rfl)|(apply dm;(iterate 3 exact rfl);apply aj (j:=i);exact rfl;exact rfl;exact hlt)|(apply dm;(iterate 3 exact rfl);apply aC;exact rfl;exact hr1;exact rfl)|(apply aa (f:=115);exact rfl;exact rfl;(intro w' _;exact hH w'))|refine sT ?_|refine sS ?_|refine sQ ?_|refine sW ?_|refine sN ?_|refine sNQ ?_|refine sWN ?_|refine sD ?_|refine sM fun _=> ?_|(refine sC ?_ ?_<;>intro hb<;>try omega)|(refine sCQ ?_ ?_<;>intro hb<;>try omega)|(refine sCW ?_ ?_<;>intro hb<;>try omega)|fail)
   all_goals first
    |(exfalso;omega)
    |(refine ⟨i+1,hlt,by omega,by rw [hn];exact sB,by exact sB,by exact mS⟩;done)
 ·
  have e:i=L.length:=by omega
  subst e
  repeat' (first|refine sT ?_|refine sS ?_|refine sM fun _=> ?_|(refine sC ?_ ?_<;>intro hb<;>try omega)|fail)
  all_goals first|(exfalso;omega)|((refine rT1 ?_);rfl)
theorem PU {lo:Int} {B:List Int} {x:Int} {i:Nat} (h:i<B.length):(decide (x=lo)||decide (x∈B.take (i+1)))=((decide (x=lo)||decide (x∈B.take i))||decide (B[i]=x)):=by
 rw [Ra h,RQ]
 simp only [Td,decide_eq_true_eq,Ru,Rp]
 constructor
 ·
  rintro (h|h|h)
  ·
   exact .inl (.inl h)
  ·
   exact .inl (.inr h)
  ·
   exact .inr h.symm
 ·
  rintro ((h|h)|h)
  ·
   exact .inl h
  ·
   exact .inr (.inl h)
  ·
   exact .inr (.inr h.symm)
set_option maxHeartbeats 4000000 in
theorem rq (lo hi:Int) (B:List Int) (bv:Value) (w:World) (hb:Reads w bv B.length (B.map du)) (hlo:1≤lo) (hle:lo≤hi+1) (hhi:hi≤1024):
    aF Tryz.prog 199 [.int .i64 lo,.int .i64 hi,bv] w fun v H=> ∃ A cap,v=sl A (tF lo hi B).length cap∧H= [.own A 3 1 (tF lo hi B).length cap ((tF lo hi B).map du)]:=by
  obtain ⟨Ab,cb,rfl,hb1,hb2,hb3⟩:=hb
  refine aq Tryz.func199 rfl Tryz.ntmps199 rfl ?_
  unfold tF
  obtain ⟨N,hN⟩: ∃ N,(hi+1 - lo).toNat=N:=⟨_,rfl⟩
  rw [hN]
  refine aB 3 1 ?_
  repeat' (first|refine sT ?_|refine sS ?_|refine sM fun _=> ?_|(refine sC ?_ ?_<;>intro hb<;>try omega)|fail)
  refine aw [0,1,2] rfl (fun y:Nat × Option Nat × Nat=> [(7,sl y.2.1 (rU lo B y.1).length y.2.2),(8,.int .i64 (lo+(y.1:Int)))]) (fun y=> [.own y.2.1 3 1 (rU lo B y.1).length y.2.2 ((rU lo B y.1).map du)]) (fun y=>y.1≤N) (fun y=>N - y.1) (0,none,0) (Rd _) (by rw [Int.natCast_zero,Up];exact sB) mS ?_
  rintro ⟨k,A,c⟩ hk
  dsimp only at hk ⊢
  have hkl:=xv (lo:=lo) (B:=B) k
  by_cases hlt:k<N
  · have hsn:rU lo B (k+1)=rU lo B k++(if pT lo B (lo+(k:Int))=true then [lo+(k:Int)] else []):=rfl
    have hic:pT lo B (lo+(k:Int))=(decide (lo+(k:Int)=lo)||decide (lo+(k:Int)∈B)):=rfl
    have hsum:lo+(k:Int)+1=lo+((k+1:Nat):Int):=by omega
    generalize hx:lo+(k:Int)=x at hsn hic hsum
    generalize hC:rU lo B k=C at hsn hkl
    have hx1:0≤x∧x≤1024:=by omega
    have hx2:x≤hi:=by omega
    repeat' (first|refine sT ?_|refine sS ?_|refine sM fun _=> ?_|(refine sC ?_ ?_<;>intro hb<;>try omega)|fail)
    all_goals try (exfalso;omega)
    refine aw [0,1,2,7,8] rfl (fun i:Nat=> [(9,.bool (decide (x=lo)||decide (x∈B.take i))),(10,.int .i64 (i:Int))]) (fun _=> [.own A 3 1 C.length c (C.map du)]) (fun i=>i≤B.length) (fun i=>B.length - i) 0 (Rd _) (by simp only [Sj,SK,decide_false,Bool.or_false];exact sB) mS ?_
    rintro i hi
    try dsimp only at hi ⊢
    by_cases hlb:i<B.length
    · obtain ⟨gb,ob,rfl,hrb⟩:=hb3 (by omega)
      have hcell:=hrb.cellV i (v:= .int .i64 B[i]) (by simp [du,hlb])
      have hst:=PU (lo:=lo) (x:=x) hlb
      generalize B[i]=y at hcell hst
      obtain ⟨q,hq⟩: ∃ q,(decide (x=lo)||decide (x∈B.take i))=q:=⟨_,rfl⟩
      rw [hq] at hst ⊢
      by_cases hyx:y=x
      · rw [decide_eq_true hyx,Bool.or_true] at hst
        cases q
        all_goals
          repeat' (first|(apply ak;exact rfl;apply aj (j:=i);exact rfl;exact rfl;exact hlb)|(apply ak;exact rfl;apply fE;exact rfl;exact hcell)|refine sT ?_|refine sS ?_|refine sN ?_|refine sM fun _=> ?_|(refine sC ?_ ?_<;>intro hb<;>try omega)|fail)
        all_goals first
          |(exfalso;omega)
          |(rw [decide_eq_true hyx];refine ⟨i+1,hlb,by omega,by rw [hst];exact sB,by exact sB,by exact mS⟩;done)
          |(refine ⟨i+1,hlb,by omega,by rw [hst];exact sB,by exact sB,by exact mS⟩;done)
      · rw [decide_eq_false hyx,Bool.or_false] at hst
        cases q
        all_goals
          repeat' (first|(apply ak;exact rfl;apply aj (j:=i);exact rfl;exact rfl;exact hlb)|(apply ak;exact rfl;apply fE;exact rfl;exact hcell)|refine sT ?_|refine sS ?_|refine sN ?_|refine sM fun _=> ?_|(refine sC ?_ ?_<;>intro hb<;>try omega)|fail)
        all_goals first
          |(exfalso;omega)
          |(rw [decide_eq_false hyx];refine ⟨i+1,hlb,by omega,by rw [hst];exact sB,by exact sB,by exact mS⟩;done)
          |(refine ⟨i+1,hlb,by omega,by rw [hst];exact sB,by exact sB,by exact mS⟩;done)
    · have e:i=B.length:=by omega
      subst e
      rw [RJ,← hic]
      obtain ⟨q,hq⟩: ∃ q,pT lo B x=q:=⟨_,rfl⟩
      rw [hq] at hsn ⊢
      cases q with
      |true=>
        rw [if_pos rfl] at hsn
        repeat' (first|(apply aQ;(iterate 3 exact rfl);(repeat first|exact .hd|apply Sel.tl|apply In.tl);(intro w hm;exact hm.cells_own (by (repeat first|exact .hd|apply Sel.tl|apply In.tl)));exact rfl;(simp [Value.oneCell',sl]);omega;(simp only [maxLen];omega);(intro A2 c2 hA2))|refine sT ?_|refine sS ?_|refine sJ ?_|refine sM fun _=> ?_|(refine sC ?_ ?_<;>intro hb<;>try omega)|fail)
        all_goals first
          |(exfalso;omega)
          | (refine ⟨(k + 1, A2, c2), hlt, by dsimp only; omega, ?_, ?_, ?_⟩
             · dsimp only;rw [hsn,List.length_append,← hsum];exact sB
             · exact sB
             · dsimp only;rw [hsn,List.length_append,List.map_append];exact mS)
      |false=>
        rw [if_neg (by decide),QZ] at hsn
        repeat' (first|refine sT ?_|refine sS ?_|refine sJ ?_|refine sM fun _=> ?_|(refine sC ?_ ?_<;>intro hb<;>try omega)|fail)
        all_goals first
          |(exfalso;omega)
          | (refine ⟨(k + 1, A, c), hlt, by dsimp only; omega, ?_, ?_, ?_⟩
             · dsimp only;rw [hsn,← hsum];exact sB
             · exact sB
             · dsimp only;rw [hsn];exact mS)
  · have e:k=N:=by omega
    subst e
    repeat' (first|refine sT ?_|refine sS ?_|refine sM fun _=> ?_|(refine sC ?_ ?_<;>intro hb<;>try omega)|fail)
    all_goals first
      |(exfalso;omega)
      |(refine cA eIO rfl rfl mS ⟨A,c,rfl,rfl⟩;done)
theorem FT (a b:List Int) (y:Int):kV (a++ [y]) b=kV a b++b.map fun x=>⟨x,y⟩:=by simp [kV]
theorem DR {lo hi:Int} {B:List Int} (h1:1≤lo) (h2:hi≤1024):(tF lo hi B).length≤1024:=by
 have:=xv (lo:=lo) (B:=B) (hi+1 - lo).toNat
 unfold tF;omega
set_option maxHeartbeats 8000000 in
theorem wn (r:Rct) (L:List Rl) (lv:Value) (w:World) (hl:Reads w lv L.length (L.flatMap bM)) (hr:aO r=true) (hL: ∀ R∈L,aO R.rect=true) (hn:L.length≤1000):
    aF Tryz.prog 149 [.agg (bL r).toArray,lv] w fun v H=> ∃ A cap,v=sl A (Ah r L).length cap∧H= [.own A 50 2 (Ah r L).length cap ((Ah r L).flatMap aS)]:=by
  obtain ⟨Al,cl,rfl,hl1,hl2,hl3⟩:=hl
  have hrs:=cX.1 hr
  refine aq Tryz.func149 rfl Tryz.ntmps149 rfl ?_
  refine aB 3 1 ?_
  refine aB 3 1 ?_
  refine aB 50 2 ?_
  repeat' (first|refine sT ?_|refine sS ?_|refine sM fun _=> ?_|(refine sC ?_ ?_<;>intro hb<;>try omega)|fail)
  rename_i g2
  refine aw [1,2] rfl (fun y:Nat × (Option Nat × Nat) × (Option Nat × Nat)=> [(5,sl y.2.1.1 (2*y.1) y.2.1.2),(6,sl y.2.2.1 (2*y.1) y.2.2.2),(7,.int .i64 (y.1:Int))]) (fun y=> [.own y.2.1.1 3 1 (2*y.1) y.2.1.2 ((qE (L.take y.1)).map du),.own y.2.2.1 3 1 (2*y.1) y.2.2.2 ((qj (L.take y.1)).map du),.own none 50 2 0 0 [],.box g2 32 (bL r)]) (fun y=>y.1≤L.length) (fun y=>L.length - y.1) (0,(none,0),(none,0)) (Rd _) sB mS ?_
  rintro ⟨i,⟨A5,c5⟩,⟨A6,c6⟩⟩ hi
  dsimp only at hi ⊢
  by_cases hlt:i<L.length
  · obtain ⟨gl,ol,rfl,hrl⟩:=hl3 (by omega)
    obtain ⟨hr1,_⟩:=Rl.ro (hrl.elem bV i hlt)
    have hx:=cX.1 (hL _ (RN hlt))
    have hc1:qE (L.take (i+1))=qE (L.take i)++ [L[i].rect.c1,L[i].rect.c2+1]:=by rw [Ra hlt,JL]
    have hc2:qj (L.take (i+1))=qj (L.take i)++ [L[i].rect.r1,L[i].rect.r2+1]:=by rw [Ra hlt,IY]
    generalize qE (L.take i)=C at hc1
    generalize qj (L.take i)=D at hc2
    generalize L[i].rect=x at hr1 hx hc1 hc2
    repeat' (first|(apply ak;exact rfl;apply aj (j:=i);exact rfl;exact rfl;exact hlt)|(apply ak;exact rfl;apply aC;exact rfl;exact hr1;exact rfl)|(apply aQ (A:=A5) (m:=2);(iterate 3 exact rfl);exact pK;(intro w hm;exact hm.cells_own pK);exact rfl;(simp [Value.oneCell',sl]);omega;(simp only [maxLen];omega);(intro A7 c7 hA7))|(apply aQ (A:=A6) (m:=2);(iterate 3 exact rfl);exact pK;(intro w hm;exact hm.cells_own pK);exact rfl;(simp [Value.oneCell',sl]);omega;(simp only [maxLen];omega);(intro A8 c8 hA8))|refine sT ?_|refine sS ?_|refine sN ?_|refine sJ ?_|refine sM fun _=> ?_|(refine sC ?_ ?_<;>intro hb<;>try omega)|fail)
    all_goals first
      |(exfalso;omega)
      | (refine ⟨(i + 1, (A7, c7), (A8, c8)), hlt, by dsimp only; omega, by exact sB, by exact sB, ?_⟩
         dsimp only
         rw [hc1,hc2,RM,RM]
         exact mS)
  · have e:i=L.length:=by omega
    subst e
    rw [RJ]
    have hC:=fun (w' :World) (H:List Blk) (hm:Mem w w' H) (h:In (.own A6 3 1 (2*L.length) c6 ((qj L).map du)) H)=>rq r.r1 r.r2 (qj L) (sl A6 (2*L.length) c6) w' (by rw [Cu];exact Reads.of_own (A:=A6) hm h) (by omega) (by omega) (by omega)
    have hD:=fun (w' :World) (H:List Blk) (hm:Mem w w' H) (h:In (.own A5 3 1 (2*L.length) c5 ((qE L).map du)) H)=>rq r.c1 r.c2 (qE L) (sl A5 (2*L.length) c5) w' (by rw [DV];exact Reads.of_own (A:=A5) hm h) (by omega) (by omega) (by omega)
    have hla:=DR (lo:=r.r1) (hi:=r.r2) (B:=qj L) (by omega) (by omega)
    have hlb:=DR (lo:=r.c1) (hi:=r.c2) (B:=qE L) (by omega) (by omega)
    unfold Ah
    generalize tF r.r1 r.r2 (qj L)=a at hC hla ⊢
    generalize tF r.c1 r.c2 (qE L)=b at hD hlb ⊢
    repeat' (first|(apply eE (id:=8) [5,11] [];kernel_rfl;kernel_rfl;kernel_rfl)|(apply ay (f:=199);exact rfl;exact rfl;(intro w' hm;exact hC w' _ hm pK);rintro _ _ ⟨A9,c9,rfl,rfl⟩)|(apply ay (f:=199);exact rfl;exact rfl;(intro w' hm;exact hD w' _ hm pK);rintro _ _ ⟨A10,c10,rfl,rfl⟩)|refine sT ?_|refine sS ?_|refine sW ?_|refine sM fun _=> ?_|(refine sC ?_ ?_<;>intro hb<;>try omega)|(refine sCW ?_ ?_<;>intro hb<;>try omega)|fail)
    all_goals try (exfalso;omega)
    refine aw [9,10] rfl (fun y:Nat × Option Nat × Nat=> [(11,sl y.2.1 (kV (a.take y.1) b).length y.2.2),(12,.int .i64 (y.1:Int))]) (fun y=> [.own y.2.1 50 2 (kV (a.take y.1) b).length y.2.2 ((kV (a.take y.1) b).flatMap aS),.own A9 3 1 a.length c9 (a.map du),.own A10 3 1 b.length c10 (b.map du)]) (fun y=>y.1≤a.length) (fun y=>a.length - y.1) (0,none,0) (Rd _) sB mS ?_
    rintro ⟨i,A,c⟩ hi
    dsimp only at hi ⊢
    by_cases hia:i<a.length
    · have hgs:kV (a.take (i+1)) b=kV (a.take i) b++b.map fun x=>⟨x,a[i]⟩:=by rw [Ra hia,FT]
      have hgl:=Jv (a.take i) b
      have hgm:(a.take i).length*b.length≤1024*1024:=Nat.mul_le_mul (by rw [RF];omega) hlb
      rw [← hgl] at hgm
      have hra:(a.map du)[0+i*1]? =some (.int .i64 a[i]):=K8 hia
      generalize a[i]=y at hgs hra
      generalize kV (a.take i) b=M at hgs hgm
      repeat' (first|refine sT ?_|refine sS ?_|refine sM fun _=> ?_|(refine sC ?_ ?_<;>intro hb<;>try omega)|fail)
      all_goals try (exfalso;omega)
      refine aw [9,10,12] rfl (fun z:Nat × Option Nat × Nat=> [(11,sl z.2.1 (M++(b.take z.1).map fun x=>(⟨x,y⟩:Rf)).length z.2.2),(13,.int .i64 (z.1:Int))]) (fun z=> [.own z.2.1 50 2 (M++(b.take z.1).map fun x=>(⟨x,y⟩:Rf)).length z.2.2 ((M++(b.take z.1).map fun x=>(⟨x,y⟩:Rf)).flatMap aS),.own A9 3 1 a.length c9 (a.map du),.own A10 3 1 b.length c10 (b.map du)]) (fun z=>z.1≤b.length) (fun z=>b.length - z.1) (0,A,c) (Rd _) (by simp only [Sj,Sq,QZ];exact sB) (by simp only [Sj,Sq,QZ];exact mS) ?_
      rintro ⟨k,A',c'⟩ hk
      dsimp only at hk ⊢
      by_cases hkb:k<b.length
      · have hbs:(M++(b.take (k+1)).map fun x=>(⟨x,y⟩:Rf))=(M++(b.take k).map fun x=>(⟨x,y⟩:Rf))++ [⟨b[k],y⟩]:=by rw [Ra hkb,RM,← Rz];rfl
        have hrb:(b.map du)[0+k*1]? =some (.int .i64 b[k]):=K8 hkb
        have hml:(M++(b.take k).map fun x=>(⟨x,y⟩:Rf)).length≤1100000:=by rw [QT,RP,RF];omega
        generalize b[k]=x at hbs hrb
        generalize (M++(b.take k).map fun x=>(⟨x,y⟩:Rf))=M1 at hbs hml
        refine dN (A:=A9) pK (by omega) fun ga hA9=> ?_
        subst hA9
        refine dN (A:=A10) pK (by omega) fun gb hA10=> ?_
        subst hA10
        repeat' (first|(refine ia (id:=16) [10,11] [] [.own (some ga) 3 1 a.length c9 (a.map du),.own (some gb) 3 1 b.length c10 (b.map du)] (by kernel_rfl) (by kernel_rfl) (by kernel_rfl) mS ?_)|(apply dm (d:=68);(iterate 3 exact rfl);apply aj (j:=k);exact rfl;exact rfl;exact hkb)|(apply dm (d:=72);(iterate 3 exact rfl);apply aj (j:=i);exact rfl;exact rfl;exact hia)|(apply dm (d:=69);(iterate 3 exact rfl);apply aV;exact rfl;exact pK;exact hrb)|(apply dm (d:=73);(iterate 3 exact rfl);apply aV;exact rfl;exact pK;exact hra)|(apply aQ (A:=A') (m:=1);(iterate 3 exact rfl);exact pK;(intro w hm;exact hm.cells_own pK);exact rfl;(simp [Value.oneCell',sl]);omega;(simp only [maxLen];omega);(intro A2 c2 hA2))|refine sT ?_|refine sS ?_|refine sW ?_|refine sN ?_|refine sWN ?_|refine sM fun _=> ?_|(refine sC ?_ ?_<;>intro hb<;>try omega)|(refine sCW ?_ ?_<;>intro hb<;>try omega)|fail)
        all_goals first
          |(exfalso;omega)
          | (refine ⟨(k + 1, A2, c2), hkb, by dsimp only; omega, ?_, ?_, ?_⟩
             · dsimp only;rw [hbs,List.length_append];exact sB
             · exact sB
             · dsimp only;rw [hbs,List.length_append,List.flatMap_append,List.flatMap_cons,List.flatMap_nil,List.append_nil];exact mS)
      · have e:k=b.length:=by omega
        subst e
        rw [RJ,← hgs]
        repeat' (first|refine sT ?_|refine sS ?_|refine sN ?_|refine sM fun _=> ?_|(refine sC ?_ ?_<;>intro hb<;>try omega)|fail)
        all_goals first
          |(exfalso;omega)
          |(refine ⟨(i+1,A',c'),hia,by dsimp only;omega,by exact sB,by exact sB,by exact mS⟩;done)
    · have e:i=a.length:=by omega
      subst e
      rw [RJ]
      repeat' (first|refine sT ?_|refine sS ?_|refine sM fun _=> ?_|(refine sC ?_ ?_<;>intro hb<;>try omega)|fail)
      all_goals first
        |(exfalso;omega)
        |(refine cA eIO rfl rfl mS ⟨A,c,rfl,rfl⟩;done)
end Go.SL

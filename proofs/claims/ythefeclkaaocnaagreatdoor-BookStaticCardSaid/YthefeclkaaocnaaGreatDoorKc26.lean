/-
  Lemmas and walks, put together: Hj Sl33 Hk Hl Sl34 Hm Sl35 Hn Ia Ho Pl4 Pl5 Pl6 Pf Sl36 Rj Rk Pl7 Rl Rm Rn.
-/
import Derived.Test.YthefeclkaaocnaaGreatDoorKc25
set_option linter.unusedSimpArgs false
set_option linter.unusedVariables false
set_option maxRecDepth 20000
namespace Go.SL
open Go Go.Proofs
attribute [local irreducible] W WL WQ WG WA WX WLI WR WT WC WE VOp RW thn blk bL scp bi bz bY aQ FnIn FnP ceP
--
theorem G6 {l m:List Pz} {p:Pz} (hm:m≠ []):l++ji m p=ji (l++m) p:=by
 have e:=OA hm
 generalize hd:m.dropLast=d at e
 generalize m.getLast hm=q at e
 subst e
 unfold ji
 rw [← NC,List.getLast?_concat,List.getLast?_concat]
 dsimp only
 rw [PG,PG]
 split<;>simp
theorem ve {O:List Pz} {q p:Pz}:ji (O++ [q]) p=if q.a=p.a∧q.b=p.b then O++ [⟨⟨q.rect.c1,q.rect.r1,p.rect.c2,q.rect.r2⟩,q.a,q.b⟩] else O++ [q]++ [p]:=by
 unfold ji
 rw [List.getLast?_concat]
 dsimp only
 rw [PG]
theorem CT {A B:List Rl} {y:Int × Int} (xs:List (Int × Int)):(je A B y xs).length≤xs.length:=by
 induction xs using qy with
 |h0=>exact MZ _
 |h1 xs x ih=>
  rw [jZ,MT,MX]
  generalize je A B y xs=l at ih
  unfold ji
  cases h:l.getLast? with
  |none=>simp
  |some q=>
   dsimp only
   split
   ·
    rw [MT,List.length_dropLast,MX];omega
   ·
    rw [MT,MX];omega
theorem yq {A B:List Rl} {y:Int × Int}:je A B y []= []:=rfl
def iz (A B:List Rl) (ys xs:List (Int × Int)):List Pz:=ys.flatMap fun y=>je A B y xs
theorem yo {A B:List Rl} {ys xs:List (Int × Int)} {y:Int × Int}:iz A B (ys++ [y]) xs=iz A B ys xs++je A B y xs:=by unfold iz;simp
theorem kC {A B:List Rl} {xs:List (Int × Int)}: ∀ ys:List (Int × Int),(iz A B ys xs).length≤ys.length*xs.length
 | []=>by simp [iz]
 |y::ys=>by
  have h1:=kC (A:=A) (B:=B) (xs:=xs) ys
  have h2:=CT (A:=A) (B:=B) (y:=y) xs
  unfold iz at h1 ⊢
  rw [Nc,MT,Nq,Nat.succ_mul]
  omega
theorem K3 {A B:List Rl} {y:Int × Int} (xs:List (Int × Int)): ∀ q∈je A B y xs,q.rect.r1=y.1∧ ∃ x∈xs,q.rect.c1=x.1:=by
 induction xs using qy with
 |h0=>intro q hq;cases hq
 |h1 xs x ih=>
  intro q hq
  rw [jZ] at hq
  by_cases hn:je A B y xs= []
  ·
   rw [hn] at hq
   have:q=lG A B y x:=by simpa [ji] using hq
   subst this
   exact ⟨rfl,x,by simp,rfl⟩
  ·
   have e:=OA hn
   generalize (je A B y xs).dropLast=d at e
   generalize (je A B y xs).getLast hn=z at e
   rw [← e] at hq ih
   rw [ve] at hq
   have hz:=ih z (by simp)
   split at hq
   ·
    rcases Nu.1 hq with hq|hq
    ·
     obtain ⟨h1,x',h2,h3⟩:=ih q (by simp [hq])
     exact ⟨h1,x',by simp [h2],h3⟩
    ·
     rw [Nz.1 hq]
     obtain ⟨h1,x',h2,h3⟩:=hz
     exact ⟨h1,x',by simp [h2],h3⟩
   ·
    rcases Nu.1 hq with hq|hq
    ·
     obtain ⟨h1,x',h2,h3⟩:=ih q hq
     exact ⟨h1,x',by simp [h2],h3⟩
    ·
     rw [Nz.1 hq]
     exact ⟨rfl,x,by simp,rfl⟩
theorem yT {r:Rct} {A B:List Rl} (hrs:1≤r.c1∧r.c1≤r.c2∧r.c2≤1024∧1≤r.r1∧r.r1≤r.r2∧r.r2≤1024): ∀ p∈dm r A B,rD p:=fun p hp=>by
 obtain ⟨y,hy,hp⟩:=NR.1 hp
 obtain ⟨h1,x,hx,h2⟩:=K3 _ p hp
 have h3:=dU hy
 have h4:=dU hx
 unfold rD
 omega
set_option maxHeartbeats 16000000 in
theorem Gg (r:Rct) (hr:aG r=true) (A B:List Rl) (la lb:Value) (w:World) (hla:Reads w la A.length (A.flatMap bf)) (hlb:Reads w lb B.length (B.flatMap bf)) (hA:A.length≤200) (hB:B.length≤200):
    aQ Tryz.prog 82 [.agg (bK r).toArray,la,lb] w fun v H=> ∃ Ap cap,v=sl Ap (dm r A B).length cap∧H= [.own Ap 145 6 (dm r A B).length cap ((dm r A B).flatMap cU)]:=by
  refine aq Tryz.func82 rfl Tryz.ntmps82 rfl ?_
  have hrs:=cQ.1 hr
  have hZ:InZ (dm r A B):=by
    refine ⟨wJ r A B,yT hrs,?_⟩
    have h1:=kC (A:=A) (B:=B) (xs:=cf r.c1 r.c2 (aU r A++aU r B)) (cf r.r1 r.r2 (aS r A++aS r B))
    have h2:=gT r.c1 r.c2 (aU r A++aU r B)
    have h3:=gT r.r1 r.r2 (aS r A++aS r B)
    have h4:=dN r A
    have h5:=dN r B
    have h6:=dI r A
    have h7:=dI r B
    rw [MT] at h2 h3
    refine Nt h1 (Nt (Nat.mul_le_mul (show _≤801 by omega) (show _≤801 by omega)) (by decide))
  have hnA:=fun (gr gc gw:Nat)=>C8 r A la gr gc gw none none 0 0 [] [] [] w hla (by simp;omega) (by simp;omega)
  have hnB:=fun (gr gc gw:Nat) (A1 A2:Option Nat) (c1 c2:Nat)=>C8 r B lb gr gc gw A1 A2 c1 c2 (aU r A) (aS r A) [] w hlb (by have:=dN r A;omega) (by have:=dI r A;omega)
  have hcl:(aU r A++aU r B).length≤400:=by have:=dN r A;have:=dN r B;rw [MT];omega
  have hwl:(aS r A++aS r B).length≤400:=by have:=dI r A;have:=dI r B;rw [MT];omega
  have hcs: ∀ p∈aU r A++aU r B,0≤p.1∧p.1≤100000∧0≤p.2∧p.2≤100000:=fun p hp=>(Nu.1 hp).elim (oJ p) (oJ p)
  have hws: ∀ p∈aS r A++aS r B,0≤p.1∧p.1≤100000∧0≤p.2∧p.2≤100000:=fun p hp=>(Nu.1 hp).elim (nT p) (nT p)
  have hb1:=fun (w' :World) (lv:Value) (h:Reads w' lv _ _)=>zK r.c1 r.c2 (aU r A++aU r B) lv w' h (by omega) (by omega) (by omega) hcs
  have hb2:=fun (w' :World) (lv:Value) (h:Reads w' lv _ _)=>zK r.r1 r.r2 (aS r A++aS r B) lv w' h (by omega) (by omega) (by omega) hws
  have hxl:=gT r.c1 r.c2 (aU r A++aU r B)
  have hyl:=gT r.r1 r.r2 (aS r A++aS r B)
  have hpf:dm r A B=iz A B (cf r.r1 r.r2 (aS r A++aS r B)) (cf r.c1 r.c2 (aU r A++aU r B)):=rfl
  generalize dm r A B=PZ at hZ hpf ⊢
  generalize hX:cf r.c1 r.c2 (aU r A++aU r B)=xB at hb1 hxl hpf
  generalize hY:cf r.r1 r.r2 (aS r A++aS r B)=yB at hb2 hyl hpf
  generalize hCO:aU r A++aU r B=CO at hb1 hcl hxl
  generalize hRO:aS r A++aS r B=RO at hb2 hwl hyl
  refine aI 143 2 ?_
  refine aI 143 2 ?_
  repeat' (first|(apply jS (d:=21);exact rfl;exact rfl;infer_instance;exact rfl;exact FnIn.msub (hnA _ _ _) (by simp only [pR,M5,MU,MW];exact mS);rintro _ _ ⟨rfl,A1,c1,A2,c2,rfl⟩)|(apply jS (d:=24);exact rfl;exact rfl;infer_instance;exact rfl;exact FnIn.msub (hnB _ _ _ A1 A2 c1 c2) (by simp only [pR,M5,MU,MW];exact mS);rintro _ _ ⟨rfl,A3,c3,A4,c4,rfl⟩)|refine sT ?_|refine sS ?_|refine sT2 ?_|refine sM fun _=> ?_|(refine sC ?_ ?_<;>intro hb<;>try omega)|exact cT|fail)
  rename_i g3 g7 g8
  rw [hCO,hRO]
  simp only [pR,M5,MU,MW]
  refine mV (fun _:Option Nat × Nat × Option Nat × Nat=> [(1,la),(2,lb),(3,.pointer (some ⟨g3,0,none⟩)),(7,.pointer (some ⟨g7,0,none⟩)),(8,.pointer (some ⟨g8,0,none⟩))]) (fun y=> .box g7 210 [sl y.1 xB.length y.2.1]:: .own y.1 143 2 xB.length y.2.1 (xB.flatMap cV):: .box g8 210 [sl y.2.2.1 yB.length y.2.2.2]:: .own y.2.2.1 143 2 yB.length y.2.2.2 (yB.flatMap cV):: []) (fun _=>True) ?_ ?_
  · refine wg (id:=5) [4,5,10,11,12,13] [.box g3 33 (bK r)] 14 rfl rfl mS ?_
    repeat' (first|(apply fS (i:=0);(iterate 4 exact rfl);decide+kernel;decide+kernel;decide+kernel;(exact vC))|(apply fS (i:=1);(iterate 4 exact rfl);decide+kernel;decide+kernel;decide+kernel;(exact vC))|(apply fS (i:=2);(iterate 4 exact rfl);decide+kernel;decide+kernel;decide+kernel;(exact vC))|(apply fS (i:=3);(iterate 4 exact rfl);decide+kernel;decide+kernel;decide+kernel;(exact vC))|(apply fS (i:=6);(iterate 4 exact rfl);decide+kernel;decide+kernel;decide+kernel;(exact vC))|(apply fS (i:=7);(iterate 4 exact rfl);decide+kernel;decide+kernel;decide+kernel;(exact vC))|(apply fS (i:=8);(iterate 4 exact rfl);decide+kernel;decide+kernel;decide+kernel;(exact vC))|(apply fS (i:=9);(iterate 4 exact rfl);decide+kernel;decide+kernel;decide+kernel;(exact vC))|(apply jC (i:=4) (j:=10);(iterate 6 exact rfl);decide+kernel)|(apply jC (i:=5) (j:=10);(iterate 6 exact rfl);decide+kernel)|(apply jC (i:=12) (j:=13);(iterate 6 exact rfl);decide+kernel)|(apply fH (i:=4);(iterate 3 exact rfl);decide+kernel)|(apply fH (i:=5);(iterate 3 exact rfl);decide+kernel)|(apply fH (i:=10);(iterate 3 exact rfl);decide+kernel)|(apply fH (i:=11);(iterate 3 exact rfl);decide+kernel)|(apply fH (i:=12);(iterate 3 exact rfl);decide+kernel)|(apply fH (i:=13);(iterate 3 exact rfl);decide+kernel)|(apply aC (d:=30);exact rfl;exact rfl;(intro w' hm;exact hb1 w' _ (Reads.of_own (A:=A3) hm pK));rintro _ _ ⟨A5,c5,rfl,rfl⟩)|(apply aC (d:=36);exact rfl;exact rfl;(intro w' hm;exact hb2 w' _ (Reads.of_own (A:=A4) hm pK));rintro _ _ ⟨A6,c6,rfl,rfl⟩)|(apply v7;decide+kernel)|(apply J8;(focus (exact mS;done)))|refine sT ?_|refine sS ?_|refine sT2 ?_|refine sM fun _=> ?_|(refine sC ?_ ?_<;>intro hb<;>try omega)|exact cT|fail)
    all_goals first
      |(exfalso;omega)
      |(exact cv (A5,c5,A6,c6) trivial sB mS)
      |trace_state
  rintro ⟨A5,c5,A6,c6⟩ _
  dsimp only
  clear hnA hnB hb1 hb2 hX hY hCO hRO
  refine aI 145 6 ?_
  repeat' (first|refine sT ?_|refine sS ?_|refine sT2 ?_|refine sM fun _=> ?_|(refine sC ?_ ?_<;>intro hb<;>try omega)|exact cT|fail)
  refine ay [1,2,7,37,38] rfl (fun y:Nat × Option Nat × Nat=> [(10,sl y.2.1 (iz A B (yB.take y.1) xB).length y.2.2),(39,.int .i64 (y.1:Int))]) (fun y=> .own y.2.1 145 6 (iz A B (yB.take y.1) xB).length y.2.2 ((iz A B (yB.take y.1) xB).flatMap cU):: .box g7 210 [sl A5 xB.length c5]:: .own A5 143 2 xB.length c5 (xB.flatMap cV):: .own A6 143 2 yB.length c6 (yB.flatMap cV):: []) (fun y=>y.1≤yB.length) (fun y=>yB.length - y.1) (0,none,0) (Nl _) sB mS ?_
  rintro ⟨j,Ao,co⟩ hj
  dsimp only at hj ⊢
  by_cases hjl:j<yB.length
  · refine gF (A:=A6) pK (by omega) fun g6 hA6=> ?_
    subst hA6
    have hrd:((yB.flatMap cV).drop (0+j*2)).take 2=cV yB[j]:=by rw [Nm];exact eO iY yB j hjl
    have hsn:=yo (A:=A) (B:=B) (ys:=yB.take j) (xs:=xB) (y:=yB[j])
    rw [← M9 hjl] at hsn
    have hpl:(iz A B (yB.take j) xB).length≤700000:=by
      have h1:=kC (A:=A) (B:=B) (xs:=xB) (yB.take j)
      refine Nt h1 (Nt (Nat.mul_le_mul (show _≤801 by rw [Nj];omega) (show _≤801 by omega)) (by decide))
    generalize yB[j]=y at hrd hsn
    generalize iz A B (yB.take j) xB=prev at hsn hpl ⊢
    repeat' (first|(apply aj (d:=41);exact rfl;apply ak (j:=j);exact rfl;exact rfl;exact hjl)|(apply aj (d:=42);exact rfl;apply aR (ys:=cV y);exact rfl;exact pK;exact hrd;exact rfl)|refine sT ?_|refine sS ?_|refine sT2 ?_|refine sN ?_|refine sM fun _=> ?_|(refine sC ?_ ?_<;>intro hb<;>try omega)|exact cT|fail)
    all_goals try (exfalso;omega)
    rename_i g12
    refine ay [1,2,7,12,13,37,38,39,45,46] rfl (fun z:Nat × Option Nat × Nat=> [(10,sl z.2.1 (prev++je A B y (xB.take z.1)).length z.2.2),(47,.int .i64 (z.1:Int))]) (fun z=> .own z.2.1 145 6 (prev++je A B y (xB.take z.1)).length z.2.2 ((prev++je A B y (xB.take z.1)).flatMap cU):: .box g12 143 (cV y):: .box g7 210 [sl A5 xB.length c5]:: .own A5 143 2 xB.length c5 (xB.flatMap cV):: .own (some g6) 143 2 yB.length c6 (yB.flatMap cV):: []) (fun z=>z.1≤xB.length) (fun z=>xB.length - z.1) (0,Ao,co) (Nl _) (by rw [OB,yq,M4];exact sB) (by rw [OB,yq,M4];exact mS) ?_
    rintro ⟨k,Az,cz⟩ hk
    dsimp only at hk ⊢
    by_cases hkl:k<xB.length
    · refine gF (A:=A5) pK (by omega) fun g5 hA5=> ?_
      subst hA5
      have hrx:((xB.flatMap cV).drop (0+k*2)).take 2=cV xB[k]:=by rw [Nm];exact eO iY xB k hkl
      have hrn:=jZ (A:=A) (B:=B) (y:=y) (xs:=xB.take k) (x:=xB[k])
      rw [← M9 hkl] at hrn
      have hcl2:=CT (A:=A) (B:=B) (y:=y) (xB.take k)
      rw [Nj] at hcl2
      generalize xB[k]=x at hrx hrn
      have hw1:=fun (w' :World) (H:List Blk) (hm:Mem w w' H)=>xF (eE y x) A la w' (hla.of_w0 hm) (by omega)
      have hw2:=fun (w' :World) (H:List Blk) (hm:Mem w w' H)=>xF (eE y x) B lb w' (hlb.of_w0 hm) (by omega)
      have hp:lG A B y x=⟨eE y x,gD (eE y x) A,gD (eE y x) B⟩:=rfl
      rw [hp] at hrn
      generalize gD (eE y x) A=wa at hw1 hrn
      generalize gD (eE y x) B=wb at hw2 hrn
      clear hp
      repeat' (first|(apply aj (d:=49);exact rfl;apply ak (j:=k);exact rfl;exact rfl;exact hkl)|(apply aj (d:=50);exact rfl;apply aR (ys:=cV x);exact rfl;exact pK;exact hrx;exact rfl)|refine sT ?_|refine sS ?_|refine sT2 ?_|refine sN ?_|refine sM fun _=> ?_|(refine sC ?_ ?_<;>intro hb<;>try omega)|exact cT|fail)
      all_goals try (exfalso;omega)
      rename_i g15 g16
      generalize je A B y (xB.take k)=cur at hrn hcl2 ⊢
      have hOl:(prev++cur).length≤800000:=by rw [MT];omega
      refine l7 (id:=15) 10 (.box g16 145 (cU ⟨eE y x,wa,wb⟩):: .own Az 145 6 (prev++cur).length cz ((prev++cur).flatMap cU):: .box g12 143 (cV y):: .box g7 210 [sl (some g5) xB.length c5]:: .own (some g5) 143 2 xB.length c5 (xB.flatMap cV):: .own (some g6) 143 2 yB.length c6 (yB.flatMap cV):: []) (by kernel_rfl) (by kernel_rfl) rfl ?_
      repeat' (first|(apply DB (f' :=132) (f:=60);exact rfl;decide+kernel;exact rfl;exact rfl;(intro w' hm;first|exact hw1 w' _ hm|exact hw2 w' _ hm))|(apply xG (f:=60) (d:=69);exact rfl;decide+kernel;exact rfl;apply ma;(iterate 5 exact rfl))|(apply kX;exact rfl;exact rfl;exact pK;(iterate 3 exact rfl);exact Oy rfl;exact mS)|refine sT ?_|refine sS ?_|refine sT2 ?_|refine sG2 ?_|refine sG ?_|refine sM fun _=> ?_|(refine sC ?_ ?_<;>intro hb<;>try omega)|exact cT|fail)
      all_goals try (exfalso;omega)
      rcases NP cur.length with h0|hpos
      · have hc0:cur= []:=OD.1 h0
        subst hc0
        have hg:ji [] (⟨eE y x,wa,wb⟩:Pz)= [⟨eE y x,wa,wb⟩]:=rfl
        rw [hg] at hrn
        rw [M4] at hOl ⊢
        repeat' (first|(apply fU (id:=17);kernel_rfl;kernel_rfl)|(apply cG (d:=99) (A:=Az) (m:=1);(iterate 3 exact rfl);exact pK;(intro w hm;exact hm.cells_own pK);exact rfl;(simp [Value.oneCell',sl,cU]);omega;(simp only [maxLen];omega);(intro A' cap' hA'))|refine sT ?_|refine sS ?_|refine sQ ?_|refine sT2 ?_|refine sQ2 ?_|refine sN ?_|refine sNQ ?_|refine sD ?_|refine sM fun _=> ?_|(refine sC ?_ ?_<;>intro hb<;>try omega)|(refine sCQ ?_ ?_<;>intro hb<;>try omega)|exact cT|fail)
        all_goals first
          |(exfalso;omega)
          | (refine ⟨(k + 1, A', cap'), hkl, by dsimp only; omega, ?_, by exact sB, ?_⟩
             · dsimp only;rw [hrn,List.length_append];exact sB
             · dsimp only;rw [hrn,List.length_append,List.flatMap_append];exact mS)
          |trace_state
      · have hne:cur≠ []:=OJ.1 hpos
        have hga:=G6 (l:=prev) (p:=(⟨eE y x,wa,wb⟩:Pz)) hne
        rw [← hrn] at hga
        have hlt2:prev.length<(prev++cur).length:=by rw [MT];omega
        have hOe:=OA (l:=prev++cur) (by simp [hne])
        generalize (prev++cur).dropLast=O at hOe
        generalize (prev++cur).getLast _=q at hOe
        rw [← hOe] at hga hlt2 hOl ⊢
        rw [ve] at hga
        have hOn:(O++ [q]).length=O.length+1:=by simp
        rw [hOn] at hOl hlt2
        have hq2:(((O++ [q]).flatMap cU).drop (0+O.length*6+4)).take 2=kq (q.a,q.b):=by
          have h1:=eO cJ (O++ [q]) O.length (by simp)
          have h2:=congrArg (List.drop 4) h1
          rw [List.drop_take,N8] at h2
          simp only [List.getElem_concat_length] at h2
          rw [Nm]
          exact h2
        refine gF (A:=Az) pK (by omega) fun gz hAz=> ?_
        subst hAz
        obtain ⟨c,hc⟩: ∃ c,decide ((q.a,q.b)=(wa,wb))=c:=⟨_,rfl⟩
        cases c with
        |true=>
          have hab:q.a=wa∧q.b=wb:=by simpa using hc
          rw [if_pos hab] at hga
          have hset:=EE cJ (O++ [q]) O.length 2 (by simp) (by decide) (.int .i64 x.2) ⟨⟨q.rect.c1,q.rect.r1,x.2,q.rect.r2⟩,q.a,q.b⟩ (by simp only [List.getElem_concat_length];rfl)
          rw [O8 _ _ (MZ _),Nat.sub_self,List.set_cons_zero] at hset
          have hOl3:((O++ [q]).flatMap cU).length=(O.length+1)*6:=by rw [aK cJ,hOn]
          rw [hOn]
          repeat' (first|(apply fU (id:=17);kernel_rfl;kernel_rfl)|(apply aP (d:=79);exact rfl;apply du (a:=O.length+1);exact rfl;exact rfl;omega;(simp only [maxLen];omega))|(apply aP (d:=80);exact rfl;apply ak (j:=O.length);exact rfl;exact rfl;omega)|(apply aP (d:=82);exact rfl;apply aR (ys:=kq (q.a,q.b));exact rfl;exact pK;exact hq2;exact rfl)|(apply aP (d:=85);exact rfl;apply CE (a:=(q.a,q.b)) (b:=(wa,wb)) hc;exact rfl;exact rfl)|(apply aj (d:=89);exact rfl;apply du (a:=O.length+1);exact rfl;exact rfl;omega;(simp only [maxLen];omega))|(apply aj (d:=93);exact rfl;apply ak (j:=O.length);exact rfl;exact rfl;omega)|(apply fR (v:= .int .i64 x.2) (off:=0+O.length*6+2);exact rfl;exact rfl;exact pK;exact rfl;(rw [hOl3];omega);rw [Nm,hset])|refine sT ?_|refine sS ?_|refine sQ ?_|refine sT2 ?_|refine sQ2 ?_|refine sN ?_|refine sNQ ?_|refine sD ?_|refine sM fun _=> ?_|(refine sC ?_ ?_<;>intro hb<;>try omega)|(refine sCQ ?_ ?_<;>intro hb<;>try omega)|exact cT|fail)
          all_goals first
            |(exfalso;omega)
            | (refine ⟨(k + 1, some gz, cz), hkl, by dsimp only; omega, ?_, by exact sB, ?_⟩
               · dsimp only;rw [hga,List.length_append];exact sB
               · dsimp only;rw [hga,List.length_append];exact mS)
            |trace_state
        |false=>
          have hab: ¬ (q.a=wa∧q.b=wb):=by simpa using hc
          rw [if_neg hab] at hga
          rw [hOn]
          repeat' (first|(apply fU (id:=17);kernel_rfl;kernel_rfl)|(apply aP (d:=79);exact rfl;apply du (a:=O.length+1);exact rfl;exact rfl;omega;(simp only [maxLen];omega))|(apply aP (d:=80);exact rfl;apply ak (j:=O.length);exact rfl;exact rfl;omega)|(apply aP (d:=82);exact rfl;apply aR (ys:=kq (q.a,q.b));exact rfl;exact pK;exact hq2;exact rfl)|(apply aP (d:=85);exact rfl;apply CE (a:=(q.a,q.b)) (b:=(wa,wb)) hc;exact rfl;exact rfl)|(apply cG (d:=99) (A:=some gz) (m:=1);(iterate 3 exact rfl);exact pK;(intro w hm;exact hm.cells_own pK);exact rfl;(simp [Value.oneCell',sl,cU]);omega;(simp only [maxLen];omega);(intro A' cap' hA'))|refine sT ?_|refine sS ?_|refine sQ ?_|refine sT2 ?_|refine sQ2 ?_|refine sN ?_|refine sNQ ?_|refine sD ?_|refine sM fun _=> ?_|(refine sC ?_ ?_<;>intro hb<;>try omega)|(refine sCQ ?_ ?_<;>intro hb<;>try omega)|exact cT|fail)
          all_goals first
            |(exfalso;omega)
            | (refine ⟨(k + 1, A', cap'), hkl, by dsimp only; omega, ?_, by exact sB, ?_⟩
               · dsimp only;rw [hga,List.length_append,hOn];exact sB
               · dsimp only;rw [hga,List.length_append,hOn,List.flatMap_append (xs:=O++ [q])];exact mS)
            |trace_state
    · have e:k=xB.length:=by omega
      subst e
      rw [N0,← hsn]
      repeat' (first|refine sT ?_|refine sS ?_|refine sT2 ?_|refine sN ?_|refine sM fun _=> ?_|(refine sC ?_ ?_<;>intro hb<;>try omega)|exact cT|fail)
      all_goals first
        |(exfalso;omega)
        |(refine ⟨(j+1,Az,cz),hjl,by dsimp only;omega,by exact sB,by exact sB,by exact mS⟩;done)
        |trace_state
  · have e:j=yB.length:=by omega
    subst e
    rw [N0,← hpf]
    have hS:=fun (w' :World) (H:List Blk) (hm:Mem w w' H) (lv:Value) (h:Reads w' lv _ _)=>tW PZ hZ lv w' h
    repeat' (first|(apply aa (d:=103);exact rfl;exact rfl;(intro w' hm;exact hS w' _ hm _ (Reads.of_own (A:=Ao) hm pK)))|refine sT ?_|refine sS ?_|refine sT2 ?_|refine sN ?_|refine sM fun _=> ?_|(refine sC ?_ ?_<;>intro hb<;>try omega)|exact cT|fail)
    all_goals first
      |(exfalso;omega)
      |(exact cP eIO rfl rfl mS ⟨Ao,co,rfl,rfl⟩)
      |trace_state
end Go.SL
namespace Go.SL
open Go Go.RowKit
section
variable {P:Program} {n:Fr} {w0:World} {Q:bM} {s:az} {H S:List Blk} {l:List Oper} {L:Array Bool} {f:Nat} {ty:TypeId} {p:String} {af:Array Edge} {es:List Nat} {gu:Option (Nat × Bool)}
theorem xH {i j k:Nat} {op op' op2:Op} {dst dst' dst2:Option Tmp} {ty' ty2:TypeId} {p' p2:String} {af' af2:Array Edge} {gu' gu2:Option (Nat × Bool)} (hi:l[i]? =some ⟨dst,op,ty,p,af,gu⟩) (hj:l[j]? =some ⟨dst',op',ty',p',af',gu'⟩) (hl:l[k]? =some ⟨dst2,op2,ty2,p2,af2,gu2⟩)
  (hg:gok l s gu=some true) (hg' :gok l s gu' =some true) (hg2:gok l s gu2=some true)
  (hk:es.contains i=true) (hk' :es.contains j=true) (hk2:es.contains k=true) (hr:Region.ready .any l.toArray L= [i,j,k])
  (h:WL P n w0 #[] [⟨dst,op,ty,p,af,none⟩] (ceP S (WE P n w0 l S es Q f (L.setIfInBounds i true))) s H)
  (h' :WL P n w0 #[] [⟨dst',op',ty',p',af',none⟩] (ceP S (WE P n w0 l S es Q f (L.setIfInBounds j true))) s H)
  (h2:WL P n w0 #[] [⟨dst2,op2,ty2,p2,af2,none⟩] (ceP S (WE P n w0 l S es Q f (L.setIfInBounds k true))) s H):WE P n w0 l S es Q (f+1) L s H:=by
 intro a w hs hm hS hcl
 refine ⟨hS,fun h0=>(by rw [hr] at h0;cases h0),fun x hx=> ?_⟩
 rw [hr] at hx
 rcases M8.1 hx with e|hx
 ·
  subst e
  exact ⟨_,by simpa using hi,l6 hi hg hk (by rw [hr];simp) h a w hs hm hcl⟩
 ·
  rcases M8.1 hx with e|hx
  ·
   subst e
   exact ⟨_,by simpa using hj,l6 hj hg' hk' (by rw [hr];simp) h' a w hs hm hcl⟩
  ·
   have e:x=k:=by simpa using hx
   subst e
   exact ⟨_,by simpa using hl,l6 hl hg2 hk2 (by rw [hr];simp) h2 a w hs hm hcl⟩
end
end Go.SL
namespace Go.SL
open Go Go.Proofs
attribute [local irreducible] W WL WQ WG WA WX WLI WR WT WC WE VOp RW thn blk bL scp bi bz bY aQ FnIn FnP ceP
--
def iC (r:Rct) (L:List Rl):Int:=if aG r=false then 3 else (fP 64 L).2
theorem EN (r:Rct) (L:List Rl) (lv:Value) (w:World) (hl:Reads w lv L.length (L.flatMap bf)):ax Tryz.prog 81 [.agg (bK r).toArray,lv] w (.int .i64 (iC r L)):=by
 refine aq Tryz.func81 rfl Tryz.ntmps81 rfl ?_
 have h1:=fun w=>fY r w
 have h2:=fun (w' :World) (H:List Blk) (hm:Mem w w' H)=>lY 64 L lv w' (hl.of_w0 hm)
 unfold iC
 repeat' (first|(apply aa;exact rfl;exact rfl;(intro w hm;exact h1 w))|(apply aa (f:=51);exact rfl;exact rfl;(intro w' hm;exact h2 w' _ hm))|refine sT ?_|refine sM fun _=> ?_|(refine sC ?_ ?_<;>intro hb<;>try omega)|fail)
 all_goals first
  |(exfalso;omega)
  |((refine rT1 ?_);rw [if_pos (gL hb)];done)
  |((refine rT1 ?_);rw [if_neg (eD hb)];done)
  |trace_state
def ovE (r:Rct) (L:List Rl):(BitVec 64 × BitVec 64 × BitVec 64) × Int:=
 if iC r L≠0 then ((0#64,0#64,0#64),iC r L) else ((rR (fun x=>x.read) r L,rR (fun x=>x.write) r L,rR (fun x=>x.own) r L),0)
theorem EM {r:Rct} {L:List Rl} (h: ¬ iC r L≠0):aG r=true∧L≠ []∧L.length≤64:=by
 unfold iC at h
 split at h
 ·
  exact absurd (by decide) h
 ·
  rename_i hr
  refine ⟨by simpa using hr,?_⟩
  unfold fP at h
  split at h
  ·
   exact absurd (by decide) h
  ·
   rename_i h1
   have hn:L≠ []:=fun e=>h1 (.inr (.inr (.inr e)))
   split at h
   ·
    exact absurd (by decide) h
   ·
    exact ⟨hn,by omega⟩
def byN (f:Rl→BitVec 64) (L:List Rl) (p:Pz):BitVec 64:=(L[p.a]?.map f).getD 0#64
theorem wL (f:Rl→BitVec 64) (r:Rct) (L:List Rl):rR f r L=qp ((dm r L []).map (byN f L)):=rfl
set_option maxHeartbeats 16000000 in
theorem Dn (r:Rct) (L:List Rl) (lv:Value) (w:World) (hl:Reads w lv L.length (L.flatMap bf)):
  ax Tryz.prog 30 [.agg (bK r).toArray,lv] w (.tuple #[.agg #[vS (ovE r L).1.1,vS (ovE r L).1.2.1,vS (ovE r L).1.2.2],.int .i64 (ovE r L).2]):=by
 refine aq Tryz.func30 rfl Tryz.ntmps30 rfl ?_
 have hck:=fun (w' :World) (H:List Blk) (hm:Mem w w' H)=>EN r L lv w' (hl.of_w0 hm)
 unfold ovE
 by_cases hc:iC r L≠0
 ·
  rw [if_pos hc]
  repeat' (first|(apply aa (f:=81);exact rfl;exact rfl;(intro w' hm;exact hck w' _ hm))|refine sT ?_|refine sT2 ?_|refine sM fun _=> ?_|(refine sC ?_ ?_<;>intro hb<;>try omega)|fail)
  all_goals first
   |(exfalso;omega)
   |((refine eQ ?_);rfl)
   |trace_state
 rw [if_neg hc]
 obtain ⟨hr,hne,hlen⟩:=EM hc
 have hP:=fun (w' :World) (H:List Blk) (hm:Mem w w' H)=>Gg r hr L [] lv (.slice none 0 0) w' (hl.of_w0 hm) (Ec w') (by omega) (by simp)
 have hpa: ∀ p∈dm r L [],p.a<L.length:=fun p hp=>by
  have h1:p.a∈(dm r L []).map (·.a):=OM.2 ⟨p,hp,rfl⟩
  obtain ⟨y,x,_,h2⟩:=wK.1 h1
  rw [h2]
  exact Dz hne
 have hpl:(dm r L []).length≤1000000:=by
  have h1:=kC (A:=L) (B:= []) (xs:=cf r.c1 r.c2 (aU r L++aU r [])) (cf r.r1 r.r2 (aS r L++aS r []))
  have h2:=gT r.c1 r.c2 (aU r L++aU r [])
  have h3:=gT r.r1 r.r2 (aS r L++aS r [])
  have h4:=dN r L
  have h5:=dN r []
  have h6:=dI r L
  have h7:=dI r []
  rw [MT] at h2 h3
  rw [Pp] at h5 h7
  exact Nt h1 (Nt (Nat.mul_le_mul (show _≤801 by omega) (show _≤801 by omega)) (by decide))
 rw [wL,wL,wL]
 have hc0:iC r L=0:=by omega
 rw [hc0] at hck
 generalize dm r L []=PZ at hP hpa hpl ⊢
 refine aI 34 1 ?_
 refine aI 34 1 ?_
 refine aI 34 1 ?_
 repeat' (first|(apply aa (f:=81);exact rfl;exact rfl;(intro w' hm;exact hck w' _ hm))|(apply aC (f:=82);exact rfl;exact rfl;(intro w' hm;exact hP w' _ hm);rintro _ _ ⟨Ap,cp,rfl,rfl⟩)|refine sT ?_|refine sS ?_|refine sT2 ?_|refine sM fun _=> ?_|(refine sC ?_ ?_<;>intro hb<;>try omega)|fail)
 all_goals try (exfalso;omega)
 rename_i g2 g4
 refine ay [1,4,22,23] rfl (fun y:Nat × (Option Nat × Nat) × (Option Nat × Nat) × (Option Nat × Nat)=> [(7,sl y.2.1.1 y.1 y.2.1.2),(8,sl y.2.2.1.1 y.1 y.2.2.1.2),(9,sl y.2.2.2.1 y.1 y.2.2.2.2),(24,.int .i64 (y.1:Int))]) (fun y=> .own y.2.1.1 34 1 y.1 y.2.1.2 (((PZ.take y.1).map (byN (fun x=>x.read) L)).map vS):: .own y.2.2.1.1 34 1 y.1 y.2.2.1.2 (((PZ.take y.1).map (byN (fun x=>x.write) L)).map vS):: .own y.2.2.2.1 34 1 y.1 y.2.2.2.2 (((PZ.take y.1).map (byN (fun x=>x.own) L)).map vS):: .own Ap 145 6 PZ.length cp (PZ.flatMap cU):: .box g4 36 [vS 0#64,vS 0#64,vS 0#64]:: []) (fun y=>y.1≤PZ.length) (fun y=>PZ.length - y.1) (0,(none,0),(none,0),(none,0)) (Nl _) sB mS ?_
 rintro ⟨i,⟨A7,c7⟩,⟨A8,c8⟩,⟨A9,c9⟩⟩ hi
 dsimp only at hi ⊢
 by_cases hlt:i<PZ.length
 ·
  refine gF (A:=Ap) pK (by omega) fun gp hAp=> ?_
  subst hAp
  have hrd:((PZ.flatMap cU).drop (0+i*6)).take 6=cU PZ[i]:=by rw [Nm];exact eO cJ PZ i hlt
  have hpi:=hpa _ (NK hlt)
  have hsr: ∀ f:Rl→BitVec 64,((PZ.take (i+1)).map (byN f L)).map vS=((PZ.take i).map (byN f L)).map vS++ [vS (f (L[PZ[i].a]'hpi))]:=fun f=>by
   rw [M9 hlt,Ou,Ou]
   simp [byN,hpi]
  generalize PZ[i]=p at hrd hpi hsr
  have hl' :=hl
  obtain ⟨Al,cl,hlv,hl1,hl2,hl3⟩:=hl'
  subst hlv
  obtain ⟨gl,ol,rfl,hrl⟩:=hl3 (by omega)
  obtain ⟨_,_,_,_,hrr⟩:=Rl.ro (hrl.elem dg p.a hpi)
  generalize L[p.a]'hpi=x at hrr hsr
  repeat' (first|(apply aj (d:=26);exact rfl;apply ak (j:=i);exact rfl;exact rfl;exact hlt)|(apply aj (d:=27);exact rfl;apply aR (ys:=cU p);exact rfl;exact pK;exact hrd;exact rfl)|(apply aj (d:=32);exact rfl;apply ak (j:=p.a);exact rfl;exact rfl;exact hpi)|refine sT ?_|refine sS ?_|refine sT2 ?_|refine sN ?_|refine sO ?_|refine sM fun _=> ?_|(refine sC ?_ ?_<;>intro hb<;>try omega)|fail)
  all_goals try (exfalso;omega)
  rename_i g11 g12
  refine wg (id:=9) [3,4,8,9,13,14] [.box g12 36 [vS x.read,vS x.write,vS x.own]] 18 rfl rfl mS ?_
  repeat' (first|(apply fS (i:=0);(iterate 4 exact rfl);decide+kernel;decide+kernel;decide+kernel;(exact vC))|(apply fS (i:=1);(iterate 4 exact rfl);decide+kernel;decide+kernel;decide+kernel;(exact vC))|(apply fS (i:=2);(iterate 4 exact rfl);decide+kernel;decide+kernel;decide+kernel;(exact vC))|(apply fS (i:=5);(iterate 4 exact rfl);decide+kernel;decide+kernel;decide+kernel;(exact vC))|(apply fS (i:=6);(iterate 4 exact rfl);decide+kernel;decide+kernel;decide+kernel;(exact vC))|(apply fS (i:=7);(iterate 4 exact rfl);decide+kernel;decide+kernel;decide+kernel;(exact vC))|(apply fS (i:=10);(iterate 4 exact rfl);decide+kernel;decide+kernel;decide+kernel;(exact vC))|(apply fS (i:=11);(iterate 4 exact rfl);decide+kernel;decide+kernel;decide+kernel;(exact vC))|(apply fS (i:=12);(iterate 4 exact rfl);decide+kernel;decide+kernel;decide+kernel;(exact vC))|(apply fS (i:=15);(iterate 4 exact rfl);decide+kernel;decide+kernel;decide+kernel;(apply lh;exact rfl))|(apply fS (i:=16);(iterate 4 exact rfl);decide+kernel;decide+kernel;decide+kernel;(apply lh;exact rfl))|(apply fS (i:=17);(iterate 4 exact rfl);decide+kernel;decide+kernel;decide+kernel;(apply lh;exact rfl))|(apply xH (i:=3) (j:=8) (k:=13);(iterate 9 exact rfl);decide+kernel)|(apply xH (i:=4) (j:=8) (k:=13);(iterate 9 exact rfl);decide+kernel)|(apply jC (i:=3) (j:=13);(iterate 6 exact rfl);decide+kernel)|(apply jC (i:=3) (j:=8);(iterate 6 exact rfl);decide+kernel)|(apply jC (i:=8) (j:=13);(iterate 6 exact rfl);decide+kernel)|(apply jC (i:=4) (j:=13);(iterate 6 exact rfl);decide+kernel)|(apply jC (i:=4) (j:=8);(iterate 6 exact rfl);decide+kernel)|(apply jC (i:=9) (j:=13);(iterate 6 exact rfl);decide+kernel)|(apply fH (i:=3);(iterate 3 exact rfl);decide+kernel)|(apply fH (i:=4);(iterate 3 exact rfl);decide+kernel)|(apply fH (i:=8);(iterate 3 exact rfl);decide+kernel)|(apply fH (i:=9);(iterate 3 exact rfl);decide+kernel)|(apply fH (i:=13);(iterate 3 exact rfl);decide+kernel)|(apply fH (i:=14);(iterate 3 exact rfl);decide+kernel)|(apply cG (d:=39) (A:=A7) (m:=1);(iterate 3 exact rfl);exact pK;(intro w hm;exact hm.cells_own pK);exact rfl;(simp [Value.oneCell',sl]);omega;(simp only [maxLen];omega);(intro B7 b7 hB7))|(apply cG (d:=44) (A:=A8) (m:=1);(iterate 3 exact rfl);exact pK;(intro w hm;exact hm.cells_own pK);exact rfl;(simp [Value.oneCell',sl]);omega;(simp only [maxLen];omega);(intro B8 b8 hB8))|(apply cG (d:=49) (A:=A9) (m:=1);(iterate 3 exact rfl);exact pK;(intro w hm;exact hm.cells_own pK);exact rfl;(simp [Value.oneCell',sl]);omega;(simp only [maxLen];omega);(intro B9 b9 hB9))|(apply v7;decide+kernel)|(apply J8;(focus (exact mS;done)))|refine sT ?_|refine sS ?_|refine sT2 ?_|refine sN ?_|refine sM fun _=> ?_|(refine sC ?_ ?_<;>intro hb<;>try omega)|fail)
  all_goals first
   |(exfalso;omega)
   |(refine ⟨(i+1,(B7,b7),(B8,b8),(B9,b9)),hlt,by dsimp only;omega,by exact sB,by exact sB,?_⟩;dsimp only;rw [hsr,hsr,hsr];exact mS)
   |trace_state
 ·
  have e:i=PZ.length:=by omega
  subst e
  rw [N0]
  have hM:=fun (f:Rl→BitVec 64) (w' :World) (lv:Value) (h:Reads w' lv PZ.length ((PZ.map (byN f L)).map vS))=>E4 (PZ.map (byN f L)) lv w' (by rw [NZ];exact h)
  repeat' (first|(apply aa (d:=52);exact rfl;exact rfl;(intro w' hm;exact hM (fun x=>x.read) w' _ (Reads.of_own (A:=A7) hm pK)))|(apply aa (d:=54);exact rfl;exact rfl;(intro w' hm;exact hM (fun x=>x.write) w' _ (Reads.of_own (A:=A8) hm pK)))|(apply aa (d:=56);exact rfl;exact rfl;(intro w' hm;exact hM (fun x=>x.own) w' _ (Reads.of_own (A:=A9) hm pK)))|refine sT ?_|refine sS ?_|refine sT2 ?_|refine sM fun _=> ?_|(refine sC ?_ ?_<;>intro hb<;>try omega)|fail)
  all_goals first
   |(exfalso;omega)
   |((refine eQ ?_);rfl)
   |trace_state
end Go.SL
namespace Go.SL
open Go Go.Proofs
structure Cl where
 at_:Rf
 node:Int
def Ku (x:Cl):List Value:= [.int .i64 x.at_.col,.int .i64 x.at_.row,.int .i64 x.node]
structure Ev where
 step:Int
 user:Int
 kind:Int
 rect:Rct
 done:Bool
 to:BitVec 64
def aO (x:Ev):List Value:= [.int .i64 x.step,.int .i64 x.user,.int .u8 x.kind,.int .i64 x.rect.c1,.int .i64 x.rect.r1,.int .i64 x.rect.c2,.int .i64 x.rect.r2,.bool x.done,vS x.to]
theorem eP (x:Ev):(aO x).length=9:=rfl
structure Rv where
 step:Int
 call:Cl
 fn:Int
 rect:Rct
 grant:Int
 to:BitVec 64
def ck (x:Rv):List Value:= [.int .i64 x.step,.int .i64 x.call.at_.col,.int .i64 x.call.at_.row,.int .i64 x.call.node,.int .u8 x.fn,.int .i64 x.rect.c1,.int .i64 x.rect.r1,.int .i64 x.rect.c2,.int .i64 x.rect.r2,.int .i64 x.grant,vS x.to]
theorem gR (x:Rv):(ck x).length=11:=rfl
structure Ox where
 kind:Int
 user:Int
 rect:Rct
 input:ByteArray
 rd:BitVec 64
 wr:BitVec 64
 ow:BitVec 64
 fns:Int
 to:BitVec 64
 idx:Int
def bE (x:Ox):List Value:= [.int .u8 x.kind,.int .i64 x.user,.int .i64 x.rect.c1,.int .i64 x.rect.r1,.int .i64 x.rect.c2,.int .i64 x.rect.r2,.string x.input,vS x.rd,vS x.wr,vS x.ow,.int .u8 x.fns,vS x.to,.int .i64 x.idx]
theorem nO (x y:BitVec 64):((x.toNat:Int)=(y.toNat:Int))=(x=y):=propext ⟨fun h=>Py (by omega),fun h=>h ▸ rfl⟩
theorem nN (x y:BitVec 64):(x.toNat=y.toNat)=(x=y):=propext ⟨fun h=>Py h,fun h=>h ▸ rfl⟩
theorem ym (w:World) (d:Nat) (a1 a2 a3 b1 b2 b3:BitVec 64):(Op.equalIn (d+3) 36 (.agg #[.int .u64 (a1.toNat:Int),.int .u64 (a2.toNat:Int),.int .u64 (a3.toNat:Int)]) (.agg #[.int .u64 (b1.toNat:Int),.int .u64 (b2.toNat:Int),.int .u64 (b3.toNat:Int)])).run Tryz.prog w= .ok (decide (a1=b1) && decide (a2=b2) && decide (a3=b3)) w:=by
 rw [run_equalIn_agg w (d+2) 36 _ _ (by rw [Program.fieldsOf,Tryz.underlying36]) Tryz.stoodInHeld36]
 simp only [Program.fieldsOf,Tryz.underlying36]
 simp [Op.eqFields,part,go_sem,tG,xa,nO,nN]
 by_cases h1:a1=b1
 rotate_left
 ·
  simp [h1]
 by_cases h2:a2=b2
 rotate_left
 ·
  simp [h1,h2]
 by_cases h3:a3=b3<;>simp [h1,h2,h3]
def BU (a b:Rl):Bool:=eqR a.rect b.rect && (decide (a.read=b.read) && decide (a.write=b.write) && decide (a.own=b.own))
theorem zu {a b:Rl}:BU a b=true↔a=b:=by
 obtain ⟨a0,a1,a2,a3⟩:=a
 obtain ⟨b0,b1,b2,b3⟩:=b
 simp [BU,iT,jx,and_assoc]
instance:DecidableEq Rl:=fun a b=>decidable_of_iff (BU a b=true) zu
theorem HC (a b:Rl):BU a b=decide (a=b):=by
 rw [NG,zu,decide_eq_true_iff]
theorem F3 (w:World) (d:Nat) (a b:Rl):(Op.equalIn (d+5) 38 (.agg (bf a).toArray) (.agg (bf b).toArray)).run Tryz.prog w= .ok (BU a b) w:=by
 rw [run_equalIn_agg w (d+4) 38 _ _ (by rw [Program.fieldsOf,Tryz.underlying38]) Tryz.stoodInHeld38]
 simp only [Program.fieldsOf,Tryz.underlying38]
 have hq_R: ∀ w,(Op.equalIn (d+4) 33 (.agg #[.int .i64 a.rect.c1,.int .i64 a.rect.r1,.int .i64 a.rect.c2,.int .i64 a.rect.r2]) (.agg #[.int .i64 b.rect.c1,.int .i64 b.rect.r1,.int .i64 b.rect.c2,.int .i64 b.rect.r2])).run Tryz.prog w= .ok (eqR a.rect b.rect) w:=fun w=>kB w (d+1) a.rect b.rect
 have hq_T: ∀ w,(Op.equalIn (d+4) 36 (.agg #[.int .u64 (a.read.toNat:Int),.int .u64 (a.write.toNat:Int),.int .u64 (a.own.toNat:Int)]) (.agg #[.int .u64 (b.read.toNat:Int),.int .u64 (b.write.toNat:Int),.int .u64 (b.own.toNat:Int)])).run Tryz.prog w= .ok (decide (a.read=b.read) && decide (a.write=b.write) && decide (a.own=b.own)) w:=fun w=>ym w (d+1) a.read a.write a.own b.read b.write b.own
 simp [Op.eqFields,bf,vS,part,go_sem,tG,xa,nO,nN,BU,hq_R,hq_T]
 by_cases h1:eqR a.rect b.rect=true
 rotate_left
 ·
  simp [h1]
 by_cases h2:a.read=b.read
 rotate_left
 ·
  simp [h1,h2]
 by_cases h3:a.write=b.write
 rotate_left
 ·
  simp [h1,h2,h3]
 by_cases h4:a.own=b.own
 rotate_left
 ·
  simp [h1,h2,h3,h4]
 simp [h1,h2,h3,h4]
def BW (a b:Gn):Bool:=eqR a.rect b.rect && decide (a.fns=b.fns) && decide (a.to=b.to) && decide (a.by_=b.by_) && decide (a.rev=b.rev)
theorem zx {a b:Gn}:BW a b=true↔a=b:=by
 obtain ⟨a0,a1,a2,a3,a4⟩:=a
 obtain ⟨b0,b1,b2,b3,b4⟩:=b
 simp [BW,iT,jx,and_assoc]
instance:DecidableEq Gn:=fun a b=>decidable_of_iff (BW a b=true) zx
theorem HF (a b:Gn):BW a b=decide (a=b):=by
 rw [NG,zx,decide_eq_true_iff]
theorem F6 (w:World) (d:Nat) (a b:Gn):(Op.equalIn (d+5) 56 (.agg (bg a).toArray) (.agg (bg b).toArray)).run Tryz.prog w= .ok (BW a b) w:=by
 rw [run_equalIn_agg w (d+4) 56 _ _ (by rw [Program.fieldsOf,Tryz.underlying56]) Tryz.stoodInHeld56]
 simp only [Program.fieldsOf,Tryz.underlying56]
 have hq_R: ∀ w,(Op.equalIn (d+4) 33 (.agg #[.int .i64 a.rect.c1,.int .i64 a.rect.r1,.int .i64 a.rect.c2,.int .i64 a.rect.r2]) (.agg #[.int .i64 b.rect.c1,.int .i64 b.rect.r1,.int .i64 b.rect.c2,.int .i64 b.rect.r2])).run Tryz.prog w= .ok (eqR a.rect b.rect) w:=fun w=>kB w (d+1) a.rect b.rect
 simp [Op.eqFields,bg,vS,part,go_sem,tG,xa,nO,nN,BW,hq_R]
 by_cases h1:eqR a.rect b.rect=true
 rotate_left
 ·
  simp [h1]
 by_cases h2:a.fns=b.fns
 rotate_left
 ·
  simp [h1,h2]
 by_cases h3:a.to=b.to
 rotate_left
 ·
  simp [h1,h2,h3]
 by_cases h4:a.by_=b.by_
 rotate_left
 ·
  simp [h1,h2,h3,h4]
 by_cases h5:a.rev=b.rev
 rotate_left
 ·
  simp [h1,h2,h3,h4,h5]
 simp [h1,h2,h3,h4,h5]
def Lz (a b:Cl):Bool:=eqF a.at_ b.at_ && decide (a.node=b.node)
theorem HH {a b:Cl}:Lz a b=true↔a=b:=by
 obtain ⟨a0,a1⟩:=a
 obtain ⟨b0,b1⟩:=b
 simp [Lz,iT,jx,and_assoc]
def BX (a b:Ev):Bool:=decide (a.step=b.step) && decide (a.user=b.user) && decide (a.kind=b.kind) && eqR a.rect b.rect && decide (a.done=b.done) && decide (a.to=b.to)
theorem zy {a b:Ev}:BX a b=true↔a=b:=by
 obtain ⟨a0,a1,a2,a3,a4,a5⟩:=a
 obtain ⟨b0,b1,b2,b3,b4,b5⟩:=b
 simp [BX,iT,jx,and_assoc]
instance:DecidableEq Ev:=fun a b=>decidable_of_iff (BX a b=true) zy
theorem HG (a b:Ev):BX a b=decide (a=b):=by
 rw [NG,zy,decide_eq_true_iff]
theorem F7 (w:World) (d:Nat) (a b:Ev):(Op.equalIn (d+5) 48 (.agg (aO a).toArray) (.agg (aO b).toArray)).run Tryz.prog w= .ok (BX a b) w:=by
 rw [run_equalIn_agg w (d+4) 48 _ _ (by rw [Program.fieldsOf,Tryz.underlying48]) Tryz.stoodInHeld48]
 simp only [Program.fieldsOf,Tryz.underlying48]
 have hq_R: ∀ w,(Op.equalIn (d+4) 33 (.agg #[.int .i64 a.rect.c1,.int .i64 a.rect.r1,.int .i64 a.rect.c2,.int .i64 a.rect.r2]) (.agg #[.int .i64 b.rect.c1,.int .i64 b.rect.r1,.int .i64 b.rect.c2,.int .i64 b.rect.r2])).run Tryz.prog w= .ok (eqR a.rect b.rect) w:=fun w=>kB w (d+1) a.rect b.rect
 simp [Op.eqFields,aO,vS,part,go_sem,tG,xa,nO,nN,BX,hq_R]
 by_cases h1:a.step=b.step
 rotate_left
 ·
  simp [h1]
 by_cases h2:a.user=b.user
 rotate_left
 ·
  simp [h1,h2]
 by_cases h3:a.kind=b.kind
 rotate_left
 ·
  simp [h1,h2,h3]
 by_cases h4:eqR a.rect b.rect=true
 rotate_left
 ·
  simp [h1,h2,h3,h4]
 by_cases h5:a.done=b.done
 rotate_left
 ·
  simp [h1,h2,h3,h4,h5]
 by_cases h6:a.to=b.to
 rotate_left
 ·
  simp [h1,h2,h3,h4,h5,h6]
 simp [h1,h2,h3,h4,h5,h6]
def Ly (a b:Rv):Bool:=decide (a.step=b.step) && Lz a.call b.call && decide (a.fn=b.fn) && eqR a.rect b.rect && decide (a.grant=b.grant) && decide (a.to=b.to)
theorem HB {a b:Rv}:Ly a b=true↔a=b:=by
 obtain ⟨a0,a1,a2,a3,a4,a5⟩:=a
 obtain ⟨b0,b1,b2,b3,b4,b5⟩:=b
 simp [Ly,iT,jx,HH,and_assoc]
instance:DecidableEq Rv:=fun a b=>decidable_of_iff (Ly a b=true) HB
def BV (a b:Ox):Bool:=decide (a.kind=b.kind) && decide (a.user=b.user) && eqR a.rect b.rect && decide (a.input=b.input) && (decide (a.rd=b.rd) && decide (a.wr=b.wr) && decide (a.ow=b.ow)) && decide (a.fns=b.fns) && decide (a.to=b.to) && decide (a.idx=b.idx)
theorem zw {a b:Ox}:BV a b=true↔a=b:=by
 obtain ⟨a0,a1,a2,a3,a4,a5,a6,a7,a8,a9⟩:=a
 obtain ⟨b0,b1,b2,b3,b4,b5,b6,b7,b8,b9⟩:=b
 simp [BV,iT,jx,and_assoc]
instance:DecidableEq Ox:=fun a b=>decidable_of_iff (BV a b=true) zw
theorem F4 (w:World) (d:Nat) (a b:Ox):(Op.equalIn (d+5) 41 (.agg (bE a).toArray) (.agg (bE b).toArray)).run Tryz.prog w= .ok (BV a b) w:=by
 rw [run_equalIn_agg w (d+4) 41 _ _ (by rw [Program.fieldsOf,Tryz.underlying41]) Tryz.stoodInHeld41]
 simp only [Program.fieldsOf,Tryz.underlying41]
 have hq_R: ∀ w,(Op.equalIn (d+4) 33 (.agg #[.int .i64 a.rect.c1,.int .i64 a.rect.r1,.int .i64 a.rect.c2,.int .i64 a.rect.r2]) (.agg #[.int .i64 b.rect.c1,.int .i64 b.rect.r1,.int .i64 b.rect.c2,.int .i64 b.rect.r2])).run Tryz.prog w= .ok (eqR a.rect b.rect) w:=fun w=>kB w (d+1) a.rect b.rect
 have hq_T: ∀ w,(Op.equalIn (d+4) 36 (.agg #[.int .u64 (a.rd.toNat:Int),.int .u64 (a.wr.toNat:Int),.int .u64 (a.ow.toNat:Int)]) (.agg #[.int .u64 (b.rd.toNat:Int),.int .u64 (b.wr.toNat:Int),.int .u64 (b.ow.toNat:Int)])).run Tryz.prog w= .ok (decide (a.rd=b.rd) && decide (a.wr=b.wr) && decide (a.ow=b.ow)) w:=fun w=>ym w (d+1) a.rd a.wr a.ow b.rd b.wr b.ow
 simp [Op.eqFields,bE,vS,part,go_sem,tG,xa,nO,nN,BV,hq_R,hq_T]
 by_cases h1:a.kind=b.kind
 rotate_left
 ·
  simp [h1]
 by_cases h2:a.user=b.user
 rotate_left
 ·
  simp [h1,h2]
 by_cases h3:eqR a.rect b.rect=true
 rotate_left
 ·
  simp [h1,h2,h3]
 by_cases h4:a.input=b.input
 rotate_left
 ·
  simp [h1,h2,h3,h4]
 by_cases h5:a.rd=b.rd
 rotate_left
 ·
  simp [h1,h2,h3,h4,h5]
 by_cases h6:a.wr=b.wr
 rotate_left
 ·
  simp [h1,h2,h3,h4,h5,h6]
 by_cases h7:a.ow=b.ow
 rotate_left
 ·
  simp [h1,h2,h3,h4,h5,h6,h7]
 by_cases h8:a.fns=b.fns
 rotate_left
 ·
  simp [h1,h2,h3,h4,h5,h6,h7,h8]
 by_cases h9:a.to=b.to
 rotate_left
 ·
  simp [h1,h2,h3,h4,h5,h6,h7,h8,h9]
 by_cases h10:a.idx=b.idx
 rotate_left
 ·
  simp [h1,h2,h3,h4,h5,h6,h7,h8,h9,h10]
 simp [h1,h2,h3,h4,h5,h6,h7,h8,h9,h10]
section
variable {w0:World} {s:az} {H:List Blk} {ty t' :TypeId} {x y:Operand}
theorem I5 {a b:Rl} (hx:ev s x=some (.agg (bf a).toArray)) (hy:ev s y=some (.agg (bf b).toArray)):VOp Tryz.prog w0 s H (.binOp .neq 38 x y t') ty (.bool (!BU a b)):=fun ρ w _ _ _ _ hρ _=>by
 have h:=F3 w 9995 a b
 simp only [Nat.reduceAdd] at h
 simp only [execOp,hρ x _ hx,hρ y _ hy,Sem.run_bind,run_eqGuard_agg w _ _ _ _ _ _ Tryz.eqGuardType38,Result.andThen_ok,run_neq_struct,h,Sem.run_pure]
theorem I7 {a b:Gn} (hx:ev s x=some (.agg (bg a).toArray)) (hy:ev s y=some (.agg (bg b).toArray)):VOp Tryz.prog w0 s H (.binOp .neq 56 x y t') ty (.bool (!BW a b)):=fun ρ w _ _ _ _ hρ _=>by
 have h:=F6 w 9995 a b
 simp only [Nat.reduceAdd] at h
 simp only [execOp,hρ x _ hx,hρ y _ hy,Sem.run_bind,run_eqGuard_agg w _ _ _ _ _ _ Tryz.eqGuardType56,Result.andThen_ok,run_neq_struct,h,Sem.run_pure]
theorem I8 {a b:Ev} (hx:ev s x=some (.agg (aO a).toArray)) (hy:ev s y=some (.agg (aO b).toArray)):VOp Tryz.prog w0 s H (.binOp .neq 48 x y t') ty (.bool (!BX a b)):=fun ρ w _ _ _ _ hρ _=>by
 have h:=F7 w 9995 a b
 simp only [Nat.reduceAdd] at h
 simp only [execOp,hρ x _ hx,hρ y _ hy,Sem.run_bind,run_eqGuard_agg w _ _ _ _ _ _ Tryz.eqGuardType48,Result.andThen_ok,run_neq_struct,h,Sem.run_pure]
theorem I6 {a b:Ox} (hx:ev s x=some (.agg (bE a).toArray)) (hy:ev s y=some (.agg (bE b).toArray)):VOp Tryz.prog w0 s H (.binOp .neq 41 x y t') ty (.bool (!BV a b)):=fun ρ w _ _ _ _ hρ _=>by
 have h:=F4 w 9995 a b
 simp only [Nat.reduceAdd] at h
 simp only [execOp,hρ x _ hx,hρ y _ hy,Sem.run_bind,run_eqGuard_agg w _ _ _ _ _ _ Tryz.eqGuardType41,Result.andThen_ok,run_neq_struct,h,Sem.run_pure]
end
theorem s9 (L:List Rl): ∀ u∈L.flatMap bf,u.oneCell' =true:=fun u hu=>by
 obtain ⟨a,_,h⟩:=NR.1 hu
 simp only [bf,M8,OZ,or_false] at h
 rcases h with rfl|rfl|rfl|rfl|rfl|rfl|rfl<;>rfl
theorem tq (L:List Ev): ∀ u∈L.flatMap aO,u.oneCell' =true:=fun u hu=>by
 obtain ⟨a,_,h⟩:=NR.1 hu
 simp only [aO,M8,OZ,or_false] at h
 rcases h with rfl|rfl|rfl|rfl|rfl|rfl|rfl|rfl|rfl<;>rfl
theorem s8 (L:List Rv): ∀ u∈L.flatMap ck,u.oneCell' =true:=fun u hu=>by
 obtain ⟨a,_,h⟩:=NR.1 hu
 simp only [ck,M8,OZ,or_false] at h
 rcases h with rfl|rfl|rfl|rfl|rfl|rfl|rfl|rfl|rfl|rfl|rfl<;>rfl
end Go.SL

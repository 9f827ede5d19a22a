/-
  Lemmas and walks, put together: Hj Hk Hu Ng Hv Hm Ig Ib Ie Ik.
-/
import Derived.Test.YtoanpdoacdpgeaaGreatDoorKp18
import Derived.Test.YtoanpdoacdpgeaaGreatDoorKp19
set_option linter.unusedSimpArgs false
set_option linter.unusedVariables false
set_option maxRecDepth 20000
namespace Go.SL
open Go Go.Proofs
attribute [local irreducible] W WL WQ WG WA WX WLI WR WT WC WE VOp RW thn blk bF scp aR bk bJ aL FnIn FnP ceP
--
theorem KE {l m:List Pz} {p:Pz} (hm:m≠ []):l++jG m p=jG (l++m) p:=by
 have e:=Sh hm
 generalize hd:m.dropLast=d at e
 generalize m.getLast hm=q at e
 subst e
 unfold jG
 rw [← QH,List.getLast?_concat,List.getLast?_concat]
 dsimp only
 rw [TB,TB]
 split<;>simp
theorem xF {O:List Pz} {q p:Pz}:jG (O++ [q]) p=if q.a=p.a∧q.b=p.b then O++ [⟨⟨q.rect.c1,q.rect.r1,p.rect.c2,q.rect.r2⟩,q.a,q.b⟩] else O++ [q]++ [p]:=by
 unfold jG
 rw [List.getLast?_concat]
 dsimp only
 rw [TB]
theorem Fw {A B:List Rl} {y:Int × Int} (xs:List (Int × Int)):(jD A B y xs).length≤xs.length:=by
 induction xs using s5 with
 |h0=>exact Qq _
 |h1 xs x ih=>
  rw [kN,Qk,Qo]
  generalize jD A B y xs=l at ih
  unfold jG
  cases h:l.getLast? with
  |none=>simp
  |some q=>
   dsimp only
   split
   ·
    rw [Qk,List.length_dropLast,Qo];omega
   ·
    rw [Qk,Qo];omega
theorem AJ {A B:List Rl} {y:Int × Int}:jD A B y []= []:=rfl
def iV (A B:List Rl) (ys xs:List (Int × Int)):List Pz:=ys.flatMap fun y=>jD A B y xs
theorem AG {A B:List Rl} {ys xs:List (Int × Int)} {y:Int × Int}:iV A B (ys++ [y]) xs=iV A B ys xs++jD A B y xs:=by unfold iV;simp
theorem lB {A B:List Rl} {xs:List (Int × Int)}: ∀ ys:List (Int × Int),(iV A B ys xs).length≤ys.length*xs.length
 | []=>by simp [iV]
 |y::ys=>by
  have h1:=lB (A:=A) (B:=B) (xs:=xs) ys
  have h2:=Fw (A:=A) (B:=B) (y:=y) xs
  unfold iV at h1 ⊢
  rw [QA,Qk,QF,Nat.succ_mul]
  omega
theorem OA {A B:List Rl} {y:Int × Int} (xs:List (Int × Int)): ∀ q∈jD A B y xs,q.rect.r1=y.1∧ ∃ x∈xs,q.rect.c1=x.1:=by
 induction xs using s5 with
 |h0=>intro q hq;cases hq
 |h1 xs x ih=>
  intro q hq
  rw [kN] at hq
  by_cases hn:jD A B y xs= []
  ·
   rw [hn] at hq
   have:q=mK A B y x:=by simpa [jG] using hq
   subst this
   exact ⟨rfl,x,by simp,rfl⟩
  ·
   have e:=Sh hn
   generalize (jD A B y xs).dropLast=d at e
   generalize (jD A B y xs).getLast hn=z at e
   rw [← e] at hq ih
   rw [xF] at hq
   have hz:=ih z (by simp)
   split at hq
   ·
    rcases QJ.1 hq with hq|hq
    ·
     obtain ⟨h1,x',h2,h3⟩:=ih q (by simp [hq])
     exact ⟨h1,x',by simp [h2],h3⟩
    ·
     rw [QO.1 hq]
     obtain ⟨h1,x',h2,h3⟩:=hz
     exact ⟨h1,x',by simp [h2],h3⟩
   ·
    rcases QJ.1 hq with hq|hq
    ·
     obtain ⟨h1,x',h2,h3⟩:=ih q hq
     exact ⟨h1,x',by simp [h2],h3⟩
    ·
     rw [QO.1 hq]
     exact ⟨rfl,x,by simp,rfl⟩
theorem Bn {r:Rct} {A B:List Rl} (hrs:1≤r.c1∧r.c1≤r.c2∧r.c2≤1024∧1≤r.r1∧r.r1≤r.r2∧r.r2≤1024): ∀ p∈dF r A B,ur p:=fun p hp=>by
 obtain ⟨y,hy,hp⟩:=RB.1 hp
 obtain ⟨h1,x,hx,h2⟩:=OA _ p hp
 have h3:=eD hy
 have h4:=eD hx
 unfold ur
 omega
set_option maxHeartbeats 16000000 in
theorem JW (r:Rct) (hr:aJ r=true) (A B:List Rl) (la lb:Value) (w:World) (hla:Reads w la A.length (A.flatMap bw)) (hlb:Reads w lb B.length (B.flatMap bw)) (hA:A.length≤200) (hB:B.length≤200):
    aL Tryz.prog 141 [.agg (bK r).toArray,la,lb] w fun v H=> ∃ Ap cap,v=sl Ap (dF r A B).length cap∧H= [.own Ap 191 6 (dF r A B).length cap ((dF r A B).flatMap dc)]:=by
  refine aq Tryz.func141 rfl Tryz.ntmps141 rfl ?_
  have hrs:=da.1 hr
  have hZ:InZ (dF r A B):=by
    refine ⟨yV r A B,Bn hrs,?_⟩
    have h1:=lB (A:=A) (B:=B) (xs:=cD r.c1 r.c2 (aV r A++aV r B)) (cD r.r1 r.r2 (aU r A++aU r B))
    have h2:=iE r.c1 r.c2 (aV r A++aV r B)
    have h3:=iE r.r1 r.r2 (aU r A++aU r B)
    have h4:=d9 r A
    have h5:=d9 r B
    have h6:=dV r A
    have h7:=dV r B
    rw [Qk] at h2 h3
    refine QC h1 (QC (Nat.mul_le_mul (show _≤801 by omega) (show _≤801 by omega)) (by decide))
  have hnA:=fun (gr gc gw:Nat)=>FF r A la gr gc gw none none 0 0 [] [] [] w hla (by simp;omega) (by simp;omega)
  have hnB:=fun (gr gc gw:Nat) (A1 A2:Option Nat) (c1 c2:Nat)=>FF r B lb gr gc gw A1 A2 c1 c2 (aV r A) (aU r A) [] w hlb (by have:=d9 r A;omega) (by have:=dV r A;omega)
  have hcl:(aV r A++aV r B).length≤400:=by have:=d9 r A;have:=d9 r B;rw [Qk];omega
  have hwl:(aU r A++aU r B).length≤400:=by have:=dV r A;have:=dV r B;rw [Qk];omega
  have hcs: ∀ p∈aV r A++aV r B,0≤p.1∧p.1≤100000∧0≤p.2∧p.2≤100000:=fun p hp=>(QJ.1 hp).elim (qu p) (qu p)
  have hws: ∀ p∈aU r A++aU r B,0≤p.1∧p.1≤100000∧0≤p.2∧p.2≤100000:=fun p hp=>(QJ.1 hp).elim (pV p) (pV p)
  have hb1:=fun (w' :World) (lv:Value) (h:Reads w' lv _ _)=>Cy r.c1 r.c2 (aV r A++aV r B) lv w' h (by omega) (by omega) (by omega) hcs
  have hb2:=fun (w' :World) (lv:Value) (h:Reads w' lv _ _)=>Cy r.r1 r.r2 (aU r A++aU r B) lv w' h (by omega) (by omega) (by omega) hws
  have hxl:=iE r.c1 r.c2 (aV r A++aV r B)
  have hyl:=iE r.r1 r.r2 (aU r A++aU r B)
  have hpf:dF r A B=iV A B (cD r.r1 r.r2 (aU r A++aU r B)) (cD r.c1 r.c2 (aV r A++aV r B)):=rfl
  generalize dF r A B=PZ at hZ hpf ⊢
  generalize hX:cD r.c1 r.c2 (aV r A++aV r B)=xB at hb1 hxl hpf
  generalize hY:cD r.r1 r.r2 (aU r A++aU r B)=yB at hb2 hyl hpf
  generalize hCO:aV r A++aV r B=CO at hb1 hcl hxl
  generalize hRO:aU r A++aU r B=RO at hb2 hwl hyl
  refine aC 189 2 ?_
  refine aC 189 2 ?_
  repeat' (first|(apply kG (d:=21);exact rfl;exact rfl;infer_instance;exact rfl;exact FnIn.msub (hnA _ _ _) (by simp only [rD,Qy,Qm,Qn];exact mS);rintro _ _ ⟨rfl,A1,c1,A2,c2,rfl⟩)|(apply kG (d:=24);exact rfl;exact rfl;infer_instance;exact rfl;exact FnIn.msub (hnB _ _ _ A1 A2 c1 c2) (by simp only [rD,Qy,Qm,Qn];exact mS);rintro _ _ ⟨rfl,A3,c3,A4,c4,rfl⟩)|refine sT ?_|refine sS ?_|refine sT2 ?_|refine sM fun _=> ?_|(refine sC ?_ ?_<;>intro hb<;>try omega)|exact cT|fail)
  rename_i g3 g7 g8
  rw [hCO,hRO]
  simp only [rD,Qy,Qm,Qn]
  refine oR (fun _:Option Nat × Nat × Option Nat × Nat=> [(1,la),(2,lb),(3,.pointer (some ⟨g3,0,none⟩)),(7,.pointer (some ⟨g7,0,none⟩)),(8,.pointer (some ⟨g8,0,none⟩))]) (fun y=> .box g7 232 [sl y.1 xB.length y.2.1]:: .own y.1 189 2 xB.length y.2.1 (xB.flatMap df):: .box g8 232 [sl y.2.2.1 yB.length y.2.2.2]:: .own y.2.2.1 189 2 yB.length y.2.2.2 (yB.flatMap df):: []) (fun _=>True) ?_ ?_
  · refine yA (id:=5) [4,5,10,11,12,13] [.box g3 32 (bK r)] 14 rfl rfl mS ?_
    repeat' (first|(apply gD (i:=0);(iterate 4 exact rfl);decide+kernel;decide+kernel;decide+kernel;(exact vC))|(apply gD (i:=1);(iterate 4 exact rfl);decide+kernel;decide+kernel;decide+kernel;(exact vC))|(apply gD (i:=2);(iterate 4 exact rfl);decide+kernel;decide+kernel;decide+kernel;(exact vC))|(apply gD (i:=3);(iterate 4 exact rfl);decide+kernel;decide+kernel;decide+kernel;(exact vC))|(apply gD (i:=6);(iterate 4 exact rfl);decide+kernel;decide+kernel;decide+kernel;(exact vC))|(apply gD (i:=7);(iterate 4 exact rfl);decide+kernel;decide+kernel;decide+kernel;(exact vC))|(apply gD (i:=8);(iterate 4 exact rfl);decide+kernel;decide+kernel;decide+kernel;(exact vC))|(apply gD (i:=9);(iterate 4 exact rfl);decide+kernel;decide+kernel;decide+kernel;(exact vC))|(apply kg (i:=4) (j:=10);(iterate 6 exact rfl);decide+kernel)|(apply kg (i:=5) (j:=10);(iterate 6 exact rfl);decide+kernel)|(apply kg (i:=12) (j:=13);(iterate 6 exact rfl);decide+kernel)|(apply fW (i:=4);(iterate 3 exact rfl);decide+kernel)|(apply fW (i:=5);(iterate 3 exact rfl);decide+kernel)|(apply fW (i:=10);(iterate 3 exact rfl);decide+kernel)|(apply fW (i:=11);(iterate 3 exact rfl);decide+kernel)|(apply fW (i:=12);(iterate 3 exact rfl);decide+kernel)|(apply fW (i:=13);(iterate 3 exact rfl);decide+kernel)|(apply aA (d:=30);exact rfl;exact rfl;(intro w' hm;exact hb1 w' _ (Reads.of_own (A:=A3) hm pK));rintro _ _ ⟨A5,c5,rfl,rfl⟩)|(apply aA (d:=36);exact rfl;exact rfl;(intro w' hm;exact hb2 w' _ (Reads.of_own (A:=A4) hm pK));rintro _ _ ⟨A6,c6,rfl,rfl⟩)|(apply yx;decide+kernel)|(apply Nn;(focus (exact mS;done)))|refine sT ?_|refine sS ?_|refine sT2 ?_|refine sM fun _=> ?_|(refine sC ?_ ?_<;>intro hb<;>try omega)|exact cT|fail)
    all_goals first
      |(exfalso;omega)
      |(exact cG (A5,c5,A6,c6) trivial sB mS)
  rintro ⟨A5,c5,A6,c6⟩ _
  dsimp only
  clear hnA hnB hb1 hb2 hX hY hCO hRO
  refine aC 191 6 ?_
  repeat' (first|refine sT ?_|refine sS ?_|refine sT2 ?_|refine sM fun _=> ?_|(refine sC ?_ ?_<;>intro hb<;>try omega)|exact cT|fail)
  refine ax [1,2,7,37,38] rfl (fun y:Nat × Option Nat × Nat=> [(10,sl y.2.1 (iV A B (yB.take y.1) xB).length y.2.2),(39,.int .i64 (y.1:Int))]) (fun y=> .own y.2.1 191 6 (iV A B (yB.take y.1) xB).length y.2.2 ((iV A B (yB.take y.1) xB).flatMap dc):: .box g7 232 [sl A5 xB.length c5]:: .own A5 189 2 xB.length c5 (xB.flatMap df):: .own A6 189 2 yB.length c6 (yB.flatMap df):: []) (fun y=>y.1≤yB.length) (fun y=>yB.length - y.1) (0,none,0) (Qt _) sB mS ?_
  rintro ⟨j,Ao,co⟩ hj
  dsimp only at hj ⊢
  by_cases hjl:j<yB.length
  · refine eK (A:=A6) pK (by omega) fun g6 hA6=> ?_
    subst hA6
    have hrd:((yB.flatMap df).drop (0+j*2)).take 2=df yB[j]:=by rw [QG];exact dR jv yB j hjl
    have hsn:=AG (A:=A) (B:=B) (ys:=yB.take j) (xs:=xB) (y:=yB[j])
    rw [← Qv hjl] at hsn
    have hpl:(iV A B (yB.take j) xB).length≤700000:=by
      have h1:=lB (A:=A) (B:=B) (xs:=xB) (yB.take j)
      refine QC h1 (QC (Nat.mul_le_mul (show _≤801 by rw [QD];omega) (show _≤801 by omega)) (by decide))
    generalize yB[j]=y at hrd hsn
    generalize iV A B (yB.take j) xB=prev at hsn hpl ⊢
    repeat' (first|(apply ak (d:=41);exact rfl;apply aj (j:=j);exact rfl;exact rfl;exact hjl)|(apply ak (d:=42);exact rfl;apply aN (ys:=df y);exact rfl;exact pK;exact hrd;exact rfl)|refine sT ?_|refine sS ?_|refine sT2 ?_|refine sN ?_|refine sM fun _=> ?_|(refine sC ?_ ?_<;>intro hb<;>try omega)|exact cT|fail)
    all_goals try (exfalso;omega)
    rename_i g12
    refine ax [1,2,7,12,13,37,38,39,45,46] rfl (fun z:Nat × Option Nat × Nat=> [(10,sl z.2.1 (prev++jD A B y (xB.take z.1)).length z.2.2),(47,.int .i64 (z.1:Int))]) (fun z=> .own z.2.1 191 6 (prev++jD A B y (xB.take z.1)).length z.2.2 ((prev++jD A B y (xB.take z.1)).flatMap dc):: .box g12 189 (df y):: .box g7 232 [sl A5 xB.length c5]:: .own A5 189 2 xB.length c5 (xB.flatMap df):: .own (some g6) 189 2 yB.length c6 (yB.flatMap df):: []) (fun z=>z.1≤xB.length) (fun z=>xB.length - z.1) (0,Ao,co) (Qt _) (by rw [RI,AJ,Qr];exact sB) (by rw [RI,AJ,Qr];exact mS) ?_
    rintro ⟨k,Az,cz⟩ hk
    dsimp only at hk ⊢
    by_cases hkl:k<xB.length
    · refine eK (A:=A5) pK (by omega) fun g5 hA5=> ?_
      subst hA5
      have hrx:((xB.flatMap df).drop (0+k*2)).take 2=df xB[k]:=by rw [QG];exact dR jv xB k hkl
      have hrn:=kN (A:=A) (B:=B) (y:=y) (xs:=xB.take k) (x:=xB[k])
      rw [← Qv hkl] at hrn
      have hcl2:=Fw (A:=A) (B:=B) (y:=y) (xB.take k)
      rw [QD] at hcl2
      generalize xB[k]=x at hrx hrn
      have hw1:=fun (w' :World) (H:List Blk) (hm:Mem w w' H)=>zQ (eY y x) A la w' (hla.of_w0 hm) (by omega)
      have hw2:=fun (w' :World) (H:List Blk) (hm:Mem w w' H)=>zQ (eY y x) B lb w' (hlb.of_w0 hm) (by omega)
      have hp:mK A B y x=⟨eY y x,gW (eY y x) A,gW (eY y x) B⟩:=rfl
      rw [hp] at hrn
      generalize gW (eY y x) A=wa at hw1 hrn
      generalize gW (eY y x) B=wb at hw2 hrn
      clear hp
      repeat' (first|(apply ak (d:=49);exact rfl;apply aj (j:=k);exact rfl;exact rfl;exact hkl)|(apply ak (d:=50);exact rfl;apply aN (ys:=df x);exact rfl;exact pK;exact hrx;exact rfl)|refine sT ?_|refine sS ?_|refine sT2 ?_|refine sN ?_|refine sM fun _=> ?_|(refine sC ?_ ?_<;>intro hb<;>try omega)|exact cT|fail)
      all_goals try (exfalso;omega)
      rename_i g15 g16
      generalize jD A B y (xB.take k)=cur at hrn hcl2 ⊢
      have hOl:(prev++cur).length≤800000:=by rw [Qk];omega
      refine nF (id:=15) 10 (.box g16 191 (dc ⟨eY y x,wa,wb⟩):: .own Az 191 6 (prev++cur).length cz ((prev++cur).flatMap dc):: .box g12 189 (df y):: .box g7 232 [sl (some g5) xB.length c5]:: .own (some g5) 189 2 xB.length c5 (xB.flatMap df):: .own (some g6) 189 2 yB.length c6 (yB.flatMap df):: []) (by kernel_rfl) (by kernel_rfl) rfl ?_
      repeat' (first|(apply Gf (f' :=183) (f:=60);exact rfl;decide+kernel;exact rfl;exact rfl;(intro w' hm;first|exact hw1 w' _ hm|exact hw2 w' _ hm))|(apply zR (f:=60) (d:=69);exact rfl;decide+kernel;exact rfl;apply nI;(iterate 5 exact rfl))|(apply l6;exact rfl;exact rfl;exact pK;(iterate 3 exact rfl);exact Sg rfl;exact mS)|refine sT ?_|refine sS ?_|refine sT2 ?_|refine sG2 ?_|refine sG ?_|refine sM fun _=> ?_|(refine sC ?_ ?_<;>intro hb<;>try omega)|exact cT|fail)
      all_goals try (exfalso;omega)
      rcases Rz cur.length with h0|hpos
      · have hc0:cur= []:=RV.1 h0
        subst hc0
        have hg:jG [] (⟨eY y x,wa,wb⟩:Pz)= [⟨eY y x,wa,wb⟩]:=rfl
        rw [hg] at hrn
        rw [Qr] at hOl ⊢
        repeat' (first|(apply gF (id:=17);kernel_rfl;kernel_rfl)|(apply bO (d:=99) (A:=Az) (m:=1);(iterate 3 exact rfl);exact pK;(intro w hm;exact hm.cells_own pK);exact rfl;(simp [Value.oneCell',sl,dc]);omega;(simp only [maxLen];omega);(intro A' cap' hA'))|refine sT ?_|refine sS ?_|refine sQ ?_|refine sT2 ?_|refine sQ2 ?_|refine sN ?_|refine sNQ ?_|refine sD ?_|refine sM fun _=> ?_|(refine sC ?_ ?_<;>intro hb<;>try omega)|(refine sCQ ?_ ?_<;>intro hb<;>try omega)|exact cT|fail)
        all_goals first
          |(exfalso;omega)
          | (refine ⟨(k + 1, A', cap'), hkl, by dsimp only; omega, ?_, by exact sB, ?_⟩
             · dsimp only;rw [hrn,List.length_append];exact sB
             · dsimp only;rw [hrn,List.length_append,List.flatMap_append];exact mS)
      · have hne:cur≠ []:=RQ.1 hpos
        have hga:=KE (l:=prev) (p:=(⟨eY y x,wa,wb⟩:Pz)) hne
        rw [← hrn] at hga
        have hlt2:prev.length<(prev++cur).length:=by rw [Qk];omega
        have hOe:=Sh (l:=prev++cur) (by simp [hne])
        generalize (prev++cur).dropLast=O at hOe
        generalize (prev++cur).getLast _=q at hOe
        rw [← hOe] at hga hlt2 hOl ⊢
        rw [xF] at hga
        have hOn:(O++ [q]).length=O.length+1:=by simp
        rw [hOn] at hOl hlt2
        have hq2:(((O++ [q]).flatMap dc).drop (0+O.length*6+4)).take 2=lh (q.a,q.b):=by
          have h1:=dR cU (O++ [q]) O.length (by simp)
          have h2:=congrArg (List.drop 4) h1
          rw [List.drop_take,RN] at h2
          simp only [List.getElem_concat_length] at h2
          rw [QG]
          exact h2
        refine eK (A:=Az) pK (by omega) fun gz hAz=> ?_
        subst hAz
        obtain ⟨c,hc⟩: ∃ c,decide ((q.a,q.b)=(wa,wb))=c:=⟨_,rfl⟩
        cases c with
        |true=>
          have hab:q.a=wa∧q.b=wb:=by simpa using hc
          rw [if_pos hab] at hga
          have hset:=xK cU (O++ [q]) O.length 2 (by simp) (by decide) (.int .i64 x.2) ⟨⟨q.rect.c1,q.rect.r1,x.2,q.rect.r2⟩,q.a,q.b⟩ (by simp only [List.getElem_concat_length];rfl)
          rw [SG _ _ (Qq _),Nat.sub_self,List.set_cons_zero] at hset
          have hOl3:((O++ [q]).flatMap dc).length=(O.length+1)*6:=by rw [aH cU,hOn]
          rw [hOn]
          repeat' (first|(apply gF (id:=17);kernel_rfl;kernel_rfl)|(apply aS (d:=79);exact rfl;apply dI (a:=O.length+1);exact rfl;exact rfl;omega;(simp only [maxLen];omega))|(apply aS (d:=80);exact rfl;apply aj (j:=O.length);exact rfl;exact rfl;omega)|(apply aS (d:=82);exact rfl;apply aN (ys:=lh (q.a,q.b));exact rfl;exact pK;exact hq2;exact rfl)|(apply aS (d:=85);exact rfl;apply Fb (a:=(q.a,q.b)) (b:=(wa,wb)) hc;exact rfl;exact rfl)|(apply ak (d:=89);exact rfl;apply dI (a:=O.length+1);exact rfl;exact rfl;omega;(simp only [maxLen];omega))|(apply ak (d:=93);exact rfl;apply aj (j:=O.length);exact rfl;exact rfl;omega)|(apply gC (v:= .int .i64 x.2) (off:=0+O.length*6+2);exact rfl;exact rfl;exact pK;exact rfl;(rw [hOl3];omega);rw [QG,hset])|refine sT ?_|refine sS ?_|refine sQ ?_|refine sT2 ?_|refine sQ2 ?_|refine sN ?_|refine sNQ ?_|refine sD ?_|refine sM fun _=> ?_|(refine sC ?_ ?_<;>intro hb<;>try omega)|(refine sCQ ?_ ?_<;>intro hb<;>try omega)|exact cT|fail)
          all_goals first
            |(exfalso;omega)
            | (refine ⟨(k + 1, some gz, cz), hkl, by dsimp only; omega, ?_, by exact sB, ?_⟩
               · dsimp only;rw [hga,List.length_append];exact sB
               · dsimp only;rw [hga,List.length_append];exact mS)
        |false=>
          have hab: ¬ (q.a=wa∧q.b=wb):=by simpa using hc
          rw [if_neg hab] at hga
          rw [hOn]
          repeat' (first|(apply gF (id:=17);kernel_rfl;kernel_rfl)|(apply aS (d:=79);exact rfl;apply dI (a:=O.length+1);exact rfl;exact rfl;omega;(simp only [maxLen];omega))|(apply aS (d:=80);exact rfl;apply aj (j:=O.length);exact rfl;exact rfl;omega)|(apply aS (d:=82);exact rfl;apply aN (ys:=lh (q.a,q.b));exact rfl;exact pK;exact hq2;exact rfl)|(apply aS (d:=85);exact rfl;apply Fb (a:=(q.a,q.b)) (b:=(wa,wb)) hc;exact rfl;exact rfl)|(apply bO (d:=99) (A:=some gz) (m:=1);(iterate 3 exact rfl);exact pK;(intro w hm;exact hm.cells_own pK);exact rfl;(simp [Value.oneCell',sl,dc]);omega;(simp only [maxLen];omega);(intro A' cap' hA'))|refine sT ?_|refine sS ?_|refine sQ ?_|refine sT2 ?_|refine sQ2 ?_|refine sN ?_|refine sNQ ?_|refine sD ?_|refine sM fun _=> ?_|(refine sC ?_ ?_<;>intro hb<;>try omega)|(refine sCQ ?_ ?_<;>intro hb<;>try omega)|exact cT|fail)
          all_goals first
            |(exfalso;omega)
            | (refine ⟨(k + 1, A', cap'), hkl, by dsimp only; omega, ?_, by exact sB, ?_⟩
               · dsimp only;rw [hga,List.length_append,hOn];exact sB
               · dsimp only;rw [hga,List.length_append,hOn,List.flatMap_append (xs:=O++ [q])];exact mS)
    · have e:k=xB.length:=by omega
      subst e
      rw [Rx,← hsn]
      repeat' (first|refine sT ?_|refine sS ?_|refine sT2 ?_|refine sN ?_|refine sM fun _=> ?_|(refine sC ?_ ?_<;>intro hb<;>try omega)|exact cT|fail)
      all_goals first
        |(exfalso;omega)
        |(refine ⟨(j+1,Az,cz),hjl,by dsimp only;omega,by exact sB,by exact sB,by exact mS⟩;done)
  · have e:j=yB.length:=by omega
    subst e
    rw [Rx,← hpf]
    have hS:=fun (w' :World) (H:List Blk) (hm:Mem w w' H) (lv:Value) (h:Reads w' lv _ _)=>wB PZ hZ lv w' h
    repeat' (first|(apply aa (d:=103);exact rfl;exact rfl;(intro w' hm;exact hS w' _ hm _ (Reads.of_own (A:=Ao) hm pK)))|refine sT ?_|refine sS ?_|refine sT2 ?_|refine sN ?_|refine sM fun _=> ?_|(refine sC ?_ ?_<;>intro hb<;>try omega)|exact cT|fail)
    all_goals first
      |(exfalso;omega)
      |(exact cf eIO rfl rfl mS ⟨Ao,co,rfl,rfl⟩)
--
def iX (r:Rct) (L:List Rl):Int:=if aJ r=false then 3 else (ed 64 L).2
theorem Io (r:Rct) (L:List Rl) (lv:Value) (w:World) (hl:Reads w lv L.length (L.flatMap bw)):ay Tryz.prog 140 [.agg (bK r).toArray,lv] w (.int .i64 (iX r L)):=by
 refine aq Tryz.func140 rfl Tryz.ntmps140 rfl ?_
 have h1:=fun w=>fR r w
 have h2:=fun (w' :World) (H:List Blk) (hm:Mem w w' H)=>iU 64 L lv w' (hl.of_w0 hm)
 unfold iX
 repeat' (first|(apply aa;exact rfl;exact rfl;(intro w hm;exact h1 w))|(apply aa (f:=60);exact rfl;exact rfl;(intro w' hm;exact h2 w' _ hm))|refine sT ?_|refine sM fun _=> ?_|(refine sC ?_ ?_<;>intro hb<;>try omega)|fail)
 all_goals first
  |(exfalso;omega)
  |((refine rT1 ?_);rw [if_pos (ik hb)];done)
  |((refine rT1 ?_);rw [if_neg (eV hb)];done)
def ovE (r:Rct) (L:List Rl):(BitVec 64 × BitVec 64 × BitVec 64) × Int:=
 if iX r L≠0 then ((0#64,0#64,0#64),iX r L) else ((uK (fun x=>x.read) r L,uK (fun x=>x.write) r L,uK (fun x=>x.own) r L),0)
theorem H9 {r:Rct} {L:List Rl} (h: ¬ iX r L≠0):aJ r=true∧L≠ []∧L.length≤64:=by
 unfold iX at h
 split at h
 ·
  exact absurd (by decide) h
 ·
  rename_i hr
  refine ⟨by simpa using hr,?_⟩
  unfold ed at h
  split at h
  ·
   exact absurd (by decide) h
  ·
   rename_i h1
   have hn:L≠ []:=fun e=>h1 (.inr (.inr (.inr e)))
   split at h
   ·
    exact absurd (by decide) h
   ·
    exact ⟨hn,by omega⟩
def byN (f:Rl→BitVec 64) (L:List Rl) (p:Pz):BitVec 64:=(L[p.a]?.map f).getD 0#64
theorem yY (f:Rl→BitVec 64) (r:Rct) (L:List Rl):uK f r L=sA ((dF r L []).map (byN f L)):=rfl
set_option maxHeartbeats 16000000 in
theorem zz (r:Rct) (L:List Rl) (lv:Value) (w:World) (hl:Reads w lv L.length (L.flatMap bw)):
  ay Tryz.prog 102 [.agg (bK r).toArray,lv] w (.tuple #[.agg #[vS (ovE r L).1.1,vS (ovE r L).1.2.1,vS (ovE r L).1.2.2],.int .i64 (ovE r L).2]):=by
 refine aq Tryz.func102 rfl Tryz.ntmps102 rfl ?_
 have hck:=fun (w' :World) (H:List Blk) (hm:Mem w w' H)=>Io r L lv w' (hl.of_w0 hm)
 unfold ovE
 by_cases hc:iX r L≠0
 ·
  rw [if_pos hc]
  repeat' (first|(apply aa (f:=140);exact rfl;exact rfl;(intro w' hm;exact hck w' _ hm))|refine sT ?_|refine sT2 ?_|refine sM fun _=> ?_|(refine sC ?_ ?_<;>intro hb<;>try omega)|fail)
  all_goals first
   |(exfalso;omega)
   |((refine eJ ?_);rfl)
 rw [if_neg hc]
 obtain ⟨hr,hne,hlen⟩:=H9 hc
 have hP:=fun (w' :World) (H:List Blk) (hm:Mem w w' H)=>JW r hr L [] lv (.slice none 0 0) w' (hl.of_w0 hm) (GU w') (by omega) (by simp)
 have hpa: ∀ p∈dF r L [],p.a<L.length:=fun p hp=>by
  have h1:p.a∈(dF r L []).map (·.a):=QT.2 ⟨p,hp,rfl⟩
  obtain ⟨y,x,_,h2⟩:=yX.1 h1
  rw [h2]
  exact Ge hne
 have hpl:(dF r L []).length≤1000000:=by
  have h1:=lB (A:=L) (B:= []) (xs:=cD r.c1 r.c2 (aV r L++aV r [])) (cD r.r1 r.r2 (aU r L++aU r []))
  have h2:=iE r.c1 r.c2 (aV r L++aV r [])
  have h3:=iE r.r1 r.r2 (aU r L++aU r [])
  have h4:=d9 r L
  have h5:=d9 r []
  have h6:=dV r L
  have h7:=dV r []
  rw [Qk] at h2 h3
  rw [SQ] at h5 h7
  exact QC h1 (QC (Nat.mul_le_mul (show _≤801 by omega) (show _≤801 by omega)) (by decide))
 rw [yY,yY,yY]
 have hc0:iX r L=0:=by omega
 rw [hc0] at hck
 generalize dF r L []=PZ at hP hpa hpl ⊢
 refine aC 33 1 ?_
 refine aC 33 1 ?_
 refine aC 33 1 ?_
 repeat' (first|(apply aa (f:=140);exact rfl;exact rfl;(intro w' hm;exact hck w' _ hm))|(apply aA (f:=141);exact rfl;exact rfl;(intro w' hm;exact hP w' _ hm);rintro _ _ ⟨Ap,cp,rfl,rfl⟩)|refine sT ?_|refine sS ?_|refine sT2 ?_|refine sM fun _=> ?_|(refine sC ?_ ?_<;>intro hb<;>try omega)|fail)
 all_goals try (exfalso;omega)
 rename_i g2 g4
 refine ax [1,4,22,23] rfl (fun y:Nat × (Option Nat × Nat) × (Option Nat × Nat) × (Option Nat × Nat)=> [(7,sl y.2.1.1 y.1 y.2.1.2),(8,sl y.2.2.1.1 y.1 y.2.2.1.2),(9,sl y.2.2.2.1 y.1 y.2.2.2.2),(24,.int .i64 (y.1:Int))]) (fun y=> .own y.2.1.1 33 1 y.1 y.2.1.2 (((PZ.take y.1).map (byN (fun x=>x.read) L)).map vS):: .own y.2.2.1.1 33 1 y.1 y.2.2.1.2 (((PZ.take y.1).map (byN (fun x=>x.write) L)).map vS):: .own y.2.2.2.1 33 1 y.1 y.2.2.2.2 (((PZ.take y.1).map (byN (fun x=>x.own) L)).map vS):: .own Ap 191 6 PZ.length cp (PZ.flatMap dc):: .box g4 35 [vS 0#64,vS 0#64,vS 0#64]:: []) (fun y=>y.1≤PZ.length) (fun y=>PZ.length - y.1) (0,(none,0),(none,0),(none,0)) (Qt _) sB mS ?_
 rintro ⟨i,⟨A7,c7⟩,⟨A8,c8⟩,⟨A9,c9⟩⟩ hi
 dsimp only at hi ⊢
 by_cases hlt:i<PZ.length
 ·
  refine eK (A:=Ap) pK (by omega) fun gp hAp=> ?_
  subst hAp
  have hrd:((PZ.flatMap dc).drop (0+i*6)).take 6=dc PZ[i]:=by rw [QG];exact dR cU PZ i hlt
  have hpi:=hpa _ (Re hlt)
  have hsr: ∀ f:Rl→BitVec 64,((PZ.take (i+1)).map (byN f L)).map vS=((PZ.take i).map (byN f L)).map vS++ [vS (f (L[PZ[i].a]'hpi))]:=fun f=>by
   rw [Qv hlt,Ru,Ru]
   simp [byN,hpi]
  generalize PZ[i]=p at hrd hpi hsr
  have hl' :=hl
  obtain ⟨Al,cl,hlv,hl1,hl2,hl3⟩:=hl'
  subst hlv
  obtain ⟨gl,ol,rfl,hrl⟩:=hl3 (by omega)
  obtain ⟨_,_,_,_,hrr⟩:=Rl.ro (hrl.elem dA p.a hpi)
  generalize L[p.a]'hpi=x at hrr hsr
  repeat' (first|(apply ak (d:=26);exact rfl;apply aj (j:=i);exact rfl;exact rfl;exact hlt)|(apply ak (d:=27);exact rfl;apply aN (ys:=dc p);exact rfl;exact pK;exact hrd;exact rfl)|(apply ak (d:=32);exact rfl;apply aj (j:=p.a);exact rfl;exact rfl;exact hpi)|refine sT ?_|refine sS ?_|refine sT2 ?_|refine sN ?_|refine sO ?_|refine sM fun _=> ?_|(refine sC ?_ ?_<;>intro hb<;>try omega)|fail)
  all_goals try (exfalso;omega)
  rename_i g11 g12
  refine yA (id:=9) [3,4,8,9,13,14] [.box g12 35 [vS x.read,vS x.write,vS x.own]] 18 rfl rfl mS ?_
  repeat' (first|(apply gD (i:=0);(iterate 4 exact rfl);decide+kernel;decide+kernel;decide+kernel;(exact vC))|(apply gD (i:=1);(iterate 4 exact rfl);decide+kernel;decide+kernel;decide+kernel;(exact vC))|(apply gD (i:=2);(iterate 4 exact rfl);decide+kernel;decide+kernel;decide+kernel;(exact vC))|(apply gD (i:=5);(iterate 4 exact rfl);decide+kernel;decide+kernel;decide+kernel;(exact vC))|(apply gD (i:=6);(iterate 4 exact rfl);decide+kernel;decide+kernel;decide+kernel;(exact vC))|(apply gD (i:=7);(iterate 4 exact rfl);decide+kernel;decide+kernel;decide+kernel;(exact vC))|(apply gD (i:=10);(iterate 4 exact rfl);decide+kernel;decide+kernel;decide+kernel;(exact vC))|(apply gD (i:=11);(iterate 4 exact rfl);decide+kernel;decide+kernel;decide+kernel;(exact vC))|(apply gD (i:=12);(iterate 4 exact rfl);decide+kernel;decide+kernel;decide+kernel;(exact vC))|(apply gD (i:=15);(iterate 4 exact rfl);decide+kernel;decide+kernel;decide+kernel;(apply mg;exact rfl))|(apply gD (i:=16);(iterate 4 exact rfl);decide+kernel;decide+kernel;decide+kernel;(apply mg;exact rfl))|(apply gD (i:=17);(iterate 4 exact rfl);decide+kernel;decide+kernel;decide+kernel;(apply mg;exact rfl))|(apply zS (i:=3) (j:=8) (k:=13);(iterate 9 exact rfl);decide+kernel)|(apply zS (i:=4) (j:=8) (k:=13);(iterate 9 exact rfl);decide+kernel)|(apply kg (i:=3) (j:=13);(iterate 6 exact rfl);decide+kernel)|(apply kg (i:=3) (j:=8);(iterate 6 exact rfl);decide+kernel)|(apply kg (i:=8) (j:=13);(iterate 6 exact rfl);decide+kernel)|(apply kg (i:=4) (j:=13);(iterate 6 exact rfl);decide+kernel)|(apply kg (i:=4) (j:=8);(iterate 6 exact rfl);decide+kernel)|(apply kg (i:=9) (j:=13);(iterate 6 exact rfl);decide+kernel)|(apply fW (i:=3);(iterate 3 exact rfl);decide+kernel)|(apply fW (i:=4);(iterate 3 exact rfl);decide+kernel)|(apply fW (i:=8);(iterate 3 exact rfl);decide+kernel)|(apply fW (i:=9);(iterate 3 exact rfl);decide+kernel)|(apply fW (i:=13);(iterate 3 exact rfl);decide+kernel)|(apply fW (i:=14);(iterate 3 exact rfl);decide+kernel)|(apply bO (d:=39) (A:=A7) (m:=1);(iterate 3 exact rfl);exact pK;(intro w hm;exact hm.cells_own pK);exact rfl;(simp [Value.oneCell',sl]);omega;(simp only [maxLen];omega);(intro B7 b7 hB7))|(apply bO (d:=44) (A:=A8) (m:=1);(iterate 3 exact rfl);exact pK;(intro w hm;exact hm.cells_own pK);exact rfl;(simp [Value.oneCell',sl]);omega;(simp only [maxLen];omega);(intro B8 b8 hB8))|(apply bO (d:=49) (A:=A9) (m:=1);(iterate 3 exact rfl);exact pK;(intro w hm;exact hm.cells_own pK);exact rfl;(simp [Value.oneCell',sl]);omega;(simp only [maxLen];omega);(intro B9 b9 hB9))|(apply yx;decide+kernel)|(apply Nn;(focus (exact mS;done)))|refine sT ?_|refine sS ?_|refine sT2 ?_|refine sN ?_|refine sM fun _=> ?_|(refine sC ?_ ?_<;>intro hb<;>try omega)|fail)
  all_goals first
   |(exfalso;omega)
   |(refine ⟨(i+1,(B7,b7),(B8,b8),(B9,b9)),hlt,by dsimp only;omega,by exact sB,by exact sB,?_⟩;dsimp only;rw [hsr,hsr,hsr];exact mS)
 ·
  have e:i=PZ.length:=by omega
  subst e
  rw [Rx]
  have hM:=fun (f:Rl→BitVec 64) (w' :World) (lv:Value) (h:Reads w' lv PZ.length ((PZ.map (byN f L)).map vS))=>IG (PZ.map (byN f L)) lv w' (by rw [Rc];exact h)
  repeat' (first|(apply aa (d:=52);exact rfl;exact rfl;(intro w' hm;exact hM (fun x=>x.read) w' _ (Reads.of_own (A:=A7) hm pK)))|(apply aa (d:=54);exact rfl;exact rfl;(intro w' hm;exact hM (fun x=>x.write) w' _ (Reads.of_own (A:=A8) hm pK)))|(apply aa (d:=56);exact rfl;exact rfl;(intro w' hm;exact hM (fun x=>x.own) w' _ (Reads.of_own (A:=A9) hm pK)))|refine sT ?_|refine sS ?_|refine sT2 ?_|refine sM fun _=> ?_|(refine sC ?_ ?_<;>intro hb<;>try omega)|fail)
  all_goals first
   |(exfalso;omega)
   |((refine eJ ?_);rfl)
end Go.SL
namespace Go.SL
open Go
def zt (lo hi:Int) (ps:List (Int × Int)):List (Int × Int):=dG ((fQ (tr (db lo ps))).filter fun x=>decide (lo≤x) && decide (x≤hi)) hi
theorem Iu:cD=zt:=by funext lo hi ps;unfold cD zt vM;rw [Jz]
def DY (r:Rct) (A B:List Rl):List Pz:=(zt r.r1 r.r2 (aU r A++aU r B)).flatMap fun y=>jD A B y (zt r.c1 r.c2 (aV r A++aV r B))
theorem G7:dF=DY:=by funext r A B;unfold dF DY;rw [Iu]
def Bs (f:Rl→BitVec 64) (r:Rct) (L:List Rl):BitVec 64:=sA ((DY r L []).map fun p=>(L[p.a]?.map f).getD 0#64)
theorem J0:uK=Bs:=by funext f r L;unfold uK Bs;rw [G7]
def ovC (r:Rct) (L:List Rl):(BitVec 64 × BitVec 64 × BitVec 64) × Int:=
 if iX r L≠0 then ((0#64,0#64,0#64),iX r L) else ((Bs (fun x=>x.read) r L,Bs (fun x=>x.write) r L,Bs (fun x=>x.own) r L),0)
theorem OJ:ovE=ovC:=by funext r L;unfold ovE ovC;rw [J0]
def Mx (fn:Int) (r:Rct) (L:List Rl) (g:Gn):Bool:=decide (g.rect=r) && (mL g.fns fn && (!g.rev && fX (ovC g.rect L).1.2.2 g.by_))
def bkR:List Rl:= [⟨⟨1,1,1024,1024⟩,7#64,7#64,1#64⟩,⟨⟨2,1,2,3⟩,1#64,1#64,1#64⟩]
def bkN:List Gn:= [⟨⟨2,1,2,3⟩,1,2#64,0,false⟩]
set_option maxRecDepth 100000
theorem IB {L:List Rl} (h:(ed 64 L).2=0): ∀ R∈L,aJ R.rect=true:=by
 unfold ed at h
 split at h
 ·
  cases h
 split at h
 ·
  cases h
 split at h
 ·
  cases h
 have hf: ∀ (M:List Rl) (i:Int),(eH 64 M i).2=0→ ∀ R∈M,aJ R.rect=true:=by
  intro M
  induction M with
  |nil=>intro _ _ R hR;cases hR
  |cons r M ih=>
   intro i hi R hR
   rw [eH] at hi
   split at hi
   ·
    cases hi
   rename_i h1
   split at hi
   ·
    cases hi
   rcases Qx.1 hR with rfl|hR
   ·
    simpa using h1
   ·
    exact ih _ hi R hR
 exact hf L 0 h
def y9 (f:Rl→BitVec 64) (L:List Rl) (a:Rf):BitVec 64:=(L[gN L a]?.map f).getD 0#64
theorem O7 {L:List Rl} (h:(ed 64 L).2=0) {a:Rf} (ha:a.valid=true):(atE a L).1.1=y9 (fun x=>x.read) L a∧(atE a L).2=0:=by
 have hw:(rY a L).2=0:=by
  unfold rY
  rw [if_neg (by rw [ha];decide),if_neg (by rw [h];decide)]
 unfold atE
 rw [if_neg (by rw [hw];decide)]
 refine ⟨?_,rfl⟩
 unfold atR y9
 cases L[gN L a]? <;>rfl
theorem OI {L:List Rl} (h:(ed 64 L).2=0) {r:Rct} (hr:aJ r=true):ovE r L=((uK (fun x=>x.read) r L,uK (fun x=>x.write) r L,uK (fun x=>x.own) r L),0):=by
 have hz:iX r L=0:=by
  unfold iX
  rw [if_neg (by rw [hr];decide)];exact h
 unfold ovE
 rw [if_neg (by rw [hz];decide)]
theorem Lg {x:BitVec 64} {i:Nat} (h:x.getLsbD i=true):i<64:=by
 refine Nat.lt_of_not_le fun hn=> ?_
 rw [BitVec.getLsbD_of_ge _ _ hn] at h
 cases h
theorem MB {L:List Rl} (h:(ed 64 L).2=0) {r:Rct} (hr:aJ r=true) {i:Nat} (hi:i<64):(ovE r L).1.2.2.getLsbD i=true↔ ∀ a,eX r a=true→(y9 (fun x=>x.own) L a).getLsbD i=true:=by
 rw [OI h hr]
 exact JZ hr (IB h) hi
end Go.SL
namespace Go.SL
open Go Go.Proofs
attribute [local irreducible] W WL WQ WG WA WX WLI WR WT WC WE VOp RW thn blk bF scp aR bk bJ aL FnIn FnP ceP ny iL ku
def xJ:List Et:= [⟨⟨1,1⟩,⟨#[53]⟩⟩,⟨⟨2,1⟩,⟨#[49,48]⟩⟩,⟨⟨1,2⟩,inB⟩,⟨⟨2,2⟩,⟨#[50,48]⟩⟩,⟨⟨1,3⟩,inC⟩,⟨⟨1,4⟩,inD⟩]
theorem KK:o8 xJ=(some exG,0):=by decide+kernel
theorem uw (w:World):ay Tryz.prog 84 [] w (.agg (bK ⟨1,1,1024,1024⟩).toArray):=by
 refine aq Tryz.func84 rfl Tryz.ntmps84 rfl ?_
 repeat' (first|refine sT ?_|refine sM fun _=> ?_|(refine sC ?_ ?_<;>intro hb<;>try omega)|fail)
 (refine eRC ?_)
 rfl
set_option maxHeartbeats 4000000 in
theorem IL (w:World):aL Tryz.prog 116 [] w fun v H=> ∃ ge gr gn,v= .tuple #[.slice (some ⟨ge,0,none⟩) 6 6,.slice (some ⟨gr,0,none⟩) 2 2,.slice (some ⟨gn,0,none⟩) 1 1]∧H= [.own (some ge) 52 3 6 6 (xJ.flatMap aK),.own (some gr) 54 7 2 2 (bkR.flatMap bw),.own (some gn) 56 8 1 1 (bkN.flatMap bn)]:=by
 refine aq Tryz.func116 rfl Tryz.ntmps116 rfl ?_
 repeat' (first|(apply bX (id:=3) [0,6] [];kernel_rfl;kernel_rfl;kernel_rfl)|(apply bX (id:=4) [4] [];kernel_rfl;kernel_rfl;kernel_rfl)|(apply aa (f:=84);exact rfl;exact rfl;(intro w' _;exact uw w'))|refine sT ?_|refine sS ?_|refine sW ?_|refine sM fun _=> ?_|(refine sC ?_ ?_<;>intro hb<;>try omega)|(refine sCW ?_ ?_<;>intro hb<;>try omega)|fail)
 rename_i ge gr gn
 exact nY eIO rfl rfl rfl rfl (H' := [.own (some ge) 52 3 6 6 (xJ.flatMap aK),.own (some gr) 54 7 2 2 (bkR.flatMap bw),.own (some gn) 56 8 1 1 (bkN.flatMap bn)]) mS ⟨ge,gr,gn,rfl,rfl⟩
theorem vJ (L:List Gn): ∀ u∈L.flatMap bn,u.oneCell' =true:=fun u hu=>by
 obtain ⟨a,_,h⟩:=RB.1 hu
 simp only [bn,Qx,Sz,or_false] at h
 rcases h with rfl|rfl|rfl|rfl|rfl|rfl|rfl|rfl<;>rfl
theorem wL (L:List Gn) (tv:Value) (w:World) (ht:Reads w tv L.length (L.flatMap bn)) (hlen:L.length≤1000000):
  aL Tryz.prog 37 [tv] w fun v H=> ∃ A cap,v=sl A L.length cap∧H= [.own A 56 8 L.length cap (L.flatMap bn)]:=by
 refine aq Tryz.func37 rfl Tryz.ntmps37 rfl ?_
 have hl:(L.flatMap bn).length=L.length*8:=aH dg L
 refine aC 56 8 ?_
 repeat' (first|(apply ck (n' :=0) (c:=0) (A:=none) (m:=L.length);(iterate 3 exact rfl);exact pK;(intro w hm;exact ht.of_w0 hm);exact hl;exact vJ L;omega;(simp only [maxLen];omega);intro A' cap' hA)|refine sT ?_|refine sM fun _=> ?_|(refine sC ?_ ?_<;>intro hb<;>try omega)|fail)
 exact cf (.inl rfl) Tryz.results37 rfl (H' := [.own A' 56 8 (0+L.length) cap' ([]++L.flatMap bn)]) mS ⟨A',cap',by rw [QG],by rw [QG];rfl⟩
end Go.SL
namespace Go.SL
open Go Go.Proofs
attribute [local irreducible] W WL WQ WG WA WX WLI WR WT WC WE VOp RW thn blk bF scp aR bk bJ aL FnIn FnP ceP ny iL ku
def BG (g:Gn) (L:List Rl):Bool:= !g.rev && fX (ovE g.rect L).1.2.2 g.by_
theorem MJ (g:Gn) (L:List Rl) (lv:Value) (w:World) (hl:Reads w lv L.length (L.flatMap bw)):ay Tryz.prog 206 [.agg (bn g).toArray,lv] w (.bool (BG g L)):=by
 refine aq Tryz.func206 rfl Tryz.ntmps206 rfl ?_
 have h1:=fun (w' :World) (H:List Blk) (hm:Mem w w' H)=>zz g.rect L lv w' (hl.of_w0 hm)
 have h2:=fun w=>nB (ovE g.rect L).1.2.2 g.by_ w
 unfold BG
 generalize (ovE g.rect L).2=e at h1
 generalize (ovE g.rect L).1.1=s1 at h1
 generalize (ovE g.rect L).1.2.1=s2 at h1
 generalize (ovE g.rect L).1.2.2=s3 at h1 h2 ⊢
 generalize fX s3 g.by_=b at h2
 repeat' (first|(apply aa (f:=102);exact rfl;exact rfl;(intro w' hm;exact h1 w' _ hm))|(apply aa;exact rfl;exact rfl;(intro w hm;exact h2 w))|refine sT ?_|refine sM fun _=> ?_|(refine sC ?_ ?_<;>intro hb<;>try omega)|fail)
 all_goals first
  |(exfalso;omega)
  |((refine rT1 ?_);rw [hb];rfl)
def xk (fn:Int) (r:Rct) (L:List Rl) (g:Gn):Bool:=decide (g.rect=r) && (mL g.fns fn && BG g L)
def du (fn:Int) (r:Rct) (L:List Rl):List Gn→Nat→List (Nat × Gn)
 | [],_=> []
 |g::G,i=>bif xk fn r L g then (i,g)::du fn r L G (i+1) else du fn r L G (i+1)
def NN (x:Nat × Gn):List Value:= [.int .i64 (x.1:Int),.agg (bn x.2).toArray]
theorem mC (fn:Int) (r:Rct) (L:List Rl): ∀ (G:List Gn) (i:Nat),(du fn r L G i).length≤G.length
 | [],_=>Qq _
 |g::G,i=>by
  have:=mC fn r L G (i+1)
  rw [du]
  cases xk fn r L g<;>simp<;>omega
set_option maxHeartbeats 8000000 in
theorem Mv (fn:Int) (r:Rct) (L:List Rl) (G:List Gn) (gv lv:Value) (w0:World) (hg:Reads w0 gv G.length (G.flatMap bn)) (hl:Reads w0 lv L.length (L.flatMap bw)) (hn:G.length≤1000000) (gg gr gf gl:Nat):
  Nz Tryz.prog 204 [.pointer (some ⟨gg,0,none⟩),.pointer (some ⟨gr,0,none⟩),.pointer (some ⟨gf,0,none⟩),.pointer (some ⟨gl,0,none⟩)] w0
   [.box gg 24 [gv],.box gr 32 (bK r),.box gf 5 [.int .u8 fn],.box gl 23 [lv]] (du fn r L G 0) NN:=by
 obtain ⟨Ag,cg,rfl,hg1,hg2,hg3⟩:=hg
 intro l I J H0 hy h0
 refine FnIn.msub (H' := [.box gg 24 [.slice Ag G.length cg],.box gr 32 (bK r),.box gf 5 [.int .u8 fn],.box gl 23 [lv]]++H0) ?_ (MSub.appC H0 [] _)
 refine dx Tryz.func204 rfl Tryz.ntmps204 rfl ?_
 repeat' (first|refine sT ?_|refine sS ?_|refine sM fun _=> ?_|(refine sC ?_ ?_<;>intro hb<;>try omega)|fail)
 refine ax [0,1,2,3,4,8,9] rfl (fun y:Nat × List (Nat × Gn) × List Blk=> [(10,.int .i64 (y.1:Int))]) (fun y=> [.box gg 24 [.slice Ag G.length cg],.box gr 32 (bK r),.box gf 5 [.int .u8 fn],.box gl 23 [lv]]++y.2.2) (fun y=>y.1≤G.length∧du fn r L G 0=y.2.1++du fn r L (G.drop y.1) y.1∧I y.2.1 y.2.2) (fun y=>G.length - y.1) (0,[],H0) ⟨Qt _,rfl,h0⟩ sB (by exact MSub.refl _) ?_
 rintro ⟨i,pre,H1⟩ ⟨hi,hus,hI⟩
 dsimp only at hi hus hI ⊢
 simp only [Qm,Qn]
 by_cases hlt:i<G.length
 ·
  obtain ⟨ga,oa,rfl,hrl⟩:=hg3 (by omega)
  have he:=hrl.elem dg i hlt
  rw [Qs hlt,du] at hus
  generalize G[i]=g at hus he
  have hN:=fun w=>Lw g.fns fn w
  have hL:=fun (w' :World) (H:List Blk) (hm:Mem w0 w' H)=>MJ g L lv w' (hl.of_w0 hm)
  unfold xk at hus
  obtain ⟨c1,hc1⟩: ∃ c,decide (g.rect=r)=c:=⟨_,rfl⟩
  rw [hc1] at hus
  generalize mL g.fns fn=c2 at hN hus
  generalize BG g L=c3 at hL hus
  repeat' (first|(apply kI (id:=3))|(apply IY (d:=18);exact rfl;exact rfl;apply wZ hc1;exact rfl;exact rfl)|(apply tI;exact rfl;exact rfl)|(apply yj;(iterate 4 exact rfl))|(apply CU<;>first|exact rfl|(intro hb;replace hb:=Tidy.out hb;try (exfalso;omega)))|(apply wO (f:=205);(iterate 3 exact rfl);(intro w' hm;exact hN w'))|(apply wO (f:=206);(iterate 3 exact rfl);(intro w' hm;exact hL w' _ hm))|refine sT ?_|refine sS ?_|refine sI ?_|refine sN ?_|refine sO ?_|refine sM fun _=> ?_|(refine sC ?_ ?_<;>intro hb<;>try omega)|fail)
  ·
   have hus2:du fn r L G 0=pre++(i,g)::du fn r L (G.drop (i+1)) (i+1):=by rw [hus];simp [*]
   rename_i g7 _ _
   (with_reducible apply jw)
   ·
    exact rfl
   ·
    exact rfl
   ·
    exact rfl
   ·
    exact MSub.appC [.box g7 56 (bn g)] [.box gg 24 [.slice (some ⟨ga,oa,none⟩) G.length cg],.box gr 32 (bK r),.box gf 5 [.int .u8 fn],.box gl 23 [lv]] H1
   ·
    exact fun w hm=>hy pre (i,g) _ hus2 H1 _ hI w hm
   intro bb H3 hq
   cases bb
   ·
    repeat' (first|(apply tI;exact rfl;exact rfl)|(apply yj;(iterate 4 exact rfl))|refine sT ?_|refine sS ?_|refine sI ?_|refine sM fun _=> ?_|(refine sC ?_ ?_<;>intro hb<;>try omega)|fail)
    exact fM eIO rfl (MSub.appE [.box g7 56 (bn g)] [.box gg 24 [.slice (some ⟨ga,oa,none⟩) G.length cg],.box gr 32 (bK r),.box gf 5 [.int .u8 fn],.box gl 23 [lv]] H3) ⟨H3,.inr ⟨_,hq⟩,MSub.refl _⟩
   ·
    repeat' (first|(apply tI;exact rfl;exact rfl)|(apply yj;(iterate 4 exact rfl))|refine sT ?_|refine sS ?_|refine sI ?_|refine sN ?_|refine sM fun _=> ?_|(refine sC ?_ ?_<;>intro hb<;>try omega)|fail)
    refine ⟨(i+1,_,H3),⟨hlt,hus2.trans (by rw [List.append_assoc];rfl),hq⟩,(by dsimp only;omega),sB,sB,?_⟩
    dsimp only
    exact MSub.trans (MSub.drop .hd (MSub.refl _)) (MSub.appD [.box g7 56 (bn g)] [.box gg 24 [.slice (some ⟨ga,oa,none⟩) G.length cg],.box gr 32 (bK r),.box gf 5 [.int .u8 fn],.box gl 23 [lv]] H3)
  all_goals
   refine ⟨(i+1,pre,H1),⟨hlt,by rw [hus];simp [*],hI⟩,(by dsimp only;omega),sB,sB,?_⟩
   exact MSub.drop .hd (MSub.refl _)
 ·
  have e:i=G.length:=by omega
  subst e
  rw [Rk,du,Qr] at hus
  repeat' (first|refine sT ?_|refine sS ?_|refine sM fun _=> ?_|(refine sC ?_ ?_<;>intro hb<;>try omega)|fail)
  exact fM eIO rfl (.refl _) ⟨H1,.inl (hus ▸ hI),MSub.appS [.box gg 24 [.slice Ag G.length cg],.box gr 32 (bK r),.box gf 5 [.int .u8 fn],.box gl 23 [lv]] H1⟩
end Go.SL
namespace Go.SL
open Go Go.Proofs
attribute [local irreducible] W WL WQ WG WA WX WLI WR WT WC WE VOp RW thn blk bF scp aR bk bJ aL FnIn FnP ceP
instance fldRt0:FldT Tryz.prog 35 0 33 0:=⟨_,_,Tryz.underlying35,rfl,rfl,rfl⟩
instance fldRt1:FldT Tryz.prog 35 1 33 1:=⟨_,_,Tryz.underlying35,rfl,rfl,rfl⟩
instance fldRt2:FldT Tryz.prog 35 2 33 2:=⟨_,_,Tryz.underlying35,rfl,rfl,rfl⟩
theorem Ox.ro {w:World} {g o:Nat} {x:Ox} (h:Ro w g o (bN x)):Ro w g (o+2) (bK x.rect)∧Ro w g (o+7) [vS x.rd,vS x.wr,vS x.ow]:=
 ⟨(h.drop (k:=2)).take (k:=4),(h.drop (k:=7)).take (k:=3)⟩
set_option maxHeartbeats 4000000 in
theorem Iq (b:Bk) (x:Bv) (r:Rct) (gp gb:Nat) (w:World) (hp:Ro w gp 0 [.pointer (some ⟨gb,0,none⟩)]) (hbk:Ro w gb 0 (bo b x)) (hr:BRd w b x):
  ay Tryz.prog 136 [.agg (bK r).toArray,.pointer (some ⟨gp,0,none⟩)] w (.agg #[vS (ovE r b.rules).1.1,vS (ovE r b.rules).1.2.1,vS (ovE r b.rules).1.2.2]):=by
 refine aq Tryz.func136 rfl Tryz.ntmps136 rfl ?_
 have h1:=fun (w' :World) (H:List Blk) (hm:Mem w w' H)=>zz r b.rules _ w' (hr.r.of_w0 hm)
 generalize (ovE r b.rules).2=e at h1
 generalize (ovE r b.rules).1.1=s1 at h1 ⊢
 generalize (ovE r b.rules).1.2.1=s2 at h1 ⊢
 generalize (ovE r b.rules).1.2.2=s3 at h1 ⊢
 obtain ⟨us,E,RU,G,L,M,st⟩:=b
 obtain ⟨ae1,ar1,ag1,al1,as1,ce1,cr1,cg1,cl1,cs1⟩:=x
 dsimp only at*
 simp only [bo] at hbk
 repeat' (first|refine sT ?_|refine sS ?_|refine sO ?_|refine sM fun _=> ?_|(refine sC ?_ ?_<;>intro hb<;>try omega)|fail)
 rename_i g2 g3
 refine yA (id:=1) [5,9,10] [.box g2 32 (bK r),.box g3 35 [.int .u64 0,.int .u64 0,.int .u64 0]] 12 rfl rfl mS ?_
 repeat' (first|(apply gD (i:=1);(iterate 4 exact rfl);decide+kernel;decide+kernel;decide+kernel;apply ia;exact rfl;exact hp)|(apply gD (i:=4);(iterate 4 exact rfl);decide+kernel;decide+kernel;decide+kernel;apply dl;exact rfl;exact hbk;exact rfl)|(apply gD (i:=0);(iterate 4 exact rfl);decide+kernel;decide+kernel;decide+kernel;(exact vC))|(apply gD (i:=2);(iterate 4 exact rfl);decide+kernel;decide+kernel;decide+kernel;(exact vC))|(apply gD (i:=3);(iterate 4 exact rfl);decide+kernel;decide+kernel;decide+kernel;(exact vC))|(apply gD (i:=6);(iterate 4 exact rfl);decide+kernel;decide+kernel;decide+kernel;(exact vC))|(apply gD (i:=7);(iterate 4 exact rfl);decide+kernel;decide+kernel;decide+kernel;(exact vC))|(apply gD (i:=8);(iterate 4 exact rfl);decide+kernel;decide+kernel;decide+kernel;(exact vC))|(apply gD (i:=11);(iterate 4 exact rfl);decide+kernel;decide+kernel;decide+kernel;(apply mg;exact rfl))|(apply kg (i:=5) (j:=9);(iterate 6 exact rfl);decide+kernel)|(apply fW (i:=5);(iterate 3 exact rfl);decide+kernel)|(apply fW (i:=9);(iterate 3 exact rfl);decide+kernel)|(apply fW (i:=10);(iterate 3 exact rfl);decide+kernel)|(apply yx;decide+kernel)|(apply Nn;(focus (exact mS;done)))|(apply aa (f:=102);exact rfl;exact rfl;(intro w' hm;exact h1 w' _ hm))|refine sT ?_|refine sS ?_|refine sO ?_|refine sM fun _=> ?_|(refine sC ?_ ?_<;>intro hb<;>try omega)|fail)
 all_goals first
  |(exfalso;omega)
  |((refine eRC ?_);rfl)
def GP (b:Bk) (o:Ox):Bool:=
 if o.kind=3∨o.kind=4 then !fX (ovE o.rect b.rules).1.2.1 o.user
 else if o.kind=6 then !fX (ovE o.rect b.rules).1.1 o.user
 else if o.kind=7∨o.kind=8 then !fX (ovE o.rect b.rules).1.2.2 o.user
 else if o.kind=9 then (match b.grants[o.idx.toNat]? with|some g=>decide (g.by_≠o.user) && !fX (ovE g.rect b.rules).1.2.2 o.user|none=>false)
 else false
set_option maxHeartbeats 16000000 in
theorem uB (b:Bk) (x:Bv) (o:Ox) (gb:Nat) (w:World) (hbk:Ro w gb 0 (bo b x)) (hr:BRd w b x) (hi:o.kind=9→0≤o.idx∧o.idx<(b.grants.length:Int)):
  ay Tryz.prog 97 [.pointer (some ⟨gb,0,none⟩),.agg (bN o).toArray] w (.bool (GP b o)):=by
 refine aq Tryz.func97 rfl Tryz.ntmps97 rfl ?_
 have hO:=fun (r:Rct) (gp:Nat) (w' :World) (H:List Blk) (hi:In (.box gp 88 [.pointer (some ⟨gb,0,none⟩)]) H) (hm:Mem w w' H)=>Iq b x r gp gb w' (Ro.of_box hm hi) (hbk.next hm) (hr.of_w0 hm)
 unfold GP
 have hH:=fun (s:BitVec 64) w' =>nB s o.user w'
 by_cases k1:o.kind=3∨o.kind=4
 ·
  rw [if_pos k1]
  have hO1:=hO o.rect
  clear hO
  generalize (ovE o.rect b.rules).1.1=s1 at hO1 ⊢
  generalize (ovE o.rect b.rules).1.2.1=s2 at hO1 ⊢
  generalize (ovE o.rect b.rules).1.2.2=s3 at hO1 ⊢
  repeat' (first|(apply bX (id:=5) [3,7] [];kernel_rfl;kernel_rfl;kernel_rfl)|(apply di;(iterate 3 exact rfl);apply cL;exact rfl;exact rfl)|(apply bL (f:=136);exact rfl;exact rfl;infer_instance;exact rfl;(intro w' hm;exact hO1 _ w' _ pK hm))|(apply aa (f:=118);exact rfl;exact rfl;(intro w' _;exact hH _ w'))|refine sT ?_|refine sS ?_|refine sW ?_|refine sM fun _=> ?_|(refine sC ?_ ?_<;>intro hb<;>try omega)|(refine sCW ?_ ?_<;>intro hb<;>try omega)|fail)
  all_goals first|(exfalso;omega)|((refine rT1 ?_);rfl)
 rw [if_neg k1]
 by_cases k2:o.kind=6
 ·
  rw [if_pos k2]
  have hO1:=hO o.rect
  clear hO
  generalize (ovE o.rect b.rules).1.1=s1 at hO1 ⊢
  generalize (ovE o.rect b.rules).1.2.1=s2 at hO1 ⊢
  generalize (ovE o.rect b.rules).1.2.2=s3 at hO1 ⊢
  repeat' (first|(apply bX (id:=7) [3,7] [];kernel_rfl;kernel_rfl;kernel_rfl)|(apply di;(iterate 3 exact rfl);apply cL;exact rfl;exact rfl)|(apply bL (f:=136);exact rfl;exact rfl;infer_instance;exact rfl;(intro w' hm;exact hO1 _ w' _ pK hm))|(apply aa (f:=118);exact rfl;exact rfl;(intro w' _;exact hH _ w'))|refine sT ?_|refine sS ?_|refine sW ?_|refine sM fun _=> ?_|(refine sC ?_ ?_<;>intro hb<;>try omega)|(refine sCW ?_ ?_<;>intro hb<;>try omega)|fail)
  all_goals first|(exfalso;omega)|((refine rT1 ?_);rfl)
 rw [if_neg k2]
 by_cases k3:o.kind=7∨o.kind=8
 ·
  rw [if_pos k3]
  have hO1:=hO o.rect
  clear hO
  generalize (ovE o.rect b.rules).1.1=s1 at hO1 ⊢
  generalize (ovE o.rect b.rules).1.2.1=s2 at hO1 ⊢
  generalize (ovE o.rect b.rules).1.2.2=s3 at hO1 ⊢
  repeat' (first|(apply bX (id:=10) [3,7] [];kernel_rfl;kernel_rfl;kernel_rfl)|(apply di;(iterate 3 exact rfl);apply cL;exact rfl;exact rfl)|(apply bL (f:=136);exact rfl;exact rfl;infer_instance;exact rfl;(intro w' hm;exact hO1 _ w' _ pK hm))|(apply aa (f:=118);exact rfl;exact rfl;(intro w' _;exact hH _ w'))|refine sT ?_|refine sS ?_|refine sW ?_|refine sM fun _=> ?_|(refine sC ?_ ?_<;>intro hb<;>try omega)|(refine sCW ?_ ?_<;>intro hb<;>try omega)|fail)
  all_goals first|(exfalso;omega)|((refine rT1 ?_);rfl)
 rw [if_neg k3]
 by_cases k4:o.kind=9
 ·
  rw [if_pos k4]
  obtain ⟨hi1,hi2⟩:=hi k4
  obtain ⟨j,hj⟩: ∃ j:Nat,o.idx=(j:Int):=⟨o.idx.toNat,by omega⟩
  have hjl:j<b.grants.length:=by omega
  rw [hj,RX,Ql hjl]
  have hg:=hr.g
  obtain ⟨ae1,ar1,ag1,al1,as1,ce1,cr1,cg1,cl1,cs1⟩:=x
  dsimp only at*
  obtain ⟨Ag,cg2,eg,hg1,hg2,hg3⟩:=hg
  cases eg
  obtain ⟨gg,og,rfl,hrg⟩:=hg3 (by omega)
  have he:=hrg.elem dg j hjl
  generalize b.grants[j]=y at he ⊢
  have hO1:=hO y.rect
  clear hO
  generalize (ovE y.rect b.rules).1.1=s1 at hO1 ⊢
  generalize (ovE y.rect b.rules).1.2.1=s2 at hO1 ⊢
  generalize (ovE y.rect b.rules).1.2.2=s3 at hO1 ⊢
  obtain ⟨us,E,RU,G,L,M,st⟩:=b
  dsimp only at*
  simp only [bo] at hbk
  repeat' (first|(apply bX (id:=12) [8,9] [];kernel_rfl;kernel_rfl;kernel_rfl)|(apply bX (id:=13) [9,13] [];kernel_rfl;kernel_rfl;kernel_rfl)|(apply di;(iterate 3 exact rfl);apply dl;exact rfl;exact hbk;exact rfl)|(apply di;(iterate 3 exact rfl);apply aj (j:=j);exact rfl;(rw [hj];exact rfl);exact hjl)|(apply di;(iterate 3 exact rfl);apply aB;exact rfl;exact he;exact rfl)|(apply di;(iterate 3 exact rfl);apply cL;exact rfl;exact rfl)|(apply bL (f:=136);exact rfl;exact rfl;infer_instance;exact rfl;(intro w' hm;exact hO1 _ w' _ pK hm))|(apply aa (f:=118);exact rfl;exact rfl;(intro w' _;exact hH _ w'))|refine sT ?_|refine sS ?_|refine sW ?_|refine sM fun _=> ?_|(refine sC ?_ ?_<;>intro hb<;>try omega)|(refine sCW ?_ ?_<;>intro hb<;>try omega)|fail)
  all_goals first
   |(exfalso;omega)
   |((refine rT1 ?_);rw [decide_eq_false hb];rfl)
   |((refine rT1 ?_);rw [decide_eq_true hb];rfl)
 rw [if_neg k4]
 repeat' (first|refine sT ?_|refine sS ?_|refine sM fun _=> ?_|(refine sC ?_ ?_<;>intro hb<;>try omega)|fail)
 all_goals first|(exfalso;omega)|((refine rT1 ?_);rfl)
theorem EZ (L:List Et) (tv:Value) (w:World) (ht:Reads w tv L.length (L.flatMap aK)) (hlen:L.length≤1000000):
  aL Tryz.prog 74 [tv] w fun v H=> ∃ A cap,v=sl A L.length cap∧H= [.own A 52 3 L.length cap (L.flatMap aK)]:=by
 have ht' :=ht
 obtain ⟨At,ct,rfl,ht1,ht2,ht3⟩:=ht
 refine aq Tryz.func74 rfl Tryz.ntmps74 rfl ?_
 have hl:(L.flatMap aK).length=L.length*3:=aH bz L
 refine aC 52 3 ?_
 repeat' (first|(apply ak;exact rfl;apply kJ;exact rfl)|(apply dh;exact rfl;intro gb)|(apply ck (n' :=0) (c:=0) (A:=some _) (m:=L.length);(iterate 3 exact rfl);exact pK;(intro w hm;exact ht'.of_w0 hm);exact hl;exact py L;omega;(simp only [maxLen];omega);intro A' cap' hA)|refine sT ?_|refine sM fun _=> ?_|(refine sC ?_ ?_<;>intro hb<;>try omega)|fail)
 ·
  have e:L.length=0:=by
   rcases Rz L.length with h|h
   ·
    exact h
   ·
    obtain ⟨g,o,rfl,_⟩:=ht3 h
    cases hb
  have e' :L= []:=QV e
  subst e'
  exact cf (.inl rfl) Tryz.results74 rfl (.refl _) ⟨none,0,rfl,rfl⟩
 ·
  exact cf (.inl rfl) Tryz.results74 rfl (H' := [.own A' 52 3 (0+L.length) cap' ([]++L.flatMap aK)]) mS ⟨A',cap',by rw [QG],by rw [QG];rfl⟩
theorem EW (L:List Rl) (tv:Value) (w:World) (ht:Reads w tv L.length (L.flatMap bw)) (hlen:L.length≤1000000):
  aL Tryz.prog 75 [tv] w fun v H=> ∃ A cap,v=sl A L.length cap∧H= [.own A 54 7 L.length cap (L.flatMap bw)]:=by
 have ht' :=ht
 obtain ⟨At,ct,rfl,ht1,ht2,ht3⟩:=ht
 refine aq Tryz.func75 rfl Tryz.ntmps75 rfl ?_
 have hl:(L.flatMap bw).length=L.length*7:=aH dA L
 refine aC 54 7 ?_
 repeat' (first|(apply ak;exact rfl;apply kJ;exact rfl)|(apply dh;exact rfl;intro gb)|(apply ck (n' :=0) (c:=0) (A:=some _) (m:=L.length);(iterate 3 exact rfl);exact pK;(intro w hm;exact ht'.of_w0 hm);exact hl;exact vH L;omega;(simp only [maxLen];omega);intro A' cap' hA)|refine sT ?_|refine sM fun _=> ?_|(refine sC ?_ ?_<;>intro hb<;>try omega)|fail)
 ·
  have e:L.length=0:=by
   rcases Rz L.length with h|h
   ·
    exact h
   ·
    obtain ⟨g,o,rfl,_⟩:=ht3 h
    cases hb
  have e' :L= []:=QV e
  subst e'
  exact cf (.inl rfl) Tryz.results75 rfl (.refl _) ⟨none,0,rfl,rfl⟩
 ·
  exact cf (.inl rfl) Tryz.results75 rfl (H' := [.own A' 54 7 (0+L.length) cap' ([]++L.flatMap bw)]) mS ⟨A',cap',by rw [QG],by rw [QG];rfl⟩
theorem EX (L:List Gn) (tv:Value) (w:World) (ht:Reads w tv L.length (L.flatMap bn)) (hlen:L.length≤1000000):
  aL Tryz.prog 76 [tv] w fun v H=> ∃ A cap,v=sl A L.length cap∧H= [.own A 56 8 L.length cap (L.flatMap bn)]:=by
 have ht' :=ht
 obtain ⟨At,ct,rfl,ht1,ht2,ht3⟩:=ht
 refine aq Tryz.func76 rfl Tryz.ntmps76 rfl ?_
 have hl:(L.flatMap bn).length=L.length*8:=aH dg L
 refine aC 56 8 ?_
 repeat' (first|(apply ak;exact rfl;apply kJ;exact rfl)|(apply dh;exact rfl;intro gb)|(apply ck (n' :=0) (c:=0) (A:=some _) (m:=L.length);(iterate 3 exact rfl);exact pK;(intro w hm;exact ht'.of_w0 hm);exact hl;exact vJ L;omega;(simp only [maxLen];omega);intro A' cap' hA)|refine sT ?_|refine sM fun _=> ?_|(refine sC ?_ ?_<;>intro hb<;>try omega)|fail)
 ·
  have e:L.length=0:=by
   rcases Rz L.length with h|h
   ·
    exact h
   ·
    obtain ⟨g,o,rfl,_⟩:=ht3 h
    cases hb
  have e' :L= []:=QV e
  subst e'
  exact cf (.inl rfl) Tryz.results76 rfl (.refl _) ⟨none,0,rfl,rfl⟩
 ·
  exact cf (.inl rfl) Tryz.results76 rfl (H' := [.own A' 56 8 (0+L.length) cap' ([]++L.flatMap bn)]) mS ⟨A',cap',by rw [QG],by rw [QG];rfl⟩
theorem EY (L:List Ev) (tv:Value) (w:World) (ht:Reads w tv L.length (L.flatMap aZ)) (hlen:L.length≤1000000):
  aL Tryz.prog 77 [tv] w fun v H=> ∃ A cap,v=sl A L.length cap∧H= [.own A 58 9 L.length cap (L.flatMap aZ)]:=by
 have ht' :=ht
 obtain ⟨At,ct,rfl,ht1,ht2,ht3⟩:=ht
 refine aq Tryz.func77 rfl Tryz.ntmps77 rfl ?_
 have hl:(L.flatMap aZ).length=L.length*9:=aH iB L
 refine aC 58 9 ?_
 repeat' (first|(apply ak;exact rfl;apply kJ;exact rfl)|(apply dh;exact rfl;intro gb)|(apply ck (n' :=0) (c:=0) (A:=some _) (m:=L.length);(iterate 3 exact rfl);exact pK;(intro w hm;exact ht'.of_w0 hm);exact hl;exact vK L;omega;(simp only [maxLen];omega);intro A' cap' hA)|refine sT ?_|refine sM fun _=> ?_|(refine sC ?_ ?_<;>intro hb<;>try omega)|fail)
 ·
  have e:L.length=0:=by
   rcases Rz L.length with h|h
   ·
    exact h
   ·
    obtain ⟨g,o,rfl,_⟩:=ht3 h
    cases hb
  have e' :L= []:=QV e
  subst e'
  exact cf (.inl rfl) Tryz.results77 rfl (.refl _) ⟨none,0,rfl,rfl⟩
 ·
  exact cf (.inl rfl) Tryz.results77 rfl (H' := [.own A' 58 9 (0+L.length) cap' ([]++L.flatMap aZ)]) mS ⟨A',cap',by rw [QG],by rw [QG];rfl⟩
theorem EV (L:List Rv) (tv:Value) (w:World) (ht:Reads w tv L.length (L.flatMap aX)) (hlen:L.length≤1000000):
  aL Tryz.prog 78 [tv] w fun v H=> ∃ A cap,v=sl A L.length cap∧H= [.own A 62 11 L.length cap (L.flatMap aX)]:=by
 have ht' :=ht
 obtain ⟨At,ct,rfl,ht1,ht2,ht3⟩:=ht
 refine aq Tryz.func78 rfl Tryz.ntmps78 rfl ?_
 have hl:(L.flatMap aX).length=L.length*11:=aH dS L
 refine aC 62 11 ?_
 repeat' (first|(apply ak;exact rfl;apply kJ;exact rfl)|(apply dh;exact rfl;intro gb)|(apply ck (n' :=0) (c:=0) (A:=some _) (m:=L.length);(iterate 3 exact rfl);exact pK;(intro w hm;exact ht'.of_w0 hm);exact hl;exact vG L;omega;(simp only [maxLen];omega);intro A' cap' hA)|refine sT ?_|refine sM fun _=> ?_|(refine sC ?_ ?_<;>intro hb<;>try omega)|fail)
 ·
  have e:L.length=0:=by
   rcases Rz L.length with h|h
   ·
    exact h
   ·
    obtain ⟨g,o,rfl,_⟩:=ht3 h
    cases hb
  have e' :L= []:=QV e
  subst e'
  exact cf (.inl rfl) Tryz.results78 rfl (.refl _) ⟨none,0,rfl,rfl⟩
 ·
  exact cf (.inl rfl) Tryz.results78 rfl (H' := [.own A' 62 11 (0+L.length) cap' ([]++L.flatMap aX)]) mS ⟨A',cap',by rw [QG],by rw [QG];rfl⟩
def ofS (u:Int):BitVec 64 × Int:=if u<0∨64≤u then (0#64,3) else (1#64<<<u.toNat,0)
theorem NB (u:Int) (lv:Value) (w:World) (hl:Reads w lv 1 [.int .i64 u]):ay Tryz.prog 103 [lv] w (.tuple #[vS (ofS u).1,.int .i64 (ofS u).2]):=by
 obtain ⟨Al,cl,rfl,hl1,hl2,hl3⟩:=hl
 obtain ⟨gl,ol,rfl,hrl⟩:=hl3 (by omega)
 have he1:=hrl.cellV 0 (v:= .int .i64 u) rfl
 refine aq Tryz.func103 rfl Tryz.ntmps103 rfl ?_
 by_cases h:u<0∨64≤u
 ·
  rw [ofS,if_pos h]
  repeat' (first|refine sT ?_|refine sS ?_|refine sO ?_|refine sM fun _=> ?_|(refine sC ?_ ?_<;>intro hb<;>try omega)|fail)
  refine ax [7,8] rfl (fun _:Unit=> [(4,.int .u64 0),(9,.int .i64 0)]) (fun _=> []) (fun _=>True) (fun _=>0) () trivial sB mS ?_
  rintro _ _
  repeat' (first|(apply ak;exact rfl;apply aj (j:=0);exact rfl;exact rfl;omega)|refine sT ?_|refine sS ?_|refine sO ?_|refine sM fun _=> ?_|(refine sC ?_ ?_<;>intro hb<;>try omega)|fail)
  all_goals first|(exfalso;omega)|((refine rT2 ?_);rfl)
 ·
  rw [ofS,if_neg h]
  obtain ⟨m,rfl⟩: ∃ m:Nat,u=(m:Int):=⟨u.toNat,by omega⟩
  repeat' (first|refine sT ?_|refine sS ?_|refine sO ?_|refine sM fun _=> ?_|(refine sC ?_ ?_<;>intro hb<;>try omega)|fail)
  refine ax [7,8] rfl (fun i:Nat=> [(4,vS (if i=0 then 0#64 else 1#64<<<m)),(9,.int .i64 (i:Int))]) (fun _=> []) (fun i=>i≤1) (fun i=>1 - i) 0 (by omega) sB mS ?_
  rintro i hi
  rcases (by omega:i=0∨i=1) with rfl|rfl
  ·
   repeat' (first|(apply ak;exact rfl;apply aj (j:=0);exact rfl;exact rfl;omega)|(apply ak;exact rfl;apply yF (a:=1#64) (m:=m);exact rfl;exact rfl;omega)|(apply ak;exact rfl;apply oT (a:=0#64);exact rfl;exact rfl)|refine sT ?_|refine sS ?_|refine sN ?_|refine sO ?_|refine sM fun _=> ?_|(refine sC ?_ ?_<;>intro hb<;>try omega)|fail)
   all_goals first
    |(exfalso;omega)
    |(simp only [BitVec.zero_or];refine ⟨1,by omega,by omega,by exact sB,by exact sB,by exact mS⟩;done)
  ·
   repeat' (first|refine sT ?_|refine sS ?_|refine sO ?_|refine sM fun _=> ?_|(refine sC ?_ ?_<;>intro hb<;>try omega)|fail)
   all_goals first|(exfalso;omega)|((refine rT2 ?_);rfl)
def qD:Ev:=⟨0,0,0,aM,false,0#64⟩
def evT (x:Ox) (N:List Gn):Rct:=if x.kind=9 then ((N[x.idx.toNat]?).map Gn.rect).getD aM else x.rect
def evO (step:Int) (x:Ox) (dn:Bool) (L:List Rl) (N:List Gn):Ev × Int:=
 if kw x.kind=false then (qD,2)
 else if step<0∨opE x≠0∨x.user<0∨64≤x.user then (qD,2)
 else if (ed 64 L).2≠0 then (qD,(ed 64 L).2)
 else if (jH 64 N).2≠0 then (qD,(jH 64 N).2)
 else if x.kind=9∧(x.idx<0∨(N.length:Int)≤x.idx) then (qD,6)
 else if aJ (evT x N)=false then (qD,3)
 else (⟨step,x.user,x.kind,evT x N,dn,(ovE (evT x N) L).1.2.2|||(ofS x.user).1⟩,0)
set_option maxHeartbeats 16000000 in
theorem LB (step:Int) (x:Ox) (dn:Bool) (L:List Rl) (N:List Gn) (lv nv:Value) (w:World) (hl:Reads w lv L.length (L.flatMap bw)) (hn:Reads w nv N.length (N.flatMap bn)):
  ay Tryz.prog 42 [.int .i64 step,.agg (bN x).toArray,.bool dn,lv,nv] w (.tuple #[.agg (aZ (evO step x dn L N).1).toArray,.int .i64 (evO step x dn L N).2]):=by
 have hacl:=fun (w' :World) (H:List Blk) (hm:Mem w w' H)=>iU 64 L lv w' (hl.of_w0 hm)
 have hgnt:=fun (w' :World) (H:List Blk) (hm:Mem w w' H)=>mZ 64 N nv w' (hn.of_w0 hm)
 have hov:=fun (r:Rct) (w' :World) (H:List Blk) (hm:Mem w w' H)=>zz r L lv w' (hl.of_w0 hm)
 obtain ⟨Al,cl,rfl,hl1,hl2,hl3⟩:=hl
 obtain ⟨An,cn,rfl,hn1,hn2,hn3⟩:=hn
 refine aq Tryz.func42 rfl Tryz.ntmps42 rfl ?_
 have hop:=fun w=>uM x w
 have hmu:=fun w=>pE x w
 unfold evO
 generalize kw x.kind=mk at hmu ⊢
 generalize opE x=oe at hop ⊢
 generalize ed 64 L=ae at hacl ⊢
 generalize jH 64 N=ne at hgnt ⊢
 cases mk with
 |false=>
  rw [if_pos rfl]
  repeat' (first|(apply aa;exact rfl;exact rfl;(intro w hm;exact hop w))|(apply aa;exact rfl;exact rfl;(intro w hm;exact hmu w))|refine sT ?_|refine sS ?_|refine sM fun _=> ?_|(refine sC ?_ ?_<;>intro hb<;>try omega)|fail)
  all_goals first|(exfalso;omega)|((refine eJ ?_);rfl)
 |true=>
  rw [if_neg (by decide)]
  by_cases h1:step<0∨oe≠0∨x.user<0∨64≤x.user
  ·
   rw [if_pos h1]
   repeat' (first|(apply aa;exact rfl;exact rfl;(intro w hm;exact hop w))|(apply aa;exact rfl;exact rfl;(intro w hm;exact hmu w))|refine sT ?_|refine sS ?_|refine sM fun _=> ?_|(refine sC ?_ ?_<;>intro hb<;>try omega)|fail)
   all_goals first|(exfalso;omega)|((refine eJ ?_);rfl)
  rw [if_neg h1]
  by_cases h2:ae.2≠0
  ·
   rw [if_pos h2]
   repeat' (first|(apply aa;exact rfl;exact rfl;(intro w hm;exact hop w))|(apply aa;exact rfl;exact rfl;(intro w hm;exact hmu w))|(apply aa (f:=60);exact rfl;exact rfl;(intro w' hm;exact hacl w' _ hm))|refine sT ?_|refine sS ?_|refine sM fun _=> ?_|(refine sC ?_ ?_<;>intro hb<;>try omega)|fail)
   all_goals first|(exfalso;omega)|((refine eJ ?_);rfl)
  rw [if_neg h2]
  by_cases h3:ne.2≠0
  ·
   rw [if_pos h3]
   repeat' (first|(apply aa;exact rfl;exact rfl;(intro w hm;exact hop w))|(apply aa;exact rfl;exact rfl;(intro w hm;exact hmu w))|(apply aa (f:=60);exact rfl;exact rfl;(intro w' hm;exact hacl w' _ hm))|(apply aa (f:=61);exact rfl;exact rfl;(intro w' hm;exact hgnt w' _ hm))|refine sT ?_|refine sS ?_|refine sM fun _=> ?_|(refine sC ?_ ?_<;>intro hb<;>try omega)|fail)
   all_goals first|(exfalso;omega)|((refine eJ ?_);rfl)
  rw [if_neg h3]
  obtain ⟨sa,has⟩: ∃ sa,sa=ofS x.user:=⟨_,rfl⟩
  have hof:=fun (w' :World) (g:Nat) (H:List Blk) (hi:In (.own (some g) 3 1 1 1 [.int .i64 x.user]) H) (hm:Mem w w' H)=>NB x.user (.slice (some ⟨g,0,none⟩) 1 1) w' (Reads.of_own (A:=some g) hm hi)
  rw [← has] at hof ⊢
  by_cases h9:x.kind=9
  ·
   by_cases h4:x.idx<0∨(N.length:Int)≤x.idx
   ·
    rw [if_pos ⟨h9,h4⟩]
    repeat' (first|(apply aa;exact rfl;exact rfl;(intro w hm;exact hop w))|(apply aa;exact rfl;exact rfl;(intro w hm;exact hmu w))|(apply aa (f:=60);exact rfl;exact rfl;(intro w' hm;exact hacl w' _ hm))|(apply aa (f:=61);exact rfl;exact rfl;(intro w' hm;exact hgnt w' _ hm))|refine sT ?_|refine sS ?_|refine sM fun _=> ?_|(refine sC ?_ ?_<;>intro hb<;>try omega)|fail)
    all_goals first|(exfalso;omega)|((refine eJ ?_);rfl)
   rw [if_neg (fun h=>h4 h.2)]
   obtain ⟨j,hj⟩: ∃ j:Nat,x.idx=(j:Int):=⟨x.idx.toNat,by omega⟩
   have hjl:j<N.length:=by omega
   obtain ⟨gn,on,rfl,hrn⟩:=hn3 (by omega)
   obtain ⟨hrr,_⟩:=Gn.ro (hrn.elem dg j hjl)
   have ht:evT x N=N[j].rect:=by unfold evT;rw [if_pos h9,hj,RX,Ql hjl];rfl
   rw [ht]
   generalize N[j].rect=t at hrr ⊢
   have hre:=fun w=>fR t w
   have hov' :=hov t
   generalize ovE t L=ov at hov' ⊢
   by_cases h5:aJ t=false
   ·
    rw [if_pos h5]
    have h6:dC t≠0:=fun h=>eV (by simpa using h) h5
    repeat' (first|(apply aa;exact rfl;exact rfl;(intro w hm;exact hop w))|(apply aa;exact rfl;exact rfl;(intro w hm;exact hmu w))|(apply aa;exact rfl;exact rfl;(intro w hm;exact hre w))|(apply aa (f:=60);exact rfl;exact rfl;(intro w' hm;exact hacl w' _ hm))|(apply aa (f:=61);exact rfl;exact rfl;(intro w' hm;exact hgnt w' _ hm))|(apply ak;exact rfl;apply aj (j:=j);exact rfl;(rw [hj];exact rfl);exact hjl)|refine sT ?_|refine sS ?_|refine sO ?_|refine sM fun _=> ?_|(refine sC ?_ ?_<;>intro hb<;>try omega)|fail)
    all_goals first|(exfalso;omega)|((refine eJ ?_);rfl)
   ·
    rw [if_neg h5]
    repeat' (first|(apply aa;exact rfl;exact rfl;(intro w hm;exact hop w))|(apply aa;exact rfl;exact rfl;(intro w hm;exact hmu w))|(apply aa;exact rfl;exact rfl;(intro w hm;exact hre w))|(apply aa (f:=60);exact rfl;exact rfl;(intro w' hm;exact hacl w' _ hm))|(apply aa (f:=61);exact rfl;exact rfl;(intro w' hm;exact hgnt w' _ hm))|(apply aa (f:=102);exact rfl;exact rfl;(intro w' hm;exact hov' w' _ hm))|(apply aa (f:=103);exact rfl;exact rfl;(intro w' hm;exact hof w' _ _ pK hm))|(apply ak;exact rfl;apply aj (j:=j);exact rfl;(rw [hj];exact rfl);exact hjl)|(apply ak;exact rfl;apply oT;exact rfl;exact rfl)|refine sT ?_|refine sS ?_|refine sO ?_|refine sM fun _=> ?_|(refine sC ?_ ?_<;>intro hb<;>try omega)|fail)
    all_goals first|(exfalso;omega)|(exact absurd (ik hb) h5)|((refine eJ ?_);rfl)
  ·
   rw [if_neg (fun h=>h9 h.1)]
   have ht:evT x N=x.rect:=by unfold evT;rw [if_neg h9]
   rw [ht]
   have hre:=fun w=>fR x.rect w
   have hov' :=hov x.rect
   generalize ovE x.rect L=ov at hov' ⊢
   by_cases h5:aJ x.rect=false
   ·
    rw [if_pos h5]
    repeat' (first|(apply aa;exact rfl;exact rfl;(intro w hm;exact hop w))|(apply aa;exact rfl;exact rfl;(intro w hm;exact hmu w))|(apply aa;exact rfl;exact rfl;(intro w hm;exact hre w))|(apply aa (f:=60);exact rfl;exact rfl;(intro w' hm;exact hacl w' _ hm))|(apply aa (f:=61);exact rfl;exact rfl;(intro w' hm;exact hgnt w' _ hm))|refine sT ?_|refine sS ?_|refine sO ?_|refine sM fun _=> ?_|(refine sC ?_ ?_<;>intro hb<;>try omega)|fail)
    all_goals first|(exfalso;omega)|(exact absurd h5 (eV ‹_›))|((refine eJ ?_);rfl)
   ·
    rw [if_neg h5]
    repeat' (first|(apply aa;exact rfl;exact rfl;(intro w hm;exact hop w))|(apply aa;exact rfl;exact rfl;(intro w hm;exact hmu w))|(apply aa;exact rfl;exact rfl;(intro w hm;exact hre w))|(apply aa (f:=60);exact rfl;exact rfl;(intro w' hm;exact hacl w' _ hm))|(apply aa (f:=61);exact rfl;exact rfl;(intro w' hm;exact hgnt w' _ hm))|(apply aa (f:=102);exact rfl;exact rfl;(intro w' hm;exact hov' w' _ hm))|(apply aa (f:=103);exact rfl;exact rfl;(intro w' hm;exact hof w' _ _ pK hm))|(apply ak;exact rfl;apply oT;exact rfl;exact rfl)|refine sT ?_|refine sS ?_|refine sO ?_|refine sM fun _=> ?_|(refine sC ?_ ?_<;>intro hb<;>try omega)|fail)
    all_goals first|(exfalso;omega)|(exact absurd (ik hb) h5)|((refine eJ ?_);rfl)
structure Bo where
 e:Option Nat
 r:Option Nat
 g:Option Nat
 l:Option Nat
 s:Option Nat
 ce:Nat
 cr:Nat
 cg:Nat
 cl:Nat
 cs:Nat
def adr (A:Option Nat):Option Addr:=A.map fun g=>⟨g,0,none⟩
def Bo.v (a:Bo):Bv:=⟨adr a.e,adr a.r,adr a.g,adr a.l,adr a.s,a.ce,a.cr,a.cg,a.cl,a.cs⟩
def bi (b:Bk) (a:Bo):List Blk:= [.own a.e 52 3 b.ents.length a.ce (b.ents.flatMap aK),.own a.r 54 7 b.rules.length a.cr (b.rules.flatMap bw),.own a.g 56 8 b.grants.length a.cg (b.grants.flatMap bn),.own a.l 58 9 b.log.length a.cl (b.log.flatMap aZ),.own a.s 62 11 b.rels.length a.cs (b.rels.flatMap aX)]
theorem BRd.of_rows {w0 w:World} {H:List Blk} {b:Bk} {a:Bo} (hm:Mem w0 w H) (h1:In (.own a.e 52 3 b.ents.length a.ce (b.ents.flatMap aK)) H) (h2:In (.own a.r 54 7 b.rules.length a.cr (b.rules.flatMap bw)) H) (h3:In (.own a.g 56 8 b.grants.length a.cg (b.grants.flatMap bn)) H) (h4:In (.own a.l 58 9 b.log.length a.cl (b.log.flatMap aZ)) H) (h5:In (.own a.s 62 11 b.rels.length a.cs (b.rels.flatMap aX)) H):BRd w b a.v:=
 ⟨Reads.of_own (A:=a.e) hm h1,Reads.of_own (A:=a.r) hm h2,Reads.of_own (A:=a.g) hm h3,Reads.of_own (A:=a.l) hm h4,Reads.of_own (A:=a.s) hm h5⟩
structure Small (b:Bk):Prop where
 e:b.ents.length≤1000000
 r:b.rules.length≤1000000
 g:b.grants.length≤1000000
 l:b.log.length≤1000000
 s:b.rels.length≤1000000
set_option maxHeartbeats 4000000 in
theorem Ir (b:Bk) (x:Bv) (w:World) (h:BRd w b x) (hs:Small b):aL Tryz.prog 20 [.agg (bo b x).toArray] w fun v H=> ∃ a:Bo,v= .agg (bo b a.v).toArray∧H=bi b a:=by
 refine aq Tryz.func20 rfl Tryz.ntmps20 rfl ?_
 have h1:=fun (w' :World) (H:List Blk) (hm:Mem w w' H)=>EZ b.ents _ w' (h.e.of_w0 hm) hs.e
 have h2:=fun (w' :World) (H:List Blk) (hm:Mem w w' H)=>EW b.rules _ w' (h.r.of_w0 hm) hs.r
 have h3:=fun (w' :World) (H:List Blk) (hm:Mem w w' H)=>EX b.grants _ w' (h.g.of_w0 hm) hs.g
 have h4:=fun (w' :World) (H:List Blk) (hm:Mem w w' H)=>EY b.log _ w' (h.l.of_w0 hm) hs.l
 have h5:=fun (w' :World) (H:List Blk) (hm:Mem w w' H)=>EV b.rels _ w' (h.s.of_w0 hm) hs.s
 repeat' (first|(apply aA (f:=74);exact rfl;exact rfl;(intro w' hm;exact h1 w' _ hm);rintro _ _ ⟨A1,c1,rfl,rfl⟩)|(apply aA (f:=75);exact rfl;exact rfl;(intro w' hm;exact h2 w' _ hm);rintro _ _ ⟨A2,c2,rfl,rfl⟩)|(apply aA (f:=76);exact rfl;exact rfl;(intro w' hm;exact h3 w' _ hm);rintro _ _ ⟨A3,c3,rfl,rfl⟩)|(apply aA (f:=77);exact rfl;exact rfl;(intro w' hm;exact h4 w' _ hm);rintro _ _ ⟨A4,c4,rfl,rfl⟩)|(apply aA (f:=78);exact rfl;exact rfl;(intro w' hm;exact h5 w' _ hm);rintro _ _ ⟨A5,c5,rfl,rfl⟩)|refine sT ?_|refine sS ?_|refine sM fun _=> ?_|(refine sC ?_ ?_<;>intro hb<;>try omega)|fail)
 exact uy (.inl rfl) rfl rfl pK rfl (H' :=bi b ⟨A1,A2,A3,A4,A5,c1,c2,c3,c4,c5⟩) (by unfold bi;exact mS) ⟨⟨A1,A2,A3,A4,A5,c1,c2,c3,c4,c5⟩,rfl,rfl⟩
end Go.SL

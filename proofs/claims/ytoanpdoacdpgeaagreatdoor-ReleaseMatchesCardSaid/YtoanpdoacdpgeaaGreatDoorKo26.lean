/-
  Lemmas and walks, put together: Hj Hk Hu Hv Hm Ib Hn Ja.
-/
import Derived.Test.YtoanpdoacdpgeaaGreatDoorKo20
import Derived.Test.YtoanpdoacdpgeaaGreatDoorKo21
import Derived.Test.YtoanpdoacdpgeaaGreatDoorKo22
set_option linter.unusedSimpArgs false
set_option linter.unusedVariables false
set_option maxRecDepth 20000
namespace Go.SL
open Go Go.Proofs
attribute [local irreducible] W WL WQ WG WA WX WLI WR WT WC WE VOp RW thn blk bp scp aR ba bE aF FnIn FnP ceP
--
theorem LU {l m:List Pz} {p:Pz} (hm:m≠ []):l++ky m p=ky (l++m) p:=by
 have e:=S0 hm
 generalize hd:m.dropLast=d at e
 generalize m.getLast hm=q at e
 subst e
 unfold ky
 rw [← Rz,List.getLast?_concat,List.getLast?_concat]
 dsimp only
 rw [Ue,Ue]
 split<;>simp
theorem y9 {O:List Pz} {q p:Pz}:ky (O++ [q]) p=if q.a=p.a∧q.b=p.b then O++ [⟨⟨q.rect.c1,q.rect.r1,p.rect.c2,q.rect.r2⟩,q.a,q.b⟩] else O++ [q]++ [p]:=by
 unfold ky
 rw [List.getLast?_concat]
 dsimp only
 rw [Ue]
theorem Hq {A B:List Rl} {y:Int × Int} (xs:List (Int × Int)):(kg A B y xs).length≤xs.length:=by
 induction xs using uS with
 |h0=>exact Re _
 |h1 xs x ih=>
  rw [lM,QT,QX]
  generalize kg A B y xs=l at ih
  unfold ky
  cases h:l.getLast? with
  |none=>simp
  |some q=>
   dsimp only
   split
   ·
    rw [QT,List.length_dropLast,QX];omega
   ·
    rw [QT,QX];omega
theorem Cs {A B:List Rl} {y:Int × Int}:kg A B y []= []:=rfl
def jw (A B:List Rl) (ys xs:List (Int × Int)):List Pz:=ys.flatMap fun y=>kg A B y xs
theorem Cq {A B:List Rl} {ys xs:List (Int × Int)} {y:Int × Int}:jw A B (ys++ [y]) xs=jw A B ys xs++kg A B y xs:=by unfold jw;simp
theorem mA {A B:List Rl} {xs:List (Int × Int)}: ∀ ys:List (Int × Int),(jw A B ys xs).length≤ys.length*xs.length
 | []=>by simp [jw]
 |y::ys=>by
  have h1:=mA (A:=A) (B:=B) (xs:=xs) ys
  have h2:=Hq (A:=A) (B:=B) (y:=y) xs
  unfold jw at h1 ⊢
  rw [Rm,QT,Rx,Nat.succ_mul]
  omega
theorem Pq {A B:List Rl} {y:Int × Int} (xs:List (Int × Int)): ∀ q∈kg A B y xs,q.rect.r1=y.1∧ ∃ x∈xs,q.rect.c1=x.1:=by
 induction xs using uS with
 |h0=>intro q hq;cases hq
 |h1 xs x ih=>
  intro q hq
  rw [lM] at hq
  by_cases hn:kg A B y xs= []
  ·
   rw [hn] at hq
   have:q=nT A B y x:=by simpa [ky] using hq
   subst this
   exact ⟨rfl,x,by simp,rfl⟩
  ·
   have e:=S0 hn
   generalize (kg A B y xs).dropLast=d at e
   generalize (kg A B y xs).getLast hn=z at e
   rw [← e] at hq ih
   rw [y9] at hq
   have hz:=ih z (by simp)
   split at hq
   ·
    rcases Ru.1 hq with hq|hq
    ·
     obtain ⟨h1,x',h2,h3⟩:=ih q (by simp [hq])
     exact ⟨h1,x',by simp [h2],h3⟩
    ·
     rw [Rp.1 hq]
     obtain ⟨h1,x',h2,h3⟩:=hz
     exact ⟨h1,x',by simp [h2],h3⟩
   ·
    rcases Ru.1 hq with hq|hq
    ·
     obtain ⟨h1,x',h2,h3⟩:=ih q hq
     exact ⟨h1,x',by simp [h2],h3⟩
    ·
     rw [Rp.1 hq]
     exact ⟨rfl,x,by simp,rfl⟩
theorem CT {r:Rct} {A B:List Rl} (hrs:1≤r.c1∧r.c1≤r.c2∧r.c2≤1024∧1≤r.r1∧r.r1≤r.r2∧r.r2≤1024): ∀ p∈dY r A B,vT p:=fun p hp=>by
 obtain ⟨y,hy,hp⟩:=Se.1 hp
 obtain ⟨h1,x,hx,h2⟩:=Pq _ p hp
 have h3:=fp hy
 have h4:=fp hx
 unfold vT
 omega
set_option maxHeartbeats 16000000 in
theorem Lh (r:Rct) (hr:aO r=true) (A B:List Rl) (la lb:Value) (w:World) (hla:Reads w la A.length (A.flatMap bM)) (hlb:Reads w lb B.length (B.flatMap bM)) (hA:A.length≤200) (hB:B.length≤200):
    aF Tryz.prog 141 [.agg (bL r).toArray,la,lb] w fun v H=> ∃ Ap cap,v=sl Ap (dY r A B).length cap∧H= [.own Ap 191 6 (dY r A B).length cap ((dY r A B).flatMap dA)]:=by
  refine aq Tryz.func141 rfl Tryz.ntmps141 rfl ?_
  have hrs:=cX.1 hr
  have hZ:InZ (dY r A B):=by
    refine ⟨Ak r A B,CT hrs,?_⟩
    have h1:=mA (A:=A) (B:=B) (xs:=cJ r.c1 r.c2 (aZ r A++aZ r B)) (cJ r.r1 r.r2 (aX r A++aX r B))
    have h2:=jd r.c1 r.c2 (aZ r A++aZ r B)
    have h3:=jd r.r1 r.r2 (aX r A++aX r B)
    have h4:=eY r A
    have h5:=eY r B
    have h6:=eU r A
    have h7:=eU r B
    rw [QT] at h2 h3
    refine RB h1 (RB (Nat.mul_le_mul (show _≤801 by omega) (show _≤801 by omega)) (by decide))
  have hnA:=fun (gr gc gw:Nat)=>HA r A la gr gc gw none none 0 0 [] [] [] w hla (by simp;omega) (by simp;omega)
  have hnB:=fun (gr gc gw:Nat) (A1 A2:Option Nat) (c1 c2:Nat)=>HA r B lb gr gc gw A1 A2 c1 c2 (aZ r A) (aX r A) [] w hlb (by have:=eY r A;omega) (by have:=eU r A;omega)
  have hcl:(aZ r A++aZ r B).length≤400:=by have:=eY r A;have:=eY r B;rw [QT];omega
  have hwl:(aX r A++aX r B).length≤400:=by have:=eU r A;have:=eU r B;rw [QT];omega
  have hcs: ∀ p∈aZ r A++aZ r B,0≤p.1∧p.1≤100000∧0≤p.2∧p.2≤100000:=fun p hp=>(Ru.1 hp).elim (rV p) (rV p)
  have hws: ∀ p∈aX r A++aX r B,0≤p.1∧p.1≤100000∧0≤p.2∧p.2≤100000:=fun p hp=>(Ru.1 hp).elim (qX p) (qX p)
  have hb1:=fun (w' :World) (lv:Value) (h:Reads w' lv _ _)=>D0 r.c1 r.c2 (aZ r A++aZ r B) lv w' h (by omega) (by omega) (by omega) hcs
  have hb2:=fun (w' :World) (lv:Value) (h:Reads w' lv _ _)=>D0 r.r1 r.r2 (aX r A++aX r B) lv w' h (by omega) (by omega) (by omega) hws
  have hxl:=jd r.c1 r.c2 (aZ r A++aZ r B)
  have hyl:=jd r.r1 r.r2 (aX r A++aX r B)
  have hpf:dY r A B=jw A B (cJ r.r1 r.r2 (aX r A++aX r B)) (cJ r.c1 r.c2 (aZ r A++aZ r B)):=rfl
  generalize dY r A B=PZ at hZ hpf ⊢
  generalize hX:cJ r.c1 r.c2 (aZ r A++aZ r B)=xB at hb1 hxl hpf
  generalize hY:cJ r.r1 r.r2 (aX r A++aX r B)=yB at hb2 hyl hpf
  generalize hCO:aZ r A++aZ r B=CO at hb1 hcl hxl
  generalize hRO:aX r A++aX r B=RO at hb2 hwl hyl
  refine aB 189 2 ?_
  refine aB 189 2 ?_
  repeat' (first|(apply m7 (d:=21);exact rfl;exact rfl;infer_instance;exact rfl;exact FnIn.msub (hnA _ _ _) (by simp only [tZ,Rj,QU,QW];exact mS);rintro _ _ ⟨rfl,A1,c1,A2,c2,rfl⟩)|(apply m7 (d:=24);exact rfl;exact rfl;infer_instance;exact rfl;exact FnIn.msub (hnB _ _ _ A1 A2 c1 c2) (by simp only [tZ,Rj,QU,QW];exact mS);rintro _ _ ⟨rfl,A3,c3,A4,c4,rfl⟩)|refine sT ?_|refine sS ?_|refine sT2 ?_|refine sM fun _=> ?_|(refine sC ?_ ?_<;>intro hb<;>try omega)|exact cT|fail)
  rename_i g3 g7 g8
  rw [hCO,hRO]
  simp only [tZ,Rj,QU,QW]
  refine qb (fun _:Option Nat × Nat × Option Nat × Nat=> [(1,la),(2,lb),(3,.pointer (some ⟨g3,0,none⟩)),(7,.pointer (some ⟨g7,0,none⟩)),(8,.pointer (some ⟨g8,0,none⟩))]) (fun y=> .box g7 232 [sl y.1 xB.length y.2.1]:: .own y.1 189 2 xB.length y.2.1 (xB.flatMap dB):: .box g8 232 [sl y.2.2.1 yB.length y.2.2.2]:: .own y.2.2.1 189 2 yB.length y.2.2.2 (yB.flatMap dB):: []) (fun _=>True) ?_ ?_
  · refine oP (id:=5) [4,5,10,11,12,13] [.box g3 32 (bL r)] 14 rfl rfl mS ?_
    repeat' (first|(apply fB (i:=0);(iterate 4 exact rfl);decide+kernel;decide+kernel;decide+kernel;(exact vC))|(apply fB (i:=1);(iterate 4 exact rfl);decide+kernel;decide+kernel;decide+kernel;(exact vC))|(apply fB (i:=2);(iterate 4 exact rfl);decide+kernel;decide+kernel;decide+kernel;(exact vC))|(apply fB (i:=3);(iterate 4 exact rfl);decide+kernel;decide+kernel;decide+kernel;(exact vC))|(apply fB (i:=6);(iterate 4 exact rfl);decide+kernel;decide+kernel;decide+kernel;(exact vC))|(apply fB (i:=7);(iterate 4 exact rfl);decide+kernel;decide+kernel;decide+kernel;(exact vC))|(apply fB (i:=8);(iterate 4 exact rfl);decide+kernel;decide+kernel;decide+kernel;(exact vC))|(apply fB (i:=9);(iterate 4 exact rfl);decide+kernel;decide+kernel;decide+kernel;(exact vC))|(apply dX (i:=4) (j:=10);(iterate 6 exact rfl);decide+kernel)|(apply dX (i:=5) (j:=10);(iterate 6 exact rfl);decide+kernel)|(apply dX (i:=12) (j:=13);(iterate 6 exact rfl);decide+kernel)|(apply cj (i:=4);(iterate 3 exact rfl);decide+kernel)|(apply cj (i:=5);(iterate 3 exact rfl);decide+kernel)|(apply cj (i:=10);(iterate 3 exact rfl);decide+kernel)|(apply cj (i:=11);(iterate 3 exact rfl);decide+kernel)|(apply cj (i:=12);(iterate 3 exact rfl);decide+kernel)|(apply cj (i:=13);(iterate 3 exact rfl);decide+kernel)|(apply ay (d:=30);exact rfl;exact rfl;(intro w' hm;exact hb1 w' _ (Reads.of_own (A:=A3) hm pK));rintro _ _ ⟨A5,c5,rfl,rfl⟩)|(apply ay (d:=36);exact rfl;exact rfl;(intro w' hm;exact hb2 w' _ (Reads.of_own (A:=A4) hm pK));rintro _ _ ⟨A6,c6,rfl,rfl⟩)|(apply oM;decide+kernel)|(apply Gf;(focus (exact mS;done)))|refine sT ?_|refine sS ?_|refine sT2 ?_|refine sM fun _=> ?_|(refine sC ?_ ?_<;>intro hb<;>try omega)|exact cT|fail)
    all_goals first
      |(exfalso;omega)
      |(exact cG (A5,c5,A6,c6) trivial sB mS)
  rintro ⟨A5,c5,A6,c6⟩ _
  dsimp only
  clear hnA hnB hb1 hb2 hX hY hCO hRO
  refine aB 191 6 ?_
  repeat' (first|refine sT ?_|refine sS ?_|refine sT2 ?_|refine sM fun _=> ?_|(refine sC ?_ ?_<;>intro hb<;>try omega)|exact cT|fail)
  refine aw [1,2,7,37,38] rfl (fun y:Nat × Option Nat × Nat=> [(10,sl y.2.1 (jw A B (yB.take y.1) xB).length y.2.2),(39,.int .i64 (y.1:Int))]) (fun y=> .own y.2.1 191 6 (jw A B (yB.take y.1) xB).length y.2.2 ((jw A B (yB.take y.1) xB).flatMap dA):: .box g7 232 [sl A5 xB.length c5]:: .own A5 189 2 xB.length c5 (xB.flatMap dB):: .own A6 189 2 yB.length c6 (yB.flatMap dB):: []) (fun y=>y.1≤yB.length) (fun y=>yB.length - y.1) (0,none,0) (Rd _) sB mS ?_
  rintro ⟨j,Ao,co⟩ hj
  dsimp only at hj ⊢
  by_cases hjl:j<yB.length
  · refine dN (A:=A6) pK (by omega) fun g6 hA6=> ?_
    subst hA6
    have hrd:((yB.flatMap dB).drop (0+j*2)).take 2=dB yB[j]:=by rw [Rt];exact dD jY yB j hjl
    have hsn:=Cq (A:=A) (B:=B) (ys:=yB.take j) (xs:=xB) (y:=yB[j])
    rw [← Ra hjl] at hsn
    have hpl:(jw A B (yB.take j) xB).length≤700000:=by
      have h1:=mA (A:=A) (B:=B) (xs:=xB) (yB.take j)
      refine RB h1 (RB (Nat.mul_le_mul (show _≤801 by rw [RF];omega) (show _≤801 by omega)) (by decide))
    generalize yB[j]=y at hrd hsn
    generalize jw A B (yB.take j) xB=prev at hsn hpl ⊢
    repeat' (first|(apply ak (d:=41);exact rfl;apply aj (j:=j);exact rfl;exact rfl;exact hjl)|(apply ak (d:=42);exact rfl;apply aW (ys:=dB y);exact rfl;exact pK;exact hrd;exact rfl)|refine sT ?_|refine sS ?_|refine sT2 ?_|refine sN ?_|refine sM fun _=> ?_|(refine sC ?_ ?_<;>intro hb<;>try omega)|exact cT|fail)
    all_goals try (exfalso;omega)
    rename_i g12
    refine aw [1,2,7,12,13,37,38,39,45,46] rfl (fun z:Nat × Option Nat × Nat=> [(10,sl z.2.1 (prev++kg A B y (xB.take z.1)).length z.2.2),(47,.int .i64 (z.1:Int))]) (fun z=> .own z.2.1 191 6 (prev++kg A B y (xB.take z.1)).length z.2.2 ((prev++kg A B y (xB.take z.1)).flatMap dA):: .box g12 189 (dB y):: .box g7 232 [sl A5 xB.length c5]:: .own A5 189 2 xB.length c5 (xB.flatMap dB):: .own (some g6) 189 2 yB.length c6 (yB.flatMap dB):: []) (fun z=>z.1≤xB.length) (fun z=>xB.length - z.1) (0,Ao,co) (Rd _) (by rw [Sj,Cs,QZ];exact sB) (by rw [Sj,Cs,QZ];exact mS) ?_
    rintro ⟨k,Az,cz⟩ hk
    dsimp only at hk ⊢
    by_cases hkl:k<xB.length
    · refine dN (A:=A5) pK (by omega) fun g5 hA5=> ?_
      subst hA5
      have hrx:((xB.flatMap dB).drop (0+k*2)).take 2=dB xB[k]:=by rw [Rt];exact dD jY xB k hkl
      have hrn:=lM (A:=A) (B:=B) (y:=y) (xs:=xB.take k) (x:=xB[k])
      rw [← Ra hkl] at hrn
      have hcl2:=Hq (A:=A) (B:=B) (y:=y) (xB.take k)
      rw [RF] at hcl2
      generalize xB[k]=x at hrx hrn
      have hw1:=fun (w' :World) (H:List Blk) (hm:Mem w w' H)=>BA (fK y x) A la w' (hla.of_w0 hm) (by omega)
      have hw2:=fun (w' :World) (H:List Blk) (hm:Mem w w' H)=>BA (fK y x) B lb w' (hlb.of_w0 hm) (by omega)
      have hp:nT A B y x=⟨fK y x,iN (fK y x) A,iN (fK y x) B⟩:=rfl
      rw [hp] at hrn
      generalize iN (fK y x) A=wa at hw1 hrn
      generalize iN (fK y x) B=wb at hw2 hrn
      clear hp
      repeat' (first|(apply ak (d:=49);exact rfl;apply aj (j:=k);exact rfl;exact rfl;exact hkl)|(apply ak (d:=50);exact rfl;apply aW (ys:=dB x);exact rfl;exact pK;exact hrx;exact rfl)|refine sT ?_|refine sS ?_|refine sT2 ?_|refine sN ?_|refine sM fun _=> ?_|(refine sC ?_ ?_<;>intro hb<;>try omega)|exact cT|fail)
      all_goals try (exfalso;omega)
      rename_i g15 g16
      generalize kg A B y (xB.take k)=cur at hrn hcl2 ⊢
      have hOl:(prev++cur).length≤800000:=by rw [QT];omega
      refine oO (id:=15) 10 (.box g16 191 (dA ⟨fK y x,wa,wb⟩):: .own Az 191 6 (prev++cur).length cz ((prev++cur).flatMap dA):: .box g12 189 (dB y):: .box g7 232 [sl (some g5) xB.length c5]:: .own (some g5) 189 2 xB.length c5 (xB.flatMap dB):: .own (some g6) 189 2 yB.length c6 (yB.flatMap dB):: []) (by kernel_rfl) (by kernel_rfl) rfl ?_
      repeat' (first|(apply Ip (f' :=183) (f:=60);exact rfl;decide+kernel;exact rfl;exact rfl;(intro w' hm;first|exact hw1 w' _ hm|exact hw2 w' _ hm))|(apply BC (f:=60) (d:=69);exact rfl;decide+kernel;exact rfl;apply oU;(iterate 5 exact rfl))|(apply m9;exact rfl;exact rfl;exact pK;(iterate 3 exact rfl);exact SZ rfl;exact mS)|refine sT ?_|refine sS ?_|refine sT2 ?_|refine sG2 ?_|refine sG ?_|refine sM fun _=> ?_|(refine sC ?_ ?_<;>intro hb<;>try omega)|exact cT|fail)
      all_goals try (exfalso;omega)
      rcases Sx cur.length with h0|hpos
      · have hc0:cur= []:=SR.1 h0
        subst hc0
        have hg:ky [] (⟨fK y x,wa,wb⟩:Pz)= [⟨fK y x,wa,wb⟩]:=rfl
        rw [hg] at hrn
        rw [QZ] at hOl ⊢
        repeat' (first|(apply ib (id:=17);kernel_rfl;kernel_rfl)|(apply aQ (d:=99) (A:=Az) (m:=1);(iterate 3 exact rfl);exact pK;(intro w hm;exact hm.cells_own pK);exact rfl;(simp [Value.oneCell',sl,dA]);omega;(simp only [maxLen];omega);(intro A' cap' hA'))|refine sT ?_|refine sS ?_|refine sQ ?_|refine sT2 ?_|refine sQ2 ?_|refine sN ?_|refine sNQ ?_|refine sD ?_|refine sM fun _=> ?_|(refine sC ?_ ?_<;>intro hb<;>try omega)|(refine sCQ ?_ ?_<;>intro hb<;>try omega)|exact cT|fail)
        all_goals first
          |(exfalso;omega)
          | (refine ⟨(k + 1, A', cap'), hkl, by dsimp only; omega, ?_, by exact sB, ?_⟩
             · dsimp only;rw [hrn,List.length_append];exact sB
             · dsimp only;rw [hrn,List.length_append,List.flatMap_append];exact mS)
      · have hne:cur≠ []:=SJ.1 hpos
        have hga:=LU (l:=prev) (p:=(⟨fK y x,wa,wb⟩:Pz)) hne
        rw [← hrn] at hga
        have hlt2:prev.length<(prev++cur).length:=by rw [QT];omega
        have hOe:=S0 (l:=prev++cur) (by simp [hne])
        generalize (prev++cur).dropLast=O at hOe
        generalize (prev++cur).getLast _=q at hOe
        rw [← hOe] at hga hlt2 hOl ⊢
        rw [y9] at hga
        have hOn:(O++ [q]).length=O.length+1:=by simp
        rw [hOn] at hOl hlt2
        have hq2:(((O++ [q]).flatMap dA).drop (0+O.length*6+4)).take 2=l6 (q.a,q.b):=by
          have h1:=dD dh (O++ [q]) O.length (by simp)
          have h2:=congrArg (List.drop 4) h1
          rw [List.drop_take,SH] at h2
          simp only [List.getElem_concat_length] at h2
          rw [Rt]
          exact h2
        refine dN (A:=Az) pK (by omega) fun gz hAz=> ?_
        subst hAz
        obtain ⟨c,hc⟩: ∃ c,decide ((q.a,q.b)=(wa,wb))=c:=⟨_,rfl⟩
        cases c with
        |true=>
          have hab:q.a=wa∧q.b=wb:=by simpa using hc
          rw [if_pos hab] at hga
          have hset:=Jy dh (O++ [q]) O.length 2 (by simp) (by decide) (.int .i64 x.2) ⟨⟨q.rect.c1,q.rect.r1,x.2,q.rect.r2⟩,q.a,q.b⟩ (by simp only [List.getElem_concat_length];rfl)
          rw [TU _ _ (Re _),Nat.sub_self,List.set_cons_zero] at hset
          have hOl3:((O++ [q]).flatMap dA).length=(O.length+1)*6:=by rw [aM dh,hOn]
          rw [hOn]
          repeat' (first|(apply ib (id:=17);kernel_rfl;kernel_rfl)|(apply aK (d:=79);exact rfl;apply eC (a:=O.length+1);exact rfl;exact rfl;omega;(simp only [maxLen];omega))|(apply aK (d:=80);exact rfl;apply aj (j:=O.length);exact rfl;exact rfl;omega)|(apply aK (d:=82);exact rfl;apply aW (ys:=l6 (q.a,q.b));exact rfl;exact pK;exact hq2;exact rfl)|(apply aK (d:=85);exact rfl;apply GU (a:=(q.a,q.b)) (b:=(wa,wb)) hc;exact rfl;exact rfl)|(apply ak (d:=89);exact rfl;apply eC (a:=O.length+1);exact rfl;exact rfl;omega;(simp only [maxLen];omega))|(apply ak (d:=93);exact rfl;apply aj (j:=O.length);exact rfl;exact rfl;omega)|(apply jF (v:= .int .i64 x.2) (off:=0+O.length*6+2);exact rfl;exact rfl;exact pK;exact rfl;(rw [hOl3];omega);rw [Rt,hset])|refine sT ?_|refine sS ?_|refine sQ ?_|refine sT2 ?_|refine sQ2 ?_|refine sN ?_|refine sNQ ?_|refine sD ?_|refine sM fun _=> ?_|(refine sC ?_ ?_<;>intro hb<;>try omega)|(refine sCQ ?_ ?_<;>intro hb<;>try omega)|exact cT|fail)
          all_goals first
            |(exfalso;omega)
            | (refine ⟨(k + 1, some gz, cz), hkl, by dsimp only; omega, ?_, by exact sB, ?_⟩
               · dsimp only;rw [hga,List.length_append];exact sB
               · dsimp only;rw [hga,List.length_append];exact mS)
        |false=>
          have hab: ¬ (q.a=wa∧q.b=wb):=by simpa using hc
          rw [if_neg hab] at hga
          rw [hOn]
          repeat' (first|(apply ib (id:=17);kernel_rfl;kernel_rfl)|(apply aK (d:=79);exact rfl;apply eC (a:=O.length+1);exact rfl;exact rfl;omega;(simp only [maxLen];omega))|(apply aK (d:=80);exact rfl;apply aj (j:=O.length);exact rfl;exact rfl;omega)|(apply aK (d:=82);exact rfl;apply aW (ys:=l6 (q.a,q.b));exact rfl;exact pK;exact hq2;exact rfl)|(apply aK (d:=85);exact rfl;apply GU (a:=(q.a,q.b)) (b:=(wa,wb)) hc;exact rfl;exact rfl)|(apply aQ (d:=99) (A:=some gz) (m:=1);(iterate 3 exact rfl);exact pK;(intro w hm;exact hm.cells_own pK);exact rfl;(simp [Value.oneCell',sl,dA]);omega;(simp only [maxLen];omega);(intro A' cap' hA'))|refine sT ?_|refine sS ?_|refine sQ ?_|refine sT2 ?_|refine sQ2 ?_|refine sN ?_|refine sNQ ?_|refine sD ?_|refine sM fun _=> ?_|(refine sC ?_ ?_<;>intro hb<;>try omega)|(refine sCQ ?_ ?_<;>intro hb<;>try omega)|exact cT|fail)
          all_goals first
            |(exfalso;omega)
            | (refine ⟨(k + 1, A', cap'), hkl, by dsimp only; omega, ?_, by exact sB, ?_⟩
               · dsimp only;rw [hga,List.length_append,hOn];exact sB
               · dsimp only;rw [hga,List.length_append,hOn,List.flatMap_append (xs:=O++ [q])];exact mS)
    · have e:k=xB.length:=by omega
      subst e
      rw [RJ,← hsn]
      repeat' (first|refine sT ?_|refine sS ?_|refine sT2 ?_|refine sN ?_|refine sM fun _=> ?_|(refine sC ?_ ?_<;>intro hb<;>try omega)|exact cT|fail)
      all_goals first
        |(exfalso;omega)
        |(refine ⟨(j+1,Az,cz),hjl,by dsimp only;omega,by exact sB,by exact sB,by exact mS⟩;done)
  · have e:j=yB.length:=by omega
    subst e
    rw [RJ,← hpf]
    have hS:=fun (w' :World) (H:List Blk) (hm:Mem w w' H) (lv:Value) (h:Reads w' lv _ _)=>xT PZ hZ lv w' h
    repeat' (first|(apply aa (d:=103);exact rfl;exact rfl;(intro w' hm;exact hS w' _ hm _ (Reads.of_own (A:=Ao) hm pK)))|refine sT ?_|refine sS ?_|refine sT2 ?_|refine sN ?_|refine sM fun _=> ?_|(refine sC ?_ ?_<;>intro hb<;>try omega)|exact cT|fail)
    all_goals first
      |(exfalso;omega)
      |(exact cA eIO rfl rfl mS ⟨Ao,co,rfl,rfl⟩)
--
def eZ (r:Rct) (L:List Rl):Int:=if aO r=false then 3 else (eP 64 L).2
theorem JO (r:Rct) (L:List Rl) (lv:Value) (w:World) (hl:Reads w lv L.length (L.flatMap bM)):aA Tryz.prog 140 [.agg (bL r).toArray,lv] w (.int .i64 (eZ r L)):=by
 refine aq Tryz.func140 rfl Tryz.ntmps140 rfl ?_
 have h1:=fun w=>kO r w
 have h2:=fun (w' :World) (H:List Blk) (hm:Mem w w' H)=>lc 64 L lv w' (hl.of_w0 hm)
 unfold eZ
 repeat' (first|(apply aa;exact rfl;exact rfl;(intro w hm;exact h1 w))|(apply aa (f:=60);exact rfl;exact rfl;(intro w' hm;exact h2 w' _ hm))|refine sT ?_|refine sM fun _=> ?_|(refine sC ?_ ?_<;>intro hb<;>try omega)|fail)
 all_goals first
  |(exfalso;omega)
  |((refine rT1 ?_);rw [if_pos (oY hb)];done)
  |((refine rT1 ?_);rw [if_neg (ko hb)];done)
def ovE (r:Rct) (L:List Rl):(BitVec 64 × BitVec 64 × BitVec 64) × Int:=
 if eZ r L≠0 then ((0#64,0#64,0#64),eZ r L) else ((yd (fun x=>x.read) r L,yd (fun x=>x.write) r L,yd (fun x=>x.own) r L),0)
theorem zn {r:Rct} {L:List Rl} (h: ¬ eZ r L≠0):aO r=true∧L≠ []∧L.length≤64:=by
 unfold eZ at h
 split at h
 ·
  exact absurd (by decide) h
 ·
  rename_i hr
  refine ⟨by simpa using hr,?_⟩
  unfold eP at h
  split at h
  ·
   exact absurd (by decide) h
  ·
   rename_i h1
   have hn:L≠ []:=fun e=>h1 (.inr (.inr (.inr e)))
   split at h
   ·
    exact absurd (by decide) h
   ·
    exact ⟨hn,by omega⟩
def byN (f:Rl→BitVec 64) (L:List Rl) (p:Pz):BitVec 64:=(L[p.a]?.map f).getD 0#64
theorem Av (f:Rl→BitVec 64) (r:Rct) (L:List Rl):yd f r L=jU ((dY r L []).map (byN f L)):=rfl
set_option maxHeartbeats 16000000 in
theorem Oy (r:Rct) (L:List Rl) (lv:Value) (w:World) (hl:Reads w lv L.length (L.flatMap bM)):
  aA Tryz.prog 102 [.agg (bL r).toArray,lv] w (.tuple #[.agg #[vS (ovE r L).1.1,vS (ovE r L).1.2.1,vS (ovE r L).1.2.2],.int .i64 (ovE r L).2]):=by
 refine aq Tryz.func102 rfl Tryz.ntmps102 rfl ?_
 have hck:=fun (w' :World) (H:List Blk) (hm:Mem w w' H)=>JO r L lv w' (hl.of_w0 hm)
 unfold ovE
 by_cases hc:eZ r L≠0
 ·
  rw [if_pos hc]
  repeat' (first|(apply aa (f:=140);exact rfl;exact rfl;(intro w' hm;exact hck w' _ hm))|refine sT ?_|refine sT2 ?_|refine sM fun _=> ?_|(refine sC ?_ ?_<;>intro hb<;>try omega)|fail)
  all_goals first
   |(exfalso;omega)
   |((refine jb ?_);rfl)
 rw [if_neg hc]
 obtain ⟨hr,hne,hlen⟩:=zn hc
 have hP:=fun (w' :World) (H:List Blk) (hm:Mem w w' H)=>Lh r hr L [] lv (.slice none 0 0) w' (hl.of_w0 hm) (I1 w') (by omega) (by simp)
 have hpa: ∀ p∈dY r L [],p.a<L.length:=fun p hp=>by
  have h1:p.a∈(dY r L []).map (·.a):=RG.2 ⟨p,hp,rfl⟩
  obtain ⟨y,x,_,h2⟩:=Ar.1 h1
  rw [h2]
  exact Io hne
 have hpl:(dY r L []).length≤1000000:=by
  have h1:=mA (A:=L) (B:= []) (xs:=cJ r.c1 r.c2 (aZ r L++aZ r [])) (cJ r.r1 r.r2 (aX r L++aX r []))
  have h2:=jd r.c1 r.c2 (aZ r L++aZ r [])
  have h3:=jd r.r1 r.r2 (aX r L++aX r [])
  have h4:=eY r L
  have h5:=eY r []
  have h6:=eU r L
  have h7:=eU r []
  rw [QT] at h2 h3
  rw [SP] at h5 h7
  exact RB h1 (RB (Nat.mul_le_mul (show _≤801 by omega) (show _≤801 by omega)) (by decide))
 rw [Av,Av,Av]
 have hc0:eZ r L=0:=by omega
 rw [hc0] at hck
 generalize dY r L []=PZ at hP hpa hpl ⊢
 refine aB 33 1 ?_
 refine aB 33 1 ?_
 refine aB 33 1 ?_
 repeat' (first|(apply aa (f:=140);exact rfl;exact rfl;(intro w' hm;exact hck w' _ hm))|(apply ay (f:=141);exact rfl;exact rfl;(intro w' hm;exact hP w' _ hm);rintro _ _ ⟨Ap,cp,rfl,rfl⟩)|refine sT ?_|refine sS ?_|refine sT2 ?_|refine sM fun _=> ?_|(refine sC ?_ ?_<;>intro hb<;>try omega)|fail)
 all_goals try (exfalso;omega)
 rename_i g2 g4
 refine aw [1,4,22,23] rfl (fun y:Nat × (Option Nat × Nat) × (Option Nat × Nat) × (Option Nat × Nat)=> [(7,sl y.2.1.1 y.1 y.2.1.2),(8,sl y.2.2.1.1 y.1 y.2.2.1.2),(9,sl y.2.2.2.1 y.1 y.2.2.2.2),(24,.int .i64 (y.1:Int))]) (fun y=> .own y.2.1.1 33 1 y.1 y.2.1.2 (((PZ.take y.1).map (byN (fun x=>x.read) L)).map vS):: .own y.2.2.1.1 33 1 y.1 y.2.2.1.2 (((PZ.take y.1).map (byN (fun x=>x.write) L)).map vS):: .own y.2.2.2.1 33 1 y.1 y.2.2.2.2 (((PZ.take y.1).map (byN (fun x=>x.own) L)).map vS):: .own Ap 191 6 PZ.length cp (PZ.flatMap dA):: .box g4 35 [vS 0#64,vS 0#64,vS 0#64]:: []) (fun y=>y.1≤PZ.length) (fun y=>PZ.length - y.1) (0,(none,0),(none,0),(none,0)) (Rd _) sB mS ?_
 rintro ⟨i,⟨A7,c7⟩,⟨A8,c8⟩,⟨A9,c9⟩⟩ hi
 dsimp only at hi ⊢
 by_cases hlt:i<PZ.length
 ·
  refine dN (A:=Ap) pK (by omega) fun gp hAp=> ?_
  subst hAp
  have hrd:((PZ.flatMap dA).drop (0+i*6)).take 6=dA PZ[i]:=by rw [Rt];exact dD dh PZ i hlt
  have hpi:=hpa _ (RN hlt)
  have hsr: ∀ f:Rl→BitVec 64,((PZ.take (i+1)).map (byN f L)).map vS=((PZ.take i).map (byN f L)).map vS++ [vS (f (L[PZ[i].a]'hpi))]:=fun f=>by
   rw [Ra hlt,RM,RM]
   simp [byN,hpi]
  generalize PZ[i]=p at hrd hpi hsr
  have hl' :=hl
  obtain ⟨Al,cl,hlv,hl1,hl2,hl3⟩:=hl'
  subst hlv
  obtain ⟨gl,ol,rfl,hrl⟩:=hl3 (by omega)
  obtain ⟨_,_,_,_,hrr⟩:=Rl.ro (hrl.elem bV p.a hpi)
  generalize L[p.a]'hpi=x at hrr hsr
  repeat' (first|(apply ak (d:=26);exact rfl;apply aj (j:=i);exact rfl;exact rfl;exact hlt)|(apply ak (d:=27);exact rfl;apply aW (ys:=dA p);exact rfl;exact pK;exact hrd;exact rfl)|(apply ak (d:=32);exact rfl;apply aj (j:=p.a);exact rfl;exact rfl;exact hpi)|refine sT ?_|refine sS ?_|refine sT2 ?_|refine sN ?_|refine sO ?_|refine sM fun _=> ?_|(refine sC ?_ ?_<;>intro hb<;>try omega)|fail)
  all_goals try (exfalso;omega)
  rename_i g11 g12
  refine oP (id:=9) [3,4,8,9,13,14] [.box g12 35 [vS x.read,vS x.write,vS x.own]] 18 rfl rfl mS ?_
  repeat' (first|(apply fB (i:=0);(iterate 4 exact rfl);decide+kernel;decide+kernel;decide+kernel;(exact vC))|(apply fB (i:=1);(iterate 4 exact rfl);decide+kernel;decide+kernel;decide+kernel;(exact vC))|(apply fB (i:=2);(iterate 4 exact rfl);decide+kernel;decide+kernel;decide+kernel;(exact vC))|(apply fB (i:=5);(iterate 4 exact rfl);decide+kernel;decide+kernel;decide+kernel;(exact vC))|(apply fB (i:=6);(iterate 4 exact rfl);decide+kernel;decide+kernel;decide+kernel;(exact vC))|(apply fB (i:=7);(iterate 4 exact rfl);decide+kernel;decide+kernel;decide+kernel;(exact vC))|(apply fB (i:=10);(iterate 4 exact rfl);decide+kernel;decide+kernel;decide+kernel;(exact vC))|(apply fB (i:=11);(iterate 4 exact rfl);decide+kernel;decide+kernel;decide+kernel;(exact vC))|(apply fB (i:=12);(iterate 4 exact rfl);decide+kernel;decide+kernel;decide+kernel;(exact vC))|(apply fB (i:=15);(iterate 4 exact rfl);decide+kernel;decide+kernel;decide+kernel;(apply lH;exact rfl))|(apply fB (i:=16);(iterate 4 exact rfl);decide+kernel;decide+kernel;decide+kernel;(apply lH;exact rfl))|(apply fB (i:=17);(iterate 4 exact rfl);decide+kernel;decide+kernel;decide+kernel;(apply lH;exact rfl))|(apply BD (i:=3) (j:=8) (k:=13);(iterate 9 exact rfl);decide+kernel)|(apply BD (i:=4) (j:=8) (k:=13);(iterate 9 exact rfl);decide+kernel)|(apply dX (i:=3) (j:=13);(iterate 6 exact rfl);decide+kernel)|(apply dX (i:=3) (j:=8);(iterate 6 exact rfl);decide+kernel)|(apply dX (i:=8) (j:=13);(iterate 6 exact rfl);decide+kernel)|(apply dX (i:=4) (j:=13);(iterate 6 exact rfl);decide+kernel)|(apply dX (i:=4) (j:=8);(iterate 6 exact rfl);decide+kernel)|(apply dX (i:=9) (j:=13);(iterate 6 exact rfl);decide+kernel)|(apply cj (i:=3);(iterate 3 exact rfl);decide+kernel)|(apply cj (i:=4);(iterate 3 exact rfl);decide+kernel)|(apply cj (i:=8);(iterate 3 exact rfl);decide+kernel)|(apply cj (i:=9);(iterate 3 exact rfl);decide+kernel)|(apply cj (i:=13);(iterate 3 exact rfl);decide+kernel)|(apply cj (i:=14);(iterate 3 exact rfl);decide+kernel)|(apply aQ (d:=39) (A:=A7) (m:=1);(iterate 3 exact rfl);exact pK;(intro w hm;exact hm.cells_own pK);exact rfl;(simp [Value.oneCell',sl]);omega;(simp only [maxLen];omega);(intro B7 b7 hB7))|(apply aQ (d:=44) (A:=A8) (m:=1);(iterate 3 exact rfl);exact pK;(intro w hm;exact hm.cells_own pK);exact rfl;(simp [Value.oneCell',sl]);omega;(simp only [maxLen];omega);(intro B8 b8 hB8))|(apply aQ (d:=49) (A:=A9) (m:=1);(iterate 3 exact rfl);exact pK;(intro w hm;exact hm.cells_own pK);exact rfl;(simp [Value.oneCell',sl]);omega;(simp only [maxLen];omega);(intro B9 b9 hB9))|(apply oM;decide+kernel)|(apply Gf;(focus (exact mS;done)))|refine sT ?_|refine sS ?_|refine sT2 ?_|refine sN ?_|refine sM fun _=> ?_|(refine sC ?_ ?_<;>intro hb<;>try omega)|fail)
  all_goals first
   |(exfalso;omega)
   |(refine ⟨(i+1,(B7,b7),(B8,b8),(B9,b9)),hlt,by dsimp only;omega,by exact sB,by exact sB,?_⟩;dsimp only;rw [hsr,hsr,hsr];exact mS)
 ·
  have e:i=PZ.length:=by omega
  subst e
  rw [RJ]
  have hM:=fun (f:Rl→BitVec 64) (w' :World) (lv:Value) (h:Reads w' lv PZ.length ((PZ.map (byN f L)).map vS))=>J0 (PZ.map (byN f L)) lv w' (by rw [RP];exact h)
  repeat' (first|(apply aa (d:=52);exact rfl;exact rfl;(intro w' hm;exact hM (fun x=>x.read) w' _ (Reads.of_own (A:=A7) hm pK)))|(apply aa (d:=54);exact rfl;exact rfl;(intro w' hm;exact hM (fun x=>x.write) w' _ (Reads.of_own (A:=A8) hm pK)))|(apply aa (d:=56);exact rfl;exact rfl;(intro w' hm;exact hM (fun x=>x.own) w' _ (Reads.of_own (A:=A9) hm pK)))|refine sT ?_|refine sS ?_|refine sT2 ?_|refine sM fun _=> ?_|(refine sC ?_ ?_<;>intro hb<;>try omega)|fail)
  all_goals first
   |(exfalso;omega)
   |((refine jb ?_);rfl)
end Go.SL
namespace Go.SL
open Go
def Bb (lo hi:Int) (ps:List (Int × Int)):List (Int × Int):=dZ ((gI (uV (dz lo ps))).filter fun x=>decide (lo≤x) && decide (x≤hi)) hi
theorem JR:cJ=Bb:=by funext lo hi ps;unfold cJ Bb xu;rw [KL]
def FE (r:Rct) (A B:List Rl):List Pz:=(Bb r.r1 r.r2 (aX r A++aX r B)).flatMap fun y=>kg A B y (Bb r.c1 r.c2 (aZ r A++aZ r B))
theorem I8:dY=FE:=by funext r A B;unfold dY FE;rw [JR]
def CW (f:Rl→BitVec 64) (r:Rct) (L:List Rl):BitVec 64:=jU ((FE r L []).map fun p=>(L[p.a]?.map f).getD 0#64)
theorem Lm:yd=CW:=by funext f r L;unfold yd CW;rw [I8]
def ovC (r:Rct) (L:List Rl):(BitVec 64 × BitVec 64 × BitVec 64) × Int:=
 if eZ r L≠0 then ((0#64,0#64,0#64),eZ r L) else ((CW (fun x=>x.read) r L,CW (fun x=>x.write) r L,CW (fun x=>x.own) r L),0)
theorem Py:ovE=ovC:=by funext r L;unfold ovE ovC;rw [Lm]
def Nz (fn:Int) (r:Rct) (L:List Rl) (g:Gn):Bool:=decide (g.rect=r) && (iz g.fns fn && (!g.rev && jz (ovC g.rect L).1.2.2 g.by_))
def bkR:List Rl:= [⟨⟨1,1,1024,1024⟩,7#64,7#64,1#64⟩,⟨⟨2,1,2,3⟩,1#64,1#64,1#64⟩]
def bkN:List Gn:= [⟨⟨2,1,2,3⟩,1,2#64,0,false⟩]
set_option maxRecDepth 100000
end Go.SL
namespace Go.SL
open Go Go.Proofs
attribute [local irreducible] W WL WQ WG WA WX WLI WR WT WC WE VOp RW thn blk bp scp aR ba bE aF FnIn FnP ceP pY jT mB
def ze:List Et:= [⟨⟨1,1⟩,⟨#[53]⟩⟩,⟨⟨2,1⟩,⟨#[49,48]⟩⟩,⟨⟨1,2⟩,inB⟩,⟨⟨2,2⟩,⟨#[50,48]⟩⟩,⟨⟨1,3⟩,inC⟩,⟨⟨1,4⟩,inD⟩]
theorem LY:uI ze=(some exG,0):=by decide+kernel
theorem vV (w:World):aA Tryz.prog 84 [] w (.agg (bL ⟨1,1,1024,1024⟩).toArray):=by
 refine aq Tryz.func84 rfl Tryz.ntmps84 rfl ?_
 repeat' (first|refine sT ?_|refine sM fun _=> ?_|(refine sC ?_ ?_<;>intro hb<;>try omega)|fail)
 (refine eRC ?_)
 rfl
set_option maxHeartbeats 4000000 in
theorem J4 (w:World):aF Tryz.prog 116 [] w fun v H=> ∃ ge gr gn,v= .tuple #[.slice (some ⟨ge,0,none⟩) 6 6,.slice (some ⟨gr,0,none⟩) 2 2,.slice (some ⟨gn,0,none⟩) 1 1]∧H= [.own (some ge) 52 3 6 6 (ze.flatMap cF),.own (some gr) 54 7 2 2 (bkR.flatMap bM),.own (some gn) 56 8 1 1 (bkN.flatMap bX)]:=by
 refine aq Tryz.func116 rfl Tryz.ntmps116 rfl ?_
 repeat' (first|(apply eE (id:=3) [0,6] [];kernel_rfl;kernel_rfl;kernel_rfl)|(apply eE (id:=4) [4] [];kernel_rfl;kernel_rfl;kernel_rfl)|(apply aa (f:=84);exact rfl;exact rfl;(intro w' _;exact vV w'))|refine sT ?_|refine sS ?_|refine sW ?_|refine sM fun _=> ?_|(refine sC ?_ ?_<;>intro hb<;>try omega)|(refine sCW ?_ ?_<;>intro hb<;>try omega)|fail)
 rename_i ge gr gn
 exact li eIO rfl rfl rfl rfl (H' := [.own (some ge) 52 3 6 6 (ze.flatMap cF),.own (some gr) 54 7 2 2 (bkR.flatMap bM),.own (some gn) 56 8 1 1 (bkN.flatMap bX)]) mS ⟨ge,gr,gn,rfl,rfl⟩
theorem xo (L:List Gn): ∀ u∈L.flatMap bX,u.oneCell' =true:=fun u hu=>by
 obtain ⟨a,_,h⟩:=Se.1 hu
 simp only [bX,Rs,SK,or_false] at h
 rcases h with rfl|rfl|rfl|rfl|rfl|rfl|rfl|rfl<;>rfl
theorem yj (L:List Gn) (tv:Value) (w:World) (ht:Reads w tv L.length (L.flatMap bX)) (hlen:L.length≤1000000):
  aF Tryz.prog 37 [tv] w fun v H=> ∃ A cap,v=sl A L.length cap∧H= [.own A 56 8 L.length cap (L.flatMap bX)]:=by
 refine aq Tryz.func37 rfl Tryz.ntmps37 rfl ?_
 have hl:(L.flatMap bX).length=L.length*8:=aM eO L
 refine aB 56 8 ?_
 repeat' (first|(apply bS (n' :=0) (c:=0) (A:=none) (m:=L.length);(iterate 3 exact rfl);exact pK;(intro w hm;exact ht.of_w0 hm);exact hl;exact xo L;omega;(simp only [maxLen];omega);intro A' cap' hA)|refine sT ?_|refine sM fun _=> ?_|(refine sC ?_ ?_<;>intro hb<;>try omega)|fail)
 exact cA (.inl rfl) Tryz.results37 rfl (H' := [.own A' 56 8 (0+L.length) cap' ([]++L.flatMap bX)]) mS ⟨A',cap',by rw [Rt],by rw [Rt];rfl⟩
end Go.SL
namespace Go.SL
open Go Go.Proofs
attribute [local irreducible] W WL WQ WG WA WX WLI WR WT WC WE VOp RW thn blk bp scp aR ba bE aF FnIn FnP ceP pY jT mB
def rE (g:Gn) (L:List Rl):Bool:= !g.rev && jz (ovE g.rect L).1.2.2 g.by_
theorem NJ (g:Gn) (L:List Rl) (lv:Value) (w:World) (hl:Reads w lv L.length (L.flatMap bM)):aA Tryz.prog 206 [.agg (bX g).toArray,lv] w (.bool (rE g L)):=by
 refine aq Tryz.func206 rfl Tryz.ntmps206 rfl ?_
 have h1:=fun (w' :World) (H:List Blk) (hm:Mem w w' H)=>Oy g.rect L lv w' (hl.of_w0 hm)
 have h2:=fun w=>sn (ovE g.rect L).1.2.2 g.by_ w
 unfold rE
 generalize (ovE g.rect L).2=e at h1
 generalize (ovE g.rect L).1.1=s1 at h1
 generalize (ovE g.rect L).1.2.1=s2 at h1
 generalize (ovE g.rect L).1.2.2=s3 at h1 h2 ⊢
 generalize jz s3 g.by_=b at h2
 repeat' (first|(apply aa (f:=102);exact rfl;exact rfl;(intro w' hm;exact h1 w' _ hm))|(apply aa;exact rfl;exact rfl;(intro w hm;exact h2 w))|refine sT ?_|refine sM fun _=> ?_|(refine sC ?_ ?_<;>intro hb<;>try omega)|fail)
 all_goals first
  |(exfalso;omega)
  |((refine rT1 ?_);rw [hb];rfl)
def nI (fn:Int) (r:Rct) (L:List Rl) (g:Gn):Bool:=decide (g.rect=r) && (iz g.fns fn && rE g L)
def bH (fn:Int) (r:Rct) (L:List Rl):List Gn→Nat→List (Nat × Gn)
 | [],_=> []
 |g::G,i=>bif nI fn r L g then (i,g)::bH fn r L G (i+1) else bH fn r L G (i+1)
def OO (x:Nat × Gn):List Value:= [.int .i64 (x.1:Int),.agg (bX x.2).toArray]
theorem kK (fn:Int) (r:Rct) (L:List Rl): ∀ (G:List Gn) (i:Nat),(bH fn r L G i).length≤G.length
 | [],_=>Re _
 |g::G,i=>by
  have:=kK fn r L G (i+1)
  rw [bH]
  cases nI fn r L g<;>simp<;>omega
set_option maxHeartbeats 8000000 in
theorem Nx (fn:Int) (r:Rct) (L:List Rl) (G:List Gn) (gv lv:Value) (w0:World) (hg:Reads w0 gv G.length (G.flatMap bX)) (hl:Reads w0 lv L.length (L.flatMap bM)) (hn:G.length≤1000000) (gg gr gf gl:Nat):
  Ov Tryz.prog 204 [.pointer (some ⟨gg,0,none⟩),.pointer (some ⟨gr,0,none⟩),.pointer (some ⟨gf,0,none⟩),.pointer (some ⟨gl,0,none⟩)] w0
   [.box gg 24 [gv],.box gr 32 (bL r),.box gf 5 [.int .u8 fn],.box gl 23 [lv]] (bH fn r L G 0) OO:=by
 obtain ⟨Ag,cg,rfl,hg1,hg2,hg3⟩:=hg
 intro l I J H0 hy h0
 refine FnIn.msub (H' := [.box gg 24 [.slice Ag G.length cg],.box gr 32 (bL r),.box gf 5 [.int .u8 fn],.box gl 23 [lv]]++H0) ?_ (MSub.appC H0 [] _)
 refine eQ Tryz.func204 rfl Tryz.ntmps204 rfl ?_
 repeat' (first|refine sT ?_|refine sS ?_|refine sM fun _=> ?_|(refine sC ?_ ?_<;>intro hb<;>try omega)|fail)
 refine aw [0,1,2,3,4,8,9] rfl (fun y:Nat × List (Nat × Gn) × List Blk=> [(10,.int .i64 (y.1:Int))]) (fun y=> [.box gg 24 [.slice Ag G.length cg],.box gr 32 (bL r),.box gf 5 [.int .u8 fn],.box gl 23 [lv]]++y.2.2) (fun y=>y.1≤G.length∧bH fn r L G 0=y.2.1++bH fn r L (G.drop y.1) y.1∧I y.2.1 y.2.2) (fun y=>G.length - y.1) (0,[],H0) ⟨Rd _,rfl,h0⟩ sB (by exact MSub.refl _) ?_
 rintro ⟨i,pre,H1⟩ ⟨hi,hus,hI⟩
 dsimp only at hi hus hI ⊢
 simp only [QU,QW]
 by_cases hlt:i<G.length
 ·
  obtain ⟨ga,oa,rfl,hrl⟩:=hg3 (by omega)
  have he:=hrl.elem eO i hlt
  rw [Rc hlt,bH] at hus
  generalize G[i]=g at hus he
  have hN:=fun w=>MC g.fns fn w
  have hL:=fun (w' :World) (H:List Blk) (hm:Mem w0 w' H)=>NJ g L lv w' (hl.of_w0 hm)
  unfold nI at hus
  obtain ⟨c1,hc1⟩: ∃ c,decide (g.rect=r)=c:=⟨_,rfl⟩
  rw [hc1] at hus
  generalize iz g.fns fn=c2 at hN hus
  generalize rE g L=c3 at hL hus
  repeat' (first|(apply lF (id:=3))|(apply Kb (d:=18);exact rfl;exact rfl;apply oT hc1;exact rfl;exact rfl)|(apply vg;exact rfl;exact rfl)|(apply zB;(iterate 4 exact rfl))|(apply EA<;>first|exact rfl|(intro hb;replace hb:=Tidy.out hb;try (exfalso;omega)))|(apply yo (f:=205);(iterate 3 exact rfl);(intro w' hm;exact hN w'))|(apply yo (f:=206);(iterate 3 exact rfl);(intro w' hm;exact hL w' _ hm))|refine sT ?_|refine sS ?_|refine sI ?_|refine sN ?_|refine sO ?_|refine sM fun _=> ?_|(refine sC ?_ ?_<;>intro hb<;>try omega)|fail)
  ·
   have hus2:bH fn r L G 0=pre++(i,g)::bH fn r L (G.drop (i+1)) (i+1):=by rw [hus];simp [*]
   rename_i g7 _ _
   (with_reducible apply jZ)
   ·
    exact rfl
   ·
    exact rfl
   ·
    exact rfl
   ·
    exact MSub.appC [.box g7 56 (bX g)] [.box gg 24 [.slice (some ⟨ga,oa,none⟩) G.length cg],.box gr 32 (bL r),.box gf 5 [.int .u8 fn],.box gl 23 [lv]] H1
   ·
    exact fun w hm=>hy pre (i,g) _ hus2 H1 _ hI w hm
   intro bb H3 hq
   cases bb
   ·
    repeat' (first|(apply vg;exact rfl;exact rfl)|(apply zB;(iterate 4 exact rfl))|refine sT ?_|refine sS ?_|refine sI ?_|refine sM fun _=> ?_|(refine sC ?_ ?_<;>intro hb<;>try omega)|fail)
    exact gC eIO rfl (MSub.appE [.box g7 56 (bX g)] [.box gg 24 [.slice (some ⟨ga,oa,none⟩) G.length cg],.box gr 32 (bL r),.box gf 5 [.int .u8 fn],.box gl 23 [lv]] H3) ⟨H3,.inr ⟨_,hq⟩,MSub.refl _⟩
   ·
    repeat' (first|(apply vg;exact rfl;exact rfl)|(apply zB;(iterate 4 exact rfl))|refine sT ?_|refine sS ?_|refine sI ?_|refine sN ?_|refine sM fun _=> ?_|(refine sC ?_ ?_<;>intro hb<;>try omega)|fail)
    refine ⟨(i+1,_,H3),⟨hlt,hus2.trans (by rw [List.append_assoc];rfl),hq⟩,(by dsimp only;omega),sB,sB,?_⟩
    dsimp only
    exact MSub.trans (MSub.drop .hd (MSub.refl _)) (MSub.appD [.box g7 56 (bX g)] [.box gg 24 [.slice (some ⟨ga,oa,none⟩) G.length cg],.box gr 32 (bL r),.box gf 5 [.int .u8 fn],.box gl 23 [lv]] H3)
  all_goals
   refine ⟨(i+1,pre,H1),⟨hlt,by rw [hus];simp [*],hI⟩,(by dsimp only;omega),sB,sB,?_⟩
   exact MSub.drop .hd (MSub.refl _)
 ·
  have e:i=G.length:=by omega
  subst e
  rw [RK,bH,QZ] at hus
  repeat' (first|refine sT ?_|refine sS ?_|refine sM fun _=> ?_|(refine sC ?_ ?_<;>intro hb<;>try omega)|fail)
  exact gC eIO rfl (.refl _) ⟨H1,.inl (hus ▸ hI),MSub.appS [.box gg 24 [.slice Ag G.length cg],.box gr 32 (bL r),.box gf 5 [.int .u8 fn],.box gl 23 [lv]] H1⟩
end Go.SL
namespace Go.SL
open Go Go.Proofs
attribute [local irreducible] W WL WQ WG WA WX WLI WR WT WC WE VOp RW thn blk bp scp aR ba bE aF FnIn FnP ceP
theorem GF (L:List Et) (tv:Value) (w:World) (ht:Reads w tv L.length (L.flatMap cF)) (hlen:L.length≤1000000):
  aF Tryz.prog 74 [tv] w fun v H=> ∃ A cap,v=sl A L.length cap∧H= [.own A 52 3 L.length cap (L.flatMap cF)]:=by
 have ht' :=ht
 obtain ⟨At,ct,rfl,ht1,ht2,ht3⟩:=ht
 refine aq Tryz.func74 rfl Tryz.ntmps74 rfl ?_
 have hl:(L.flatMap cF).length=L.length*3:=aM di L
 refine aB 52 3 ?_
 repeat' (first|(apply ak;exact rfl;apply lG;exact rfl)|(apply cZ;exact rfl;intro gb)|(apply bS (n' :=0) (c:=0) (A:=some _) (m:=L.length);(iterate 3 exact rfl);exact pK;(intro w hm;exact ht'.of_w0 hm);exact hl;exact xq L;omega;(simp only [maxLen];omega);intro A' cap' hA)|refine sT ?_|refine sM fun _=> ?_|(refine sC ?_ ?_<;>intro hb<;>try omega)|fail)
 ·
  have e:L.length=0:=by
   rcases Sx L.length with h|h
   ·
    exact h
   ·
    obtain ⟨g,o,rfl,_⟩:=ht3 h
    cases hb
  have e' :L= []:=Sf e
  subst e'
  exact cA (.inl rfl) Tryz.results74 rfl (.refl _) ⟨none,0,rfl,rfl⟩
 ·
  exact cA (.inl rfl) Tryz.results74 rfl (H' := [.own A' 52 3 (0+L.length) cap' ([]++L.flatMap cF)]) mS ⟨A',cap',by rw [Rt],by rw [Rt];rfl⟩
theorem Gz (L:List Rl) (tv:Value) (w:World) (ht:Reads w tv L.length (L.flatMap bM)) (hlen:L.length≤1000000):
  aF Tryz.prog 75 [tv] w fun v H=> ∃ A cap,v=sl A L.length cap∧H= [.own A 54 7 L.length cap (L.flatMap bM)]:=by
 have ht' :=ht
 obtain ⟨At,ct,rfl,ht1,ht2,ht3⟩:=ht
 refine aq Tryz.func75 rfl Tryz.ntmps75 rfl ?_
 have hl:(L.flatMap bM).length=L.length*7:=aM bV L
 refine aB 54 7 ?_
 repeat' (first|(apply ak;exact rfl;apply lG;exact rfl)|(apply cZ;exact rfl;intro gb)|(apply bS (n' :=0) (c:=0) (A:=some _) (m:=L.length);(iterate 3 exact rfl);exact pK;(intro w hm;exact ht'.of_w0 hm);exact hl;exact xm L;omega;(simp only [maxLen];omega);intro A' cap' hA)|refine sT ?_|refine sM fun _=> ?_|(refine sC ?_ ?_<;>intro hb<;>try omega)|fail)
 ·
  have e:L.length=0:=by
   rcases Sx L.length with h|h
   ·
    exact h
   ·
    obtain ⟨g,o,rfl,_⟩:=ht3 h
    cases hb
  have e' :L= []:=Sf e
  subst e'
  exact cA (.inl rfl) Tryz.results75 rfl (.refl _) ⟨none,0,rfl,rfl⟩
 ·
  exact cA (.inl rfl) Tryz.results75 rfl (H' := [.own A' 54 7 (0+L.length) cap' ([]++L.flatMap bM)]) mS ⟨A',cap',by rw [Rt],by rw [Rt];rfl⟩
theorem GA (L:List Gn) (tv:Value) (w:World) (ht:Reads w tv L.length (L.flatMap bX)) (hlen:L.length≤1000000):
  aF Tryz.prog 76 [tv] w fun v H=> ∃ A cap,v=sl A L.length cap∧H= [.own A 56 8 L.length cap (L.flatMap bX)]:=by
 have ht' :=ht
 obtain ⟨At,ct,rfl,ht1,ht2,ht3⟩:=ht
 refine aq Tryz.func76 rfl Tryz.ntmps76 rfl ?_
 have hl:(L.flatMap bX).length=L.length*8:=aM eO L
 refine aB 56 8 ?_
 repeat' (first|(apply ak;exact rfl;apply lG;exact rfl)|(apply cZ;exact rfl;intro gb)|(apply bS (n' :=0) (c:=0) (A:=some _) (m:=L.length);(iterate 3 exact rfl);exact pK;(intro w hm;exact ht'.of_w0 hm);exact hl;exact xo L;omega;(simp only [maxLen];omega);intro A' cap' hA)|refine sT ?_|refine sM fun _=> ?_|(refine sC ?_ ?_<;>intro hb<;>try omega)|fail)
 ·
  have e:L.length=0:=by
   rcases Sx L.length with h|h
   ·
    exact h
   ·
    obtain ⟨g,o,rfl,_⟩:=ht3 h
    cases hb
  have e' :L= []:=Sf e
  subst e'
  exact cA (.inl rfl) Tryz.results76 rfl (.refl _) ⟨none,0,rfl,rfl⟩
 ·
  exact cA (.inl rfl) Tryz.results76 rfl (H' := [.own A' 56 8 (0+L.length) cap' ([]++L.flatMap bX)]) mS ⟨A',cap',by rw [Rt],by rw [Rt];rfl⟩
theorem GD (L:List Ev) (tv:Value) (w:World) (ht:Reads w tv L.length (L.flatMap dK)) (hlen:L.length≤1000000):
  aF Tryz.prog 77 [tv] w fun v H=> ∃ A cap,v=sl A L.length cap∧H= [.own A 58 9 L.length cap (L.flatMap dK)]:=by
 have ht' :=ht
 obtain ⟨At,ct,rfl,ht1,ht2,ht3⟩:=ht
 refine aq Tryz.func77 rfl Tryz.ntmps77 rfl ?_
 have hl:(L.flatMap dK).length=L.length*9:=aM fS L
 refine aB 58 9 ?_
 repeat' (first|(apply ak;exact rfl;apply lG;exact rfl)|(apply cZ;exact rfl;intro gb)|(apply bS (n' :=0) (c:=0) (A:=some _) (m:=L.length);(iterate 3 exact rfl);exact pK;(intro w hm;exact ht'.of_w0 hm);exact hl;exact xp L;omega;(simp only [maxLen];omega);intro A' cap' hA)|refine sT ?_|refine sM fun _=> ?_|(refine sC ?_ ?_<;>intro hb<;>try omega)|fail)
 ·
  have e:L.length=0:=by
   rcases Sx L.length with h|h
   ·
    exact h
   ·
    obtain ⟨g,o,rfl,_⟩:=ht3 h
    cases hb
  have e' :L= []:=Sf e
  subst e'
  exact cA (.inl rfl) Tryz.results77 rfl (.refl _) ⟨none,0,rfl,rfl⟩
 ·
  exact cA (.inl rfl) Tryz.results77 rfl (H' := [.own A' 58 9 (0+L.length) cap' ([]++L.flatMap dK)]) mS ⟨A',cap',by rw [Rt],by rw [Rt];rfl⟩
theorem Gy (L:List Rv) (tv:Value) (w:World) (ht:Reads w tv L.length (L.flatMap aJ)) (hlen:L.length≤1000000):
  aF Tryz.prog 78 [tv] w fun v H=> ∃ A cap,v=sl A L.length cap∧H= [.own A 62 11 L.length cap (L.flatMap aJ)]:=by
 have ht' :=ht
 obtain ⟨At,ct,rfl,ht1,ht2,ht3⟩:=ht
 refine aq Tryz.func78 rfl Tryz.ntmps78 rfl ?_
 have hl:(L.flatMap aJ).length=L.length*11:=aM cQ L
 refine aB 62 11 ?_
 repeat' (first|(apply ak;exact rfl;apply lG;exact rfl)|(apply cZ;exact rfl;intro gb)|(apply bS (n' :=0) (c:=0) (A:=some _) (m:=L.length);(iterate 3 exact rfl);exact pK;(intro w hm;exact ht'.of_w0 hm);exact hl;exact mP L;omega;(simp only [maxLen];omega);intro A' cap' hA)|refine sT ?_|refine sM fun _=> ?_|(refine sC ?_ ?_<;>intro hb<;>try omega)|fail)
 ·
  have e:L.length=0:=by
   rcases Sx L.length with h|h
   ·
    exact h
   ·
    obtain ⟨g,o,rfl,_⟩:=ht3 h
    cases hb
  have e' :L= []:=Sf e
  subst e'
  exact cA (.inl rfl) Tryz.results78 rfl (.refl _) ⟨none,0,rfl,rfl⟩
 ·
  exact cA (.inl rfl) Tryz.results78 rfl (H' := [.own A' 62 11 (0+L.length) cap' ([]++L.flatMap aJ)]) mS ⟨A',cap',by rw [Rt],by rw [Rt];rfl⟩
end Go.SL
namespace Go.SL
open Go Go.Proofs
attribute [local irreducible] W WL WQ WG WA WX WLI WR WT WC WE VOp RW thn blk bp scp aR ba bE aF FnIn FnP ceP pY jT mB
def orS (l:List (BitVec 64)):BitVec 64:=l.foldl (· ||| ·) 0#64
theorem CX {l:List (BitVec 64)} {x:BitVec 64}:orS (l++ [x])=orS l|||x:=by unfold orS;rw [Tu];rfl
def iE (fn:Int) (r:Rct) (L:List Rl) (G:List Gn):BitVec 64 × List Nat × Int:=
 if fn<46∨50<fn then (0#64,[],2) else if gV r≠0 then (0#64,[],3) else if (eP 64 L).2≠0 then (0#64,[],(eP 64 L).2) else if (i9 64 G).2≠0 then (0#64,[],(i9 64 G).2)
 else (orS ((bH fn r L G 0).map fun x=>x.2.to),(bH fn r L G 0).map fun x=>x.1,0)
theorem zW (fn:Int) (r:Rct) (lv gv:Value) (w:World) {m1 m2:Nat} {x1 x2:List Value} (hl:Reads w lv m1 x1) (hg:Reads w gv m2 x2):aF Tryz.prog 158 [.int .u8 fn,.agg (bL r).toArray,lv,gv] w fun v H=> ∃ gg gr gf gl,v= .func (.func 204) #[] #[.pointer (some ⟨gg,0,none⟩),.pointer (some ⟨gr,0,none⟩),.pointer (some ⟨gf,0,none⟩),.pointer (some ⟨gl,0,none⟩)]∧H= [.box gg 24 [gv],.box gr 32 (bL r),.box gf 5 [.int .u8 fn],.box gl 23 [lv]]:=by
 obtain ⟨Al,cl,rfl,_⟩:=hl
 obtain ⟨Ag,cg,rfl,_⟩:=hg
 refine aq Tryz.func158 rfl Tryz.ntmps158 rfl ?_
 repeat' (first|refine sT ?_|refine sM fun _=> ?_|(refine sC ?_ ?_<;>intro hb<;>try omega)|fail)
 rename_i gf gr gl gg
 exact cA eIO rfl rfl (H' := [.box gg 24 [_],.box gr 32 (bL r),.box gf 5 [.int .u8 fn],.box gl 23 [_]]) mS ⟨gg,gr,gf,gl,rfl,rfl⟩
set_option maxHeartbeats 8000000 in
theorem P4 (fn:Int) (r:Rct) (L:List Rl) (G:List Gn) (lv gv:Value) (w:World) (hl:Reads w lv L.length (L.flatMap bM)) (hg:Reads w gv G.length (G.flatMap bX)) (hn:G.length≤1000000):
    aF Tryz.prog 126 [.int .u8 fn,.agg (bL r).toArray,lv,gv] w fun v H=> ∃ A cap,v= .tuple #[vS (iE fn r L G).1,sl A (iE fn r L G).2.1.length cap,.int .i64 (iE fn r L G).2.2]∧H= [.own A 3 1 (iE fn r L G).2.1.length cap (cU (iE fn r L G).2.1)]:=by
  refine oC Tryz.func126 rfl Tryz.ntmps126 (by rfl) ?_
  have h1:=fun w=>kO r w
  have h2:=fun (w' :World) (H:List Blk) (hm:Mem w w' H)=>lc 64 L lv w' (hl.of_w0 hm)
  have h3:=fun (w' :World) (H:List Blk) (hm:Mem w w' H)=>um 64 G gv w' (hg.of_w0 hm)
  have h4:=fun (w' :World) (H:List Blk) (hm:Mem w w' H)=>zW fn r lv gv w' (hl.of_w0 hm) (hg.of_w0 hm)
  have h5:=fun gg gr gf gl=>Nx fn r L G gv lv w hg hl hn gg gr gf gl
  have hrl:=kK fn r L G 0
  unfold iE
  generalize gV r=e1 at h1
  generalize (eP 64 L).2=e2 at h2
  generalize (i9 64 G).2=e3 at h3
  generalize bH fn r L G 0=us at h5 hrl
  refine qG ?_
  refine aB 3 1 ?_
  repeat' (first|(apply aa;exact rfl;exact rfl;(intro w hm;exact h1 w))|(apply aa (f:=60);exact rfl;exact rfl;(intro w' hm;exact h2 w' _ hm))|(apply aa (f:=61);exact rfl;exact rfl;(intro w' hm;exact h3 w' _ hm))|(apply ay (f:=158);exact rfl;exact rfl;(intro w' hm;exact h4 w' _ hm);rintro _ _ ⟨gg,gr,gf,gl,rfl,rfl⟩)|refine sT ?_|refine sS ?_|refine sR ?_|refine sM fun _=> ?_|(refine sC ?_ ?_<;>intro hb<;>try omega)|(refine sCR ?_ ?_<;>intro hb<;>try omega)|fail)
  all_goals first
    |(exfalso;omega)
    | (refine HR ?_
       exact K6 eIO rfl rfl pK rfl pK rfl (H' := [.own none 3 1 0 0 []]) mS ⟨none,0,by first|(rw [if_pos (by omega)];exact ⟨rfl,rfl⟩)|(rw [if_neg (by omega),if_pos hb];exact ⟨rfl,rfl⟩)|(rw [if_neg (by omega),if_neg (by omega),if_pos hb];exact ⟨rfl,rfl⟩)|(rw [if_neg (by omega),if_neg (by omega),if_neg (by omega),if_pos hb];exact ⟨rfl,rfl⟩)⟩)
    |skip
  rename_i g5 g8 g9 k1 k2 k3 k4
  rw [if_neg (by omega),if_neg (by omega),if_neg (by omega),if_neg (by omega)]
  refine u6 (ps:= [47,48]) (us:=us) (encs:=OO) (Hc:= [.box gg 24 [gv],.box gr 32 (bL r),.box gf 5 [.int .u8 fn],.box gl 23 [lv]]) (HU0:= [.box g8 33 [vS 0#64],.box g9 75 [.slice none 0 0],.own none 3 1 0 0 []]) rfl (fun _=>rfl) rfl (h5 gg gr gf gl)
    (fun pre HU=> ∃ A cap,HU= [.box g8 33 [vS (orS (pre.map fun x=>x.2.to))],.box g9 75 [sl A pre.length cap],.own A 3 1 pre.length cap (cU (pre.map fun x=>x.1))]) (fun _=>False) ?_ ⟨none,0,rfl⟩ ?_ ?_ ?_
  · exact mS
  · rintro l pre ⟨i,g⟩ post hus _ ⟨A,cap,rfl⟩ F F'
    have hlu:=congrArg List.length hus
    simp only [QT,Rx] at hlu
    change WR _ _ _ l _ _ ((48,Value.agg (bX g).toArray)::(47,Value.int .i64 (i:Int))::_) (.box g8 33 [vS (orS (pre.map fun x=>x.2.to))]:: .box g9 75 [sl A pre.length cap]:: .own A 3 1 pre.length cap (cU (pre.map fun x=>x.1))::F)
    repeat' (first|refine sT ?_|refine sR ?_|refine sM fun _=> ?_|(refine sC ?_ ?_<;>intro hb<;>try omega)|(refine sCR ?_ ?_<;>intro hb<;>try omega)|fail)
    rename_i g16
    refine xC ⟨[.box g16 56 (bX g),.box g8 33 [vS (orS (pre.map fun x=>x.2.to))],.box g9 75 [sl A pre.length cap],.own A 3 1 pre.length cap (cU (pre.map fun x=>x.1))],MSub.refl _,?_⟩
    change WR _ _ _ l _ _ _ (.box g16 56 (bX g):: .box g8 33 [vS (orS (pre.map fun x=>x.2.to))]:: .box g9 75 [sl A pre.length cap]:: .own A 3 1 pre.length cap (cU (pre.map fun x=>x.1))::F')
    repeat' (first|(apply ak;exact rfl;apply zN (b:=g.to);exact rfl;exact rfl)|(apply aQ;(iterate 3 exact rfl);(repeat first|exact .hd|apply Sel.tl|apply In.tl);(intro w hm;exact hm.cells_own (by (repeat first|exact .hd|apply Sel.tl|apply In.tl)));exact rfl;(simp [Value.oneCell',sl]);omega;(simp only [maxLen];omega);(intro A' cap' hA'))|refine sT ?_|refine sR ?_|refine sM fun _=> ?_|(refine sC ?_ ?_<;>intro hb<;>try omega)|(refine sCR ?_ ?_<;>intro hb<;>try omega)|fail)
    refine zV [.box g8 33 [vS (orS (pre.map fun x=>x.2.to)|||g.to)],.box g9 75 [sl A' (pre.length+1) cap'],.own A' 3 1 (pre.length+1) cap' (cU (pre.map fun x=>x.1)++ [.int .i64 (i:Int)])] ?_ ⟨A',cap',?_⟩
    · change MSub (_::_::_::F') _
      exact mS
    · simp only [RM,RA,Sq,CX,QT,QX,cU]
  · rintro D _ ⟨A,cap,rfl⟩
    change bE _ _ _ _ _ (jt D:: .box g8 33 [vS (orS (us.map fun x=>x.2.to))]:: .box g9 75 [sl A us.length cap]:: .own A 3 1 us.length cap (cU (us.map fun x=>x.1))::_)
    repeat' (first|refine sT ?_|refine sS ?_|refine sR ?_|refine sM fun _=> ?_|(refine sC ?_ ?_<;>intro hb<;>try omega)|(refine sCR ?_ ?_<;>intro hb<;>try omega)|fail)
    generalize orS (us.map fun x=>x.2.to)=o
    refine vq (id:=16) [⟨2,g8,33,vS o,vS o⟩,⟨3,g9,75,sl A us.length cap,sl A us.length cap⟩] [jt D,.own A 3 1 us.length cap (cU (us.map fun x=>x.1))] (by kernel_rfl) (by kernel_rfl) rfl mS ?_
    repeat' (first|(refine uQ ⟨2,g8,33,vS o,vS o⟩ (.head _) (f:=60) (j:=2) rfl (by decide+kernel) rfl rfl rfl ?_)|(refine uQ ⟨3,g9,75,sl A us.length cap,sl A us.length cap⟩ (.tail _ (.head _)) (f:=60) (j:=3) rfl (by decide+kernel) rfl rfl rfl ?_)|(refine kF [] [⟨3,g9,75,sl A us.length cap,sl A us.length cap⟩] ⟨2,g8,33,vS o,vS o⟩ rfl rfl rfl rfl rfl rfl ?_)|(refine kF [⟨2,g8,33,vS o,vS o⟩] [] ⟨3,g9,75,sl A us.length cap,sl A us.length cap⟩ rfl rfl rfl rfl rfl rfl ?_)|(apply GK;exact rfl;exact rfl;(exact vC))|refine sT ?_|refine sS ?_|refine sR ?_|refine sG ?_|refine sM fun _=> ?_|(refine sC ?_ ?_<;>intro hb<;>try omega)|(refine sCR ?_ ?_<;>intro hb<;>try omega)|fail)
    refine xd pK ?_
    exact K6 eIO rfl rfl pK rfl pK rfl (H' := [.own A 3 1 us.length cap (cU (us.map fun x=>x.1))]) mS ⟨A,cap,by dsimp only;rw [List.length_map],by dsimp only;rw [List.length_map]⟩
  · rintro D HU h
    exact h.elim
end Go.SL
namespace Go.SL
open Go Go.Proofs
attribute [local irreducible] W WL WQ WG WA WX WLI WR WT WC WE VOp RW thn blk bp scp aR ba bE aF FnIn FnP ceP
theorem JS (n:Nat) (h:n<64):Be (n+1)=Be n|||1#64<<<n:=by
 have h1: ∀ n:Fin 64,Be (n.val+1)=Be n.val|||1#64<<<n.val:=by decide+kernel
 exact h1 ⟨n,h⟩
theorem yR (m:Nat) (h:m≤64) (w:World):aA Tryz.prog 112 [.int .i64 (m:Int)] w (vS (1#64<<<m)):=by
 refine aq Tryz.func112 rfl Tryz.ntmps112 rfl ?_
 repeat' (first|(apply ak;exact rfl;apply bU (c:=(m:Int));exact rfl;(simp only [IntKind.wrap_u64];omega))|(apply ak;exact rfl;apply GS (a:=1#64) (m:=m);exact rfl;exact rfl;omega)|refine sT ?_|refine sM fun _=> ?_|(refine sC ?_ ?_<;>intro hb<;>try omega)|fail)
 all_goals first|(exfalso;omega)|((refine rT1 ?_);rfl)
theorem tW (u:Int) (w:World):aA Tryz.prog 132 [.int .i64 u] w (.tuple #[vS (eB u).1,.int .i64 (eB u).2]):=by
 refine aq Tryz.func132 rfl Tryz.ntmps132 rfl ?_
 by_cases h:u<0∨64<u
 ·
  rw [eB,if_pos h]
  repeat' (first|refine sT ?_|refine sM fun _=> ?_|(refine sC ?_ ?_<;>intro hb<;>try omega)|fail)
  all_goals first|(exfalso;omega)|((refine rT2 ?_);rfl)
 ·
  rw [eB,if_neg h]
  obtain ⟨m,rfl⟩: ∃ m:Nat,u=(m:Int):=⟨u.toNat,by omega⟩
  rw [TB]
  repeat' (first|refine sT ?_|refine sS ?_|refine sM fun _=> ?_|(refine sC ?_ ?_<;>intro hb<;>try omega)|fail)
  all_goals try (exfalso;omega)
  refine aw [0] rfl (fun i:Nat=> [(4,vS (Be i)),(5,.int .i64 (i:Int))]) (fun _=> []) (fun i=>i≤m) (fun i=>m - i) 0 (by omega) sB mS ?_
  rintro i hi
  by_cases hlt:i<m
  ·
   have hB:=fun w=>yR i (by omega) w
   have hs:=JS i (by omega)
   repeat' (first|(apply aa;exact rfl;exact rfl;(intro w hm;exact hB w))|(apply ak;exact rfl;apply zN (a:=Be i);exact rfl;exact rfl)|refine sT ?_|refine sS ?_|refine sN ?_|refine sM fun _=> ?_|(refine sC ?_ ?_<;>intro hb<;>try omega)|fail)
   all_goals first
    |(exfalso;omega)
    |(rw [← hs];refine ⟨i+1,hlt,by omega,by exact sB,by exact sB,by exact mS⟩;done)
  ·
   have e:i=m:=by omega
   subst e
   repeat' (first|refine sT ?_|refine sS ?_|refine sM fun _=> ?_|(refine sC ?_ ?_<;>intro hb<;>try omega)|fail)
   all_goals first|(exfalso;omega)|((refine rT2 ?_);rfl)
theorem jK (x:BitVec 64) (u:Int) (w:World):aA Tryz.prog 86 [vS x,.int .i64 u] w (.bool (decide (x &&& ~~~(eB u).1=0#64))):=by
 refine aq Tryz.func86 rfl Tryz.ntmps86 rfl ?_
 have h1:=fun w=>tW u w
 generalize (eB u).1=a at h1 ⊢
 generalize (eB u).2=e at h1
 repeat' (first|(apply aa;exact rfl;exact rfl;(intro w hm;exact h1 w))|(apply ak;exact rfl;apply fF (b:=a);exact rfl;exact rfl)|(apply ak;exact rfl;apply GV (b:=0#64);exact rfl;exact rfl)|refine sT ?_|refine sM fun _=> ?_|(refine sC ?_ ?_<;>intro hb<;>try omega)|fail)
 all_goals first|(exfalso;omega)|((refine rT1 ?_);rfl)
theorem gU (r:Rct) (w:World):aA Tryz.prog 85 [.agg (bL r).toArray] w (.bool (aO r)):=by
 refine aq Tryz.func85 rfl Tryz.ntmps85 rfl ?_
 have h:aO r=true↔(1≤r.c1∧r.c1≤r.c2∧r.c2≤1024∧1≤r.r1∧r.r1≤r.r2∧r.r2≤1024):=by
  simp only [aO,valid,Rk,decide_eq_true_eq]
  omega
 by_cases hk:aO r=true
 ·
  have hk2:=h.1 hk
  rw [hk]
  repeat' (first|refine sT ?_|refine sM fun _=> ?_|(refine sC ?_ ?_<;>intro hb<;>try omega)|fail)
  all_goals first|(exfalso;omega)|((refine rT1 ?_);simp;omega)|((refine rT1 ?_);rfl)
 ·
  have hk2:=fun a=>hk (h.2 a)
  rw [show aO r=false by simpa using hk]
  repeat' (first|refine sT ?_|refine sM fun _=> ?_|(refine sC ?_ ?_<;>intro hb<;>try omega)|fail)
  all_goals first|(exfalso;omega)|((refine rT1 ?_);rfl)|((refine rT1 ?_);exact congrArg Value.bool (decide_eq_false fun hz=>hk2 ⟨by omega,by omega,by omega,by omega,by omega,by omega⟩))
theorem Ln (a b c s:BitVec 64):((a|||b|||c) &&& s=0#64)↔(a &&& s=0#64∧b &&& s=0#64∧c &&& s=0#64):=by
 have h: ∀ x:BitVec 64,(x=0#64)↔ ∀ i,x.getLsbD i=false:=fun x=>⟨fun h i=>by rw [h];simp,fun h=>TQ fun i _=>by rw [h i];simp⟩
 simp only [h,TP,BitVec.getLsbD_or,Sw,Bool.or_eq_false_iff]
 constructor
 ·
  intro hh
  refine ⟨fun i=> ?_,fun i=> ?_,fun i=> ?_⟩<;>rcases hh i with ⟨⟨h1,h2⟩,h3⟩|h1<;>simp_all
 ·
  rintro ⟨h1,h2,h3⟩ i
  rcases h1 i with a|a
  ·
   rcases h2 i with b|b
   ·
    rcases h3 i with c|c
    ·
     exact .inl ⟨⟨a,b⟩,c⟩
    ·
     exact .inr c
   ·
    exact .inr b
  ·
   exact .inr a
theorem QH (r:Rl) (a:BitVec 64):((r.read|||r.write|||r.own) &&& ~~~a≠0#64)↔(r.read &&& ~~~a≠0#64∨r.write &&& ~~~a≠0#64∨r.own &&& ~~~a≠0#64):=by
 rw [ne_eq,Ln]
 constructor
 ·
  intro h
  by_cases h1:r.read &&& ~~~a=0#64
  ·
   by_cases h2:r.write &&& ~~~a=0#64
   ·
    exact .inr (.inr fun h3=>h ⟨h1,h2,h3⟩)
   ·
    exact .inr (.inl h2)
  ·
   exact .inl h1
 ·
  rintro (h|h|h) ⟨h1,h2,h3⟩
  ·
   exact h h1
  ·
   exact h h2
  ·
   exact h h3
set_option maxHeartbeats 8000000 in
theorem jh (u:Int) (L:List Rl) (lv:Value) (w:World) (hl:Reads w lv L.length (L.flatMap bM)):aA Tryz.prog 34 [.int .i64 u,lv] w (.tuple #[.int .i64 (eP u L).1,.int .i64 (eP u L).2]):=by
 obtain ⟨Al,cl,rfl,hl1,hl2,hl3⟩:=hl
 refine aq Tryz.func34 rfl Tryz.ntmps34 rfl ?_
 unfold eP
 by_cases h1:u<0∨64<u∨u=0∨L= []
 ·
  rw [if_pos h1]
  have h1' :u<1∨64<u∨L.length=0:=by
   rcases h1 with h|h|h|h
   ·
    exact .inl (by omega)
   ·
    exact .inr (.inl h)
   ·
    exact .inl (by omega)
   ·
    exact .inr (.inr (by rw [h];rfl))
  repeat' (first|refine sT ?_|refine sM fun _=> ?_|(refine sC ?_ ?_<;>intro hb<;>try omega)|fail)
  all_goals first|(exfalso;omega)|((refine rT2 ?_);rfl)
 rw [if_neg h1]
 have hne:0<L.length:=by
  rcases Sx L.length with h|h
  ·
   exact absurd (.inr (.inr (.inr (Sf h)))) h1
  ·
   exact h
 by_cases h64:64<L.length
 ·
  rw [if_pos h64]
  repeat' (first|refine sT ?_|refine sM fun _=> ?_|(refine sC ?_ ?_<;>intro hb<;>try omega)|fail)
  all_goals first|(exfalso;omega)|((refine rT2 ?_);rfl)
 rw [if_neg h64]
 obtain ⟨gl,ol,rfl,hrl⟩:=hl3 hne
 have hS:=fun w=>vV w
 obtain ⟨h0a,_⟩:=Rl.ro (hrl.elem bV 0 hne)
 have hhd:L.head?.map (·.rect)=some L[0].rect:=by rw [List.head?_eq_getElem?,QV hne];rfl
 rw [hhd]
 by_cases hsh:some L[0].rect≠some nA
 ·
  rw [if_pos hsh]
  have hc:decide (L[0].rect=nA)=false:=decide_eq_false fun e=>hsh (congrArg some e)
  generalize L[0].rect=r0 at h0a hc
  repeat' (first|(apply eE (id:=5) [4] [];kernel_rfl;kernel_rfl;kernel_rfl)|(apply dm;(iterate 3 exact rfl);apply aj (j:=0);exact rfl;exact rfl;omega)|(apply dm;(iterate 3 exact rfl);apply aC;exact rfl;exact h0a;exact rfl)|(apply dm;(iterate 3 exact rfl);apply oS hc;exact rfl;exact rfl)|(apply aa (f:=84);exact rfl;exact rfl;(intro w' _;exact hS w'))|refine sT ?_|refine sS ?_|refine sW ?_|refine sO ?_|refine sM fun _=> ?_|(refine sC ?_ ?_<;>intro hb<;>try omega)|(refine sCW ?_ ?_<;>intro hb<;>try omega)|fail)
  all_goals first|(exfalso;omega)|((refine rT2 ?_);rfl)
 rw [if_neg hsh]
 have hc:decide (L[0].rect=nA)=true:=decide_eq_true (Option.some.inj (Decidable.not_not.1 hsh))
 obtain ⟨ac,hac⟩: ∃ ac,gM u L 0=ac:=⟨_,rfl⟩
 rw [hac]
 generalize L[0].rect=r0 at h0a hc
 repeat' (first|(apply eE (id:=5) [4] [];kernel_rfl;kernel_rfl;kernel_rfl)|(apply dm;(iterate 3 exact rfl);apply aj (j:=0);exact rfl;exact rfl;omega)|(apply dm;(iterate 3 exact rfl);apply aC;exact rfl;exact h0a;exact rfl)|(apply dm;(iterate 3 exact rfl);apply oS hc;exact rfl;exact rfl)|(apply aa (f:=84);exact rfl;exact rfl;(intro w' _;exact hS w'))|refine sT ?_|refine sS ?_|refine sW ?_|refine sO ?_|refine sM fun _=> ?_|(refine sC ?_ ?_<;>intro hb<;>try omega)|(refine sCW ?_ ?_<;>intro hb<;>try omega)|fail)
 all_goals try (exfalso;omega)
 refine aw [0,1] rfl (fun i:Nat=> [(6,.int .i64 (i:Int))]) (fun _=> []) (fun i=>i≤L.length∧ac=gM u (L.drop i) (i:Int)) (fun i=>L.length - i) 0 ⟨by omega,hac.symm⟩ sB mS ?_
 rintro i ⟨hi,hrec⟩
 by_cases hlt:i<L.length
 ·
  obtain ⟨hr1,_,_,_,hr2⟩:=Rl.ro (hrl.elem bV i hlt)
  rw [Rc hlt,gM] at hrec
  simp only [QH] at hrec
  generalize L[i]=r at hr1 hr2 hrec
  have hR:=fun w=>gU r.rect w
  have hW:=fun (x:BitVec 64) w=>jK x u w
  generalize aO r.rect=ro at hR hrec
  generalize (eB u).1=sa at hW hrec
  by_cases h3:ro=false
  ·
   rw [if_pos h3] at hrec
   subst h3
   repeat' (first|(apply ak;exact rfl;apply aj (j:=i);exact rfl;exact rfl;omega)|(apply aa;exact rfl;exact rfl;(intro w hm;exact hR w))|refine sT ?_|refine sS ?_|refine sO ?_|refine sM fun _=> ?_|(refine sC ?_ ?_<;>intro hb<;>try omega)|fail)
   all_goals first|(exfalso;omega)|((refine rT2 ?_);rw [hrec];done)
  rw [if_neg h3] at hrec
  have h3' :ro=true:=by simpa using h3
  subst h3'
  by_cases h4:r.read &&& ~~~sa≠0#64∨r.write &&& ~~~sa≠0#64∨r.own &&& ~~~sa≠0#64
  ·
   rw [if_pos h4] at hrec
   repeat' (first|(apply ak;exact rfl;apply aj (j:=i);exact rfl;exact rfl;omega)|(apply ak;exact rfl;apply aC;exact rfl;exact hr2;exact rfl)|(apply aa;exact rfl;exact rfl;(intro w hm;exact hR w))|(apply aa (f:=86);exact rfl;exact rfl;(intro w' _;exact hW _ w'))|refine sT ?_|refine sS ?_|refine sO ?_|refine sM fun _=> ?_|(refine sC ?_ ?_<;>intro hb<;>try omega)|fail)
   all_goals first
    |(exfalso;omega)
    |((refine rT2 ?_);rw [hrec];done)
    |(exfalso;rcases h4 with h|h|h<;>exact h (by assumption))
  ·
   rw [if_neg h4] at hrec
   repeat' (first|(apply ak;exact rfl;apply aj (j:=i);exact rfl;exact rfl;omega)|(apply ak;exact rfl;apply aC;exact rfl;exact hr2;exact rfl)|(apply aa;exact rfl;exact rfl;(intro w hm;exact hR w))|(apply aa (f:=86);exact rfl;exact rfl;(intro w' _;exact hW _ w'))|refine sT ?_|refine sS ?_|refine sN ?_|refine sO ?_|refine sM fun _=> ?_|(refine sC ?_ ?_<;>intro hb<;>try omega)|fail)
   all_goals first
    |(exfalso;omega)
    |(exfalso;exact h4 (by first|exact .inl (by assumption)|exact .inr (.inl (by assumption))|exact .inr (.inr (by assumption))))
    |(refine ⟨i+1,⟨hlt,by rw [hrec];rfl⟩,by omega,by exact sB,by exact sB,by exact mS⟩;done)
 ·
  have e:i=L.length:=by omega
  subst e
  rw [RK,gM] at hrec
  rw [hrec]
  repeat' (first|refine sT ?_|refine sS ?_|refine sM fun _=> ?_|(refine sC ?_ ?_<;>intro hb<;>try omega)|fail)
  all_goals first|(exfalso;omega)|((refine rT2 ?_);rfl)
end Go.SL

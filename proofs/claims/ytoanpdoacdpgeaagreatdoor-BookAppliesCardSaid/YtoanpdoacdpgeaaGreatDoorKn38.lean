/-
  Lemmas and walks, put together: Hj Hk Hu Hv Ib.
-/
import Derived.Test.YtoanpdoacdpgeaaGreatDoorKn19
import Derived.Test.YtoanpdoacdpgeaaGreatDoorKn24
import Derived.Test.YtoanpdoacdpgeaaGreatDoorKn25
import Derived.Test.YtoanpdoacdpgeaaGreatDoorKn28
import Derived.Test.YtoanpdoacdpgeaaGreatDoorKn34
set_option linter.unusedSimpArgs false
set_option linter.unusedVariables false
set_option maxRecDepth 20000
namespace Go.SL
open Go Go.Proofs
attribute [local irreducible] W WL WQ WG WA WX WLI WR WT WC WE VOp RW thn blk bE scp ba bo bL aP FnIn FnP ceP
--
theorem HZ {l m:List Pz} {p:Pz} (hm:m≠ []):l++jt m p=jt (l++m) p:=by
 have e:=OT hm
 generalize hd:m.dropLast=d at e
 generalize m.getLast hm=q at e
 subst e
 unfold jt
 rw [← NG,List.getLast?_concat,List.getLast?_concat]
 dsimp only
 rw [PQ,PQ]
 split<;>simp
theorem vZ {O:List Pz} {q p:Pz}:jt (O++ [q]) p=if q.a=p.a∧q.b=p.b then O++ [⟨⟨q.rect.c1,q.rect.r1,p.rect.c2,q.rect.r2⟩,q.a,q.b⟩] else O++ [q]++ [p]:=by
 unfold jt
 rw [List.getLast?_concat]
 dsimp only
 rw [PQ]
theorem DC {A B:List Rl} {y:Int × Int} (xs:List (Int × Int)):(jp A B y xs).length≤xs.length:=by
 induction xs using rm with
 |h0=>exact Ni _
 |h1 xs x ih=>
  rw [kn,Na,Nh]
  generalize jp A B y xs=l at ih
  unfold jt
  cases h:l.getLast? with
  |none=>simp
  |some q=>
   dsimp only
   split
   ·
    rw [Na,List.length_dropLast,Nh];omega
   ·
    rw [Na,Nh];omega
theorem y4 {A B:List Rl} {y:Int × Int}:jp A B y []= []:=rfl
def iI (A B:List Rl) (ys xs:List (Int × Int)):List Pz:=ys.flatMap fun y=>jp A B y xs
theorem yY {A B:List Rl} {ys xs:List (Int × Int)} {y:Int × Int}:iI A B (ys++ [y]) xs=iI A B ys xs++jp A B y xs:=by unfold iI;simp
theorem kK {A B:List Rl} {xs:List (Int × Int)}: ∀ ys:List (Int × Int),(iI A B ys xs).length≤ys.length*xs.length
 | []=>by simp [iI]
 |y::ys=>by
  have h1:=kK (A:=A) (B:=B) (xs:=xs) ys
  have h2:=DC (A:=A) (B:=B) (y:=y) xs
  unfold iI at h1 ⊢
  rw [Np,Na,NB,Nat.succ_mul]
  omega
theorem Ly {A B:List Rl} {y:Int × Int} (xs:List (Int × Int)): ∀ q∈jp A B y xs,q.rect.r1=y.1∧ ∃ x∈xs,q.rect.c1=x.1:=by
 induction xs using rm with
 |h0=>intro q hq;cases hq
 |h1 xs x ih=>
  intro q hq
  rw [kn] at hq
  by_cases hn:jp A B y xs= []
  ·
   rw [hn] at hq
   have:q=lR A B y x:=by simpa [jt] using hq
   subst this
   exact ⟨rfl,x,by simp,rfl⟩
  ·
   have e:=OT hn
   generalize (jp A B y xs).dropLast=d at e
   generalize (jp A B y xs).getLast hn=z at e
   rw [← e] at hq ih
   rw [vZ] at hq
   have hz:=ih z (by simp)
   split at hq
   ·
    rcases NJ.1 hq with hq|hq
    ·
     obtain ⟨h1,x',h2,h3⟩:=ih q (by simp [hq])
     exact ⟨h1,x',by simp [h2],h3⟩
    ·
     rw [NS.1 hq]
     obtain ⟨h1,x',h2,h3⟩:=hz
     exact ⟨h1,x',by simp [h2],h3⟩
   ·
    rcases NJ.1 hq with hq|hq
    ·
     obtain ⟨h1,x',h2,h3⟩:=ih q hq
     exact ⟨h1,x',by simp [h2],h3⟩
    ·
     rw [NS.1 hq]
     exact ⟨rfl,x,by simp,rfl⟩
theorem zw {r:Rct} {A B:List Rl} (hrs:1≤r.c1∧r.c1≤r.c2∧r.c2≤1024∧1≤r.r1∧r.r1≤r.r2∧r.r2≤1024): ∀ p∈dD r A B,sn p:=fun p hp=>by
 obtain ⟨y,hy,hp⟩:=NU.1 hp
 obtain ⟨h1,x,hx,h2⟩:=Ly _ p hp
 have h3:=eu hy
 have h4:=eu hx
 unfold sn
 omega
set_option maxHeartbeats 16000000 in
theorem Hm (r:Rct) (hr:aI r=true) (A B:List Rl) (la lb:Value) (w:World) (hla:Reads w la A.length (A.flatMap aV)) (hlb:Reads w lb B.length (B.flatMap aV)) (hA:A.length≤200) (hB:B.length≤200):
    aP Tryz.prog 141 [.agg (bH r).toArray,la,lb] w fun v H=> ∃ Ap cap,v=sl Ap (dD r A B).length cap∧H= [.own Ap 191 6 (dD r A B).length cap ((dD r A B).flatMap db)]:=by
  refine aq Tryz.func141 rfl Tryz.ntmps141 rfl ?_
  have hrs:=cj.1 hr
  have hZ:InZ (dD r A B):=by
    refine ⟨xq r A B,zw hrs,?_⟩
    have h1:=kK (A:=A) (B:=B) (xs:=cB r.c1 r.c2 (aY r A++aY r B)) (cB r.r1 r.r2 (aX r A++aX r B))
    have h2:=ia r.c1 r.c2 (aY r A++aY r B)
    have h3:=ia r.r1 r.r2 (aX r A++aX r B)
    have h4:=dY r A
    have h5:=dY r B
    have h6:=dU r A
    have h7:=dU r B
    rw [Na] at h2 h3
    refine Nz h1 (Nz (Nat.mul_le_mul (show _≤801 by omega) (show _≤801 by omega)) (by decide))
  have hnA:=fun (gr gc gw:Nat)=>DL r A la gr gc gw none none 0 0 [] [] [] w hla (by simp;omega) (by simp;omega)
  have hnB:=fun (gr gc gw:Nat) (A1 A2:Option Nat) (c1 c2:Nat)=>DL r B lb gr gc gw A1 A2 c1 c2 (aY r A) (aX r A) [] w hlb (by have:=dY r A;omega) (by have:=dU r A;omega)
  have hcl:(aY r A++aY r B).length≤400:=by have:=dY r A;have:=dY r B;rw [Na];omega
  have hwl:(aX r A++aX r B).length≤400:=by have:=dU r A;have:=dU r B;rw [Na];omega
  have hcs: ∀ p∈aY r A++aY r B,0≤p.1∧p.1≤100000∧0≤p.2∧p.2≤100000:=fun p hp=>(NJ.1 hp).elim (pq p) (pq p)
  have hws: ∀ p∈aX r A++aX r B,0≤p.1∧p.1≤100000∧0≤p.2∧p.2≤100000:=fun p hp=>(NJ.1 hp).elim (oJ p) (oJ p)
  have hb1:=fun (w' :World) (lv:Value) (h:Reads w' lv _ _)=>AG r.c1 r.c2 (aY r A++aY r B) lv w' h (by omega) (by omega) (by omega) hcs
  have hb2:=fun (w' :World) (lv:Value) (h:Reads w' lv _ _)=>AG r.r1 r.r2 (aX r A++aX r B) lv w' h (by omega) (by omega) (by omega) hws
  have hxl:=ia r.c1 r.c2 (aY r A++aY r B)
  have hyl:=ia r.r1 r.r2 (aX r A++aX r B)
  have hpf:dD r A B=iI A B (cB r.r1 r.r2 (aX r A++aX r B)) (cB r.c1 r.c2 (aY r A++aY r B)):=rfl
  generalize dD r A B=PZ at hZ hpf ⊢
  generalize hX:cB r.c1 r.c2 (aY r A++aY r B)=xB at hb1 hxl hpf
  generalize hY:cB r.r1 r.r2 (aX r A++aX r B)=yB at hb2 hyl hpf
  generalize hCO:aY r A++aY r B=CO at hb1 hcl hxl
  generalize hRO:aX r A++aX r B=RO at hb2 hwl hyl
  refine aD 189 2 ?_
  refine aD 189 2 ?_
  repeat' (first|(apply j0 (d:=21);exact rfl;exact rfl;infer_instance;exact rfl;exact FnIn.msub (hnA _ _ _) (by simp only [qz,Nr,Nf,Ng];exact mS);rintro _ _ ⟨rfl,A1,c1,A2,c2,rfl⟩)|(apply j0 (d:=24);exact rfl;exact rfl;infer_instance;exact rfl;exact FnIn.msub (hnB _ _ _ A1 A2 c1 c2) (by simp only [qz,Nr,Nf,Ng];exact mS);rintro _ _ ⟨rfl,A3,c3,A4,c4,rfl⟩)|refine sT ?_|refine sS ?_|refine sT2 ?_|refine sM fun _=> ?_|(refine sC ?_ ?_<;>intro hb<;>try omega)|exact cT|fail)
  rename_i g3 g7 g8
  rw [hCO,hRO]
  simp only [qz,Nr,Nf,Ng]
  refine nA (fun _:Option Nat × Nat × Option Nat × Nat=> [(1,la),(2,lb),(3,.pointer (some ⟨g3,0,none⟩)),(7,.pointer (some ⟨g7,0,none⟩)),(8,.pointer (some ⟨g8,0,none⟩))]) (fun y=> .box g7 232 [sl y.1 xB.length y.2.1]:: .own y.1 189 2 xB.length y.2.1 (xB.flatMap dc):: .box g8 232 [sl y.2.2.1 yB.length y.2.2.2]:: .own y.2.2.1 189 2 yB.length y.2.2.2 (yB.flatMap dc):: []) (fun _=>True) ?_ ?_
  · refine oh (id:=5) [4,5,10,11,12,13] [.box g3 32 (bH r)] 14 rfl rfl mS ?_
    repeat' (first|(apply cF (i:=0);(iterate 4 exact rfl);decide+kernel;decide+kernel;decide+kernel;(exact vC))|(apply cF (i:=1);(iterate 4 exact rfl);decide+kernel;decide+kernel;decide+kernel;(exact vC))|(apply cF (i:=2);(iterate 4 exact rfl);decide+kernel;decide+kernel;decide+kernel;(exact vC))|(apply cF (i:=3);(iterate 4 exact rfl);decide+kernel;decide+kernel;decide+kernel;(exact vC))|(apply cF (i:=6);(iterate 4 exact rfl);decide+kernel;decide+kernel;decide+kernel;(exact vC))|(apply cF (i:=7);(iterate 4 exact rfl);decide+kernel;decide+kernel;decide+kernel;(exact vC))|(apply cF (i:=8);(iterate 4 exact rfl);decide+kernel;decide+kernel;decide+kernel;(exact vC))|(apply cF (i:=9);(iterate 4 exact rfl);decide+kernel;decide+kernel;decide+kernel;(exact vC))|(apply iH (i:=4) (j:=10);(iterate 6 exact rfl);decide+kernel)|(apply iH (i:=5) (j:=10);(iterate 6 exact rfl);decide+kernel)|(apply iH (i:=12) (j:=13);(iterate 6 exact rfl);decide+kernel)|(apply dA (i:=4);(iterate 3 exact rfl);decide+kernel)|(apply dA (i:=5);(iterate 3 exact rfl);decide+kernel)|(apply dA (i:=10);(iterate 3 exact rfl);decide+kernel)|(apply dA (i:=11);(iterate 3 exact rfl);decide+kernel)|(apply dA (i:=12);(iterate 3 exact rfl);decide+kernel)|(apply dA (i:=13);(iterate 3 exact rfl);decide+kernel)|(apply aC (d:=30);exact rfl;exact rfl;(intro w' hm;exact hb1 w' _ (Reads.of_own (A:=A3) hm pK));rintro _ _ ⟨A5,c5,rfl,rfl⟩)|(apply aC (d:=36);exact rfl;exact rfl;(intro w' hm;exact hb2 w' _ (Reads.of_own (A:=A4) hm pK));rintro _ _ ⟨A6,c6,rfl,rfl⟩)|(apply od;decide+kernel)|(apply FG;(focus (exact mS;done)))|refine sT ?_|refine sS ?_|refine sT2 ?_|refine sM fun _=> ?_|(refine sC ?_ ?_<;>intro hb<;>try omega)|exact cT|fail)
    all_goals first
      |(exfalso;omega)
      |(exact cu (A5,c5,A6,c6) trivial sB mS)
      |trace_state
  rintro ⟨A5,c5,A6,c6⟩ _
  dsimp only
  clear hnA hnB hb1 hb2 hX hY hCO hRO
  refine aD 191 6 ?_
  repeat' (first|refine sT ?_|refine sS ?_|refine sT2 ?_|refine sM fun _=> ?_|(refine sC ?_ ?_<;>intro hb<;>try omega)|exact cT|fail)
  refine ax [1,2,7,37,38] rfl (fun y:Nat × Option Nat × Nat=> [(10,sl y.2.1 (iI A B (yB.take y.1) xB).length y.2.2),(39,.int .i64 (y.1:Int))]) (fun y=> .own y.2.1 191 6 (iI A B (yB.take y.1) xB).length y.2.2 ((iI A B (yB.take y.1) xB).flatMap db):: .box g7 232 [sl A5 xB.length c5]:: .own A5 189 2 xB.length c5 (xB.flatMap dc):: .own A6 189 2 yB.length c6 (yB.flatMap dc):: []) (fun y=>y.1≤yB.length) (fun y=>yB.length - y.1) (0,none,0) (Ns _) sB mS ?_
  rintro ⟨j,Ao,co⟩ hj
  dsimp only at hj ⊢
  by_cases hjl:j<yB.length
  · refine eG (A:=A6) pK (by omega) fun g6 hA6=> ?_
    subst hA6
    have hrd:((yB.flatMap dc).drop (0+j*2)).take 2=dc yB[j]:=by rw [Ny];exact ed jf yB j hjl
    have hsn:=yY (A:=A) (B:=B) (ys:=yB.take j) (xs:=xB) (y:=yB[j])
    rw [← Nk hjl] at hsn
    have hpl:(iI A B (yB.take j) xB).length≤700000:=by
      have h1:=kK (A:=A) (B:=B) (xs:=xB) (yB.take j)
      refine Nz h1 (Nz (Nat.mul_le_mul (show _≤801 by rw [Nu];omega) (show _≤801 by omega)) (by decide))
    generalize yB[j]=y at hrd hsn
    generalize iI A B (yB.take j) xB=prev at hsn hpl ⊢
    repeat' (first|(apply ak (d:=41);exact rfl;apply aj (j:=j);exact rfl;exact rfl;exact hjl)|(apply ak (d:=42);exact rfl;apply aQ (ys:=dc y);exact rfl;exact pK;exact hrd;exact rfl)|refine sT ?_|refine sS ?_|refine sT2 ?_|refine sN ?_|refine sM fun _=> ?_|(refine sC ?_ ?_<;>intro hb<;>try omega)|exact cT|fail)
    all_goals try (exfalso;omega)
    rename_i g12
    refine ax [1,2,7,12,13,37,38,39,45,46] rfl (fun z:Nat × Option Nat × Nat=> [(10,sl z.2.1 (prev++jp A B y (xB.take z.1)).length z.2.2),(47,.int .i64 (z.1:Int))]) (fun z=> .own z.2.1 191 6 (prev++jp A B y (xB.take z.1)).length z.2.2 ((prev++jp A B y (xB.take z.1)).flatMap db):: .box g12 189 (dc y):: .box g7 232 [sl A5 xB.length c5]:: .own A5 189 2 xB.length c5 (xB.flatMap dc):: .own (some g6) 189 2 yB.length c6 (yB.flatMap dc):: []) (fun z=>z.1≤xB.length) (fun z=>xB.length - z.1) (0,Ao,co) (Ns _) (by rw [OA,y4,Nl];exact sB) (by rw [OA,y4,Nl];exact mS) ?_
    rintro ⟨k,Az,cz⟩ hk
    dsimp only at hk ⊢
    by_cases hkl:k<xB.length
    · refine eG (A:=A5) pK (by omega) fun g5 hA5=> ?_
      subst hA5
      have hrx:((xB.flatMap dc).drop (0+k*2)).take 2=dc xB[k]:=by rw [Ny];exact ed jf xB k hkl
      have hrn:=kn (A:=A) (B:=B) (y:=y) (xs:=xB.take k) (x:=xB[k])
      rw [← Nk hkl] at hrn
      have hcl2:=DC (A:=A) (B:=B) (y:=y) (xB.take k)
      rw [Nu] at hcl2
      generalize xB[k]=x at hrx hrn
      have hw1:=fun (w' :World) (H:List Blk) (hm:Mem w w' H)=>yp (eR y x) A la w' (hla.of_w0 hm) (by omega)
      have hw2:=fun (w' :World) (H:List Blk) (hm:Mem w w' H)=>yp (eR y x) B lb w' (hlb.of_w0 hm) (by omega)
      have hp:lR A B y x=⟨eR y x,gO (eR y x) A,gO (eR y x) B⟩:=rfl
      rw [hp] at hrn
      generalize gO (eR y x) A=wa at hw1 hrn
      generalize gO (eR y x) B=wb at hw2 hrn
      clear hp
      repeat' (first|(apply ak (d:=49);exact rfl;apply aj (j:=k);exact rfl;exact rfl;exact hkl)|(apply ak (d:=50);exact rfl;apply aQ (ys:=dc x);exact rfl;exact pK;exact hrx;exact rfl)|refine sT ?_|refine sS ?_|refine sT2 ?_|refine sN ?_|refine sM fun _=> ?_|(refine sC ?_ ?_<;>intro hb<;>try omega)|exact cT|fail)
      all_goals try (exfalso;omega)
      rename_i g15 g16
      generalize jp A B y (xB.take k)=cur at hrn hcl2 ⊢
      have hOl:(prev++cur).length≤800000:=by rw [Na];omega
      refine mz (id:=15) 10 (.box g16 191 (db ⟨eR y x,wa,wb⟩):: .own Az 191 6 (prev++cur).length cz ((prev++cur).flatMap db):: .box g12 189 (dc y):: .box g7 232 [sl (some g5) xB.length c5]:: .own (some g5) 189 2 xB.length c5 (xB.flatMap dc):: .own (some g6) 189 2 yB.length c6 (yB.flatMap dc):: []) (by kernel_rfl) (by kernel_rfl) rfl ?_
      repeat' (first|(apply Ek (f' :=183) (f:=60);exact rfl;decide+kernel;exact rfl;exact rfl;(intro w' hm;first|exact hw1 w' _ hm|exact hw2 w' _ hm))|(apply yq (f:=60) (d:=69);exact rfl;decide+kernel;exact rfl;apply mB;(iterate 5 exact rfl))|(apply lp;exact rfl;exact rfl;exact pK;(iterate 3 exact rfl);exact OP rfl;exact mS)|refine sT ?_|refine sS ?_|refine sT2 ?_|refine sG2 ?_|refine sG ?_|refine sM fun _=> ?_|(refine sC ?_ ?_<;>intro hb<;>try omega)|exact cT|fail)
      all_goals try (exfalso;omega)
      rcases N9 cur.length with h0|hpos
      · have hc0:cur= []:=OV.1 h0
        subst hc0
        have hg:jt [] (⟨eR y x,wa,wb⟩:Pz)= [⟨eR y x,wa,wb⟩]:=rfl
        rw [hg] at hrn
        rw [Nl] at hOl ⊢
        repeat' (first|(apply gh (id:=17);kernel_rfl;kernel_rfl)|(apply bA (d:=99) (A:=Az) (m:=1);(iterate 3 exact rfl);exact pK;(intro w hm;exact hm.cells_own pK);exact rfl;(simp [Value.oneCell',sl,db]);omega;(simp only [maxLen];omega);(intro A' cap' hA'))|refine sT ?_|refine sS ?_|refine sQ ?_|refine sT2 ?_|refine sQ2 ?_|refine sN ?_|refine sNQ ?_|refine sD ?_|refine sM fun _=> ?_|(refine sC ?_ ?_<;>intro hb<;>try omega)|(refine sCQ ?_ ?_<;>intro hb<;>try omega)|exact cT|fail)
        all_goals first
          |(exfalso;omega)
          | (refine ⟨(k + 1, A', cap'), hkl, by dsimp only; omega, ?_, by exact sB, ?_⟩
             · dsimp only;rw [hrn,List.length_append];exact sB
             · dsimp only;rw [hrn,List.length_append,List.flatMap_append];exact mS)
          |trace_state
      · have hne:cur≠ []:=OM.1 hpos
        have hga:=HZ (l:=prev) (p:=(⟨eR y x,wa,wb⟩:Pz)) hne
        rw [← hrn] at hga
        have hlt2:prev.length<(prev++cur).length:=by rw [Na];omega
        have hOe:=OT (l:=prev++cur) (by simp [hne])
        generalize (prev++cur).dropLast=O at hOe
        generalize (prev++cur).getLast _=q at hOe
        rw [← hOe] at hga hlt2 hOl ⊢
        rw [vZ] at hga
        have hOn:(O++ [q]).length=O.length+1:=by simp
        rw [hOn] at hOl hlt2
        have hq2:(((O++ [q]).flatMap db).drop (0+O.length*6+4)).take 2=kC (q.a,q.b):=by
          have h1:=ed cR (O++ [q]) O.length (by simp)
          have h2:=congrArg (List.drop 4) h1
          rw [List.drop_take,Ow] at h2
          simp only [List.getElem_concat_length] at h2
          rw [Ny]
          exact h2
        refine eG (A:=Az) pK (by omega) fun gz hAz=> ?_
        subst hAz
        obtain ⟨c,hc⟩: ∃ c,decide ((q.a,q.b)=(wa,wb))=c:=⟨_,rfl⟩
        cases c with
        |true=>
          have hab:q.a=wa∧q.b=wb:=by simpa using hc
          rw [if_pos hab] at hga
          have hset:=Fs cR (O++ [q]) O.length 2 (by simp) (by decide) (.int .i64 x.2) ⟨⟨q.rect.c1,q.rect.r1,x.2,q.rect.r2⟩,q.a,q.b⟩ (by simp only [List.getElem_concat_length];rfl)
          rw [Pp _ _ (Ni _),Nat.sub_self,List.set_cons_zero] at hset
          have hOl3:((O++ [q]).flatMap db).length=(O.length+1)*6:=by rw [aK cR,hOn]
          rw [hOn]
          repeat' (first|(apply gh (id:=17);kernel_rfl;kernel_rfl)|(apply aS (d:=79);exact rfl;apply dG (a:=O.length+1);exact rfl;exact rfl;omega;(simp only [maxLen];omega))|(apply aS (d:=80);exact rfl;apply aj (j:=O.length);exact rfl;exact rfl;omega)|(apply aS (d:=82);exact rfl;apply aQ (ys:=kC (q.a,q.b));exact rfl;exact pK;exact hq2;exact rfl)|(apply aS (d:=85);exact rfl;apply Dq (a:=(q.a,q.b)) (b:=(wa,wb)) hc;exact rfl;exact rfl)|(apply ak (d:=89);exact rfl;apply dG (a:=O.length+1);exact rfl;exact rfl;omega;(simp only [maxLen];omega))|(apply ak (d:=93);exact rfl;apply aj (j:=O.length);exact rfl;exact rfl;omega)|(apply dQ (v:= .int .i64 x.2) (off:=0+O.length*6+2);exact rfl;exact rfl;exact pK;exact rfl;(rw [hOl3];omega);rw [Ny,hset])|refine sT ?_|refine sS ?_|refine sQ ?_|refine sT2 ?_|refine sQ2 ?_|refine sN ?_|refine sNQ ?_|refine sD ?_|refine sM fun _=> ?_|(refine sC ?_ ?_<;>intro hb<;>try omega)|(refine sCQ ?_ ?_<;>intro hb<;>try omega)|exact cT|fail)
          all_goals first
            |(exfalso;omega)
            | (refine ⟨(k + 1, some gz, cz), hkl, by dsimp only; omega, ?_, by exact sB, ?_⟩
               · dsimp only;rw [hga,List.length_append];exact sB
               · dsimp only;rw [hga,List.length_append];exact mS)
            |trace_state
        |false=>
          have hab: ¬ (q.a=wa∧q.b=wb):=by simpa using hc
          rw [if_neg hab] at hga
          rw [hOn]
          repeat' (first|(apply gh (id:=17);kernel_rfl;kernel_rfl)|(apply aS (d:=79);exact rfl;apply dG (a:=O.length+1);exact rfl;exact rfl;omega;(simp only [maxLen];omega))|(apply aS (d:=80);exact rfl;apply aj (j:=O.length);exact rfl;exact rfl;omega)|(apply aS (d:=82);exact rfl;apply aQ (ys:=kC (q.a,q.b));exact rfl;exact pK;exact hq2;exact rfl)|(apply aS (d:=85);exact rfl;apply Dq (a:=(q.a,q.b)) (b:=(wa,wb)) hc;exact rfl;exact rfl)|(apply bA (d:=99) (A:=some gz) (m:=1);(iterate 3 exact rfl);exact pK;(intro w hm;exact hm.cells_own pK);exact rfl;(simp [Value.oneCell',sl,db]);omega;(simp only [maxLen];omega);(intro A' cap' hA'))|refine sT ?_|refine sS ?_|refine sQ ?_|refine sT2 ?_|refine sQ2 ?_|refine sN ?_|refine sNQ ?_|refine sD ?_|refine sM fun _=> ?_|(refine sC ?_ ?_<;>intro hb<;>try omega)|(refine sCQ ?_ ?_<;>intro hb<;>try omega)|exact cT|fail)
          all_goals first
            |(exfalso;omega)
            | (refine ⟨(k + 1, A', cap'), hkl, by dsimp only; omega, ?_, by exact sB, ?_⟩
               · dsimp only;rw [hga,List.length_append,hOn];exact sB
               · dsimp only;rw [hga,List.length_append,hOn,List.flatMap_append (xs:=O++ [q])];exact mS)
            |trace_state
    · have e:k=xB.length:=by omega
      subst e
      rw [N0,← hsn]
      repeat' (first|refine sT ?_|refine sS ?_|refine sT2 ?_|refine sN ?_|refine sM fun _=> ?_|(refine sC ?_ ?_<;>intro hb<;>try omega)|exact cT|fail)
      all_goals first
        |(exfalso;omega)
        |(refine ⟨(j+1,Az,cz),hjl,by dsimp only;omega,by exact sB,by exact sB,by exact mS⟩;done)
        |trace_state
  · have e:j=yB.length:=by omega
    subst e
    rw [N0,← hpf]
    have hS:=fun (w' :World) (H:List Blk) (hm:Mem w w' H) (lv:Value) (h:Reads w' lv _ _)=>uP PZ hZ lv w' h
    repeat' (first|(apply aa (d:=103);exact rfl;exact rfl;(intro w' hm;exact hS w' _ hm _ (Reads.of_own (A:=Ao) hm pK)))|refine sT ?_|refine sS ?_|refine sT2 ?_|refine sN ?_|refine sM fun _=> ?_|(refine sC ?_ ?_<;>intro hb<;>try omega)|exact cT|fail)
    all_goals first
      |(exfalso;omega)
      |(exact cG eIO rfl rfl mS ⟨Ao,co,rfl,rfl⟩)
      |trace_state
--
def eW (r:Rct) (L:List Rl):Int:=if aI r=false then 3 else (iF 64 L).2
theorem FE (r:Rct) (L:List Rl) (lv:Value) (w:World) (hl:Reads w lv L.length (L.flatMap aV)):ay Tryz.prog 140 [.agg (bH r).toArray,lv] w (.int .i64 (eW r L)):=by
 refine aq Tryz.func140 rfl Tryz.ntmps140 rfl ?_
 have h1:=fun w=>gA r w
 have h2:=fun (w' :World) (H:List Blk) (hm:Mem w w' H)=>mf 64 L lv w' (hl.of_w0 hm)
 unfold eW
 repeat' (first|(apply aa;exact rfl;exact rfl;(intro w hm;exact h1 w))|(apply aa (f:=60);exact rfl;exact rfl;(intro w' hm;exact h2 w' _ hm))|refine sT ?_|refine sM fun _=> ?_|(refine sC ?_ ?_<;>intro hb<;>try omega)|fail)
 all_goals first
  |(exfalso;omega)
  |((refine rT1 ?_);rw [if_pos (gU hb)];done)
  |((refine rT1 ?_);rw [if_neg (eO hb)];done)
  |trace_state
def ovE (r:Rct) (L:List Rl):(BitVec 64 × BitVec 64 × BitVec 64) × Int:=
 if eW r L≠0 then ((0#64,0#64,0#64),eW r L) else ((u5 (fun x=>x.read) r L,u5 (fun x=>x.write) r L,u5 (fun x=>x.own) r L),0)
theorem wy {r:Rct} {L:List Rl} (h: ¬ eW r L≠0):aI r=true∧L≠ []∧L.length≤64:=by
 unfold eW at h
 split at h
 ·
  exact absurd (by decide) h
 ·
  rename_i hr
  refine ⟨by simpa using hr,?_⟩
  unfold iF at h
  split at h
  ·
   exact absurd (by decide) h
  ·
   rename_i h1
   have hn:L≠ []:=fun e=>h1 (.inr (.inr (.inr e)))
   split at h
   ·
    exact absurd (by decide) h
   ·
    exact ⟨hn,by omega⟩
def byN (f:Rl→BitVec 64) (L:List Rl) (p:Pz):BitVec 64:=(L[p.a]?.map f).getD 0#64
theorem xv (f:Rl→BitVec 64) (r:Rct) (L:List Rl):u5 f r L=ja ((dD r L []).map (byN f L)):=rfl
set_option maxHeartbeats 16000000 in
theorem D7 (r:Rct) (L:List Rl) (lv:Value) (w:World) (hl:Reads w lv L.length (L.flatMap aV)):
  ay Tryz.prog 102 [.agg (bH r).toArray,lv] w (.tuple #[.agg #[vS (ovE r L).1.1,vS (ovE r L).1.2.1,vS (ovE r L).1.2.2],.int .i64 (ovE r L).2]):=by
 refine aq Tryz.func102 rfl Tryz.ntmps102 rfl ?_
 have hck:=fun (w' :World) (H:List Blk) (hm:Mem w w' H)=>FE r L lv w' (hl.of_w0 hm)
 unfold ovE
 by_cases hc:eW r L≠0
 ·
  rw [if_pos hc]
  repeat' (first|(apply aa (f:=140);exact rfl;exact rfl;(intro w' hm;exact hck w' _ hm))|refine sT ?_|refine sT2 ?_|refine sM fun _=> ?_|(refine sC ?_ ?_<;>intro hb<;>try omega)|fail)
  all_goals first
   |(exfalso;omega)
   |((refine du ?_);rfl)
   |trace_state
 rw [if_neg hc]
 obtain ⟨hr,hne,hlen⟩:=wy hc
 have hP:=fun (w' :World) (H:List Blk) (hm:Mem w w' H)=>Hm r hr L [] lv (.slice none 0 0) w' (hl.of_w0 hm) (EQ w') (by omega) (by simp)
 have hpa: ∀ p∈dD r L [],p.a<L.length:=fun p hp=>by
  have h1:p.a∈(dD r L []).map (·.a):=OQ.2 ⟨p,hp,rfl⟩
  obtain ⟨y,x,_,h2⟩:=xu.1 h1
  rw [h2]
  exact Ei hne
 have hpl:(dD r L []).length≤1000000:=by
  have h1:=kK (A:=L) (B:= []) (xs:=cB r.c1 r.c2 (aY r L++aY r [])) (cB r.r1 r.r2 (aX r L++aX r []))
  have h2:=ia r.c1 r.c2 (aY r L++aY r [])
  have h3:=ia r.r1 r.r2 (aX r L++aX r [])
  have h4:=dY r L
  have h5:=dY r []
  have h6:=dU r L
  have h7:=dU r []
  rw [Na] at h2 h3
  rw [O4] at h5 h7
  exact Nz h1 (Nz (Nat.mul_le_mul (show _≤801 by omega) (show _≤801 by omega)) (by decide))
 rw [xv,xv,xv]
 have hc0:eW r L=0:=by omega
 rw [hc0] at hck
 generalize dD r L []=PZ at hP hpa hpl ⊢
 refine aD 33 1 ?_
 refine aD 33 1 ?_
 refine aD 33 1 ?_
 repeat' (first|(apply aa (f:=140);exact rfl;exact rfl;(intro w' hm;exact hck w' _ hm))|(apply aC (f:=141);exact rfl;exact rfl;(intro w' hm;exact hP w' _ hm);rintro _ _ ⟨Ap,cp,rfl,rfl⟩)|refine sT ?_|refine sS ?_|refine sT2 ?_|refine sM fun _=> ?_|(refine sC ?_ ?_<;>intro hb<;>try omega)|fail)
 all_goals try (exfalso;omega)
 rename_i g2 g4
 refine ax [1,4,22,23] rfl (fun y:Nat × (Option Nat × Nat) × (Option Nat × Nat) × (Option Nat × Nat)=> [(7,sl y.2.1.1 y.1 y.2.1.2),(8,sl y.2.2.1.1 y.1 y.2.2.1.2),(9,sl y.2.2.2.1 y.1 y.2.2.2.2),(24,.int .i64 (y.1:Int))]) (fun y=> .own y.2.1.1 33 1 y.1 y.2.1.2 (((PZ.take y.1).map (byN (fun x=>x.read) L)).map vS):: .own y.2.2.1.1 33 1 y.1 y.2.2.1.2 (((PZ.take y.1).map (byN (fun x=>x.write) L)).map vS):: .own y.2.2.2.1 33 1 y.1 y.2.2.2.2 (((PZ.take y.1).map (byN (fun x=>x.own) L)).map vS):: .own Ap 191 6 PZ.length cp (PZ.flatMap db):: .box g4 35 [vS 0#64,vS 0#64,vS 0#64]:: []) (fun y=>y.1≤PZ.length) (fun y=>PZ.length - y.1) (0,(none,0),(none,0),(none,0)) (Ns _) sB mS ?_
 rintro ⟨i,⟨A7,c7⟩,⟨A8,c8⟩,⟨A9,c9⟩⟩ hi
 dsimp only at hi ⊢
 by_cases hlt:i<PZ.length
 ·
  refine eG (A:=Ap) pK (by omega) fun gp hAp=> ?_
  subst hAp
  have hrd:((PZ.flatMap db).drop (0+i*6)).take 6=db PZ[i]:=by rw [Ny];exact ed cR PZ i hlt
  have hpi:=hpa _ (NW hlt)
  have hsr: ∀ f:Rl→BitVec 64,((PZ.take (i+1)).map (byN f L)).map vS=((PZ.take i).map (byN f L)).map vS++ [vS (f (L[PZ[i].a]'hpi))]:=fun f=>by
   rw [Nk hlt,Ok,Ok]
   simp [byN,hpi]
  generalize PZ[i]=p at hrd hpi hsr
  have hl' :=hl
  obtain ⟨Al,cl,hlv,hl1,hl2,hl3⟩:=hl'
  subst hlv
  obtain ⟨gl,ol,rfl,hrl⟩:=hl3 (by omega)
  obtain ⟨_,_,_,_,hrr⟩:=Rl.ro (hrl.elem cI p.a hpi)
  generalize L[p.a]'hpi=x at hrr hsr
  repeat' (first|(apply ak (d:=26);exact rfl;apply aj (j:=i);exact rfl;exact rfl;exact hlt)|(apply ak (d:=27);exact rfl;apply aQ (ys:=db p);exact rfl;exact pK;exact hrd;exact rfl)|(apply ak (d:=32);exact rfl;apply aj (j:=p.a);exact rfl;exact rfl;exact hpi)|refine sT ?_|refine sS ?_|refine sT2 ?_|refine sN ?_|refine sO ?_|refine sM fun _=> ?_|(refine sC ?_ ?_<;>intro hb<;>try omega)|fail)
  all_goals try (exfalso;omega)
  rename_i g11 g12
  refine oh (id:=9) [3,4,8,9,13,14] [.box g12 35 [vS x.read,vS x.write,vS x.own]] 18 rfl rfl mS ?_
  repeat' (first|(apply cF (i:=0);(iterate 4 exact rfl);decide+kernel;decide+kernel;decide+kernel;(exact vC))|(apply cF (i:=1);(iterate 4 exact rfl);decide+kernel;decide+kernel;decide+kernel;(exact vC))|(apply cF (i:=2);(iterate 4 exact rfl);decide+kernel;decide+kernel;decide+kernel;(exact vC))|(apply cF (i:=5);(iterate 4 exact rfl);decide+kernel;decide+kernel;decide+kernel;(exact vC))|(apply cF (i:=6);(iterate 4 exact rfl);decide+kernel;decide+kernel;decide+kernel;(exact vC))|(apply cF (i:=7);(iterate 4 exact rfl);decide+kernel;decide+kernel;decide+kernel;(exact vC))|(apply cF (i:=10);(iterate 4 exact rfl);decide+kernel;decide+kernel;decide+kernel;(exact vC))|(apply cF (i:=11);(iterate 4 exact rfl);decide+kernel;decide+kernel;decide+kernel;(exact vC))|(apply cF (i:=12);(iterate 4 exact rfl);decide+kernel;decide+kernel;decide+kernel;(exact vC))|(apply cF (i:=15);(iterate 4 exact rfl);decide+kernel;decide+kernel;decide+kernel;(apply eJ;exact rfl))|(apply cF (i:=16);(iterate 4 exact rfl);decide+kernel;decide+kernel;decide+kernel;(apply eJ;exact rfl))|(apply cF (i:=17);(iterate 4 exact rfl);decide+kernel;decide+kernel;decide+kernel;(apply eJ;exact rfl))|(apply yt (i:=3) (j:=8) (k:=13);(iterate 9 exact rfl);decide+kernel)|(apply yt (i:=4) (j:=8) (k:=13);(iterate 9 exact rfl);decide+kernel)|(apply iH (i:=3) (j:=13);(iterate 6 exact rfl);decide+kernel)|(apply iH (i:=3) (j:=8);(iterate 6 exact rfl);decide+kernel)|(apply iH (i:=8) (j:=13);(iterate 6 exact rfl);decide+kernel)|(apply iH (i:=4) (j:=13);(iterate 6 exact rfl);decide+kernel)|(apply iH (i:=4) (j:=8);(iterate 6 exact rfl);decide+kernel)|(apply iH (i:=9) (j:=13);(iterate 6 exact rfl);decide+kernel)|(apply dA (i:=3);(iterate 3 exact rfl);decide+kernel)|(apply dA (i:=4);(iterate 3 exact rfl);decide+kernel)|(apply dA (i:=8);(iterate 3 exact rfl);decide+kernel)|(apply dA (i:=9);(iterate 3 exact rfl);decide+kernel)|(apply dA (i:=13);(iterate 3 exact rfl);decide+kernel)|(apply dA (i:=14);(iterate 3 exact rfl);decide+kernel)|(apply bA (d:=39) (A:=A7) (m:=1);(iterate 3 exact rfl);exact pK;(intro w hm;exact hm.cells_own pK);exact rfl;(simp [Value.oneCell',sl]);omega;(simp only [maxLen];omega);(intro B7 b7 hB7))|(apply bA (d:=44) (A:=A8) (m:=1);(iterate 3 exact rfl);exact pK;(intro w hm;exact hm.cells_own pK);exact rfl;(simp [Value.oneCell',sl]);omega;(simp only [maxLen];omega);(intro B8 b8 hB8))|(apply bA (d:=49) (A:=A9) (m:=1);(iterate 3 exact rfl);exact pK;(intro w hm;exact hm.cells_own pK);exact rfl;(simp [Value.oneCell',sl]);omega;(simp only [maxLen];omega);(intro B9 b9 hB9))|(apply od;decide+kernel)|(apply FG;(focus (exact mS;done)))|refine sT ?_|refine sS ?_|refine sT2 ?_|refine sN ?_|refine sM fun _=> ?_|(refine sC ?_ ?_<;>intro hb<;>try omega)|fail)
  all_goals first
   |(exfalso;omega)
   |(refine ⟨(i+1,(B7,b7),(B8,b8),(B9,b9)),hlt,by dsimp only;omega,by exact sB,by exact sB,?_⟩;dsimp only;rw [hsr,hsr,hsr];exact mS)
   |trace_state
 ·
  have e:i=PZ.length:=by omega
  subst e
  rw [N0]
  have hM:=fun (f:Rl→BitVec 64) (w' :World) (lv:Value) (h:Reads w' lv PZ.length ((PZ.map (byN f L)).map vS))=>FR (PZ.map (byN f L)) lv w' (by rw [Oi];exact h)
  repeat' (first|(apply aa (d:=52);exact rfl;exact rfl;(intro w' hm;exact hM (fun x=>x.read) w' _ (Reads.of_own (A:=A7) hm pK)))|(apply aa (d:=54);exact rfl;exact rfl;(intro w' hm;exact hM (fun x=>x.write) w' _ (Reads.of_own (A:=A8) hm pK)))|(apply aa (d:=56);exact rfl;exact rfl;(intro w' hm;exact hM (fun x=>x.own) w' _ (Reads.of_own (A:=A9) hm pK)))|refine sT ?_|refine sS ?_|refine sT2 ?_|refine sM fun _=> ?_|(refine sC ?_ ?_<;>intro hb<;>try omega)|fail)
  all_goals first
   |(exfalso;omega)
   |((refine du ?_);rfl)
   |trace_state
end Go.SL
namespace Go.SL
open Go
def xQ (lo hi:Int) (ps:List (Int × Int)):List (Int × Int):=dE ((fO (ry (cZ lo ps))).filter fun x=>decide (lo≤x) && decide (x≤hi)) hi
theorem FK:cB=xQ:=by funext lo hi ps;unfold cB xQ ui;rw [GI]
def Cn (r:Rct) (A B:List Rl):List Pz:=(xQ r.r1 r.r2 (aX r A++aX r B)).flatMap fun y=>jp A B y (xQ r.c1 r.c2 (aY r A++aY r B))
theorem EW:dD=Cn:=by funext r A B;unfold dD Cn;rw [FK]
def zz (f:Rl→BitVec 64) (r:Rct) (L:List Rl):BitVec 64:=ja ((Cn r L []).map fun p=>(L[p.a]?.map f).getD 0#64)
theorem Hq:u5=zz:=by funext f r L;unfold u5 zz;rw [EW]
def ovC (r:Rct) (L:List Rl):(BitVec 64 × BitVec 64 × BitVec 64) × Int:=
 if eW r L≠0 then ((0#64,0#64,0#64),eW r L) else ((zz (fun x=>x.read) r L,zz (fun x=>x.write) r L,zz (fun x=>x.own) r L),0)
theorem LD:ovE=ovC:=by funext r L;unfold ovE ovC;rw [Hq]
def bkR:List Rl:= [⟨⟨1,1,1024,1024⟩,7#64,7#64,1#64⟩,⟨⟨2,1,2,3⟩,1#64,1#64,1#64⟩]
def bkN:List Gn:= [⟨⟨2,1,2,3⟩,1,2#64,0,false⟩]
set_option maxRecDepth 100000
end Go.SL
namespace Go.SL
open Go Go.Proofs
attribute [local irreducible] W WL WQ WG WA WX WLI WR WT WC WE VOp RW thn blk bE scp ba bo bL aP FnIn FnP ceP uz mK nJ
def H7:List Et:= [⟨⟨1,1⟩,⟨#[53]⟩⟩,⟨⟨2,1⟩,⟨#[49,48]⟩⟩,⟨⟨1,2⟩,inB⟩,⟨⟨2,2⟩,⟨#[50,48]⟩⟩,⟨⟨1,3⟩,inC⟩,⟨⟨1,4⟩,inD⟩]
theorem su (w:World):ay Tryz.prog 84 [] w (.agg (bH ⟨1,1,1024,1024⟩).toArray):=by
 refine aq Tryz.func84 rfl Tryz.ntmps84 rfl ?_
 repeat' (first|refine sT ?_|refine sM fun _=> ?_|(refine sC ?_ ?_<;>intro hb<;>try omega)|fail)
 (refine eRC ?_)
 rfl
set_option maxHeartbeats 4000000 in
theorem FV (w:World):aP Tryz.prog 116 [] w fun v H=> ∃ ge gr gn,v= .tuple #[.slice (some ⟨ge,0,none⟩) 6 6,.slice (some ⟨gr,0,none⟩) 2 2,.slice (some ⟨gn,0,none⟩) 1 1]∧H= [.own (some ge) 52 3 6 6 (H7.flatMap aB),.own (some gr) 54 7 2 2 (bkR.flatMap aV),.own (some gn) 56 8 1 1 (bkN.flatMap aW)]:=by
 refine aq Tryz.func116 rfl Tryz.ntmps116 rfl ?_
 repeat' (first|(apply bp (id:=3) [0,6] [];kernel_rfl;kernel_rfl;kernel_rfl)|(apply bp (id:=4) [4] [];kernel_rfl;kernel_rfl;kernel_rfl)|(apply aa (f:=84);exact rfl;exact rfl;(intro w' _;exact su w'))|refine sT ?_|refine sS ?_|refine sW ?_|refine sM fun _=> ?_|(refine sC ?_ ?_<;>intro hb<;>try omega)|(refine sCW ?_ ?_<;>intro hb<;>try omega)|fail)
 rename_i ge gr gn
 exact mM eIO rfl rfl rfl rfl (H' := [.own (some ge) 52 3 6 6 (H7.flatMap aB),.own (some gr) 54 7 2 2 (bkR.flatMap aV),.own (some gn) 56 8 1 1 (bkN.flatMap aW)]) mS ⟨ge,gr,gn,rfl,rfl⟩
theorem ug (L:List Gn): ∀ u∈L.flatMap aW,u.oneCell' =true:=fun u hu=>by
 obtain ⟨a,_,h⟩:=NU.1 hu
 simp only [aW,NA,OL,or_false] at h
 rcases h with rfl|rfl|rfl|rfl|rfl|rfl|rfl|rfl<;>rfl
theorem ve (L:List Gn) (tv:Value) (w:World) (ht:Reads w tv L.length (L.flatMap aW)) (hlen:L.length≤1000000):
  aP Tryz.prog 37 [tv] w fun v H=> ∃ A cap,v=sl A L.length cap∧H= [.own A 56 8 L.length cap (L.flatMap aW)]:=by
 refine aq Tryz.func37 rfl Tryz.ntmps37 rfl ?_
 have hl:(L.flatMap aW).length=L.length*8:=aK bW L
 refine aD 56 8 ?_
 repeat' (first|(apply bT (n' :=0) (c:=0) (A:=none) (m:=L.length);(iterate 3 exact rfl);exact pK;(intro w hm;exact ht.of_w0 hm);exact hl;exact ug L;omega;(simp only [maxLen];omega);intro A' cap' hA)|refine sT ?_|refine sM fun _=> ?_|(refine sC ?_ ?_<;>intro hb<;>try omega)|fail)
 exact cG (.inl rfl) Tryz.results37 rfl (H' := [.own A' 56 8 (0+L.length) cap' ([]++L.flatMap aW)]) mS ⟨A',cap',by rw [Ny],by rw [Ny];rfl⟩
end Go.SL
namespace Go.SL
open Go Go.Proofs
attribute [local irreducible] W WL WQ WG WA WX WLI WR WT WC WE VOp RW thn blk bE scp ba bo bL aP FnIn FnP ceP
theorem Df (L:List Et) (tv:Value) (w:World) (ht:Reads w tv L.length (L.flatMap aB)) (hlen:L.length≤1000000):
  aP Tryz.prog 74 [tv] w fun v H=> ∃ A cap,v=sl A L.length cap∧H= [.own A 52 3 L.length cap (L.flatMap aB)]:=by
 have ht' :=ht
 obtain ⟨At,ct,rfl,ht1,ht2,ht3⟩:=ht
 refine aq Tryz.func74 rfl Tryz.ntmps74 rfl ?_
 have hl:(L.flatMap aB).length=L.length*3:=aK bg L
 refine aD 52 3 ?_
 repeat' (first|(apply ak;exact rfl;apply lB;exact rfl)|(apply dI;exact rfl;intro gb)|(apply bT (n' :=0) (c:=0) (A:=some _) (m:=L.length);(iterate 3 exact rfl);exact pK;(intro w hm;exact ht'.of_w0 hm);exact hl;exact jv L;omega;(simp only [maxLen];omega);intro A' cap' hA)|refine sT ?_|refine sM fun _=> ?_|(refine sC ?_ ?_<;>intro hb<;>try omega)|fail)
 ·
  have e:L.length=0:=by
   rcases N9 L.length with h|h
   ·
    exact h
   ·
    obtain ⟨g,o,rfl,_⟩:=ht3 h
    cases hb
  have e' :L= []:=NK e
  subst e'
  exact cG (.inl rfl) Tryz.results74 rfl (.refl _) ⟨none,0,rfl,rfl⟩
 ·
  exact cG (.inl rfl) Tryz.results74 rfl (H' := [.own A' 52 3 (0+L.length) cap' ([]++L.flatMap aB)]) mS ⟨A',cap',by rw [Ny],by rw [Ny];rfl⟩
theorem Dc (L:List Rl) (tv:Value) (w:World) (ht:Reads w tv L.length (L.flatMap aV)) (hlen:L.length≤1000000):
  aP Tryz.prog 75 [tv] w fun v H=> ∃ A cap,v=sl A L.length cap∧H= [.own A 54 7 L.length cap (L.flatMap aV)]:=by
 have ht' :=ht
 obtain ⟨At,ct,rfl,ht1,ht2,ht3⟩:=ht
 refine aq Tryz.func75 rfl Tryz.ntmps75 rfl ?_
 have hl:(L.flatMap aV).length=L.length*7:=aK cI L
 refine aD 54 7 ?_
 repeat' (first|(apply ak;exact rfl;apply lB;exact rfl)|(apply dI;exact rfl;intro gb)|(apply bT (n' :=0) (c:=0) (A:=some _) (m:=L.length);(iterate 3 exact rfl);exact pK;(intro w hm;exact ht'.of_w0 hm);exact hl;exact uf L;omega;(simp only [maxLen];omega);intro A' cap' hA)|refine sT ?_|refine sM fun _=> ?_|(refine sC ?_ ?_<;>intro hb<;>try omega)|fail)
 ·
  have e:L.length=0:=by
   rcases N9 L.length with h|h
   ·
    exact h
   ·
    obtain ⟨g,o,rfl,_⟩:=ht3 h
    cases hb
  have e' :L= []:=NK e
  subst e'
  exact cG (.inl rfl) Tryz.results75 rfl (.refl _) ⟨none,0,rfl,rfl⟩
 ·
  exact cG (.inl rfl) Tryz.results75 rfl (H' := [.own A' 54 7 (0+L.length) cap' ([]++L.flatMap aV)]) mS ⟨A',cap',by rw [Ny],by rw [Ny];rfl⟩
theorem Dd (L:List Gn) (tv:Value) (w:World) (ht:Reads w tv L.length (L.flatMap aW)) (hlen:L.length≤1000000):
  aP Tryz.prog 76 [tv] w fun v H=> ∃ A cap,v=sl A L.length cap∧H= [.own A 56 8 L.length cap (L.flatMap aW)]:=by
 have ht' :=ht
 obtain ⟨At,ct,rfl,ht1,ht2,ht3⟩:=ht
 refine aq Tryz.func76 rfl Tryz.ntmps76 rfl ?_
 have hl:(L.flatMap aW).length=L.length*8:=aK bW L
 refine aD 56 8 ?_
 repeat' (first|(apply ak;exact rfl;apply lB;exact rfl)|(apply dI;exact rfl;intro gb)|(apply bT (n' :=0) (c:=0) (A:=some _) (m:=L.length);(iterate 3 exact rfl);exact pK;(intro w hm;exact ht'.of_w0 hm);exact hl;exact ug L;omega;(simp only [maxLen];omega);intro A' cap' hA)|refine sT ?_|refine sM fun _=> ?_|(refine sC ?_ ?_<;>intro hb<;>try omega)|fail)
 ·
  have e:L.length=0:=by
   rcases N9 L.length with h|h
   ·
    exact h
   ·
    obtain ⟨g,o,rfl,_⟩:=ht3 h
    cases hb
  have e' :L= []:=NK e
  subst e'
  exact cG (.inl rfl) Tryz.results76 rfl (.refl _) ⟨none,0,rfl,rfl⟩
 ·
  exact cG (.inl rfl) Tryz.results76 rfl (H' := [.own A' 56 8 (0+L.length) cap' ([]++L.flatMap aW)]) mS ⟨A',cap',by rw [Ny],by rw [Ny];rfl⟩
theorem De (L:List Ev) (tv:Value) (w:World) (ht:Reads w tv L.length (L.flatMap aN)) (hlen:L.length≤1000000):
  aP Tryz.prog 77 [tv] w fun v H=> ∃ A cap,v=sl A L.length cap∧H= [.own A 58 9 L.length cap (L.flatMap aN)]:=by
 have ht' :=ht
 obtain ⟨At,ct,rfl,ht1,ht2,ht3⟩:=ht
 refine aq Tryz.func77 rfl Tryz.ntmps77 rfl ?_
 have hl:(L.flatMap aN).length=L.length*9:=aK fk L
 refine aD 58 9 ?_
 repeat' (first|(apply ak;exact rfl;apply lB;exact rfl)|(apply dI;exact rfl;intro gb)|(apply bT (n' :=0) (c:=0) (A:=some _) (m:=L.length);(iterate 3 exact rfl);exact pK;(intro w hm;exact ht'.of_w0 hm);exact hl;exact uh L;omega;(simp only [maxLen];omega);intro A' cap' hA)|refine sT ?_|refine sM fun _=> ?_|(refine sC ?_ ?_<;>intro hb<;>try omega)|fail)
 ·
  have e:L.length=0:=by
   rcases N9 L.length with h|h
   ·
    exact h
   ·
    obtain ⟨g,o,rfl,_⟩:=ht3 h
    cases hb
  have e' :L= []:=NK e
  subst e'
  exact cG (.inl rfl) Tryz.results77 rfl (.refl _) ⟨none,0,rfl,rfl⟩
 ·
  exact cG (.inl rfl) Tryz.results77 rfl (H' := [.own A' 58 9 (0+L.length) cap' ([]++L.flatMap aN)]) mS ⟨A',cap',by rw [Ny],by rw [Ny];rfl⟩
theorem Db (L:List Rv) (tv:Value) (w:World) (ht:Reads w tv L.length (L.flatMap bD)) (hlen:L.length≤1000000):
  aP Tryz.prog 78 [tv] w fun v H=> ∃ A cap,v=sl A L.length cap∧H= [.own A 62 11 L.length cap (L.flatMap bD)]:=by
 have ht' :=ht
 obtain ⟨At,ct,rfl,ht1,ht2,ht3⟩:=ht
 refine aq Tryz.func78 rfl Tryz.ntmps78 rfl ?_
 have hl:(L.flatMap bD).length=L.length*11:=aK fj L
 refine aD 62 11 ?_
 repeat' (first|(apply ak;exact rfl;apply lB;exact rfl)|(apply dI;exact rfl;intro gb)|(apply bT (n' :=0) (c:=0) (A:=some _) (m:=L.length);(iterate 3 exact rfl);exact pK;(intro w hm;exact ht'.of_w0 hm);exact hl;exact ud L;omega;(simp only [maxLen];omega);intro A' cap' hA)|refine sT ?_|refine sM fun _=> ?_|(refine sC ?_ ?_<;>intro hb<;>try omega)|fail)
 ·
  have e:L.length=0:=by
   rcases N9 L.length with h|h
   ·
    exact h
   ·
    obtain ⟨g,o,rfl,_⟩:=ht3 h
    cases hb
  have e' :L= []:=NK e
  subst e'
  exact cG (.inl rfl) Tryz.results78 rfl (.refl _) ⟨none,0,rfl,rfl⟩
 ·
  exact cG (.inl rfl) Tryz.results78 rfl (H' := [.own A' 62 11 (0+L.length) cap' ([]++L.flatMap bD)]) mS ⟨A',cap',by rw [Ny],by rw [Ny];rfl⟩
end Go.SL

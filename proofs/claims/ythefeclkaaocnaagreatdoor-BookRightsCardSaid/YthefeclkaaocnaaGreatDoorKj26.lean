/-
  Lemmas and walks, put together: Hj Sl33 Hk Hl Sl34 Hm Sl35 Hn.
-/
import Derived.Test.YthefeclkaaocnaaGreatDoorKj25
set_option linter.unusedSimpArgs false
set_option linter.unusedVariables false
set_option maxRecDepth 20000
namespace Go.SL
open Go Go.Proofs
attribute [local irreducible] W WL WQ WG WA WX WLI WR WT WC WE VOp RW thn blk bG scp bg bi bT aQ FnIn FnP ceP
--
theorem I7 {l m:List Pz} {p:Pz} (hm:m≠ []):l++jU m p=jU (l++m) p:=by
 have e:=Ph hm
 generalize hd:m.dropLast=d at e
 generalize m.getLast hm=q at e
 subst e
 unfold jU
 rw [← OA,List.getLast?_concat,List.getLast?_concat]
 dsimp only
 rw [Qj,Qj]
 split<;>simp
theorem wP {O:List Pz} {q p:Pz}:jU (O++ [q]) p=if q.a=p.a∧q.b=p.b then O++ [⟨⟨q.rect.c1,q.rect.r1,p.rect.c2,q.rect.r2⟩,q.a,q.b⟩] else O++ [q]++ [p]:=by
 unfold jU
 rw [List.getLast?_concat]
 dsimp only
 rw [Qj]
theorem EA {A B:List Rl} {y:Int × Int} (xs:List (Int × Int)):(jR A B y xs).length≤xs.length:=by
 induction xs using sv with
 |h0=>exact NJ _
 |h1 xs x ih=>
  rw [ll,ND,NG]
  generalize jR A B y xs=l at ih
  unfold jU
  cases h:l.getLast? with
  |none=>simp
  |some q=>
   dsimp only
   split
   ·
    rw [ND,List.length_dropLast,NG];omega
   ·
    rw [ND,NG];omega
theorem zx {A B:List Rl} {y:Int × Int}:jR A B y []= []:=rfl
def jg (A B:List Rl) (ys xs:List (Int × Int)):List Pz:=ys.flatMap fun y=>jR A B y xs
theorem zu {A B:List Rl} {ys xs:List (Int × Int)} {y:Int × Int}:jg A B (ys++ [y]) xs=jg A B ys xs++jR A B y xs:=by unfold jg;simp
theorem lU {A B:List Rl} {xs:List (Int × Int)}: ∀ ys:List (Int × Int),(jg A B ys xs).length≤ys.length*xs.length
 | []=>by simp [jg]
 |y::ys=>by
  have h1:=lU (A:=A) (B:=B) (xs:=xs) ys
  have h2:=EA (A:=A) (B:=B) (y:=y) xs
  unfold jg at h1 ⊢
  rw [NU,ND,N8,Nat.succ_mul]
  omega
theorem L9 {A B:List Rl} {y:Int × Int} (xs:List (Int × Int)): ∀ q∈jR A B y xs,q.rect.r1=y.1∧ ∃ x∈xs,q.rect.c1=x.1:=by
 induction xs using sv with
 |h0=>intro q hq;cases hq
 |h1 xs x ih=>
  intro q hq
  rw [ll] at hq
  by_cases hn:jR A B y xs= []
  ·
   rw [hn] at hq
   have:q=ng A B y x:=by simpa [jU] using hq
   subst this
   exact ⟨rfl,x,by simp,rfl⟩
  ·
   have e:=Ph hn
   generalize (jR A B y xs).dropLast=d at e
   generalize (jR A B y xs).getLast hn=z at e
   rw [← e] at hq ih
   rw [wP] at hq
   have hz:=ih z (by simp)
   split at hq
   ·
    rcases Ol.1 hq with hq|hq
    ·
     obtain ⟨h1,x',h2,h3⟩:=ih q (by simp [hq])
     exact ⟨h1,x',by simp [h2],h3⟩
    ·
     rw [Ov.1 hq]
     obtain ⟨h1,x',h2,h3⟩:=hz
     exact ⟨h1,x',by simp [h2],h3⟩
   ·
    rcases Ol.1 hq with hq|hq
    ·
     obtain ⟨h1,x',h2,h3⟩:=ih q hq
     exact ⟨h1,x',by simp [h2],h3⟩
    ·
     rw [Ov.1 hq]
     exact ⟨rfl,x,by simp,rfl⟩
theorem zW {r:Rct} {A B:List Rl} (hrs:1≤r.c1∧r.c1≤r.c2∧r.c2≤1024∧1≤r.r1∧r.r1≤r.r2∧r.r2≤1024): ∀ p∈dJ r A B,tS p:=fun p hp=>by
 obtain ⟨y,hy,hp⟩:=OL.1 hp
 obtain ⟨h1,x,hx,h2⟩:=L9 _ p hp
 have h3:=eJ hy
 have h4:=eJ hx
 unfold tS
 omega
set_option maxHeartbeats 16000000 in
theorem Iq (r:Rct) (hr:aF r=true) (A B:List Rl) (la lb:Value) (w:World) (hla:Reads w la A.length (A.flatMap bn)) (hlb:Reads w lb B.length (B.flatMap bn)) (hA:A.length≤200) (hB:B.length≤200):
    aQ Tryz.prog 82 [.agg (bQ r).toArray,la,lb] w fun v H=> ∃ Ap cap,v=sl Ap (dJ r A B).length cap∧H= [.own Ap 145 6 (dJ r A B).length cap ((dJ r A B).flatMap dr)]:=by
  refine aq Tryz.func82 rfl Tryz.ntmps82 rfl ?_
  have hrs:=cN.1 hr
  have hZ:InZ (dJ r A B):=by
    refine ⟨xV r A B,zW hrs,?_⟩
    have h1:=lU (A:=A) (B:=B) (xs:=cE r.c1 r.c2 (aU r A++aU r B)) (cE r.r1 r.r2 (aS r A++aS r B))
    have h2:=iG r.c1 r.c2 (aU r A++aU r B)
    have h3:=iG r.r1 r.r2 (aS r A++aS r B)
    have h4:=eB r A
    have h5:=eB r B
    have h6:=d9 r A
    have h7:=d9 r B
    rw [ND] at h2 h3
    refine Ok h1 (Ok (Nat.mul_le_mul (show _≤801 by omega) (show _≤801 by omega)) (by decide))
  have hnA:=fun (gr gc gw:Nat)=>EI r A la gr gc gw none none 0 0 [] [] [] w hla (by simp;omega) (by simp;omega)
  have hnB:=fun (gr gc gw:Nat) (A1 A2:Option Nat) (c1 c2:Nat)=>EI r B lb gr gc gw A1 A2 c1 c2 (aU r A) (aS r A) [] w hlb (by have:=eB r A;omega) (by have:=d9 r A;omega)
  have hcl:(aU r A++aU r B).length≤400:=by have:=eB r A;have:=eB r B;rw [ND];omega
  have hwl:(aS r A++aS r B).length≤400:=by have:=d9 r A;have:=d9 r B;rw [ND];omega
  have hcs: ∀ p∈aU r A++aU r B,0≤p.1∧p.1≤100000∧0≤p.2∧p.2≤100000:=fun p hp=>(Ol.1 hp).elim (qk p) (qk p)
  have hws: ∀ p∈aS r A++aS r B,0≤p.1∧p.1≤100000∧0≤p.2∧p.2≤100000:=fun p hp=>(Ol.1 hp).elim (pT p) (pT p)
  have hb1:=fun (w' :World) (lv:Value) (h:Reads w' lv _ _)=>Bn r.c1 r.c2 (aU r A++aU r B) lv w' h (by omega) (by omega) (by omega) hcs
  have hb2:=fun (w' :World) (lv:Value) (h:Reads w' lv _ _)=>Bn r.r1 r.r2 (aS r A++aS r B) lv w' h (by omega) (by omega) (by omega) hws
  have hxl:=iG r.c1 r.c2 (aU r A++aU r B)
  have hyl:=iG r.r1 r.r2 (aS r A++aS r B)
  have hpf:dJ r A B=jg A B (cE r.r1 r.r2 (aS r A++aS r B)) (cE r.c1 r.c2 (aU r A++aU r B)):=rfl
  generalize dJ r A B=PZ at hZ hpf ⊢
  generalize hX:cE r.c1 r.c2 (aU r A++aU r B)=xB at hb1 hxl hpf
  generalize hY:cE r.r1 r.r2 (aS r A++aS r B)=yB at hb2 hyl hpf
  generalize hCO:aU r A++aU r B=CO at hb1 hcl hxl
  generalize hRO:aS r A++aS r B=RO at hb2 hwl hyl
  refine aP 143 2 ?_
  refine aP 143 2 ?_
  repeat' (first|(apply lc (d:=21);exact rfl;exact rfl;infer_instance;exact rfl;exact FnIn.msub (hnA _ _ _) (by simp only [ry,NN,NF,NH];exact mS);rintro _ _ ⟨rfl,A1,c1,A2,c2,rfl⟩)|(apply lc (d:=24);exact rfl;exact rfl;infer_instance;exact rfl;exact FnIn.msub (hnB _ _ _ A1 A2 c1 c2) (by simp only [ry,NN,NF,NH];exact mS);rintro _ _ ⟨rfl,A3,c3,A4,c4,rfl⟩)|refine sT ?_|refine sS ?_|refine sT2 ?_|refine sM fun _=> ?_|(refine sC ?_ ?_<;>intro hb<;>try omega)|exact cT|fail)
  rename_i g3 g7 g8
  rw [hCO,hRO]
  simp only [ry,NN,NF,NH]
  refine lN (fun _:Option Nat × Nat × Option Nat × Nat=> [(1,la),(2,lb),(3,.pointer (some ⟨g3,0,none⟩)),(7,.pointer (some ⟨g7,0,none⟩)),(8,.pointer (some ⟨g8,0,none⟩))]) (fun y=> .box g7 210 [sl y.1 xB.length y.2.1]:: .own y.1 143 2 xB.length y.2.1 (xB.flatMap du):: .box g8 210 [sl y.2.2.1 yB.length y.2.2.2]:: .own y.2.2.1 143 2 yB.length y.2.2.2 (yB.flatMap du):: []) (fun _=>True) ?_ ?_
  · refine xx (id:=5) [4,5,10,11,12,13] [.box g3 33 (bQ r)] 14 rfl rfl mS ?_
    repeat' (first|(apply gM (i:=0);(iterate 4 exact rfl);decide+kernel;decide+kernel;decide+kernel;(exact vC))|(apply gM (i:=1);(iterate 4 exact rfl);decide+kernel;decide+kernel;decide+kernel;(exact vC))|(apply gM (i:=2);(iterate 4 exact rfl);decide+kernel;decide+kernel;decide+kernel;(exact vC))|(apply gM (i:=3);(iterate 4 exact rfl);decide+kernel;decide+kernel;decide+kernel;(exact vC))|(apply gM (i:=6);(iterate 4 exact rfl);decide+kernel;decide+kernel;decide+kernel;(exact vC))|(apply gM (i:=7);(iterate 4 exact rfl);decide+kernel;decide+kernel;decide+kernel;(exact vC))|(apply gM (i:=8);(iterate 4 exact rfl);decide+kernel;decide+kernel;decide+kernel;(exact vC))|(apply gM (i:=9);(iterate 4 exact rfl);decide+kernel;decide+kernel;decide+kernel;(exact vC))|(apply kF (i:=4) (j:=10);(iterate 6 exact rfl);decide+kernel)|(apply kF (i:=5) (j:=10);(iterate 6 exact rfl);decide+kernel)|(apply kF (i:=12) (j:=13);(iterate 6 exact rfl);decide+kernel)|(apply gq (i:=4);(iterate 3 exact rfl);decide+kernel)|(apply gq (i:=5);(iterate 3 exact rfl);decide+kernel)|(apply gq (i:=10);(iterate 3 exact rfl);decide+kernel)|(apply gq (i:=11);(iterate 3 exact rfl);decide+kernel)|(apply gq (i:=12);(iterate 3 exact rfl);decide+kernel)|(apply gq (i:=13);(iterate 3 exact rfl);decide+kernel)|(apply aG (d:=30);exact rfl;exact rfl;(intro w' hm;exact hb1 w' _ (Reads.of_own (A:=A3) hm pK));rintro _ _ ⟨A5,c5,rfl,rfl⟩)|(apply aG (d:=36);exact rfl;exact rfl;(intro w' hm;exact hb2 w' _ (Reads.of_own (A:=A4) hm pK));rintro _ _ ⟨A6,c6,rfl,rfl⟩)|(apply xv;decide+kernel)|(apply JG;(focus (exact mS;done)))|refine sT ?_|refine sS ?_|refine sT2 ?_|refine sM fun _=> ?_|(refine sC ?_ ?_<;>intro hb<;>try omega)|exact cT|fail)
    all_goals first
      |(exfalso;omega)
      |(exact bf (A5,c5,A6,c6) trivial sB mS)
      |trace_state
  rintro ⟨A5,c5,A6,c6⟩ _
  dsimp only
  clear hnA hnB hb1 hb2 hX hY hCO hRO
  refine aP 145 6 ?_
  repeat' (first|refine sT ?_|refine sS ?_|refine sT2 ?_|refine sM fun _=> ?_|(refine sC ?_ ?_<;>intro hb<;>try omega)|exact cT|fail)
  refine ay [1,2,7,37,38] rfl (fun y:Nat × Option Nat × Nat=> [(10,sl y.2.1 (jg A B (yB.take y.1) xB).length y.2.2),(39,.int .i64 (y.1:Int))]) (fun y=> .own y.2.1 145 6 (jg A B (yB.take y.1) xB).length y.2.2 ((jg A B (yB.take y.1) xB).flatMap dr):: .box g7 210 [sl A5 xB.length c5]:: .own A5 143 2 xB.length c5 (xB.flatMap du):: .own A6 143 2 yB.length c6 (yB.flatMap du):: []) (fun y=>y.1≤yB.length) (fun y=>yB.length - y.1) (0,none,0) (NY _) sB mS ?_
  rintro ⟨j,Ao,co⟩ hj
  dsimp only at hj ⊢
  by_cases hjl:j<yB.length
  · refine gx (A:=A6) pK (by omega) fun g6 hA6=> ?_
    subst hA6
    have hrd:((yB.flatMap du).drop (0+j*2)).take 2=du yB[j]:=by rw [N7];exact fw jH yB j hjl
    have hsn:=zu (A:=A) (B:=B) (ys:=yB.take j) (xs:=xB) (y:=yB[j])
    rw [← NT hjl] at hsn
    have hpl:(jg A B (yB.take j) xB).length≤700000:=by
      have h1:=lU (A:=A) (B:=B) (xs:=xB) (yB.take j)
      refine Ok h1 (Ok (Nat.mul_le_mul (show _≤801 by rw [NZ];omega) (show _≤801 by omega)) (by decide))
    generalize yB[j]=y at hrd hsn
    generalize jg A B (yB.take j) xB=prev at hsn hpl ⊢
    repeat' (first|(apply ak (d:=41);exact rfl;apply aj (j:=j);exact rfl;exact rfl;exact hjl)|(apply ak (d:=42);exact rfl;apply aR (ys:=du y);exact rfl;exact pK;exact hrd;exact rfl)|refine sT ?_|refine sS ?_|refine sT2 ?_|refine sN ?_|refine sM fun _=> ?_|(refine sC ?_ ?_<;>intro hb<;>try omega)|exact cT|fail)
    all_goals try (exfalso;omega)
    rename_i g12
    refine ay [1,2,7,12,13,37,38,39,45,46] rfl (fun z:Nat × Option Nat × Nat=> [(10,sl z.2.1 (prev++jR A B y (xB.take z.1)).length z.2.2),(47,.int .i64 (z.1:Int))]) (fun z=> .own z.2.1 145 6 (prev++jR A B y (xB.take z.1)).length z.2.2 ((prev++jR A B y (xB.take z.1)).flatMap dr):: .box g12 143 (du y):: .box g7 210 [sl A5 xB.length c5]:: .own A5 143 2 xB.length c5 (xB.flatMap du):: .own (some g6) 143 2 yB.length c6 (yB.flatMap du):: []) (fun z=>z.1≤xB.length) (fun z=>xB.length - z.1) (0,Ao,co) (NY _) (by rw [Pj,zx,NM];exact sB) (by rw [Pj,zx,NM];exact mS) ?_
    rintro ⟨k,Az,cz⟩ hk
    dsimp only at hk ⊢
    by_cases hkl:k<xB.length
    · refine gx (A:=A5) pK (by omega) fun g5 hA5=> ?_
      subst hA5
      have hrx:((xB.flatMap du).drop (0+k*2)).take 2=du xB[k]:=by rw [N7];exact fw jH xB k hkl
      have hrn:=ll (A:=A) (B:=B) (y:=y) (xs:=xB.take k) (x:=xB[k])
      rw [← NT hkl] at hrn
      have hcl2:=EA (A:=A) (B:=B) (y:=y) (xB.take k)
      rw [NZ] at hcl2
      generalize xB[k]=x at hrx hrn
      have hw1:=fun (w' :World) (H:List Blk) (hm:Mem w w' H)=>yY (fj y x) A la w' (hla.of_w0 hm) (by omega)
      have hw2:=fun (w' :World) (H:List Blk) (hm:Mem w w' H)=>yY (fj y x) B lb w' (hlb.of_w0 hm) (by omega)
      have hp:ng A B y x=⟨fj y x,ib (fj y x) A,ib (fj y x) B⟩:=rfl
      rw [hp] at hrn
      generalize ib (fj y x) A=wa at hw1 hrn
      generalize ib (fj y x) B=wb at hw2 hrn
      clear hp
      repeat' (first|(apply ak (d:=49);exact rfl;apply aj (j:=k);exact rfl;exact rfl;exact hkl)|(apply ak (d:=50);exact rfl;apply aR (ys:=du x);exact rfl;exact pK;exact hrx;exact rfl)|refine sT ?_|refine sS ?_|refine sT2 ?_|refine sN ?_|refine sM fun _=> ?_|(refine sC ?_ ?_<;>intro hb<;>try omega)|exact cT|fail)
      all_goals try (exfalso;omega)
      rename_i g15 g16
      generalize jR A B y (xB.take k)=cur at hrn hcl2 ⊢
      have hOl:(prev++cur).length≤800000:=by rw [ND];omega
      refine nU (id:=15) 10 (.box g16 145 (dr ⟨fj y x,wa,wb⟩):: .own Az 145 6 (prev++cur).length cz ((prev++cur).flatMap dr):: .box g12 143 (du y):: .box g7 210 [sl (some g5) xB.length c5]:: .own (some g5) 143 2 xB.length c5 (xB.flatMap du):: .own (some g6) 143 2 yB.length c6 (yB.flatMap du):: []) (by kernel_rfl) (by kernel_rfl) rfl ?_
      repeat' (first|(apply E9 (f' :=132) (f:=60);exact rfl;decide+kernel;exact rfl;exact rfl;(intro w' hm;first|exact hw1 w' _ hm|exact hw2 w' _ hm))|(apply yZ (f:=60) (d:=69);exact rfl;decide+kernel;exact rfl;apply nW;(iterate 5 exact rfl))|(apply mF;exact rfl;exact rfl;exact pK;(iterate 3 exact rfl);exact QB rfl;exact mS)|refine sT ?_|refine sS ?_|refine sT2 ?_|refine sG2 ?_|refine sG ?_|refine sM fun _=> ?_|(refine sC ?_ ?_<;>intro hb<;>try omega)|exact cT|fail)
      all_goals try (exfalso;omega)
      rcases OJ cur.length with h0|hpos
      · have hc0:cur= []:=Pk.1 h0
        subst hc0
        have hg:jU [] (⟨fj y x,wa,wb⟩:Pz)= [⟨fj y x,wa,wb⟩]:=rfl
        rw [hg] at hrn
        rw [NM] at hOl ⊢
        repeat' (first|(apply gN (id:=17);kernel_rfl;kernel_rfl)|(apply cR (d:=99) (A:=Az) (m:=1);(iterate 3 exact rfl);exact pK;(intro w hm;exact hm.cells_own pK);exact rfl;(simp [Value.oneCell',sl,dr]);omega;(simp only [maxLen];omega);(intro A' cap' hA'))|refine sT ?_|refine sS ?_|refine sQ ?_|refine sT2 ?_|refine sQ2 ?_|refine sN ?_|refine sNQ ?_|refine sD ?_|refine sM fun _=> ?_|(refine sC ?_ ?_<;>intro hb<;>try omega)|(refine sCQ ?_ ?_<;>intro hb<;>try omega)|exact cT|fail)
        all_goals first
          |(exfalso;omega)
          | (refine ⟨(k + 1, A', cap'), hkl, by dsimp only; omega, ?_, by exact sB, ?_⟩
             · dsimp only;rw [hrn,List.length_append];exact sB
             · dsimp only;rw [hrn,List.length_append,List.flatMap_append];exact mS)
          |trace_state
      · have hne:cur≠ []:=O2.1 hpos
        have hga:=I7 (l:=prev) (p:=(⟨fj y x,wa,wb⟩:Pz)) hne
        rw [← hrn] at hga
        have hlt2:prev.length<(prev++cur).length:=by rw [ND];omega
        have hOe:=Ph (l:=prev++cur) (by simp [hne])
        generalize (prev++cur).dropLast=O at hOe
        generalize (prev++cur).getLast _=q at hOe
        rw [← hOe] at hga hlt2 hOl ⊢
        rw [wP] at hga
        have hOn:(O++ [q]).length=O.length+1:=by simp
        rw [hOn] at hOl hlt2
        have hq2:(((O++ [q]).flatMap dr).drop (0+O.length*6+4)).take 2=lI (q.a,q.b):=by
          have h1:=fw cW (O++ [q]) O.length (by simp)
          have h2:=congrArg (List.drop 4) h1
          rw [List.drop_take,O0] at h2
          simp only [List.getElem_concat_length] at h2
          rw [N7]
          exact h2
        refine gx (A:=Az) pK (by omega) fun gz hAz=> ?_
        subst hAz
        obtain ⟨c,hc⟩: ∃ c,decide ((q.a,q.b)=(wa,wb))=c:=⟨_,rfl⟩
        cases c with
        |true=>
          have hab:q.a=wa∧q.b=wb:=by simpa using hc
          rw [if_pos hab] at hga
          have hset:=F6 cW (O++ [q]) O.length 2 (by simp) (by decide) (.int .i64 x.2) ⟨⟨q.rect.c1,q.rect.r1,x.2,q.rect.r2⟩,q.a,q.b⟩ (by simp only [List.getElem_concat_length];rfl)
          rw [PV _ _ (NJ _),Qp,List.set_cons_zero] at hset
          have hOl3:((O++ [q]).flatMap dr).length=(O.length+1)*6:=by rw [aI cW,hOn]
          rw [hOn]
          repeat' (first|(apply gN (id:=17);kernel_rfl;kernel_rfl)|(apply aK (d:=79);exact rfl;apply dM (a:=O.length+1);exact rfl;exact rfl;omega;(simp only [maxLen];omega))|(apply aK (d:=80);exact rfl;apply aj (j:=O.length);exact rfl;exact rfl;omega)|(apply aK (d:=82);exact rfl;apply aR (ys:=lI (q.a,q.b));exact rfl;exact pK;exact hq2;exact rfl)|(apply aK (d:=85);exact rfl;apply Ei (a:=(q.a,q.b)) (b:=(wa,wb)) hc;exact rfl;exact rfl)|(apply ak (d:=89);exact rfl;apply dM (a:=O.length+1);exact rfl;exact rfl;omega;(simp only [maxLen];omega))|(apply ak (d:=93);exact rfl;apply aj (j:=O.length);exact rfl;exact rfl;omega)|(apply gL (v:= .int .i64 x.2) (off:=0+O.length*6+2);exact rfl;exact rfl;exact pK;exact rfl;(rw [hOl3];omega);rw [N7,hset])|refine sT ?_|refine sS ?_|refine sQ ?_|refine sT2 ?_|refine sQ2 ?_|refine sN ?_|refine sNQ ?_|refine sD ?_|refine sM fun _=> ?_|(refine sC ?_ ?_<;>intro hb<;>try omega)|(refine sCQ ?_ ?_<;>intro hb<;>try omega)|exact cT|fail)
          all_goals first
            |(exfalso;omega)
            | (refine ⟨(k + 1, some gz, cz), hkl, by dsimp only; omega, ?_, by exact sB, ?_⟩
               · dsimp only;rw [hga,List.length_append];exact sB
               · dsimp only;rw [hga,List.length_append];exact mS)
            |trace_state
        |false=>
          have hab: ¬ (q.a=wa∧q.b=wb):=by simpa using hc
          rw [if_neg hab] at hga
          rw [hOn]
          repeat' (first|(apply gN (id:=17);kernel_rfl;kernel_rfl)|(apply aK (d:=79);exact rfl;apply dM (a:=O.length+1);exact rfl;exact rfl;omega;(simp only [maxLen];omega))|(apply aK (d:=80);exact rfl;apply aj (j:=O.length);exact rfl;exact rfl;omega)|(apply aK (d:=82);exact rfl;apply aR (ys:=lI (q.a,q.b));exact rfl;exact pK;exact hq2;exact rfl)|(apply aK (d:=85);exact rfl;apply Ei (a:=(q.a,q.b)) (b:=(wa,wb)) hc;exact rfl;exact rfl)|(apply cR (d:=99) (A:=some gz) (m:=1);(iterate 3 exact rfl);exact pK;(intro w hm;exact hm.cells_own pK);exact rfl;(simp [Value.oneCell',sl,dr]);omega;(simp only [maxLen];omega);(intro A' cap' hA'))|refine sT ?_|refine sS ?_|refine sQ ?_|refine sT2 ?_|refine sQ2 ?_|refine sN ?_|refine sNQ ?_|refine sD ?_|refine sM fun _=> ?_|(refine sC ?_ ?_<;>intro hb<;>try omega)|(refine sCQ ?_ ?_<;>intro hb<;>try omega)|exact cT|fail)
          all_goals first
            |(exfalso;omega)
            | (refine ⟨(k + 1, A', cap'), hkl, by dsimp only; omega, ?_, by exact sB, ?_⟩
               · dsimp only;rw [hga,List.length_append,hOn];exact sB
               · dsimp only;rw [hga,List.length_append,hOn,List.flatMap_append (xs:=O++ [q])];exact mS)
            |trace_state
    · have e:k=xB.length:=by omega
      subst e
      rw [OX,← hsn]
      repeat' (first|refine sT ?_|refine sS ?_|refine sT2 ?_|refine sN ?_|refine sM fun _=> ?_|(refine sC ?_ ?_<;>intro hb<;>try omega)|exact cT|fail)
      all_goals first
        |(exfalso;omega)
        |(refine ⟨(j+1,Az,cz),hjl,by dsimp only;omega,by exact sB,by exact sB,by exact mS⟩;done)
        |trace_state
  · have e:j=yB.length:=by omega
    subst e
    rw [OX,← hpf]
    have hS:=fun (w' :World) (H:List Blk) (hm:Mem w w' H) (lv:Value) (h:Reads w' lv _ _)=>vB PZ hZ lv w' h
    repeat' (first|(apply aa (d:=103);exact rfl;exact rfl;(intro w' hm;exact hS w' _ hm _ (Reads.of_own (A:=Ao) hm pK)))|refine sT ?_|refine sS ?_|refine sT2 ?_|refine sN ?_|refine sM fun _=> ?_|(refine sC ?_ ?_<;>intro hb<;>try omega)|exact cT|fail)
    all_goals first
      |(exfalso;omega)
      |(exact dF eIO rfl rfl mS ⟨Ao,co,rfl,rfl⟩)
      |trace_state
end Go.SL
namespace Go.SL
open Go Go.RowKit
section
variable {P:Program} {n:Fr} {w0:World} {Q:bO} {s:az} {H S:List Blk} {l:List Oper} {L:Array Bool} {f:Nat} {ty:TypeId} {p:String} {af:Array Edge} {es:List Nat} {gu:Option (Nat × Bool)}
theorem y4 {i j k:Nat} {op op' op2:Op} {dst dst' dst2:Option Tmp} {ty' ty2:TypeId} {p' p2:String} {af' af2:Array Edge} {gu' gu2:Option (Nat × Bool)} (hi:l[i]? =some ⟨dst,op,ty,p,af,gu⟩) (hj:l[j]? =some ⟨dst',op',ty',p',af',gu'⟩) (hl:l[k]? =some ⟨dst2,op2,ty2,p2,af2,gu2⟩)
  (hg:gok l s gu=some true) (hg' :gok l s gu' =some true) (hg2:gok l s gu2=some true)
  (hk:es.contains i=true) (hk' :es.contains j=true) (hk2:es.contains k=true) (hr:Region.ready .any l.toArray L= [i,j,k])
  (h:WL P n w0 #[] [⟨dst,op,ty,p,af,none⟩] (ceP S (WE P n w0 l S es Q f (L.setIfInBounds i true))) s H)
  (h' :WL P n w0 #[] [⟨dst',op',ty',p',af',none⟩] (ceP S (WE P n w0 l S es Q f (L.setIfInBounds j true))) s H)
  (h2:WL P n w0 #[] [⟨dst2,op2,ty2,p2,af2,none⟩] (ceP S (WE P n w0 l S es Q f (L.setIfInBounds k true))) s H):WE P n w0 l S es Q (f+1) L s H:=by
 intro a w hs hm hS hcl
 refine ⟨hS,fun h0=>(by rw [hr] at h0;cases h0),fun x hx=> ?_⟩
 rw [hr] at hx
 rcases NS.1 hx with e|hx
 ·
  subst e
  exact ⟨_,by simpa using hi,nT hi hg hk (by rw [hr];simp) h a w hs hm hcl⟩
 ·
  rcases NS.1 hx with e|hx
  ·
   subst e
   exact ⟨_,by simpa using hj,nT hj hg' hk' (by rw [hr];simp) h' a w hs hm hcl⟩
  ·
   have e:x=k:=by simpa using hx
   subst e
   exact ⟨_,by simpa using hl,nT hl hg2 hk2 (by rw [hr];simp) h2 a w hs hm hcl⟩
end
end Go.SL
namespace Go.SL
open Go Go.Proofs
attribute [local irreducible] W WL WQ WG WA WX WLI WR WT WC WE VOp RW thn blk bG scp bg bi bT aQ FnIn FnP ceP
--
def jk (r:Rct) (L:List Rl):Int:=if aF r=false then 3 else (eL 64 L).2
theorem Gg (r:Rct) (L:List Rl) (lv:Value) (w:World) (hl:Reads w lv L.length (L.flatMap bn)):ax Tryz.prog 81 [.agg (bQ r).toArray,lv] w (.int .i64 (jk r L)):=by
 refine aq Tryz.func81 rfl Tryz.ntmps81 rfl ?_
 have h1:=fun w=>gR r w
 have h2:=fun (w' :World) (H:List Blk) (hm:Mem w w' H)=>ky 64 L lv w' (hl.of_w0 hm)
 unfold jk
 repeat' (first|(apply aa;exact rfl;exact rfl;(intro w hm;exact h1 w))|(apply aa (f:=51);exact rfl;exact rfl;(intro w' hm;exact h2 w' _ hm))|refine sT ?_|refine sM fun _=> ?_|(refine sC ?_ ?_<;>intro hb<;>try omega)|fail)
 all_goals first
  |(exfalso;omega)
  |((refine rT1 ?_);rw [if_pos (iy hb)];done)
  |((refine rT1 ?_);rw [if_neg (fg hb)];done)
  |trace_state
def ovE (r:Rct) (L:List Rl):(BitVec 64 × BitVec 64 × BitVec 64) × Int:=
 if jk r L≠0 then ((0#64,0#64,0#64),jk r L) else ((uk (fun x=>x.read) r L,uk (fun x=>x.write) r L,uk (fun x=>x.own) r L),0)
theorem Gf {r:Rct} {L:List Rl} (h: ¬ jk r L≠0):aF r=true∧L≠ []∧L.length≤64:=by
 unfold jk at h
 split at h
 ·
  exact absurd (by decide) h
 ·
  rename_i hr
  refine ⟨by simpa using hr,?_⟩
  unfold eL at h
  split at h
  ·
   exact absurd (by decide) h
  ·
   rename_i h1
   have hn:L≠ []:=fun e=>h1 (.inr (.inr (.inr e)))
   split at h
   ·
    exact absurd (by decide) h
   ·
    exact ⟨hn,by omega⟩
def byN (f:Rl→BitVec 64) (L:List Rl) (p:Pz):BitVec 64:=(L[p.a]?.map f).getD 0#64
theorem xX (f:Rl→BitVec 64) (r:Rct) (L:List Rl):uk f r L=sj ((dJ r L []).map (byN f L)):=rfl
set_option maxHeartbeats 16000000 in
theorem yF (r:Rct) (L:List Rl) (lv:Value) (w:World) (hl:Reads w lv L.length (L.flatMap bn)):
  ax Tryz.prog 30 [.agg (bQ r).toArray,lv] w (.tuple #[.agg #[vS (ovE r L).1.1,vS (ovE r L).1.2.1,vS (ovE r L).1.2.2],.int .i64 (ovE r L).2]):=by
 refine aq Tryz.func30 rfl Tryz.ntmps30 rfl ?_
 have hck:=fun (w' :World) (H:List Blk) (hm:Mem w w' H)=>Gg r L lv w' (hl.of_w0 hm)
 unfold ovE
 by_cases hc:jk r L≠0
 ·
  rw [if_pos hc]
  repeat' (first|(apply aa (f:=81);exact rfl;exact rfl;(intro w' hm;exact hck w' _ hm))|refine sT ?_|refine sT2 ?_|refine sM fun _=> ?_|(refine sC ?_ ?_<;>intro hb<;>try omega)|fail)
  all_goals first
   |(exfalso;omega)
   |((refine eV ?_);rfl)
   |trace_state
 rw [if_neg hc]
 obtain ⟨hr,hne,hlen⟩:=Gf hc
 have hP:=fun (w' :World) (H:List Blk) (hm:Mem w w' H)=>Iq r hr L [] lv (.slice none 0 0) w' (hl.of_w0 hm) (jD w') (by omega) (by simp)
 have hpa: ∀ p∈dJ r L [],p.a<L.length:=fun p hp=>by
  have h1:p.a∈(dJ r L []).map (·.a):=Pu.2 ⟨p,hp,rfl⟩
  obtain ⟨y,x,_,h2⟩:=xW.1 h1
  rw [h2]
  exact E7 hne
 have hpl:(dJ r L []).length≤1000000:=by
  have h1:=lU (A:=L) (B:= []) (xs:=cE r.c1 r.c2 (aU r L++aU r [])) (cE r.r1 r.r2 (aS r L++aS r []))
  have h2:=iG r.c1 r.c2 (aU r L++aU r [])
  have h3:=iG r.r1 r.r2 (aS r L++aS r [])
  have h4:=eB r L
  have h5:=eB r []
  have h6:=d9 r L
  have h7:=d9 r []
  rw [ND] at h2 h3
  rw [P9] at h5 h7
  exact Ok h1 (Ok (Nat.mul_le_mul (show _≤801 by omega) (show _≤801 by omega)) (by decide))
 rw [xX,xX,xX]
 have hc0:jk r L=0:=by omega
 rw [hc0] at hck
 generalize dJ r L []=PZ at hP hpa hpl ⊢
 refine aP 34 1 ?_
 refine aP 34 1 ?_
 refine aP 34 1 ?_
 repeat' (first|(apply aa (f:=81);exact rfl;exact rfl;(intro w' hm;exact hck w' _ hm))|(apply aG (f:=82);exact rfl;exact rfl;(intro w' hm;exact hP w' _ hm);rintro _ _ ⟨Ap,cp,rfl,rfl⟩)|refine sT ?_|refine sS ?_|refine sT2 ?_|refine sM fun _=> ?_|(refine sC ?_ ?_<;>intro hb<;>try omega)|fail)
 all_goals try (exfalso;omega)
 rename_i g2 g4
 refine ay [1,4,22,23] rfl (fun y:Nat × (Option Nat × Nat) × (Option Nat × Nat) × (Option Nat × Nat)=> [(7,sl y.2.1.1 y.1 y.2.1.2),(8,sl y.2.2.1.1 y.1 y.2.2.1.2),(9,sl y.2.2.2.1 y.1 y.2.2.2.2),(24,.int .i64 (y.1:Int))]) (fun y=> .own y.2.1.1 34 1 y.1 y.2.1.2 (((PZ.take y.1).map (byN (fun x=>x.read) L)).map vS):: .own y.2.2.1.1 34 1 y.1 y.2.2.1.2 (((PZ.take y.1).map (byN (fun x=>x.write) L)).map vS):: .own y.2.2.2.1 34 1 y.1 y.2.2.2.2 (((PZ.take y.1).map (byN (fun x=>x.own) L)).map vS):: .own Ap 145 6 PZ.length cp (PZ.flatMap dr):: .box g4 36 [vS 0#64,vS 0#64,vS 0#64]:: []) (fun y=>y.1≤PZ.length) (fun y=>PZ.length - y.1) (0,(none,0),(none,0),(none,0)) (NY _) sB mS ?_
 rintro ⟨i,⟨A7,c7⟩,⟨A8,c8⟩,⟨A9,c9⟩⟩ hi
 dsimp only at hi ⊢
 by_cases hlt:i<PZ.length
 ·
  refine gx (A:=Ap) pK (by omega) fun gp hAp=> ?_
  subst hAp
  have hrd:((PZ.flatMap dr).drop (0+i*6)).take 6=dr PZ[i]:=by rw [N7];exact fw cW PZ i hlt
  have hpi:=hpa _ (OD hlt)
  have hsr: ∀ f:Rl→BitVec 64,((PZ.take (i+1)).map (byN f L)).map vS=((PZ.take i).map (byN f L)).map vS++ [vS (f (L[PZ[i].a]'hpi))]:=fun f=>by
   rw [NT hlt,Pb,Pb]
   simp [byN,hpi]
  generalize PZ[i]=p at hrd hpi hsr
  have hl' :=hl
  obtain ⟨Al,cl,hlv,hl1,hl2,hl3⟩:=hl'
  subst hlv
  obtain ⟨gl,ol,rfl,hrl⟩:=hl3 (by omega)
  obtain ⟨_,_,_,_,hrr⟩:=Rl.ro (hrl.elem cK p.a hpi)
  generalize L[p.a]'hpi=x at hrr hsr
  repeat' (first|(apply ak (d:=26);exact rfl;apply aj (j:=i);exact rfl;exact rfl;exact hlt)|(apply ak (d:=27);exact rfl;apply aR (ys:=dr p);exact rfl;exact pK;exact hrd;exact rfl)|(apply ak (d:=32);exact rfl;apply aj (j:=p.a);exact rfl;exact rfl;exact hpi)|refine sT ?_|refine sS ?_|refine sT2 ?_|refine sN ?_|refine sO ?_|refine sM fun _=> ?_|(refine sC ?_ ?_<;>intro hb<;>try omega)|fail)
  all_goals try (exfalso;omega)
  rename_i g11 g12
  refine xx (id:=9) [3,4,8,9,13,14] [.box g12 36 [vS x.read,vS x.write,vS x.own]] 18 rfl rfl mS ?_
  repeat' (first|(apply gM (i:=0);(iterate 4 exact rfl);decide+kernel;decide+kernel;decide+kernel;(exact vC))|(apply gM (i:=1);(iterate 4 exact rfl);decide+kernel;decide+kernel;decide+kernel;(exact vC))|(apply gM (i:=2);(iterate 4 exact rfl);decide+kernel;decide+kernel;decide+kernel;(exact vC))|(apply gM (i:=5);(iterate 4 exact rfl);decide+kernel;decide+kernel;decide+kernel;(exact vC))|(apply gM (i:=6);(iterate 4 exact rfl);decide+kernel;decide+kernel;decide+kernel;(exact vC))|(apply gM (i:=7);(iterate 4 exact rfl);decide+kernel;decide+kernel;decide+kernel;(exact vC))|(apply gM (i:=10);(iterate 4 exact rfl);decide+kernel;decide+kernel;decide+kernel;(exact vC))|(apply gM (i:=11);(iterate 4 exact rfl);decide+kernel;decide+kernel;decide+kernel;(exact vC))|(apply gM (i:=12);(iterate 4 exact rfl);decide+kernel;decide+kernel;decide+kernel;(exact vC))|(apply gM (i:=15);(iterate 4 exact rfl);decide+kernel;decide+kernel;decide+kernel;(apply mN;exact rfl))|(apply gM (i:=16);(iterate 4 exact rfl);decide+kernel;decide+kernel;decide+kernel;(apply mN;exact rfl))|(apply gM (i:=17);(iterate 4 exact rfl);decide+kernel;decide+kernel;decide+kernel;(apply mN;exact rfl))|(apply y4 (i:=3) (j:=8) (k:=13);(iterate 9 exact rfl);decide+kernel)|(apply y4 (i:=4) (j:=8) (k:=13);(iterate 9 exact rfl);decide+kernel)|(apply kF (i:=3) (j:=13);(iterate 6 exact rfl);decide+kernel)|(apply kF (i:=3) (j:=8);(iterate 6 exact rfl);decide+kernel)|(apply kF (i:=8) (j:=13);(iterate 6 exact rfl);decide+kernel)|(apply kF (i:=4) (j:=13);(iterate 6 exact rfl);decide+kernel)|(apply kF (i:=4) (j:=8);(iterate 6 exact rfl);decide+kernel)|(apply kF (i:=9) (j:=13);(iterate 6 exact rfl);decide+kernel)|(apply gq (i:=3);(iterate 3 exact rfl);decide+kernel)|(apply gq (i:=4);(iterate 3 exact rfl);decide+kernel)|(apply gq (i:=8);(iterate 3 exact rfl);decide+kernel)|(apply gq (i:=9);(iterate 3 exact rfl);decide+kernel)|(apply gq (i:=13);(iterate 3 exact rfl);decide+kernel)|(apply gq (i:=14);(iterate 3 exact rfl);decide+kernel)|(apply cR (d:=39) (A:=A7) (m:=1);(iterate 3 exact rfl);exact pK;(intro w hm;exact hm.cells_own pK);exact rfl;(simp [Value.oneCell',sl]);omega;(simp only [maxLen];omega);(intro B7 b7 hB7))|(apply cR (d:=44) (A:=A8) (m:=1);(iterate 3 exact rfl);exact pK;(intro w hm;exact hm.cells_own pK);exact rfl;(simp [Value.oneCell',sl]);omega;(simp only [maxLen];omega);(intro B8 b8 hB8))|(apply cR (d:=49) (A:=A9) (m:=1);(iterate 3 exact rfl);exact pK;(intro w hm;exact hm.cells_own pK);exact rfl;(simp [Value.oneCell',sl]);omega;(simp only [maxLen];omega);(intro B9 b9 hB9))|(apply xv;decide+kernel)|(apply JG;(focus (exact mS;done)))|refine sT ?_|refine sS ?_|refine sT2 ?_|refine sN ?_|refine sM fun _=> ?_|(refine sC ?_ ?_<;>intro hb<;>try omega)|fail)
  all_goals first
   |(exfalso;omega)
   |(refine ⟨(i+1,(B7,b7),(B8,b8),(B9,b9)),hlt,by dsimp only;omega,by exact sB,by exact sB,?_⟩;dsimp only;rw [hsr,hsr,hsr];exact mS)
   |trace_state
 ·
  have e:i=PZ.length:=by omega
  subst e
  rw [OX]
  have hM:=fun (f:Rl→BitVec 64) (w' :World) (lv:Value) (h:Reads w' lv PZ.length ((PZ.map (byN f L)).map vS))=>GD (PZ.map (byN f L)) lv w' (by rw [OV];exact h)
  repeat' (first|(apply aa (d:=52);exact rfl;exact rfl;(intro w' hm;exact hM (fun x=>x.read) w' _ (Reads.of_own (A:=A7) hm pK)))|(apply aa (d:=54);exact rfl;exact rfl;(intro w' hm;exact hM (fun x=>x.write) w' _ (Reads.of_own (A:=A8) hm pK)))|(apply aa (d:=56);exact rfl;exact rfl;(intro w' hm;exact hM (fun x=>x.own) w' _ (Reads.of_own (A:=A9) hm pK)))|refine sT ?_|refine sS ?_|refine sT2 ?_|refine sM fun _=> ?_|(refine sC ?_ ?_<;>intro hb<;>try omega)|fail)
  all_goals first
   |(exfalso;omega)
   |((refine eV ?_);rfl)
   |trace_state
set_option maxHeartbeats 4000000 in
theorem KL (a:Rf) (L:List Rl) (lv:Value) (w:World) (hl:Reads w lv L.length (L.flatMap bn)) (hb:L.length≤1000000) (hpos:0<L.length):ax Tryz.prog 135 [.agg (cu a).toArray,lv] w (.int .i64 (fV L a:Int)):=by
 obtain ⟨Al,cl,rfl,hl1,hl2,hl3⟩:=hl
 refine aq Tryz.func135 rfl Tryz.ntmps135 rfl ?_
 repeat' (first|refine sT ?_|refine sS ?_|refine sN ?_|refine sM fun _=> ?_|(refine sC ?_ ?_<;>intro hb<;>try omega)|fail)
 rename_i g2
 obtain ⟨gl,ol,rfl,hrl⟩:=hl3 (by omega)
 refine ay [1,2] rfl (fun i:Nat=> [(5,.int .i64 (i:Int))]) (fun _=> [.box g2 51 (cu a)]) (fun i=>i<L.length∧fV L a=lD a L (i+1)) (fun i=>i) (L.length - 1) ⟨by omega,by rw [Qq (by omega)];rfl⟩ sB mS ?_
 rintro i ⟨hi,hrec⟩
 rw [lD,NE hi] at hrec
 simp only [OM,P5] at hrec
 have hIn:=fun w=>JV L[i].rect a w
 obtain ⟨h0a,_⟩:=Rl.ro (hrl.elem cK i hi)
 obtain ⟨c,hcc⟩: ∃ c,di L[i].rect a=c:=⟨_,rfl⟩
 simp only [hcc] at hIn hrec
 clear hcc
 generalize L[i].rect=x at h0a hIn
 by_cases hi0:i=0
 ·
  subst hi0
  have e:fV L a=0:=by rw [hrec];cases c<;>rfl
  rw [e]
  repeat' (first|refine sT ?_|refine sS ?_|refine sM fun _=> ?_|(refine sC ?_ ?_<;>intro hb<;>try omega)|fail)
  all_goals first|(exfalso;omega)|((refine rT1 ?_);rfl)|trace_state
 ·
  cases c
  ·
   rw [if_neg (by decide)] at hrec
   repeat' (first|(apply aK;exact rfl;apply aj (j:=i);exact rfl;exact rfl;exact hi)|(apply dO (f:=59);exact rfl;exact rfl;(intro w' _;exact hIn w'))|refine sT ?_|refine sS ?_|refine sQ ?_|refine sN ?_|refine sNQ ?_|refine sO ?_|refine sOQ ?_|refine sD ?_|refine sM fun _=> ?_|(refine sC ?_ ?_<;>intro hb<;>try omega)|(refine sCQ ?_ ?_<;>intro hb<;>try omega)|fail)
   all_goals first
    |(exfalso;omega)
    |(refine ⟨i - 1,⟨by omega,by rw [Qq (by omega)];exact hrec⟩,by omega,by exact sB,by exact sB,by exact mS⟩;done)
    |trace_state
  ·
   rw [if_pos rfl] at hrec
   rw [hrec]
   repeat' (first|(apply aK;exact rfl;apply aj (j:=i);exact rfl;exact rfl;exact hi)|(apply dO (f:=59);exact rfl;exact rfl;(intro w' _;exact hIn w'))|refine sT ?_|refine sS ?_|refine sQ ?_|refine sN ?_|refine sNQ ?_|refine sO ?_|refine sOQ ?_|refine sD ?_|refine sM fun _=> ?_|(refine sC ?_ ?_<;>intro hb<;>try omega)|(refine sCQ ?_ ?_<;>intro hb<;>try omega)|fail)
   all_goals first|(exfalso;omega)|((refine rT1 ?_);rfl)|trace_state
def rT (a:Rf) (L:List Rl):Int × Int:=if a.valid=false then (0,3) else if (eL 64 L).2≠0 then (0,(eL 64 L).2) else ((fV L a:Int),0)
theorem EW {L:List Rl} (h: ¬ (eL 64 L).2≠0):0<L.length∧L.length≤64:=by
 unfold eL at h
 split at h
 ·
  exact absurd (by decide) h
 ·
  rename_i h1
  have hn:L≠ []:=fun e=>h1 (.inr (.inr (.inr e)))
  split at h
  ·
   exact absurd (by decide) h
  ·
   exact ⟨O2.2 hn,by omega⟩
theorem DC (a:Rf) (L:List Rl) (lv:Value) (w:World) (hl:Reads w lv L.length (L.flatMap bn)):ax Tryz.prog 84 [.agg (cu a).toArray,lv] w (.tuple #[.int .i64 (rT a L).1,.int .i64 (rT a L).2]):=by
 refine aq Tryz.func84 rfl Tryz.ntmps84 rfl ?_
 have h1:=fun w=>jL a.col a.row w
 have h2:=fun (w' :World) (H:List Blk) (hm:Mem w w' H)=>ky 64 L lv w' (hl.of_w0 hm)
 have h3:=fun (hp:0<L.length) (hb:L.length≤64) (w' :World) (H:List Blk) (hm:Mem w w' H)=>KL a L lv w' (hl.of_w0 hm) (by omega) hp
 have hv:a.valid=valid a.col a.row:=rfl
 unfold rT
 rw [hv]
 generalize valid a.col a.row=b at h1
 by_cases hc:(eL 64 L).2≠0
 ·
  rw [if_pos hc]
  cases b
  all_goals
   repeat' (first|(apply aa;exact rfl;exact rfl;(intro w hm;exact h1 w))|(apply aa (f:=51);exact rfl;exact rfl;(intro w' hm;exact h2 w' _ hm))|refine sT ?_|refine sM fun _=> ?_|(refine sC ?_ ?_<;>intro hb<;>try omega)|fail)
  all_goals first|(exfalso;omega)|((refine rT2 ?_);rfl)|trace_state
 ·
  obtain ⟨hp,hb⟩:=EW hc
  have h3:=h3 hp hb
  rw [if_neg hc]
  have hc0:(eL 64 L).2=0:=by omega
  rw [hc0] at h2
  cases b
  all_goals
   repeat' (first|(apply aa;exact rfl;exact rfl;(intro w hm;exact h1 w))|(apply aa (f:=51);exact rfl;exact rfl;(intro w' hm;exact h2 w' _ hm))|(apply aa (f:=135);exact rfl;exact rfl;(intro w' hm;exact h3 w' _ hm))|refine sT ?_|refine sM fun _=> ?_|(refine sC ?_ ?_<;>intro hb<;>try omega)|fail)
  all_goals first|(exfalso;omega)|((refine rT2 ?_);rfl)|trace_state
def atR (a:Rf) (L:List Rl):BitVec 64 × BitVec 64 × BitVec 64:=match L[fV L a]? with|some x=>(x.read,x.write,x.own)|none=>(0#64,0#64,0#64)
def atE (a:Rf) (L:List Rl):(BitVec 64 × BitVec 64 × BitVec 64) × Int:=if (rT a L).2≠0 then ((0#64,0#64,0#64),(rT a L).2) else (atR a L,0)
theorem J5 {a:Rf} {L:List Rl} (h: ¬ (rT a L).2≠0):a.valid=true∧(rT a L).1=fV L a∧ ∃ h:fV L a<L.length,atR a L=((L[fV L a]'h).read,(L[fV L a]'h).write,(L[fV L a]'h).own):=by
 unfold rT at h ⊢
 split at h
 ·
  exact absurd (by decide) h
 ·
  rename_i hv
  split at h
  ·
   rename_i h2;exact absurd h2 h
  ·
   rename_i h2
   have hp:=(EW h2).1
   have hlt:=Ai (a:=a) (L:=L) (O2.1 hp)
   refine ⟨by simpa using hv,?_,hlt,?_⟩
   ·
    simp only [hv,h2,OT,if_false];rfl
   ·
    unfold atR;rw [NE hlt]
set_option maxHeartbeats 1000000 in
theorem EY (a:Rf) (L:List Rl) (lv:Value) (w:World) (hl:Reads w lv L.length (L.flatMap bn)):ax Tryz.prog 31 [.agg (cu a).toArray,lv] w (.tuple #[.agg #[vS (atE a L).1.1,vS (atE a L).1.2.1,vS (atE a L).1.2.2],.int .i64 (atE a L).2]):=by
 refine aq Tryz.func31 rfl Tryz.ntmps31 rfl ?_
 have h1:=fun (w' :World) (H:List Blk) (hm:Mem w w' H)=>DC a L lv w' (hl.of_w0 hm)
 unfold atE
 by_cases hc:(rT a L).2≠0
 ·
  rw [if_pos hc]
  repeat' (first|(apply aa (f:=84);exact rfl;exact rfl;(intro w' hm;exact h1 w' _ hm))|refine sT ?_|refine sM fun _=> ?_|(refine sC ?_ ?_<;>intro hb<;>try omega)|fail)
  all_goals first
   |(exfalso;omega)
   |((refine eV ?_);rfl)
   |trace_state
 ·
  rw [if_neg hc]
  obtain ⟨_,h2,hlt,h3⟩:=J5 hc
  have hc0:(rT a L).2=0:=by omega
  rw [h2,hc0] at h1
  rw [h3]
  obtain ⟨Al,cl,rfl,hl1,hl2,hl3⟩:=hl
  obtain ⟨gl,ol,rfl,hrl⟩:=hl3 (by omega)
  obtain ⟨_,_,_,_,hrr⟩:=Rl.ro (hrl.elem cK _ hlt)
  generalize L[fV L a]'hlt=x at hrr
  generalize fV L a=i at h1 hlt hrr
  repeat' (first|(apply aa (f:=84);exact rfl;exact rfl;(intro w' hm;exact h1 w' _ hm))|(apply ak (d:=20);exact rfl;apply aj (j:=i);exact rfl;exact rfl;exact hlt)|(apply ak (d:=22);exact rfl;apply aA (xs:= [vS x.read,vS x.write,vS x.own]);exact rfl;exact hrr;exact rfl)|refine sT ?_|refine sN ?_|refine sO ?_|refine sM fun _=> ?_|(refine sC ?_ ?_<;>intro hb<;>try omega)|fail)
  all_goals first
   |(exfalso;omega)
   |((refine eV ?_);rfl)
   |trace_state
end Go.SL

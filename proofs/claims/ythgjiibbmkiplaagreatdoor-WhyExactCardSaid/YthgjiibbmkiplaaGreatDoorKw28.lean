/-
  Lemmas and walks, put together: Hj Hk Hm Hn Hq.
-/
import Derived.Test.YthgjiibbmkiplaaGreatDoorKw25
import Derived.Test.YthgjiibbmkiplaaGreatDoorKw27
set_option linter.unusedSimpArgs false
set_option linter.unusedVariables false
set_option maxRecDepth 20000
set_option maxHeartbeats 16000000
namespace Go.SL
open Go Go.Proofs
attribute [local irreducible] W WL WQ WG WA WX WLI WR WT WC WE VOp RW thn blk bA scp aY aX bw FnAt FnIn FnP ceP
--
theorem Pr {l m:List Pz} {p:Pz} (hm:m≠ []):l++jf m p=jf (l++m) p:=by
 have e:=YJ hm;generalize hd:m.dropLast=d at e;generalize m.getLast hm=q at e;subst e;unfold jf;rw [← XE,List.getLast?_concat,List.getLast?_concat];dsimp only;rw [List.dropLast_concat,List.dropLast_concat];split<;>simp
theorem Bp {O:List Pz} {q p:Pz}:jf (O++ [q]) p=if q.a=p.a∧q.b=p.b then O++ [⟨⟨q.rect.c1,q.rect.r1,p.rect.c2,q.rect.r2⟩,q.a,q.b⟩] else O++ [q]++ [p]:=by
 unfold jf;rw [List.getLast?_concat];dsimp only;rw [List.dropLast_concat]
theorem Kl {A B:List Rl} {y:Int × Int} (xs:List (Int × Int)):(jZ A B y xs).length≤xs.length:=by
 induction xs using dh with
 |h0=>exact Xy _
 |h1 xs x ih=>
  rw [kz,Xa,Xe];generalize jZ A B y xs=l at ih;unfold jf
  cases h:l.getLast? with
  |none=>simp
  |some q=>
   dsimp only;split
   ·rw [Xa,List.length_dropLast,Xe];omega
   ·rw [Xa,Xe];omega
theorem Fs {A B:List Rl} {y:Int × Int}:jZ A B y []= []:=rfl
def jQ (A B:List Rl) (ys xs:List (Int × Int)):List Pz:=ys.flatMap fun y=>jZ A B y xs
theorem Fl {A B:List Rl} {ys xs:List (Int × Int)} {y:Int × Int}:jQ A B (ys++ [y]) xs=jQ A B ys xs++jZ A B y xs:=by unfold jQ;simp
theorem kP {A B:List Rl} {xs:List (Int × Int)}: ∀ ys:List (Int × Int),(jQ A B ys xs).length≤ys.length*xs.length
 | []=>by simp [jQ]
 |y::ys=>by
  have h1:=kP (A:=A) (B:=B) (xs:=xs) ys;have h2:=Kl (A:=A) (B:=B) (y:=y) xs;unfold jQ at h1 ⊢;rw [Xx,Xa,Xs,Nat.succ_mul];omega
theorem Up {A B:List Rl} {y:Int × Int} (xs:List (Int × Int)): ∀ q∈jZ A B y xs,q.rect.r1=y.1∧ ∃ x∈xs,q.rect.c1=x.1:=by
 induction xs using dh with
 |h0=>intro q hq;cases hq
 |h1 xs x ih=>
  intro q hq;rw [kz] at hq;by_cases hn:jZ A B y xs= []
  ·rw [hn] at hq;have:q=jo A B y x:=by simpa [jf] using hq
   subst this;exact ⟨rfl,x,by simp,rfl⟩
  ·have e:=YJ hn;generalize (jZ A B y xs).dropLast=d at e;generalize (jZ A B y xs).getLast hn=z at e;rw [← e] at hq ih;rw [Bp] at hq;have hz:=ih z (by simp);split at hq
   ·rcases Xr.1 hq with hq|hq
    ·obtain ⟨h1,x',h2,h3⟩:=ih q (by simp [hq]);exact ⟨h1,x',by simp [h2],h3⟩
    ·rw [Xl.1 hq];obtain ⟨h1,x',h2,h3⟩:=hz;exact ⟨h1,x',by simp [h2],h3⟩
   ·rcases Xr.1 hq with hq|hq
    ·obtain ⟨h1,x',h2,h3⟩:=ih q hq;exact ⟨h1,x',by simp [h2],h3⟩
    ·rw [Xl.1 hq];exact ⟨rfl,x,by simp,rfl⟩
theorem FF {r:Rct} {A B:List Rl} (hrs:1≤r.c1∧r.c1≤r.c2∧r.c2≤1024∧1≤r.r1∧r.r1≤r.r2∧r.r2≤1024): ∀ p∈bW r A B,xX p:=fun p hp=>by
 obtain ⟨y,hy,hp⟩:=XL.1 hp;obtain ⟨h1,x,hx,h2⟩:=Up _ p hp;have h3:=dc hy;have h4:=dc hx;unfold xX;omega
theorem FG (r:Rct) (hr:aA r=true) (A B:List Rl) (la lb:Value) (w:World) (hla:Reads w la A.length (A.flatMap bQ)) (hlb:Reads w lb B.length (B.flatMap bQ)) (hA:A.length≤200) (hB:B.length≤200):
 FnAt Tryz.prog 139 [.agg (ay r).toArray,la,lb] w fun v H=> ∃ Ap cap,v=sl Ap (bW r A B).length cap∧H= [.own Ap 244 6 (bW r A B).length cap ((bW r A B).flatMap cK)]:=by
 refine aB Tryz.func139 rfl Tryz.ntmps139 rfl ?_;have hrs:=aV.1 hr;have hZ:InZ (bW r A B):=by
  refine ⟨CW r A B,FF hrs,?_⟩;have h1:=kP (A:=A) (B:=B) (xs:=cf r.c1 r.c2 (aW r A++aW r B)) (cf r.r1 r.r2 (bf r A++bf r B));have h2:=fU r.c1 r.c2 (aW r A++aW r B);have h3:=fU r.r1 r.r2 (bf r A++bf r B);have h4:=dC r A;have h5:=dC r B;have h6:=dA r A;have h7:=dA r B;rw [Xa] at h2 h3;refine XU h1 (XU (Nat.mul_le_mul (show _≤801 by omega) (show _≤801 by omega)) (by decide))
 have hnA:=fun (gr gc gw:Nat)=>Kt r A la gr gc gw none none 0 0 [] [] [] w hla (by simp;omega) (by simp;omega);have hnB:=fun (gr gc gw:Nat) (A1 A2:Option Nat) (c1 c2:Nat)=>Kt r B lb gr gc gw A1 A2 c1 c2 (aW r A) (bf r A) [] w hlb (by have:=dC r A;omega) (by have:=dA r A;omega);have hcl:(aW r A++aW r B).length≤400:=by have:=dC r A;have:=dC r B;rw [Xa];omega
 have hwl:(bf r A++bf r B).length≤400:=by have:=dA r A;have:=dA r B;rw [Xa];omega
 have hcs: ∀ p∈aW r A++aW r B,0≤p.1∧p.1≤100000∧0≤p.2∧p.2≤100000:=fun p hp=>(Xr.1 hp).elim (tO p) (tO p);have hws: ∀ p∈bf r A++bf r B,0≤p.1∧p.1≤100000∧0≤p.2∧p.2≤100000:=fun p hp=>(Xr.1 hp).elim (sU p) (sU p);have hb1:=fun (w' :World) (lv:Value) (h:Reads w' lv _ _)=>G3 r.c1 r.c2 (aW r A++aW r B) lv w' h (by omega) (by omega) (by omega) hcs;have hb2:=fun (w' :World) (lv:Value) (h:Reads w' lv _ _)=>G3 r.r1 r.r2 (bf r A++bf r B) lv w' h (by omega) (by omega) (by omega) hws;have hxl:=fU r.c1 r.c2 (aW r A++aW r B);have hyl:=fU r.r1 r.r2 (bf r A++bf r B);have hpf:bW r A B=jQ A B (cf r.r1 r.r2 (bf r A++bf r B)) (cf r.c1 r.c2 (aW r A++aW r B)):=rfl;generalize bW r A B=PZ at hZ hpf ⊢;generalize hX:cf r.c1 r.c2 (aW r A++aW r B)=xB at hb1 hxl hpf;generalize hY:cf r.r1 r.r2 (bf r A++bf r B)=yB at hb2 hyl hpf;generalize hCO:aW r A++aW r B=CO at hb1 hcl hxl;generalize hRO:bf r A++bf r B=RO at hb2 hwl hyl;refine aF 242 2 ?_;refine aF 242 2 ?_;repeat' (first|apply fK (d:=21);exact rfl;exact rfl;infer_instance;exact rfl;exact FnIn.msub (hnA _ _ _) (by simp only [vD,XH,Xc,Xd];exact mS);rintro _ _ ⟨rfl,A1,c1,A2,c2,rfl⟩|apply fK (d:=24);exact rfl;exact rfl;infer_instance;exact rfl;exact FnIn.msub (hnB _ _ _ A1 A2 c1 c2) (by simp only [vD,XH,Xc,Xd];exact mS);rintro _ _ ⟨rfl,A3,c3,A4,c4,rfl⟩|refine zZJ ?_|refine sM fun _=>?_|refine sC ?_ ?_<;>intro hb<;>try omega|exact cT|fail)
 rename_i g3 g7 g8;rw [hCO,hRO];simp only [vD,XH,Xc,Xd];refine ui (fun _:Option Nat × Nat × Option Nat × Nat=> [(1,la),(2,lb),(3,.pointer (some ⟨g3,0,none⟩)),(7,.pointer (some ⟨g7,0,none⟩)),(8,.pointer (some ⟨g8,0,none⟩))]) (fun y=> .box g7 292 [sl y.1 xB.length y.2.1]:: .own y.1 242 2 xB.length y.2.1 (xB.flatMap du):: .box g8 292 [sl y.2.2.1 yB.length y.2.2.2]:: .own y.2.2.1 242 2 yB.length y.2.2.2 (yB.flatMap du):: []) (fun _=>True) ?_ ?_
 ·refine fw (id:=5) [4,5,10,11,12,13] [.box g3 31 (ay r)] 14 rfl rfl mS ?_;repeat' (first|apply ba (i:=0);(iterate 4 exact rfl);(iterate 3 decide+kernel);exact vC|apply ba (i:=1);(iterate 4 exact rfl);(iterate 3 decide+kernel);exact vC|apply ba (i:=2);(iterate 4 exact rfl);(iterate 3 decide+kernel);exact vC|apply ba (i:=3);(iterate 4 exact rfl);(iterate 3 decide+kernel);exact vC|apply ba (i:=6);(iterate 4 exact rfl);(iterate 3 decide+kernel);exact vC|apply ba (i:=7);(iterate 4 exact rfl);(iterate 3 decide+kernel);exact vC|apply ba (i:=8);(iterate 4 exact rfl);(iterate 3 decide+kernel);exact vC|apply ba (i:=9);(iterate 4 exact rfl);(iterate 3 decide+kernel);exact vC|apply cF (i:=4) (j:=10);(iterate 6 exact rfl);decide+kernel|apply cF (i:=5) (j:=10);(iterate 6 exact rfl);decide+kernel|apply cF (i:=12) (j:=13);(iterate 6 exact rfl);decide+kernel|apply bk (i:=4);(iterate 3 exact rfl);decide+kernel|apply bk (i:=5);(iterate 3 exact rfl);decide+kernel|apply bk (i:=10);(iterate 3 exact rfl);decide+kernel|apply bk (i:=11);(iterate 3 exact rfl);decide+kernel|apply bk (i:=12);(iterate 3 exact rfl);decide+kernel|apply bk (i:=13);(iterate 3 exact rfl);decide+kernel|apply aw (d:=30);exact rfl;exact rfl;intro w' hm;exact hb1 w' _ (Reads.of_own (A:=A3) hm pK);rintro _ _ ⟨A5,c5,rfl,rfl⟩|apply aw (d:=36);exact rfl;exact rfl;intro w' hm;exact hb2 w' _ (Reads.of_own (A:=A4) hm pK);rintro _ _ ⟨A6,c6,rfl,rfl⟩|apply fu;decide+kernel|apply rW;(focus (exact mS;done))|refine zZJ ?_|refine sM fun _=>?_|refine sC ?_ ?_<;>intro hb<;>try omega|exact cT|fail)
  all_goals first
   |omega
   |exact fG (A5,c5,A6,c6) trivial sB mS
 rintro ⟨A5,c5,A6,c6⟩ _;dsimp only;clear hnA hnB hb1 hb2 hX hY hCO hRO;refine aF 244 6 ?_;repeat' (first|refine zZJ ?_|refine sM fun _=>?_|refine sC ?_ ?_<;>intro hb<;>try omega|exact cT|fail)
 refine ax [1,2,7,37,38] rfl (fun y:Nat × Option Nat × Nat=> [(10,sl y.2.1 (jQ A B (yB.take y.1) xB).length y.2.2),(39,.int .i64 (y.1:Int))]) (fun y=> .own y.2.1 244 6 (jQ A B (yB.take y.1) xB).length y.2.2 ((jQ A B (yB.take y.1) xB).flatMap cK):: .box g7 292 [sl A5 xB.length c5]:: .own A5 242 2 xB.length c5 (xB.flatMap du):: .own A6 242 2 yB.length c6 (yB.flatMap du):: []) (fun y=>y.1≤yB.length) (fun y=>yB.length - y.1) (0,none,0) (Xn _) sB mS ?_;rintro ⟨j,Ao,co⟩ hj;dsimp only at hj ⊢;by_cases hjl:j<yB.length
 ·refine aU (A:=A6) pK (by omega) fun g6 hA6=> ?_;subst hA6;have hrd:((yB.flatMap du).drop (0+j*2)).take 2=du yB[j]:=by rw [Xv];exact aM kF yB j hjl
  have hsn:=Fl (A:=A) (B:=B) (ys:=yB.take j) (xs:=xB) (y:=yB[j]);rw [← Xk hjl] at hsn;have hpl:(jQ A B (yB.take j) xB).length≤700000:=by
   have h1:=kP (A:=A) (B:=B) (xs:=xB) (yB.take j);refine XU h1 (XU (Nat.mul_le_mul (show _≤801 by rw [XA];omega) (show _≤801 by omega)) (by decide))
  generalize yB[j]=y at hrd hsn;generalize jQ A B (yB.take j) xB=prev at hsn hpl ⊢;repeat' (first|apply ak (d:=41);exact rfl;apply ai (j:=j);exact rfl;exact rfl;exact hjl|apply ak (d:=42);exact rfl;apply au (ys:=du y);exact rfl;exact pK;exact hrd;exact rfl|refine zZD ?_|refine sM fun _=>?_|refine sC ?_ ?_<;>intro hb<;>try omega|exact cT|fail)
  all_goals try omega
  rename_i g12;refine ax [1,2,7,12,13,37,38,39,45,46] rfl (fun z:Nat × Option Nat × Nat=> [(10,sl z.2.1 (prev++jZ A B y (xB.take z.1)).length z.2.2),(47,.int .i64 (z.1:Int))]) (fun z=> .own z.2.1 244 6 (prev++jZ A B y (xB.take z.1)).length z.2.2 ((prev++jZ A B y (xB.take z.1)).flatMap cK):: .box g12 242 (du y):: .box g7 292 [sl A5 xB.length c5]:: .own A5 242 2 xB.length c5 (xB.flatMap du):: .own (some g6) 242 2 yB.length c6 (yB.flatMap du):: []) (fun z=>z.1≤xB.length) (fun z=>xB.length - z.1) (0,Ao,co) (Xn _) (by rw [YF,Fs,Xm];exact sB) (by rw [YF,Fs,Xm];exact mS) ?_;rintro ⟨k,Az,cz⟩ hk;dsimp only at hk ⊢;by_cases hkl:k<xB.length
  ·refine aU (A:=A5) pK (by omega) fun g5 hA5=> ?_;subst hA5;have hrx:((xB.flatMap du).drop (0+k*2)).take 2=du xB[k]:=by rw [Xv];exact aM kF xB k hkl
   have hrn:=kz (A:=A) (B:=B) (y:=y) (xs:=xB.take k) (x:=xB[k]);rw [← Xk hkl] at hrn;have hcl2:=Kl (A:=A) (B:=B) (y:=y) (xB.take k);rw [XA] at hcl2;generalize xB[k]=x at hrx hrn;have hw1:=fun (w' :World) (H:List Blk) (hm:Mem w w' H)=>EA (fc y x) A la w' (hla.of_w0 hm) (by omega);have hw2:=fun (w' :World) (H:List Blk) (hm:Mem w w' H)=>EA (fc y x) B lb w' (hlb.of_w0 hm) (by omega);have hp:jo A B y x=⟨fc y x,jh (fc y x) A,jh (fc y x) B⟩:=rfl;rw [hp] at hrn;generalize jh (fc y x) A=wa at hw1 hrn;generalize jh (fc y x) B=wb at hw2 hrn;clear hp;repeat' (first|apply ak (d:=49);exact rfl;apply ai (j:=k);exact rfl;exact rfl;exact hkl|apply ak (d:=50);exact rfl;apply au (ys:=du x);exact rfl;exact pK;exact hrx;exact rfl|refine zZD ?_|refine sM fun _=>?_|refine sC ?_ ?_<;>intro hb<;>try omega|exact cT|fail)
   all_goals try omega
   rename_i g15 g16;generalize jZ A B y (xB.take k)=cur at hrn hcl2 ⊢;have hOl:(prev++cur).length≤800000:=by rw [Xa];omega
   refine mZ (id:=15) 10 (.box g16 244 (cK ⟨fc y x,wa,wb⟩):: .own Az 244 6 (prev++cur).length cz ((prev++cur).flatMap cK):: .box g12 242 (du y):: .box g7 292 [sl (some g5) xB.length c5]:: .own (some g5) 242 2 xB.length c5 (xB.flatMap du):: .own (some g6) 242 2 yB.length c6 (yB.flatMap du):: []) (by kernel_rfl) (by kernel_rfl) rfl ?_;repeat' (first|apply K4 (f' :=189) (f:=60);exact rfl;decide+kernel;exact rfl;exact rfl;(intro w' hm;first|exact hw1 w' _ hm|exact hw2 w' _ hm)|apply ru (f:=60) (d:=69);exact rfl;decide+kernel;exact rfl;apply pX;(iterate 5 exact rfl)|apply oC;exact rfl;exact rfl;exact pK;(iterate 3 exact rfl);exact Y2 rfl;exact mS|refine sT ?_|refine sS ?_|refine sT2 ?_|refine sG2 ?_|refine sG ?_|refine sM fun _=>?_|refine sC ?_ ?_<;>intro hb<;>try omega|exact cT|fail)
   all_goals try omega
   rcases Y6 cur.length with h0|hpos
   ·have hc0:cur= []:=YB.1 h0;subst hc0;have hg:jf [] (⟨fc y x,wa,wb⟩:Pz)= [⟨fc y x,wa,wb⟩]:=rfl;rw [hg] at hrn;rw [Xm] at hOl ⊢;repeat' (first|apply kM (id:=17);kernel_rfl;kernel_rfl|apply aN (d:=99) (A:=Az) (m:=1);(iterate 3 exact rfl);exact pK;intro w hm;exact hm.cells_own pK;exact rfl;simp [Value.oneCell',sl,cK];omega;simp only [maxLen];omega;intro A' cap' hA'|refine zZW ?_|refine sM fun _=>?_|refine sC ?_ ?_<;>intro hb<;>try omega|refine sCQ ?_ ?_<;>intro hb<;>try omega|exact cT|fail)
    all_goals first
     |omega
     | (refine ⟨(k + 1, A', cap'), hkl, by dsimp only; omega, ?_, by exact sB, ?_⟩
        ·dsimp only;rw [hrn,List.length_append];exact sB
        ·dsimp only;rw [hrn,List.length_append,List.flatMap_append];exact mS)
   ·have hne:cur≠ []:=Yr.1 hpos;have hga:=Pr (l:=prev) (p:=(⟨fc y x,wa,wb⟩:Pz)) hne;rw [← hrn] at hga;have hlt2:prev.length<(prev++cur).length:=by rw [Xa];omega
    have hOe:=YJ (l:=prev++cur) (by simp [hne]);generalize (prev++cur).dropLast=O at hOe;generalize (prev++cur).getLast _=q at hOe;rw [← hOe] at hga hlt2 hOl ⊢;rw [Bp] at hga;have hOn:(O++ [q]).length=O.length+1:=by simp
    rw [hOn] at hOl hlt2;have hq2:(((O++ [q]).flatMap cK).drop (0+O.length*6+4)).take 2=mO (q.a,q.b):=by
     have h1:=aM cN (O++ [q]) O.length (by simp);have h2:=congrArg (List.drop 4) h1;rw [List.drop_take,Zy] at h2;simp only [List.getElem_concat_length] at h2;rw [Xv];exact h2
    refine aU (A:=Az) pK (by omega) fun gz hAz=> ?_;subst hAz;obtain ⟨c,hc⟩: ∃ c,decide ((q.a,q.b)=(wa,wb))=c:=⟨_,rfl⟩
    cases c with
    |true=>
      have hab:q.a=wa∧q.b=wb:=by simpa using hc
      rw [if_pos hab] at hga;have hset:=uR cN (O++ [q]) O.length 2 (by simp) (by decide) (.int .i64 x.2) ⟨⟨q.rect.c1,q.rect.r1,x.2,q.rect.r2⟩,q.a,q.b⟩ (by simp only [List.getElem_concat_length];rfl);rw [ZG _ _ (Xy _),Nat.sub_self,List.set_cons_zero] at hset;have hOl3:((O++ [q]).flatMap cK).length=(O.length+1)*6:=by rw [aR cN,hOn]
      rw [hOn];repeat' (first|apply kM (id:=17);kernel_rfl;kernel_rfl|apply aQ (d:=79);exact rfl;apply cQ (a:=O.length+1);exact rfl;exact rfl;omega;simp only [maxLen];omega|apply aQ (d:=80);exact rfl;apply ai (j:=O.length);exact rfl;exact rfl;omega|apply aQ (d:=82);exact rfl;apply au (ys:=mO (q.a,q.b));exact rfl;exact pK;exact hq2;exact rfl|apply aQ (d:=85);exact rfl;apply J9 (a:=(q.a,q.b)) (b:=(wa,wb)) hc;exact rfl;exact rfl|apply ak (d:=89);exact rfl;apply cQ (a:=O.length+1);exact rfl;exact rfl;omega;simp only [maxLen];omega|apply ak (d:=93);exact rfl;apply ai (j:=O.length);exact rfl;exact rfl;omega|apply eF (v:= .int .i64 x.2) (off:=0+O.length*6+2);exact rfl;exact rfl;exact pK;exact rfl;rw [hOl3];omega;rw [Xv,hset]|refine zZW ?_|refine sM fun _=>?_|refine sC ?_ ?_<;>intro hb<;>try omega|refine sCQ ?_ ?_<;>intro hb<;>try omega|exact cT|fail)
      all_goals first
       |omega
       | (refine ⟨(k + 1, some gz, cz), hkl, by dsimp only; omega, ?_, by exact sB, ?_⟩
          ·dsimp only;rw [hga,List.length_append];exact sB
          ·dsimp only;rw [hga,List.length_append];exact mS)
    |false=>
      have hab: ¬ (q.a=wa∧q.b=wb):=by simpa using hc
      rw [if_neg hab] at hga;rw [hOn];repeat' (first|apply kM (id:=17);kernel_rfl;kernel_rfl|apply aQ (d:=79);exact rfl;apply cQ (a:=O.length+1);exact rfl;exact rfl;omega;simp only [maxLen];omega|apply aQ (d:=80);exact rfl;apply ai (j:=O.length);exact rfl;exact rfl;omega|apply aQ (d:=82);exact rfl;apply au (ys:=mO (q.a,q.b));exact rfl;exact pK;exact hq2;exact rfl|apply aQ (d:=85);exact rfl;apply J9 (a:=(q.a,q.b)) (b:=(wa,wb)) hc;exact rfl;exact rfl|apply aN (d:=99) (A:=some gz) (m:=1);(iterate 3 exact rfl);exact pK;intro w hm;exact hm.cells_own pK;exact rfl;simp [Value.oneCell',sl,cK];omega;simp only [maxLen];omega;intro A' cap' hA'|refine zZW ?_|refine sM fun _=>?_|refine sC ?_ ?_<;>intro hb<;>try omega|refine sCQ ?_ ?_<;>intro hb<;>try omega|exact cT|fail)
      all_goals first
       |omega
       | (refine ⟨(k + 1, A', cap'), hkl, by dsimp only; omega, ?_, by exact sB, ?_⟩
          ·dsimp only;rw [hga,List.length_append,hOn];exact sB
          ·dsimp only;rw [hga,List.length_append,hOn,List.flatMap_append (xs:=O++ [q])];exact mS)
  ·have e:k=xB.length:=by omega
   subst e;rw [XF,← hsn];repeat' (first|refine zZD ?_|refine sM fun _=>?_|refine sC ?_ ?_<;>intro hb<;>try omega|exact cT|fail)
   all_goals first
    |omega
    |refine ⟨(j+1,Az,cz),hjl,by dsimp only;omega,by exact sB,by exact sB,by exact mS⟩;done
 ·have e:j=yB.length:=by omega
  subst e;rw [XF,← hpf];have hS:=fun (w' :World) (H:List Blk) (hm:Mem w w' H) (lv:Value) (h:Reads w' lv _ _)=>zK PZ hZ lv w' h;repeat' (first|apply aa (d:=103);exact rfl;exact rfl;intro w' hm;exact hS w' _ hm _ (Reads.of_own (A:=Ao) hm pK)|refine zZD ?_|refine sM fun _=>?_|refine sC ?_ ?_<;>intro hb<;>try omega|exact cT|fail)
  all_goals first
   |omega
   |exact bo eIO rfl rfl mS ⟨Ao,co,rfl,rfl⟩
--
def dX (r:Rct) (L:List Rl):Int:=if aA r=false then 3 else (eV 64 L).2
theorem BO (r:Rct) (L:List Rl) (lv:Value) (w:World) (hl:Reads w lv L.length (L.flatMap bQ)):aL Tryz.prog 138 [.agg (ay r).toArray,lv] w (.int .i64 (dX r L)):=by
 refine aB Tryz.func138 rfl Tryz.ntmps138 rfl ?_;have h1:=fun w=>dQ r w;have h2:=fun (w' :World) (H:List Blk) (hm:Mem w w' H)=>jP 64 L lv w' (hl.of_w0 hm);unfold dX;repeat' (first|apply aa;exact rfl;exact rfl;intro w hm;exact h1 w|apply aa (f:=68);exact rfl;exact rfl;intro w' hm;exact h2 w' _ hm|refine sT ?_|refine sM fun _=>?_|refine sC ?_ ?_<;>intro hb<;>try omega|fail)
 all_goals first
  |omega
  |(refine rT1 ?_);rw [if_pos (qd hb)];done
  |(refine rT1 ?_);rw [if_neg (kR hb)];done
def ovE (r:Rct) (L:List Rl):(BitVec 64 × BitVec 64 × BitVec 64) × Int:=
 if dX r L≠0 then ((0#64,0#64,0#64),dX r L) else ((yq (fun x=>x.read) r L,yq (fun x=>x.write) r L,yq (fun x=>x.own) r L),0)
theorem BN {r:Rct} {L:List Rl} (h: ¬ dX r L≠0):aA r=true∧L≠ []∧L.length≤64:=by
 unfold dX at h;split at h
 ·exact absurd (by decide) h
 ·rename_i hr;refine ⟨by simpa using hr,?_⟩;unfold eV at h;split at h
  ·exact absurd (by decide) h
  ·rename_i h1;have hn:L≠ []:=fun e=>h1 (.inr (.inr (.inr e)));split at h
   ·exact absurd (by decide) h
   ·exact ⟨hn,by omega⟩
def byN (f:Rl→BitVec 64) (L:List Rl) (p:Pz):BitVec 64:=(L[p.a]?.map f).getD 0#64
theorem CY (f:Rl→BitVec 64) (r:Rct) (L:List Rl):yq f r L=rX ((bW r L []).map (byN f L)):=rfl
theorem KL (r:Rct) (L:List Rl) (lv:Value) (w:World) (hl:Reads w lv L.length (L.flatMap bQ)):
 aL Tryz.prog 131 [.agg (ay r).toArray,lv] w (.tuple #[.agg #[vS (ovE r L).1.1,vS (ovE r L).1.2.1,vS (ovE r L).1.2.2],.int .i64 (ovE r L).2]):=by
 refine aB Tryz.func131 rfl Tryz.ntmps131 rfl ?_;have hck:=fun (w' :World) (H:List Blk) (hm:Mem w w' H)=>BO r L lv w' (hl.of_w0 hm);unfold ovE;by_cases hc:dX r L≠0
 ·rw [if_pos hc];repeat' (first|apply aa (f:=138);exact rfl;exact rfl;intro w' hm;exact hck w' _ hm|refine zZE ?_|refine sM fun _=>?_|refine sC ?_ ?_<;>intro hb<;>try omega|fail)
  all_goals first
   |omega
   |(refine lB ?_);rfl
 rw [if_neg hc];obtain ⟨hr,hne,hlen⟩:=BN hc;have hP:=fun (w' :World) (H:List Blk) (hm:Mem w w' H)=>FG r hr L [] lv (.slice none 0 0) w' (hl.of_w0 hm) (bG w') (by omega) (by simp);have hpa: ∀ p∈bW r L [],p.a<L.length:=fun p hp=>by
  have h1:p.a∈(bW r L []).map (·.a):=Xu.2 ⟨p,hp,rfl⟩;obtain ⟨y,x,_,h2⟩:=wX.1 h1;rw [h2];exact zW hne
 have hpl:(bW r L []).length≤1000000:=by
  have h1:=kP (A:=L) (B:= []) (xs:=cf r.c1 r.c2 (aW r L++aW r [])) (cf r.r1 r.r2 (bf r L++bf r []));have h2:=fU r.c1 r.c2 (aW r L++aW r []);have h3:=fU r.r1 r.r2 (bf r L++bf r []);have h4:=dC r L;have h5:=dC r [];have h6:=dA r L;have h7:=dA r [];rw [Xa] at h2 h3;rw [Yu] at h5 h7;exact XU h1 (XU (Nat.mul_le_mul (show _≤801 by omega) (show _≤801 by omega)) (by decide))
 rw [CY,CY,CY];have hc0:dX r L=0:=by omega
 rw [hc0] at hck;generalize bW r L []=PZ at hP hpa hpl ⊢;refine aF 57 1 ?_;refine aF 57 1 ?_;refine aF 57 1 ?_;repeat' (first|apply aa (f:=138);exact rfl;exact rfl;intro w' hm;exact hck w' _ hm|apply aw (f:=139);exact rfl;exact rfl;intro w' hm;exact hP w' _ hm;rintro _ _ ⟨Ap,cp,rfl,rfl⟩|refine zZJ ?_|refine sM fun _=>?_|refine sC ?_ ?_<;>intro hb<;>try omega|fail)
 all_goals try omega
 rename_i g2 g4;refine ax [1,4,22,23] rfl (fun y:Nat × (Option Nat × Nat) × (Option Nat × Nat) × (Option Nat × Nat)=> [(7,sl y.2.1.1 y.1 y.2.1.2),(8,sl y.2.2.1.1 y.1 y.2.2.1.2),(9,sl y.2.2.2.1 y.1 y.2.2.2.2),(24,.int .i64 (y.1:Int))]) (fun y=> .own y.2.1.1 57 1 y.1 y.2.1.2 (((PZ.take y.1).map (byN (fun x=>x.read) L)).map vS):: .own y.2.2.1.1 57 1 y.1 y.2.2.1.2 (((PZ.take y.1).map (byN (fun x=>x.write) L)).map vS):: .own y.2.2.2.1 57 1 y.1 y.2.2.2.2 (((PZ.take y.1).map (byN (fun x=>x.own) L)).map vS):: .own Ap 244 6 PZ.length cp (PZ.flatMap cK):: .box g4 135 [vS 0#64,vS 0#64,vS 0#64]:: []) (fun y=>y.1≤PZ.length) (fun y=>PZ.length - y.1) (0,(none,0),(none,0),(none,0)) (Xn _) sB mS ?_;rintro ⟨i,⟨A7,c7⟩,⟨A8,c8⟩,⟨A9,c9⟩⟩ hi;dsimp only at hi ⊢;by_cases hlt:i<PZ.length
 ·refine aU (A:=Ap) pK (by omega) fun gp hAp=> ?_;subst hAp;have hrd:((PZ.flatMap cK).drop (0+i*6)).take 6=cK PZ[i]:=by rw [Xv];exact aM cN PZ i hlt
  have hpi:=hpa _ (XO hlt);have hsr: ∀ f:Rl→BitVec 64,((PZ.take (i+1)).map (byN f L)).map vS=((PZ.take i).map (byN f L)).map vS++ [vS (f (L[PZ[i].a]'hpi))]:=fun f=>by
   rw [Xk hlt,XI,XI];simp [byN,hpi]
  generalize PZ[i]=p at hrd hpi hsr;have hl' :=hl;obtain ⟨Al,cl,hlv,hl1,hl2,hl3⟩:=hl';subst hlv;obtain ⟨gl,ol,rfl,hrl⟩:=hl3 (by omega);obtain ⟨_,_,_,_,hrr⟩:=Rl.ro (hrl.elem dw p.a hpi);generalize L[p.a]'hpi=x at hrr hsr;repeat' (first|apply ak (d:=26);exact rfl;apply ai (j:=i);exact rfl;exact rfl;exact hlt|apply ak (d:=27);exact rfl;apply au (ys:=cK p);exact rfl;exact pK;exact hrd;exact rfl|apply ak (d:=32);exact rfl;apply ai (j:=p.a);exact rfl;exact rfl;exact hpi|refine sT ?_|refine sS ?_|refine sT2 ?_|refine sN ?_|refine sO ?_|refine sM fun _=>?_|refine sC ?_ ?_<;>intro hb<;>try omega|fail)
  all_goals try omega
  rename_i g11 g12;refine fw (id:=9) [3,4,8,9,13,14] [.box g12 135 [vS x.read,vS x.write,vS x.own]] 18 rfl rfl mS ?_;repeat' (first|apply ba (i:=0);(iterate 4 exact rfl);(iterate 3 decide+kernel);exact vC|apply ba (i:=1);(iterate 4 exact rfl);(iterate 3 decide+kernel);exact vC|apply ba (i:=2);(iterate 4 exact rfl);(iterate 3 decide+kernel);exact vC|apply ba (i:=5);(iterate 4 exact rfl);(iterate 3 decide+kernel);exact vC|apply ba (i:=6);(iterate 4 exact rfl);(iterate 3 decide+kernel);exact vC|apply ba (i:=7);(iterate 4 exact rfl);(iterate 3 decide+kernel);exact vC|apply ba (i:=10);(iterate 4 exact rfl);(iterate 3 decide+kernel);exact vC|apply ba (i:=11);(iterate 4 exact rfl);(iterate 3 decide+kernel);exact vC|apply ba (i:=12);(iterate 4 exact rfl);(iterate 3 decide+kernel);exact vC|apply ba (i:=15);(iterate 4 exact rfl);(iterate 3 decide+kernel);apply eY;exact rfl|apply ba (i:=16);(iterate 4 exact rfl);(iterate 3 decide+kernel);apply eY;exact rfl|apply ba (i:=17);(iterate 4 exact rfl);(iterate 3 decide+kernel);apply eY;exact rfl|apply ED (i:=3) (j:=8) (k:=13);(iterate 9 exact rfl);decide+kernel|apply ED (i:=4) (j:=8) (k:=13);(iterate 9 exact rfl);decide+kernel|apply cF (i:=3) (j:=13);(iterate 6 exact rfl);decide+kernel|apply cF (i:=3) (j:=8);(iterate 6 exact rfl);decide+kernel|apply cF (i:=8) (j:=13);(iterate 6 exact rfl);decide+kernel|apply cF (i:=4) (j:=13);(iterate 6 exact rfl);decide+kernel|apply cF (i:=4) (j:=8);(iterate 6 exact rfl);decide+kernel|apply cF (i:=9) (j:=13);(iterate 6 exact rfl);decide+kernel|apply bk (i:=3);(iterate 3 exact rfl);decide+kernel|apply bk (i:=4);(iterate 3 exact rfl);decide+kernel|apply bk (i:=8);(iterate 3 exact rfl);decide+kernel|apply bk (i:=9);(iterate 3 exact rfl);decide+kernel|apply bk (i:=13);(iterate 3 exact rfl);decide+kernel|apply bk (i:=14);(iterate 3 exact rfl);decide+kernel|apply aN (d:=39) (A:=A7) (m:=1);(iterate 3 exact rfl);exact pK;intro w hm;exact hm.cells_own pK;exact rfl;simp [Value.oneCell',sl];omega;simp only [maxLen];omega;intro B7 b7 hB7|apply aN (d:=44) (A:=A8) (m:=1);(iterate 3 exact rfl);exact pK;intro w hm;exact hm.cells_own pK;exact rfl;simp [Value.oneCell',sl];omega;simp only [maxLen];omega;intro B8 b8 hB8|apply aN (d:=49) (A:=A9) (m:=1);(iterate 3 exact rfl);exact pK;intro w hm;exact hm.cells_own pK;exact rfl;simp [Value.oneCell',sl];omega;simp only [maxLen];omega;intro B9 b9 hB9|apply fu;decide+kernel|apply rW;(focus (exact mS;done))|refine zZD ?_|refine sM fun _=>?_|refine sC ?_ ?_<;>intro hb<;>try omega|fail)
  all_goals first
   |omega
   |refine ⟨(i+1,(B7,b7),(B8,b8),(B9,b9)),hlt,by dsimp only;omega,by exact sB,by exact sB,?_⟩;dsimp only;rw [hsr,hsr,hsr];exact mS
 ·have e:i=PZ.length:=by omega
  subst e;rw [XF];have hM:=fun (f:Rl→BitVec 64) (w' :World) (lv:Value) (h:Reads w' lv PZ.length ((PZ.map (byN f L)).map vS))=>BV (PZ.map (byN f L)) lv w' (by rw [Xq];exact h);repeat' (first|apply aa (d:=52);exact rfl;exact rfl;intro w' hm;exact hM (fun x=>x.read) w' _ (Reads.of_own (A:=A7) hm pK)|apply aa (d:=54);exact rfl;exact rfl;intro w' hm;exact hM (fun x=>x.write) w' _ (Reads.of_own (A:=A8) hm pK)|apply aa (d:=56);exact rfl;exact rfl;intro w' hm;exact hM (fun x=>x.own) w' _ (Reads.of_own (A:=A9) hm pK)|refine zZJ ?_|refine sM fun _=>?_|refine sC ?_ ?_<;>intro hb<;>try omega|fail)
  all_goals first
   |omega
   |(refine lB ?_);rfl
attribute [local irreducible] gF jl mU
def FW (g:Gn) (L:List Rl):Bool:= !g.rev && gD (ovE g.rect L).1.2.2 g.by_
theorem RV (g:Gn) (L:List Rl) (lv:Value) (w:World) (hl:Reads w lv L.length (L.flatMap bQ)):aL Tryz.prog 215 [.agg (cD g).toArray,lv] w (.bool (FW g L)):=by
 refine aB Tryz.func215 rfl Tryz.ntmps215 rfl ?_;have h1:=fun (w' :World) (H:List Blk) (hm:Mem w w' H)=>KL g.rect L lv w' (hl.of_w0 hm);have h2:=fun w=>jc (ovE g.rect L).1.2.2 g.by_ w;unfold FW;generalize (ovE g.rect L).2=e at h1;generalize (ovE g.rect L).1.1=s1 at h1;generalize (ovE g.rect L).1.2.1=s2 at h1;generalize (ovE g.rect L).1.2.2=s3 at h1 h2 ⊢;generalize gD s3 g.by_=b at h2;repeat' (first|apply aa (f:=131);exact rfl;exact rfl;intro w' hm;exact h1 w' _ hm|apply aa;exact rfl;exact rfl;intro w hm;exact h2 w|refine sT ?_|refine sM fun _=>?_|refine sC ?_ ?_<;>intro hb<;>try omega|fail)
 all_goals first
  |omega
  |(refine rT1 ?_);rw [hb];rfl
def Fv (fn:Int) (r:Rct) (L:List Rl) (g:Gn):Bool:=decide (g.rect=r) && (oT g.fns fn && FW g L)
def dY (fn:Int) (r:Rct) (L:List Rl):List Gn→Nat→List (Nat × Gn)
 | [],_=> []
 |g::G,i=>bif Fv fn r L g then (i,g)::dY fn r L G (i+1) else dY fn r L G (i+1)
def TD (x:Nat × Gn):List Value:= [.int .i64 (x.1:Int),.agg (cD x.2).toArray]
theorem vw (fn:Int) (r:Rct) (L:List Rl): ∀ (G:List Gn) (i:Nat),(dY fn r L G i).length≤G.length
 | [],_=>Xy _
 |g::G,i=>by
  have:=vw fn r L G (i+1);rw [dY];cases Fv fn r L g<;>simp<;>omega
theorem RE (fn:Int) (r:Rct) (L:List Rl) (G:List Gn) (gv lv:Value) (w0:World) (hg:Reads w0 gv G.length (G.flatMap cD)) (hl:Reads w0 lv L.length (L.flatMap bQ)) (hn:G.length≤1000000) (gg gr gf gl:Nat):
 Seqs Tryz.prog 213 [.pointer (some ⟨gg,0,none⟩),.pointer (some ⟨gr,0,none⟩),.pointer (some ⟨gf,0,none⟩),.pointer (some ⟨gl,0,none⟩)] w0
  [.box gg 24 [gv],.box gr 31 (ay r),.box gf 5 [.int .u8 fn],.box gl 23 [lv]] (dY fn r L G 0) TD:=by
 obtain ⟨Ag,cg,rfl,hg1,hg2,hg3⟩:=hg;intro l I J H0 hy h0;refine FnIn.msub (H' := [.box gg 24 [.slice Ag G.length cg],.box gr 31 (ay r),.box gf 5 [.int .u8 fn],.box gl 23 [lv]]++H0) ?_ (MSub.appC H0 [] _);refine bI Tryz.func213 rfl Tryz.ntmps213 rfl ?_;repeat' (first|refine zZB ?_|refine sM fun _=>?_|refine sC ?_ ?_<;>intro hb<;>try omega|fail)
 refine ax [0,1,2,3,4,8,9] rfl (fun y:Nat × List (Nat × Gn) × List Blk=> [(10,.int .i64 (y.1:Int))]) (fun y=> [.box gg 24 [.slice Ag G.length cg],.box gr 31 (ay r),.box gf 5 [.int .u8 fn],.box gl 23 [lv]]++y.2.2) (fun y=>y.1≤G.length∧dY fn r L G 0=y.2.1++dY fn r L (G.drop y.1) y.1∧I y.2.1 y.2.2) (fun y=>G.length - y.1) (0,[],H0) ⟨Xn _,rfl,h0⟩ sB (by exact MSub.refl _) ?_;rintro ⟨i,pre,H1⟩ ⟨hi,hus,hI⟩;dsimp only at hi hus hI ⊢;simp only [Xc,Xd];by_cases hlt:i<G.length
 ·obtain ⟨ga,oa,rfl,hrl⟩:=hg3 (by omega);have he:=hrl.elem jy i hlt;rw [XC hlt,dY] at hus;generalize G[i]=g at hus he;have hN:=fun w=>Qw g.fns fn w;have hL:=fun (w' :World) (H:List Blk) (hm:Mem w0 w' H)=>RV g L lv w' (hl.of_w0 hm);unfold Fv at hus;obtain ⟨c1,hc1⟩: ∃ c,decide (g.rect=r)=c:=⟨_,rfl⟩;rw [hc1] at hus;generalize oT g.fns fn=c2 at hN hus;generalize FW g L=c3 at hL hus;repeat' (first|apply ji (id:=3)|apply JX (d:=18);exact rfl;exact rfl;apply pW hc1;exact rfl;exact rfl|apply lX;exact rfl;exact rfl|apply pR;(iterate 4 exact rfl)|(apply xn<;>first|exact rfl|intro hb;replace hb:=Tidy.out hb;try omega)|apply ub (f:=214);(iterate 3 exact rfl);intro w' hm;exact hN w'|apply ub (f:=215);(iterate 3 exact rfl);intro w' hm;exact hL w' _ hm|refine sT ?_|refine sS ?_|refine sI ?_|refine sN ?_|refine sO ?_|refine sM fun _=>?_|refine sC ?_ ?_<;>intro hb<;>try omega|fail)
  ·have hus2:dY fn r L G 0=pre++(i,g)::dY fn r L (G.drop (i+1)) (i+1):=by rw [hus];simp [*]
   rename_i g7 _ _;(with_reducible apply ic)
   ·exact rfl
   ·exact rfl
   ·exact rfl
   ·exact MSub.appC [.box g7 76 (cD g)] [.box gg 24 [.slice (some ⟨ga,oa,none⟩) G.length cg],.box gr 31 (ay r),.box gf 5 [.int .u8 fn],.box gl 23 [lv]] H1
   ·exact fun w hm=>hy pre (i,g) _ hus2 H1 _ hI w hm
   intro bb H3 hq;cases bb
   ·repeat' first|apply lX;exact rfl;exact rfl|apply pR;(iterate 4 exact rfl)|refine sT ?_|refine sS ?_|refine sI ?_|refine sM fun _=>?_|refine sC ?_ ?_<;>intro hb<;>try omega|fail
    exact fJ eIO rfl (MSub.appE [.box g7 76 (cD g)] [.box gg 24 [.slice (some ⟨ga,oa,none⟩) G.length cg],.box gr 31 (ay r),.box gf 5 [.int .u8 fn],.box gl 23 [lv]] H3) ⟨H3,.inr ⟨_,hq⟩,MSub.refl _⟩
   ·repeat' first|apply lX;exact rfl;exact rfl|apply pR;(iterate 4 exact rfl)|refine zZR ?_|refine sM fun _=>?_|refine sC ?_ ?_<;>intro hb<;>try omega|fail
    refine ⟨(i+1,_,H3),⟨hlt,hus2.trans (by rw [List.append_assoc];rfl),hq⟩,(by dsimp only;omega),sB,sB,?_⟩;dsimp only;exact MSub.trans (MSub.drop .hd (MSub.refl _)) (MSub.appD [.box g7 76 (cD g)] [.box gg 24 [.slice (some ⟨ga,oa,none⟩) G.length cg],.box gr 31 (ay r),.box gf 5 [.int .u8 fn],.box gl 23 [lv]] H3)
  all_goals
   refine ⟨(i+1,pre,H1),⟨hlt,by rw [hus];simp [*],hI⟩,(by dsimp only;omega),sB,sB,?_⟩;exact MSub.drop .hd (MSub.refl _)
 ·have e:i=G.length:=by omega
  subst e;rw [X0,dY,Xm] at hus;repeat' (first|refine zZB ?_|refine sM fun _=>?_|refine sC ?_ ?_<;>intro hb<;>try omega|fail)
  exact fJ eIO rfl (.refl _) ⟨H1,.inl (hus ▸ hI),MSub.appS [.box gg 24 [.slice Ag G.length cg],.box gr 31 (ay r),.box gf 5 [.int .u8 fn],.box gl 23 [lv]] H1⟩
def orS (l:List (BitVec 64)):BitVec 64:=l.foldl (· ||| ·) 0#64
theorem OP {l:List (BitVec 64)} {x:BitVec 64}:orS (l++ [x])=orS l|||x:=by unfold orS;rw [YG];rfl
def eB (fn:Int) (r:Rct) (L:List Rl) (G:List Gn):BitVec 64 × List Nat × Int:=
 if fn<46∨50<fn then (0#64,[],2) else if bY r≠0 then (0#64,[],3) else if (eV 64 L).2≠0 then (0#64,[],(eV 64 L).2) else if (lA 64 G).2≠0 then (0#64,[],(lA 64 G).2)
 else (orS ((dY fn r L G 0).map fun x=>x.2.to),(dY fn r L G 0).map fun x=>x.1,0)
theorem CT (fn:Int) (r:Rct) (lv gv:Value) (w:World) {m1 m2:Nat} {x1 x2:List Value} (hl:Reads w lv m1 x1) (hg:Reads w gv m2 x2):FnAt Tryz.prog 154 [.int .u8 fn,.agg (ay r).toArray,lv,gv] w fun v H=> ∃ gg gr gf gl,v= .func (.func 213) #[] #[.pointer (some ⟨gg,0,none⟩),.pointer (some ⟨gr,0,none⟩),.pointer (some ⟨gf,0,none⟩),.pointer (some ⟨gl,0,none⟩)]∧H= [.box gg 24 [gv],.box gr 31 (ay r),.box gf 5 [.int .u8 fn],.box gl 23 [lv]]:=by
 obtain ⟨Al,cl,rfl,_⟩:=hl;obtain ⟨Ag,cg,rfl,_⟩:=hg;refine aB Tryz.func154 rfl Tryz.ntmps154 rfl ?_;repeat' (first|refine sT ?_|refine sM fun _=>?_|refine sC ?_ ?_<;>intro hb<;>try omega|fail)
 rename_i gf gr gl gg;exact bo eIO rfl rfl (H' := [.box gg 24 [_],.box gr 31 (ay r),.box gf 5 [.int .u8 fn],.box gl 23 [_]]) mS ⟨gg,gr,gf,gl,rfl,rfl⟩
theorem QA (fn:Int) (r:Rct) (L:List Rl) (G:List Gn) (lv gv:Value) (w:World) (hl:Reads w lv L.length (L.flatMap bQ)) (hg:Reads w gv G.length (G.flatMap cD)) (hn:G.length≤1000000):
 FnAt Tryz.prog 120 [.int .u8 fn,.agg (ay r).toArray,lv,gv] w fun v H=> ∃ A cap,v= .tuple #[vS (eB fn r L G).1,sl A (eB fn r L G).2.1.length cap,.int .i64 (eB fn r L G).2.2]∧H= [.own A 3 1 (eB fn r L G).2.1.length cap (qO (eB fn r L G).2.1)]:=by
 refine o9 Tryz.func120 rfl Tryz.ntmps120 (by rfl) ?_;have h1:=fun w=>dQ r w;have h2:=fun (w' :World) (H:List Blk) (hm:Mem w w' H)=>jP 64 L lv w' (hl.of_w0 hm);have h3:=fun (w' :World) (H:List Blk) (hm:Mem w w' H)=>o7 64 G gv w' (hg.of_w0 hm);have h4:=fun (w' :World) (H:List Blk) (hm:Mem w w' H)=>CT fn r lv gv w' (hl.of_w0 hm) (hg.of_w0 hm);have h5:=fun gg gr gf gl=>RE fn r L G gv lv w hg hl hn gg gr gf gl;have hrl:=vw fn r L G 0;unfold eB;generalize bY r=e1 at h1;generalize (eV 64 L).2=e2 at h2;generalize (lA 64 G).2=e3 at h3;generalize dY fn r L G 0=us at h5 hrl;refine oh ?_;refine aF 3 1 ?_;repeat' (first|apply aa;exact rfl;exact rfl;intro w hm;exact h1 w|apply aa (f:=68);exact rfl;exact rfl;intro w' hm;exact h2 w' _ hm|apply aa (f:=69);exact rfl;exact rfl;intro w' hm;exact h3 w' _ hm|apply aw (f:=154);exact rfl;exact rfl;intro w' hm;exact h4 w' _ hm;rintro _ _ ⟨gg,gr,gf,gl,rfl,rfl⟩|refine zZP ?_|refine sM fun _=>?_|refine sC ?_ ?_<;>intro hb<;>try omega|refine sCR ?_ ?_<;>intro hb<;>try omega|fail)
 all_goals first
  |omega
  | (refine Dr ?_
     exact OA eIO rfl rfl pK rfl pK rfl (H' := [.own none 3 1 0 0 []]) mS ⟨none,0,by first|rw [if_pos (by omega)];exact ⟨rfl,rfl⟩|rw [if_neg (by omega),if_pos hb];exact ⟨rfl,rfl⟩|rw [if_neg (by omega),if_neg (by omega),if_pos hb];exact ⟨rfl,rfl⟩|rw [if_neg (by omega),if_neg (by omega),if_neg (by omega),if_pos hb];exact ⟨rfl,rfl⟩⟩)
  |skip
 rename_i g5 g8 g9 k1 k2 k3 k4;rw [if_neg (by omega),if_neg (by omega),if_neg (by omega),if_neg (by omega)]
 refine rZ (ps:= [47,48]) (us:=us) (encs:=TD) (Hc:= [.box gg 24 [gv],.box gr 31 (ay r),.box gf 5 [.int .u8 fn],.box gl 23 [lv]]) (HU0:= [.box g8 57 [vS 0#64],.box g9 40 [.slice none 0 0],.own none 3 1 0 0 []]) rfl (fun _=>rfl) rfl (h5 gg gr gf gl)
  (fun pre HU=> ∃ A cap,HU= [.box g8 57 [vS (orS (pre.map fun x=>x.2.to))],.box g9 40 [sl A pre.length cap],.own A 3 1 pre.length cap (qO (pre.map fun x=>x.1))]) (fun _=>False) ?_ ⟨none,0,rfl⟩ ?_ ?_ ?_
 ·exact mS
 ·rintro l pre ⟨i,g⟩ post hus _ ⟨A,cap,rfl⟩ F F';have hlu:=congrArg List.length hus;simp only [Xa,Xs] at hlu;change WR _ _ _ l _ _ ((48,Value.agg (cD g).toArray)::(47,Value.int .i64 (i:Int))::_) (.box g8 57 [vS (orS (pre.map fun x=>x.2.to))]:: .box g9 40 [sl A pre.length cap]:: .own A 3 1 pre.length cap (qO (pre.map fun x=>x.1))::F);repeat' (first|refine zZI ?_|refine sM fun _=>?_|refine sC ?_ ?_<;>intro hb<;>try omega|refine sCR ?_ ?_<;>intro hb<;>try omega|fail)
  rename_i g16;refine pN ⟨[.box g16 76 (cD g),.box g8 57 [vS (orS (pre.map fun x=>x.2.to))],.box g9 40 [sl A pre.length cap],.own A 3 1 pre.length cap (qO (pre.map fun x=>x.1))],MSub.refl _,?_⟩;change WR _ _ _ l _ _ _ (.box g16 76 (cD g):: .box g8 57 [vS (orS (pre.map fun x=>x.2.to))]:: .box g9 40 [sl A pre.length cap]:: .own A 3 1 pre.length cap (qO (pre.map fun x=>x.1))::F');repeat' (first|apply ak;exact rfl;apply H8 (b:=g.to);exact rfl;exact rfl|apply aN;(iterate 3 exact rfl);(repeat first|exact .hd|apply Sel.tl|apply In.tl);intro w hm;exact hm.cells_own (by (repeat first|exact .hd|apply Sel.tl|apply In.tl));exact rfl;simp [Value.oneCell',sl];omega;simp only [maxLen];omega;intro A' cap' hA'|refine zZI ?_|refine sM fun _=>?_|refine sC ?_ ?_<;>intro hb<;>try omega|refine sCR ?_ ?_<;>intro hb<;>try omega|fail)
  refine lI [.box g8 57 [vS (orS (pre.map fun x=>x.2.to)|||g.to)],.box g9 40 [sl A' (pre.length+1) cap'],.own A' 3 1 (pre.length+1) cap' (qO (pre.map fun x=>x.1)++ [.int .i64 (i:Int)])] ?_ ⟨A',cap',?_⟩
  ·change MSub (_::_::_::F') _;exact mS
  ·simp only [XI,XD,XR,OP,Xa,Xe,qO]
 ·rintro D _ ⟨A,cap,rfl⟩;change bw _ _ _ _ _ (dm D:: .box g8 57 [vS (orS (us.map fun x=>x.2.to))]:: .box g9 40 [sl A us.length cap]:: .own A 3 1 us.length cap (qO (us.map fun x=>x.1))::_);repeat' (first|refine zZP ?_|refine sM fun _=>?_|refine sC ?_ ?_<;>intro hb<;>try omega|refine sCR ?_ ?_<;>intro hb<;>try omega|fail)
  generalize orS (us.map fun x=>x.2.to)=o;refine xE (id:=16) [⟨2,g8,57,vS o,vS o⟩,⟨3,g9,40,sl A us.length cap,sl A us.length cap⟩] [dm D,.own A 3 1 us.length cap (qO (us.map fun x=>x.1))] (by kernel_rfl) (by kernel_rfl) rfl mS ?_;repeat' (first|refine wR ⟨2,g8,57,vS o,vS o⟩ (.head _) (f:=60) (j:=2) rfl (by decide+kernel) rfl rfl rfl ?_|refine wR ⟨3,g9,40,sl A us.length cap,sl A us.length cap⟩ (.tail _ (.head _)) (f:=60) (j:=3) rfl (by decide+kernel) rfl rfl rfl ?_|refine lF [] [⟨3,g9,40,sl A us.length cap,sl A us.length cap⟩] ⟨2,g8,57,vS o,vS o⟩ rfl rfl rfl rfl rfl rfl ?_|refine lF [⟨2,g8,57,vS o,vS o⟩] [] ⟨3,g9,40,sl A us.length cap,sl A us.length cap⟩ rfl rfl rfl rfl rfl rfl ?_|apply JZ;exact rfl;exact rfl;exact vC|refine sT ?_|refine sS ?_|refine sR ?_|refine sG ?_|refine sM fun _=>?_|refine sC ?_ ?_<;>intro hb<;>try omega|refine sCR ?_ ?_<;>intro hb<;>try omega|fail)
  refine ph pK ?_;exact OA eIO rfl rfl pK rfl pK rfl (H' := [.own A 3 1 us.length cap (qO (us.map fun x=>x.1))]) mS ⟨A,cap,by dsimp only;rw [List.length_map],by dsimp only;rw [List.length_map]⟩
 ·rintro D HU h;exact h.elim
theorem pZ {κ:Type} [DecidableEq κ] {f:κ→Value} {k:κ} {v:Value} (h:v=f k):nj f k v=f:=by
 funext x;unfold nj;split
 ·rename_i e;subst e;exact h
 ·rfl
theorem G8 {K:List Rf} {lab:Rf→BitVec 64} {r:Rct} {s:BitVec 64}:(K.filter fun c=>aI r c).foldl (fun s c=>s &&& lab c) s=Ht K lab r s:=by
 unfold Ht;rw [List.foldl_filter]
def qU (lab:Rf→BitVec 64) (l:List Rf) (s:BitVec 64):BitVec 64:=l.foldl (fun s c=>s &&& lab c) s
theorem Jf {lab:Rf→BitVec 64} {l:List Rf} {c:Rf} {s:BitVec 64}:qU lab (l++ [c]) s=qU lab l s &&& lab c:=by unfold qU;rw [YG];rfl
theorem K3 (r:Rct) (gb:Nat) (w:World):FnAt Tryz.prog 132 [.pointer (some ⟨gb,0,none⟩),.agg (ay r).toArray] w fun v H=> ∃ gw gq,v= .func (.func 176) #[] #[.pointer (some ⟨gw,0,none⟩),.pointer (some ⟨gq,0,none⟩)]∧H= [.box gw 106 [.pointer (some ⟨gb,0,none⟩)],.box gq 31 (ay r)]:=by
 refine aB Tryz.func132 rfl Tryz.ntmps132 rfl ?_;repeat' (first|refine sT ?_|refine sM fun _=>?_|refine sC ?_ ?_<;>intro hb<;>try omega|fail)
 rename_i gw gq;exact bo eIO rfl rfl (H' := [.box gw 106 [.pointer (some ⟨gb,0,none⟩)],.box gq 31 (ay r)]) mS ⟨gw,gq,rfl,rfl⟩
theorem Pv (r:Rct) (gb gl gr ga:Nat) (gv rv nv:Value) (Ac:Option Nat) (cap:Nat) (K:List Rf) (L:List Rl) (hK:K.length≤1000000) (lab:Rf→BitVec 64) (SR:List Rct) (w0:World) (F:List Blk) (hl: ∀ w',Mem w0 w' F→Reads w' rv L.length (L.flatMap bQ)):
 FnIn Tryz.prog 93 [.pointer (some ⟨gb,0,none⟩),.agg (ay r).toArray] w0 (.box gb 114 [gv,rv,nv,sl Ac K.length cap,.map (some gl),.map (some gr),.map (some ga)]:: .own Ac 34 2 K.length cap (K.flatMap aq):: .obj gl (aK aC (mapM (fun c=>vS (lab c)) K) K.length):: .obj gr (aK jN (mapM (fun r=>vS (ovE r L).1.1) SR) (SR).length)::F) fun v H' =>v=vS (Ht K lab r (ovE r L).1.1)∧H' = .box gb 114 [gv,rv,nv,sl Ac K.length cap,.map (some gl),.map (some gr),.map (some ga)]:: .own Ac 34 2 K.length cap (K.flatMap aq):: .obj gl (aK aC (mapM (fun c=>vS (lab c)) K) K.length):: .obj gr (aK jN (mapM (fun r=>vS (ovE r L).1.1) (if r∈SR then SR else SR++ [r])) ((if r∈SR then SR else SR++ [r])).length)::F:=by
 refine yQ Tryz.func93 rfl Tryz.ntmps93 (by rfl) ?_;have h1:=fun (w' :World) (H:List Blk) (hs:MSub F H) (hm:Mem w0 w' H)=>KL r L rv w' (hl w' (hs.use hm));have h2:=fun w=>K3 r gb w;have hlook:=rJ (fun r=>vS (ovE r L).1.1) SR r (vS 0#64);have hnew:=fun h:r∉SR=>wW (f:=fun r=>vS (ovE r L).1.1) (v:=vS (ovE r L).1.1) h;have hup:=pZ (f:=fun r=>vS (ovE r L).1.1) (k:=r) rfl;try dsimp only at hlook
 try dsimp only at hup
 obtain ⟨s1,hs1⟩: ∃ s,(ovE r L).1.1=s:=⟨_,rfl⟩;rw [hs1] at h1 hlook hnew hup ⊢;generalize (ovE r L).2=e at h1;generalize (ovE r L).1.2.1=s2 at h1;generalize (ovE r L).1.2.2=s3 at h1;rw [hup] at hnew;by_cases hr:r∈SR
 focus
  rw [if_pos hr,decide_eq_true hr] at hlook;rw [if_pos hr];repeat' (first|apply kL (id:=1) [9,10] [];kernel_rfl;kernel_rfl;kernel_rfl|apply fH (d:=16);(iterate 3 exact rfl);apply eG (enc:=jN) (k:=r);exact rfl;exact rfl;exact pK;exact hlook|apply aw (f:=132);exact rfl;exact rfl;intro w' hm;exact h2 w';rintro _ _ ⟨gw,gq,rfl,rfl⟩|refine zZS ?_|refine sM fun _=>?_|refine sC ?_ ?_<;>intro hb<;>try omega|refine sCR ?_ ?_<;>intro hb<;>try omega|refine sCW ?_ ?_<;>intro hb<;>try omega|fail)
  rename_i g2 g3 g5;generalize SR=S'
 rotate_left
 focus
  rw [if_neg hr,decide_eq_false hr] at hlook;rw [if_neg hr];have hnew:=hnew hr;repeat' (first|apply kL (id:=1) [9,10] [];kernel_rfl;kernel_rfl;kernel_rfl|apply fH (d:=16);(iterate 3 exact rfl);apply eG (enc:=jN) (k:=r);exact rfl;exact rfl;exact pK;exact hlook|refine zZS ?_|refine sM fun _=>?_|refine sC ?_ ?_<;>intro hb<;>try omega|refine sCR ?_ ?_<;>intro hb<;>try omega|refine sCW ?_ ?_<;>intro hb<;>try omega|fail)
  rename_i g2 g3 g5;refine fw (id:=3) [5,9,10] [.box g2 106 [.pointer (some ⟨gb,0,none⟩)],.box g3 31 (ay r),.box gb 114 [gv,rv,nv,sl Ac K.length cap,.map (some gl),.map (some gr),.map (some ga)]] 12 rfl rfl mS ?_;repeat' (first|apply ba (i:=0);(iterate 4 exact rfl);(iterate 3 decide+kernel);exact vC|apply ba (i:=1);(iterate 4 exact rfl);(iterate 3 decide+kernel);exact vC|apply ba (i:=2);(iterate 4 exact rfl);(iterate 3 decide+kernel);exact vC|apply ba (i:=3);(iterate 4 exact rfl);(iterate 3 decide+kernel);exact vC|apply ba (i:=4);(iterate 4 exact rfl);(iterate 3 decide+kernel);exact vC|apply ba (i:=6);(iterate 4 exact rfl);(iterate 3 decide+kernel);exact vC|apply ba (i:=7);(iterate 4 exact rfl);(iterate 3 decide+kernel);exact vC|apply ba (i:=8);(iterate 4 exact rfl);(iterate 3 decide+kernel);exact vC|apply ba (i:=11);(iterate 4 exact rfl);(iterate 3 decide+kernel);apply eY;exact rfl|apply cF (i:=5) (j:=9);(iterate 6 exact rfl);decide+kernel|apply bk (i:=5);(iterate 3 exact rfl);decide+kernel|apply bk (i:=9);(iterate 3 exact rfl);decide+kernel|apply bk (i:=10);(iterate 3 exact rfl);decide+kernel|apply fu;decide+kernel|apply rW;(focus (exact mS;done))|apply aa (f:=131);exact rfl;exact rfl;intro w' hm;exact h1 w' _ mS hm|refine zZP ?_|refine sM fun _=>?_|refine sC ?_ ?_<;>intro hb<;>try omega|refine sCR ?_ ?_<;>intro hb<;>try omega|fail)
  all_goals
   rename_i g7;refine bT (id:=5) [6] [] [.box g2 106 [.pointer (some ⟨gb,0,none⟩)],.box g3 31 (ay r),.box g5 57 [vS s1],.box gb 114 [gv,rv,nv,sl Ac K.length cap,.map (some gl),.map (some gr),.map (some ga)]] (by kernel_rfl) (by kernel_rfl) (by kernel_rfl) mS ?_;repeat' (first|apply cB (enc:=jN) (k:=r);(iterate 3 exact rfl);exact pK;rw [hnew]|apply aw (f:=132);exact rfl;exact rfl;intro w' hm;exact h2 w';rintro _ _ ⟨gw,gq,rfl,rfl⟩|refine zZS ?_|refine sM fun _=>?_|refine sC ?_ ?_<;>intro hb<;>try omega|refine sCR ?_ ?_<;>intro hb<;>try omega|refine sCW ?_ ?_<;>intro hb<;>try omega|fail)
   rw [show SR.length+1=(SR++ [r]).length by simp];generalize SR++ [r]=S'
 all_goals
  refine KS (ps:= [41]) (us:=K.filter fun c=>aI r c) (encs:=fun c=> [aC c]) (Hc:= .box gw 106 [.pointer (some ⟨gb,0,none⟩)]:: .box gq 31 (ay r):: .box gb 114 [gv,rv,nv,sl Ac K.length cap,.map (some gl),.map (some gr),.map (some ga)]:: .own Ac 34 2 K.length cap (K.flatMap aq)::F) (HU0:= .box g2 106 [.pointer (some ⟨gb,0,none⟩)]:: .box g5 57 [vS (s1)]:: .obj gl (aK aC (mapM (fun c=>vS (lab c)) K) K.length):: .obj gr (aK jN (mapM (fun r=>vS (ovE r L).1.1) S') S'.length):: []) rfl (fun _=>rfl) rfl ((HW r K hK gw gq gb gv rv nv _ _ _ Ac cap w0).frame F) (fun pre HU=>HU= .box g2 106 [.pointer (some ⟨gb,0,none⟩)]:: .box g5 57 [vS (qU lab pre s1)]:: .obj gl (aK aC (mapM (fun c=>vS (lab c)) K) K.length):: .obj gr (aK jN (mapM (fun r=>vS (ovE r L).1.1) S') S'.length):: []) (fun _=>False) ?_ rfl ?_ ?_ ?_
  ·exact mS
  ·rintro l pre c post hus _ rfl F1 F2;have hcK:c∈K:=(XM.1 (hus ▸ XB _ Xb:c∈K.filter fun c=>aI r c)).1;have hlk:=tu (fun c=>vS (lab c)) K c (vS 0#64);rw [if_pos hcK] at hlk;change WR _ _ _ l _ _ ((41,aC c)::_) (.box g2 106 [.pointer (some ⟨gb,0,none⟩)]:: .box g5 57 [vS (qU lab pre s1)]:: .obj gl (aK aC (mapM (fun c=>vS (lab c)) K) K.length):: .obj gr (aK jN (mapM (fun r=>vS (ovE r L).1.1) S') S'.length):: .box gw 106 [.pointer (some ⟨gb,0,none⟩)]:: .box gq 31 (ay r):: .box gb 114 [gv,rv,nv,sl Ac K.length cap,.map (some gl),.map (some gr),.map (some ga)]:: .own Ac 34 2 K.length cap (K.flatMap aq)::(F++F1));repeat' (first|refine zZI ?_|refine sM fun _=>?_|refine sC ?_ ?_<;>intro hb<;>try omega|refine sCR ?_ ?_<;>intro hb<;>try omega|fail)
   rename_i g9;refine pN ⟨.box g9 34 (aq c):: .box g2 106 [.pointer (some ⟨gb,0,none⟩)]:: .box g5 57 [vS (qU lab pre s1)]:: .obj gl (aK aC (mapM (fun c=>vS (lab c)) K) K.length):: .obj gr (aK jN (mapM (fun r=>vS (ovE r L).1.1) S') S'.length):: [],MSub.refl _,?_⟩;change WR _ _ _ l _ _ _ (.box g9 34 (aq c):: .box g2 106 [.pointer (some ⟨gb,0,none⟩)]:: .box g5 57 [vS (qU lab pre s1)]:: .obj gl (aK aC (mapM (fun c=>vS (lab c)) K) K.length):: .obj gr (aK jN (mapM (fun r=>vS (ovE r L).1.1) S') S'.length):: .box gw 106 [.pointer (some ⟨gb,0,none⟩)]:: .box gq 31 (ay r):: .box gb 114 [gv,rv,nv,sl Ac K.length cap,.map (some gl),.map (some gr),.map (some ga)]:: .own Ac 34 2 K.length cap (K.flatMap aq)::(F++F2));refine DY ?_;refine r9 (id:=8) [8] [0] [.box g9 34 (aq c),.box g2 106 [.pointer (some ⟨gb,0,none⟩)],.obj gl (aK aC (mapM (fun c=>vS (lab c)) K) K.length),.box gb 114 [gv,rv,nv,sl Ac K.length cap,.map (some gl),.map (some gr),.map (some ga)]] (by kernel_rfl) (by kernel_rfl) (by kernel_rfl) rfl mS ?_;repeat' (first|apply U5 (d:=42);(iterate 4 exact rfl);exact vC|apply fH (d:=48);(iterate 3 exact rfl);apply bV (enc:=aC) (k:=c);exact rfl;exact rfl;exact pK;exact hlk|apply fH (d:=49);(iterate 3 exact rfl);apply pY;exact rfl;exact rfl|refine zZS ?_|refine sM fun _=>?_|refine sC ?_ ?_<;>intro hb<;>try omega|refine sCR ?_ ?_<;>intro hb<;>try omega|refine sCW ?_ ?_<;>intro hb<;>try omega|fail)
   refine lI (.box g2 106 [.pointer (some ⟨gb,0,none⟩)]:: .box g5 57 [vS (qU lab pre s1 &&& lab c)]:: .obj gl (aK aC (mapM (fun c=>vS (lab c)) K) K.length):: .obj gr (aK jN (mapM (fun r=>vS (ovE r L).1.1) S') S'.length):: []) ?_ ?_
   ·change MSub (.box g2 106 [.pointer (some ⟨gb,0,none⟩)]:: .box g5 57 [vS (qU lab pre s1 &&& lab c)]:: .obj gl (aK aC (mapM (fun c=>vS (lab c)) K) K.length):: .obj gr (aK jN (mapM (fun r=>vS (ovE r L).1.1) S') S'.length):: .box gw 106 [.pointer (some ⟨gb,0,none⟩)]:: .box gq 31 (ay r):: .box gb 114 [gv,rv,nv,sl Ac K.length cap,.map (some gl),.map (some gr),.map (some ga)]:: .own Ac 34 2 K.length cap (K.flatMap aq)::(F++F2)) _;exact mS
   ·rw [Jf]
  ·rintro D _ rfl;change bw _ _ _ _ _ (dm D:: .box g2 106 [.pointer (some ⟨gb,0,none⟩)]:: .box g5 57 [vS (qU lab (K.filter fun c=>aI r c) s1)]:: .obj gl (aK aC (mapM (fun c=>vS (lab c)) K) K.length):: .obj gr (aK jN (mapM (fun r=>vS (ovE r L).1.1) S') S'.length):: .box gw 106 [.pointer (some ⟨gb,0,none⟩)]:: .box gq 31 (ay r):: .box gb 114 [gv,rv,nv,sl Ac K.length cap,.map (some gl),.map (some gr),.map (some ga)]:: .own Ac 34 2 K.length cap (K.flatMap aq)::F);repeat' (first|refine zZP ?_|refine sM fun _=>?_|refine sC ?_ ?_<;>intro hb<;>try omega|refine sCR ?_ ?_<;>intro hb<;>try omega|fail)
   refine ph pK ?_;exact bo eIO rfl rfl (H' := .box gb 114 [gv,rv,nv,sl Ac K.length cap,.map (some gl),.map (some gr),.map (some ga)]:: .own Ac 34 2 K.length cap (K.flatMap aq):: .obj gl (aK aC (mapM (fun c=>vS (lab c)) K) K.length):: .obj gr (aK jN (mapM (fun r=>vS (ovE r L).1.1) S') S'.length)::F) mS ⟨by rw [← G8];rfl,rfl⟩
  ·rintro D HU h;exact h.elim
theorem UH (u:Us) (gb gl gr ga:Nat) (gv rv nv:Value) (Ac:Option Nat) (cap:Nat) (K:List Rf) (L:List Rl) (N:List Gn) (hN:N.length≤1000000) (SA:List Ak) (w0:World) (F:List Blk) (hl: ∀ w',Mem w0 w' F→Reads w' rv L.length (L.flatMap bQ)) (hn: ∀ w',Mem w0 w' F→Reads w' nv N.length (N.flatMap cD)):
 FnIn Tryz.prog 94 [.pointer (some ⟨gb,0,none⟩),.agg (bP u).toArray] w0 (.box gb 114 [gv,rv,nv,sl Ac K.length cap,.map (some gl),.map (some gr),.map (some ga)]:: .obj ga (aK lV (mapM (fun a=>vS (eB a.fn a.rect L N).1) SA) (SA).length)::F) fun v H' => ∃ S',(SA.Nodup→S'.Nodup)∧v=vS (if u.node<0 then 0#64 else (eB u.fn u.rect L N).1)∧H' = .box gb 114 [gv,rv,nv,sl Ac K.length cap,.map (some gl),.map (some gr),.map (some ga)]:: .obj ga (aK lV (mapM (fun a=>vS (eB a.fn a.rect L N).1) S') (S').length)::F:=by
 refine bI Tryz.func94 rfl Tryz.ntmps94 rfl ?_;have h1:=fun (w' :World) (H:List Blk) (hs:MSub F H) (hm:Mem w0 w' H)=>QA u.fn u.rect L N rv nv w' (hl w' (hs.use hm)) (hn w' (hs.use hm)) hN;have hlook:=rJ (fun a=>vS (eB a.fn a.rect L N).1) SA ⟨u.fn,u.rect⟩ (vS 0#64);have hnew:=fun h:(⟨u.fn,u.rect⟩:Ak)∉SA=>wW (f:=fun a=>vS (eB a.fn a.rect L N).1) (v:=vS (eB u.fn u.rect L N).1) h;have hup:=pZ (f:=fun a:Ak=>vS (eB a.fn a.rect L N).1) (k:=⟨u.fn,u.rect⟩) rfl;try dsimp only at hlook
 try dsimp only at hup
 obtain ⟨s1,hs1⟩: ∃ s,(eB u.fn u.rect L N).1=s:=⟨_,rfl⟩;rw [hs1] at h1 hlook hnew hup ⊢;generalize (eB u.fn u.rect L N).2.1=ps at h1;generalize (eB u.fn u.rect L N).2.2=e at h1;rw [hup] at hnew;by_cases hr:(⟨u.fn,u.rect⟩:Ak)∈SA
 ·rw [if_pos hr,decide_eq_true hr] at hlook;repeat' (first|apply aQ (d:=20);exact rfl;apply eG (enc:=lV) (k:=⟨u.fn,u.rect⟩);exact rfl;exact rfl;exact pK;exact hlook|refine zZL ?_|refine sM fun _=>?_|refine sC ?_ ?_<;>intro hb<;>try omega|refine sCQ ?_ ?_<;>intro hb<;>try omega|fail)
  all_goals first
   |omega
   |rw [if_pos hb];exact bo eIO rfl rfl (H' := .box gb 114 [gv,rv,nv,sl Ac K.length cap,.map (some gl),.map (some gr),.map (some ga)]:: .obj ga (aK lV (mapM (fun a=>vS (eB a.fn a.rect L N).1) SA) (SA).length)::F) mS ⟨SA,fun h=>h,rfl,rfl⟩
   |rw [if_neg (by omega)];exact bo eIO rfl rfl (H' := .box gb 114 [gv,rv,nv,sl Ac K.length cap,.map (some gl),.map (some gr),.map (some ga)]:: .obj ga (aK lV (mapM (fun a=>vS (eB a.fn a.rect L N).1) SA) (SA).length)::F) mS ⟨_,fun h=>h,rfl,rfl⟩
 ·rw [if_neg hr,decide_eq_false hr] at hlook;have hnew:=hnew hr;rw [show SA.length+1=(SA++ [(⟨u.fn,u.rect⟩:Ak)]).length by simp] at hnew;have hnd:SA.Nodup→(SA++ [(⟨u.fn,u.rect⟩:Ak)]).Nodup:=fun h=>YK.2 ⟨h,Yv _ _,fun a ha b hb e=>hr (by rw [Xl.1 hb] at e;exact e ▸ ha)⟩;generalize SA++ [(⟨u.fn,u.rect⟩:Ak)]=S2 at hnew hnd;repeat' (first|apply kL (id:=5) [12] [];kernel_rfl;kernel_rfl;kernel_rfl|rename_i g3;refine bT (id:=6) [10] [] [.box g3 159 (bP u),.box gb 114 [gv,rv,nv,sl Ac K.length cap,.map (some gl),.map (some gr),.map (some ga)]] (by kernel_rfl) (by kernel_rfl) (by kernel_rfl) mS ?_|apply aQ (d:=20);exact rfl;apply eG (enc:=lV) (k:=⟨u.fn,u.rect⟩);exact rfl;exact rfl;exact pK;exact hlook|apply aw (f:=120);exact rfl;exact rfl;intro w' hm;exact h1 w' _ mS hm;rintro _ _ ⟨A2,cap2,rfl,rfl⟩|apply cB (enc:=lV) (k:=⟨u.fn,u.rect⟩);(iterate 3 exact rfl);exact pK;rw [hnew]|refine zZX ?_|refine sM fun _=>?_|refine sC ?_ ?_<;>intro hb<;>try omega|refine sCQ ?_ ?_<;>intro hb<;>try omega|refine sCW ?_ ?_<;>intro hb<;>try omega|fail)
  all_goals first
   |omega
   |rw [if_pos hb];exact bo eIO rfl rfl (H' := .box gb 114 [gv,rv,nv,sl Ac K.length cap,.map (some gl),.map (some gr),.map (some ga)]:: .obj ga (aK lV (mapM (fun a=>vS (eB a.fn a.rect L N).1) SA) (SA).length)::F) mS ⟨SA,fun h=>h,rfl,rfl⟩
   |rw [if_neg (by omega)];exact bo eIO rfl rfl (H' := .box gb 114 [gv,rv,nv,sl Ac K.length cap,.map (some gl),.map (some gr),.map (some ga)]:: .obj ga (aK lV (mapM (fun a=>vS (eB a.fn a.rect L N).1) S2) (S2).length)::F) mS ⟨_,hnd,rfl,rfl⟩
end Go.SL

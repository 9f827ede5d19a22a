/-
  Lemmas and walks, put together: Hl Hd Hf Hg Hp Hh Hi.
-/
import Derived.Test.YthgjiibbmkiplaaGreatDoorKw19
set_option linter.unusedSimpArgs false
set_option linter.unusedVariables false
set_option maxRecDepth 20000
set_option maxHeartbeats 16000000
namespace Go.SL
open Go Go.Proofs
attribute [local irreducible] W WL WQ WG WA WX WLI WR WT WC WE VOp RW thn blk bA scp aY aX bw FnAt FnIn FnP ceP
theorem RX (a:Rf) (L:List Rl) (lv:Value) (w:World) (hl:Reads w lv L.length (L.flatMap bQ)) (hb:L.length≤1000000) (hpos:0<L.length):aL Tryz.prog 178 [.agg (aq a).toArray,lv] w (.int .i64 (iK L a:Int)):=by
 obtain ⟨Al,cl,rfl,hl1,hl2,hl3⟩:=hl;refine aB Tryz.func178 rfl Tryz.ntmps178 rfl ?_;repeat' (first|refine zZA ?_|refine sM fun _=>?_|refine sC ?_ ?_<;>intro hb<;>try omega|fail)
 rename_i g2;obtain ⟨gl,ol,rfl,hrl⟩:=hl3 (by omega);refine ax [1,2] rfl (fun i:Nat=> [(5,.int .i64 (i:Int))]) (fun _=> [.box g2 34 (aq a)]) (fun i=>i<L.length∧iK L a=vK a L (i+1)) (fun i=>i) (L.length - 1) ⟨by omega,by rw [aab (by omega)];rfl⟩ sB mS ?_;rintro i ⟨hi,hrec⟩;rw [vK,Xf hi] at hrec;simp only [Ys,Ze] at hrec;have hIn:=fun w=>jA L[i].rect a w;obtain ⟨h0a,_⟩:=Rl.ro (hrl.elem dw i hi);obtain ⟨c,hcc⟩: ∃ c,aI L[i].rect a=c:=⟨_,rfl⟩;simp only [hcc] at hIn hrec;clear hcc;generalize L[i].rect=x at h0a hIn;by_cases hi0:i=0
 ·subst hi0;have e:iK L a=0:=by rw [hrec];cases c<;>rfl
  rw [e];repeat' (first|refine zZB ?_|refine sM fun _=>?_|refine sC ?_ ?_<;>intro hb<;>try omega|fail)
  all_goals first|omega|(refine rT1 ?_);rfl
 ·cases c
  ·rw [if_neg (by decide)] at hrec;repeat' (first|apply aQ;exact rfl;apply ai (j:=i);exact rfl;exact rfl;exact hi|apply df (f:=28);exact rfl;exact rfl;intro w' _;exact hIn w'|refine zZQ ?_|refine sM fun _=>?_|refine sC ?_ ?_<;>intro hb<;>try omega|refine sCQ ?_ ?_<;>intro hb<;>try omega|fail)
   all_goals first
    |omega
    |refine ⟨i - 1,⟨by omega,by rw [aab (by omega)];exact hrec⟩,by omega,by exact sB,by exact sB,by exact mS⟩;done
  ·rw [if_pos rfl] at hrec;rw [hrec];repeat' (first|apply aQ;exact rfl;apply ai (j:=i);exact rfl;exact rfl;exact hi|apply df (f:=28);exact rfl;exact rfl;intro w' _;exact hIn w'|refine zZQ ?_|refine sM fun _=>?_|refine sC ?_ ?_<;>intro hb<;>try omega|refine sCQ ?_ ?_<;>intro hb<;>try omega|fail)
   all_goals first|omega|(refine rT1 ?_);rfl
def wy (a:Rf) (L:List Rl):Int × Int:=if a.valid=false then (0,3) else if (eV 64 L).2≠0 then (0,(eV 64 L).2) else ((iK L a:Int),0)
theorem KK {L:List Rl} (h: ¬ (eV 64 L).2≠0):0<L.length∧L.length≤64:=by
 unfold eV at h;split at h
 ·exact absurd (by decide) h
 ·rename_i h1;have hn:L≠ []:=fun e=>h1 (.inr (.inr (.inr e)));split at h
  ·exact absurd (by decide) h
  ·exact ⟨Yr.2 hn,by omega⟩
theorem JG (a:Rf) (L:List Rl) (lv:Value) (w:World) (hl:Reads w lv L.length (L.flatMap bQ)):aL Tryz.prog 134 [.agg (aq a).toArray,lv] w (.tuple #[.int .i64 (wy a L).1,.int .i64 (wy a L).2]):=by
 refine aB Tryz.func134 rfl Tryz.ntmps134 rfl ?_;have h1:=fun w=>iQ a.col a.row w;have h2:=fun (w' :World) (H:List Blk) (hm:Mem w w' H)=>jP 64 L lv w' (hl.of_w0 hm);have h3:=fun (hp:0<L.length) (hb:L.length≤64) (w' :World) (H:List Blk) (hm:Mem w w' H)=>RX a L lv w' (hl.of_w0 hm) (by omega) hp;have hv:a.valid=valid a.col a.row:=rfl;unfold wy;rw [hv];generalize valid a.col a.row=b at h1;by_cases hc:(eV 64 L).2≠0
 ·rw [if_pos hc];cases b
  all_goals
   repeat' first|apply aa;exact rfl;exact rfl;intro w hm;exact h1 w|apply aa (f:=68);exact rfl;exact rfl;intro w' hm;exact h2 w' _ hm|refine sT ?_|refine sM fun _=>?_|refine sC ?_ ?_<;>intro hb<;>try omega|fail
  all_goals first|omega|(refine rT2 ?_);rfl
 ·obtain ⟨hp,hb⟩:=KK hc;have h3:=h3 hp hb;rw [if_neg hc];have hc0:(eV 64 L).2=0:=by omega
  rw [hc0] at h2;cases b
  all_goals
   repeat' first|apply aa;exact rfl;exact rfl;intro w hm;exact h1 w|apply aa (f:=68);exact rfl;exact rfl;intro w' hm;exact h2 w' _ hm|apply aa (f:=178);exact rfl;exact rfl;intro w' hm;exact h3 w' _ hm|refine sT ?_|refine sM fun _=>?_|refine sC ?_ ?_<;>intro hb<;>try omega|fail
  all_goals first|omega|(refine rT2 ?_);rfl
def atR (a:Rf) (L:List Rl):BitVec 64 × BitVec 64 × BitVec 64:=match L[iK L a]? with|some x=>(x.read,x.write,x.own)|none=>(0#64,0#64,0#64)
def atE (a:Rf) (L:List Rl):(BitVec 64 × BitVec 64 × BitVec 64) × Int:=if (wy a L).2≠0 then ((0#64,0#64,0#64),(wy a L).2) else (atR a L,0)
theorem QN {a:Rf} {L:List Rl} (h: ¬ (wy a L).2≠0):a.valid=true∧(wy a L).1=iK L a∧ ∃ h:iK L a<L.length,atR a L=((L[iK L a]'h).read,(L[iK L a]'h).write,(L[iK L a]'h).own):=by
 unfold wy at h ⊢;split at h
 ·exact absurd (by decide) h
 ·rename_i hv;split at h
  ·rename_i h2;exact absurd h2 h
  ·rename_i h2;have hp:=(KK h2).1;have hlt:=Pb (a:=a) (L:=L) (Yr.1 hp);refine ⟨by simpa using hv,?_,hlt,?_⟩
   ·simp only [hv,h2,X3,if_false];rfl
   ·unfold atR;rw [Xf hlt]
theorem KN (a:Rf) (L:List Rl) (lv:Value) (w:World) (hl:Reads w lv L.length (L.flatMap bQ)):aL Tryz.prog 96 [.agg (aq a).toArray,lv] w (.tuple #[.agg #[vS (atE a L).1.1,vS (atE a L).1.2.1,vS (atE a L).1.2.2],.int .i64 (atE a L).2]):=by
 refine aB Tryz.func96 rfl Tryz.ntmps96 rfl ?_;have h1:=fun (w' :World) (H:List Blk) (hm:Mem w w' H)=>JG a L lv w' (hl.of_w0 hm);unfold atE;by_cases hc:(wy a L).2≠0
 ·rw [if_pos hc];repeat' (first|apply aa (f:=134);exact rfl;exact rfl;intro w' hm;exact h1 w' _ hm|refine sT ?_|refine sM fun _=>?_|refine sC ?_ ?_<;>intro hb<;>try omega|fail)
  all_goals first
   |omega
   |(refine lB ?_);rfl
 ·rw [if_neg hc];obtain ⟨_,h2,hlt,h3⟩:=QN hc;have hc0:(wy a L).2=0:=by omega
  rw [h2,hc0] at h1;rw [h3];obtain ⟨Al,cl,rfl,hl1,hl2,hl3⟩:=hl;obtain ⟨gl,ol,rfl,hrl⟩:=hl3 (by omega);obtain ⟨_,_,_,_,hrr⟩:=Rl.ro (hrl.elem dw _ hlt);generalize L[iK L a]'hlt=x at hrr;generalize iK L a=i at h1 hlt hrr;repeat' (first|apply aa (f:=134);exact rfl;exact rfl;intro w' hm;exact h1 w' _ hm|apply ak (d:=20);exact rfl;apply ai (j:=i);exact rfl;exact rfl;exact hlt|apply ak (d:=22);exact rfl;apply aP (xs:= [vS x.read,vS x.write,vS x.own]);exact rfl;exact hrr;exact rfl|refine zZO ?_|refine sM fun _=>?_|refine sC ?_ ?_<;>intro hb<;>try omega|fail)
  all_goals first
   |omega
   |(refine lB ?_);rfl
theorem RG {L:List Int} {k:Nat} (h:k<L.length):(L.map dZ)[0+k*1]? =some (dZ L[k]):=by
 rw [Xv,YT,XN,Xf h];rfl
theorem Tw {L:List Int} {a k:Nat} (h:a+k<L.length):(L.map dZ)[a*1+k*1]? =some (dZ L[a+k]):=by
 rw [YT,YT,XN,Xf h];rfl
theorem wg (L:List Int) (A:Option Nat) (cap:Nat) (hL:L.length≤4000000000000) (R:List Blk) (w0:World):
 FnIn Tryz.prog 55 [sl A L.length cap] w0 (.own A 3 1 L.length cap (L.map dZ)::R) fun v H=>v=sl A (fS L).length cap∧H= .own A 3 1 (fS L).length cap ((fS L).map dZ)::R:=by
 refine bI Tryz.func55 rfl Tryz.ntmps55 rfl ?_;refine K8 (A:=A) .hd fun hle=> ?_;by_cases h2:L.length<2
 ·have hc:=GW (L:=L) (by omega);repeat' (first|refine zZA ?_|refine sM fun _=>?_|refine sC ?_ ?_<;>intro hb<;>try omega|fail)
  all_goals first
   |omega
   |refine bo eIO rfl rfl (.refl _) ?_;rw [hc];exact ⟨rfl,rfl⟩
 ·refine aU (A:=A) .hd (by omega) fun g hA=> ?_;subst hA;repeat' (first|refine zZA ?_|refine sM fun _=>?_|refine sC ?_ ?_<;>intro hb<;>try omega|fail)
  all_goals try omega
  refine ax [0] rfl (fun k:Nat=> [(3,.int .i64 (k:Int))]) (fun _=> .own (some g) 3 1 L.length cap (L.map dZ)::R) (fun k=>1≤k∧k≤L.length∧fS (L.take k)=L.take k) (fun k=>L.length - k) 1 ⟨Xy _,by omega,GW (by rw [XA];omega)⟩ sB mS ?_;rintro k ⟨hk1,hk,hck⟩;by_cases hlt:k<L.length
  ·have hr1:=RG hlt;have hr2:=RG (L:=L) (k:=k - 1) (by omega);have hst:=BL hlt hk1;have htk:L.take (k+1)=L.take k++ [L[k]]:=by rw [Xk hlt]
   obtain ⟨c,hc⟩: ∃ c,decide (L[k]=L[k - 1])=c:=⟨_,rfl⟩
   cases c with
   |false=>
     have hne: ¬ L[k]=L[k - 1]:=by simpa using hc
     rw [if_neg hne,hck,← htk] at hst;repeat' (first|apply aQ;exact rfl;apply cQ;exact rfl;exact rfl;omega;simp only [maxLen];omega|apply aQ;exact rfl;apply ai (j:=k);exact rfl;exact rfl;omega|apply aQ;exact rfl;apply ai (j:=k - 1);exact rfl;exact rfl;omega|apply aQ;exact rfl;apply bB;exact rfl;exact pK;(first|exact hr1|exact hr2)|apply aQ;exact rfl;apply Ay hc;exact rfl;exact rfl|refine zZF ?_|refine sM fun _=>?_|refine sC ?_ ?_<;>intro hb<;>try omega|refine sCQ ?_ ?_<;>intro hb<;>try omega|fail)
     all_goals first
      |omega
      |refine ⟨k+1,⟨by omega,hlt,hst⟩,by omega,by exact sB,by exact sB,by exact mS⟩;done
   |true=>
     have hne:L[k]=L[k - 1]:=by simpa using hc
     rw [if_pos hne,hck] at hst;repeat' (first|apply aQ;exact rfl;apply cQ;exact rfl;exact rfl;omega;simp only [maxLen];omega|apply aQ;exact rfl;apply ai (j:=k);exact rfl;exact rfl;omega|apply aQ;exact rfl;apply ai (j:=k - 1);exact rfl;exact rfl;omega|apply aQ;exact rfl;apply bB;exact rfl;exact pK;(first|exact hr1|exact hr2)|apply aQ;exact rfl;apply Ay hc;exact rfl;exact rfl|apply ak;exact rfl;apply pU (lo:=k);exact rfl;exact rfl;omega;exact hle|refine zZF ?_|refine sM fun _=>?_|refine sC ?_ ?_<;>intro hb<;>try omega|refine sCQ ?_ ?_<;>intro hb<;>try omega|fail)
     all_goals try omega
     refine ax [0,4] rfl (fun y:Nat × Nat × List Int=> [(5,.int .i64 (y.1:Int)),(3,.int .i64 (y.2.1:Int))]) (fun y=> .own (some g) 3 1 L.length cap (y.2.2.map dZ)::R) (fun y=>1≤y.1∧k+y.1≤L.length∧y.2.1+1≤k+y.1∧y.2.2.length=L.length∧y.2.2.take y.2.1=fS (L.take (k+y.1))∧ ∀ j,k+y.1≤j+1→y.2.2[j]? =L[j]?) (fun y=>L.length - y.1) (1,k,L) ⟨Xy _,by omega,Xy _,rfl,hst.symm,fun _ _=>rfl⟩ sB mS ?_;rintro ⟨i,k',ys⟩ ⟨hi1,hi2,hi3,hi4,hi5,hi6⟩;dsimp only at hi1 hi2 hi3 hi4 hi5 hi6 ⊢;by_cases hli:k+i<L.length
     ·have hy1:k+i<ys.length:=by omega
      have hr3:=Tw (L:=ys) (a:=k) (k:=i) hy1;have hr4:=Tw (L:=ys) (a:=k) (k:=i - 1) (by omega);have he1:ys[k+i]=L[k+i]:=by
       have:=hi6 (k+i) (by omega);rw [Xf hy1,Xf hli] at this;exact Option.some.inj this
      have he2:ys[k+(i - 1)]=L[k+i - 1]:=by
       have:=hi6 (k+(i - 1)) (by omega);rw [Xf (by omega),Xf (by omega)] at this;rw [Option.some.inj this];congr 1;omega
      rw [he1] at hr3;rw [he2] at hr4;have hst2:=BL hli (by omega);obtain ⟨c,hc2⟩: ∃ c,decide (L[k+i]=L[k+i - 1])=c:=⟨_,rfl⟩
      cases c with
      |true=>
        rw [if_pos (by simpa using hc2)] at hst2;repeat' (first|apply aQ;exact rfl;apply cQ;exact rfl;exact rfl;omega;simp only [maxLen];omega|apply aQ;exact rfl;apply ai (j:=i);exact rfl;exact rfl;omega|apply aQ;exact rfl;apply ai (j:=i - 1);exact rfl;exact rfl;omega|apply aQ;exact rfl;apply bB;exact rfl;exact pK;(first|exact hr3|exact hr4)|apply aQ;exact rfl;apply Af hc2;exact rfl;exact rfl|refine zZF ?_|refine sM fun _=>?_|refine sC ?_ ?_<;>intro hb<;>try omega|refine sCQ ?_ ?_<;>intro hb<;>try omega|fail)
        all_goals first
         |omega
         |refine ⟨(i+1,k',ys),⟨by dsimp only;omega,by dsimp only;omega,by dsimp only;omega,hi4,by dsimp only;rw [hi5,← Nat.add_assoc,hst2],fun j hj=>hi6 j (by omega)⟩,by dsimp only;omega,by exact sB,by exact sB,by exact mS⟩;done
      |false=>
        rw [if_neg (by simpa using hc2)] at hst2;have hput:(ys.map dZ).set (0+k' *1) (dZ L[k+i])=(ys.set k' L[k+i]).map dZ:=by rw [Xv,YT,List.map_set]
        repeat' first|apply aQ;exact rfl;apply cQ;exact rfl;exact rfl;omega;simp only [maxLen];omega|apply aQ;exact rfl;apply ai (j:=i);exact rfl;exact rfl;omega|apply aQ;exact rfl;apply ai (j:=i - 1);exact rfl;exact rfl;omega|apply aQ;exact rfl;apply bB;exact rfl;exact pK;(first|exact hr3|exact hr4)|apply aQ;exact rfl;apply Af hc2;exact rfl;exact rfl|apply ak (d:=49);exact rfl;apply ai (j:=i);exact rfl;exact rfl;omega|apply ak (d:=51);exact rfl;apply ai (j:=k');exact rfl;exact rfl;omega|apply ak;exact rfl;apply bB;exact rfl;exact pK;exact hr3|apply eF (v:=dZ L[k+i]) (off:=0+k' *1);exact rfl;exact rfl;exact pK;exact rfl;rw [Xq,hi4];omega;rw [hput]|refine zZF ?_|refine sM fun _=>?_|refine sC ?_ ?_<;>intro hb<;>try omega|refine sCQ ?_ ?_<;>intro hb<;>try omega|fail
        all_goals first
         |omega
         | (refine ⟨(i + 1, k' + 1, ys.set k' L[k + i]), ⟨by dsimp only; omega, by dsimp only; omega, by dsimp only; omega, by dsimp only; rw [List.length_set, hi4], ?_, fun j hj => ?_⟩, by dsimp only; omega, by exact sB, by exact sB, by exact mS⟩
            ·dsimp only;rw [Xk (by rw [Z6];omega),List.take_set_of_le (Xy _),hi5,List.getElem_set_self,← Y8,hst2]
            ·dsimp only at hj ⊢;rw [List.getElem?_set_ne (by omega)];exact hi6 j (by omega))
     ·have hli2:k+i=L.length:=by omega
      rw [hli2,XF] at hi5;have hcl:(fS L).length=k' :=by rw [← hi5,XA,hi4];omega
      have hk'L:k' <L.length:=by omega
      repeat' first|apply ak;exact rfl;apply pU (lo:=k');exact rfl;exact rfl;omega;exact hle|apply Ee (sz:=1) (k:=k') (n' :=L.length);exact rfl;omega;exact pK;intro u hu;simp [Value.cells] at hu;subst hu;rfl;exact rfl|apply ak;exact rfl;apply z8 (hi:=k');exact rfl;exact rfl;omega|refine zZA ?_|refine sM fun _=>?_|refine sC ?_ ?_<;>intro hb<;>try omega|fail
      all_goals first
       |omega
       | (refine bo eIO rfl rfl (H' := .own (some g) 3 1 k' cap ((ys.map dZ).take (k' * 1)) :: R) mS ?_
          rw [YT,← List.map_take,hi5,hcl];exact ⟨rfl,rfl⟩)
  ·have hkl:k=L.length:=by omega
   rw [hkl,XF] at hck;repeat' (first|refine zZA ?_|refine sM fun _=>?_|refine sC ?_ ?_<;>intro hb<;>try omega|fail)
   all_goals first
    |omega
    |refine bo eIO rfl rfl (.refl _) ?_;rw [hck];exact ⟨rfl,rfl⟩
section
variable {P:Program} {n:Fr} {w0:World} {Q:bK} {s:az} {H:List Blk} {l rest:List Oper} {ty:TypeId} {p:String} {af:Array Edge}
theorem z6 {x:Operand} {a:Nat} {t t' :TypeId} {d:TypeDesc} [hs:Und P t d] [hd:Und P t' (.int .u64)] (hx:ev s x=some (.int .i64 (a:Nat))) (h:a≤maxLen):VOp P w0 s H (.convert t t' x) ty (.int .u64 (a:Nat)):=
 cM (k:= .i64) hx (by rw [IntKind.wrap_u64];simp only [maxLen] at h;omega)
theorem z7 {x:Operand} {a:Nat} {t t' :TypeId} {d:TypeDesc} [hs:Und P t d] [hd:Und P t' (.int .i64)] (hx:ev s x=some (.int .u64 (a:Nat))) (h:a≤maxLen):VOp P w0 s H (.convert t t' x) ty (.int .i64 (a:Nat)):=
 cM (k:= .u64) hx (I64.wrap ⟨by omega,by simp only [maxLen] at h;omega⟩)
theorem uk {x y:Operand} {a:Nat} {t t' :TypeId} (hx:ev s x=some (.int .u64 (a:Nat))) (hy:ev s y=some (.int .u64 1)):VOp P w0 s H (.binOp .shr t x y t') ty (.int .u64 ((a / 2:Nat):Int)):=by
 have h:=EK (P:=P) (w0:=w0) (H:=H) (ty:=ty) (t:=t) (t' :=t') (m:=1) hx hy rfl;have e:((a:Int) / 2 ^ 1)=((a / 2:Nat):Int):=by omega
 rwa [e] at h
theorem CG {x y:Operand} {a b:Nat} {t t' :TypeId} (hx:ev s x=some (.int .i64 (a:Nat))) (hy:ev s y=some (.int .i64 (b:Nat))) (ha:a*b≤maxLen):VOp P w0 s H (.binOp .mul t x y t') ty (.int .i64 ((a*b:Nat):Int)):=by
 rw [aam];have e:((a:Int)*b)=((a*b:Nat):Int):=(aam a b).symm;exact Tm hx hy ⟨by rw [e];omega,by rw [e];simp only [maxLen] at ha;omega⟩
end
theorem Kc (L:List Pz) (hL:InZ L) (lv:Value) (w:World) (hl:Reads w lv L.length (L.flatMap cK)): ∀ (k a m b:Nat),b - a≤k→a<m→m<b→b≤L.length→ ∀ w',(∃ H',Mem w w' H')→
 aL Tryz.prog 273 [lv,.int .i64 (a:Int),.int .i64 (m:Int),.int .i64 (b:Int),SD] w' (.tuple #[])
 |0,a,m,b,hk,h1,h2,_=>by omega
 |k+1,a,m,b,hk,h1,h2,h3=>by
  intro w' ⟨H',hm'⟩;have hl' :=hl.of_w0 hm';have IH:=fun (a m b:Nat) (g1:b - a≤k) (g2:a<m) (g3:m<b) (g4:b≤L.length) (w2:World) (H2:List Blk) (hm2:Mem w' w2 H2)=>Kc L hL lv w' hl' k a m b g1 g2 g3 g4 w2 ⟨H2,hm2⟩;have hl0:=hl';obtain ⟨Al,cl,rfl,hl1,hl2,hl3⟩:=hl';refine aB Tryz.func273 rfl Tryz.ntmps273 rfl ?_;have hlen:=hL.len;obtain ⟨gl,ol,rfl,hrl⟩:=hl3 (by omega);by_cases c1:m - a=1
  ·repeat' first|refine zZA ?_|refine sM fun _=>?_|refine sC ?_ ?_<;>intro hb<;>try omega|fail
   all_goals try omega
   refine ax [0,1,2,3,4,10] rfl (fun j:Nat=> [(11,.int .i64 (j:Int))]) (fun _=> []) (fun j=>m≤j∧j≤b) (fun j=>j - m) b ⟨by omega,by omega⟩ sB mS ?_;rintro j ⟨hj1,hj2⟩;by_cases hlt:m<j
   ·obtain ⟨z,hz,hc⟩:=hL.cmp (i:=a) (j:=(m+j) / 2) (by omega) (by omega);have r1:=hrl.elem cN ((m+j) / 2) (by omega);have r2:=hrl.elem cN a (by omega);generalize L[(m+j) / 2]'(by omega)=p at r1 hc;generalize L[a]'(by omega)=q at r2 hc;repeat' (first|apply ak;exact rfl;apply z6 (a:=m+j);exact rfl;simp only [maxLen];omega|apply ak;exact rfl;apply uk (a:=m+j);exact rfl;exact rfl|apply ak;exact rfl;apply z7 (a:=(m+j) / 2);exact rfl;simp only [maxLen];omega|apply kM (id:=5);kernel_rfl;kernel_rfl|apply aQ (d:=43);exact rfl;apply ai (j:=(m+j) / 2);exact rfl;exact rfl;omega|apply aQ (d:=47);exact rfl;apply ai (j:=a);exact rfl;exact rfl;omega|apply aQ (d:=44);exact rfl;apply aP (xs:=cK p);exact rfl;exact r1;exact rfl|apply aQ (d:=48);exact rfl;apply aP (xs:=cK q);exact rfl;exact r2;exact rfl|apply jg;exact rfl;exact rfl;infer_instance;exact rfl;intro w' _;exact hc w'|refine zZF ?_|refine sM fun _=>?_|refine sC ?_ ?_<;>intro hb<;>try omega|refine sCQ ?_ ?_<;>intro hb<;>try omega|fail)
    all_goals first
     |omega
     |refine ⟨(m+j) / 2,⟨by omega,by omega⟩,by omega,by exact sB,by exact sB,by exact mS⟩;done
   ·have e:j=m:=by omega
    subst e;repeat' (first|refine zZA ?_|refine sM fun _=>?_|refine sC ?_ ?_<;>intro hb<;>try omega|fail)
    all_goals try omega
    refine ax [0,1,2,3,4,10] rfl (fun _:Unit=> [(13,.int .i64 (a:Int))]) (fun _=> []) (fun _=>True) (fun _=>0) () trivial sB mS ?_;rintro _ _;repeat' (first|refine zZA ?_|refine sM fun _=>?_|refine sC ?_ ?_<;>intro hb<;>try omega|fail)
    all_goals first
     |omega
     |exact fJ eIO rfl (MSub.nil _) rfl
  by_cases c2:b - m=1
  ·repeat' first|refine zZA ?_|refine sM fun _=>?_|refine sC ?_ ?_<;>intro hb<;>try omega|fail
   all_goals try omega
   refine ax [0,1,2,3,4,15] rfl (fun i:Nat=> [(14,.int .i64 (i:Int))]) (fun _=> []) (fun i=>a≤i∧i≤m) (fun i=>m - i) a ⟨by omega,by omega⟩ sB mS ?_;rintro i ⟨hi1,hi2⟩;by_cases hlt:i<m
   ·obtain ⟨z,hz,hc⟩:=hL.cmp (i:=(i+m) / 2) (j:=m) (by omega) (by omega);have r1:=hrl.elem cN m (by omega);have r2:=hrl.elem cN ((i+m) / 2) (by omega);generalize L[m]'(by omega)=p at r1 hc;generalize L[(i+m) / 2]'(by omega)=q at r2 hc;repeat' (first|apply ak;exact rfl;apply z6 (a:=i+m);exact rfl;simp only [maxLen];omega|apply ak;exact rfl;apply uk (a:=i+m);exact rfl;exact rfl|apply ak;exact rfl;apply z7 (a:=(i+m) / 2);exact rfl;simp only [maxLen];omega|apply kM (id:=17);kernel_rfl;kernel_rfl|apply aQ (d:=95);exact rfl;apply ai (j:=m);exact rfl;exact rfl;omega|apply aQ (d:=99);exact rfl;apply ai (j:=(i+m) / 2);exact rfl;exact rfl;omega|apply aQ (d:=96);exact rfl;apply aP (xs:=cK p);exact rfl;exact r1;exact rfl|apply aQ (d:=100);exact rfl;apply aP (xs:=cK q);exact rfl;exact r2;exact rfl|apply jg;exact rfl;exact rfl;infer_instance;exact rfl;intro w' _;exact hc w'|refine zZF ?_|refine sM fun _=>?_|refine sC ?_ ?_<;>intro hb<;>try omega|refine sCQ ?_ ?_<;>intro hb<;>try omega|fail)
    all_goals first
     |exfalso;simp at hb;omega
     |omega
     |refine ⟨(i+m) / 2+1,⟨by omega,by omega⟩,by omega,by exact sB,by exact sB,by exact mS⟩;done
   ·have e:i=m:=by omega
    subst e;repeat' (first|refine zZA ?_|refine sM fun _=>?_|refine sC ?_ ?_<;>intro hb<;>try omega|fail)
    all_goals try omega
    refine ax [0,1,2,3,4,14] rfl (fun _:Unit=> [(17,.int .i64 (i:Int))]) (fun _=> []) (fun _=>True) (fun _=>0) () trivial sB mS ?_;rintro _ _;repeat' (first|refine zZA ?_|refine sM fun _=>?_|refine sC ?_ ?_<;>intro hb<;>try omega|fail)
    all_goals first
     |omega
     |exact fJ eIO rfl (MSub.nil _) rfl
  obtain ⟨d,hd⟩: ∃ d,d=(a+b) / 2:=⟨_,rfl⟩;by_cases c3:d<m
  ·repeat' first|apply ak (d:=132);exact rfl;apply z6 (a:=a+b);exact rfl;simp only [maxLen];omega|apply ak (d:=133);exact rfl;apply uk (a:=a+b);exact rfl;exact rfl|apply ak (d:=134);exact rfl;rw [← hd];apply z7 (a:=d);exact rfl;simp only [maxLen];omega|refine zZA ?_|refine sM fun _=>?_|refine sC ?_ ?_<;>intro hb<;>try omega|fail
   all_goals try omega
   refine ax [0,1,2,3,4,18,19,21,22] rfl (fun st:Nat=> [(20,.int .i64 (st:Int))]) (fun _=> []) (fun st=>d+m - b≤st∧st≤d) (fun st=>d - st) (d+m - b) ⟨by omega,by omega⟩ sB mS ?_;rintro st ⟨hs1,hs2⟩;by_cases hlt:st<d
   ·obtain ⟨z,hz,hc⟩:=hL.cmp (i:=(st+d) / 2) (j:=d+m - 1 - (st+d) / 2) (by omega) (by omega);have r1:=hrl.elem cN (d+m - 1 - (st+d) / 2) (by omega);have r2:=hrl.elem cN ((st+d) / 2) (by omega);generalize L[d+m - 1 - (st+d) / 2]'(by omega)=p at r1 hc;generalize L[(st+d) / 2]'(by omega)=q at r2 hc;repeat' (first|apply ak;exact rfl;apply z6 (a:=st+d);exact rfl;simp only [maxLen];omega|apply ak;exact rfl;apply uk (a:=st+d);exact rfl;exact rfl|apply ak;exact rfl;apply z7 (a:=(st+d) / 2);exact rfl;simp only [maxLen];omega|apply kM (id:=35);kernel_rfl;kernel_rfl|apply aQ (d:=163);exact rfl;apply ai (j:=d+m - 1 - (st+d) / 2);exact rfl;exact rfl;omega|apply aQ (d:=167);exact rfl;apply ai (j:=(st+d) / 2);exact rfl;exact rfl;omega|apply aQ (d:=164);exact rfl;apply aP (xs:=cK p);exact rfl;exact r1;exact rfl|apply aQ (d:=168);exact rfl;apply aP (xs:=cK q);exact rfl;exact r2;exact rfl|apply jg;exact rfl;exact rfl;infer_instance;exact rfl;intro w' _;exact hc w'|refine zZF ?_|refine sM fun _=>?_|refine sC ?_ ?_<;>intro hb<;>try omega|refine sCQ ?_ ?_<;>intro hb<;>try omega|fail)
    all_goals first
     |exfalso;simp at hb;omega
     |omega
     |refine ⟨(st+d) / 2+1,⟨by omega,by omega⟩,by omega,by exact sB,by exact sB,by exact mS⟩;done
   ·have e:st=d:=by omega
    subst e;repeat' (first|apply ak (d:=177);exact rfl;apply m3 (a:=st+m) (b:=st);exact rfl;exact rfl;omega;simp only [maxLen];omega|apply aa (f:=273);exact rfl;exact rfl;intro w2 hm2;(first|exact IH st (st+m - st) b (by omega) (by omega) (by omega) h3 w2 _ hm2)|refine zZA ?_|refine sM fun _=>?_|refine sC ?_ ?_<;>intro hb<;>try omega|fail)
    all_goals first
     |omega
     |exact fJ eIO rfl (MSub.nil _) rfl
  ·repeat' first|apply ak (d:=132);exact rfl;apply z6 (a:=a+b);exact rfl;simp only [maxLen];omega|apply ak (d:=133);exact rfl;apply uk (a:=a+b);exact rfl;exact rfl|apply ak (d:=134);exact rfl;rw [← hd];apply z7 (a:=d);exact rfl;simp only [maxLen];omega|refine zZA ?_|refine sM fun _=>?_|refine sC ?_ ?_<;>intro hb<;>try omega|fail
   all_goals try omega
   refine ax [0,1,2,3,4,18,19,21,22] rfl (fun st:Nat=> [(20,.int .i64 (st:Int))]) (fun _=> []) (fun st=>a≤st∧st≤m) (fun st=>m - st) a ⟨by omega,by omega⟩ sB mS ?_;rintro st ⟨hs1,hs2⟩;by_cases hlt:st<m
   ·obtain ⟨z,hz,hc⟩:=hL.cmp (i:=(st+m) / 2) (j:=d+m - 1 - (st+m) / 2) (by omega) (by omega);have r1:=hrl.elem cN (d+m - 1 - (st+m) / 2) (by omega);have r2:=hrl.elem cN ((st+m) / 2) (by omega);generalize L[d+m - 1 - (st+m) / 2]'(by omega)=p at r1 hc;generalize L[(st+m) / 2]'(by omega)=q at r2 hc;repeat' (first|apply ak;exact rfl;apply z6 (a:=st+m);exact rfl;simp only [maxLen];omega|apply ak;exact rfl;apply uk (a:=st+m);exact rfl;exact rfl|apply ak;exact rfl;apply z7 (a:=(st+m) / 2);exact rfl;simp only [maxLen];omega|apply kM (id:=35);kernel_rfl;kernel_rfl|apply aQ (d:=163);exact rfl;apply ai (j:=d+m - 1 - (st+m) / 2);exact rfl;exact rfl;omega|apply aQ (d:=167);exact rfl;apply ai (j:=(st+m) / 2);exact rfl;exact rfl;omega|apply aQ (d:=164);exact rfl;apply aP (xs:=cK p);exact rfl;exact r1;exact rfl|apply aQ (d:=168);exact rfl;apply aP (xs:=cK q);exact rfl;exact r2;exact rfl|apply jg;exact rfl;exact rfl;infer_instance;exact rfl;intro w' _;exact hc w'|refine zZF ?_|refine sM fun _=>?_|refine sC ?_ ?_<;>intro hb<;>try omega|refine sCQ ?_ ?_<;>intro hb<;>try omega|fail)
    all_goals first
     |exfalso;simp at hb;omega
     |omega
     |refine ⟨(st+m) / 2+1,⟨by omega,by omega⟩,by omega,by exact sB,by exact sB,by exact mS⟩;done
   ·have e:st=m:=by omega
    subst e;by_cases c4:st<d
    ·repeat' first|apply ak (d:=177);exact rfl;apply m3 (a:=d+st) (b:=st);exact rfl;exact rfl;omega;simp only [maxLen];omega|apply aa (f:=273);exact rfl;exact rfl;intro w2 hm2;exact IH a st d (by omega) (by omega) (by omega) (by omega) w2 _ hm2|refine zZA ?_|refine sM fun _=>?_|refine sC ?_ ?_<;>intro hb<;>try omega|fail
     all_goals first
      |omega
      |exact fJ eIO rfl (MSub.nil _) rfl
    ·repeat' first|apply ak (d:=177);exact rfl;apply m3 (a:=d+st) (b:=st);exact rfl;exact rfl;omega;simp only [maxLen];omega|refine zZA ?_|refine sM fun _=>?_|refine sC ?_ ?_<;>intro hb<;>try omega|fail
     all_goals first
      |omega
      |exact fJ eIO rfl (MSub.nil _) rfl
theorem Iv (L:List Pz) (hL:InZ L) (lv:Value) (w:World) (hl:Reads w lv L.length (L.flatMap cK)):
 aL Tryz.prog 240 [lv,.int .i64 (L.length:Int),SD] w (.tuple #[]):=by
 have hI:=fun (a b:Nat) (h1:b≤L.length) (h2:a≤L.length) (w2:World) (H2:List Blk) (hm:Mem w w2 H2)=>R0 L hL lv w2 (hl.of_w0 hm) a b h1 h2;have hM:=fun (a m b:Nat) (h1:a<m) (h2:m<b) (h3:b≤L.length) (w2:World) (H2:List Blk) (hm:Mem w w2 H2)=>Kc L hL lv w hl (b - a) a m b (Xy _) h1 h2 h3 w2 ⟨H2,hm⟩;obtain ⟨Al,cl,rfl,hl1,hl2,hl3⟩:=hl;refine aB Tryz.func240 rfl Tryz.ntmps240 rfl ?_;have hlen:=hL.len;repeat' (first|refine zZA ?_|refine sM fun _=>?_|refine sC ?_ ?_<;>intro hb<;>try omega|fail)
 refine ax [0,1,2,6] rfl (fun a:Nat=> [(7,.int .i64 (a:Int)),(8,.int .i64 ((a+20:Nat):Int))]) (fun _=> []) (fun a=>a≤L.length) (fun a=>L.length - a) 0 (Xn _) sB mS ?_;rintro a ha;by_cases hlt:a+20≤L.length
 ·repeat' first|apply aa (f:=272);exact rfl;exact rfl;intro w2 hm2;exact hI a (a+20) hlt (by omega) w2 _ hm2|apply ak (d:=22);exact rfl;apply m9 (a:=a+20) (b:=20);exact rfl;exact rfl;simp only [maxLen];omega|refine zZA ?_|refine sM fun _=>?_|refine sC ?_ ?_<;>intro hb<;>try omega|fail
  all_goals first
   |omega
   |refine ⟨a+20,hlt,by omega,by exact sB,by exact sB,by exact mS⟩;done
 ·repeat' first|apply aa (f:=272);exact rfl;exact rfl;intro w2 hm2;exact hI a L.length (Xy _) ha w2 _ hm2|refine zZA ?_|refine sM fun _=>?_|refine sC ?_ ?_<;>intro hb<;>try omega|fail
  all_goals try omega
  refine ax [0,1,2] rfl (fun s:Nat=> [(6,.int .i64 (s:Int))]) (fun _=> []) (fun s=>20≤s∧s≤2*L.length+20) (fun s=>2*L.length+20 - s) 20 ⟨by omega,by omega⟩ sB mS ?_;rintro s ⟨hs1,hs2⟩;by_cases hsl:s<L.length
  ·repeat' first|apply ak (d:=32);exact rfl;apply CG (a:=2) (b:=s);exact rfl;exact rfl;simp only [maxLen];omega|refine zZA ?_|refine sM fun _=>?_|refine sC ?_ ?_<;>intro hb<;>try omega|fail
   all_goals try omega
   refine ax [0,1,2,6] rfl (fun a:Nat=> [(7,.int .i64 (a:Int)),(8,.int .i64 ((a+2*s:Nat):Int))]) (fun _=> []) (fun a=>a≤L.length) (fun a=>L.length - a) 0 (Xn _) (by rw [Xv];exact sB) mS ?_;rintro a ha;by_cases hla:a+2*s≤L.length
   ·repeat' first|apply ak (d:=40);exact rfl;apply m9 (a:=a) (b:=s);exact rfl;exact rfl;simp only [maxLen];omega|apply aa (f:=273);exact rfl;exact rfl;intro w2 hm2;exact hM a (a+s) (a+2*s) (by omega) (by omega) hla w2 _ hm2|apply ak (d:=47);exact rfl;apply CG (a:=2) (b:=s);exact rfl;exact rfl;simp only [maxLen];omega|apply ak (d:=48);exact rfl;apply m9 (a:=a+2*s) (b:=2*s);exact rfl;exact rfl;simp only [maxLen];omega|refine zZA ?_|refine sM fun _=>?_|refine sC ?_ ?_<;>intro hb<;>try omega|fail
    all_goals first
     |omega
     |refine ⟨a+2*s,hla,by omega,by exact sB,by exact sB,by exact mS⟩;done
   ·by_cases hlm:a+s<L.length
    ·repeat' first|apply ak (d:=51);exact rfl;apply m9 (a:=a) (b:=s);exact rfl;exact rfl;simp only [maxLen];omega|apply aa (f:=273);exact rfl;exact rfl;intro w2 hm2;exact hM a (a+s) L.length (by omega) hlm (Xy _) w2 _ hm2|apply ak (d:=62);exact rfl;apply CG (a:=s) (b:=2);exact rfl;exact rfl;simp only [maxLen];omega|refine zZA ?_|refine sM fun _=>?_|refine sC ?_ ?_<;>intro hb<;>try omega|fail
     all_goals first
      |omega
      |refine ⟨s*2,⟨by omega,by omega⟩,by omega,by exact sB,by exact sB,by exact mS⟩;done
    ·repeat' first|apply ak (d:=51);exact rfl;apply m9 (a:=a) (b:=s);exact rfl;exact rfl;simp only [maxLen];omega|apply ak (d:=62);exact rfl;apply CG (a:=s) (b:=2);exact rfl;exact rfl;simp only [maxLen];omega|refine zZA ?_|refine sM fun _=>?_|refine sC ?_ ?_<;>intro hb<;>try omega|fail
     all_goals first
      |omega
      |refine ⟨s*2,⟨by omega,by omega⟩,by omega,by exact sB,by exact sB,by exact mS⟩;done
  ·repeat' first|refine zZB ?_|refine sM fun _=>?_|refine sC ?_ ?_<;>intro hb<;>try omega|fail
   all_goals first
    |omega
    |exact fJ eIO rfl (MSub.nil _) rfl
theorem zK (L:List Pz) (hL:InZ L) (lv:Value) (w:World) (hl:Reads w lv L.length (L.flatMap cK)):
 aL Tryz.prog 190 [lv,SD] w (.tuple #[]):=by
 have hS:=fun (w2:World) (H2:List Blk) (hm:Mem w w2 H2)=>Iv L hL lv w2 (hl.of_w0 hm);obtain ⟨Al,cl,rfl,hl1,hl2,hl3⟩:=hl;refine aB Tryz.func190 rfl Tryz.ntmps190 rfl ?_;repeat' (first|apply aa (f:=240);exact rfl;exact rfl;intro w2 hm2;exact hS w2 _ hm2|refine sT ?_|refine sM fun _=>?_|refine sC ?_ ?_<;>intro hb<;>try omega|fail)
 exact fJ eIO rfl (MSub.nil _) rfl
attribute [local irreducible] gF jl mU
theorem yg (a:Rf) (L:List Rl) (gb:Nat) (gv rv nv cv lm rm tm:Value) (w0:World) (F:List Blk) (hl: ∀ w',Mem w0 w' F→Reads w' rv L.length (L.flatMap bQ)):
 FnIn Tryz.prog 51 [.pointer (some ⟨gb,0,none⟩),aC a] w0 (.box gb 114 [gv,rv,nv,cv,lm,rm,tm]::F) fun v H' =>v=vS (atE a L).1.1∧H' = .box gb 114 [gv,rv,nv,cv,lm,rm,tm]::F:=by
 refine bI Tryz.func51 rfl Tryz.ntmps51 rfl ?_;have h1:=fun (w' :World) (H:List Blk) (hs:MSub F H) (hm:Mem w0 w' H)=>KN a L rv w' (hl w' (hs.use hm));generalize (atE a L).2=e at h1;generalize (atE a L).1.1=s1 at h1 ⊢;generalize (atE a L).1.2.1=s2 at h1;generalize (atE a L).1.2.2=s3 at h1;repeat' (first|refine zZB ?_|refine sM fun _=>?_|refine sC ?_ ?_<;>intro hb<;>try omega|fail)
 rename_i g3;refine fw (id:=1) [5,9,10] [.box g3 34 (aq a),.box gb 114 [gv,rv,nv,cv,lm,rm,tm]] 12 rfl rfl mS ?_;repeat' (first|apply ba (i:=0);(iterate 4 exact rfl);(iterate 3 decide+kernel);exact vC|apply ba (i:=1);(iterate 4 exact rfl);(iterate 3 decide+kernel);exact vC|apply ba (i:=2);(iterate 4 exact rfl);(iterate 3 decide+kernel);exact vC|apply ba (i:=3);(iterate 4 exact rfl);(iterate 3 decide+kernel);exact vC|apply ba (i:=4);(iterate 4 exact rfl);(iterate 3 decide+kernel);exact vC|apply ba (i:=6);(iterate 4 exact rfl);(iterate 3 decide+kernel);exact vC|apply ba (i:=7);(iterate 4 exact rfl);(iterate 3 decide+kernel);exact vC|apply ba (i:=8);(iterate 4 exact rfl);(iterate 3 decide+kernel);exact vC|apply ba (i:=11);(iterate 4 exact rfl);(iterate 3 decide+kernel);apply eY;exact rfl|apply cF (i:=5) (j:=9);(iterate 6 exact rfl);decide+kernel|apply bk (i:=5);(iterate 3 exact rfl);decide+kernel|apply bk (i:=9);(iterate 3 exact rfl);decide+kernel|apply bk (i:=10);(iterate 3 exact rfl);decide+kernel|apply fu;decide+kernel|apply rW;(focus (exact mS;done))|apply aa (f:=96);exact rfl;exact rfl;intro w' hm;exact h1 w' _ mS hm|refine zZB ?_|refine sM fun _=>?_|refine sC ?_ ?_<;>intro hb<;>try omega|fail)
 all_goals exact bo eIO rfl rfl (H' := .box gb 114 [gv,rv,nv,cv,lm,rm,tm]::F) mS ⟨rfl,rfl⟩
theorem HW (r:Rct) (K:List Rf) (hK:K.length≤1000000) (gw gr gb:Nat) (gv rv nv lm rm tm:Value) (Ac:Option Nat) (cap:Nat) (w0:World):
 Seqs Tryz.prog 176 [.pointer (some ⟨gw,0,none⟩),.pointer (some ⟨gr,0,none⟩)] w0
  [.box gw 106 [.pointer (some ⟨gb,0,none⟩)],.box gr 31 (ay r),.box gb 114 [gv,rv,nv,sl Ac K.length cap,lm,rm,tm],.own Ac 34 2 K.length cap (K.flatMap aq)] (K.filter fun c=>aI r c) (fun c=> [aC c]):=by
 intro l I J H0 hy h0;refine FnIn.msub (H' := [.box gw 106 [.pointer (some ⟨gb,0,none⟩)],.box gr 31 (ay r),.box gb 114 [gv,rv,nv,sl Ac K.length cap,lm,rm,tm],.own Ac 34 2 K.length cap (K.flatMap aq)]++H0) ?_ (MSub.appC H0 [] _);refine bI Tryz.func176 rfl Tryz.ntmps176 rfl ?_;repeat' (first|refine zZB ?_|refine sM fun _=>?_|refine sC ?_ ?_<;>intro hb<;>try omega|fail)
 refine ax [0,1,2,9,10] rfl (fun y:Nat × List Rf × List Blk=> [(11,.int .i64 (y.1:Int))]) (fun y=> [.box gw 106 [.pointer (some ⟨gb,0,none⟩)],.box gr 31 (ay r),.box gb 114 [gv,rv,nv,sl Ac K.length cap,lm,rm,tm],.own Ac 34 2 K.length cap (K.flatMap aq)]++y.2.2) (fun y=>y.1≤K.length∧(K.filter fun c=>aI r c)=y.2.1++(K.drop y.1).filter (fun c=>aI r c)∧I y.2.1 y.2.2) (fun y=>K.length - y.1) (0,[],H0) ⟨Xn _,rfl,h0⟩ sB (by exact MSub.refl _) ?_;rintro ⟨i,pre,H1⟩ ⟨hi,hus,hI⟩;dsimp only at hi hus hI ⊢;simp only [Xc,Xd];by_cases hlt:i<K.length
 ·refine aU (A:=Ac) (.tl (.tl (.tl .hd))) (by omega) fun gk hA=> ?_;subst hA;have hread:=uz hlt;rw [XC hlt,YA] at hus;generalize K[i]=c at hus hread;have hN:=fun w=>jA r c w;generalize aI r c=c2 at hN hus;repeat' (first|apply ji (id:=3)|apply ak;exact rfl;apply ai (j:=i);exact rfl;exact rfl;exact hlt|apply ak;exact rfl;apply au;exact rfl;exact pK;exact hread;exact rfl|apply lX;exact rfl;exact rfl|apply pR;(iterate 4 exact rfl)|(apply xn<;>first|exact rfl|intro hb;replace hb:=Tidy.out hb;try omega)|apply ub (f:=28);(iterate 3 exact rfl);intro w' hm;exact hN w'|refine zZR ?_|refine sM fun _=>?_|refine sC ?_ ?_<;>intro hb<;>try omega|fail)
  ·have hus2:(K.filter fun c=>aI r c)=pre++c::(K.drop (i+1)).filter (fun c=>aI r c):=by rw [hus,if_pos hb]
   rename_i g5;(with_reducible apply ic)
   ·exact rfl
   ·exact rfl
   ·exact rfl
   ·exact MSub.appC [.box g5 34 (aq c)] [.box gw 106 [.pointer (some ⟨gb,0,none⟩)],.box gr 31 (ay r),.box gb 114 [gv,rv,nv,sl (some gk) K.length cap,lm,rm,tm],.own (some gk) 34 2 K.length cap (K.flatMap aq)] H1
   ·exact fun w hm=>hy pre c _ hus2 H1 _ hI w hm
   intro bb H3 hq;cases bb
   ·repeat' first|apply lX;exact rfl;exact rfl|apply pR;(iterate 4 exact rfl)|refine sT ?_|refine sS ?_|refine sI ?_|refine sM fun _=>?_|refine sC ?_ ?_<;>intro hb<;>try omega|fail
    exact fJ eIO rfl (MSub.appE [.box g5 34 (aq c)] [.box gw 106 [.pointer (some ⟨gb,0,none⟩)],.box gr 31 (ay r),.box gb 114 [gv,rv,nv,sl (some gk) K.length cap,lm,rm,tm],.own (some gk) 34 2 K.length cap (K.flatMap aq)] H3) ⟨H3,.inr ⟨_,hq⟩,MSub.refl _⟩
   ·repeat' first|apply lX;exact rfl;exact rfl|apply pR;(iterate 4 exact rfl)|refine zZR ?_|refine sM fun _=>?_|refine sC ?_ ?_<;>intro hb<;>try omega|fail
    refine ⟨(i+1,_,H3),⟨hlt,hus2.trans (by rw [List.append_assoc];rfl),hq⟩,(by dsimp only;omega),sB,sB,?_⟩;dsimp only;exact MSub.trans (MSub.drop .hd (MSub.refl _)) (MSub.appD [.box g5 34 (aq c)] [.box gw 106 [.pointer (some ⟨gb,0,none⟩)],.box gr 31 (ay r),.box gb 114 [gv,rv,nv,sl (some gk) K.length cap,lm,rm,tm],.own (some gk) 34 2 K.length cap (K.flatMap aq)] H3)
  all_goals
   refine ⟨(i+1,pre,H1),⟨hlt,by rw [hus,if_neg (by rw [hb];decide)],hI⟩,(by dsimp only;omega),sB,sB,?_⟩;exact MSub.drop .hd (MSub.refl _)
 ·have e:i=K.length:=by omega
  subst e;rw [X0,List.filter_nil,Xm] at hus;repeat' (first|refine zZB ?_|refine sM fun _=>?_|refine sC ?_ ?_<;>intro hb<;>try omega|fail)
  exact fJ eIO rfl (.refl _) ⟨H1,.inl (hus ▸ hI),MSub.appS [.box gw 106 [.pointer (some ⟨gb,0,none⟩)],.box gr 31 (ay r),.box gb 114 [gv,rv,nv,sl Ac K.length cap,lm,rm,tm],.own Ac 34 2 K.length cap (K.flatMap aq)] H1⟩
end Go.SL
namespace Go.SL
open Go Go.Proofs
attribute [local irreducible] W WL WQ WG WA WX WLI WR WT WC WE VOp RW thn blk bA scp aY aX bw FnAt FnIn FnP ceP
--
def du (p:Int × Int):List Value:= [.int .i64 p.1,.int .i64 p.2]
theorem kF (p:Int × Int):(du p).length=2:=rfl
theorem G0 (lo:Int) (ps:List (Int × Int)) (p:Int × Int):dq lo (ps++ [p])=dq lo ps++ [p.1,p.2+1]:=by
 unfold dq;simp
def rO (lo hi x:Int):Bool:=decide (lo≤x) && decide (x≤hi)
theorem LY {l:List Int} {h x:Int} (hl:l≠ []):((cC l h).flatMap du).set (0+((cC l h).length - 1)*2+1) (dZ (x - 1))=(cC l (x - 1)).flatMap du:=by
 obtain ⟨f,a,h1,h2⟩:=FH l h (x - 1) hl;rw [h1,h2];simp only [Xz,Xa,Xe,ZF,Xx,XP,Xm,du];rw [ZG _ _ (by rw [aR kF];omega),aR kF];congr 1;rw [show 0+f.length*2+1 - f.length*2=1 by omega]
 rfl
theorem G3 (lo hi:Int) (ps:List (Int × Int)) (lv:Value) (w:World) (hl:Reads w lv ps.length (ps.flatMap du)) (hn:ps.length≤100000) (hlo:0≤lo∧lo≤100000) (hhi:0≤hi∧hi≤100000) (hps: ∀ p∈ps,0≤p.1∧p.1≤100000∧0≤p.2∧p.2≤100000):
 FnAt Tryz.prog 188 [.int .i64 lo,.int .i64 hi,lv] w fun v H=> ∃ A cap,v=sl A (cf lo hi ps).length cap∧H= [.own A 242 2 (cf lo hi ps).length cap ((cf lo hi ps).flatMap du)]:=by
 obtain ⟨Al,cl,rfl,hl1,hl2,hl3⟩:=hl;refine aB Tryz.func188 rfl Tryz.ntmps188 rfl ?_;repeat' (first|refine zZJ ?_|refine sM fun _=>?_|refine sC ?_ ?_<;>intro hb<;>try omega|fail)
 rename_i gb;refine ax [0,1,15,16] rfl (fun y:Nat × Option Nat × Nat=> [(7,sl y.2.1 (1+2*y.1) y.2.2),(17,.int .i64 (y.1:Int))]) (fun y=> [.own y.2.1 3 1 (1+2*y.1) y.2.2 ((dq lo (ps.take y.1)).map dZ)]) (fun y=>y.1≤ps.length) (fun y=>ps.length - y.1) (0,some gb,1) (Xn _) sB mS ?_;rintro ⟨i,A,c⟩ hi0;dsimp only at hi0 ⊢;by_cases hlt:i<ps.length
 ·obtain ⟨gl,ol,rfl,hrl⟩:=hl3 (by omega);have he1:=hrl.elem kF i hlt;have hbs:dq lo (ps.take (i+1))=dq lo (ps.take i)++ [ps[i].1,ps[i].2+1]:=by rw [Xk hlt,G0]
  have hpb:=hps _ (XO hlt);generalize ps[i]=p at he1 hbs hpb;repeat' (first|apply aN (A:=A) (m:=2);(iterate 3 exact rfl);exact pK;intro w hm;exact hm.cells_own pK;exact rfl;simp [Value.oneCell',sl];omega;simp only [maxLen];omega;intro A' cap' hA'|refine zZU ?_|refine sM fun _=>?_|refine sC ?_ ?_<;>intro hb<;>try omega|fail)
  all_goals first
   |omega
   | (refine ⟨(i + 1, A', cap'), hlt, by dsimp only; omega, by exact sB, by exact sB, ?_⟩
      dsimp only;rw [hbs,XI];exact mS)
 ·have e:i=ps.length:=by omega
  subst e;rw [XF];have hbl:=vZ lo ps;have hs1:=fun (R:List Blk)=>vk (dq lo ps) A c (by omega) R w;have hsl:(iD (dq lo ps)).length=1+2*ps.length:=by rw [(fN _).length_eq,hbl]
  have hs2:=fun (R:List Blk)=>wg (iD (dq lo ps)) A c (by omega) R w;rw [hbl] at hs1;rw [hsl] at hs2;have hcl:=y7 (iD (dq lo ps));rw [hsl] at hcl;have hcut:yZ lo hi ps=(fS (iD (dq lo ps))).filter (rO lo hi):=rfl;have hbd: ∀ x∈fS (iD (dq lo ps)),0≤x∧x≤100001:=fun x hx=>by
   rw [mq,(fN _).mem_iff,dq,Xt,XL] at hx;rcases hx with rfl|⟨p,hp,hx⟩
   ·omega
   ·have:=hps p hp;simp at hx;omega
  unfold cf;rw [hcut];generalize fS (iD (dq lo ps))=C at hs2 hcl hbd;refine aF 242 2 ?_;repeat' (first|apply aj (f:=54);exact rfl;exact rfl;exact FnIn.msub (hs1 _) (MSub.pick pK (MSub.refl _));rintro _ _ ⟨rfl,rfl⟩|apply aj (f:=55);exact rfl;exact rfl;exact FnIn.msub (hs2 _) (MSub.pick pK (MSub.refl _));rintro _ _ ⟨rfl,rfl⟩|refine zZD ?_|refine sM fun _=>?_|refine sC ?_ ?_<;>intro hb<;>try omega|fail)
  all_goals try omega
  refine ax [0,1,33,34] rfl (fun y:Nat × Option Nat × Nat=> [(10,sl y.2.1 (cC ((C.take y.1).filter (rO lo hi)) hi).length y.2.2),(35,.int .i64 (y.1:Int))]) (fun y=> [.own y.2.1 242 2 (cC ((C.take y.1).filter (rO lo hi)) hi).length y.2.2 ((cC ((C.take y.1).filter (rO lo hi)) hi).flatMap du),.own A 3 1 C.length c (C.map dZ)]) (fun y=>y.1≤C.length) (fun y=>C.length - y.1) (0,none,0) (Xn _) sB mS ?_;rintro ⟨k,A2,c2⟩ hk;dsimp only at hk ⊢;by_cases hlk:k<C.length
  ·refine aU (A:=A) pK (by omega) fun gc hA=> ?_;subst hA;have hrd:(C.map dZ)[0+k*1]? =some (.int .i64 C[k]):=RG hlk;have hxb:=hbd _ (XO hlk);have hfs:(C.take (k+1)).filter (rO lo hi)=if rO lo hi C[k]=true then (C.take k).filter (rO lo hi)++ [C[k]] else (C.take k).filter (rO lo hi):=by
    rw [Xk hlk,YX];cases h:rO lo hi C[k]<;>simp [h]
   have hfl:((C.take k).filter (rO lo hi)).length≤300000:=XU (XS _ _) (by rw [XA];omega);generalize hx:C[k]=x at hrd hxb hfs;generalize hF:(C.take k).filter (rO lo hi)=Fk at hfs hfl;have hpl:=nD hi Fk;by_cases hin:lo≤x∧x≤hi
   ·have hin2:rO lo hi x=true:=by simp [rO,hin.1,hin.2]
    rw [if_pos hin2] at hfs;have hsn:=lK x hi Fk;rw [← hfs] at hsn;have hpl2:=nD (x - 1) Fk;by_cases h0:Fk= []
    ·subst h0;rw [show cC [] (x - 1)= [] from rfl,Xd] at hsn;repeat' (first|apply ak (d:=37);exact rfl;apply ai (j:=k);exact rfl;exact rfl;exact hlk|apply ak (d:=38);exact rfl;apply bB;exact rfl;exact pK;exact hrd|apply ak;exact rfl;apply pX;(iterate 5 exact rfl)|apply aN (A:=A2) (m:=1);(iterate 3 exact rfl);exact pK;intro w hm;exact hm.cells_own pK;exact rfl;simp [Value.oneCell',sl];omega;simp only [maxLen];omega;intro A' cap' hA'|refine zZU ?_|refine sM fun _=>?_|refine sC ?_ ?_<;>intro hb<;>try omega|fail)
     all_goals first
      |omega
      | (refine ⟨(k + 1, A', cap'), hlk, by dsimp only; omega, ?_, by exact sB, ?_⟩
         ·dsimp only;rw [hsn];exact sB
         ·dsimp only;rw [hsn];exact mS)
    ·have hpos:0<Fk.length:=Yr.2 h0;have hset:=LY (h:=hi) (x:=x) h0;rw [hpl] at hset;refine aU (A:=A2) pK (by omega) fun g2 hA=> ?_;subst hA;rw [hpl];repeat' (first|apply ak (d:=37);exact rfl;apply ai (j:=k);exact rfl;exact rfl;exact hlk|apply ak (d:=38);exact rfl;apply bB;exact rfl;exact pK;exact hrd|apply ak (d:=53);exact rfl;apply cQ (a:=Fk.length);exact rfl;exact rfl;omega;simp only [maxLen];omega|apply ak (d:=56);exact rfl;apply ai (j:=Fk.length - 1);exact rfl;exact rfl;omega|apply eF (v:=dZ (x - 1)) (off:=0+(Fk.length - 1)*2+1);exact rfl;exact rfl;exact pK;exact rfl;rw [aR kF,hpl];omega;rw [hset]|apply ak;exact rfl;apply pX;(iterate 5 exact rfl)|apply aN (A:=some g2) (m:=1);(iterate 3 exact rfl);exact pK;intro w hm;exact hm.cells_own pK;exact rfl;simp [Value.oneCell',sl];omega;simp only [maxLen];omega;intro A' cap' hA'|refine zZU ?_|refine sM fun _=>?_|refine sC ?_ ?_<;>intro hb<;>try omega|fail)
     all_goals first
      |omega
      | (refine ⟨(k + 1, A', cap'), hlk, by dsimp only; omega, ?_, by exact sB, ?_⟩
         ·dsimp only;rw [hsn,List.length_append,hpl2];exact sB
         ·dsimp only;rw [hsn,List.length_append,hpl2,List.flatMap_append];exact mS)
   ·have hin2: ¬ rO lo hi x=true:=by simp only [rO,Xo,decide_eq_true_eq];exact hin
    rw [if_neg hin2] at hfs;repeat' (first|apply ak (d:=37);exact rfl;apply ai (j:=k);exact rfl;exact rfl;exact hlk|apply ak (d:=38);exact rfl;apply bB;exact rfl;exact pK;exact hrd|refine zZU ?_|refine sM fun _=>?_|refine sC ?_ ?_<;>intro hb<;>try omega|fail)
    all_goals first
     |omega
     | (refine ⟨(k + 1, A2, c2), hlk, by dsimp only; omega, ?_, by exact sB, ?_⟩
        ·dsimp only;rw [hfs];exact sB
        ·dsimp only;rw [hfs];exact mS)
  ·have e:k=C.length:=by omega
   subst e;rw [XF];repeat' (first|refine zZJ ?_|refine sM fun _=>?_|refine sC ?_ ?_<;>intro hb<;>try omega|fail)
   all_goals first
    |omega
    |exact bo eIO rfl rfl mS ⟨A2,c2,rfl,rfl⟩
end Go.SL
namespace Go.SL
open Go Go.Proofs
def mO (p:Nat × Nat):List Value:= [.int .i64 (p.1:Int),.int .i64 (p.2:Int)]
theorem Ot (w:World) (d:Nat) (a b:Nat × Nat):(Op.equalIn (d+5) 242 (.agg (mO a).toArray) (.agg (mO b).toArray)).run Tryz.prog w= .ok (decide (a=b)) w:=by
 obtain ⟨i,h1,h2⟩:=(inferInstance:Size Tryz.prog 3 1).out;have hc:Tryz.prog.cellsOf 3=1:=by kernel_rfl
 rw [run_equalIn_array w (d+4) (mO a).toArray (mO b).toArray Tryz.underlying242 h1,hc,show List.range 2= [0,1] from rfl];have hr: ∀ (a b:Int) w,(Op.equalIn (d+4) 3 (.int .i64 a) (.int .i64 b)).run Tryz.prog w= .ok (a==b) w:=fun a b w=>run_equalIn_int w (d+3) 3 .i64 .i64 a b Tryz.underlying3;have hpa: ∀ (c:Nat × Nat) w,(part 3 (mO c).toArray 0).run Tryz.prog w= .ok (.int .i64 (c.1:Int)) w:=by
  intro c w;simp [part,go_sem,mO]
 have hpb: ∀ (c:Nat × Nat) w,(part 3 (mO c).toArray 1).run Tryz.prog w= .ok (.int .i64 (c.2:Int)) w:=by
  intro c w;simp [part,go_sem,mO]
 have he:decide (a=b)=((a.1:Int)==b.1 && (a.2:Int)==b.2):=by
  obtain ⟨a1,a2⟩:=a;obtain ⟨b1,b2⟩:=b;rw [XY];simp;omega
 rw [he];by_cases h1:((a.1:Int)==b.1)=true<;>by_cases h2:((a.2:Int)==b.2)=true<;>simp [Op.eqItems,hpa,hpb,hr,h1,h2]
theorem J9 {w0:World} {s:az} {H:List Blk} {ty t' :TypeId} {x y:Operand} {a b:Nat × Nat} {c:Bool} (hc:decide (a=b)=c) (hx:ev s x=some (.agg (mO a).toArray)) (hy:ev s y=some (.agg (mO b).toArray)):VOp Tryz.prog w0 s H (.binOp .eql 242 x y t') ty (.bool c):=fun ρ w _ _ _ _ hρ _=>by
 subst hc;have h:=Ot w 9995 a b;simp only [Nat.reduceAdd] at h;simp only [execOp,hρ x _ hx,hρ y _ hy,Sem.run_bind,run_eqGuard_agg w _ _ _ _ _ _ Tryz.eqGuardType242,Result.andThen_ok,run_eql_struct,h,Sem.run_pure]
attribute [local irreducible] FnAt FnIn FnP RW VOp W WA WC WE WG WL WLI WQ WR WT WX aX aY bA blk bw ceP scp thn
theorem Kv {a b:Rct} (h:(bZ a b).2=true):aA (bZ a b).1=true:=by
 unfold bZ at h ⊢;split at h
 ·rename_i hall;rw [if_pos hall];simp only [Zv,aac,X8,Xo] at hall;exact hall.2.2
 ·cases h
theorem GS (r:Rct) (L:List Rl) (x:Rl):aW r (L++ [x])=aW r L++if (bZ x.rect r).2=true then [((bZ x.rect r).1.c1,(bZ x.rect r).1.c2)] else []:=by
 unfold aW;simp
theorem Fq (r:Rct) (L:List Rl) (x:Rl):bf r (L++ [x])=bf r L++if (bZ x.rect r).2=true then [((bZ x.rect r).1.r1,(bZ x.rect r).1.r2)] else []:=by
 unfold bf;simp
theorem dC (r:Rct): ∀ L:List Rl,(aW r L).length≤L.length
 | []=>Xy _
 |x::L=>by
  have:=dC r L;unfold aW at this ⊢;rw [Xx,Xa];split<;>simp only [Xs,Yu]<;>omega
theorem dA (r:Rct): ∀ L:List Rl,(bf r L).length≤L.length
 | []=>Xy _
 |x::L=>by
  have:=dA r L;unfold bf at this ⊢;rw [Xx,Xa];split<;>simp only [Xs,Yu]<;>omega
theorem tO {r:Rct} {L:List Rl}: ∀ p∈aW r L,0≤p.1∧p.1≤100000∧0≤p.2∧p.2≤100000:=fun p hp=>by
 obtain ⟨x,_,hx⟩:=XL.1 hp;split at hx
 ·rename_i h;have:=aV.1 (Kv h);rw [Xl.1 hx];simp only;omega
 ·cases hx
theorem sU {r:Rct} {L:List Rl}: ∀ p∈bf r L,0≤p.1∧p.1≤100000∧0≤p.2∧p.2≤100000:=fun p hp=>by
 obtain ⟨x,_,hx⟩:=XL.1 hp;split at hx
 ·rename_i h;have:=aV.1 (Kv h);rw [Xl.1 hx];simp only;omega
 ·cases hx
def vD (g:Nat) (A:Option Nat) (c:Nat) (C:List (Int × Int)):List Blk:= [.box g 292 [sl A C.length c],.own A 242 2 C.length c (C.flatMap du)]
theorem Kt (r:Rct) (L:List Rl) (lv:Value) (gr gc gw:Nat) (A1 A2:Option Nat) (c1 c2:Nat) (C D:List (Int × Int)) (R:List Blk) (w0:World) (hl:Reads w0 lv L.length (L.flatMap bQ)) (hC:C.length+L.length≤100000) (hD:D.length+L.length≤100000):
 FnIn Tryz.prog 187 [lv,.pointer (some ⟨gr,0,none⟩),.pointer (some ⟨gc,0,none⟩),.pointer (some ⟨gw,0,none⟩)] w0 (.box gr 31 (ay r)::(vD gc A1 c1 C++(vD gw A2 c2 D++R))) fun v H=>
  v= .tuple #[]∧ ∃ A1' c1' A2' c2',H= .box gr 31 (ay r)::(vD gc A1' c1' (C++aW r L)++(vD gw A2' c2' (D++bf r L)++R)):=by
 obtain ⟨Al,cl,rfl,hl1,hl2,hl3⟩:=hl;refine bI Tryz.func187 rfl Tryz.ntmps187 rfl ?_;simp only [vD,XH,Xc,Xd];repeat' (first|refine zZB ?_|refine sM fun _=>?_|refine sC ?_ ?_<;>intro hb<;>try omega|fail)
 refine ax [1,2,3,9,10] rfl (fun y:Nat × Option Nat × Nat × Option Nat × Nat=> [(11,.int .i64 (y.1:Int))]) (fun y=> .box gr 31 (ay r):: .box gc 292 [sl y.2.1 (C++aW r (L.take y.1)).length y.2.2.1]:: .own y.2.1 242 2 (C++aW r (L.take y.1)).length y.2.2.1 ((C++aW r (L.take y.1)).flatMap du):: .box gw 292 [sl y.2.2.2.1 (D++bf r (L.take y.1)).length y.2.2.2.2]:: .own y.2.2.2.1 242 2 (D++bf r (L.take y.1)).length y.2.2.2.2 ((D++bf r (L.take y.1)).flatMap du)::R) (fun y=>y.1≤L.length) (fun y=>L.length - y.1) (0,A1,c1,A2,c2) (Xn _) sB (by simp only [YF,aW,bf,XP,Xm];exact mS) ?_;rintro ⟨i,A1,c1,A2,c2⟩ hi;dsimp only at hi ⊢;by_cases hlt:i<L.length
 ·obtain ⟨gl,ol,rfl,hrl⟩:=hl3 (by omega);have he1:=hrl.elem dw i hlt;have hcs:=GS r (L.take i) L[i];have hws:=Fq r (L.take i) L[i];rw [← Xk hlt] at hcs hws;have hcl:=dC r (L.take i);have hwl:=dA r (L.take i);rw [XA] at hcl hwl;generalize L[i]=x at he1 hcs hws;have hM:=fun w=>tX x.rect r w;generalize bZ x.rect r=mt at hM hcs hws;obtain ⟨mr,mb⟩:=mt;dsimp only at hM hcs hws;generalize aW r (L.take i)=C1 at hcs hcl ⊢;generalize bf r (L.take i)=D1 at hws hwl ⊢;have hCl:(C++C1).length≤200000:=by rw [Xa];omega
  have hDl:(D++D1).length≤200000:=by rw [Xa];omega
  have hC2:C++aW r (L.take (i+1))=(C++C1)++if mb=true then [(mr.c1,mr.c2)] else []:=by rw [hcs,XE]
  have hD2:D++bf r (L.take (i+1))=(D++D1)++if mb=true then [(mr.r1,mr.r2)] else []:=by rw [hws,XE]
  generalize C++C1=C3 at hC2 hCl ⊢;generalize D++D1=D3 at hD2 hDl ⊢;cases mb
  ·rw [if_neg (by decide),Xm] at hC2 hD2;repeat' (first|apply aa;exact rfl;exact rfl;intro w hm;exact hM w|refine zZN ?_|refine sM fun _=>?_|refine sC ?_ ?_<;>intro hb<;>try omega|fail)
   all_goals first
    |omega
    |refine ⟨(i+1,A1,c1,A2,c2),hlt,by dsimp only;omega,by exact sB,by exact sB,?_⟩;dsimp only;rw [hC2,hD2];exact mS
  ·rw [if_pos rfl] at hC2 hD2;have hC4:(C3++ [(mr.c1,mr.c2)]).flatMap du=C3.flatMap du++ [.int .i64 mr.c1,.int .i64 mr.c2]:=by simp [du]
   have hD4:(D3++ [(mr.r1,mr.r2)]).flatMap du=D3.flatMap du++ [.int .i64 mr.r1,.int .i64 mr.r2]:=by simp [du]
   repeat' first|apply aa;exact rfl;exact rfl;intro w hm;exact hM w|apply ak;exact rfl;apply pX;(iterate 5 exact rfl)|apply aN (d:=30) (A:=A1) (m:=1);(iterate 3 exact rfl);exact pK;intro w hm;exact hm.cells_own pK;exact rfl;simp [Value.oneCell',sl];omega;simp only [maxLen];omega;intro A3 c3 hA3|apply aN (d:=38) (A:=A2) (m:=1);(iterate 3 exact rfl);exact pK;intro w hm;exact hm.cells_own pK;exact rfl;simp [Value.oneCell',sl];omega;simp only [maxLen];omega;intro A4 c4 hA4|refine zZN ?_|refine sM fun _=>?_|refine sC ?_ ?_<;>intro hb<;>try omega|fail
   all_goals first
    |omega
    |refine ⟨(i+1,A3,c3,A4,c4),hlt,by dsimp only;omega,by exact sB,by exact sB,?_⟩;dsimp only;rw [hC2,hD2,hC4,hD4,List.length_append,List.length_append];exact mS
 ·have e:i=L.length:=by omega
  subst e;rw [XF];repeat' (first|refine zZB ?_|refine sM fun _=>?_|refine sC ?_ ?_<;>intro hb<;>try omega|fail)
  all_goals first
   |omega
   |exact fJ eIO rfl (.refl _) ⟨rfl,A1,c1,A2,c2,rfl⟩
end Go.SL

/-
  Lemmas and walks, put together: Ru Zr.
-/
import Derived.Test.YtpoafcnhplbkmaaGreatDoorKs22
set_option linter.unusedSimpArgs false
set_option linter.unusedVariables false
set_option maxRecDepth 20000
set_option maxHeartbeats 16000000
namespace Go.SL
open Go Go.Proofs
attribute [local irreducible] W WL WQ WG WA WX WLI WR WT WC WE VOp RW thn blk bH scp aV bz bP FnAt FnIn FnP ceP
theorem kZ (n:Nat):((List.range (n*1)).map fun i=> [Value.bool false][i % [Value.bool false].length]!)=aF n fun _=>false:=by
 simp [aF,Nat.mod_one]
def je (n A:Nat):Value:= .slice (some ⟨A,0,none⟩) n n
def wn (f:Nat→Bool) (k:Nat):Nat→Bool:=fun j=>decide (j<k) && f j
theorem IX (f:Nat→Bool) (n k:Nat):aF n (fun j=>if j=k then f k else wn f k j)=aF n (wn f (k+1)):=aP fun j _=>by
 unfold wn;by_cases e:j=k
 ·subst e;simp
 ·rw [if_neg e];congr 1;rw [decide_eq_decide];omega
theorem IW (f:Nat→Bool) (n:Nat):aF n (fun _=>false)=aF n (wn f 0):=aP fun j _=>by simp [wn]
theorem IY (f:Nat→Bool) (n:Nat):aF n (wn f n)=aF n f:=aP fun j h=>by simp [wn,h]
theorem Na {R:List Blk} {L:List En} {G:Gr} (h:RGOk R L G) (hG:GrOk G) {i k:Nat} (hi:i<L.length) (hk:k<L.length):kF G i k=dW L[i].uses (kN L[k].at_.col L[k].at_.row):=by
 have hki: ∀ j (hj:j<L.length),(aA G)[j]? =some L[j].at_:=fun j hj=>by
  rw [← h.keys,Rj,QU hj];rfl
 have hu:dF G L[i].at_=L[i].uses:=by
  have hm:L[i].abs∈G:=by rw [← h.rel];exact RG.2 ⟨L[i],RL hi,rfl⟩
  exact yB hG.sort hm
 unfold kF;rw [hki i hi,hki k hk];simp only;rw [hu]
def pu (G:Gr) (v a:Nat):Nat→Nat→Bool:=fun i k=>if i<a then aQ G (v+1) i k else aQ G v i k
def n9 (G:Gr) (v i k:Nat):Nat→Bool:=fun j=>if j<k then aQ G (v+1) i j else aQ G v i j
theorem Mo (G:Gr) (v k:Nat):aQ G (v+1) v k=aQ G v v k:=by
 rw [aQ];cases aQ G v v k<;>simp
theorem Ln (G:Gr) (v a k:Nat):pu G v a v k=aQ G v v k:=by
 unfold pu;split
 ·exact Mo G v k
 ·rfl
theorem IE {G:Gr} {v i n k:Nat} (h:aQ G v i v=true):aF n (fun j=>if j=k then (aQ G v i k||aQ G v v k) else n9 G v i k j)=aF n (n9 G v i (k+1)):=aP fun j _=>by
 unfold n9;by_cases e:j=k
 ·subst e;rw [if_pos rfl,if_pos (by omega),aQ,h,Ss]
 ·rw [if_neg e];by_cases h1:j<k
  ·rw [if_pos h1,if_pos (by omega)]
  ·rw [if_neg h1,if_neg (by omega)]
theorem KP {G:Gr} {v i k:Nat} (h:aQ G v i v=true):n9 G v i k v=true:=by
 unfold n9;split
 ·rw [aQ,h,Bool.true_or]
 ·exact h
theorem G7 (G:Gr) (v i k:Nat):n9 G v i k k=aQ G v i k:=by unfold n9;rw [if_neg (by omega)]
theorem ID (G:Gr) (v i n:Nat):aF n (n9 G v i 0)=aF n (aQ G v i):=aP fun j _=>by unfold n9;rw [if_neg (by omega)]
theorem IG (G:Gr) (v i n:Nat):aF n (n9 G v i n)=aF n (aQ G (v+1) i):=aP fun j h=>by unfold n9;rw [if_pos h]
theorem PV (g:Nat) (A:Option Nat) (cap:Nat) (L:List En) (G:Gr) (R:List Blk) (w0:World) (hR:RGOk R L G) (hG:GrOk G) (hlen:L.length≤1000):
 FnIn Tryz.prog 52 [.pointer (some ⟨g,0,none⟩)] w0 (rgB g A cap L++R) fun v H=> ∃ A' c' As,(0<L.length→ ∃ g',A' =some g')∧As.length=L.length∧v=sl A' L.length c' ∧H= .own A' 72 1 L.length c' (As.map (je L.length))::(gR L.length As (aQ G L.length) 0++(rgB g A cap L++R)):=by
 refine bF Tryz.func52 rfl Tryz.ntmps52 rfl ?_;have htch:=fun i k hi hk=>Na (i:=i) (k:=k) hR hG hi hk;refine aI 72 1 ?_;unfold rgB;simp only [Re,QV,QW];generalize hn:L.length=n at hlen;repeat' (first|refine zZB ?_|refine sM fun _=>?_|(refine sC ?_ ?_<;>intro hb<;>try omega)|fail)
 refine aw [0] rfl (fun y:Nat × List Nat × List Blk × Option Nat × Nat=> [(3,sl y.2.2.2.1 y.2.1.length y.2.2.2.2),(4,.int .i64 (y.1:Int))]) (fun y=> .own y.2.2.2.1 72 1 y.2.1.length y.2.2.2.2 (y.2.1.map (je n)):: .box g 126 [sl A n cap]:: .own A 172 4 n cap (L.flatMap cz)::y.2.2.1) (fun y=>y.1≤n∧y.2.1.length=y.1∧(gR n y.2.1 (kF G) 0++R).Perm y.2.2.1) (fun y=>n - y.1) (0,[],R,none,0) ⟨QZ _,rfl,List.Perm.refl _⟩ sB mS ?_;rintro ⟨i,As,Z,A3,c3⟩ ⟨hi,hAl,hZ⟩;dsimp only at hi hAl hZ ⊢;have hRZ:MSub R Z:=MSub.trans (MSub.appR R _) (MSub.of_perm hZ.symm);by_cases hlt:i<n
 ·refine bg (A:=A) pK (by omega) fun gl hA=> ?_;subst hA;repeat' (first|(apply dH (c:=n);(iterate 3 exact rfl);omega;(simp only [maxLen];omega);intro g9)|refine zZA ?_|refine sM fun _=>?_|(refine sC ?_ ?_<;>intro hb<;>try omega)|fail)
  all_goals try (exfalso;omega)
  refine jJ (.own (some g9) 4 1 n n (aF n (wn (kF G i) 0)):: .own A3 72 1 As.length c3 (As.map (je n)):: .box g 126 [sl (some gl) n cap]:: .own (some gl) 172 4 n cap (L.flatMap cz)::Z) (by rw [← IW,← kZ];exact mS) ?_;refine aw [0,3,4,5] rfl (fun k:Nat=> [(6,.int .i64 (k:Int))]) (fun k=> .own (some g9) 4 1 n n (aF n (wn (kF G i) k)):: .own A3 72 1 As.length c3 (As.map (je n)):: .box g 126 [sl (some gl) n cap]:: .own (some gl) 172 4 n cap (L.flatMap cz)::Z) (fun k=>k≤n) (fun k=>n - k) 0 (QZ _) sB mS ?_;rintro k hk;by_cases hlk:k<n
  ·have hli:i<L.length:=by omega
   have hlk' :k<L.length:=by omega
   have htc:=htch i k hli hlk';have hai:=oL hli;have hck:=jq hlk';have hoke:=hR.en L[i] (RL hli);have hT:=fun (r:Rct) (H' :List Blk) (hs:MSub R H') (w' :World) (hm:Mem w0 w' H')=>tI L[i] r w' (hoke.uses _ w' (hs.use hm)) (by have:=hoke.ul;omega);have hTk:=hT (kN L[k].at_.col L[k].at_.row);rw [← htc] at hTk;generalize L[i]=e at hai hoke hTk;generalize L[k]=d at hck hTk;have hset:=eY (n:=n) (f:=wn (kF G i) k) (k:=k) (v:=kF G i k);rw [IX] at hset;generalize hty:kF G i k=ty at hTk hset;repeat' (first|refine zZA ?_|refine sM fun _=>?_|(refine sC ?_ ?_<;>intro hb<;>try omega)|fail)
   all_goals try (exfalso;omega)
   refine jW (id:=9) 20 (.own (some g9) 4 1 n n (aF n (wn (kF G i) (k+1))):: .own A3 72 1 As.length c3 (As.map (je n)):: .box g 126 [sl (some gl) n cap]:: .own (some gl) 172 4 n cap (L.flatMap cz)::Z) (by kernel_rfl) (by kernel_rfl) rfl ?_;repeat' (first|(apply fp (f:=60) (d:=41);exact rfl;decide+kernel;exact rfl;apply ag (j:=i);exact rfl;exact rfl;exact hlt)|(apply fp (f:=60) (d:=42);exact rfl;decide+kernel;exact rfl;apply aO (ys:=cz e);exact rfl;exact pK;exact hai;exact rfl)|(apply fp (f:=60) (d:=48);exact rfl;decide+kernel;exact rfl;apply ag (j:=k);exact rfl;exact rfl;exact hlk)|(apply fp (f:=60) (d:=50);exact rfl;decide+kernel;exact rfl;apply aO (ys:=aB d.at_);exact rfl;exact pK;exact hck;exact rfl)|(apply fp (f:=60) (d:=53);exact rfl;decide+kernel;exact rfl;apply ag (j:=k);exact rfl;exact rfl;exact hlk)|(apply yp (f' :=100) (f:=60);exact rfl;decide+kernel;exact rfl;exact rfl;(intro w' hm;exact gF _ w'))|(apply yp (f' :=99) (f:=60);exact rfl;decide+kernel;exact rfl;exact rfl;(intro w' hm;exact hTk _ (MSub.trans hRZ mS) w' hm))|(apply jA (g:=g9);exact rfl;exact rfl;exact pK;exact rfl;(rw [eD];omega);(rw [hset];exact MSub.refl _))|refine zZM ?_|refine sM fun _=>?_|(refine sC ?_ ?_<;>intro hb<;>try omega)|fail)
   repeat' (first|refine zZA ?_|refine sM fun _=>?_|(refine sC ?_ ?_<;>intro hb<;>try omega)|fail)
   all_goals first
    |(exfalso;omega)
    |(refine ⟨k+1,hlk,by omega,by exact sB,by exact sB,by exact mS⟩;done)
  ·have hk2:k=n:=by omega
   subst hk2;rw [IY];have hAn:(As++ [g9]).length=As.length+1:=by simp
   repeat' (first|(apply eu;(iterate 3 exact rfl);(repeat first|exact .hd|apply Sel.tl|apply In.tl);(intro w hm;exact hm.cells_own (by (repeat first|exact .hd|apply Sel.tl|apply In.tl)));exact rfl;(simp [Value.oneCell',sl]);omega;(simp only [maxLen];omega);(intro A2 cap2 hA2))|refine zZA ?_|refine sM fun _=>?_|(refine sC ?_ ?_<;>intro hb<;>try omega)|fail)
   all_goals first
    |(exfalso;omega)
    | (refine ⟨(i + 1, As ++ [g9], fO k g9 (kF G i) :: Z, A2, cap2), ⟨hlt, by dsimp only; omega, ?_⟩, by dsimp only; omega, ?_, by exact sB, ?_⟩
       ·dsimp only;rw [y5,hAl,Rv,Rx];exact TB.trans (hZ.cons _)
       ·dsimp only;rw [hAn];exact sB
       ·dsimp only;rw [hAn,List.map_append];exact mS)
 ·have hi2:i=n:=by omega
  subst hi2;repeat' (first|refine zZA ?_|refine sM fun _=>?_|(refine sC ?_ ?_<;>intro hb<;>try omega)|fail)
  all_goals try (exfalso;omega)
  rw [hAl];refine aw [0,3] rfl (fun y:Nat × List Blk=> [(7,.int .i64 (y.1:Int))]) (fun y=> .own A3 72 1 i c3 (As.map (je i)):: .box g 126 [sl A i cap]:: .own A 172 4 i cap (L.flatMap cz)::y.2) (fun y=>y.1≤i∧(gR i As (aQ G y.1) 0++R).Perm y.2) (fun y=>i - y.1) (0,Z) ⟨QZ _,hZ⟩ sB mS ?_;clear hZ hRZ;rintro ⟨v,Z⟩ ⟨hv,hZ⟩;dsimp only at hv hZ ⊢;by_cases hlv:v<i
  ·repeat' (first|refine zZA ?_|refine sM fun _=>?_|(refine sC ?_ ?_<;>intro hb<;>try omega)|fail)
   all_goals try (exfalso;omega)
   refine aw [0,3,7] rfl (fun y:Nat × List Blk=> [(8,.int .i64 (y.1:Int))]) (fun y=> .own A3 72 1 i c3 (As.map (je i)):: .box g 126 [sl A i cap]:: .own A 172 4 i cap (L.flatMap cz)::y.2) (fun y=>y.1≤i∧(gR i As (pu G v y.1) 0++R).Perm y.2) (fun y=>i - y.1) (0,Z) ⟨QZ _,by rw [show pu G v 0=aQ G v from funext fun a=>funext fun b=>by simp [pu]];exact hZ⟩ sB mS ?_;clear hZ;rintro ⟨a,Z⟩ ⟨ha,hZ⟩;dsimp only at ha hZ ⊢;by_cases hla:a<i
   ·refine bg (A:=A3) pK (by omega) fun g3 hA=> ?_;subst hA;have haA:a<As.length:=by omega
    have hvA:v<As.length:=by omega
    obtain ⟨Rs,hRs,hRm⟩:=wL (n:=i) As (pu G v a) 0 a haA;rw [Rv] at hRs;have hZ2:Z.Perm (fO i As[a] (pu G v a a)::(Rs++R)):=hZ.symm.trans ((hRs _ fun _ _=>rfl).append_right R);have hra:(As.map (je i))[0+a*1]? =some (je i As[a]):=by rw [Rv,RV,Rj,QU haA];rfl
    have hrv:(As.map (je i))[0+v*1]? =some (je i As[v]):=by rw [Rv,RV,Rj,QU hvA];rfl
    have hmid:pu G v a a=aQ G v a:=by funext k;unfold pu;rw [if_neg (by omega)]
    rw [hmid] at hZ2;have hvr:v≠a→fO i As[v] (pu G v a v)∈Rs++R:=fun hne=>by
     have h1:=hRm v hvA hne;rw [Rv] at h1;exact Si _ h1
    have hnew:(gR i As (pu G v (a+1)) 0++R).Perm (fO i As[a] (aQ G (v+1) a)::(Rs++R)):=by
     have h1:=(hRs (pu G v (a+1)) fun b hb=>by funext k;unfold pu;by_cases h:b<a<;>simp [h,show b<a+1↔b<a by omega]).append_right R;rwa [show pu G v (a+1) a=aQ G (v+1) a from by funext k;unfold pu;rw [if_pos (by omega)]] at h1
    refine jJ (fO i As[a] (aQ G v a):: .own (some g3) 72 1 i c3 (As.map (je i)):: .box g 126 [sl A i cap]:: .own A 172 4 i cap (L.flatMap cz)::(Rs++R)) (MSub.trans (by exact mS:MSub _ (.own (some g3) 72 1 i c3 (As.map (je i)):: .box g 126 [sl A i cap]:: .own A 172 4 i cap (L.flatMap cz)::fO i As[a] (aQ G v a)::(Rs++R))) (MSub.of_perm (((hZ2.cons _).cons _).cons _))) ?_;clear hZ hZ2 hRs hRm hmid;generalize Rs++R=Z2 at hvr hnew
    cases hva:aQ G v a v with
    |false=>
      have hsame:aF i (aQ G v a)=aF i (aQ G (v+1) a):=aP fun k _=>by rw [aQ,hva,SG,Bool.or_false]
      have hcv:=bN (f:=aQ G v a) hlv;rw [hva] at hcv;unfold fO;repeat' (first|refine zZA ?_|refine sM fun _=>?_|(refine sC ?_ ?_<;>intro hb<;>try omega)|fail)
      all_goals try (exfalso;omega)
      refine aw [0,3,7,8] rfl (fun _:Unit=> [(9,.int .i64 0)]) (fun _=> .own (some As[a]) 4 1 i i (aF i (aQ G v a)):: .own (some g3) 72 1 i c3 (As.map (je i)):: .box g 126 [sl A i cap]:: .own A 172 4 i cap (L.flatMap cz)::Z2) (fun _=>True) (fun _=>0) () trivial sB mS ?_;rintro ⟨⟩ _;repeat' (first|(apply ai (d:=77);exact rfl;apply ag (j:=a);exact rfl;exact rfl;omega)|(apply ai (d:=78);exact rfl;apply aq;exact rfl;exact pK;exact hra)|(apply ai (d:=80);exact rfl;apply ag (j:=v);exact rfl;exact rfl;exact hlv)|(apply ai (d:=81);exact rfl;apply aq;exact rfl;exact pK;exact hcv)|refine zZA ?_|refine sM fun _=>?_|(refine sC ?_ ?_<;>intro hb<;>try omega)|fail)
      all_goals first
       |(exfalso;omega)
       | (refine ⟨(a + 1, .own (some As[a]) 4 1 i i (aF i (aQ G v a)) :: Z2), ⟨hla, ?_⟩, by dsimp only; omega, by exact sB, by exact sB, by exact mS⟩
          dsimp only;rw [hsame];exact hnew)
    |true=>
      unfold fO;rw [← ID];repeat' (first|refine zZA ?_|refine sM fun _=>?_|(refine sC ?_ ?_<;>intro hb<;>try omega)|fail)
      all_goals try (exfalso;omega)
      refine aw [0,3,7,8] rfl (fun k:Nat=> [(9,.int .i64 (k:Int))]) (fun k=> .own (some As[a]) 4 1 i i (aF i (n9 G v a k)):: .own (some g3) 72 1 i c3 (As.map (je i)):: .box g 126 [sl A i cap]:: .own A 172 4 i cap (L.flatMap cz)::Z2) (fun k=>k≤i) (fun k=>i - k) 0 (QZ _) sB mS ?_;rintro k hk;by_cases hlk:k<i
      ·have hcv:=bN (f:=n9 G v a k) hlv;rw [KP hva] at hcv;have hck:=bN (f:=n9 G v a k) hlk;rw [G7] at hck;have hset:=eY (n:=i) (f:=n9 G v a k) (k:=k) (v:=aQ G v a k||aQ G v v k);rw [IE hva] at hset;obtain ⟨fv,hfv,hin⟩: ∃ fv:Nat→Bool,fv k=aQ G v v k∧In (.own (some As[v]) 4 1 i i (aF i fv)) (.own (some As[a]) 4 1 i i (aF i (n9 G v a k)):: .own (some g3) 72 1 i c3 (As.map (je i)):: .box g 126 [sl A i cap]:: .own A 172 4 i cap (L.flatMap cz)::Z2):=by
        by_cases e:v=a
        ·subst e;exact ⟨_,G7 G v v k,.hd⟩
        ·exact ⟨_,Ln G v a k,.tl (.tl (.tl (.tl (In.of_mem (hvr e)))))⟩
       have hfg:=bN (f:=fv) hlk;rw [hfv] at hfg;generalize aQ G v v k=q at hfg hset;generalize aQ G v a k=p at hck hset;repeat' (first|(apply ai (d:=77);exact rfl;apply ag (j:=a);exact rfl;exact rfl;omega)|(apply ai (d:=78);exact rfl;apply aq;exact rfl;exact pK;exact hra)|(apply ai (d:=80);exact rfl;apply ag (j:=v);exact rfl;exact rfl;exact hlv)|(apply ai (d:=81);exact rfl;apply aq;exact rfl;exact pK;exact hcv)|refine zZA ?_|refine sM fun _=>?_|(refine sC ?_ ?_<;>intro hb<;>try omega)|fail)
       all_goals try (exfalso;omega)
       refine jW (id:=20) 22 (.own (some As[a]) 4 1 i i (aF i (n9 G v a (k+1))):: .own (some g3) 72 1 i c3 (As.map (je i)):: .box g 126 [sl A i cap]:: .own A 172 4 i cap (L.flatMap cz)::Z2) (by kernel_rfl) (by kernel_rfl) rfl ?_;cases p
       ·rw [Bool.false_or] at hset;repeat' (first|(apply fp (f:=60) (d:=87);exact rfl;decide+kernel;exact rfl;apply ag (j:=a);exact rfl;exact rfl;omega)|(apply fp (f:=60) (d:=88);exact rfl;decide+kernel;exact rfl;apply aq;exact rfl;exact pK;exact hra)|(apply fp (f:=60) (d:=92);exact rfl;decide+kernel;exact rfl;apply ag (j:=a);exact rfl;exact rfl;omega)|(apply fp (f:=60) (d:=93);exact rfl;decide+kernel;exact rfl;apply aq;exact rfl;exact pK;exact hra)|(apply fp (f:=60) (d:=95);exact rfl;decide+kernel;exact rfl;apply ag (j:=k);exact rfl;exact rfl;exact hlk)|(apply fp (f:=60) (d:=96);exact rfl;decide+kernel;exact rfl;apply aq;exact rfl;exact pK;exact hck)|(apply u7 (f:=60);(iterate 3 exact rfl);decide+kernel;exact rfl;apply Kl;exact rfl)|(apply u7 (f:=60) (d:=100);(iterate 3 exact rfl);decide+kernel;exact rfl;apply ag (j:=v);exact rfl;exact rfl;omega)|(apply u7 (f:=60) (d:=101);(iterate 3 exact rfl);decide+kernel;exact rfl;apply aq;exact rfl;exact pK;exact hrv)|(apply u7 (f:=60) (d:=103);(iterate 3 exact rfl);decide+kernel;exact rfl;apply ag (j:=k);exact rfl;exact rfl;exact hlk)|(apply u7 (f:=60) (d:=104);(iterate 3 exact rfl);decide+kernel;exact rfl;apply aq;exact rfl;exact hin;exact hfg)|(apply fp (f:=60) (d:=106);exact rfl;decide+kernel;exact rfl;apply ag (j:=k);exact rfl;exact rfl;exact hlk)|(apply jA (g:=As[a]);exact rfl;exact rfl;exact pK;exact rfl;(rw [eD];omega);(rw [hset];exact MSub.refl _))|refine zZM ?_|refine sM fun _=>?_|(refine sC ?_ ?_<;>intro hb<;>try omega)|fail)
        repeat' (first|refine zZA ?_|refine sM fun _=>?_|(refine sC ?_ ?_<;>intro hb<;>try omega)|fail)
        all_goals first
         |(exfalso;omega)
         |(refine ⟨k+1,hlk,by omega,by exact sB,by exact sB,by exact mS⟩;done)
       ·rw [Bool.true_or] at hset;repeat' (first|(apply fp (f:=60) (d:=87);exact rfl;decide+kernel;exact rfl;apply ag (j:=a);exact rfl;exact rfl;omega)|(apply fp (f:=60) (d:=88);exact rfl;decide+kernel;exact rfl;apply aq;exact rfl;exact pK;exact hra)|(apply fp (f:=60) (d:=92);exact rfl;decide+kernel;exact rfl;apply ag (j:=a);exact rfl;exact rfl;omega)|(apply fp (f:=60) (d:=93);exact rfl;decide+kernel;exact rfl;apply aq;exact rfl;exact pK;exact hra)|(apply fp (f:=60) (d:=95);exact rfl;decide+kernel;exact rfl;apply ag (j:=k);exact rfl;exact rfl;exact hlk)|(apply fp (f:=60) (d:=96);exact rfl;decide+kernel;exact rfl;apply aq;exact rfl;exact pK;exact hck)|(apply ML;(iterate 5 exact rfl))|(apply fp (f:=60) (d:=106);exact rfl;decide+kernel;exact rfl;apply ag (j:=k);exact rfl;exact rfl;exact hlk)|(apply jA (g:=As[a]);exact rfl;exact rfl;exact pK;exact rfl;(rw [eD];omega);(rw [hset];exact MSub.refl _))|refine zZM ?_|refine sM fun _=>?_|(refine sC ?_ ?_<;>intro hb<;>try omega)|fail)
        repeat' (first|refine zZA ?_|refine sM fun _=>?_|(refine sC ?_ ?_<;>intro hb<;>try omega)|fail)
        all_goals first
         |(exfalso;omega)
         |(refine ⟨k+1,hlk,by omega,by exact sB,by exact sB,by exact mS⟩;done)
      ·have hk2:k=i:=by omega
       subst hk2;rw [IG];repeat' (first|refine zZA ?_|refine sM fun _=>?_|(refine sC ?_ ?_<;>intro hb<;>try omega)|fail)
       all_goals first
        |(exfalso;omega)
        |(refine ⟨(a+1,.own (some As[a]) 4 1 k k (aF k (aQ G (v+1) a))::Z2),⟨hla,hnew⟩,by dsimp only;omega,by exact sB,by exact sB,by exact mS⟩;done)
   ·have ha2:a=i:=by omega
    subst ha2;rw [qi As 0 (M' :=aQ G (v+1)) fun b k _ h1 _=>by unfold pu;rw [if_pos (by omega)]] at hZ;repeat' (first|refine zZA ?_|refine sM fun _=>?_|(refine sC ?_ ?_<;>intro hb<;>try omega)|fail)
    all_goals first
     |(exfalso;omega)
     |(refine ⟨(v+1,Z),⟨hlv,hZ⟩,by dsimp only;omega,by exact sB,by exact sB,by exact mS⟩;done)
  ·have hv2:v=i:=by omega
   subst hv2;have hfin: ∀ (b1 b2 b3:Blk),MSub (b1::(gR v As (aQ G v) 0++(b2::b3::R))) (b1::b2::b3::Z):=fun b1 b2 b3=>by
    have h1:(b1::b2::b3::Z).Perm (b1::(gR v As (aQ G v) 0++(b2::b3::R))):=by
     refine List.Perm.cons b1 (((hZ.symm.cons b3).cons b2).trans ?_);exact ((TB (a:=b3) (l₁:=gR v As (aQ G v) 0) (l₂:=R)).symm.cons b2).trans TB.symm
    first|exact MSub.of_perm h1|exact MSub.of_perm h1.symm
   rcases SY v with h0|h0
   ·repeat' (first|refine zZA ?_|refine sM fun _=>?_|(refine sC ?_ ?_<;>intro hb<;>try omega)|fail)
    all_goals first
     |(exfalso;omega)
     |(exact bJ eIO rfl rfl (hfin _ _ _) ⟨A3,c3,As,fun h=>absurd h (by omega),hAl,rfl,rfl⟩)
   ·refine bg (A:=A3) pK h0 fun g3 hA=> ?_;subst hA;repeat' (first|refine zZA ?_|refine sM fun _=>?_|(refine sC ?_ ?_<;>intro hb<;>try omega)|fail)
    all_goals first
     |(exfalso;omega)
     |(exact bJ eIO rfl rfl (hfin _ _ _) ⟨some g3,c3,As,fun _=>⟨g3,rfl⟩,hAl,rfl,rfl⟩)
theorem Bo (g:Nat) (A:Option Nat) (cap:Nat) (L:List En) (G:Gr) (R:List Blk) (w0:World) (hR:RGOk R L G) (hG:GrOk G) (hlen:L.length≤1000):
 FnIn Tryz.prog 52 [.pointer (some ⟨g,0,none⟩)] w0 (rgB g A cap L++R) fun v H=> ∃ A' c' As,(0<L.length→ ∃ g',A' =some g')∧As.length=L.length∧v=sl A' L.length c' ∧H= .own A' 72 1 L.length c' (As.map (je L.length))::(rgB g A cap L++(R++gR L.length As (aQ G L.length) 0)):=by
 refine (PV g A cap L G R w0 hR hG hlen).re ?_;rintro v H ⟨A',c',As,h1,h2,rfl,rfl⟩;refine ⟨_,?_,A',c',As,h1,h2,rfl,rfl⟩;have h:(.own A' 72 1 L.length c' (As.map (je L.length))::(rgB g A cap L++(R++gR L.length As (aQ G L.length) 0))).Perm (.own A' 72 1 L.length c' (As.map (je L.length))::(gR L.length As (aQ G L.length) 0++(rgB g A cap L++R))):=by
  refine List.Perm.cons _ ?_;rw [← Rx];exact RO
 first|exact MSub.of_perm h|exact MSub.of_perm h.symm
end Go.SL
namespace Go.SL
open Go Go.Proofs Go.RowKit
attribute [local irreducible] W WL WQ WG WA WX WLI WR WT WC WE VOp RW thn blk bH scp aV bz bP FnAt FnIn FnP ceP
def rz (M:Nat→Nat→Bool) (i:Nat):Nat→Bool:=fun j=>decide (j<i) && M j j
theorem Ga (M:Nat→Nat→Bool) (i n:Nat):aF n (fun j=>if j=i then M i i else rz M i j)=aF n (rz M (i+1)):=aP fun j _=>by
 unfold rz;by_cases e:j=i
 ·subst e;simp
 ·rw [if_neg e];congr 1;rw [decide_eq_decide];omega
theorem F9 (M:Nat→Nat→Bool) (n:Nat):aF n (fun _=>false)=aF n (rz M 0):=aP fun j _=>by simp [rz]
theorem Gb (M:Nat→Nat→Bool) (n:Nat):aF n (rz M n)=aF n fun j=>M j j:=aP fun j h=>by simp [rz,h]
def nI (n:Nat) (M:Nat→Nat→Bool) (i k:Nat):Nat→Bool:=fun j=>if j<i then (M j j||(List.range n).any fun a=>M j a && M a a) else if j=i then (M j j||(List.range k).any fun a=>M j a && M a a) else M j j
theorem Ob (n:Nat) (M:Nat→Nat→Bool) (i k:Nat):nI n M i k i=(M i i||(List.range k).any fun a=>M i a && M a a):=by unfold nI;rw [if_neg (SS _),if_pos rfl]
theorem JQ (n:Nat) (M:Nat→Nat→Bool) (i k:Nat):aF n (fun j=>if j=i then (nI n M i k i||(M i k && M k k)) else nI n M i k j)=aF n (nI n M i (k+1)):=aP fun j _=>by
 rw [Ob];unfold nI;by_cases e:j=i
 ·subst e;rw [if_pos rfl,if_neg (SS _),if_pos rfl,Tx,List.any_append];simp [Bool.or_assoc]
 ·rw [if_neg e];by_cases h1:j<i
  ·rw [if_pos h1,if_pos h1]
  ·rw [if_neg h1,if_neg h1,if_neg e,if_neg e]
theorem JR (n:Nat) (M:Nat→Nat→Bool) (i:Nat):aF n (nI n M i n)=aF n (nI n M (i+1) 0):=aP fun j _=>by
 unfold nI;by_cases h1:j<i
 ·rw [if_pos h1,if_pos (by omega)]
 ·rw [if_neg h1];by_cases h2:j=i
  ·rw [if_pos h2,if_pos (by omega)]
  ·rw [if_neg h2,if_neg (by omega)];split<;>simp
theorem JP (n:Nat) (M:Nat→Nat→Bool):aF n (fun j=>M j j)=aF n (nI n M 0 0):=aP fun j _=>by
 unfold nI;rw [if_neg (TF _)];split<;>simp
theorem JS (n:Nat) (M:Nat→Nat→Bool):aF n (nI n M n 0)=aF n fun j=>(M j j||(List.range n).any fun a=>M j a && M a a):=aP fun j h=>by unfold nI;rw [if_pos h]
structure MatIn (F:List Blk) (n:Nat) (A:Option Nat) (c:Nat) (As:List Nat) (M:Nat→Nat→Bool):Prop where
 len:As.length=n
 out:Blk.own A 72 1 n c (As.map (je n))∈F
 row: ∀ i (h:i<As.length),fO n As[i] (M i)∈F
theorem MatIn.cell {F:List Blk} {n:Nat} {A:Option Nat} {c:Nat} {As:List Nat} {M:Nat→Nat→Bool} (h:MatIn F n A c As M) {i:Nat} (hi:i<n): ∃ g,(As.map (je n))[0+i*1]? =some (.slice (some ⟨g,0,none⟩) n n)∧Blk.own (some g) 4 1 n n (aF n (M i))∈F:=by
 have hl:i<As.length:=by rw [h.len];exact hi
 refine ⟨As[i],?_,h.row i hl⟩;rw [Rv,RV,Rj,QU hl]
 rfl
theorem yQ (n:Nat) (hn:n≤1000) (A:Option Nat) (c:Nat) (As:List Nat) (M:Nat→Nat→Bool) (F:List Blk) (hM:MatIn F n A c As M) (w0:World):
 FnIn Tryz.prog 51 [sl A n c] w0 F fun v H=> ∃ g,v= .slice (some ⟨g,0,none⟩) n n∧H=fO n g (fun i=>M i i)::F:=by
 refine bF Tryz.func51 rfl Tryz.ntmps51 rfl ?_;repeat' (first|(apply dH (c:=n);(iterate 3 exact rfl);omega;(simp only [maxLen];omega);intro go;(try simp only [kZ]))|refine zZB ?_|refine sM fun _=>?_|(refine sC ?_ ?_<;>intro hb<;>try omega)|fail)
 all_goals try (exfalso;omega)
 refine aw [0,3] rfl (fun i:Nat=> [(4,.int .i64 (i:Int))]) (fun i=> .own (some go) 4 1 n n (aF n (rz M i))::F) (fun i=>i≤n) (fun i=>n - i) 0 (QZ _) sB (by rw [← F9];exact mS) ?_;rintro i hi;by_cases hlt:i<n
 ·refine bg (A:=A) (.tl (In.of_mem hM.out)) (by omega) fun ga hA=> ?_;subst hA;obtain ⟨gi,hc,hr⟩:=hM.cell hlt;have hb1:=bN (f:=M i) hlt;have hst:=eY (n:=n) (f:=rz M i) (k:=i) (v:=M i i);rw [Ga] at hst;have ho:=hM.out;repeat' (first|(apply ai (d:=18);exact rfl;apply ag (j:=i);exact rfl;exact rfl;exact hlt)|(apply ai (d:=19);exact rfl;apply aq;exact rfl;exact .tl (In.of_mem ho);exact hc)|(apply ai (d:=21);exact rfl;apply ag (j:=i);exact rfl;exact rfl;exact hlt)|(apply ai (d:=22);exact rfl;apply aq;exact rfl;exact .tl (In.of_mem hr);exact hb1)|(apply ai (d:=23);exact rfl;apply ag (j:=i);exact rfl;exact rfl;exact hlt)|(apply aU (g:=go);exact rfl;exact rfl;exact pK;exact rfl;(rw [eD];omega);rw [hst])|refine zZA ?_|refine sM fun _=>?_|(refine sC ?_ ?_<;>intro hb<;>try omega)|fail)
  all_goals first
   |(exfalso;omega)
   |(refine ⟨i+1,hlt,by omega,by exact sB,by exact sB,by exact mS⟩;done)
 ·have e:i=n:=by omega
  subst e;rw [Gb];repeat' (first|refine zZA ?_|refine sM fun _=>?_|(refine sC ?_ ?_<;>intro hb<;>try omega)|fail)
  all_goals first
   |(exfalso;omega)
   |(exact bJ eIO rfl rfl (MSub.refl _) ⟨go,rfl,rfl⟩)
theorem CQ (n:Nat) (hn:n≤1000) (A:Option Nat) (c:Nat) (As:List Nat) (M:Nat→Nat→Bool) (F:List Blk) (hM:MatIn F n A c As M) (w0:World):
 FnIn Tryz.prog 53 [sl A n c] w0 F fun v H=> ∃ g,v= .slice (some ⟨g,0,none⟩) n n∧H=fO n g (fun j=>(M j j||(List.range n).any fun a=>M j a && M a a))::F:=by
 refine bF Tryz.func53 rfl Tryz.ntmps53 rfl ?_;repeat' (first|(apply ak (f:=51);exact rfl;exact rfl;exact yQ n hn A c As M F hM w0;rintro _ _ ⟨go,rfl,rfl⟩;simp only [fO])|refine zZB ?_|refine sM fun _=>?_|(refine sC ?_ ?_<;>intro hb<;>try omega)|fail)
 all_goals try (exfalso;omega)
 refine aw [0,3] rfl (fun i:Nat=> [(4,.int .i64 (i:Int))]) (fun i=> .own (some go) 4 1 n n (aF n (nI n M i 0))::F) (fun i=>i≤n) (fun i=>n - i) 0 (QZ _) sB (by rw [← JP];exact mS) ?_;rintro i hi;by_cases hlt:i<n
 ·obtain ⟨gi,hc,hr⟩:=hM.cell hlt;have ho:=hM.out;repeat' (first|refine zZA ?_|refine sM fun _=>?_|(refine sC ?_ ?_<;>intro hb<;>try omega)|fail)
  all_goals try (exfalso;omega)
  refine aw [0,3,4] rfl (fun k:Nat=> [(5,.int .i64 (k:Int))]) (fun k=> .own (some go) 4 1 n n (aF n (nI n M i k))::F) (fun k=>k≤n) (fun k=>n - k) 0 (QZ _) sB mS ?_;rintro k hk;by_cases hlk:k<n
  ·refine bg (A:=A) (.tl (In.of_mem ho)) (by omega) fun ga hA=> ?_;subst hA;obtain ⟨gk,hck,hrk⟩:=hM.cell hlk;have hb0:=bN (f:=nI n M i k) hlt;have hb1:=bN (f:=M i) hlk;have hb2:=bN (f:=M k) hlk;have hst:=eY (n:=n) (f:=nI n M i k) (k:=i) (v:=nI n M i k i||(M i k && M k k));rw [JQ] at hst;generalize nI n M i k i=pp at hb0 hst;generalize M i k=qq at hb1 hst;generalize M k k=rr at hb2 hst;cases pp<;>cases qq;all_goals simp only [Bool.true_or,Bool.false_or,Ss,SG] at hst
   all_goals (
    repeat' (first|(apply ai (d:=24);exact rfl;apply ag (j:=i);exact rfl;exact rfl;exact hlt)|(apply ai (d:=25);exact rfl;apply aq;exact rfl;exact pK;exact hb0)|(apply ai (d:=29);exact rfl;apply ag (j:=i);exact rfl;exact rfl;exact hlt)|(apply ai (d:=30);exact rfl;apply aq;exact rfl;exact .tl (In.of_mem ho);exact hc)|(apply ai (d:=32);exact rfl;apply ag (j:=k);exact rfl;exact rfl;exact hlk)|(apply ai (d:=33);exact rfl;apply aq;exact rfl;exact .tl (In.of_mem hr);exact hb1)|(apply ai (d:=37);exact rfl;apply ag (j:=k);exact rfl;exact rfl;exact hlk)|(apply ai (d:=38);exact rfl;apply aq;exact rfl;exact .tl (In.of_mem ho);exact hck)|(apply ai (d:=40);exact rfl;apply ag (j:=k);exact rfl;exact rfl;exact hlk)|(apply ai (d:=41);exact rfl;apply aq;exact rfl;exact .tl (In.of_mem hrk);exact hb2)|(apply ai (d:=44);exact rfl;apply ag (j:=i);exact rfl;exact rfl;exact hlt)|(apply aU (g:=go);exact rfl;exact rfl;exact pK;exact rfl;(rw [eD];omega);rw [hst])|refine zZA ?_|refine sM fun _=>?_|(refine sC ?_ ?_<;>intro hb<;>try omega)|fail)
    all_goals first
     |(exfalso;omega)
     |(refine ⟨k+1,hlk,by omega,by exact sB,by exact sB,by exact mS⟩;done)
    )
  ·have e:k=n:=by omega
   subst e;rw [JR];repeat' (first|refine zZA ?_|refine sM fun _=>?_|(refine sC ?_ ?_<;>intro hb<;>try omega)|fail)
   all_goals first
    |(exfalso;omega)
    |(refine ⟨i+1,hlt,by omega,by exact sB,by exact sB,by exact mS⟩;done)
 ·have e:i=n:=by omega
  subst e;rw [JS];repeat' (first|refine zZA ?_|refine sM fun _=>?_|(refine sC ?_ ?_<;>intro hb<;>try omega)|fail)
  all_goals first
   |(exfalso;omega)
   |(exact bJ eIO rfl rfl (MSub.refl _) ⟨go,rfl,rfl⟩)
end Go.SL

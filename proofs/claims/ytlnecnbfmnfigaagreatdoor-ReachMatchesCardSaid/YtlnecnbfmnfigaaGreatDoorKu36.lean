/-
  Lemmas and walks, put together: Rv Rx Pl9.
-/
import Derived.Test.YtlnecnbfmnfigaaGreatDoorKu35
set_option linter.unusedSimpArgs false
set_option linter.unusedVariables false
set_option maxRecDepth 20000
namespace Go.SL
open Go Go.Proofs
attribute [local irreducible] W WL WQ WG WA WX WLI WR WT WC WE VOp RW thn blk bZ scp bA bV ck FnAt FnIn FnP ceP
def eY (G:Gr) (l:List Rct) (i k:Nat):Nat→Bool:=fun j=>if j<i then dH G l j else if j=i then dH G (l.take k) j else false
def qi (G:Gr) (l:List Rct) (i:Nat):Nat→Bool:=fun j=>if j<i then upT G l j else false
def iI (G:Gr) (l:List Rct) (i k:Nat):Nat→Bool:=fun j=>if j<i then upT G l j else if j=i then dH G l i||(List.range k).any fun a=>bu G G.length i a && dH G l a else false
theorem xN (G:Gr) (i:Nat):dH G [] i=false:=by unfold dH;split<;>rfl
theorem qh (G:Gr) (l:List Rct) (n:Nat):aX n (fun _=>false)=aX n (eY G l 0 0):=bN fun j _=>by
 unfold eY
 rw [if_neg (by omega)]
 split
 ·
  rw [Qj,xN]
 ·
  rfl
theorem Bi (G:Gr) (l:List Rct) (i n:Nat):aX n (eY G l i l.length)=aX n (eY G l (i+1) 0):=bN fun j _=>by
 unfold eY
 rw [Qe,Qj]
 by_cases h1:j<i
 ·
  rw [if_pos h1,if_pos (by omega)]
 ·
  rw [if_neg h1]
  by_cases h2:j=i
  ·
   rw [if_pos h2,if_pos (by omega)]
  ·
   rw [if_neg h2,if_neg (by omega)]
   split
   ·
    rw [xN]
   ·
    rfl
theorem DM {G:Gr} {l:List Rct} {i k:Nat} {c:Rf} (hc:(aq G)[i]? =some c) (h:k<l.length):dH G (l.take (k+1)) i=(dH G (l.take k) i||aG (aD G c) l[k]):=by
 unfold dH
 rw [hc]
 simp only
 rw [Po h,List.any_append]
 simp
theorem GS (G:Gr) (l:List Rct) (i k:Nat):eY G l i k i=dH G (l.take k) i:=by unfold eY;rw [if_neg (by omega),if_pos rfl]
theorem Bh (G:Gr) (l:List Rct) (i k n:Nat):aX n (fun j=>if j=i then dH G (l.take (k+1)) i else eY G l i k j)=aX n (eY G l i (k+1)):=bN fun j _=>by
 unfold eY
 by_cases e:j=i
 ·
  subst e;rw [if_pos rfl,if_neg (by omega),if_pos rfl]
 ·
  rw [if_neg e]
  by_cases h1:j<i
  ·
   rw [if_pos h1,if_pos h1]
  ·
   rw [if_neg h1,if_neg h1,if_neg e,if_neg e]
theorem Bj (G:Gr) (l:List Rct) (n:Nat):aX n (eY G l n 0)=aX n (dH G l):=bN fun j h=>by unfold eY;rw [if_pos h]
theorem uR (G:Gr) (l:List Rct) (n:Nat):aX n (fun _=>false)=aX n (qi G l 0):=bN fun j _=>by unfold qi;rw [if_neg (by omega)]
theorem Bk (G:Gr) (l:List Rct) (i n:Nat):aX n (fun j=>if j=i then dH G l i else qi G l i j)=aX n (iI G l i 0):=bN fun j _=>by
 unfold iI qi
 by_cases e:j=i
 ·
  subst e;rw [if_pos rfl,if_neg (by omega),if_pos rfl];simp
 ·
  rw [if_neg e]
  by_cases h1:j<i
  ·
   rw [if_pos h1,if_pos h1]
  ·
   rw [if_neg h1,if_neg h1,if_neg e]
theorem Ji (G:Gr) (l:List Rct) (i k:Nat):iI G l i k i=(dH G l i||(List.range k).any fun a=>bu G G.length i a && dH G l a):=by unfold iI;rw [if_neg (by omega),if_pos rfl]
theorem DP (G:Gr) (l:List Rct) (i k n:Nat):aX n (fun j=>if j=i then (iI G l i k i||(bu G G.length i k && dH G l k)) else iI G l i k j)=aX n (iI G l i (k+1)):=bN fun j _=>by
 rw [Ji]
 unfold iI
 by_cases e:j=i
 ·
  subst e;rw [if_pos rfl,if_neg (by omega),if_pos rfl,SP,List.any_append];simp [Bool.or_assoc]
 ·
  rw [if_neg e]
  by_cases h1:j<i
  ·
   rw [if_pos h1,if_pos h1]
  ·
   rw [if_neg h1,if_neg h1,if_neg e,if_neg e]
theorem DQ (G:Gr) (l:List Rct) (i n:Nat):aX n (iI G l i G.length)=aX n (qi G l (i+1)):=bN fun j _=>by
 unfold iI qi
 by_cases h1:j<i
 ·
  rw [if_pos h1,if_pos (by omega)]
 ·
  rw [if_neg h1]
  by_cases e:j=i
  ·
   subst e;rw [if_pos rfl,if_pos (by omega)];rfl
  ·
   rw [if_neg e,if_neg (by omega)]
theorem GV (G:Gr) (l:List Rct) (n:Nat):aX n (qi G l n)=aX n (upT G l):=bN fun j h=>by unfold qi;rw [if_pos h]
set_option maxHeartbeats 8000000 in
theorem MP (g:Nat) (A:Option Nat) (cap:Nat) (L:List En) (G:Gr) (l:List Rct) (lv:Value) (R:List Blk) (w0:World) (hR:RGOk R L G) (hG:GrOk G) (hlen:L.length≤1000) (hll:l.length≤1000)
  (hrd: ∀ H w,MSub (rgB g A cap L++R) H→Mem w0 w H→Reads w lv l.length (l.flatMap aH)):
  FnIn Tryz.prog 58 [.pointer (some ⟨g,0,none⟩),lv] w0 (rgB g A cap L++R) fun v H=> ∃ gb,v= .slice (some ⟨gb,0,none⟩) L.length L.length∧H=iT L.length gb (upT G l)::(rgB g A cap L++R):=by
 refine bM Tryz.func58 rfl Tryz.ntmps58 rfl ?_
 have hAll:=KP g A cap L G R w0 hR hG hlen
 have hGn:=hR.len
 have hki: ∀ j (hj:j<L.length),(aq G)[j]? =some L[j].at_:=fun j hj=>by
  rw [← hR.keys,Pw,O5 hj];rfl
 have hui: ∀ j (hj:j<L.length),aD G L[j].at_=L[j].uses:=fun j hj=>by
  have hm:L[j].abs∈G:=by rw [← hR.rel];exact Py.2 ⟨L[j],PG hj,rfl⟩
  exact fK hG.sort hm
 unfold rgB at hAll hrd ⊢
 simp only [O8,O3,O4] at hAll hrd ⊢
 generalize hn:L.length=n at hlen hAll hGn hrd ⊢
 repeat' (first|(apply ak (f:=61);exact rfl;exact rfl;exact hAll;rintro _ _ ⟨A5,c5,As,_,hAl,rfl,rfl⟩)|refine sT ?_|refine sS ?_|refine sM fun _=> ?_|(refine sC ?_ ?_<;>intro hb<;>try omega)|exact cT|fail)
 refine zj (.own A5 124 1 n c5 (As.map (gM n)):: .box g 138 [sl A n cap]:: .own A 135 4 n cap (L.flatMap bG)::(fu n As (bu G n) 0++R)) ?_ ?_
 ·
  have h1:(fu n As (bu G n) 0++(.box g 138 [sl A n cap]:: .own A 135 4 n cap (L.flatMap bG)::R)).Perm (.box g 138 [sl A n cap]:: .own A 135 4 n cap (L.flatMap bG)::(fu n As (bu G n) 0++R)):=
   QG.trans (QG.cons _)
  first|exact MSub.of_perm (h1.cons _)|exact MSub.of_perm (h1.symm.cons _)
 have hRZ:MSub R (fu n As (bu G n) 0++R):=MSub.appR R _
 have hmat: ∀ i (h:i<n),iT n (As[i]'(by omega)) (bu G n i)∈fu n As (bu G n) 0++R:=fun i h=>PV _ (J1 As (bu G n) (by omega))
 generalize fu n As (bu G n) 0++R=Z at hRZ hmat
 have hBZ: ∀ A',MSub (.box g 138 [sl A' n cap]:: .own A' 135 4 n cap (L.flatMap bG)::R) (.box g 138 [sl A' n cap]:: .own A' 135 4 n cap (L.flatMap bG)::Z):=fun A' =>by
  obtain ⟨F,hp⟩:=hRZ
  exact ⟨F,(hp.cons _).cons _⟩
 refine ru (ι:=Nat × Nat) (id:=2) (fun y=> [(6,.slice (some ⟨y.1,0,none⟩) n n),(7,.slice (some ⟨y.2,0,none⟩) n n),(5,sl A5 n c5),(0,.pointer (some ⟨g,0,none⟩)),(1,lv)]) (fun y=> .own (some y.1) 4 1 n n (aX n (eY G l 0 0)):: .own (some y.2) 4 1 n n (aX n (qi G l 0)):: .own A5 124 1 n c5 (As.map (gM n)):: .box g 138 [sl A n cap]:: .own A 135 4 n cap (L.flatMap bG)::Z) (fun _=>True) ?_ ?_
 ·
  refine tV (id:=2) [5,11] [.box g 138 [sl A n cap]] 14 rfl rfl mS ?_
  repeat' (first|(apply ic (i:=0);(iterate 4 exact rfl);decide+kernel;decide+kernel;decide+kernel;(apply iR;exact rfl))|(apply ic (i:=1);(iterate 4 exact rfl);decide+kernel;decide+kernel;decide+kernel;(apply dr;exact rfl))|(apply ic (i:=2);(iterate 4 exact rfl);decide+kernel;decide+kernel;decide+kernel;(apply kY;exact rfl))|(apply ic (i:=3);(iterate 4 exact rfl);decide+kernel;decide+kernel;decide+kernel;(apply kq;exact rfl;exact .hd;exact rfl))|(apply ic (i:=4);(iterate 4 exact rfl);decide+kernel;decide+kernel;decide+kernel;(apply Jc;exact rfl))|(apply ic (i:=6);(iterate 4 exact rfl);decide+kernel;decide+kernel;decide+kernel;(apply iR;exact rfl))|(apply ic (i:=7);(iterate 4 exact rfl);decide+kernel;decide+kernel;decide+kernel;(apply dr;exact rfl))|(apply ic (i:=8);(iterate 4 exact rfl);decide+kernel;decide+kernel;decide+kernel;(apply kY;exact rfl))|(apply ic (i:=9);(iterate 4 exact rfl);decide+kernel;decide+kernel;decide+kernel;(apply kq;exact rfl;exact .hd;exact rfl))|(apply ic (i:=10);(iterate 4 exact rfl);decide+kernel;decide+kernel;decide+kernel;(apply Jc;exact rfl))|(apply ic (i:=12);(iterate 4 exact rfl);decide+kernel;decide+kernel;decide+kernel;(apply nz;exact rfl))|(apply ic (i:=13);(iterate 4 exact rfl);decide+kernel;decide+kernel;decide+kernel;(apply nz;exact rfl))|(apply pG (i:=5) (j:=11);(iterate 6 exact rfl);decide+kernel)|(apply fB (i:=5);(iterate 3 exact rfl);decide+kernel)|(apply fB (i:=11);(iterate 3 exact rfl);decide+kernel)|(apply tT;decide+kernel)|(apply Ks;(focus (exact mS;done)))|(apply mA (c:=n);(iterate 3 exact rfl);omega;(simp only [maxLen];omega);intro gx)|refine sT ?_|refine sS ?_|refine sM fun _=> ?_|(refine sC ?_ ?_<;>intro hb<;>try omega)|exact cT|fail)
  all_goals first
   |(exfalso;omega)
   |(rw [p7,← qh,← uR];refine cL (_,_) trivial sB mS;done)
   |(simp only [p7];refine cL (_,_) trivial sB (by rw [← qh,← uR];exact mS);done)
   |trace_state
 rintro ⟨g6,g7⟩ _
 dsimp only
 refine NU (fun w hm=>hrd _ w (MSub.trans (hBZ _) mS) hm) fun Al cl hlv=> ?_
 subst hlv
 repeat' (first|refine sT ?_|refine sS ?_|refine sM fun _=> ?_|(refine sC ?_ ?_<;>intro hb<;>try omega)|exact cT|fail)
 refine ax [0,1,5,6,7] rfl (fun i:Nat=> [(8,.int .i64 (i:Int))]) (fun i=> .own (some g6) 4 1 n n (aX n (eY G l i 0)):: .own (some g7) 4 1 n n (aX n (qi G l 0)):: .own A5 124 1 n c5 (As.map (gM n)):: .box g 138 [sl A n cap]:: .own A 135 4 n cap (L.flatMap bG)::Z) (fun i=>i≤n) (fun i=>n - i) 0 (Pb _) sB mS ?_
 rintro i hi
 by_cases hlt:i<n
 ·
  refine bW (A:=A) pK (by omega) fun gl hA=> ?_
  subst hA
  have hli:i<L.length:=by omega
  have hai:=jz hli
  have hoke:=hR.en L[i] (PG hli)
  have hT:=fun (r:Rct) (H' :List Blk) (hs:MSub R H') (w' :World) (hm:Mem w0 w' H')=>jx L[i] r w' (hoke.uses _ w' (hs.use hm)) (by have:=hoke.ul;omega)
  have htk:=fun k (h:k<l.length)=>DM (k:=k) (hki i hli) h
  rw [hui i hli] at htk
  generalize L[i]=e at hai hoke hT htk
  repeat' (first|refine sT ?_|refine sS ?_|refine sN ?_|refine sM fun _=> ?_|(refine sC ?_ ?_<;>intro hb<;>try omega)|exact cT|fail)
  all_goals try (exfalso;omega)
  refine ax [0,1,5,6,7,8] rfl (fun k:Nat=> [(9,.int .i64 (k:Int))]) (fun k=> .own (some g6) 4 1 n n (aX n (eY G l i k)):: .own (some g7) 4 1 n n (aX n (qi G l 0)):: .own A5 124 1 n c5 (As.map (gM n)):: .box g 138 [sl (some gl) n cap]:: .own (some gl) 135 4 n cap (L.flatMap bG)::Z) (fun k=>k≤l.length) (fun k=>l.length - k) 0 (Pb _) sB mS ?_
  rintro k hk
  by_cases hlk:k<l.length
  ·
   refine MG (m:=l.length) (fun w hm=>hrd _ w (MSub.trans (hBZ _) mS) hm) (by omega) fun gr or cr hlv=> ?_
   cases hlv
   have hcel: ∀ H w',MSub (.box g 138 [sl (some gl) n cap]:: .own (some gl) 135 4 n cap (L.flatMap bG)::R) H→Mem w0 w' H→Cells w' gr or (l.flatMap aH):=fun H w' hs hm=>Dk (hrd H w' hs hm) (by omega)
   have hrk:((l.flatMap aH).drop (k*4)).take 4=aH l[k]:=cK cY l k hlk
   have htk' :=htk k hlk
   have hck:=dV (f:=eY G l i k) hlt
   rw [GS] at hck
   have hset:=j6 (n:=n) (f:=eY G l i k) (k:=i) (v:=dH G (l.take (k+1)) i)
   rw [Bh] at hset
   generalize l[k]=r at hrk htk'
   have hTr:=hT r
   generalize aG e.uses r=q at hTr htk'
   generalize dH G (l.take (k+1)) i=pq at htk' hset
   generalize dH G (l.take k) i=pv at hck htk'
   subst htk'
   repeat' (first|refine sT ?_|refine sS ?_|refine sN ?_|refine sM fun _=> ?_|(refine sC ?_ ?_<;>intro hb<;>try omega)|exact cT|fail)
   all_goals try (exfalso;omega)
   refine kW (id:=9) 21 (.own (some g6) 4 1 n n (aX n (eY G l i (k+1))):: .own (some g7) 4 1 n n (aX n (qi G l 0)):: .own A5 124 1 n c5 (As.map (gM n)):: .box g 138 [sl (some gl) n cap]:: .own (some gl) 135 4 n cap (L.flatMap bG)::Z) (by kernel_rfl) (by kernel_rfl) rfl ?_
   cases pv
   ·
    rw [Bool.false_or] at hset
    repeat' (first|(apply gh (f:=60) (d:=45);exact rfl;decide+kernel;exact rfl;apply ag (j:=i);exact rfl;exact rfl;exact hlt)|(apply gh (f:=60) (d:=46);exact rfl;decide+kernel;exact rfl;apply aC;exact rfl;exact pK;exact hck)|(apply iQ (f:=60);(iterate 3 exact rfl);decide+kernel;exact rfl;apply iR;exact rfl)|(apply iQ (f:=60) (d:=49);(iterate 3 exact rfl);decide+kernel;exact rfl;apply dr;exact rfl)|(apply iQ (f:=60) (d:=50);(iterate 3 exact rfl);decide+kernel;exact rfl;apply kY;exact rfl)|(apply iQ (f:=60) (d:=51);(iterate 3 exact rfl);decide+kernel;exact rfl;apply kq;exact rfl;exact pK;exact rfl)|(apply iQ (f:=60) (d:=53);(iterate 3 exact rfl);decide+kernel;exact rfl;apply ag (j:=i);exact rfl;exact rfl;exact hlt)|(apply iQ (f:=60) (d:=54);(iterate 3 exact rfl);decide+kernel;exact rfl;apply az (ys:=bG e);exact rfl;exact pK;exact hai;exact rfl)|(apply iQ (f:=60) (d:=57);(iterate 3 exact rfl);decide+kernel;exact rfl;apply ag (j:=k);exact rfl;exact rfl;exact hlk)|(apply iQ (f:=60) (d:=58);(iterate 3 exact rfl);decide+kernel;exact rfl;apply uI;(intro w' hm;exact hcel _ w' (MSub.trans (hBZ _) mS) hm);exact rfl;exact hrk;exact rfl)|(apply Dz (f' :=76) (f:=60);(iterate 3 exact rfl);decide+kernel;exact rfl;exact rfl;(intro w' hm;exact hTr _ (MSub.trans hRZ mS) w' hm))|(apply gh (f:=60) (d:=61);exact rfl;decide+kernel;exact rfl;apply ag (j:=i);exact rfl;exact rfl;exact hlt)|(apply jr (g:=g6);exact rfl;exact rfl;exact pK;exact rfl;(rw [gZ];omega);(rw [hset];exact MSub.refl _))|refine sT ?_|refine sS ?_|refine sG ?_|refine sM fun _=> ?_|(refine sC ?_ ?_<;>intro hb<;>try omega)|exact cT|fail)
    repeat' (first|refine sT ?_|refine sS ?_|refine sN ?_|refine sM fun _=> ?_|(refine sC ?_ ?_<;>intro hb<;>try omega)|exact cT|fail)
    all_goals first
     |(exfalso;omega)
     |(refine ⟨k+1,hlk,by omega,by exact sB,by exact sB,by exact mS⟩;done)
     |trace_state
   ·
    rw [SG] at hset
    repeat' (first|(apply gh (f:=60) (d:=45);exact rfl;decide+kernel;exact rfl;apply ag (j:=i);exact rfl;exact rfl;exact hlt)|(apply gh (f:=60) (d:=46);exact rfl;decide+kernel;exact rfl;apply aC;exact rfl;exact pK;exact hck)|(apply FD;(iterate 5 exact rfl))|(apply gh (f:=60) (d:=61);exact rfl;decide+kernel;exact rfl;apply ag (j:=i);exact rfl;exact rfl;exact hlt)|(apply jr (g:=g6);exact rfl;exact rfl;exact pK;exact rfl;(rw [gZ];omega);(rw [hset];exact MSub.refl _))|refine sT ?_|refine sS ?_|refine sG ?_|refine sM fun _=> ?_|(refine sC ?_ ?_<;>intro hb<;>try omega)|exact cT|fail)
    repeat' (first|refine sT ?_|refine sS ?_|refine sN ?_|refine sM fun _=> ?_|(refine sC ?_ ?_<;>intro hb<;>try omega)|exact cT|fail)
    all_goals first
     |(exfalso;omega)
     |(refine ⟨k+1,hlk,by omega,by exact sB,by exact sB,by exact mS⟩;done)
     |trace_state
  ·
   have hk2:k=l.length:=by omega
   subst hk2
   rw [Bi]
   repeat' (first|refine sT ?_|refine sS ?_|refine sN ?_|refine sM fun _=> ?_|(refine sC ?_ ?_<;>intro hb<;>try omega)|exact cT|fail)
   all_goals first
    |(exfalso;omega)
    |(refine ⟨i+1,hlt,by omega,by exact sB,by exact sB,by exact mS⟩;done)
    |trace_state
 ·
  have hi2:i=n:=by omega
  subst hi2
  rw [Bj]
  have hng:bu G i=bu G G.length:=by rw [hGn]
  rw [hng] at hmat
  have hAs: ∀ b (h:b<i),(As.map (gM i))[0+b*1]? =some (gM i (As[b]'(by omega))):=fun b h=>by rw [Pn,QD,Pw,O5 (by omega)];rfl
  have hfin:=hBZ A
  repeat' (first|refine sT ?_|refine sS ?_|refine sN ?_|refine sM fun _=> ?_|(refine sC ?_ ?_<;>intro hb<;>try omega)|exact cT|fail)
  all_goals try (exfalso;omega)
  refine ax [0,5,6,7] rfl (fun b:Nat=> [(10,.int .i64 (b:Int))]) (fun b=> .own (some g7) 4 1 i i (aX i (qi G l b)):: .own (some g6) 4 1 i i (aX i (dH G l)):: .own A5 124 1 i c5 (As.map (gM i)):: .box g 138 [sl A i cap]:: .own A 135 4 i cap (L.flatMap bG)::Z) (fun b=>b≤i) (fun b=>i - b) 0 (Pb _) sB mS ?_
  rintro b hb0
  by_cases hlb:b<i
  ·
   refine bW (A:=A5) pK (by omega) fun g5 hA=> ?_
   subst hA
   have hub:=dV (f:=dH G l) hlb
   have hst:=j6 (n:=i) (f:=qi G l b) (k:=b) (v:=dH G l b)
   rw [Bk] at hst
   have hAb:=hAs b hlb
   have hmb:=hmat b hlb
   generalize hab:(As[b]'(by omega))=Ab at hAb hmb
   repeat' (first|(apply aj (d:=75);exact rfl;apply ag (j:=b);exact rfl;exact rfl;exact hlb)|(apply aj (d:=76);exact rfl;apply aC;exact rfl;exact pK;exact hub)|(apply aj (d:=77);exact rfl;apply ag (j:=b);exact rfl;exact rfl;exact hlb)|(apply dW (g:=g7);exact rfl;exact rfl;exact pK;exact rfl;(rw [gZ];omega);rw [hst])|refine sT ?_|refine sS ?_|refine sN ?_|refine sM fun _=> ?_|(refine sC ?_ ?_<;>intro hb<;>try omega)|exact cT|fail)
   all_goals try (exfalso;omega)
   refine ax [0,5,6,7,10] rfl (fun k:Nat=> [(11,.int .i64 (k:Int))]) (fun k=> .own (some g7) 4 1 i i (aX i (iI G l b k)):: .own (some g6) 4 1 i i (aX i (dH G l)):: .own (some g5) 124 1 i c5 (As.map (gM i)):: .box g 138 [sl A i cap]:: .own A 135 4 i cap (L.flatMap bG)::Z) (fun k=>k≤i) (fun k=>i - k) 0 (Pb _) sB mS ?_
   rintro k hk
   by_cases hlk:k<i
   ·
    have hpo:=dV (f:=iI G l b k) hlb
    have hqo:=dV (f:=bu G G.length b) hlk
    have hro:=dV (f:=dH G l) hlk
    have hin:In (.own (some Ab) 4 1 i i (aX i (bu G G.length b))) (.own (some g7) 4 1 i i (aX i (iI G l b k)):: .own (some g6) 4 1 i i (aX i (dH G l)):: .own (some g5) 124 1 i c5 (As.map (gM i)):: .box g 138 [sl A i cap]:: .own A 135 4 i cap (L.flatMap bG)::Z):= .tl (.tl (.tl (.tl (.tl (In.of_mem hmb)))))
    have hset:=j6 (n:=i) (f:=iI G l b k) (k:=b) (v:=iI G l b k b||(bu G G.length b k && dH G l k))
    rw [DP] at hset
    generalize iI G l b k b=pp at hpo hset
    generalize bu G G.length b k=qq at hqo hset
    generalize dH G l k=rr at hro hset
    cases pp<;>cases qq
    all_goals simp only [SG,Bool.false_or,PZ,Qa] at hset
    all_goals (
     repeat' (first|(apply aj (d:=91);exact rfl;apply ag (j:=b);exact rfl;exact rfl;exact hlb)|(apply aj (d:=92);exact rfl;apply aC;exact rfl;exact pK;exact hpo)|(apply aj (d:=96);exact rfl;apply ag (j:=b);exact rfl;exact rfl;omega)|(apply aj (d:=97);exact rfl;apply aC;exact rfl;exact pK;exact hAb)|(apply aj (d:=99);exact rfl;apply ag (j:=k);exact rfl;exact rfl;exact hlk)|(apply aj (d:=100);exact rfl;apply aC;exact rfl;exact hin;exact hqo)|(apply aj (d:=104);exact rfl;apply ag (j:=k);exact rfl;exact rfl;exact hlk)|(apply aj (d:=105);exact rfl;apply aC;exact rfl;exact pK;exact hro)|(apply aj (d:=108);exact rfl;apply ag (j:=b);exact rfl;exact rfl;exact hlb)|(apply dW (g:=g7);exact rfl;exact rfl;exact pK;exact rfl;(rw [gZ];omega);rw [hset])|refine sT ?_|refine sS ?_|refine sN ?_|refine sM fun _=> ?_|(refine sC ?_ ?_<;>intro hb<;>try omega)|exact cT|fail)
     )
    all_goals first
     |(exfalso;omega)
     |(refine ⟨k+1,hlk,by omega,by exact sB,by exact sB,by exact mS⟩;done)
     |trace_state
   ·
    have hk2:k=i:=by omega
    subst hk2
    rw [show iI G l b k=iI G l b G.length by rw [hGn],DQ]
    repeat' (first|refine sT ?_|refine sS ?_|refine sN ?_|refine sM fun _=> ?_|(refine sC ?_ ?_<;>intro hb<;>try omega)|exact cT|fail)
    all_goals first
     |(exfalso;omega)
     |(refine ⟨b+1,hlb,by omega,by exact sB,by exact sB,by exact mS⟩;done)
     |trace_state
  ·
   have hb2:b=i:=by omega
   subst hb2
   rw [GV]
   have hend: ∀ (b1 b2 b3:Blk),MSub (b1:: .box g 138 [sl A b cap]:: .own A 135 4 b cap (L.flatMap bG)::R) (b1::b2::b3:: .box g 138 [sl A b cap]:: .own A 135 4 b cap (L.flatMap bG)::Z):=fun b1 b2 b3=>by
    have h1:MSub (b1:: .box g 138 [sl A b cap]:: .own A 135 4 b cap (L.flatMap bG)::R) (b1:: .box g 138 [sl A b cap]:: .own A 135 4 b cap (L.flatMap bG)::Z):=by
     obtain ⟨F,hp⟩:=hfin
     exact ⟨F,hp.cons _⟩
    exact MSub.trans h1 mS
   repeat' (first|refine sT ?_|refine sS ?_|refine sN ?_|refine sM fun _=> ?_|(refine sC ?_ ?_<;>intro hb<;>try omega)|exact cT|fail)
   all_goals first
    |(exfalso;omega)
    |(exact bK eIO rfl rfl (hend _ _ _) ⟨g7,rfl,rfl⟩)
    |trace_state
set_option maxHeartbeats 4000000 in
theorem Hy (g:Nat) (A:Option Nat) (cap:Nat) (L:List En) (G:Gr) (l:List Rct) (lv:Value) (R:List Blk) (w0:World) (hR:RGOk R L G) (hG:GrOk G) (hlen:L.length≤1000) (hll:l.length≤1000)
  (hrd: ∀ H w,MSub (rgB g A cap L++R) H→Mem w0 w H→Reads w lv l.length (l.flatMap aH)):
  FnIn Tryz.prog 12 [.pointer (some ⟨g,0,none⟩),lv] w0 (rgB g A cap L++R) fun v H=> ∃ A' c',v= .tuple #[sl A' (eP G l).length c',.int .i64 (aR [] l)]∧H= .own A' 24 2 (eP G l).length c' ((eP G l).flatMap aw)::(rgB g A cap L++R):=by
 refine bM Tryz.func12 rfl Tryz.ntmps12 rfl ?_
 have hck:=fun H w (hs:MSub (rgB g A cap L++R) H) (hm:Mem w0 w H)=>kQ g [] l (.slice none 0 0) lv w (eV w) (hrd H w hs hm) (by simp) (by omega)
 have hUp:=MP g A cap L G l lv R w0 hR hG hlen hll hrd
 have hSo:=fun gb=>Gj g A cap L gb (upT G l) R w0 hlen
 have hkl:(aq G).length=L.length:=by rw [← hR.keys,Ps]
 have hsu:=LB (G:=G) l
 rw [hkl,← hR.keys] at hsu
 rw [hsu] at hSo
 unfold eP
 refine aK 24 2 ?_
 by_cases hc0:aR [] l=0
 ·
  rw [if_pos hc0]
  rw [hc0] at hck ⊢
  repeat' (first|(apply aa (f:=56);exact rfl;exact rfl;(intro w' hm;exact hck _ w' mS hm))|(apply ak (f:=58);exact rfl;exact rfl;exact FnIn.msub hUp mS;rintro _ _ ⟨gb,rfl,rfl⟩)|(apply ak (f:=57);exact rfl;exact rfl;exact FnIn.msub (hSo gb) (by unfold rgB;simp only [O8,O3,O4];exact mS);rintro _ _ ⟨A5,c5,rfl,rfl⟩)|refine sT ?_|refine sS ?_|refine sM fun _=> ?_|(refine sC ?_ ?_<;>intro hb<;>try omega)|fail)
  all_goals first
   |(exfalso;omega)
   |(exact cN eIO rfl rfl rfl (by unfold rgB;simp only [O8,O3,O4];exact mS) ⟨A5,c5,rfl,rfl⟩)
   |trace_state
 ·
  rw [if_neg hc0]
  repeat' (first|(apply aa (f:=56);exact rfl;exact rfl;(intro w' hm;exact hck _ w' mS hm))|refine sT ?_|refine sS ?_|refine sM fun _=> ?_|(refine sC ?_ ?_<;>intro hb<;>try omega)|fail)
  all_goals first
   |(exfalso;omega)
   |(exact cN eIO rfl rfl rfl mS ⟨none,0,rfl,rfl⟩)
   |trace_state
theorem FT {n:Nat} {As:List Nat} (M:Nat→Nat→Bool) {i:Nat} (h:i<As.length) (b:Blk) (R:List Blk):MSub (iT n As[i] (M i)::b::R) (b::(R++fu n As M 0)):=by
 obtain ⟨Rs,hR,_⟩:=pU (n:=n) As M 0 i h
 have h1:=hR M fun _ _=>rfl
 rw [Pn] at h1
 have h2:(b::(R++fu n As M 0)).Perm ((iT n As[i] (M i)::b::R)++Rs):=
  (((h1.append_left R).trans QG).cons b).trans (List.Perm.swap _ _ _)
 first|exact ⟨Rs,h2⟩|exact ⟨Rs,h2.symm⟩
theorem MSub.cons2 {a b:Blk} {X Y:List Blk} (h:MSub X Y):MSub (a::b::X) (a::b::Y):=by
 obtain ⟨F,hp⟩:=h
 exact ⟨F,(hp.cons _).cons _⟩
theorem qN {L:List En} {a:Rf} {e:En} (h:dR L a=some e):e.at_=a:=by
 have:=Sg h
 simpa using this
theorem mU {R:List Blk} {L:List En} {G:Gr} (hR:RGOk R L G) {a:Rf} (h:dR L a=none):a∉aq G:=fun hm=>by
 rw [← hR.keys] at hm
 obtain ⟨e,he,h1⟩:=Py.1 hm
 have:=QV.1 h e he
 simp [h1] at this
theorem wP {G:Gr} {a:Rf} (h:a∉aq G):cZ G a= []:=Sq.2 fun d hd=>h (jZ.1 hd).2.key
set_option maxHeartbeats 4000000 in
theorem Hx (g:Nat) (A:Option Nat) (cap:Nat) (L:List En) (G:Gr) (c:Rf) (R:List Blk) (w0:World) (hR:RGOk R L G) (hG:GrOk G) (hlen:L.length≤1000):
  FnIn Tryz.prog 15 [.pointer (some ⟨g,0,none⟩),aO c] w0 (rgB g A cap L++R) fun v H=> ∃ A' c',v= .tuple #[sl A' (eO G c).length c',.int .i64 (aR [c] [])]∧H= .own A' 24 2 (eO G c).length c' ((eO G c).flatMap aw)::(rgB g A cap L++R):=by
 refine bM Tryz.func15 rfl Tryz.ntmps15 rfl ?_
 have hck:=fun w (v:Value) (hr:Reads w v 1 (aw c))=>kQ g [c] [] v (.slice none 0 0) w (by simpa using hr) (eV w) (by simp) (by simp)
 have hI:=fun (H' :List Blk) (hs:MSub (rgB g A cap L) H') (w' :World) (hm:Mem w0 w' H')=>jY g _ cap L c w' (RGm.of hs hm) (by omega)
 unfold eO
 refine aK 24 2 ?_
 by_cases hc0:aR [c] []=0
 ·
  rw [if_pos hc0]
  rw [hc0] at hck ⊢
  rcases gX L c with ⟨hidx,hf⟩|⟨i,hlt,hidx,hf⟩
  ·
   rw [hidx] at hI
   rw [wP (mU hR hf)]
   unfold rgB at hI ⊢
   simp only [O8,O3,O4] at hI ⊢
   repeat' (first|(apply aa (f:=56);exact rfl;exact rfl;(intro w' hm;exact hck w' _ (Reads.of_own (A:=some _) hm pK)))|(apply aa (f:=60);exact rfl;exact rfl;exact fun w' hm=>hI _ mS w' hm)|refine sT ?_|refine sS ?_|refine sM fun _=> ?_|(refine sC ?_ ?_<;>intro hb<;>try omega)|fail)
   all_goals first
    |(exfalso;omega)
    |(exact cN eIO rfl rfl rfl mS ⟨none,0,rfl,rfl⟩)
    |trace_state
  ·
   rw [hidx] at hI
   have hAll:=fun b:Blk=>Gm g A cap L G (b::R) w0 (hR.sub (MSub.drop .hd (MSub.refl _))) hG hlen
   have hki:(aq G)[i]? =some c:=by
    rw [← hR.keys,Pw,O5 hlt,Qb,qN hf]
   have hsa:=Jq hki
   have hkl:(aq G).length=L.length:=by rw [← hR.keys,Ps]
   rw [hkl,← hR.keys,← hR.len] at hsa
   have hSo:=fun b gb=>Gj g A cap L gb (bu G L.length i) (b::R) w0 hlen
   rw [hsa] at hSo
   have hIr:=hI
   unfold rgB at hI hAll hSo ⊢
   simp only [O8,O3,O4] at hI hAll hSo ⊢
   repeat' (first|(apply aa (f:=56);exact rfl;exact rfl;(intro w' hm;exact hck w' _ (Reads.of_own (A:=some _) hm pK)))|(apply aa (f:=60);exact rfl;exact rfl;exact fun w' hm=>hI _ mS w' hm)|refine sT ?_|refine sS ?_|refine sM fun _=> ?_|(refine sC ?_ ?_<;>intro hb<;>try omega)|fail)
   all_goals try (exfalso;omega)
   rename_i g3 gq
   refine fj (id:=6) [2,5,8] [7] [.box g3 24 (aw c)] (by kernel_rfl) (by kernel_rfl) (by kernel_rfl) mS ?_
   repeat' (first|(apply ak (f:=61);exact rfl;exact rfl;exact FnIn.msub (hAll (.box g3 24 (aw c))) mS;rintro _ _ ⟨A5,c5,As,hA5,hAl,rfl,rfl⟩;obtain ⟨g5,rfl⟩:=hA5 (by omega))|(apply aa (f:=60);exact rfl;exact rfl;exact fun w' hm=>hI _ mS w' hm)|(apply ep (d:=24);(iterate 3 exact rfl);apply ag (j:=i);exact rfl;exact rfl;exact hlt)|(apply NQ (d:=25);(iterate 4 exact rfl);apply aC;exact rfl;exact pK;(rw [Pn,QD,Pw,O5 (show i<As.length by omega)];exact rfl))|(apply ak (f:=57);exact rfl;exact rfl;exact FnIn.msub (hSo (.box g3 24 (aw c)) _) (MSub.trans (MSub.cons2 (FT (bu G L.length) (show i<As.length by omega) _ R)) mS);rintro _ _ ⟨A7,c7,rfl,rfl⟩)|refine sT ?_|refine sS ?_|refine sW ?_|refine sM fun _=> ?_|(refine sC ?_ ?_<;>intro hb<;>try omega)|(refine sCW ?_ ?_<;>intro hb<;>try omega)|fail)
   all_goals first
    |(exfalso;omega)
    |(exact cN eIO rfl rfl rfl mS ⟨A7,c7,rfl,rfl⟩)
    |trace_state
 ·
  rw [if_neg hc0]
  unfold rgB
  simp only [O8,O3,O4]
  repeat' (first|(apply aa (f:=56);exact rfl;exact rfl;(intro w' hm;exact hck w' _ (Reads.of_own (A:=some _) hm pK)))|refine sT ?_|refine sS ?_|refine sM fun _=> ?_|(refine sC ?_ ?_<;>intro hb<;>try omega)|fail)
  all_goals first
   |(exfalso;omega)
   |(exact cN eIO rfl rfl rfl mS ⟨none,0,rfl,rfl⟩)
   |trace_state
theorem EB {G:Gr} {a b:Rf} (h:a∉aq G):jD G a b=false:=by
 cases hr:jD G a b
 ·
  rfl
 ·
  rw [← yA,decide_eq_true_eq] at hr
  exact absurd (C0 (b:=b) hr) h
theorem Nm {G:Gr} {a b:Rf} {i:Nat} (h:(aq G)[i]? =some a):upT G [bB b.col b.row] i=jD G a b:=by
 rw [← yA,PN,FM h,decide_eq_true_eq,oO]
 constructor
 ·
  rintro ⟨r,hr,hc⟩;rw [← Pv.1 hr];exact hc
 ·
  intro hc;exact ⟨_,Pv.2 rfl,hc⟩
set_option maxHeartbeats 4000000 in
theorem BZ (g:Nat) (A:Option Nat) (cap:Nat) (L:List En) (G:Gr) (a b:Rf) (R:List Blk) (w0:World) (hR:RGOk R L G) (hG:GrOk G) (hlen:L.length≤1000):
  FnIn Tryz.prog 20 [.pointer (some ⟨g,0,none⟩),aO a,aO b] w0 (rgB g A cap L++R) fun v H=>v= .tuple #[.bool (eR G a b),.int .i64 (aR [a,b] [])]∧H=rgB g A cap L++R:=by
 refine bM Tryz.func20 rfl Tryz.ntmps20 rfl ?_
 have hck:=fun w (v:Value) (hr:Reads w v 2 (aw a++aw b))=>kQ g [a,b] [] v (.slice none 0 0) w (by simpa using hr) (eV w) (by simp) (by simp)
 have hI:=fun (H' :List Blk) (hs:MSub (rgB g A cap L) H') (w' :World) (hm:Mem w0 w' H')=>jY g _ cap L a w' (RGm.of hs hm) (by omega)
 unfold eR
 by_cases hc0:aR [a,b] []=0
 ·
  rw [decide_eq_true hc0,PZ]
  rw [hc0] at hck ⊢
  rcases gX L a with ⟨hidx,hf⟩|⟨i,hlt,hidx,hf⟩
  ·
   rw [hidx] at hI
   rw [EB (mU hR hf)]
   unfold rgB at hI ⊢
   simp only [O8,O3,O4] at hI ⊢
   repeat' (first|(apply aa (f:=56);exact rfl;exact rfl;(intro w' hm;exact hck w' _ (Reads.of_own (A:=some _) hm pK)))|(apply aa (f:=60);exact rfl;exact rfl;exact fun w' hm=>hI _ mS w' hm)|refine sT ?_|refine sS ?_|refine sM fun _=> ?_|(refine sC ?_ ?_<;>intro hb<;>try omega)|fail)
   all_goals first
    |(exfalso;omega)
    |(exact cN eIO rfl rfl rfl mS ⟨rfl,rfl⟩)
    |trace_state
  ·
   rw [hidx] at hI
   have hki:(aq G)[i]? =some a:=by
    rw [← hR.keys,Pw,O5 hlt,Qb,qN hf]
   have hUp:=fun gs=>MP g A cap L G [bB b.col b.row] (.slice (some ⟨gs,0,none⟩) 1 1) (.own (some gs) 53 4 1 1 (aH (bB b.col b.row))::R) w0 (hR.sub (MSub.drop .hd (MSub.refl _))) hG hlen (by simp) (fun H w hs hm=>by
    have h1:=Reads.of_own (A:=some gs) (hs.use hm) (.tl (.tl .hd))
    simpa [sl] using h1)
   have hun:=dV (f:=upT G [bB b.col b.row]) hlt
   rw [Nm hki] at hun
   unfold rgB at hI hUp ⊢
   unfold iT at hUp
   simp only [O8,O3,O4] at hI hUp ⊢
   repeat' (first|(apply aa (f:=56);exact rfl;exact rfl;(intro w' hm;exact hck w' _ (Reads.of_own (A:=some _) hm pK)))|(apply aa (f:=60);exact rfl;exact rfl;exact fun w' hm=>hI _ mS w' hm)|(apply aa (f:=71);exact rfl;exact rfl;(intro w' hm;exact dE _ w'))|(apply ak (f:=58);exact rfl;exact rfl;exact FnIn.msub (hUp _) mS;rintro _ _ ⟨gb,rfl,rfl⟩)|(apply aj (d:=30);exact rfl;apply ag (j:=i);exact rfl;exact rfl;exact hlt)|(apply aj (d:=31);exact rfl;apply aC;exact rfl;exact pK;exact hun)|refine sT ?_|refine sS ?_|refine sM fun _=> ?_|(refine sC ?_ ?_<;>intro hb<;>try omega)|fail)
   all_goals first
    |(exfalso;omega)
    |(exact cN eIO rfl rfl rfl mS ⟨rfl,rfl⟩)
    |trace_state
 ·
  rw [decide_eq_false hc0,Qa]
  unfold rgB
  simp only [O8,O3,O4]
  repeat' (first|(apply aa (f:=56);exact rfl;exact rfl;(intro w' hm;exact hck w' _ (Reads.of_own (A:=some _) hm pK)))|refine sT ?_|refine sS ?_|refine sM fun _=> ?_|(refine sC ?_ ?_<;>intro hb<;>try omega)|fail)
  all_goals first
   |(exfalso;omega)
   |(exact cN eIO rfl rfl rfl mS ⟨rfl,rfl⟩)
   |trace_state
end Go.SL
namespace Go.SL
open Go
def dZ (n:Nat) (f:Nat→Nat):List Value:=(List.range n).map fun k=> .int .i64 (f k:Int)
theorem Co (n:Nat) (f:Nat→Nat):(dZ n f).length=n:=by simp [dZ]
theorem nS {n:Nat} {f:Nat→Nat} {k:Nat} (h:k<n):(dZ n f)[0+k*1]? =some (.int .i64 (f k:Int)):=by
 unfold dZ
 rw [Pn,QD,Pw,RH h];rfl
theorem Cn {n:Nat} {f:Nat→Nat} {k v:Nat}:(dZ n f).set (0+k*1) (.int .i64 (v:Int))=dZ n (fun j=>if j=k then v else f j):=by
 rw [Pn,QD]
 apply RE
 intro j
 unfold dZ
 by_cases hj:j<n
 ·
  by_cases e:k=j
  ·
   subst e
   rw [List.getElem?_set_self (by simpa using hj),Pw,RH hj]
   simp
  ·
   rw [List.getElem?_set_ne e,Pw,Pw,RH hj]
   have e2: ¬ j=k:=fun h=>e h.symm
   simp [e2]
 ·
  rw [P5 (by simp;omega),P5 (by simp;omega)]
theorem gP {n:Nat} {f g:Nat→Nat} (h: ∀ k,k<n→f k=g k):dZ n f=dZ n g:=by
 unfold dZ
 exact Qw fun k hk=>by rw [h k (RX.1 hk)]
theorem HN (n:Nat):((List.range (n*1)).map fun i=> [Value.int .i64 0][i % [Value.int .i64 0].length]!)=dZ n fun _=>0:=by
 simp [dZ,Nat.mod_one]
def dT (G:Gr) (b:Rf) (m j:Nat):Nat:=match (aq G)[j]? with
 |some c=>bY G b m c
 |none=>0
def kU (G:Gr) (b:Rf) (m i j:Nat):Nat:=if j<i then dT G b (m+1) j else dT G b m j
def oV (G:Gr) (b:Rf) (m i k:Nat):Bool:=(List.range k).any fun a=>decide (dT G b m a=m) && kR G i a
def Dd (G:Gr) (b:Rf) (i:Nat):Bool:=match (aq G)[i]? with
 |some c=>aG (aD G c) (bB b.col b.row)
 |none=>false
section
variable {G:Gr} {b:Rf}
theorem Mj (j:Nat):dT G b 0 j=0:=by unfold dT;split<;>rfl
theorem z8 {m j:Nat} (h:dT G b m j≠0):dT G b (m+1) j=dT G b m j:=by
 unfold dT at*
 split at h
 ·
  rename_i c hc
  exact mf h
 ·
  exact absurd rfl h
theorem NK {m i:Nat} (hi:i<G.length) (h:dT G b m i=0):dT G b (m+1) i=if m=0 then (if Dd G b i then 1 else 0) else (if oV G b m i G.length then m+1 else 0):=by
 have hk:i<(aq G).length:=by rw [aq,Ps];exact hi
 have hkc:(aq G)[i]? =some (aq G)[i]:=O5 hk
 have hmem:=PG hk
 unfold dT at h ⊢
 rw [hkc] at h ⊢
 simp only at h ⊢
 rw [bY,if_neg (by omega)]
 by_cases hm:m=0
 ·
  subst hm
  rw [if_pos rfl]
  have e:wj G b (bY G b 0) 0 (aq G)[i]=Dd G b i:=by unfold wj Dd;rw [if_pos rfl,hkc]
  rw [e]
  cases Dd G b i<;>simp [hmem]
 ·
  rw [if_neg hm]
  have e:wj G b (bY G b m) m (aq G)[i]=oV G b m i G.length:=by
   unfold wj oV
   rw [if_neg hm,PN,Ql,Ql]
   constructor
   ·
    rintro ⟨d,hd,h1⟩
    rw [Pm,decide_eq_true_eq] at h1
    obtain ⟨a,ha,rfl⟩:=P1 hd
    have hac:(aq G)[a]? =some (aq G)[a]:=O5 ha
    refine ⟨a,RX.2 (by rw [aq,Ps] at ha;exact ha),?_⟩
    rw [Pm,decide_eq_true_eq]
    exact ⟨by unfold dT;rw [hac];exact h1.1,nH.2 ⟨_,_,hkc,hac,h1.2⟩⟩
   ·
    rintro ⟨a,ha,h1⟩
    rw [Pm,decide_eq_true_eq] at h1
    obtain ⟨c,d,h2,h3,h4⟩:=nH.1 h1.2
    rw [hkc] at h2
    cases h2
    refine ⟨d,Qs h3,?_⟩
    rw [Pm,decide_eq_true_eq]
    have h5:=h1.1
    unfold dT at h5
    rw [h3] at h5
    exact ⟨h5,h4⟩
  rw [e]
  cases oV G b m i G.length<;>simp [hmem]
theorem Ml {m i k:Nat} (hm:m≠0):(kU G b m i k=m)↔(dT G b m k=m):=by
 unfold kU
 split
 ·
  constructor
  ·
   intro h
   by_cases h0:dT G b m k=0
   ·
    exfalso
    have h1:dT G b (m+1) k=m:=h
    unfold dT at h1 h0
    split at h1
    ·
     rename_i c hc
     have h2:=(kL h1 hm).1
     rw [hc] at h0
     simp only at h0
     omega
    ·
     omega
   ·
    rw [z8 h0] at h;exact h
  ·
   intro h
   rw [z8 (by omega)];exact h
 ·
  exact Iff.rfl
theorem Il {m i k:Nat}:oV G b m i (k+1)=(oV G b m i k||(decide (dT G b m k=m) && kR G i k)):=by
 unfold oV
 rw [SP,List.any_append]
 simp
theorem yM {m i n:Nat} {v:Nat} (hv:v=dT G b (m+1) i):dZ n (fun j=>if j=i then v else kU G b m i j)=dZ n (kU G b m (i+1)):=gP fun j _=>by
 unfold kU
 by_cases e:j=i
 ·
  subst e;rw [if_pos rfl,if_pos (by omega)];exact hv
 ·
  rw [if_neg e]
  by_cases h:j<i
  ·
   rw [if_pos h,if_pos (by omega)]
  ·
   rw [if_neg h,if_neg (by omega)]
theorem Ij (m n:Nat):dZ n (kU G b m 0)=dZ n (dT G b m):=gP fun j _=>by unfold kU;rw [if_neg (by omega)]
theorem Ik (m n:Nat):dZ n (kU G b m n)=dZ n (dT G b (m+1)):=gP fun j h=>by unfold kU;rw [if_pos h]
end
end Go.SL

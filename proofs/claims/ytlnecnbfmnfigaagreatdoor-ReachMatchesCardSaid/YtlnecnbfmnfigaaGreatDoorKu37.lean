/-
  Lemmas and walks, put together: Rz Ry Xb.
-/
import Derived.Test.YtlnecnbfmnfigaaGreatDoorKu36
set_option linter.unusedSimpArgs false
set_option linter.unusedVariables false
set_option maxRecDepth 20000
namespace Go.SL
open Go Go.Proofs
attribute [local irreducible] W WL WQ WG WA WX WLI WR WT WC WE VOp RW thn blk bZ scp bA bV ck FnAt FnIn FnP ceP
theorem yL {G:Gr} {b:Rf} {m i n:Nat} (h:dT G b (m+1) i=dT G b m i):dZ n (kU G b m i)=dZ n (kU G b m (i+1)):=gP fun j _=>by
 unfold kU
 by_cases e:j=i
 ·
  subst e;rw [if_neg (by omega),if_pos (by omega)];exact h.symm
 ·
  by_cases h1:j<i
  ·
   rw [if_pos h1,if_pos (by omega)]
  ·
   rw [if_neg h1,if_neg (by omega)]
def jA (G:Gr) (b:Rf) (m i:Nat) (v:Nat):Nat→Nat:=fun j=>if j=i then v else kU G b m i j
theorem Ii {G:Gr} {b:Rf} {m i n:Nat} (h:dT G b m i=0):dZ n (kU G b m i)=dZ n (jA G b m i 0):=gP fun j _=>by
 unfold jA
 by_cases e:j=i
 ·
  subst e;rw [if_pos rfl];unfold kU;rw [if_neg (by omega)];exact h
 ·
  rw [if_neg e]
theorem Dc {G:Gr} {b:Rf} {m i n v w:Nat}:dZ n (fun j=>if j=i then w else jA G b m i v j)=dZ n (jA G b m i w):=gP fun j _=>by
 unfold jA
 by_cases e:j=i
 ·
  rw [if_pos e,if_pos e]
 ·
  rw [if_neg e,if_neg e,if_neg e]
theorem Ko {G:Gr} {b:Rf} {m i v k:Nat} (hm:m≠0) (h:dT G b m i=0) (hv:v=0∨v=m+1):(jA G b m i v k=m)↔(dT G b m k=m):=by
 unfold jA
 by_cases e:k=i
 ·
  subst e
  rw [if_pos rfl,h]
  rcases hv with rfl|rfl<;>omega
 ·
  rw [if_neg e];exact Ml hm
set_option maxHeartbeats 8000000 in
theorem LJ (g:Nat) (A:Option Nat) (cap:Nat) (L:List En) (G:Gr) (b:Rf) (R:List Blk) (w0:World) (hR:RGOk R L G) (hG:GrOk G) (hlen:L.length≤900):
    FnIn Tryz.prog 75 [.pointer (some ⟨g,0,none⟩),aO b] w0 (rgB g A cap L++R) fun v H=> ∃ gd,v= .slice (some ⟨gd,0,none⟩) L.length L.length∧H= .own (some gd) 3 1 L.length L.length (dZ L.length (dT G b (G.length+1)))::(rgB g A cap L++R):=by
  refine bM Tryz.func75 rfl Tryz.ntmps75 rfl ?_
  have hGn:=hR.len
  have htch:=fun i k hi hk=>zr (i:=i) (k:=k) hR hG hi hk
  have hki: ∀ j (hj:j<L.length),(aq G)[j]? =some L[j].at_:=fun j hj=>by
    rw [← hR.keys,Pw,O5 hj];rfl
  have hui: ∀ j (hj:j<L.length),aD G L[j].at_=L[j].uses:=fun j hj=>by
    have hm:L[j].abs∈G:=by rw [← hR.rel];exact Py.2 ⟨L[j],PG hj,rfl⟩
    exact fK hG.sort hm
  have hone: ∀ j (hj:j<L.length),Dd G b j=aG L[j].uses (bB b.col b.row):=fun j hj=>by
    unfold Dd;rw [hki j hj];simp only;rw [hui j hj]
  unfold rgB
  simp only [O8,O3,O4]
  generalize hn:L.length=n at hlen hGn ⊢
  repeat' (first|(apply mA (c:=n);(iterate 3 exact rfl);omega;(simp only [maxLen];omega);intro gd)|refine sT ?_|refine sS ?_|refine sM fun _=> ?_|(refine sC ?_ ?_<;>intro hb<;>try omega)|fail)
  rename_i g3
  refine zj (.own (some gd) 3 1 n n (dZ n (dT G b 0)):: .box g3 24 (aw b):: .box g 138 [sl A n cap]:: .own A 135 4 n cap (L.flatMap bG)::R) (by rw [show dZ n (dT G b 0)=dZ n (fun _=>0) from gP fun j _=>Mj j,← HN];exact mS) ?_
  refine ax [0,3,5] rfl (fun m:Nat=> [(6,.int .i64 ((m+1:Nat):Int))]) (fun m=> .own (some gd) 3 1 n n (dZ n (dT G b m)):: .box g3 24 (aw b):: .box g 138 [sl A n cap]:: .own A 135 4 n cap (L.flatMap bG)::R) (fun m=>m≤n+1) (fun m=>n+1 - m) 0 (Pb _) sB mS ?_
  rintro m hm
  by_cases hlm:m<n+1
  · repeat' (first|refine sT ?_|refine sS ?_|refine sN ?_|refine sM fun _=> ?_|(refine sC ?_ ?_<;>intro hb<;>try omega)|fail)
    all_goals try (exfalso;omega)
    rw [← Ij (m:=m)]
    refine ax [0,3,5,6] rfl (fun i:Nat=> [(7,.int .i64 (i:Int))]) (fun i=> .own (some gd) 3 1 n n (dZ n (kU G b m i)):: .box g3 24 (aw b):: .box g 138 [sl A n cap]:: .own A 135 4 n cap (L.flatMap bG)::R) (fun i=>i≤n) (fun i=>n - i) 0 (Pb _) sB mS ?_
    rintro i hi
    by_cases hlt:i<n
    · refine bW (A:=A) pK (by omega) fun gl hA=> ?_
      subst hA
      have hdi:=nS (f:=kU G b m i) hlt
      rw [show kU G b m i i=dT G b m i by unfold kU;rw [if_neg (by omega)]] at hdi
      by_cases hd0:dT G b m i=0
      · have hnew:=NK (b:=b) (m:=m) (i:=i) (by omega) hd0
        rw [hd0] at hdi
        have hli:i<L.length:=by omega
        have hai:=jz hli
        have hoke:=hR.en L[i] (PG hli)
        have hT:=fun (r:Rct) (H' :List Blk) (hs:MSub R H') (w' :World) (hm:Mem w0 w' H')=>jx L[i] r w' (hoke.uses _ w' (hs.use hm)) (by have:=hoke.ul;omega)
        have hTb:=hT (bB b.col b.row)
        rw [← hone i hli] at hTb
        have htk:=fun k (hk:k<L.length)=>htch i k hli hk
        generalize L[i]=e at hai hoke hT hTb htk
        rw [Ii hd0]
        by_cases hm0:m=0
        · subst hm0
          rw [if_pos rfl] at hnew
          have hset:=Cn (n:=n) (f:=jA G b 0 i 0) (k:=i) (v:=1)
          rw [Dc] at hset
          have hfin:dZ n (jA G b 0 i (if Dd G b i=true then 1 else 0))=dZ n (kU G b 0 (i+1)):=yM hnew.symm
          have hd1:=nS (f:=jA G b 0 i 0) hlt
          rw [show jA G b 0 i 0 i=0 by unfold jA;rw [if_pos rfl]] at hd1
          generalize hon:Dd G b i=on at hTb hfin
          have hset' :(dZ n (jA G b 0 i 0)).set (0+i*1) (.int .i64 1)=dZ n (jA G b 0 i 1):=hset
          clear hset
          have hset:=hset'
          have hjoin: ∀ v,v=(if on=true then 1 else 0)→dZ n (jA G b 0 i v)=dZ n (kU G b 0 (i+1)):=fun v hv=>by rw [hv];exact hfin
          cases on
          all_goals (
            repeat' (first|(apply aj (d:=36);exact rfl;apply ag (j:=i);exact rfl;exact rfl;exact hlt)|(apply aj (d:=37);exact rfl;apply aC;exact rfl;exact pK;exact hd1)|(apply dF (id:=9);kernel_rfl;kernel_rfl)|(apply aP (d:=47);exact rfl;apply ag (j:=i);exact rfl;exact rfl;exact hlt)|(apply aP (d:=48);exact rfl;apply az (ys:=bG e);exact rfl;exact pK;exact hai;exact rfl)|(apply bz (f:=71);exact rfl;exact rfl;(intro w' hm;exact dE _ w'))|(apply bz (f:=76);exact rfl;exact rfl;exact fun w' hm=>hTb _ mS w' hm)|(apply aj (d:=55);exact rfl;apply ag (j:=i);exact rfl;exact rfl;exact hlt)|(apply dW (g:=gd);exact rfl;exact rfl;exact pK;exact rfl;(rw [Co];omega);rw [hset])|refine sT ?_|refine sS ?_|refine sQ ?_|refine sN ?_|refine sNQ ?_|refine sD ?_|refine sM fun _=> ?_|(refine sC ?_ ?_<;>intro hb<;>try omega)|(refine sCQ ?_ ?_<;>intro hb<;>try omega)|fail)
            )
          all_goals try (exfalso;omega)
          · refine ax [0,3,5,6,7] rfl (fun k:Nat=> [(8,.int .i64 (k:Int))]) (fun _=> .own (some gd) 3 1 n n (dZ n (jA G b 0 i 0)):: .box g3 24 (aw b):: .box g 138 [sl (some gl) n cap]:: .own (some gl) 135 4 n cap (L.flatMap bG)::R) (fun k=>k≤n) (fun k=>n - k) 0 (Pb _) sB mS ?_
            rintro k hk
            by_cases hlk:k<n
            · repeat' (first|(apply dF (id:=14);kernel_rfl;kernel_rfl)|refine sT ?_|refine sS ?_|refine sQ ?_|refine sN ?_|refine sNQ ?_|refine sD ?_|refine sM fun _=> ?_|(refine sC ?_ ?_<;>intro hb<;>try omega)|(refine sCQ ?_ ?_<;>intro hb<;>try omega)|fail)
              all_goals first
                |(exfalso;omega)
                |(refine ⟨k+1,hlk,by omega,by exact sB,by exact sB,by exact mS⟩;done)
                |trace_state
            · rw [hjoin 0 rfl]
              repeat' (first|refine sT ?_|refine sS ?_|refine sN ?_|refine sM fun _=> ?_|(refine sC ?_ ?_<;>intro hb<;>try omega)|fail)
              all_goals first
                |(exfalso;omega)
                |(refine ⟨i+1,hlt,by omega,by exact sB,by exact sB,by exact mS⟩;done)
                |trace_state
          · refine ax [0,3,5,6,7] rfl (fun k:Nat=> [(8,.int .i64 (k:Int))]) (fun _=> .own (some gd) 3 1 n n (dZ n (jA G b 0 i 1)):: .box g3 24 (aw b):: .box g 138 [sl (some gl) n cap]:: .own (some gl) 135 4 n cap (L.flatMap bG)::R) (fun k=>k≤n) (fun k=>n - k) 0 (Pb _) sB mS ?_
            rintro k hk
            by_cases hlk:k<n
            · repeat' (first|(apply dF (id:=14);kernel_rfl;kernel_rfl)|refine sT ?_|refine sS ?_|refine sQ ?_|refine sN ?_|refine sNQ ?_|refine sD ?_|refine sM fun _=> ?_|(refine sC ?_ ?_<;>intro hb<;>try omega)|(refine sCQ ?_ ?_<;>intro hb<;>try omega)|fail)
              all_goals first
                |(exfalso;omega)
                |(refine ⟨k+1,hlk,by omega,by exact sB,by exact sB,by exact mS⟩;done)
                |trace_state
            · rw [hjoin 1 rfl]
              repeat' (first|refine sT ?_|refine sS ?_|refine sN ?_|refine sM fun _=> ?_|(refine sC ?_ ?_<;>intro hb<;>try omega)|fail)
              all_goals first
                |(exfalso;omega)
                |(refine ⟨i+1,hlt,by omega,by exact sB,by exact sB,by exact mS⟩;done)
                |trace_state
        · rw [if_neg hm0] at hnew
          have hd1:=nS (f:=jA G b m i 0) hlt
          rw [show jA G b m i 0 i=0 by unfold jA;rw [if_pos rfl]] at hd1
          repeat' (first|(apply aj (d:=36);exact rfl;apply ag (j:=i);exact rfl;exact rfl;exact hlt)|(apply aj (d:=37);exact rfl;apply aC;exact rfl;exact pK;exact hd1)|(apply dF (id:=9);kernel_rfl;kernel_rfl)|refine sT ?_|refine sS ?_|refine sQ ?_|refine sN ?_|refine sNQ ?_|refine sD ?_|refine sM fun _=> ?_|(refine sC ?_ ?_<;>intro hb<;>try omega)|(refine sCQ ?_ ?_<;>intro hb<;>try omega)|fail)
          all_goals try (exfalso;omega)
          refine ax [0,3,5,6,7] rfl (fun k:Nat=> [(8,.int .i64 (k:Int))]) (fun k=> .own (some gd) 3 1 n n (dZ n (jA G b m i (if oV G b m i k then m+1 else 0))):: .box g3 24 (aw b):: .box g 138 [sl (some gl) n cap]:: .own (some gl) 135 4 n cap (L.flatMap bG)::R) (fun k=>k≤n) (fun k=>n - k) 0 (Pb _) sB (by rw [show oV G b m i 0=false from rfl];exact mS) ?_
          rintro k hk
          by_cases hlk:k<n
          · have hlk' :k<L.length:=by omega
            have hsu:=Il (G:=G) (b:=b) (m:=m) (i:=i) (k:=k)
            have hck:=fT hlk'
            have htc:=htk k hlk'
            have hTk:=hT (bB L[k].at_.col L[k].at_.row)
            rw [← htc] at hTk
            generalize L[k]=d at hck hTk
            generalize kR G i k=tt at hTk hsu
            obtain ⟨v,hv⟩: ∃ v,v=(if oV G b m i k then m+1 else 0):=⟨_,rfl⟩
            have hv2:v=0∨v=m+1:=by rw [hv];split<;>simp
            have hgk:=nS (f:=jA G b m i v) hlk
            have hset:=Cn (n:=n) (f:=jA G b m i v) (k:=i) (v:=m+1)
            rw [Dc] at hset
            have hiff:=Ko (k:=k) hm0 hd0 hv2
            rw [← hv]
            have hsu2:oV G b m i (k+1)=(oV G b m i k||(decide (jA G b m i v k=m) && tt)):=by rw [hsu,decide_eq_decide.2 hiff]
            clear hsu hiff
            generalize jA G b m i v k=xx at hgk hsu2
            repeat' (first|(apply dF (id:=14);kernel_rfl;kernel_rfl)|(apply aP (d:=70);exact rfl;apply ag (j:=k);exact rfl;exact rfl;exact hlk)|(apply aP (d:=71);exact rfl;apply aC;exact rfl;exact pK;exact hgk)|(apply aP (d:=73);exact rfl;apply dX;exact rfl;exact rfl;omega;(simp only [maxLen];omega))|(apply aP (d:=82);exact rfl;apply ag (j:=i);exact rfl;exact rfl;exact hlt)|(apply aP (d:=83);exact rfl;apply az (ys:=bG e);exact rfl;exact pK;exact hai;exact rfl)|(apply aP (d:=89);exact rfl;apply ag (j:=k);exact rfl;exact rfl;exact hlk)|(apply aP (d:=91);exact rfl;apply az (ys:=aw d.at_);exact rfl;exact pK;exact hck;exact rfl)|(apply bz (f:=71);exact rfl;exact rfl;(intro w' hm;exact dE _ w'))|(apply bz (f:=76);exact rfl;exact rfl;exact fun w' hm=>hTk _ mS w' hm)|(apply aj (d:=98);exact rfl;apply ag (j:=i);exact rfl;exact rfl;exact hlt)|(apply dW (g:=gd);exact rfl;exact rfl;exact pK;exact rfl;(rw [Co];omega);rw [hset])|refine sT ?_|refine sS ?_|refine sQ ?_|refine sN ?_|refine sNQ ?_|refine sD ?_|refine sM fun _=> ?_|(refine sC ?_ ?_<;>intro hb<;>try omega)|(refine sCQ ?_ ?_<;>intro hb<;>try omega)|fail)
            all_goals first
              |(exfalso;omega)
              | (have h3 : oV G b m i (k + 1) = true := by
                   rw [hsu2,hb,decide_eq_true (show xx=m by omega)];simp
                 refine ⟨k+1,hlk,by omega,by exact sB,by exact sB,by rw [h3,if_pos rfl];exact mS⟩;done)
              | (have h3 : oV G b m i (k + 1) = oV G b m i k := by
                   rw [hsu2]
                   first
                     |(rw [decide_eq_false (show ¬ xx=m by omega)];simp;done)
                     |(rw [hb];simp;done)
                 refine ⟨k+1,hlk,by omega,by exact sB,by exact sB,by rw [h3,← hv];exact mS⟩;done)
              |trace_state
          · have hk2:k=n:=by omega
            subst hk2
            have hf:dZ k (jA G b m i (if oV G b m i k=true then m+1 else 0))=dZ k (kU G b m (i+1)):=yM (by rw [hnew,hGn])
            rw [hf]
            repeat' (first|refine sT ?_|refine sS ?_|refine sN ?_|refine sM fun _=> ?_|(refine sC ?_ ?_<;>intro hb<;>try omega)|fail)
            all_goals first
              |(exfalso;omega)
              |(refine ⟨i+1,hlt,by omega,by exact sB,by exact sB,by exact mS⟩;done)
              |trace_state
      · have hd1:dT G b (m+1) i=dT G b m i:=z8 hd0
        have hnz: ¬ ((dT G b m i:Nat):Int)≤0:=by omega
        rw [yL hd1]
        generalize dT G b m i=dv at hdi hnz
        rw [yL hd1] at hdi
        repeat' (first|(apply aj (d:=36);exact rfl;apply ag (j:=i);exact rfl;exact rfl;exact hlt)|(apply aj (d:=37);exact rfl;apply aC;exact rfl;exact pK;exact hdi)|refine sT ?_|refine sS ?_|refine sN ?_|refine sM fun _=> ?_|(refine sC ?_ ?_<;>intro hb<;>try omega)|fail)
        all_goals first
          |(exfalso;omega)
          |(refine ⟨i+1,hlt,by omega,by exact sB,by exact sB,by exact mS⟩;done)
          |trace_state
    · have hi2:i=n:=by omega
      subst hi2
      rw [Ik]
      repeat' (first|refine sT ?_|refine sS ?_|refine sN ?_|refine sM fun _=> ?_|(refine sC ?_ ?_<;>intro hb<;>try omega)|fail)
      all_goals first
        |(exfalso;omega)
        |(refine ⟨m+1,by omega,by omega,by exact sB,by exact sB,by exact mS⟩;done)
        |trace_state
  · have hm2:m=n+1:=by omega
    subst hm2
    rw [hGn]
    repeat' (first|refine sT ?_|refine sS ?_|refine sN ?_|refine sM fun _=> ?_|(refine sC ?_ ?_<;>intro hb<;>try omega)|fail)
    all_goals first
      |(exfalso;omega)
      |(exact bK eIO rfl rfl mS ⟨gd,rfl,rfl⟩)
      |trace_state
theorem Mk {G:Gr} {b c:Rf} {j:Nat} (h:(aq G)[j]? =some c):dT G b (G.length+1) j=dw G b c:=by unfold dT;rw [h];rfl
set_option maxHeartbeats 8000000 in
theorem JG (g:Nat) (A:Option Nat) (cap:Nat) (L:List En) (G:Gr) (a b:Rf) (R:List Blk) (w0:World) (hR:RGOk R L G) (hG:GrOk G) (hlen:L.length≤900):
    FnIn Tryz.prog 22 [.pointer (some ⟨g,0,none⟩),aO a,aO b] w0 (rgB g A cap L++R) fun v H=> ∃ A' c',v= .tuple #[sl A' (iw G a b).length c',.bool (o7 G a b),.int .i64 (aR [a,b] [])]∧H= .own A' 24 2 (iw G a b).length c' ((iw G a b).flatMap aw)::(rgB g A cap L++R):=by
  refine bM Tryz.func22 rfl Tryz.ntmps22 rfl ?_
  have hck:=fun w (v:Value) (hr:Reads w v 2 (aw a++aw b))=>kQ g [a,b] [] v (.slice none 0 0) w (by simpa using hr) (eV w) (by simp) (by simp)
  have hI:=fun (H' :List Blk) (hs:MSub (rgB g A cap L) H') (w' :World) (hm:Mem w0 w' H')=>jY g _ cap L a w' (RGm.of hs hm) (by omega)
  have hfar:=fun c:Blk=>fun d:Blk=>fun e:Blk=>LJ g A cap L G b (c::d::e::R) w0 (hR.sub (MSub.drop .hd (MSub.drop .hd (MSub.drop .hd (MSub.refl _))))) hG hlen
  have hGn:=hR.len
  have hki: ∀ j (hj:j<L.length),(aq G)[j]? =some L[j].at_:=fun j hj=>by
    rw [← hR.keys,Pw,O5 hj];rfl
  have hui: ∀ j (hj:j<L.length),aD G L[j].at_=L[j].uses:=fun j hj=>by
    have hm:L[j].abs∈G:=by rw [← hR.rel];exact Py.2 ⟨L[j],PG hj,rfl⟩
    exact fK hG.sort hm
  have hdg: ∀ j (hj:j<L.length),(dZ L.length (dT G b (G.length+1)))[0+j*1]? =some (.int .i64 (dw G b L[j].at_:Int)):=fun j hj=>by
    rw [nS hj,Mk (hki j hj)]
  unfold iw o7
  refine aK 24 2 ?_
  by_cases hc0:aR [a,b] []=0
  · rw [if_pos hc0]
    rw [hc0] at hck ⊢
    rw [decide_eq_true rfl,PZ]
    unfold FX
    rcases gX L a with ⟨hidx,hf⟩|⟨i0,hlt0,hidx,hf⟩
    · have h0:dw G b a=0:=Classical.byContradiction fun h=>mU hR hf (C0 h)
      rw [hidx] at hI
      rw [if_pos h0,decide_eq_false (fun h=>h h0)]
      unfold rgB at hI hfar ⊢
      simp only [O8,O3,O4] at hI hfar ⊢
      repeat' (first|(apply aa (f:=56);exact rfl;exact rfl;(intro w' hm;exact hck w' _ (Reads.of_own (A:=some _) hm pK)))|(apply ak (f:=75);exact rfl;exact rfl;exact FnIn.msub (hfar (.own none 24 2 0 0 []) (.box _ 24 (aw b)) (.box _ 24 (aw a))) mS;rintro _ _ ⟨gd,rfl,rfl⟩)|(apply aa (f:=60);exact rfl;exact rfl;exact fun w' hm=>hI _ mS w' hm)|refine sT ?_|refine sS ?_|refine sM fun _=> ?_|(refine sC ?_ ?_<;>intro hb<;>try omega)|fail)
      all_goals first
        |(exfalso;omega)
        |(exact kS eIO rfl rfl rfl rfl mS ⟨none,0,rfl,rfl⟩)
        |trace_state
    · have hat:=qN hf
      have hd0:=hdg i0 hlt0
      rw [hat] at hd0
      rw [hidx] at hI
      obtain ⟨N,hN⟩: ∃ N,dw G b a=N:=⟨_,rfl⟩
      have hfl:=uh G b a
      have hw:=AX (G:=G) (b:=b) N a
      rw [hN] at hd0 hfl ⊢
      unfold rgB at hI hfar ⊢
      simp only [O8,O3,O4] at hI hfar ⊢
      by_cases hN0:N=0
      · subst hN0
        rw [if_pos rfl,decide_eq_false (fun h=>h rfl)]
        repeat' (first|(apply aa (f:=56);exact rfl;exact rfl;(intro w' hm;exact hck w' _ (Reads.of_own (A:=some _) hm pK)))|(apply ak (f:=75);exact rfl;exact rfl;exact FnIn.msub (hfar (.own none 24 2 0 0 []) (.box _ 24 (aw b)) (.box _ 24 (aw a))) mS;rintro _ _ ⟨gd,rfl,rfl⟩)|(apply aa (f:=60);exact rfl;exact rfl;exact fun w' hm=>hI _ mS w' hm)|(apply aj (d:=35);exact rfl;apply ag (j:=i0);exact rfl;exact rfl;exact hlt0)|(apply aj (d:=36);exact rfl;apply aC;exact rfl;exact pK;exact hd0)|refine sT ?_|refine sS ?_|refine sM fun _=> ?_|(refine sC ?_ ?_<;>intro hb<;>try omega)|fail)
        all_goals first
          |(exfalso;omega)
          |(exact kS eIO rfl rfl rfl rfl mS ⟨none,0,rfl,rfl⟩)
          |trace_state
      · rw [if_neg hN0,decide_eq_true hN0]
        have hKl:(aq G).length=L.length:=by rw [aq,Ps,hGn]
        have hstp: ∀ n i (hi:i<L.length),dw G b L[i].at_=n+2→ ∃ j,∃ h:j<L.length,zJ G b (n+1) L[i].at_=some L[j].at_∧dw G b L[j].at_=n+1∧kR G i j=true∧ ∀ k (hk:k<L.length),k<j→(decide (dw G b L[k].at_=n+1) && kR G i k)=false:=fun n i hi hc=>by
          obtain ⟨d,h1,h2,h3,h4⟩:=uW hc (by omega)
          have h5:=h1
          unfold zJ at h5
          obtain ⟨h6,j,h7,rfl,h8⟩:=Sn.1 h5
          have hj:j<L.length:=by omega
          have hKj: ∀ k (hk:k<L.length),(aq G)[k]'(by omega)=L[k].at_:=fun k hk=>by
            have:=hki k hk
            rw [O5 (by omega)] at this
            exact Option.some.inj this
          rw [hKj j hj] at h1 h3 h4
          have htc: ∀ k (hk:k<L.length),kR G i k=aG (aD G L[i].at_) (bB L[k].at_.col L[k].at_.row):=fun k hk=>by unfold kR;rw [hki i hi,hki k hk]
          refine ⟨j,hj,h1,h3,by rw [htc j hj];exact h4,fun k hk hkj=> ?_⟩
          have:=h8 k hkj
          rw [hKj k hk] at this
          rw [htc k hk]
          rwa [RP] at this
        have htch:=fun i k hi hk=>zr (i:=i) (k:=k) hR hG hi hk
        repeat' (first|(apply aa (f:=56);exact rfl;exact rfl;(intro w' hm;exact hck w' _ (Reads.of_own (A:=some _) hm pK)))|(apply ak (f:=75);exact rfl;exact rfl;exact FnIn.msub (hfar (.own none 24 2 0 0 []) (.box _ 24 (aw b)) (.box _ 24 (aw a))) mS;rintro _ _ ⟨gd,rfl,rfl⟩)|(apply aa (f:=60);exact rfl;exact rfl;exact fun w' hm=>hI _ mS w' hm)|(apply aj (d:=35);exact rfl;apply ag (j:=i0);exact rfl;exact rfl;exact hlt0)|(apply aj (d:=36);exact rfl;apply aC;exact rfl;exact pK;exact hd0)|(apply aj (d:=43);exact rfl;apply ag (j:=i0);exact rfl;exact rfl;exact hlt0)|(apply aj (d:=44);exact rfl;apply aC;exact rfl;exact pK;exact hd0)|refine sT ?_|refine sS ?_|refine sM fun _=> ?_|(refine sC ?_ ?_<;>intro hb<;>try omega)|fail)
        all_goals try (exfalso;omega)
        rename_i g4 g5 gq g12
        refine ax [0,5,10] rfl (fun y:Nat × List Rf × Option Nat × Nat × Nat=> [(11,.int .i64 (y.1:Int)),(12,sl y.2.2.1 y.2.1.length y.2.2.2.1),(13,.int .i64 (y.2.2.2.2:Int))]) (fun y=> .own y.2.2.1 24 2 y.2.1.length y.2.2.2.1 (y.2.1.flatMap aw):: .own (some gd) 3 1 L.length L.length (dZ L.length (dT G b (G.length+1))):: .box g 138 [sl A L.length cap]:: .own A 135 4 L.length cap (L.flatMap bG):: .box g5 24 (aw b)::R) (fun y=>y.2.2.2.2≠0∧ ∃ h:y.1<L.length,dw G b L[y.1].at_=y.2.2.2.2∧w9 G b N a=y.2.1++(kv G b y.2.2.2.2 L[y.1].at_++ [b])) (fun y=>y.2.2.2.2) (i0,[a],some g12,1,N) ⟨hN0,hlt0,by dsimp only;rw [hat];exact hN,by dsimp only;rw [hat];rfl⟩ sB mS ?_
        rintro ⟨i,out,A9,c9,n⟩ ⟨hn0,hi,hdi,hway⟩
        dsimp only at hn0 hi hdi hway ⊢
        have hol:out.length≤1000:=by
          have:=congrArg List.length hway
          rw [O2] at this
          omega
        have hnl:=uh G b L[i].at_
        rw [hdi] at hnl
        by_cases hn1:n=1
        · subst hn1
          rw [xS,O4] at hway
          have hwl:(out++ [b]).length=out.length+1:=by simp
          rw [hway]
          repeat' (first|(apply bU;(iterate 3 exact rfl);(repeat first|exact .hd|apply Sel.tl|apply In.tl);(intro w hm;exact hm.cells_own (by (repeat first|exact .hd|apply Sel.tl|apply In.tl)));exact rfl;(simp [Value.oneCell',sl]);omega;(simp only [maxLen];omega);(intro A2 cap2 hA2))|refine sT ?_|refine sS ?_|refine sN ?_|refine sM fun _=> ?_|(refine sC ?_ ?_<;>intro hb<;>try omega)|fail)
          all_goals first
            |(exfalso;omega)
            | (refine kS eIO rfl rfl rfl rfl (H' := .own A2 24 2 (out.length + 1) cap2 (out.flatMap aw ++ aw b) :: .box g 138 [sl A L.length cap] :: .own A 135 4 L.length cap (L.flatMap bG) :: R) mS ⟨A2, cap2, by rw [hwl], ?_⟩
               rw [hwl,Pj,Pd,Pq,Pa])
            |trace_state
        · obtain ⟨n,rfl⟩: ∃ m,n=m+2:=⟨n - 2,by omega⟩
          obtain ⟨j,hj,hs1,hs2,hs3,hs4⟩:=hstp n i hi hdi
          have hway2:w9 G b N a=(out++ [L[j].at_])++(kv G b (n+1) L[j].at_++ [b]):=by
            rw [hway,show kv G b (n+2) L[i].at_=L[j].at_::kv G b (n+1) L[j].at_ by rw [kv,if_neg (by omega),hs1]]
            simp
          refine bW (A:=A) pK (by omega) fun gl hA=> ?_
          subst hA
          repeat' (first|refine sT ?_|refine sS ?_|refine sN ?_|refine sM fun _=> ?_|(refine sC ?_ ?_<;>intro hb<;>try omega)|fail)
          all_goals try (exfalso;omega)
          refine ax [0,5,10,11,12,13] rfl (fun y:Nat × Int=> [(15,.int .i64 (y.1:Int)),(14,.int .i64 y.2)]) (fun _=> .own A9 24 2 out.length c9 (out.flatMap aw):: .own (some gd) 3 1 L.length L.length (dZ L.length (dT G b (G.length+1))):: .box g 138 [sl (some gl) L.length cap]:: .own (some gl) 135 4 L.length cap (L.flatMap bG):: .box g5 24 (aw b)::R) (fun y=>(y.1≤j∧y.2= -1)∨(y.1=j+1∧y.2=(j:Int))) (fun y=>L.length - y.1) (0, -1) (.inl ⟨Pb _,rfl⟩) sB mS ?_
          rintro ⟨k,nx⟩ hk
          dsimp only at hk ⊢
          have hoke:=hR.en L[i] (PG hi)
          have hT:=fun (r:Rct) (H' :List Blk) (hs:MSub R H') (w' :World) (hm:Mem w0 w' H')=>jx L[i] r w' (hoke.uses _ w' (hs.use hm)) (by have:=hoke.ul;omega)
          rcases hk with ⟨hkj,rfl⟩|⟨rfl,rfl⟩
          · have hkl:k<L.length:=by omega
            have hgk:=hdg k hkl
            have hTk:=hT (bB L[k].at_.col L[k].at_.row)
            rw [← htch i k hi hkl] at hTk
            have hcase:(decide (dw G b L[k].at_=n+1) && kR G i k)=decide (k=j):=by
              by_cases hke:k=j
              · subst hke;rw [hs2,hs3];simp
              · rw [hs4 k hkl (by omega),decide_eq_false hke]
            generalize kR G i k=tt at hTk hcase
            generalize dw G b L[k].at_=dv at hgk hcase
            repeat' (first|(apply dF (id:=16);kernel_rfl;kernel_rfl)|(apply aP (d:=64);exact rfl;apply ag (j:=k);exact rfl;exact rfl;exact hkl)|(apply aP (d:=65);exact rfl;apply aC;exact rfl;exact pK;exact hgk)|(apply aP (d:=67);exact rfl;apply dX;exact rfl;exact rfl;omega;(simp only [maxLen];omega))|(apply aP (d:=75);exact rfl;apply ag (j:=i);exact rfl;exact rfl;exact hi)|(apply aP (d:=76);exact rfl;apply az (ys:=bG L[i]);exact rfl;exact pK;exact jz hi;exact rfl)|(apply aP (d:=82);exact rfl;apply ag (j:=k);exact rfl;exact rfl;exact hkl)|(apply aP (d:=84);exact rfl;apply az (ys:=aw L[k].at_);exact rfl;exact pK;exact fT hkl;exact rfl)|(apply bz (f:=71);exact rfl;exact rfl;(intro w' hm;exact dE _ w'))|(apply bz (f:=76);exact rfl;exact rfl;exact fun w' hm=>hTk _ mS w' hm)|refine sT ?_|refine sS ?_|refine sQ ?_|refine sN ?_|refine sNQ ?_|refine sD ?_|refine sM fun _=> ?_|(refine sC ?_ ?_<;>intro hb<;>try omega)|(refine sCQ ?_ ?_<;>intro hb<;>try omega)|fail)
            all_goals first
              |(exfalso;omega)
              | (have hj2 : k = j := by
                   rw [hb,decide_eq_true (show dv=n+1 by omega)] at hcase
                   simpa using hcase.symm
                 subst hj2
                 refine ⟨(k+1,(k:Int)),.inr ⟨rfl,rfl⟩,by dsimp only;omega,by exact sB,by exact sB,by exact mS⟩;done)
              | (have hj2 : ¬ k = j := fun e => by
                   rw [decide_eq_true e,Pm,decide_eq_true_eq] at hcase
                   first|omega|(rw [hcase.2] at hb;cases hb)
                 refine ⟨(k+1, -1),.inl ⟨by dsimp only;omega,rfl⟩,by dsimp only;omega,by exact sB,by exact sB,by exact mS⟩;done)
              |trace_state
          · have hcj:=fT hj
            have hnn: ¬ (j:Int)<0:=by omega
            repeat' (first|(apply aj (d:=96);exact rfl;apply ag (j:=j);exact rfl;exact rfl;exact hj)|(apply aj (d:=98);exact rfl;apply az (ys:=aw L[j].at_);exact rfl;exact pK;exact hcj;exact rfl)|(apply aj (d:=48);exact rfl;apply dX;exact rfl;exact rfl;omega;(simp only [maxLen];omega))|(apply bU;(iterate 3 exact rfl);(repeat first|exact .hd|apply Sel.tl|apply In.tl);(intro w hm;exact hm.cells_own (by (repeat first|exact .hd|apply Sel.tl|apply In.tl)));exact rfl;(simp [Value.oneCell',sl]);omega;(simp only [maxLen];omega);(intro A2 cap2 hA2))|refine sT ?_|refine sS ?_|refine sN ?_|refine sM fun _=> ?_|(refine sC ?_ ?_<;>intro hb<;>try omega)|fail)
            all_goals first
              |(exfalso;omega)
              | (refine ⟨(j, out ++ [L[j].at_], A2, cap2, n + 2 - 1), ⟨by dsimp only; omega, hj, hs2, hway2⟩, by dsimp only; omega, ?_, by exact sB, ?_⟩
                 · dsimp only;rw [List.length_append];exact sB
                 · dsimp only;rw [List.length_append,List.flatMap_append,List.flatMap_cons,List.flatMap_nil,List.append_nil];exact mS)
              |trace_state
  · rw [if_neg hc0,decide_eq_false hc0,Qa]
    unfold rgB
    simp only [O8,O3,O4]
    repeat' (first|(apply aa (f:=56);exact rfl;exact rfl;(intro w' hm;exact hck w' _ (Reads.of_own (A:=some _) hm pK)))|refine sT ?_|refine sS ?_|refine sM fun _=> ?_|(refine sC ?_ ?_<;>intro hb<;>try omega)|fail)
    all_goals first
      |(exfalso;omega)
      |(exact kS eIO rfl rfl rfl rfl mS ⟨none,0,rfl,rfl⟩)
      |trace_state
end Go.SL
namespace Go.SL
open Go Go.Proofs Go.Sort Go.Shelf
attribute [local irreducible] W WL WQ WG WA WX WLI WR WT WC WE VOp RW thn blk bZ scp bA bV ck FnAt FnIn FnP ceP
def xm (l:List Rct) (r:Rct) (k:Nat):List Rct:=l.take k++([r]++l.drop k)
theorem sY {l:List Rct} {r:Rct} {k:Nat} (hs:l.Pairwise fun x y=>ltC x y=true) (h1: ∀ x∈l.take k,ltC x r=true) (h2: ∀ x∈l.drop k,ltC r x=true):(xm l r k).Pairwise fun x y=>ltC x y=true:=by
 unfold xm
 rw [← PP k l] at hs
 obtain ⟨a1,a2,a3⟩:=QO.1 hs
 refine QO.2 ⟨a1,QO.2 ⟨List.pairwise_singleton _ _,a2,fun x hx y hy=> ?_⟩,fun x hx y hy=> ?_⟩
 ·
  rw [Pv.1 hx];exact h2 y hy
 ·
  rcases Pz.1 hy with hy|hy
  ·
   rw [Pv.1 hy];exact h1 x hx
  ·
   exact a3 x hx y hy
theorem Cp {l:List Rct} {r x:Rct} {k:Nat}:x∈xm l r k↔x=r∨x∈l:=by
 unfold xm
 rw [Pz,Pz,Pv]
 constructor
 ·
  rintro (h|h|h)
  ·
   exact .inr (P2 h)
  ·
   exact .inl h
  ·
   exact .inr (QA h)
 ·
  rintro (h|h)
  ·
   exact .inr (.inl h)
  ·
   rw [← PP k l,Pz] at h
   exact h.elim .inl fun h=> .inr (.inr h)
theorem qC {l:List Rct} {r:Rct} {k:Nat} (h:k≤l.length):0+k+1+(l.length - k)=(xm l r k).length:=by
 unfold xm;rw [O2,O2,Pr,Pp,O6];omega
theorem vD {l:List Rct} {r:Rct} {k:Nat}:(([]++(l.flatMap aH).take (k*4))++aH r)++((l.flatMap aH).drop (k*4)).take ((l.length - k)*4)=(xm l r k).flatMap aH:=by
 unfold xm
 have h4: ∀ m:List Rct,(m.flatMap aH).length=m.length*4:=aQ cY
 have e1:(l.take k).flatMap aH=(l.flatMap aH).take (k*4):=by
  rcases Nat.le_total k l.length with h|h
  ·
   conv=>rhs;rw [← PP k l,Pj]
   rw [SM (by rw [h4,Pr];congr 1;omega)]
  ·
   rw [PM h,PM (by rw [h4];omega)]
 have e2:(l.drop k).flatMap aH=(l.flatMap aH).drop (k*4):=by
  rcases Nat.le_total k l.length with h|h
  ·
   conv=>rhs;rw [← PP k l,Pj]
   rw [List.drop_left' (by rw [h4,Pr];congr 1;omega)]
  ·
   rw [PA h,PA (by rw [h4];omega)];rfl
 rw [Pj,Pj,e1,e2,PM (i:=(l.length - k)*4) (by rw [Pp,h4];omega),O4,Pg]
 simp
theorem yJ {l:List Rct} {r:Rct} {k:Nat} (hs:l.Pairwise fun x y=>ltC x y=true) (hk: ∀ h:k<l.length,ltC l[k] r=false∧l[k]≠r): ∀ x∈l.drop k,ltC r x=true:=fun x hx=>by
 by_cases h:k<l.length
 ·
  obtain ⟨h1,h2⟩:=hk h
  have h3:ltC r l[k]=true:=Cu h1 fun e=>h2 e.symm
  rw [Pf h] at hx
  rcases PF.1 hx with rfl|hx
  ·
   exact h3
  ·
   rw [← PP k l,Pf h] at hs
   have:=(Qn.1 (QO.1 hs).2.1).1 x hx
   exact sF.trans _ _ _ h3 this
 ·
  rw [RJ (by omega)] at hx;cases hx
set_option maxHeartbeats 8000000 in
theorem Nu (l:List Rct) (r:Rct) (A:Option Nat) (cap:Nat) (hl:l.length≤100000000) (hs:l.Pairwise fun x y=>ltC x y=true) (R:List Blk) (w0:World):
  FnIn Tryz.prog 67 [sl A l.length cap,.agg (aH r).toArray] w0 (.own A 53 4 l.length cap (l.flatMap aH)::R) fun v H=> ∃ (m:List Rct) (A' :Option Nat) (c' :Nat),(m.Pairwise fun x y=>ltC x y=true)∧(∀ x,x∈m↔x=r∨x∈l)∧m.length≤l.length+1∧v=sl A' m.length c' ∧H= .own A' 53 4 m.length c' (m.flatMap aH)::R:=by
 refine bM Tryz.func67 rfl Tryz.ntmps67 rfl ?_
 refine K6 (A:=A) .hd fun hle=> ?_
 repeat' (first|refine sT ?_|refine sS ?_|refine sM fun _=> ?_|(refine sC ?_ ?_<;>intro hb<;>try omega)|fail)
 rename_i g3
 refine ax [0,3] rfl (fun k:Nat=> [(5,.int .i64 (k:Int))]) (fun _=> .box g3 53 (aH r):: .own A 53 4 l.length cap (l.flatMap aH)::R) (fun k=>k≤l.length∧ ∀ x∈l.take k,ltC x r=true) (fun k=>l.length - k) 0 ⟨Pb _,by simp⟩ sB mS ?_
 rintro k ⟨hk,hpre⟩
 by_cases hlt:k<l.length
 ·
  refine bW (A:=A) pK (by omega) fun gl hA=> ?_
  subst hA
  have hrk:=Nr hlt
  have hls:=fun w=>HS l[k] r w
  obtain ⟨y,hy⟩: ∃ y,ltC l[k] r=y:=⟨_,rfl⟩
  rw [hy] at hls
  obtain ⟨c,hc⟩: ∃ c,decide (l[k]=r)=c:=⟨_,rfl⟩
  cases y with
  |true=>
   have hnx: ∀ x∈l.take (k+1),ltC x r=true:=fun x hx=>by
    rw [Po hlt,Pz,Pv] at hx
    rcases hx with hx|rfl
    ·
     exact hpre x hx
    ·
     exact hy
   generalize l[k]=e at hrk hls hc
   repeat' (first|(apply dF (id:=2);kernel_rfl;kernel_rfl)|(apply aP (d:=13);exact rfl;apply ag (j:=k);exact rfl;exact rfl;exact hlt)|(apply aP (d:=14);exact rfl;apply az (ys:=aH e);exact rfl;exact pK;exact hrk;exact rfl)|(apply bz (f:=125);exact rfl;exact rfl;(intro w' _;exact hls w'))|refine sT ?_|refine sS ?_|refine sQ ?_|refine sN ?_|refine sNQ ?_|refine sD ?_|refine sM fun _=> ?_|(refine sC ?_ ?_<;>intro hb<;>try omega)|(refine sCQ ?_ ?_<;>intro hb<;>try omega)|fail)
   all_goals first
    |(exfalso;omega)
    |(refine ⟨k+1,⟨hlt,hnx⟩,by omega,by exact sB,by exact sB,by exact mS⟩;done)
    |trace_state
  |false=>
   cases c with
   |true=>
    have he:l[k]=r:=by simpa using hc
    have hmem: ∀ x,x∈l↔x=r∨x∈l:=fun x=>⟨.inr,fun h=>h.elim (fun e=>by rw [e,← he];exact PG hlt) id⟩
    clear he
    generalize l[k]=e at hrk hls hc
    repeat' (first|(apply dF (id:=2);kernel_rfl;kernel_rfl)|(apply dF (id:=4);kernel_rfl;kernel_rfl)|(apply aP;exact rfl;apply ag (j:=k);exact rfl;exact rfl;exact hlt)|(apply aP;exact rfl;apply az (ys:=aH e);exact rfl;exact pK;exact hrk;exact rfl)|(apply bz (f:=125);exact rfl;exact rfl;(intro w' _;exact hls w'))|(apply aP (d:=30);exact rfl;apply oD hc;exact rfl;exact rfl)|refine sT ?_|refine sS ?_|refine sQ ?_|refine sN ?_|refine sNQ ?_|refine sD ?_|refine sM fun _=> ?_|(refine sC ?_ ?_<;>intro hb<;>try omega)|(refine sCQ ?_ ?_<;>intro hb<;>try omega)|fail)
    all_goals first
     |(exfalso;omega)
     |(exact bK eIO rfl rfl mS ⟨l,some gl,cap,hs,hmem,by omega,rfl,rfl⟩)
     |trace_state
   |false=>
    have hmore:=yJ (k:=k) hs fun _=>⟨hy,by simpa using hc⟩
    generalize l[k]=e at hrk hls hc
    repeat' (first|(apply dF (id:=2);kernel_rfl;kernel_rfl)|(apply dF (id:=4);kernel_rfl;kernel_rfl)|(apply aP;exact rfl;apply ag (j:=k);exact rfl;exact rfl;exact hlt)|(apply aP;exact rfl;apply az (ys:=aH e);exact rfl;exact pK;exact hrk;exact rfl)|(apply bz (f:=125);exact rfl;exact rfl;(intro w' _;exact hls w'))|(apply aP (d:=30);exact rfl;apply oD hc;exact rfl;exact rfl)|refine sT ?_|refine sS ?_|refine sQ ?_|refine sN ?_|refine sNQ ?_|refine sM fun _=> ?_|(refine sC ?_ ?_<;>intro hb<;>try omega)|(refine sCQ ?_ ?_<;>intro hb<;>try omega)|fail)
    all_goals try (exfalso;omega)
    have hlk:((l.flatMap aH).take (k*4)).length=k*4:=by rw [Pr,aQ cY l];omega
    have hld:(((l.flatMap aH).drop (k*4)).take ((l.length - k)*4)).length=(l.length - k)*4:=by rw [Pr,Pp,aQ cY l];omega
    have hok: ∀ u∈(l.flatMap aH).take (k*4),u.oneCell' =true:=fun u hu=>gY l u (P2 hu)
    have hod: ∀ u∈((l.flatMap aH).drop (k*4)).take ((l.length - k)*4),u.oneCell' =true:=fun u hu=>gY l u (QA (P2 hu))
    refine tV (id:=6) [0,4,6,7,11] [.box g3 53 (aH r),.own (some gl) 53 4 l.length cap (l.flatMap aH)] 13 rfl rfl mS ?_
    repeat' (first|(apply ic (i:=1);(iterate 4 exact rfl);decide+kernel;decide+kernel;decide+kernel;(apply iR;exact rfl))|(apply ic (i:=2);(iterate 4 exact rfl);decide+kernel;decide+kernel;decide+kernel;(apply iR;exact rfl))|(apply ic (i:=3);(iterate 4 exact rfl);decide+kernel;decide+kernel;decide+kernel;(apply ry (hi:=k);exact rfl;exact rfl;omega))|(apply ic (i:=5);(iterate 4 exact rfl);decide+kernel;decide+kernel;decide+kernel;(apply nn;exact rfl;exact .hd;exact rfl))|(apply ic (i:=8);(iterate 4 exact rfl);decide+kernel;decide+kernel;decide+kernel;(apply iR;exact rfl))|(apply ic (i:=9);(iterate 4 exact rfl);decide+kernel;decide+kernel;decide+kernel;(apply iR;exact rfl))|(apply ic (i:=10);(iterate 4 exact rfl);decide+kernel;decide+kernel;decide+kernel;(apply jd (lo:=k) (hi:=l.length);exact rfl;exact ⟨_,rfl⟩;exact rfl;omega;exact hle))|(apply ic (i:=12);(iterate 4 exact rfl);decide+kernel;decide+kernel;decide+kernel;(apply nz;exact rfl))|(apply pG (i:=0) (j:=6);(iterate 6 exact rfl);decide+kernel)|(apply pG (i:=4) (j:=6);(iterate 6 exact rfl);decide+kernel)|(apply fB (i:=0);(iterate 3 exact rfl);decide+kernel)|(apply fB (i:=4);(iterate 3 exact rfl);decide+kernel)|(apply fB (i:=6);(iterate 3 exact rfl);decide+kernel)|(apply fB (i:=7);(iterate 3 exact rfl);decide+kernel)|(apply fB (i:=11);(iterate 3 exact rfl);decide+kernel)|(apply cG;exact rfl;intro gb)|(apply lB (vs:= [.agg (aH r).toArray]) (xs:=aH r);(iterate 7 exact rfl);intro gc)|(apply cB (n' :=0) (c:=0) (A:=some _) (m:=k);(iterate 3 exact rfl);exact pK;(intro w hm;exact Reads.of_own_take hm pK hk);exact hlk;exact hok;omega;(simp only [maxLen];omega);intro A1 c1 hA1)|(apply cB (n' :=0+k) (A:=A1) (m:=1);(iterate 3 exact rfl);exact pK;(intro w hm;exact Reads.of_own (A:=some _) hm pK);exact rfl;(intro u hu;exact gY [r] u (by simpa using hu));omega;(simp only [maxLen];omega);intro A2 c2 hA2)|(apply cB (n' :=0+k+1) (A:=A2) (m:=l.length - k);(iterate 3 exact rfl);exact pK;(intro w hm;exact (Reads.of_own hm pK).cut hk (Ph _));exact hld;exact hod;omega;(simp only [maxLen];omega);intro A3 c3 hA3)|(apply tT;decide+kernel)|(apply Ks;(focus (exact mS;done)))|refine sT ?_|refine sS ?_|refine sM fun _=> ?_|(refine sC ?_ ?_<;>intro hb<;>try omega)|fail)
    all_goals first
     |(exfalso;omega)
     |(rw [vD,qC hk];exact bK eIO rfl rfl mS ⟨xm l r k,A3,c3,sY hs hpre hmore,fun x=>Cp,by rw [← qC hk];omega,rfl,rfl⟩)
     |trace_state
 ·
  have hk2:k=l.length:=by omega
  have hmore:=yJ (k:=k) (r:=r) hs fun h=>absurd h hlt
  repeat' (first|(apply dF (id:=2);kernel_rfl;kernel_rfl)|(apply dF (id:=4);kernel_rfl;kernel_rfl)|refine sT ?_|refine sS ?_|refine sQ ?_|refine sN ?_|refine sNQ ?_|refine sM fun _=> ?_|(refine sC ?_ ?_<;>intro hb<;>try omega)|(refine sCQ ?_ ?_<;>intro hb<;>try omega)|fail)
  all_goals try (exfalso;omega)
  have hlk:((l.flatMap aH).take (k*4)).length=k*4:=by rw [Pr,aQ cY l];omega
  have hld:(((l.flatMap aH).drop (k*4)).take ((l.length - k)*4)).length=(l.length - k)*4:=by rw [Pr,Pp,aQ cY l];omega
  have hok: ∀ u∈(l.flatMap aH).take (k*4),u.oneCell' =true:=fun u hu=>gY l u (P2 hu)
  have hod: ∀ u∈((l.flatMap aH).drop (k*4)).take ((l.length - k)*4),u.oneCell' =true:=fun u hu=>gY l u (QA (P2 hu))
  refine tV (id:=6) [0,4,6,7,11] [.box g3 53 (aH r),.own A 53 4 l.length cap (l.flatMap aH)] 13 rfl rfl mS ?_
  repeat' (first|(apply ic (i:=1);(iterate 4 exact rfl);decide+kernel;decide+kernel;decide+kernel;(apply iR;exact rfl))|(apply ic (i:=2);(iterate 4 exact rfl);decide+kernel;decide+kernel;decide+kernel;(apply iR;exact rfl))|(apply ic (i:=3);(iterate 4 exact rfl);decide+kernel;decide+kernel;decide+kernel;(apply ry (hi:=k);exact rfl;exact rfl;omega))|(apply ic (i:=5);(iterate 4 exact rfl);decide+kernel;decide+kernel;decide+kernel;(apply nn;exact rfl;exact .hd;exact rfl))|(apply ic (i:=8);(iterate 4 exact rfl);decide+kernel;decide+kernel;decide+kernel;(apply iR;exact rfl))|(apply ic (i:=9);(iterate 4 exact rfl);decide+kernel;decide+kernel;decide+kernel;(apply iR;exact rfl))|(apply ic (i:=10);(iterate 4 exact rfl);decide+kernel;decide+kernel;decide+kernel;(apply jd (lo:=k) (hi:=l.length);exact rfl;exact ⟨_,rfl⟩;exact rfl;omega;exact hle))|(apply ic (i:=12);(iterate 4 exact rfl);decide+kernel;decide+kernel;decide+kernel;(apply nz;exact rfl))|(apply pG (i:=0) (j:=6);(iterate 6 exact rfl);decide+kernel)|(apply pG (i:=4) (j:=6);(iterate 6 exact rfl);decide+kernel)|(apply fB (i:=0);(iterate 3 exact rfl);decide+kernel)|(apply fB (i:=4);(iterate 3 exact rfl);decide+kernel)|(apply fB (i:=6);(iterate 3 exact rfl);decide+kernel)|(apply fB (i:=7);(iterate 3 exact rfl);decide+kernel)|(apply fB (i:=11);(iterate 3 exact rfl);decide+kernel)|(apply cG;exact rfl;intro gb)|(apply lB (vs:= [.agg (aH r).toArray]) (xs:=aH r);(iterate 7 exact rfl);intro gc)|(apply cB (n' :=0) (c:=0) (A:=some _) (m:=k);(iterate 3 exact rfl);exact pK;(intro w hm;exact Reads.of_own_take hm pK hk);exact hlk;exact hok;omega;(simp only [maxLen];omega);intro A1 c1 hA1)|(apply cB (n' :=0+k) (A:=A1) (m:=1);(iterate 3 exact rfl);exact pK;(intro w hm;exact Reads.of_own (A:=some _) hm pK);exact rfl;(intro u hu;exact gY [r] u (by simpa using hu));omega;(simp only [maxLen];omega);intro A2 c2 hA2)|(apply cB (n' :=0+k+1) (A:=A2) (m:=l.length - k);(iterate 3 exact rfl);exact pK;(intro w hm;exact (Reads.of_own hm pK).cut hk (Ph _));exact hld;exact hod;omega;(simp only [maxLen];omega);intro A3 c3 hA3)|(apply tT;decide+kernel)|(apply Ks;(focus (exact mS;done)))|refine sT ?_|refine sS ?_|refine sM fun _=> ?_|(refine sC ?_ ?_<;>intro hb<;>try omega)|fail)
  all_goals first
   |(exfalso;omega)
   |(rw [vD,qC hk];exact bK eIO rfl rfl mS ⟨xm l r k,A3,c3,sY hs hpre hmore,fun x=>Cp,by rw [← qC hk];omega,rfl,rfl⟩)
   |trace_state
end Go.SL

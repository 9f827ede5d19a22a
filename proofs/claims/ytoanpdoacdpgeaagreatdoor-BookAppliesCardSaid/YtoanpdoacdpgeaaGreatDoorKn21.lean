/-
  Lemmas and walks, put together: Hh.
-/
import Derived.Test.YtoanpdoacdpgeaaGreatDoorKn16
set_option linter.unusedSimpArgs false
set_option linter.unusedVariables false
set_option maxRecDepth 20000
namespace Go.SL
open Go Go.Proofs
attribute [local irreducible] W WL WQ WG WA WX WLI WR WT WC WE VOp RW thn blk bE scp ba bo bL aP FnIn FnP ceP
--
def dc (p:Int × Int):List Value:= [.int .i64 p.1,.int .i64 p.2]
theorem jf (p:Int × Int):(dc p).length=2:=rfl
theorem AF (lo:Int) (ps:List (Int × Int)) (p:Int × Int):cZ lo (ps++ [p])=cZ lo ps++ [p.1,p.2+1]:=by
 unfold cZ;simp
def nQ (lo hi x:Int):Bool:=decide (lo≤x) && decide (x≤hi)
theorem EY {l:List Int} {h x:Int} (hl:l≠ []):((dE l h).flatMap dc).set (0+((dE l h).length - 1)*2+1) (cX (x - 1))=(dE l (x - 1)).flatMap dc:=by
 obtain ⟨f,a,h1,h2⟩:=zx l h (x - 1) hl
 rw [h1,h2]
 simp only [Nt,Na,Nh,OU,Np,NE,Nl,dc]
 rw [Pp _ _ (by rw [aK jf];omega),aK jf]
 congr 1
 rw [show 0+f.length*2+1 - f.length*2=1 by omega]
 rfl
set_option maxHeartbeats 8000000 in
theorem AG (lo hi:Int) (ps:List (Int × Int)) (lv:Value) (w:World) (hl:Reads w lv ps.length (ps.flatMap dc)) (hn:ps.length≤100000) (hlo:0≤lo∧lo≤100000) (hhi:0≤hi∧hi≤100000) (hps: ∀ p∈ps,0≤p.1∧p.1≤100000∧0≤p.2∧p.2≤100000):
    aP Tryz.prog 182 [.int .i64 lo,.int .i64 hi,lv] w fun v H=> ∃ A cap,v=sl A (cB lo hi ps).length cap∧H= [.own A 189 2 (cB lo hi ps).length cap ((cB lo hi ps).flatMap dc)]:=by
  obtain ⟨Al,cl,rfl,hl1,hl2,hl3⟩:=hl
  refine aq Tryz.func182 rfl Tryz.ntmps182 rfl ?_
  repeat' (first|refine sT ?_|refine sS ?_|refine sT2 ?_|refine sM fun _=> ?_|(refine sC ?_ ?_<;>intro hb<;>try omega)|fail)
  rename_i gb
  refine ax [0,1,15,16] rfl (fun y:Nat × Option Nat × Nat=> [(7,sl y.2.1 (1+2*y.1) y.2.2),(17,.int .i64 (y.1:Int))]) (fun y=> [.own y.2.1 3 1 (1+2*y.1) y.2.2 ((cZ lo (ps.take y.1)).map cX)]) (fun y=>y.1≤ps.length) (fun y=>ps.length - y.1) (0,some gb,1) (Ns _) sB mS ?_
  rintro ⟨i,A,c⟩ hi0
  dsimp only at hi0 ⊢
  by_cases hlt:i<ps.length
  · obtain ⟨gl,ol,rfl,hrl⟩:=hl3 (by omega)
    have he1:=hrl.elem jf i hlt
    have hbs:cZ lo (ps.take (i+1))=cZ lo (ps.take i)++ [ps[i].1,ps[i].2+1]:=by rw [Nk hlt,AF]
    have hpb:=hps _ (NW hlt)
    generalize ps[i]=p at he1 hbs hpb
    repeat' (first|(apply bA (A:=A) (m:=2);(iterate 3 exact rfl);exact pK;(intro w hm;exact hm.cells_own pK);exact rfl;(simp [Value.oneCell',sl]);omega;(simp only [maxLen];omega);(intro A' cap' hA'))|refine sT ?_|refine sS ?_|refine sT2 ?_|refine sN ?_|refine sJ ?_|refine sO ?_|refine sM fun _=> ?_|(refine sC ?_ ?_<;>intro hb<;>try omega)|fail)
    all_goals first
      |(exfalso;omega)
      | (refine ⟨(i + 1, A', cap'), hlt, by dsimp only; omega, by exact sB, by exact sB, ?_⟩
         dsimp only
         rw [hbs,Ok]
         exact mS)
      |trace_state
  · have e:i=ps.length:=by omega
    subst e
    rw [N0]
    have hbl:=qM lo ps
    have hs1:=fun (R:List Blk)=>yS (cZ lo ps) A c (by omega) R w
    have hsl:(iM (cZ lo ps)).length=1+2*ps.length:=by rw [(gR _).length_eq,hbl]
    have hs2:=fun (R:List Blk)=>AX (iM (cZ lo ps)) A c (by omega) R w
    rw [hbl] at hs1
    rw [hsl] at hs2
    have hcl:=um (iM (cZ lo ps))
    rw [hsl] at hcl
    have hcut:ui lo hi ps=(fO (iM (cZ lo ps))).filter (nQ lo hi):=rfl
    have hbd: ∀ x∈fO (iM (cZ lo ps)),0≤x∧x≤100001:=fun x hx=>by
      rw [lT,(gR _).mem_iff,cZ,NA,NU] at hx
      rcases hx with rfl|⟨p,hp,hx⟩
      · omega
      · have:=hps p hp
        simp at hx
        omega
    unfold cB
    rw [hcut]
    generalize fO (iM (cZ lo ps))=C at hs2 hcl hbd
    refine aD 189 2 ?_
    repeat' (first|(apply aw (f:=230);exact rfl;exact rfl;exact FnIn.msub (hs1 _) (MSub.pick pK (MSub.refl _));rintro _ _ ⟨rfl,rfl⟩)|(apply aw (f:=231);exact rfl;exact rfl;exact FnIn.msub (hs2 _) (MSub.pick pK (MSub.refl _));rintro _ _ ⟨rfl,rfl⟩)|refine sT ?_|refine sS ?_|refine sT2 ?_|refine sN ?_|refine sM fun _=> ?_|(refine sC ?_ ?_<;>intro hb<;>try omega)|fail)
    all_goals try (exfalso;omega)
    refine ax [0,1,33,34] rfl (fun y:Nat × Option Nat × Nat=> [(10,sl y.2.1 (dE ((C.take y.1).filter (nQ lo hi)) hi).length y.2.2),(35,.int .i64 (y.1:Int))]) (fun y=> [.own y.2.1 189 2 (dE ((C.take y.1).filter (nQ lo hi)) hi).length y.2.2 ((dE ((C.take y.1).filter (nQ lo hi)) hi).flatMap dc),.own A 3 1 C.length c (C.map cX)]) (fun y=>y.1≤C.length) (fun y=>C.length - y.1) (0,none,0) (Ns _) sB mS ?_
    rintro ⟨k,A2,c2⟩ hk
    dsimp only at hk ⊢
    by_cases hlk:k<C.length
    · refine eG (A:=A) pK (by omega) fun gc hA=> ?_
      subst hA
      have hrd:(C.map cX)[0+k*1]? =some (.int .i64 C[k]):=G5 hlk
      have hxb:=hbd _ (NW hlk)
      have hfs:(C.take (k+1)).filter (nQ lo hi)=if nQ lo hi C[k]=true then (C.take k).filter (nQ lo hi)++ [C[k]] else (C.take k).filter (nQ lo hi):=by
        rw [Nk hlk,PW]
        cases h:nQ lo hi C[k]<;>simp [h]
      have hfl:((C.take k).filter (nQ lo hi)).length≤300000:=Nz (Pb _ _) (by rw [Nu];omega)
      generalize hx:C[k]=x at hrd hxb hfs
      generalize hF:(C.take k).filter (nQ lo hi)=Fk at hfs hfl
      have hpl:=kQ hi Fk
      by_cases hin:lo≤x∧x≤hi
      · have hin2:nQ lo hi x=true:=by simp [nQ,hin.1,hin.2]
        rw [if_pos hin2] at hfs
        have hsn:=jE x hi Fk
        rw [← hfs] at hsn
        have hpl2:=kQ (x - 1) Fk
        by_cases h0:Fk= []
        · subst h0
          rw [show dE [] (x - 1)= [] from rfl,Ng] at hsn
          repeat' (first|(apply ak (d:=37);exact rfl;apply aj (j:=k);exact rfl;exact rfl;exact hlk)|(apply ak (d:=38);exact rfl;apply bN;exact rfl;exact pK;exact hrd)|(apply ak;exact rfl;apply mB;(iterate 5 exact rfl))|(apply bA (A:=A2) (m:=1);(iterate 3 exact rfl);exact pK;(intro w hm;exact hm.cells_own pK);exact rfl;(simp [Value.oneCell',sl]);omega;(simp only [maxLen];omega);(intro A' cap' hA'))|refine sT ?_|refine sS ?_|refine sT2 ?_|refine sN ?_|refine sJ ?_|refine sO ?_|refine sM fun _=> ?_|(refine sC ?_ ?_<;>intro hb<;>try omega)|fail)
          all_goals first
            |(exfalso;omega)
            | (refine ⟨(k + 1, A', cap'), hlk, by dsimp only; omega, ?_, by exact sB, ?_⟩
               · dsimp only;rw [hsn];exact sB
               · dsimp only;rw [hsn];exact mS)
            |trace_state
        · have hpos:0<Fk.length:=OM.2 h0
          have hset:=EY (h:=hi) (x:=x) h0
          rw [hpl] at hset
          refine eG (A:=A2) pK (by omega) fun g2 hA=> ?_
          subst hA
          rw [hpl]
          repeat' (first|(apply ak (d:=37);exact rfl;apply aj (j:=k);exact rfl;exact rfl;exact hlk)|(apply ak (d:=38);exact rfl;apply bN;exact rfl;exact pK;exact hrd)|(apply ak (d:=53);exact rfl;apply dG (a:=Fk.length);exact rfl;exact rfl;omega;(simp only [maxLen];omega))|(apply ak (d:=56);exact rfl;apply aj (j:=Fk.length - 1);exact rfl;exact rfl;omega)|(apply dQ (v:=cX (x - 1)) (off:=0+(Fk.length - 1)*2+1);exact rfl;exact rfl;exact pK;exact rfl;(rw [aK jf,hpl];omega);rw [hset])|(apply ak;exact rfl;apply mB;(iterate 5 exact rfl))|(apply bA (A:=some g2) (m:=1);(iterate 3 exact rfl);exact pK;(intro w hm;exact hm.cells_own pK);exact rfl;(simp [Value.oneCell',sl]);omega;(simp only [maxLen];omega);(intro A' cap' hA'))|refine sT ?_|refine sS ?_|refine sT2 ?_|refine sN ?_|refine sJ ?_|refine sO ?_|refine sM fun _=> ?_|(refine sC ?_ ?_<;>intro hb<;>try omega)|fail)
          all_goals first
            |(exfalso;omega)
            | (refine ⟨(k + 1, A', cap'), hlk, by dsimp only; omega, ?_, by exact sB, ?_⟩
               · dsimp only;rw [hsn,List.length_append,hpl2];exact sB
               · dsimp only;rw [hsn,List.length_append,hpl2,List.flatMap_append];exact mS)
            |trace_state
      · have hin2: ¬ nQ lo hi x=true:=by simp only [nQ,Nm,decide_eq_true_eq];exact hin
        rw [if_neg hin2] at hfs
        repeat' (first|(apply ak (d:=37);exact rfl;apply aj (j:=k);exact rfl;exact rfl;exact hlk)|(apply ak (d:=38);exact rfl;apply bN;exact rfl;exact pK;exact hrd)|refine sT ?_|refine sS ?_|refine sT2 ?_|refine sN ?_|refine sJ ?_|refine sO ?_|refine sM fun _=> ?_|(refine sC ?_ ?_<;>intro hb<;>try omega)|fail)
        all_goals first
          |(exfalso;omega)
          | (refine ⟨(k + 1, A2, c2), hlk, by dsimp only; omega, ?_, by exact sB, ?_⟩
             · dsimp only;rw [hfs];exact sB
             · dsimp only;rw [hfs];exact mS)
          |trace_state
    · have e:k=C.length:=by omega
      subst e
      rw [N0]
      repeat' (first|refine sT ?_|refine sS ?_|refine sT2 ?_|refine sM fun _=> ?_|(refine sC ?_ ?_<;>intro hb<;>try omega)|fail)
      all_goals first
        |(exfalso;omega)
        |(exact cG eIO rfl rfl mS ⟨A2,c2,rfl,rfl⟩)
        |trace_state
end Go.SL

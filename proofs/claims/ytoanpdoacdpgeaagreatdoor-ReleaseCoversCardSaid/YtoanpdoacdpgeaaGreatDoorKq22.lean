/-
  Lemmas and walks, put together: R9 R10 Q8 R11 R12.
-/
import Derived.Test.YtoanpdoacdpgeaaGreatDoorKq16
import Derived.Test.YtoanpdoacdpgeaaGreatDoorKq18
set_option linter.unusedSimpArgs false
set_option linter.unusedVariables false
set_option maxRecDepth 20000
namespace Go.SL
open Go Go.Proofs
attribute [local irreducible] W WL WQ WG WA WX WLI WR WT WC VOp RW thn blk bE scp aV bo bI aK FnIn FnP ceP
theorem nA {a:ByteArray} {i:Nat}:((ap a).drop i).headD 0=bat a i:=by
 by_cases h:i<a.size
 ·
  rw [bi h];rfl
 ·
  rw [qJ (by omega),iS (by omega)];rfl
theorem oN (a:ByteArray) (ha:a.size≤256) (i:Nat) (hi:i≤a.size) (w:World):ay Tryz.prog 318 [.string a,.int .i64 (i:Int)] w (.int .i64 ((i+aC cN ((ap a).drop i):Nat):Int)):=by
 refine aq Tryz.func318 rfl Tryz.ntmps318 rfl ?_
 have hl:=au a
 obtain ⟨X,hX⟩: ∃ X,i+aC cN ((ap a).drop i)=X:=⟨_,rfl⟩
 rw [hX]
 repeat' (first|refine sT ?_|refine sS ?_|refine sM fun _=> ?_|(refine sC ?_ ?_<;>intro hb<;>try omega)|fail)
 refine ax [0] rfl (fun j:Nat=> [(1,.int .i64 (j:Int))]) (fun _=> []) (fun j=>j≤a.size∧X=j+aC cN ((ap a).drop j)) (fun j=>a.size - j) i ⟨hi,hX.symm⟩ sB (.refl _) ?_
 rintro j ⟨hj,hx⟩
 have hL:=fun w=>lS a (by omega) j w
 have hD:=fun w=>mR a (by omega) j w
 by_cases hw:cN (bat a j)=true
 ·
  have hlt:j<a.size:=by
   rcases SR j a.size with h|h
   ·
    exact h
   ·
    rw [iS h] at hw;cases hw
  rw [gM hlt,if_pos hw] at hx
  obtain ⟨b1,hb1⟩: ∃ b,bV (bat a j)=b:=⟨_,rfl⟩
  obtain ⟨b2,hb2⟩: ∃ b,aF (bat a j)=b:=⟨_,rfl⟩
  rw [hb1] at hL;rw [hb2] at hD
  have h12:(b1||b2)=true:=by rw [← hb1,← hb2];exact hw
  cases b1<;>cases b2<;>first|(exact absurd h12 (by decide))|skip
  all_goals
   repeat' (first|(apply aa (f:=284);exact rfl;exact rfl;(intro w' hm;exact hL w'))|(apply aa (f:=281);exact rfl;exact rfl;(intro w' hm;exact hD w'))|refine sT ?_|refine sS ?_|refine sN ?_|refine sM fun _=> ?_|(refine sC ?_ ?_<;>intro hb<;>try omega)|fail)
   exact ⟨j+1,⟨hlt,by omega⟩,by omega,sB,sB,.nil _⟩
 ·
  have hr:aC cN ((ap a).drop j)=0:=by
   by_cases hlt:j<a.size
   ·
    rw [gM hlt,if_neg hw]
   ·
    rw [qJ (by omega)];rfl
  rw [hr,Ta] at hx
  subst hx
  have h1:bV (bat a X)=false:=by unfold cN at hw;revert hw;cases bV (bat a X)<;>simp
  have h2:aF (bat a X)=false:=by unfold cN at hw;revert hw;cases aF (bat a X)<;>simp
  rw [h1] at hL;rw [h2] at hD
  repeat' (first|(apply aa (f:=284);exact rfl;exact rfl;(intro w' hm;exact hL w'))|(apply aa (f:=281);exact rfl;exact rfl;(intro w' hm;exact hD w'))|(refine rT1 ?_)|refine sT ?_|refine sS ?_|refine sN ?_|refine sM fun _=> ?_|(refine sC ?_ ?_<;>intro hb<;>try omega)|fail)
  rfl
theorem p9 (a:ByteArray) (i W:Nat):ap (sub a i (i+W))=((ap a).drop i).take W:=by
 rw [dV];congr 1;omega
def PN (a:ByteArray) (i:Nat):Value:=
 if bV (bat a i)=false then .tuple #[.agg (bh ⟨0,0⟩).toArray,.int .i64 0,.bool false]
 else .tuple #[.agg (bh ⟨(cv (upW ((ap a).drop i))).1,(cv (upW ((ap a).drop i))).2.1⟩).toArray,.int .i64 ((i+aC cN ((ap a).drop i):Nat):Int),.bool (decide ((cv (upW ((ap a).drop i))).2.2=0∧bat a (i+aC cN ((ap a).drop i))≠40))]
set_option maxHeartbeats 1000000 in
theorem oP (a:ByteArray) (ha:a.size≤256) (i:Nat) (hi:i≤a.size) (w:World):ay Tryz.prog 319 [.string a,.int .i64 (i:Int)] w (PN a i):=by
 refine aq Tryz.func319 rfl Tryz.ntmps319 rfl ?_
 have hl:=au a
 have hL:=fun w=>lS a (by omega) i w
 have hW:=fun w=>oN a ha i hi w
 obtain ⟨W,hWe⟩: ∃ W,aC cN ((ap a).drop i)=W:=⟨_,rfl⟩
 have hWl:i+W≤a.size:=by
  have:=bY cN ((ap a).drop i)
  rw [Rk] at this
  omega
 have hP:=fun w=>D0 (sub a i (i+W)) (by rw [ck a (by omega)];omega) w
 rw [p9] at hP
 unfold PN
 rw [QB]
 rw [hWe] at hW ⊢
 obtain ⟨c,r,e,hA⟩: ∃ c r e,cv (((ap a).drop i).take W)=(c,r,e):=⟨_,_,_,rfl⟩
 rw [hA] at hP ⊢
 dsimp only at hP ⊢
 obtain ⟨b,hb⟩: ∃ b,bV (bat a i)=b:=⟨_,rfl⟩
 rw [hb] at hL ⊢
 have hout:a.size≤i+W→bat a (i+W)≠40:=fun h=>by rw [iS h];decide
 cases b with
 |false=>
  repeat' (first|(apply aa (f:=284);exact rfl;exact rfl;(intro w' hm;exact hL w'))|refine sT ?_|refine sS ?_|refine sT2 ?_|refine sN ?_|refine sM fun _=> ?_|(refine sC ?_ ?_<;>intro hb<;>try omega)|fail)
  all_goals ((refine cJ ?_);rfl)
 |true=>
  rw [if_neg (by simp)]
  repeat' (first|(apply aa (f:=284);exact rfl;exact rfl;(intro w' hm;exact hL w'))|(apply aa (f:=318);exact rfl;exact rfl;(intro w' hm;exact hW w'))|(apply aa (f:=344);exact rfl;exact rfl;(intro w' hm;exact hP w'))|(apply ak (d:=22);exact rfl;apply fF (lo:=i) (hi:=i+W);(iterate 3 exact rfl);exact ⟨by omega,by omega⟩)|(rename_i g4 g8;refine iL (id:=5) [16] [] [Blk.box g8 50 (bh ⟨c,r⟩)] (by kernel_rfl) (by kernel_rfl) (by kernel_rfl) mS ?_)|(apply da (d:=38);(iterate 3 exact rfl);apply aZ (j:=i+W);exact rfl;exact rfl;omega)|refine sT ?_|refine sS ?_|refine sW ?_|refine sT2 ?_|refine sW2 ?_|refine sN ?_|refine sWN ?_|refine sM fun _=> ?_|(refine sC ?_ ?_<;>intro hb<;>try omega)|(refine sCW ?_ ?_<;>intro hb<;>try omega)|fail)
  ·
   (refine cJ ?_)
   rw [decide_eq_true (show e=0∧bat a (i+W)≠40 from ⟨by assumption,hout (by omega)⟩)]
   rfl
  ·
   (refine cJ ?_)
   have he:e=0:=by assumption
   subst he
   simp only [true_and]
   rfl
  ·
   (refine cJ ?_)
   rw [decide_eq_false (show ¬ (e=0∧bat a (i+W)≠40) from fun h=>absurd h.1 (by assumption))]
   rfl
set_option maxHeartbeats 1000000 in
theorem DP (a:ByteArray) (ha:a.size≤256) (i:Nat) (hi:i<a.size) (hli:bV (bat a i)=true) (w:World):aK Tryz.prog 285 [.string a,.int .i64 (i:Int)] w fun v H=>H= []∧TokR i (gD ((ap a).drop i)) v:=by
  refine aq Tryz.func285 rfl Tryz.ntmps285 rfl ?_
  have hl:=au a
  have hW:=fun w=>oN a ha i (by omega) w
  obtain ⟨W,hWe⟩: ∃ W,aC cN ((ap a).drop i)=W:=⟨_,rfl⟩
  have hWl:i+W≤a.size:=by
    have:=bY cN ((ap a).drop i)
    rw [Rk] at this
    omega
  have hA1:=fun w=>oP a ha i (by omega) w
  have hA2:=fun (h:i+W<a.size) w=>oP a ha (i+W+1) h w
  have hU:=fun w=>j8 (sub a i (i+W)) (by rw [ck a (by omega)];omega) w
  obtain ⟨U,hUe⟩: ∃ U,upB (sub a i (i+W))=U:=⟨_,rfl⟩
  have hUm:mkB (upW ((ap a).drop i))=U:=by
    rw [← hUe,JO,hWe,← ll (upB _),qt,p9]
  have hl0:((ap a).drop i).headD 0=bat a i:=nA
  have hl1:(((ap a).drop i).drop W).headD 0=bat a (i+W):=by rw [Sw,nA]
  have hd2:((ap a).drop i).drop (W+1)=(ap a).drop (i+W+1):=by rw [Sw,SN]
  have hl2:((ap a).drop (i+W+1)).headD 0=bat a (i+W+1):=nA
  obtain ⟨W2,hW2⟩: ∃ W2,aC cN ((ap a).drop (i+W+1))=W2:=⟨_,rfl⟩
  have hl3:(((ap a).drop i).drop (W+1+W2)).headD 0=bat a (i+W+1+W2):=by rw [Sw,nA];congr 1;omega
  have hW2l:i+W<a.size→i+W+1+W2≤a.size:=fun h=>by
    have:=bY cN ((ap a).drop (i+W+1))
    rw [Rk] at this
    omega
  unfold gD
  unfold PN at hA1 hA2
  rw [hl0,hli,if_neg (by simp)]
  rw [hWe] at hW hA1 ⊢
  rw [hd2,hl1,hl2,hW2,hl3]
  rw [hli,if_neg (by simp)] at hA1
  rw [hW2] at hA2
  rw [hUm]
  rw [hUe] at hU
  obtain ⟨c1,r1,e1,hx1⟩: ∃ c r e,cv (upW ((ap a).drop i))=(c,r,e):=⟨_,_,_,rfl⟩
  obtain ⟨c2,r2,e2,hx2⟩: ∃ c r e,cv (upW ((ap a).drop (i+W+1)))=(c,r,e):=⟨_,_,_,rfl⟩
  rw [hx1] at hA1 ⊢
  rw [hx2] at hA2 ⊢
  dsimp only at hA1 hA2 ⊢
  have hout:a.size≤i+W→bat a (i+W)≠40∧bat a (i+W)≠58:=fun h=>by rw [iS h];decide
  by_cases h40:bat a (i+W)=40
  · rw [if_pos h40]
    have hlt:i+W<a.size:=by
      rcases SR (i+W) a.size with h|h
      · exact h
      · exact absurd h40 (hout h).1
    repeat' (first|(apply aa (f:=318);exact rfl;exact rfl;(intro w' hm;exact hW w'))|(apply aa (f:=188);exact rfl;exact rfl;(intro w' hm;exact hU w'))|(apply ak (d:=22);exact rfl;apply fF (lo:=i) (hi:=i+W);(iterate 3 exact rfl);exact ⟨by omega,by omega⟩)|(apply ak (d:=31);exact rfl;apply aZ (j:=i+W);exact rfl;exact rfl;omega)|refine sT ?_|refine sS ?_|refine sT2 ?_|refine sN ?_|refine sM fun _=> ?_|(refine sC ?_ ?_<;>intro hb<;>try omega)|fail)
    all_goals
      first
      |(exfalso;omega)
      |((refine cJ ?_);exact ⟨rfl,rfl⟩)
  rw [if_neg h40]
  clear hli hUm hUe hl0 hl1 hd2 hl2 hl3
  by_cases hT:U=mH
  · rw [if_pos hT]
    subst hT
    repeat' (first|(apply aa (f:=318);exact rfl;exact rfl;(intro w' hm;exact hW w'))|(apply aa (f:=188);exact rfl;exact rfl;(intro w' hm;exact hU w'))|(apply ak (d:=22);exact rfl;apply fF (lo:=i) (hi:=i+W);(iterate 3 exact rfl);exact ⟨by omega,by omega⟩)|(apply ak (d:=31);exact rfl;apply aZ (j:=i+W);exact rfl;exact rfl;omega)|(apply ak (d:=70);exact rfl;apply aZ (j:=i+W);exact rfl;exact rfl;omega)|(apply aa (d:=51);exact rfl;exact rfl;(intro w' hm;exact hA1 w'))|(apply aa (d:=76);exact rfl;exact rfl;(intro w' hm;exact hA2 w'))|(apply aa (f:=320);exact rfl;exact rfl;(intro w' hm;exact iq ⟨c1,r1⟩ w'))|(apply ak (d:=85);exact rfl;exact fJ _ _ ▸ iU rfl rfl)|(apply ak (d:=90);exact rfl;exact fJ _ _ ▸ iU rfl rfl)|(apply ak (d:=95);exact rfl;exact fK _ _ ▸ gT rfl rfl)|(apply ak (d:=100);exact rfl;exact fK _ _ ▸ gT rfl rfl)|(apply ak (d:=105);exact rfl;exact ic (a:=⟨c1,r1⟩) (b:=⟨c2,r2⟩) rfl rfl rfl)|refine sT ?_|refine sS ?_|refine sT2 ?_|refine sN ?_|refine sM fun _=> ?_|(refine sC ?_ ?_<;>intro hb<;>try omega)|fail)
    all_goals
      first
      |(exfalso;omega)
      |(exact absurd rfl (by assumption))
      |((refine cJ ?_);exact ⟨rfl,rfl⟩)
  rw [if_neg hT]
  by_cases hF:U=kL
  · rw [if_pos hF]
    subst hF
    repeat' (first|(apply aa (f:=318);exact rfl;exact rfl;(intro w' hm;exact hW w'))|(apply aa (f:=188);exact rfl;exact rfl;(intro w' hm;exact hU w'))|(apply ak (d:=22);exact rfl;apply fF (lo:=i) (hi:=i+W);(iterate 3 exact rfl);exact ⟨by omega,by omega⟩)|(apply ak (d:=31);exact rfl;apply aZ (j:=i+W);exact rfl;exact rfl;omega)|(apply ak (d:=70);exact rfl;apply aZ (j:=i+W);exact rfl;exact rfl;omega)|(apply aa (d:=51);exact rfl;exact rfl;(intro w' hm;exact hA1 w'))|(apply aa (d:=76);exact rfl;exact rfl;(intro w' hm;exact hA2 w'))|(apply aa (f:=320);exact rfl;exact rfl;(intro w' hm;exact iq ⟨c1,r1⟩ w'))|(apply ak (d:=85);exact rfl;exact fJ _ _ ▸ iU rfl rfl)|(apply ak (d:=90);exact rfl;exact fJ _ _ ▸ iU rfl rfl)|(apply ak (d:=95);exact rfl;exact fK _ _ ▸ gT rfl rfl)|(apply ak (d:=100);exact rfl;exact fK _ _ ▸ gT rfl rfl)|(apply ak (d:=105);exact rfl;exact ic (a:=⟨c1,r1⟩) (b:=⟨c2,r2⟩) rfl rfl rfl)|refine sT ?_|refine sS ?_|refine sT2 ?_|refine sN ?_|refine sM fun _=> ?_|(refine sC ?_ ?_<;>intro hb<;>try omega)|fail)
    all_goals
      first
      |(exfalso;omega)
      |(exact absurd (by assumption) hT)
      |(exact absurd rfl (by assumption))
      |((refine cJ ?_);exact ⟨rfl,rfl⟩)
  rw [if_neg hF]
  have hT' : ¬ U=({ data:= #[84,82,85,69] }:ByteArray):=hT
  have hF' : ¬ U=({ data:= #[70,65,76,83,69] }:ByteArray):=hF
  simp only [ne_eq,h40,not_false_eq_true,and_true] at hA1
  by_cases he1:e1=0
  · rw [if_neg (fun h=>h he1)]
    rw [decide_eq_true he1] at hA1
    by_cases h58:bat a (i+W)=58
    · have hlt:i+W<a.size:=by
        rcases SR (i+W) a.size with h|h
        · exact h
        · exact absurd h58 (hout h).2
      replace hA2:=hA2 hlt
      by_cases hl2:bV (bat a (i+W+1))=true
      · rw [hl2,if_neg (by simp)] at hA2
        by_cases hok:e2=0∧bat a (i+W+1+W2)≠40
        · rw [if_pos ⟨h58,hl2,hok⟩]
          rw [decide_eq_true hok] at hA2
          repeat' (first|(apply aa (f:=318);exact rfl;exact rfl;(intro w' hm;exact hW w'))|(apply aa (f:=188);exact rfl;exact rfl;(intro w' hm;exact hU w'))|(apply ak (d:=22);exact rfl;apply fF (lo:=i) (hi:=i+W);(iterate 3 exact rfl);exact ⟨by omega,by omega⟩)|(apply ak (d:=31);exact rfl;apply aZ (j:=i+W);exact rfl;exact rfl;omega)|(apply ak (d:=70);exact rfl;apply aZ (j:=i+W);exact rfl;exact rfl;omega)|(apply aa (d:=51);exact rfl;exact rfl;(intro w' hm;exact hA1 w'))|(apply aa (d:=76);exact rfl;exact rfl;(intro w' hm;exact hA2 w'))|(apply aa (f:=320);exact rfl;exact rfl;(intro w' hm;exact iq ⟨c1,r1⟩ w'))|(apply ak (d:=85);exact rfl;exact fJ _ _ ▸ iU rfl rfl)|(apply ak (d:=90);exact rfl;exact fJ _ _ ▸ iU rfl rfl)|(apply ak (d:=95);exact rfl;exact fK _ _ ▸ gT rfl rfl)|(apply ak (d:=100);exact rfl;exact fK _ _ ▸ gT rfl rfl)|(apply ak (d:=105);exact rfl;exact ic (a:=⟨c1,r1⟩) (b:=⟨c2,r2⟩) rfl rfl rfl)|refine sT ?_|refine sS ?_|refine sT2 ?_|refine sN ?_|refine sM fun _=> ?_|(refine sC ?_ ?_<;>intro hb<;>try omega)|fail)
          all_goals
            first
            |(exfalso;omega)
            |(exact absurd (by assumption) hT')
            |(exact absurd (by assumption) hF')
            |((refine cJ ?_);exact ⟨rfl,cY,_,rfl⟩)
            |((refine cJ ?_);exact ⟨rfl,rfl⟩)
            | ((refine cJ ?_)
               refine ⟨rfl,?_⟩
               have hne: ¬ (c1=c2∧r1=r2):=fun h=>(by assumption:(⟨c1,r1⟩:Rf)≠⟨c2,r2⟩) (by rw [h.1,h.2])
               simp only [TokR,if_neg hne]
               rw [show i+(W+1+W2)=i+W+1+W2 by omega]
               rfl)
            | ((refine cJ ?_)
               refine ⟨rfl,?_⟩
               have heq:c1=c2∧r1=r2:=by
                 have:(⟨c1,r1⟩:Rf)=⟨c2,r2⟩:=Classical.not_not.1 (by assumption)
                 cases this
                 exact ⟨rfl,rfl⟩
               simp only [TokR,if_pos heq]
               rw [show i+(W+1+W2)=i+W+1+W2 by omega]
               rfl)
        · rw [if_neg fun h=>hok h.2.2]
          rw [decide_eq_false hok] at hA2
          repeat' (first|(apply aa (f:=318);exact rfl;exact rfl;(intro w' hm;exact hW w'))|(apply aa (f:=188);exact rfl;exact rfl;(intro w' hm;exact hU w'))|(apply ak (d:=22);exact rfl;apply fF (lo:=i) (hi:=i+W);(iterate 3 exact rfl);exact ⟨by omega,by omega⟩)|(apply ak (d:=31);exact rfl;apply aZ (j:=i+W);exact rfl;exact rfl;omega)|(apply ak (d:=70);exact rfl;apply aZ (j:=i+W);exact rfl;exact rfl;omega)|(apply aa (d:=51);exact rfl;exact rfl;(intro w' hm;exact hA1 w'))|(apply aa (d:=76);exact rfl;exact rfl;(intro w' hm;exact hA2 w'))|(apply aa (f:=320);exact rfl;exact rfl;(intro w' hm;exact iq ⟨c1,r1⟩ w'))|(apply ak (d:=85);exact rfl;exact fJ _ _ ▸ iU rfl rfl)|(apply ak (d:=90);exact rfl;exact fJ _ _ ▸ iU rfl rfl)|(apply ak (d:=95);exact rfl;exact fK _ _ ▸ gT rfl rfl)|(apply ak (d:=100);exact rfl;exact fK _ _ ▸ gT rfl rfl)|(apply ak (d:=105);exact rfl;exact ic (a:=⟨c1,r1⟩) (b:=⟨c2,r2⟩) rfl rfl rfl)|refine sT ?_|refine sS ?_|refine sT2 ?_|refine sN ?_|refine sM fun _=> ?_|(refine sC ?_ ?_<;>intro hb<;>try omega)|fail)
          all_goals
            first
            |(exfalso;omega)
            |(exact absurd (by assumption) hT')
            |(exact absurd (by assumption) hF')
            |((refine cJ ?_);exact ⟨rfl,cY,_,rfl⟩)
            |((refine cJ ?_);exact ⟨rfl,rfl⟩)
            | ((refine cJ ?_)
               refine ⟨rfl,?_⟩
               have hne: ¬ (c1=c2∧r1=r2):=fun h=>(by assumption:(⟨c1,r1⟩:Rf)≠⟨c2,r2⟩) (by rw [h.1,h.2])
               simp only [TokR,if_neg hne]
               rw [show i+(W+1+W2)=i+W+1+W2 by omega]
               rfl)
            | ((refine cJ ?_)
               refine ⟨rfl,?_⟩
               have heq:c1=c2∧r1=r2:=by
                 have:(⟨c1,r1⟩:Rf)=⟨c2,r2⟩:=Classical.not_not.1 (by assumption)
                 cases this
                 exact ⟨rfl,rfl⟩
               simp only [TokR,if_pos heq]
               rw [show i+(W+1+W2)=i+W+1+W2 by omega]
               rfl)
      · rw [if_neg fun h=>hl2 h.2.1]
        rw [if_pos (by simpa using hl2)] at hA2
        repeat' (first|(apply aa (f:=318);exact rfl;exact rfl;(intro w' hm;exact hW w'))|(apply aa (f:=188);exact rfl;exact rfl;(intro w' hm;exact hU w'))|(apply ak (d:=22);exact rfl;apply fF (lo:=i) (hi:=i+W);(iterate 3 exact rfl);exact ⟨by omega,by omega⟩)|(apply ak (d:=31);exact rfl;apply aZ (j:=i+W);exact rfl;exact rfl;omega)|(apply ak (d:=70);exact rfl;apply aZ (j:=i+W);exact rfl;exact rfl;omega)|(apply aa (d:=51);exact rfl;exact rfl;(intro w' hm;exact hA1 w'))|(apply aa (d:=76);exact rfl;exact rfl;(intro w' hm;exact hA2 w'))|(apply aa (f:=320);exact rfl;exact rfl;(intro w' hm;exact iq ⟨c1,r1⟩ w'))|(apply ak (d:=85);exact rfl;exact fJ _ _ ▸ iU rfl rfl)|(apply ak (d:=90);exact rfl;exact fJ _ _ ▸ iU rfl rfl)|(apply ak (d:=95);exact rfl;exact fK _ _ ▸ gT rfl rfl)|(apply ak (d:=100);exact rfl;exact fK _ _ ▸ gT rfl rfl)|(apply ak (d:=105);exact rfl;exact ic (a:=⟨c1,r1⟩) (b:=⟨c2,r2⟩) rfl rfl rfl)|refine sT ?_|refine sS ?_|refine sT2 ?_|refine sN ?_|refine sM fun _=> ?_|(refine sC ?_ ?_<;>intro hb<;>try omega)|fail)
        all_goals
          first
          |(exfalso;omega)
          |(exact absurd (by assumption) hT')
          |(exact absurd (by assumption) hF')
          |((refine cJ ?_);exact ⟨rfl,cY,_,rfl⟩)
          |((refine cJ ?_);exact ⟨rfl,rfl⟩)
          | ((refine cJ ?_)
             refine ⟨rfl,?_⟩
             have hne: ¬ (c1=c2∧r1=r2):=fun h=>(by assumption:(⟨c1,r1⟩:Rf)≠⟨c2,r2⟩) (by rw [h.1,h.2])
             simp only [TokR,if_neg hne]
             rw [show i+(W+1+W2)=i+W+1+W2 by omega]
             rfl)
          | ((refine cJ ?_)
             refine ⟨rfl,?_⟩
             have heq:c1=c2∧r1=r2:=by
               have:(⟨c1,r1⟩:Rf)=⟨c2,r2⟩:=Classical.not_not.1 (by assumption)
               cases this
               exact ⟨rfl,rfl⟩
             simp only [TokR,if_pos heq]
             rw [show i+(W+1+W2)=i+W+1+W2 by omega]
             rfl)
    · rw [if_neg fun h=>h58 h.1]
      repeat' (first|(apply aa (f:=318);exact rfl;exact rfl;(intro w' hm;exact hW w'))|(apply aa (f:=188);exact rfl;exact rfl;(intro w' hm;exact hU w'))|(apply ak (d:=22);exact rfl;apply fF (lo:=i) (hi:=i+W);(iterate 3 exact rfl);exact ⟨by omega,by omega⟩)|(apply ak (d:=31);exact rfl;apply aZ (j:=i+W);exact rfl;exact rfl;omega)|(apply ak (d:=70);exact rfl;apply aZ (j:=i+W);exact rfl;exact rfl;omega)|(apply aa (d:=51);exact rfl;exact rfl;(intro w' hm;exact hA1 w'))|(apply aa (d:=76);exact rfl;exact rfl;(intro w' hm;exact hA2 w'))|(apply aa (f:=320);exact rfl;exact rfl;(intro w' hm;exact iq ⟨c1,r1⟩ w'))|(apply ak (d:=85);exact rfl;exact fJ _ _ ▸ iU rfl rfl)|(apply ak (d:=90);exact rfl;exact fJ _ _ ▸ iU rfl rfl)|(apply ak (d:=95);exact rfl;exact fK _ _ ▸ gT rfl rfl)|(apply ak (d:=100);exact rfl;exact fK _ _ ▸ gT rfl rfl)|(apply ak (d:=105);exact rfl;exact ic (a:=⟨c1,r1⟩) (b:=⟨c2,r2⟩) rfl rfl rfl)|refine sT ?_|refine sS ?_|refine sT2 ?_|refine sN ?_|refine sM fun _=> ?_|(refine sC ?_ ?_<;>intro hb<;>try omega)|fail)
      all_goals
        first
        |(exfalso;omega)
        |(exact absurd (by assumption) hT')
        |(exact absurd (by assumption) hF')
        |((refine cJ ?_);exact ⟨rfl,cY,_,rfl⟩)
        |((refine cJ ?_);exact ⟨rfl,rfl⟩)
        | ((refine cJ ?_)
           refine ⟨rfl,?_⟩
           have hne: ¬ (c1=c2∧r1=r2):=fun h=>(by assumption:(⟨c1,r1⟩:Rf)≠⟨c2,r2⟩) (by rw [h.1,h.2])
           simp only [TokR,if_neg hne]
           rw [show i+(W+1+W2)=i+W+1+W2 by omega]
           rfl)
        | ((refine cJ ?_)
           refine ⟨rfl,?_⟩
           have heq:c1=c2∧r1=r2:=by
             have:(⟨c1,r1⟩:Rf)=⟨c2,r2⟩:=Classical.not_not.1 (by assumption)
             cases this
             exact ⟨rfl,rfl⟩
           simp only [TokR,if_pos heq]
           rw [show i+(W+1+W2)=i+W+1+W2 by omega]
           rfl)
  · rw [if_pos he1]
    rw [decide_eq_false he1] at hA1
    repeat' (first|(apply aa (f:=318);exact rfl;exact rfl;(intro w' hm;exact hW w'))|(apply aa (f:=188);exact rfl;exact rfl;(intro w' hm;exact hU w'))|(apply ak (d:=22);exact rfl;apply fF (lo:=i) (hi:=i+W);(iterate 3 exact rfl);exact ⟨by omega,by omega⟩)|(apply ak (d:=31);exact rfl;apply aZ (j:=i+W);exact rfl;exact rfl;omega)|(apply ak (d:=70);exact rfl;apply aZ (j:=i+W);exact rfl;exact rfl;omega)|(apply aa (d:=51);exact rfl;exact rfl;(intro w' hm;exact hA1 w'))|(apply aa (d:=76);exact rfl;exact rfl;(intro w' hm;exact hA2 w'))|(apply aa (f:=320);exact rfl;exact rfl;(intro w' hm;exact iq ⟨c1,r1⟩ w'))|(apply ak (d:=85);exact rfl;exact fJ _ _ ▸ iU rfl rfl)|(apply ak (d:=90);exact rfl;exact fJ _ _ ▸ iU rfl rfl)|(apply ak (d:=95);exact rfl;exact fK _ _ ▸ gT rfl rfl)|(apply ak (d:=100);exact rfl;exact fK _ _ ▸ gT rfl rfl)|(apply ak (d:=105);exact rfl;exact ic (a:=⟨c1,r1⟩) (b:=⟨c2,r2⟩) rfl rfl rfl)|refine sT ?_|refine sS ?_|refine sT2 ?_|refine sN ?_|refine sM fun _=> ?_|(refine sC ?_ ?_<;>intro hb<;>try omega)|fail)
    all_goals
      first
      |(exfalso;omega)
      |(exact absurd (by assumption) hT')
      |(exact absurd (by assumption) hF')
      |((refine cJ ?_);exact ⟨rfl,cY,_,rfl⟩)
      |((refine cJ ?_);exact ⟨rfl,rfl⟩)
      | ((refine cJ ?_)
         refine ⟨rfl,?_⟩
         have hne: ¬ (c1=c2∧r1=r2):=fun h=>(by assumption:(⟨c1,r1⟩:Rf)≠⟨c2,r2⟩) (by rw [h.1,h.2])
         simp only [TokR,if_neg hne]
         rw [show i+(W+1+W2)=i+W+1+W2 by omega]
         rfl)
      | ((refine cJ ?_)
         refine ⟨rfl,?_⟩
         have heq:c1=c2∧r1=r2:=by
           have:(⟨c1,r1⟩:Rf)=⟨c2,r2⟩:=Classical.not_not.1 (by assumption)
           cases this
           exact ⟨rfl,rfl⟩
         simp only [TokR,if_pos heq]
         rw [show i+(W+1+W2)=i+W+1+W2 by omega]
         rfl)
def opB (k:Int):ByteArray:=
 if k=1 then ⟨#[43]⟩ else if k=2 then ⟨#[45]⟩ else if k=3 then ⟨#[42]⟩ else if k=4 then ⟨#[47]⟩ else if k=5 then ⟨#[94]⟩ else if k=6 then ⟨#[38]⟩ else if k=7 then ⟨#[61]⟩
 else if k=8 then ⟨#[60,62]⟩ else if k=9 then ⟨#[60]⟩ else if k=10 then ⟨#[60,61]⟩ else if k=11 then ⟨#[62]⟩ else if k=12 then ⟨#[62,61]⟩ else if k=13 then ⟨#[37]⟩ else ⟨#[]⟩
theorem uZ (k:Int) (w:World):ay Tryz.prog 323 [.int .i64 k] w (.string (opB k)):=by
 refine aq Tryz.func323 rfl Tryz.ntmps323 rfl ?_
 repeat' (first|(refine rT1 ?_)|refine sT ?_|refine sS ?_|refine sM fun _=> ?_|(refine sC ?_ ?_<;>intro hb<;>try omega)|fail)
 all_goals
  unfold opB
  repeat (first|rw [if_pos (by assumption)]|rw [if_neg (by assumption)])
theorem yZ (a:ByteArray) (ha:a.size≤256) (i:Nat) (hi:i≤a.size) (s:ByteArray) (hs:s.size≤1000) (w:World):ay Tryz.prog 322 [.string a,.int .i64 (i:Int),.string s] w (.bool (decide ((((ap a).drop i).take s.size).map upC=ap s))):=by
 refine aq Tryz.func322 rfl Tryz.ntmps322 rfl ?_
 have hl:=au a
 have hU:=fun h:i+s.size≤a.size=>fun w=>j8 (sub a i (i+s.size)) (by rw [ck a h];omega) w
 repeat' (first|(apply aa (f:=188);exact rfl;exact rfl;(intro w' hm;exact hU (by omega) w'))|(apply ak (d:=21);exact rfl;apply fF (lo:=i) (hi:=i+s.size);(iterate 3 exact rfl);exact ⟨by omega,by omega⟩)|(refine rT1 ?_)|refine sT ?_|refine sS ?_|refine sT2 ?_|refine sN ?_|refine sM fun _=> ?_|(refine sC ?_ ?_<;>intro hb<;>try omega)|fail)
 ·
  have:(upB (sub a i (i+s.size))=s)=((((ap a).drop i).take s.size).map upC=ap s):=by
   rw [eq_iff_iff]
   constructor
   ·
    intro h
    rw [← h,qt,p9,h]
   ·
    intro h
    apply vQ
    rw [qt,p9,h]
  simp only [this]
 ·
  rw [decide_eq_false]
  intro h
  have:=congrArg List.length h
  rw [RN,Rq,Rk,hl,au] at this
  omega
theorem DL {p:Int→Bool} {l:List Int} (h:aC p l=l.length): ∀ c∈l,p c=true:=by
 intro c hc
 have:c∈l.take (aC p l):=by rw [h,Sc];exact hc
 exact kW this
theorem NL (l0:List Int): -9223372036854775808≤(f4 l0).1:=by
 unfold f4
 extract_lets neg l n rest frac p5
 split
 ·
  show (-9223372036854775808:Int)≤0
  omega
 ·
  rename_i v _hc
  have h0:0≤bw (l.take n++p5.take 4) 0:=by
   refine rJ _ (fun c hc=> ?_) (Ss _)
   rcases Rs.1 hc with hc|hc
   ·
    have:=kW (p:=aF) hc
    rw [eD] at this
    exact this.1
   ·
    have hc:=Sj hc
    rcases Rs.1 hc with hc|hc
    ·
     by_cases hf:frac=true
     ·
      rw [if_pos hf] at hc
      simp only [frac,QZ,decide_eq_true_eq] at hf
      have hl:rest.tail.length=rest.length - 1:=TV
      have:=DL (p:=aF) (l:=rest.tail) (by omega) c hc
      rw [eD] at this
      exact this.1
     ·
      rw [if_neg hf] at hc
      cases hc
    ·
     simp only [Rd,S0,or_false,or_self] at hc
     omega
  have hv0:0≤v:=by
   show 0≤bw (l.take n++p5.take 4) 0+(if 53≤p5.getD 4 0 then 1 else 0)
   split<;>omega
  split
  ·
   show (-9223372036854775808:Int)≤0
   omega
  ·
   rename_i hv
   simp only [cI] at hv
   split
   ·
    show (-9223372036854775808:Int)≤ -v
    omega
   ·
    show (-9223372036854775808:Int)≤v
    omega
set_option maxHeartbeats 2000000 in
theorem Bf (b:ByteArray) (hb:b.size≤1000000) (w:World):ay Tryz.prog 146 [.string b] w (.agg (dA (ww b)).toArray):=by
  refine aq Tryz.func146 rfl Tryz.ntmps146 rfl ?_
  by_cases h0:b=av
  · subst h0
    repeat' (first|refine sT ?_|refine sS ?_|refine sT2 ?_|refine sM fun _=> ?_|(refine sC ?_ ?_<;>intro hb<;>try omega)|fail)
    all_goals first
      |((refine eRC ?_);rfl)
      |(exfalso;rename_i hb;exact hb rfl)
  have hpos:0<b.size:=by
    rcases Sf b.size with h|h
    · exact absurd (ByteArray.ext (TU h)) h0
    · exact h
  have hU:=fun w=>j8 b hb w
  have hC:=fun w=>DZ b hb w
  have hD:=fun w=>HE b hb w
  have hge:=NL (ap b)
  have hM:=fun w=>DV _ hge w
  have hF:=fun c w=>pw c w
  have hTr:=fun c w=>AX c w
  have hhd:(ap b).headD 0=bat b 0:=by have:=nA (a:=b) (i:=0);rwa [SA] at this
  have hsub:sub b 1 b.size=mkB (ap b).tail:=by
    refine KH ?_
    rw [dV,List.drop_one,RS]
    rw [TV,au];exact QV _
  unfold ww
  rw [if_neg h0,hhd]
  obtain ⟨u,hu⟩: ∃ u,upB b=u:=⟨_,rfl⟩
  obtain ⟨⟨cn,ce⟩,hce⟩: ∃ u,gW b=u:=⟨_,rfl⟩
  obtain ⟨⟨dn,de⟩,hde⟩: ∃ u,f4 (ap b)=u:=⟨_,rfl⟩
  rw [hu] at hU ⊢
  rw [hce] at hC ⊢
  rw [hde] at hD hM hge ⊢
  dsimp only at hC hD hM hge ⊢
  by_cases h1:bat b 0=39
  · rw [if_pos h1]
    repeat' (first|(apply ak (d:=7);exact rfl;apply dP;exact rfl;exact rfl;exact h0)|(apply ak (d:=10);exact rfl;apply aZ (j:=0);exact rfl;exact rfl;exact hpos)|(apply ak (d:=13);exact rfl;apply ur (lo:=1);exact rfl;exact rfl;omega)|refine sT ?_|refine sS ?_|refine sT2 ?_|refine sM fun _=> ?_|(refine sC ?_ ?_<;>intro hb<;>try omega)|fail)
    all_goals first
      |(exfalso;omega)
      |((refine eRC ?_);rw [hsub];rfl)
  rw [if_neg h1]
  by_cases h2:u=mH
  · rw [if_pos (.inl h2),decide_eq_true h2]
    repeat' (first|(apply ak (d:=7);exact rfl;apply dP;exact rfl;exact rfl;exact h0)|(apply ak (d:=10);exact rfl;apply aZ (j:=0);exact rfl;exact rfl;exact hpos)|(apply aa;exact rfl;exact rfl;(intro w hm;exact hU w))|(apply ak (d:=17);exact rfl;apply mG;exact rfl;exact rfl;exact h2)|(apply ak (d:=25);exact rfl;apply mG;exact rfl;exact rfl;exact h2)|(apply aa (f:=189);exact rfl;exact rfl;(intro w' _;exact hTr true w'))|refine sT ?_|refine sS ?_|refine sT2 ?_|refine sM fun _=> ?_|(refine sC ?_ ?_<;>intro hb<;>try omega)|fail)
    all_goals first
      |(exfalso;omega)
      |((refine eRC ?_);rfl)
  by_cases h3:u=kL
  · rw [if_pos (.inr h3),decide_eq_false h2]
    repeat' (first|(apply ak (d:=7);exact rfl;apply dP;exact rfl;exact rfl;exact h0)|(apply ak (d:=10);exact rfl;apply aZ (j:=0);exact rfl;exact rfl;exact hpos)|(apply aa;exact rfl;exact rfl;(intro w hm;exact hU w))|(apply ak (d:=17);exact rfl;apply dP;exact rfl;exact rfl;exact h2)|(apply ak (d:=21);exact rfl;apply mG;exact rfl;exact rfl;exact h3)|(apply ak (d:=25);exact rfl;apply dP;exact rfl;exact rfl;exact h2)|(apply aa (f:=189);exact rfl;exact rfl;(intro w' _;exact hTr false w'))|refine sT ?_|refine sS ?_|refine sT2 ?_|refine sM fun _=> ?_|(refine sC ?_ ?_<;>intro hb<;>try omega)|fail)
    all_goals first
      |(exfalso;omega)
      |((refine eRC ?_);rfl)
  rw [if_neg (by simp [h2,h3])]
  repeat' (first|(apply ak (d:=7);exact rfl;apply dP;exact rfl;exact rfl;exact h0)|(apply ak (d:=10);exact rfl;apply aZ (j:=0);exact rfl;exact rfl;exact hpos)|(apply aa;exact rfl;exact rfl;(intro w hm;exact hU w))|(apply ak (d:=17);exact rfl;apply dP;exact rfl;exact rfl;exact h2)|(apply ak (d:=21);exact rfl;apply dP;exact rfl;exact rfl;exact h3)|(apply aa;exact rfl;exact rfl;(intro w hm;exact hC w))|(apply aa;exact rfl;exact rfl;(intro w hm;exact hD w))|(apply aa;exact rfl;exact rfl;(intro w hm;exact hM w))|(apply aa (f:=191);exact rfl;exact rfl;(intro w' _;exact hF _ w'))|refine sT ?_|refine sS ?_|refine sT2 ?_|refine sM fun _=> ?_|(refine sC ?_ ?_<;>intro hb<;>try omega)|fail)
  all_goals first
    |(exfalso;omega)
    | ((refine eRC ?_)
       (repeat (first|rw [if_pos (by first|assumption|omega)]|rw [if_neg (by first|assumption|omega)]))
       rfl)
def Ei (z:Nat) (k:Nat):List (List Int × Int):=((List.range' k (14 - k)).map fun (j:Nat)=>(ap (opB (j:Int)),(j:Int))).filter fun x=>decide (x.1.length=z)
def M8:Nat→List (List Int × Int)
 |0=> []
 |z+1=>Ei (z+1) 1++M8 z
theorem Ks:M8 2=eO:=by decide+kernel
theorem HT {z k:Nat} (h:k≤13):Ei z k=if (opB (k:Int)).size=z then (ap (opB (k:Int)),(k:Int))::Ei z (k+1) else Ei z (k+1):=by
 unfold Ei
 rw [show 14 - k=(13 - k)+1 by omega,List.range'_succ,Rz,TH,show 14 - (k+1)=13 - k by omega]
 simp only [au,decide_eq_true_eq]
theorem Kr (z:Nat):Ei z 14= []:=rfl
theorem Nc {l:List Int} {s:List Int} {k:Int} {r:List (List Int × Int)} (h:l.take s.length=s):opL l ((s,k)::r)=some (k,s.length):=by
 rw [opL,if_pos h]
theorem Pn (k:Nat) (h:k≤13): ∀ c∈ap (opB (k:Int)),¬ (65≤c∧c≤90)∧ ¬ (97≤c∧c≤122):=by
 rcases (by omega:k=0∨k=1∨k=2∨k=3∨k=4∨k=5∨k=6∨k=7∨k=8∨k=9∨k=10∨k=11∨k=12∨k=13) with rfl|rfl|rfl|rfl|rfl|rfl|rfl|rfl|rfl|rfl|rfl|rfl|rfl|rfl<;>decide+kernel
theorem FK {s:List Int} (hs: ∀ c∈s,¬ (65≤c∧c≤90)∧ ¬ (97≤c∧c≤122)): ∀ l:List Int,l.map upC=s↔l=s:=by
 induction s with
 |nil=>intro l;simp
 |cons d s ih=>
  intro l
  cases l with
  |nil=>simp
  |cons c l=>
   simp only [Rz,List.cons.injEq,ih (fun c hc=>hs c (Rc _ hc)) l]
   have hd:=hs d QT
   have:upC c=d↔c=d:=by
    unfold upC
    split<;>omega
   rw [this]
theorem yw {k:Nat} (h:k<5):ap (cD.getD (k+1) av)=dI.getD k []∧dI.drop k=dI.getD k []::dI.drop (k+1)∧(cD.getD (k+1) av).size≤10:=by
 rcases (by omega:k=0∨k=1∨k=2∨k=3∨k=4) with rfl|rfl|rfl|rfl|rfl<;>decide+kernel
set_option maxHeartbeats 2000000 in
theorem DR (a:ByteArray) (ha:a.size≤256) (i:Nat) (hi:i<a.size) (w:World):aK Tryz.prog 286 [.string a,.int .i64 (i:Int)] w fun v H=>H= []∧TokR i (ji ((ap a).drop i)) v:=by
  refine aq Tryz.func286 rfl Tryz.ntmps286 rfl ?_
  have hl:=au a
  have hh:((ap a).drop i).headD 0=bat a i:=nA
  have hB:=fun s hs w=>yZ a ha i (by omega) s hs w
  obtain ⟨l,hll⟩: ∃ l,(ap a).drop i=l:=⟨_,rfl⟩
  rw [hll] at hh hB ⊢
  obtain ⟨F,hF⟩: ∃ F,jU l dI 1=F:=⟨_,rfl⟩
  repeat' (first|refine sT ?_|refine sS ?_|refine sT2 ?_|refine sM fun _=> ?_|(refine sC ?_ ?_<;>intro hb<;>try omega)|fail)
  rename_i g4
  refine ax [0,1,4] rfl (fun k:Nat=> [(7,.int .i64 ((k+1:Nat):Int))]) (fun _=> [.box g4 228 (bg cY)]) (fun k=>k≤5∧F=jU l (dI.drop k) ((k+1:Nat):Int)) (fun k=>5 - k) 0 ⟨by omega,hF.symm⟩ sB mS ?_
  rintro k ⟨hk,hFk⟩
  by_cases hk5:k<5
  · obtain ⟨hn1,hn2,hn3⟩:=yw hk5
    have hS:=fun w=>DS ((k+1:Nat):Int) (by omega) (by omega) w
    rw [SD] at hS
    obtain ⟨s,hs⟩: ∃ s,cD.getD (k+1) av=s:=⟨_,rfl⟩
    rw [hs] at hS hn1 hn3
    have hBs:=hB s (by omega)
    rw [hn2,jU,← hn1,au] at hFk
    by_cases hb:(l.take s.size).map upC=ap s
    · rw [if_pos hb] at hFk
      rw [decide_eq_true hb] at hBs
      repeat' (first|(apply aa (f:=321);exact rfl;exact rfl;(intro w' hm;exact hS w'))|(apply aa (f:=322);exact rfl;exact rfl;(intro w' hm;exact hBs w'))|refine sT ?_|refine sS ?_|refine sT2 ?_|refine sN ?_|refine sM fun _=> ?_|(refine sC ?_ ?_<;>intro hb<;>try omega)|fail)
      all_goals
        first
        |(exfalso;omega)
        |((refine cJ ?_);refine ⟨rfl,?_⟩;rw [ji,kw,hF,hFk];rfl)
    · rw [if_neg hb] at hFk
      rw [decide_eq_false hb] at hBs
      repeat' (first|(apply aa (f:=321);exact rfl;exact rfl;(intro w' hm;exact hS w'))|(apply aa (f:=322);exact rfl;exact rfl;(intro w' hm;exact hBs w'))|refine sT ?_|refine sS ?_|refine sT2 ?_|refine sN ?_|refine sM fun _=> ?_|(refine sC ?_ ?_<;>intro hb<;>try omega)|fail)
      all_goals
        first
        |(exfalso;omega)
        |exact ⟨k+1,⟨by omega,hFk⟩,by omega,sB,sB,.refl _⟩
  have ek:k=5:=by omega
  subst ek
  have hsr:ji l=gU l:=by
    rw [ji,kw,hF,hFk];rfl
  rw [hsr]
  clear hF hFk hsr hk hk5
  obtain ⟨O,hO⟩: ∃ O,opL l eO=O:=⟨_,rfl⟩
  repeat' (first|refine sT ?_|refine sS ?_|refine sT2 ?_|refine sM fun _=> ?_|(refine sC ?_ ?_<;>intro hb<;>try omega)|fail)
  refine ax [0,1,4] rfl (fun z:Nat=> [(9,.int .i64 (z:Int))]) (fun _=> [.box g4 228 (bg cY)]) (fun z=>z≤2∧O=opL l (M8 z)) (fun z=>z) 2 ⟨by omega,by rw [Ks,hO]⟩ sB mS ?_
  rintro z ⟨hz,hOz⟩
  cases z with
  |zero=>
    have hOn:O=none:=hOz
    subst hOn
    have hsp:gU l=if bat a i=40 then some (⟨9,0,av,aL,0⟩,1) else if bat a i=41 then some (⟨10,0,av,aL,0⟩,1) else if bat a i=44 then some (⟨11,0,av,aL,0⟩,1) else none:=by
      unfold gU
      rw [hO,hh]
    rw [hsp]
    repeat' (first|(apply ak (d:=58);exact rfl;apply aZ (j:=i);exact rfl;exact rfl;omega)|refine sT ?_|refine sS ?_|refine sT2 ?_|refine sN ?_|refine sM fun _=> ?_|(refine sC ?_ ?_<;>intro hb<;>try omega)|fail)
    all_goals
      first
      |(exfalso;omega)
      | ((refine cJ ?_)
         refine ⟨rfl,?_⟩
         repeat (first|rw [if_pos (by assumption)]|rw [if_neg (by assumption)])
         first|exact rfl|exact ⟨cY,_,rfl⟩)
  |succ z=>
    repeat' (first|refine sT ?_|refine sS ?_|refine sT2 ?_|refine sM fun _=> ?_|(refine sC ?_ ?_<;>intro hb<;>try omega)|fail)
    all_goals try (exfalso;omega)
    refine ax [0,1,4,9] rfl (fun k:Nat=> [(10,.int .i64 (k:Int))]) (fun _=> [.box g4 228 (bg cY)]) (fun k=>1≤k∧k≤14∧O=opL l (Ei (z+1) k++M8 z)) (fun k=>14 - k) 1 ⟨by omega,by omega,hOz⟩ sB mS ?_
    rintro k ⟨hk1,hk2,hOk⟩
    by_cases hk14:k=14
    · subst hk14
      rw [Kr,QU] at hOk
      repeat' (first|refine sT ?_|refine sS ?_|refine sT2 ?_|refine sN ?_|refine sM fun _=> ?_|(refine sC ?_ ?_<;>intro hb<;>try omega)|fail)
      all_goals
        first
        |(exfalso;omega)
        |exact ⟨z,⟨by omega,hOk⟩,by omega,sB,sB,.refl _⟩
    rw [HT (by omega)] at hOk
    obtain ⟨s,hs⟩: ∃ s,opB (k:Int)=s:=⟨_,rfl⟩
    have hu:=Pn k (by omega)
    have hP:=fun w=>uZ (k:Int) w
    rw [hs] at hOk hu hP
    by_cases hsz:s.size=z+1
    · rw [if_pos hsz] at hOk
      have hBs:=hB s (by omega)
      by_cases hb:(l.take s.size).map upC=ap s
      · have hb2:=(FK hu _).1 hb
        rw [← au] at hb2
        rw [QR,Nc hb2,au,hsz] at hOk
        rw [decide_eq_true hb] at hBs
        have hsp:gU l=some (⟨8,k,av,aL,0⟩,z+1):=by
          unfold gU
          rw [hO,hOk]
        rw [hsp]
        repeat' (first|(apply aa (f:=323);exact rfl;exact rfl;(intro w' hm;exact hP w'))|(apply aa (f:=322);exact rfl;exact rfl;(intro w' hm;exact hBs w'))|refine sT ?_|refine sS ?_|refine sT2 ?_|refine sN ?_|refine sM fun _=> ?_|(refine sC ?_ ?_<;>intro hb<;>try omega)|fail)
        all_goals
          first
          |(exfalso;omega)
          |((refine cJ ?_);exact ⟨rfl,rfl⟩)
      · have hb2: ¬ l.take s.size=ap s:=fun h=>hb ((FK hu _).2 h)
        rw [← au] at hb2
        rw [QR,opL,if_neg hb2] at hOk
        rw [decide_eq_false hb] at hBs
        repeat' (first|(apply aa (f:=323);exact rfl;exact rfl;(intro w' hm;exact hP w'))|(apply aa (f:=322);exact rfl;exact rfl;(intro w' hm;exact hBs w'))|refine sT ?_|refine sS ?_|refine sT2 ?_|refine sN ?_|refine sM fun _=> ?_|(refine sC ?_ ?_<;>intro hb<;>try omega)|fail)
        all_goals
          first
          |(exfalso;omega)
          |exact ⟨k+1,⟨by omega,by omega,hOk⟩,by omega,sB,sB,.refl _⟩
    · rw [if_neg hsz] at hOk
      repeat' (first|(apply aa (f:=323);exact rfl;exact rfl;(intro w' hm;exact hP w'))|refine sT ?_|refine sS ?_|refine sT2 ?_|refine sN ?_|refine sM fun _=> ?_|(refine sC ?_ ?_<;>intro hb<;>try omega)|fail)
      all_goals
        first
        |(exfalso;omega)
        |exact ⟨k+1,⟨by omega,by omega,hOk⟩,by omega,sB,sB,.refl _⟩
theorem TokR.form {i:Nat} {o:Option (Tk × Nat)} {v:Value} (h:TokR i o v): ∃ (t:Tk) (n:Int) (b:Bool),v= .tuple #[.agg (bg t).toArray,.int .i64 n,.bool b]:=by
 cases o with
 |none=>
  obtain ⟨t,e,rfl⟩:=h
  exact ⟨t,e,false,rfl⟩
 |some x=>
  obtain ⟨t,n⟩:=x
  exact ⟨_,_,_,h⟩
set_option maxHeartbeats 2000000 in
theorem AY (a:ByteArray) (ha:a.size≤256) (i:Nat) (hi:i<a.size) (w:World):aK Tryz.prog 239 [.string a,.int .i64 (i:Int)] w fun v H=>H= []∧TokR i (bG ((ap a).drop i)) v:=by
 refine aq Tryz.func239 rfl Tryz.ntmps239 rfl ?_
 have hl:=au a
 have hD:=fun w=>mR a (by omega) i w
 have hL:=fun w=>lS a (by omega) i w
 have hN:=fun h w=>yX a ha i hi h w
 have hT:=fun w=>DQ a ha i hi w
 have hWd:=fun h w=>DP a ha i hi h w
 have hS:=fun w=>DR a ha i hi w
 unfold bG
 rw [nA,show ((ap a).drop i).tail=(ap a).drop (i+1) by rw [TF]]
 by_cases h1:aF (bat a i)=true
 ·
  rw [if_pos h1]
  rw [h1] at hD
  replace hN:=hN h1
  repeat' (first|(apply aa (f:=281);exact rfl;exact rfl;(intro w' hm;exact hD w'))|(apply aA (f:=282);exact rfl;exact rfl;(intro w' hm;exact hN w');(rintro _ _ ⟨rfl,h⟩;obtain ⟨t,n,b,rfl⟩:=h.form))|refine sT ?_|refine sS ?_|refine sT2 ?_|refine sN ?_|refine sM fun _=> ?_|(refine sC ?_ ?_<;>intro hb<;>try omega)|fail)
  all_goals ((refine cJ ?_);exact ⟨rfl,by assumption⟩)
 rw [if_neg h1]
 replace h1:aF (bat a i)=false:=by simpa using h1
 rw [h1] at hD
 by_cases h2:bat a i=34
 ·
  rw [if_pos h2]
  repeat' (first|(apply aa (f:=281);exact rfl;exact rfl;(intro w' hm;exact hD w'))|(apply aA (f:=283);exact rfl;exact rfl;(intro w' hm;exact hT w');(rintro _ _ ⟨rfl,h⟩;obtain ⟨t,n,b,rfl⟩:=h.form))|(apply ak (d:=20);exact rfl;apply aZ (j:=i);exact rfl;exact rfl;omega)|refine sT ?_|refine sS ?_|refine sT2 ?_|refine sN ?_|refine sM fun _=> ?_|(refine sC ?_ ?_<;>intro hb<;>try omega)|fail)
  all_goals
   first
   |(exact absurd h2 (by assumption))
   |((refine cJ ?_);exact ⟨rfl,by assumption⟩)
 rw [if_neg h2]
 by_cases h3:bV (bat a i)=true
 ·
  rw [if_pos h3]
  rw [h3] at hL
  replace hWd:=hWd h3
  repeat' (first|(apply aa (f:=281);exact rfl;exact rfl;(intro w' hm;exact hD w'))|(apply aa (f:=284);exact rfl;exact rfl;(intro w' hm;exact hL w'))|(apply aA (f:=285);exact rfl;exact rfl;(intro w' hm;exact hWd w');(rintro _ _ ⟨rfl,h⟩;obtain ⟨t,n,b,rfl⟩:=h.form))|(apply ak (d:=20);exact rfl;apply aZ (j:=i);exact rfl;exact rfl;omega)|refine sT ?_|refine sS ?_|refine sT2 ?_|refine sN ?_|refine sM fun _=> ?_|(refine sC ?_ ?_<;>intro hb<;>try omega)|fail)
  all_goals
   first
   |(exact absurd (by assumption) h2)
   |((refine cJ ?_);exact ⟨rfl,by assumption⟩)
 rw [if_neg h3]
 replace h3:bV (bat a i)=false:=by simpa using h3
 rw [h3] at hL
 repeat' (first|(apply aa (f:=281);exact rfl;exact rfl;(intro w' hm;exact hD w'))|(apply aa (f:=284);exact rfl;exact rfl;(intro w' hm;exact hL w'))|(apply aA (f:=286);exact rfl;exact rfl;(intro w' hm;exact hS w');(rintro _ _ ⟨rfl,h⟩;obtain ⟨t,n,b,rfl⟩:=h.form))|(apply ak (d:=20);exact rfl;apply aZ (j:=i);exact rfl;exact rfl;omega)|refine sT ?_|refine sS ?_|refine sT2 ?_|refine sN ?_|refine sM fun _=> ?_|(refine sC ?_ ?_<;>intro hb<;>try omega)|fail)
 all_goals
  first
  |(exact absurd (by assumption) h2)
  |((refine cJ ?_);exact ⟨rfl,by assumption⟩)
set_option maxHeartbeats 4000000 in
theorem yV (a:ByteArray) (w:World):
    aK Tryz.prog 194 [.string a] w fun v H=> ∃ A cap,v=FO A cap (bC bG (ap a))∧H= [.own A 228 8 (bC bG (ap a)).1.length cap ((bC bG (ap a)).1.flatMap bg)]:=by
  refine aq Tryz.func194 rfl Tryz.ntmps194 rfl ?_
  have hl:=au a
  unfold bC
  refine aH 228 8 ?_
  by_cases hlen:256<(ap a).length
  · rw [if_pos hlen]
    repeat' (first|refine sT ?_|refine sS ?_|refine sT2 ?_|refine sM fun _=> ?_|(refine sC ?_ ?_<;>intro hb<;>try omega)|fail)
    all_goals try (exfalso;omega)
    exact oD (.inl rfl) rfl rfl rfl rfl (.refl _) ⟨none,0,rfl,rfl⟩
  rw [if_neg hlen]
  repeat' (first|refine sT ?_|refine sS ?_|refine sT2 ?_|refine sM fun _=> ?_|(refine sC ?_ ?_<;>intro hb<;>try omega)|fail)
  all_goals try (exfalso;omega)
  refine ax [0] rfl (fun i:Nat=> [(5,.int .i64 (i:Int))]) (fun _=> [.own none 228 8 0 0 []]) (fun i=>i≤a.size∧ ∀ j,j<i→bA (bat a j)=true) (fun i=>a.size - i) 0 ⟨by omega,fun j h=>by omega⟩ sB mS ?_
  rintro i ⟨hi,hpl⟩
  by_cases hlt:i<a.size
  · repeat' (first|(apply ak (d:=22);exact rfl;apply aZ (j:=i);exact rfl;exact rfl;omega)|(apply ak (d:=27);exact rfl;apply aZ (j:=i);exact rfl;exact rfl;omega)|refine sT ?_|refine sS ?_|refine sT2 ?_|refine sN ?_|refine sM fun _=> ?_|(refine sC ?_ ?_<;>intro hb<;>try omega)|fail)
    all_goals first
      |(exfalso;omega)
      | (have hf : (ap a).findIdx? (fun c => !bA c) = some i := by
           refine nF hlt ?_ fun j hj=>by rw [hpl j hj];rfl
           simp only [bA,Bool.not_eq_true',Sk,decide_eq_false_iff_not]
           omega
         rw [hf]
         exact oD (.inl rfl) rfl rfl rfl rfl (.refl _) ⟨none,0,rfl,rfl⟩)
      | (refine ⟨i + 1, ?_, (by first | omega | (dsimp only; omega)), sB, sB, mS⟩
         refine ⟨hlt,fun j hj=> ?_⟩
         rcases (by omega:j<i∨j=i) with h|rfl
         · exact hpl j h
         · simp only [bA,QZ,decide_eq_true_eq]
           omega)
  have e:i=a.size:=by omega
  subst e
  have hf:(ap a).findIdx? (fun c=> !bA c)=none:=lX fun j hj=>by rw [hpl j hj];rfl
  rw [hf]
  dsimp only
  repeat' (first|refine sT ?_|refine sS ?_|refine sT2 ?_|refine sN ?_|refine sM fun _=> ?_|(refine sC ?_ ?_<;>intro hb<;>try omega)|fail)
  all_goals try (exfalso;omega)
  generalize hT:bk bG (ap a) (ap a).length 0=T
  refine ax [0] rfl (fun x:Nat × List Tk × Option Nat × Nat=> [(6,sl x.2.2.1 x.2.1.length x.2.2.2),(7,.int .i64 (x.1:Int))]) (fun x=> [.own x.2.2.1 228 8 x.2.1.length x.2.2.2 (x.2.1.flatMap bg)])
    (fun x=>x.1≤a.size∧x.2.1.length≤x.1∧T=(bk bG (ap a) (a.size - x.1) x.1).map (x.2.1++ ·)) (fun x=>a.size - x.1) (0,[],none,0) ⟨by omega,by simp,by rw [← hT,hl];cases bk bG (ap a) a.size 0<;>rfl⟩ sB mS ?_
  rintro ⟨i,toks,A,cap⟩ ⟨hi2,hi3,hi4⟩
  dsimp only at hi2 hi3 hi4 ⊢
  by_cases hlt2:i<a.size
  · obtain ⟨f,hf1⟩: ∃ f,a.size - i=f+1:=⟨a.size - i - 1,by omega⟩
    rw [hf1] at hi4
    simp only [bk] at hi4
    have hdr:=bi hlt2
    have hK:=AY a (by omega) i hlt2
    generalize hld:(ap a).drop i=ld at hi4 hdr hK
    rw [hdr] at hi4
    dsimp only at hi4
    by_cases h32:bat a i=32
    · rw [if_pos h32] at hi4
      repeat' (first|(apply ak (d:=37);exact rfl;apply aZ (j:=i);exact rfl;exact rfl;omega)|refine sT ?_|refine sS ?_|refine sT2 ?_|refine sN ?_|refine sM fun _=> ?_|(refine sC ?_ ?_<;>intro hb<;>try omega)|fail)
      all_goals try (exfalso;omega)
      refine ⟨(i+1,toks,A,cap),?_,(by first|omega|(dsimp only;omega)),sB,sB,mS⟩
      exact ⟨hlt2,by dsimp only;omega,by dsimp only;rw [show a.size - (i+1)=f by omega];exact hi4⟩
    · rw [if_neg h32,← hdr] at hi4
      have hldl:ld.length=a.size - i:=by rw [← hld,Rk,hl]
      cases ho:bG ld with
      |none=>
        rw [ho] at hi4 hK
        dsimp only [Except.map] at hi4
        rw [hi4]
        refine aH 228 8 ?_
        repeat' (first|(apply ak (d:=37);exact rfl;apply aZ (j:=i);exact rfl;exact rfl;omega)|(apply aA (f:=239);exact rfl;exact rfl;(intro w' hm;exact hK w');(rintro _ _ ⟨rfl,t,n,rfl⟩))|refine sT ?_|refine sS ?_|refine sT2 ?_|refine sN ?_|refine sM fun _=> ?_|(refine sC ?_ ?_<;>intro hb<;>try omega)|fail)
        all_goals try (exfalso;omega)
        exact oD (.inl rfl) rfl rfl rfl rfl (H' := [.own none 228 8 0 0 []]) mS ⟨none,0,rfl,rfl⟩
      |some x=>
        obtain ⟨t,m⟩:=x
        rw [ho] at hi4 hK
        dsimp only at hi4
        have hfit:=mJ ld t m ho
        have hm0:0<m:=hfit.1
        repeat' (first|(apply ak (d:=37);exact rfl;apply aZ (j:=i);exact rfl;exact rfl;omega)|(apply aA (f:=239);exact rfl;exact rfl;(intro w' hm;exact hK w');(rintro _ _ ⟨rfl,rfl⟩))|(apply aQ;(iterate 3 exact rfl);exact pK;exact pK;exact rfl;(simp [bg,Value.oneCell']);omega;(simp only [maxLen];omega);intro g8 c8)|refine sT ?_|refine sS ?_|refine sT2 ?_|refine sN ?_|refine sM fun _=> ?_|(refine sC ?_ ?_<;>intro hb<;>try omega)|fail)
        all_goals try (exfalso;omega)
        refine ⟨(i+m,toks++ [{ t with at_:=(i:Int) }],some g8,c8),⟨by dsimp only;omega,by simp;omega,?_⟩,(by dsimp only;omega),?_,sB,?_⟩
        · dsimp only
          rw [hi4,p6 mJ f (a.size - (i+m)) f (i+m) (by omega) (by omega) (by omega)]
          cases bk bG (ap a) (a.size - (i+m)) (i+m)<;>simp [Except.map]
        · simp only [QP,QS]
          exact sB
        · simp only [QP,QS,Rm,Rj,RC,QW]
          exact mS
  · have e:i=a.size:=by omega
    subst e
    rw [show a.size - a.size=0 by omega] at hi4
    simp only [bk,Except.map,QW] at hi4
    rw [hi4]
    repeat' (first|refine sT ?_|refine sS ?_|refine sT2 ?_|refine sN ?_|refine sM fun _=> ?_|(refine sC ?_ ?_<;>intro hb<;>try omega)|fail)
    all_goals try (exfalso;omega)
    exact oD (.inl rfl) rfl rfl rfl rfl (H' := [.own A 228 8 toks.length cap (toks.flatMap bg)]) mS ⟨A,cap,rfl,rfl⟩
end Go.SL

/-
  Lemmas and walks, put together: R9 R10 Q8 R11.
-/
import Derived.Test.YtoanpdoacdpgeaaGreatDoorKn30
import Derived.Test.YtoanpdoacdpgeaaGreatDoorKn33
set_option linter.unusedSimpArgs false
set_option linter.unusedVariables false
set_option maxRecDepth 20000
namespace Go.SL
open Go Go.Proofs
attribute [local irreducible] W WL WQ WG WA WX WLI WR WT WC VOp RW thn blk bE scp ba bo bL aP FnIn FnP ceP
theorem l4 {a:ByteArray} {i:Nat}:((ap a).drop i).headD 0=bat a i:=by
 by_cases h:i<a.size
 ·
  rw [bk h];rfl
 ·
  rw [pz (by omega),iy (by omega)];rfl
theorem mT (a:ByteArray) (ha:a.size≤256) (i:Nat) (hi:i≤a.size) (w:World):ay Tryz.prog 318 [.string a,.int .i64 (i:Int)] w (.int .i64 ((i+aF cJ ((ap a).drop i):Nat):Int)):=by
 refine aq Tryz.func318 rfl Tryz.ntmps318 rfl ?_
 have hl:=av a
 obtain ⟨X,hX⟩: ∃ X,i+aF cJ ((ap a).drop i)=X:=⟨_,rfl⟩
 rw [hX]
 repeat' (first|refine sT ?_|refine sS ?_|refine sM fun _=> ?_|(refine sC ?_ ?_<;>intro hb<;>try omega)|fail)
 refine ax [0] rfl (fun j:Nat=> [(1,.int .i64 (j:Int))]) (fun _=> []) (fun j=>j≤a.size∧X=j+aF cJ ((ap a).drop j)) (fun j=>a.size - j) i ⟨hi,hX.symm⟩ sB (.refl _) ?_
 rintro j ⟨hj,hx⟩
 have hL:=fun w=>kN a (by omega) j w
 have hD:=fun w=>lL a (by omega) j w
 by_cases hw:cJ (bat a j)=true
 ·
  have hlt:j<a.size:=by
   rcases OO j a.size with h|h
   ·
    exact h
   ·
    rw [iy h] at hw;cases hw
  rw [gx hlt,if_pos hw] at hx
  obtain ⟨b1,hb1⟩: ∃ b,bO (bat a j)=b:=⟨_,rfl⟩
  obtain ⟨b2,hb2⟩: ∃ b,aH (bat a j)=b:=⟨_,rfl⟩
  rw [hb1] at hL;rw [hb2] at hD
  have h12:(b1||b2)=true:=by rw [← hb1,← hb2];exact hw
  cases b1<;>cases b2<;>first|(exact absurd h12 (by decide))|skip
  all_goals
   repeat' (first|(apply aa (f:=284);exact rfl;exact rfl;(intro w' hm;exact hL w'))|(apply aa (f:=281);exact rfl;exact rfl;(intro w' hm;exact hD w'))|refine sT ?_|refine sS ?_|refine sN ?_|refine sM fun _=> ?_|(refine sC ?_ ?_<;>intro hb<;>try omega)|fail)
   exact ⟨j+1,⟨hlt,by omega⟩,by omega,sB,sB,.nil _⟩
 ·
  have hr:aF cJ ((ap a).drop j)=0:=by
   by_cases hlt:j<a.size
   ·
    rw [gx hlt,if_neg hw]
   ·
    rw [pz (by omega)];rfl
  rw [hr,O2] at hx
  subst hx
  have h1:bO (bat a X)=false:=by unfold cJ at hw;revert hw;cases bO (bat a X)<;>simp
  have h2:aH (bat a X)=false:=by unfold cJ at hw;revert hw;cases aH (bat a X)<;>simp
  rw [h1] at hL;rw [h2] at hD
  repeat' (first|(apply aa (f:=284);exact rfl;exact rfl;(intro w' hm;exact hL w'))|(apply aa (f:=281);exact rfl;exact rfl;(intro w' hm;exact hD w'))|(refine rT1 ?_)|refine sT ?_|refine sS ?_|refine sN ?_|refine sM fun _=> ?_|(refine sC ?_ ?_<;>intro hb<;>try omega)|fail)
  rfl
theorem oF (a:ByteArray) (i W:Nat):ap (sub a i (i+W))=((ap a).drop i).take W:=by
 rw [dO];congr 1;omega
def L8 (a:ByteArray) (i:Nat):Value:=
 if bO (bat a i)=false then .tuple #[.agg (cw ⟨0,0⟩).toArray,.int .i64 0,.bool false]
 else .tuple #[.agg (cw ⟨(bY (upW ((ap a).drop i))).1,(bY (upW ((ap a).drop i))).2.1⟩).toArray,.int .i64 ((i+aF cJ ((ap a).drop i):Nat):Int),.bool (decide ((bY (upW ((ap a).drop i))).2.2=0∧bat a (i+aF cJ ((ap a).drop i))≠40))]
set_option maxHeartbeats 1000000 in
theorem mV (a:ByteArray) (ha:a.size≤256) (i:Nat) (hi:i≤a.size) (w:World):ay Tryz.prog 319 [.string a,.int .i64 (i:Int)] w (L8 a i):=by
 refine aq Tryz.func319 rfl Tryz.ntmps319 rfl ?_
 have hl:=av a
 have hL:=fun w=>kN a (by omega) i w
 have hW:=fun w=>mT a ha i hi w
 obtain ⟨W,hWe⟩: ∃ W,aF cJ ((ap a).drop i)=W:=⟨_,rfl⟩
 have hWl:i+W≤a.size:=by
  have:=bR cJ ((ap a).drop i)
  rw [Nq] at this
  omega
 have hP:=fun w=>Cd (sub a i (i+W)) (by rw [bV a (by omega)];omega) w
 rw [oF] at hP
 unfold L8
 rw [MT]
 rw [hWe] at hW ⊢
 obtain ⟨c,r,e,hA⟩: ∃ c r e,bY (((ap a).drop i).take W)=(c,r,e):=⟨_,_,_,rfl⟩
 rw [hA] at hP ⊢
 dsimp only at hP ⊢
 obtain ⟨b,hb⟩: ∃ b,bO (bat a i)=b:=⟨_,rfl⟩
 rw [hb] at hL ⊢
 have hout:a.size≤i+W→bat a (i+W)≠40:=fun h=>by rw [iy h];decide
 cases b with
 |false=>
  repeat' (first|(apply aa (f:=284);exact rfl;exact rfl;(intro w' hm;exact hL w'))|refine sT ?_|refine sS ?_|refine sT2 ?_|refine sN ?_|refine sM fun _=> ?_|(refine sC ?_ ?_<;>intro hb<;>try omega)|fail)
  all_goals ((refine cD ?_);rfl)
 |true=>
  rw [if_neg (by simp)]
  repeat' (first|(apply aa (f:=284);exact rfl;exact rfl;(intro w' hm;exact hL w'))|(apply aa (f:=318);exact rfl;exact rfl;(intro w' hm;exact hW w'))|(apply aa (f:=344);exact rfl;exact rfl;(intro w' hm;exact hP w'))|(apply ak (d:=22);exact rfl;apply fu (lo:=i) (hi:=i+W);(iterate 3 exact rfl);exact ⟨by omega,by omega⟩)|(rename_i g4 g8;refine fP (id:=5) [16] [] [Blk.box g8 50 (cw ⟨c,r⟩)] (by kernel_rfl) (by kernel_rfl) (by kernel_rfl) mS ?_)|(apply bZ (d:=38);(iterate 3 exact rfl);apply aZ (j:=i+W);exact rfl;exact rfl;omega)|refine sT ?_|refine sS ?_|refine sW ?_|refine sT2 ?_|refine sW2 ?_|refine sN ?_|refine sWN ?_|refine sM fun _=> ?_|(refine sC ?_ ?_<;>intro hb<;>try omega)|(refine sCW ?_ ?_<;>intro hb<;>try omega)|fail)
  ·
   (refine cD ?_)
   rw [decide_eq_true (show e=0∧bat a (i+W)≠40 from ⟨by assumption,hout (by omega)⟩)]
   rfl
  ·
   (refine cD ?_)
   have he:e=0:=by assumption
   subst he
   simp only [true_and]
   rfl
  ·
   (refine cD ?_)
   rw [decide_eq_false (show ¬ (e=0∧bat a (i+W)≠40) from fun h=>absurd h.1 (by assumption))]
   rfl
set_option maxHeartbeats 1000000 in
theorem BT (a:ByteArray) (ha:a.size≤256) (i:Nat) (hi:i<a.size) (hli:bO (bat a i)=true) (w:World):aP Tryz.prog 285 [.string a,.int .i64 (i:Int)] w fun v H=>H= []∧TokR i (f9 ((ap a).drop i)) v:=by
  refine aq Tryz.func285 rfl Tryz.ntmps285 rfl ?_
  have hl:=av a
  have hW:=fun w=>mT a ha i (by omega) w
  obtain ⟨W,hWe⟩: ∃ W,aF cJ ((ap a).drop i)=W:=⟨_,rfl⟩
  have hWl:i+W≤a.size:=by
    have:=bR cJ ((ap a).drop i)
    rw [Nq] at this
    omega
  have hA1:=fun w=>mV a ha i (by omega) w
  have hA2:=fun (h:i+W<a.size) w=>mV a ha (i+W+1) h w
  have hU:=fun w=>jB (sub a i (i+W)) (by rw [bV a (by omega)];omega) w
  obtain ⟨U,hUe⟩: ∃ U,upB (sub a i (i+W))=U:=⟨_,rfl⟩
  have hUm:mkB (upW ((ap a).drop i))=U:=by
    rw [← hUe,GA,hWe,← kw (upB _),oX,oF]
  have hl0:((ap a).drop i).headD 0=bat a i:=l4
  have hl1:(((ap a).drop i).drop W).headD 0=bat a (i+W):=by rw [Ow,l4]
  have hd2:((ap a).drop i).drop (W+1)=(ap a).drop (i+W+1):=by rw [Ow,OK]
  have hl2:((ap a).drop (i+W+1)).headD 0=bat a (i+W+1):=l4
  obtain ⟨W2,hW2⟩: ∃ W2,aF cJ ((ap a).drop (i+W+1))=W2:=⟨_,rfl⟩
  have hl3:(((ap a).drop i).drop (W+1+W2)).headD 0=bat a (i+W+1+W2):=by rw [Ow,l4];congr 1;omega
  have hW2l:i+W<a.size→i+W+1+W2≤a.size:=fun h=>by
    have:=bR cJ ((ap a).drop (i+W+1))
    rw [Nq] at this
    omega
  unfold f9
  unfold L8 at hA1 hA2
  rw [hl0,hli,if_neg (by simp)]
  rw [hWe] at hW hA1 ⊢
  rw [hd2,hl1,hl2,hW2,hl3]
  rw [hli,if_neg (by simp)] at hA1
  rw [hW2] at hA2
  rw [hUm]
  rw [hUe] at hU
  obtain ⟨c1,r1,e1,hx1⟩: ∃ c r e,bY (upW ((ap a).drop i))=(c,r,e):=⟨_,_,_,rfl⟩
  obtain ⟨c2,r2,e2,hx2⟩: ∃ c r e,bY (upW ((ap a).drop (i+W+1)))=(c,r,e):=⟨_,_,_,rfl⟩
  rw [hx1] at hA1 ⊢
  rw [hx2] at hA2 ⊢
  dsimp only at hA1 hA2 ⊢
  have hout:a.size≤i+W→bat a (i+W)≠40∧bat a (i+W)≠58:=fun h=>by rw [iy h];decide
  by_cases h40:bat a (i+W)=40
  · rw [if_pos h40]
    have hlt:i+W<a.size:=by
      rcases OO (i+W) a.size with h|h
      · exact h
      · exact absurd h40 (hout h).1
    repeat' (first|(apply aa (f:=318);exact rfl;exact rfl;(intro w' hm;exact hW w'))|(apply aa (f:=188);exact rfl;exact rfl;(intro w' hm;exact hU w'))|(apply ak (d:=22);exact rfl;apply fu (lo:=i) (hi:=i+W);(iterate 3 exact rfl);exact ⟨by omega,by omega⟩)|(apply ak (d:=31);exact rfl;apply aZ (j:=i+W);exact rfl;exact rfl;omega)|refine sT ?_|refine sS ?_|refine sT2 ?_|refine sN ?_|refine sM fun _=> ?_|(refine sC ?_ ?_<;>intro hb<;>try omega)|fail)
    all_goals
      first
      |(exfalso;omega)
      |((refine cD ?_);exact ⟨rfl,rfl⟩)
  rw [if_neg h40]
  clear hli hUm hUe hl0 hl1 hd2 hl2 hl3
  by_cases hT:U=lC
  · rw [if_pos hT]
    subst hT
    repeat' (first|(apply aa (f:=318);exact rfl;exact rfl;(intro w' hm;exact hW w'))|(apply aa (f:=188);exact rfl;exact rfl;(intro w' hm;exact hU w'))|(apply ak (d:=22);exact rfl;apply fu (lo:=i) (hi:=i+W);(iterate 3 exact rfl);exact ⟨by omega,by omega⟩)|(apply ak (d:=31);exact rfl;apply aZ (j:=i+W);exact rfl;exact rfl;omega)|(apply ak (d:=70);exact rfl;apply aZ (j:=i+W);exact rfl;exact rfl;omega)|(apply aa (d:=51);exact rfl;exact rfl;(intro w' hm;exact hA1 w'))|(apply aa (d:=76);exact rfl;exact rfl;(intro w' hm;exact hA2 w'))|(apply aa (f:=320);exact rfl;exact rfl;(intro w' hm;exact gT ⟨c1,r1⟩ w'))|(apply ak (d:=85);exact rfl;exact fC _ _ ▸ iA rfl rfl)|(apply ak (d:=90);exact rfl;exact fC _ _ ▸ iA rfl rfl)|(apply ak (d:=95);exact rfl;exact fD _ _ ▸ gJ rfl rfl)|(apply ak (d:=100);exact rfl;exact fD _ _ ▸ gJ rfl rfl)|(apply ak (d:=105);exact rfl;exact gP (a:=⟨c1,r1⟩) (b:=⟨c2,r2⟩) rfl rfl rfl)|refine sT ?_|refine sS ?_|refine sT2 ?_|refine sN ?_|refine sM fun _=> ?_|(refine sC ?_ ?_<;>intro hb<;>try omega)|fail)
    all_goals
      first
      |(exfalso;omega)
      |(exact absurd rfl (by assumption))
      |((refine cD ?_);exact ⟨rfl,rfl⟩)
  rw [if_neg hT]
  by_cases hF:U=jV
  · rw [if_pos hF]
    subst hF
    repeat' (first|(apply aa (f:=318);exact rfl;exact rfl;(intro w' hm;exact hW w'))|(apply aa (f:=188);exact rfl;exact rfl;(intro w' hm;exact hU w'))|(apply ak (d:=22);exact rfl;apply fu (lo:=i) (hi:=i+W);(iterate 3 exact rfl);exact ⟨by omega,by omega⟩)|(apply ak (d:=31);exact rfl;apply aZ (j:=i+W);exact rfl;exact rfl;omega)|(apply ak (d:=70);exact rfl;apply aZ (j:=i+W);exact rfl;exact rfl;omega)|(apply aa (d:=51);exact rfl;exact rfl;(intro w' hm;exact hA1 w'))|(apply aa (d:=76);exact rfl;exact rfl;(intro w' hm;exact hA2 w'))|(apply aa (f:=320);exact rfl;exact rfl;(intro w' hm;exact gT ⟨c1,r1⟩ w'))|(apply ak (d:=85);exact rfl;exact fC _ _ ▸ iA rfl rfl)|(apply ak (d:=90);exact rfl;exact fC _ _ ▸ iA rfl rfl)|(apply ak (d:=95);exact rfl;exact fD _ _ ▸ gJ rfl rfl)|(apply ak (d:=100);exact rfl;exact fD _ _ ▸ gJ rfl rfl)|(apply ak (d:=105);exact rfl;exact gP (a:=⟨c1,r1⟩) (b:=⟨c2,r2⟩) rfl rfl rfl)|refine sT ?_|refine sS ?_|refine sT2 ?_|refine sN ?_|refine sM fun _=> ?_|(refine sC ?_ ?_<;>intro hb<;>try omega)|fail)
    all_goals
      first
      |(exfalso;omega)
      |(exact absurd (by assumption) hT)
      |(exact absurd rfl (by assumption))
      |((refine cD ?_);exact ⟨rfl,rfl⟩)
  rw [if_neg hF]
  have hT' : ¬ U=({ data:= #[84,82,85,69] }:ByteArray):=hT
  have hF' : ¬ U=({ data:= #[70,65,76,83,69] }:ByteArray):=hF
  simp only [ne_eq,h40,not_false_eq_true,and_true] at hA1
  by_cases he1:e1=0
  · rw [if_neg (fun h=>h he1)]
    rw [decide_eq_true he1] at hA1
    by_cases h58:bat a (i+W)=58
    · have hlt:i+W<a.size:=by
        rcases OO (i+W) a.size with h|h
        · exact h
        · exact absurd h58 (hout h).2
      replace hA2:=hA2 hlt
      by_cases hl2:bO (bat a (i+W+1))=true
      · rw [hl2,if_neg (by simp)] at hA2
        by_cases hok:e2=0∧bat a (i+W+1+W2)≠40
        · rw [if_pos ⟨h58,hl2,hok⟩]
          rw [decide_eq_true hok] at hA2
          repeat' (first|(apply aa (f:=318);exact rfl;exact rfl;(intro w' hm;exact hW w'))|(apply aa (f:=188);exact rfl;exact rfl;(intro w' hm;exact hU w'))|(apply ak (d:=22);exact rfl;apply fu (lo:=i) (hi:=i+W);(iterate 3 exact rfl);exact ⟨by omega,by omega⟩)|(apply ak (d:=31);exact rfl;apply aZ (j:=i+W);exact rfl;exact rfl;omega)|(apply ak (d:=70);exact rfl;apply aZ (j:=i+W);exact rfl;exact rfl;omega)|(apply aa (d:=51);exact rfl;exact rfl;(intro w' hm;exact hA1 w'))|(apply aa (d:=76);exact rfl;exact rfl;(intro w' hm;exact hA2 w'))|(apply aa (f:=320);exact rfl;exact rfl;(intro w' hm;exact gT ⟨c1,r1⟩ w'))|(apply ak (d:=85);exact rfl;exact fC _ _ ▸ iA rfl rfl)|(apply ak (d:=90);exact rfl;exact fC _ _ ▸ iA rfl rfl)|(apply ak (d:=95);exact rfl;exact fD _ _ ▸ gJ rfl rfl)|(apply ak (d:=100);exact rfl;exact fD _ _ ▸ gJ rfl rfl)|(apply ak (d:=105);exact rfl;exact gP (a:=⟨c1,r1⟩) (b:=⟨c2,r2⟩) rfl rfl rfl)|refine sT ?_|refine sS ?_|refine sT2 ?_|refine sN ?_|refine sM fun _=> ?_|(refine sC ?_ ?_<;>intro hb<;>try omega)|fail)
          all_goals
            first
            |(exfalso;omega)
            |(exact absurd (by assumption) hT')
            |(exact absurd (by assumption) hF')
            |((refine cD ?_);exact ⟨rfl,cU,_,rfl⟩)
            |((refine cD ?_);exact ⟨rfl,rfl⟩)
            | ((refine cD ?_)
               refine ⟨rfl,?_⟩
               have hne: ¬ (c1=c2∧r1=r2):=fun h=>(by assumption:(⟨c1,r1⟩:Rf)≠⟨c2,r2⟩) (by rw [h.1,h.2])
               simp only [TokR,if_neg hne]
               rw [show i+(W+1+W2)=i+W+1+W2 by omega]
               rfl)
            | ((refine cD ?_)
               refine ⟨rfl,?_⟩
               have heq:c1=c2∧r1=r2:=by
                 have:(⟨c1,r1⟩:Rf)=⟨c2,r2⟩:=Classical.not_not.1 (by assumption)
                 cases this
                 exact ⟨rfl,rfl⟩
               simp only [TokR,if_pos heq]
               rw [show i+(W+1+W2)=i+W+1+W2 by omega]
               rfl)
        · rw [if_neg fun h=>hok h.2.2]
          rw [decide_eq_false hok] at hA2
          repeat' (first|(apply aa (f:=318);exact rfl;exact rfl;(intro w' hm;exact hW w'))|(apply aa (f:=188);exact rfl;exact rfl;(intro w' hm;exact hU w'))|(apply ak (d:=22);exact rfl;apply fu (lo:=i) (hi:=i+W);(iterate 3 exact rfl);exact ⟨by omega,by omega⟩)|(apply ak (d:=31);exact rfl;apply aZ (j:=i+W);exact rfl;exact rfl;omega)|(apply ak (d:=70);exact rfl;apply aZ (j:=i+W);exact rfl;exact rfl;omega)|(apply aa (d:=51);exact rfl;exact rfl;(intro w' hm;exact hA1 w'))|(apply aa (d:=76);exact rfl;exact rfl;(intro w' hm;exact hA2 w'))|(apply aa (f:=320);exact rfl;exact rfl;(intro w' hm;exact gT ⟨c1,r1⟩ w'))|(apply ak (d:=85);exact rfl;exact fC _ _ ▸ iA rfl rfl)|(apply ak (d:=90);exact rfl;exact fC _ _ ▸ iA rfl rfl)|(apply ak (d:=95);exact rfl;exact fD _ _ ▸ gJ rfl rfl)|(apply ak (d:=100);exact rfl;exact fD _ _ ▸ gJ rfl rfl)|(apply ak (d:=105);exact rfl;exact gP (a:=⟨c1,r1⟩) (b:=⟨c2,r2⟩) rfl rfl rfl)|refine sT ?_|refine sS ?_|refine sT2 ?_|refine sN ?_|refine sM fun _=> ?_|(refine sC ?_ ?_<;>intro hb<;>try omega)|fail)
          all_goals
            first
            |(exfalso;omega)
            |(exact absurd (by assumption) hT')
            |(exact absurd (by assumption) hF')
            |((refine cD ?_);exact ⟨rfl,cU,_,rfl⟩)
            |((refine cD ?_);exact ⟨rfl,rfl⟩)
            | ((refine cD ?_)
               refine ⟨rfl,?_⟩
               have hne: ¬ (c1=c2∧r1=r2):=fun h=>(by assumption:(⟨c1,r1⟩:Rf)≠⟨c2,r2⟩) (by rw [h.1,h.2])
               simp only [TokR,if_neg hne]
               rw [show i+(W+1+W2)=i+W+1+W2 by omega]
               rfl)
            | ((refine cD ?_)
               refine ⟨rfl,?_⟩
               have heq:c1=c2∧r1=r2:=by
                 have:(⟨c1,r1⟩:Rf)=⟨c2,r2⟩:=Classical.not_not.1 (by assumption)
                 cases this
                 exact ⟨rfl,rfl⟩
               simp only [TokR,if_pos heq]
               rw [show i+(W+1+W2)=i+W+1+W2 by omega]
               rfl)
      · rw [if_neg fun h=>hl2 h.2.1]
        rw [if_pos (by simpa using hl2)] at hA2
        repeat' (first|(apply aa (f:=318);exact rfl;exact rfl;(intro w' hm;exact hW w'))|(apply aa (f:=188);exact rfl;exact rfl;(intro w' hm;exact hU w'))|(apply ak (d:=22);exact rfl;apply fu (lo:=i) (hi:=i+W);(iterate 3 exact rfl);exact ⟨by omega,by omega⟩)|(apply ak (d:=31);exact rfl;apply aZ (j:=i+W);exact rfl;exact rfl;omega)|(apply ak (d:=70);exact rfl;apply aZ (j:=i+W);exact rfl;exact rfl;omega)|(apply aa (d:=51);exact rfl;exact rfl;(intro w' hm;exact hA1 w'))|(apply aa (d:=76);exact rfl;exact rfl;(intro w' hm;exact hA2 w'))|(apply aa (f:=320);exact rfl;exact rfl;(intro w' hm;exact gT ⟨c1,r1⟩ w'))|(apply ak (d:=85);exact rfl;exact fC _ _ ▸ iA rfl rfl)|(apply ak (d:=90);exact rfl;exact fC _ _ ▸ iA rfl rfl)|(apply ak (d:=95);exact rfl;exact fD _ _ ▸ gJ rfl rfl)|(apply ak (d:=100);exact rfl;exact fD _ _ ▸ gJ rfl rfl)|(apply ak (d:=105);exact rfl;exact gP (a:=⟨c1,r1⟩) (b:=⟨c2,r2⟩) rfl rfl rfl)|refine sT ?_|refine sS ?_|refine sT2 ?_|refine sN ?_|refine sM fun _=> ?_|(refine sC ?_ ?_<;>intro hb<;>try omega)|fail)
        all_goals
          first
          |(exfalso;omega)
          |(exact absurd (by assumption) hT')
          |(exact absurd (by assumption) hF')
          |((refine cD ?_);exact ⟨rfl,cU,_,rfl⟩)
          |((refine cD ?_);exact ⟨rfl,rfl⟩)
          | ((refine cD ?_)
             refine ⟨rfl,?_⟩
             have hne: ¬ (c1=c2∧r1=r2):=fun h=>(by assumption:(⟨c1,r1⟩:Rf)≠⟨c2,r2⟩) (by rw [h.1,h.2])
             simp only [TokR,if_neg hne]
             rw [show i+(W+1+W2)=i+W+1+W2 by omega]
             rfl)
          | ((refine cD ?_)
             refine ⟨rfl,?_⟩
             have heq:c1=c2∧r1=r2:=by
               have:(⟨c1,r1⟩:Rf)=⟨c2,r2⟩:=Classical.not_not.1 (by assumption)
               cases this
               exact ⟨rfl,rfl⟩
             simp only [TokR,if_pos heq]
             rw [show i+(W+1+W2)=i+W+1+W2 by omega]
             rfl)
    · rw [if_neg fun h=>h58 h.1]
      repeat' (first|(apply aa (f:=318);exact rfl;exact rfl;(intro w' hm;exact hW w'))|(apply aa (f:=188);exact rfl;exact rfl;(intro w' hm;exact hU w'))|(apply ak (d:=22);exact rfl;apply fu (lo:=i) (hi:=i+W);(iterate 3 exact rfl);exact ⟨by omega,by omega⟩)|(apply ak (d:=31);exact rfl;apply aZ (j:=i+W);exact rfl;exact rfl;omega)|(apply ak (d:=70);exact rfl;apply aZ (j:=i+W);exact rfl;exact rfl;omega)|(apply aa (d:=51);exact rfl;exact rfl;(intro w' hm;exact hA1 w'))|(apply aa (d:=76);exact rfl;exact rfl;(intro w' hm;exact hA2 w'))|(apply aa (f:=320);exact rfl;exact rfl;(intro w' hm;exact gT ⟨c1,r1⟩ w'))|(apply ak (d:=85);exact rfl;exact fC _ _ ▸ iA rfl rfl)|(apply ak (d:=90);exact rfl;exact fC _ _ ▸ iA rfl rfl)|(apply ak (d:=95);exact rfl;exact fD _ _ ▸ gJ rfl rfl)|(apply ak (d:=100);exact rfl;exact fD _ _ ▸ gJ rfl rfl)|(apply ak (d:=105);exact rfl;exact gP (a:=⟨c1,r1⟩) (b:=⟨c2,r2⟩) rfl rfl rfl)|refine sT ?_|refine sS ?_|refine sT2 ?_|refine sN ?_|refine sM fun _=> ?_|(refine sC ?_ ?_<;>intro hb<;>try omega)|fail)
      all_goals
        first
        |(exfalso;omega)
        |(exact absurd (by assumption) hT')
        |(exact absurd (by assumption) hF')
        |((refine cD ?_);exact ⟨rfl,cU,_,rfl⟩)
        |((refine cD ?_);exact ⟨rfl,rfl⟩)
        | ((refine cD ?_)
           refine ⟨rfl,?_⟩
           have hne: ¬ (c1=c2∧r1=r2):=fun h=>(by assumption:(⟨c1,r1⟩:Rf)≠⟨c2,r2⟩) (by rw [h.1,h.2])
           simp only [TokR,if_neg hne]
           rw [show i+(W+1+W2)=i+W+1+W2 by omega]
           rfl)
        | ((refine cD ?_)
           refine ⟨rfl,?_⟩
           have heq:c1=c2∧r1=r2:=by
             have:(⟨c1,r1⟩:Rf)=⟨c2,r2⟩:=Classical.not_not.1 (by assumption)
             cases this
             exact ⟨rfl,rfl⟩
           simp only [TokR,if_pos heq]
           rw [show i+(W+1+W2)=i+W+1+W2 by omega]
           rfl)
  · rw [if_pos he1]
    rw [decide_eq_false he1] at hA1
    repeat' (first|(apply aa (f:=318);exact rfl;exact rfl;(intro w' hm;exact hW w'))|(apply aa (f:=188);exact rfl;exact rfl;(intro w' hm;exact hU w'))|(apply ak (d:=22);exact rfl;apply fu (lo:=i) (hi:=i+W);(iterate 3 exact rfl);exact ⟨by omega,by omega⟩)|(apply ak (d:=31);exact rfl;apply aZ (j:=i+W);exact rfl;exact rfl;omega)|(apply ak (d:=70);exact rfl;apply aZ (j:=i+W);exact rfl;exact rfl;omega)|(apply aa (d:=51);exact rfl;exact rfl;(intro w' hm;exact hA1 w'))|(apply aa (d:=76);exact rfl;exact rfl;(intro w' hm;exact hA2 w'))|(apply aa (f:=320);exact rfl;exact rfl;(intro w' hm;exact gT ⟨c1,r1⟩ w'))|(apply ak (d:=85);exact rfl;exact fC _ _ ▸ iA rfl rfl)|(apply ak (d:=90);exact rfl;exact fC _ _ ▸ iA rfl rfl)|(apply ak (d:=95);exact rfl;exact fD _ _ ▸ gJ rfl rfl)|(apply ak (d:=100);exact rfl;exact fD _ _ ▸ gJ rfl rfl)|(apply ak (d:=105);exact rfl;exact gP (a:=⟨c1,r1⟩) (b:=⟨c2,r2⟩) rfl rfl rfl)|refine sT ?_|refine sS ?_|refine sT2 ?_|refine sN ?_|refine sM fun _=> ?_|(refine sC ?_ ?_<;>intro hb<;>try omega)|fail)
    all_goals
      first
      |(exfalso;omega)
      |(exact absurd (by assumption) hT')
      |(exact absurd (by assumption) hF')
      |((refine cD ?_);exact ⟨rfl,cU,_,rfl⟩)
      |((refine cD ?_);exact ⟨rfl,rfl⟩)
      | ((refine cD ?_)
         refine ⟨rfl,?_⟩
         have hne: ¬ (c1=c2∧r1=r2):=fun h=>(by assumption:(⟨c1,r1⟩:Rf)≠⟨c2,r2⟩) (by rw [h.1,h.2])
         simp only [TokR,if_neg hne]
         rw [show i+(W+1+W2)=i+W+1+W2 by omega]
         rfl)
      | ((refine cD ?_)
         refine ⟨rfl,?_⟩
         have heq:c1=c2∧r1=r2:=by
           have:(⟨c1,r1⟩:Rf)=⟨c2,r2⟩:=Classical.not_not.1 (by assumption)
           cases this
           exact ⟨rfl,rfl⟩
         simp only [TokR,if_pos heq]
         rw [show i+(W+1+W2)=i+W+1+W2 by omega]
         rfl)
def opB (k:Int):ByteArray:=
 if k=1 then ⟨#[43]⟩ else if k=2 then ⟨#[45]⟩ else if k=3 then ⟨#[42]⟩ else if k=4 then ⟨#[47]⟩ else if k=5 then ⟨#[94]⟩ else if k=6 then ⟨#[38]⟩ else if k=7 then ⟨#[61]⟩
 else if k=8 then ⟨#[60,62]⟩ else if k=9 then ⟨#[60]⟩ else if k=10 then ⟨#[60,61]⟩ else if k=11 then ⟨#[62]⟩ else if k=12 then ⟨#[62,61]⟩ else if k=13 then ⟨#[37]⟩ else ⟨#[]⟩
theorem sH (k:Int) (w:World):ay Tryz.prog 323 [.int .i64 k] w (.string (opB k)):=by
 refine aq Tryz.func323 rfl Tryz.ntmps323 rfl ?_
 repeat' (first|(refine rT1 ?_)|refine sT ?_|refine sS ?_|refine sM fun _=> ?_|(refine sC ?_ ?_<;>intro hb<;>try omega)|fail)
 all_goals
  unfold opB
  repeat (first|rw [if_pos (by assumption)]|rw [if_neg (by assumption)])
theorem xb (a:ByteArray) (ha:a.size≤256) (i:Nat) (hi:i≤a.size) (s:ByteArray) (hs:s.size≤1000) (w:World):ay Tryz.prog 322 [.string a,.int .i64 (i:Int),.string s] w (.bool (decide ((((ap a).drop i).take s.size).map upC=ap s))):=by
 refine aq Tryz.func322 rfl Tryz.ntmps322 rfl ?_
 have hl:=av a
 have hU:=fun h:i+s.size≤a.size=>fun w=>jB (sub a i (i+s.size)) (by rw [bV a h];omega) w
 repeat' (first|(apply aa (f:=188);exact rfl;exact rfl;(intro w' hm;exact hU (by omega) w'))|(apply ak (d:=21);exact rfl;apply fu (lo:=i) (hi:=i+s.size);(iterate 3 exact rfl);exact ⟨by omega,by omega⟩)|(refine rT1 ?_)|refine sT ?_|refine sS ?_|refine sT2 ?_|refine sN ?_|refine sM fun _=> ?_|(refine sC ?_ ?_<;>intro hb<;>try omega)|fail)
 ·
  have:(upB (sub a i (i+s.size))=s)=((((ap a).drop i).take s.size).map upC=ap s):=by
   rw [eq_iff_iff]
   constructor
   ·
    intro h
    rw [← h,oX,oF,h]
   ·
    intro h
    apply tL
    rw [oX,oF,h]
  simp only [this]
 ·
  rw [decide_eq_false]
  intro h
  have:=congrArg List.length h
  rw [Oi,Nu,Nq,hl,av] at this
  omega
theorem BP {p:Int→Bool} {l:List Int} (h:aF p l=l.length): ∀ c∈l,p c=true:=by
 intro c hc
 have:c∈l.take (aF p l):=by rw [h,N0];exact hc
 exact kg this
theorem Ks (l0:List Int): -9223372036854775808≤(fU l0).1:=by
 unfold fU
 extract_lets neg l n rest frac p5
 split
 ·
  show (-9223372036854775808:Int)≤0
  omega
 ·
  rename_i v _hc
  have h0:0≤bu (l.take n++p5.take 4) 0:=by
   refine pZ _ (fun c hc=> ?_) (OH _)
   rcases NJ.1 hc with hc|hc
   ·
    have:=kg (p:=aH) hc
    rw [d9] at this
    exact this.1
   ·
    have hc:=Ot hc
    rcases NJ.1 hc with hc|hc
    ·
     by_cases hf:frac=true
     ·
      rw [if_pos hf] at hc
      simp only [frac,Nm,decide_eq_true_eq] at hf
      have hl:rest.tail.length=rest.length - 1:=PO
      have:=BP (p:=aH) (l:=rest.tail) (by omega) c hc
      rw [d9] at this
      exact this.1
     ·
      rw [if_neg hf] at hc
      cases hc
    ·
     simp only [NA,OL,or_false,or_self] at hc
     omega
  have hv0:0≤v:=by
   show 0≤bu (l.take n++p5.take 4) 0+(if 53≤p5.getD 4 0 then 1 else 0)
   split<;>omega
  split
  ·
   show (-9223372036854775808:Int)≤0
   omega
  ·
   rename_i hv
   simp only [cC] at hv
   split
   ·
    show (-9223372036854775808:Int)≤ -v
    omega
   ·
    show (-9223372036854775808:Int)≤v
    omega
set_option maxHeartbeats 2000000 in
theorem zh (b:ByteArray) (hb:b.size≤1000000) (w:World):ay Tryz.prog 146 [.string b] w (.agg (di (uk b)).toArray):=by
  refine aq Tryz.func146 rfl Tryz.ntmps146 rfl ?_
  by_cases h0:b=au
  · subst h0
    repeat' (first|refine sT ?_|refine sS ?_|refine sT2 ?_|refine sM fun _=> ?_|(refine sC ?_ ?_<;>intro hb<;>try omega)|fail)
    all_goals first
      |((refine eRC ?_);rfl)
      |(exfalso;rename_i hb;exact hb rfl)
  have hpos:0<b.size:=by
    rcases N9 b.size with h|h
    · exact absurd (ByteArray.ext (Array.eq_empty_of_size_eq_zero h)) h0
    · exact h
  have hU:=fun w=>jB b hb w
  have hC:=fun w=>Cc b hb w
  have hD:=fun w=>EP b hb w
  have hge:=Ks (ap b)
  have hM:=fun w=>B6 _ hge w
  have hF:=fun c w=>nN c w
  have hTr:=fun c w=>y7 c w
  have hhd:(ap b).headD 0=bat b 0:=by have:=l4 (a:=b) (i:=0);rwa [OC] at this
  have hsub:sub b 1 b.size=mkB (ap b).tail:=by
    refine HF ?_
    rw [dO,List.drop_one,NQ]
    rw [PO,av];exact Ni _
  unfold uk
  rw [if_neg h0,hhd]
  obtain ⟨u,hu⟩: ∃ u,upB b=u:=⟨_,rfl⟩
  obtain ⟨⟨cn,ce⟩,hce⟩: ∃ u,gM b=u:=⟨_,rfl⟩
  obtain ⟨⟨dn,de⟩,hde⟩: ∃ u,fU (ap b)=u:=⟨_,rfl⟩
  rw [hu] at hU ⊢
  rw [hce] at hC ⊢
  rw [hde] at hD hM hge ⊢
  dsimp only at hC hD hM hge ⊢
  by_cases h1:bat b 0=39
  · rw [if_pos h1]
    repeat' (first|(apply ak (d:=7);exact rfl;apply dJ;exact rfl;exact rfl;exact h0)|(apply ak (d:=10);exact rfl;apply aZ (j:=0);exact rfl;exact rfl;exact hpos)|(apply ak (d:=13);exact rfl;apply rQ (lo:=1);exact rfl;exact rfl;omega)|refine sT ?_|refine sS ?_|refine sT2 ?_|refine sM fun _=> ?_|(refine sC ?_ ?_<;>intro hb<;>try omega)|fail)
    all_goals first
      |(exfalso;omega)
      |((refine eRC ?_);rw [hsub];rfl)
  rw [if_neg h1]
  by_cases h2:u=lC
  · rw [if_pos (.inl h2),decide_eq_true h2]
    repeat' (first|(apply ak (d:=7);exact rfl;apply dJ;exact rfl;exact rfl;exact h0)|(apply ak (d:=10);exact rfl;apply aZ (j:=0);exact rfl;exact rfl;exact hpos)|(apply aa;exact rfl;exact rfl;(intro w hm;exact hU w))|(apply ak (d:=17);exact rfl;apply lA;exact rfl;exact rfl;exact h2)|(apply ak (d:=25);exact rfl;apply lA;exact rfl;exact rfl;exact h2)|(apply aa (f:=189);exact rfl;exact rfl;(intro w' _;exact hTr true w'))|refine sT ?_|refine sS ?_|refine sT2 ?_|refine sM fun _=> ?_|(refine sC ?_ ?_<;>intro hb<;>try omega)|fail)
    all_goals first
      |(exfalso;omega)
      |((refine eRC ?_);rfl)
  by_cases h3:u=jV
  · rw [if_pos (.inr h3),decide_eq_false h2]
    repeat' (first|(apply ak (d:=7);exact rfl;apply dJ;exact rfl;exact rfl;exact h0)|(apply ak (d:=10);exact rfl;apply aZ (j:=0);exact rfl;exact rfl;exact hpos)|(apply aa;exact rfl;exact rfl;(intro w hm;exact hU w))|(apply ak (d:=17);exact rfl;apply dJ;exact rfl;exact rfl;exact h2)|(apply ak (d:=21);exact rfl;apply lA;exact rfl;exact rfl;exact h3)|(apply ak (d:=25);exact rfl;apply dJ;exact rfl;exact rfl;exact h2)|(apply aa (f:=189);exact rfl;exact rfl;(intro w' _;exact hTr false w'))|refine sT ?_|refine sS ?_|refine sT2 ?_|refine sM fun _=> ?_|(refine sC ?_ ?_<;>intro hb<;>try omega)|fail)
    all_goals first
      |(exfalso;omega)
      |((refine eRC ?_);rfl)
  rw [if_neg (by simp [h2,h3])]
  repeat' (first|(apply ak (d:=7);exact rfl;apply dJ;exact rfl;exact rfl;exact h0)|(apply ak (d:=10);exact rfl;apply aZ (j:=0);exact rfl;exact rfl;exact hpos)|(apply aa;exact rfl;exact rfl;(intro w hm;exact hU w))|(apply ak (d:=17);exact rfl;apply dJ;exact rfl;exact rfl;exact h2)|(apply ak (d:=21);exact rfl;apply dJ;exact rfl;exact rfl;exact h3)|(apply aa;exact rfl;exact rfl;(intro w hm;exact hC w))|(apply aa;exact rfl;exact rfl;(intro w hm;exact hD w))|(apply aa;exact rfl;exact rfl;(intro w hm;exact hM w))|(apply aa (f:=191);exact rfl;exact rfl;(intro w' _;exact hF _ w'))|refine sT ?_|refine sS ?_|refine sT2 ?_|refine sM fun _=> ?_|(refine sC ?_ ?_<;>intro hb<;>try omega)|fail)
  all_goals first
    |(exfalso;omega)
    | ((refine eRC ?_)
       (repeat (first|rw [if_pos (by first|assumption|omega)]|rw [if_neg (by first|assumption|omega)]))
       rfl)
def Co (z:Nat) (k:Nat):List (List Int × Int):=((List.range' k (14 - k)).map fun (j:Nat)=>(ap (opB (j:Int)),(j:Int))).filter fun x=>decide (x.1.length=z)
def J5:Nat→List (List Int × Int)
 |0=> []
 |z+1=>Co (z+1) 1++J5 z
theorem Ht:J5 2=eD:=by decide+kernel
theorem E0 {z k:Nat} (h:k≤13):Co z k=if (opB (k:Int)).size=z then (ap (opB (k:Int)),(k:Int))::Co z (k+1) else Co z (k+1):=by
 unfold Co
 rw [show 14 - k=(13 - k)+1 by omega,List.range'_succ,NM,List.filter_cons,show 14 - (k+1)=13 - k by omega]
 simp only [av,decide_eq_true_eq]
theorem Hs (z:Nat):Co z 14= []:=rfl
theorem J6 {l:List Int} {s:List Int} {k:Int} {r:List (List Int × Int)} (h:l.take s.length=s):opL l ((s,k)::r)=some (k,s.length):=by
 rw [opL,if_pos h]
theorem LI (k:Nat) (h:k≤13): ∀ c∈ap (opB (k:Int)),¬ (65≤c∧c≤90)∧ ¬ (97≤c∧c≤122):=by
 rcases (by omega:k=0∨k=1∨k=2∨k=3∨k=4∨k=5∨k=6∨k=7∨k=8∨k=9∨k=10∨k=11∨k=12∨k=13) with rfl|rfl|rfl|rfl|rfl|rfl|rfl|rfl|rfl|rfl|rfl|rfl|rfl|rfl<;>decide+kernel
theorem Du {s:List Int} (hs: ∀ c∈s,¬ (65≤c∧c≤90)∧ ¬ (97≤c∧c≤122)): ∀ l:List Int,l.map upC=s↔l=s:=by
 induction s with
 |nil=>intro l;simp
 |cons d s ih=>
  intro l
  cases l with
  |nil=>simp
  |cons c l=>
   simp only [NM,List.cons.injEq,ih (fun c hc=>hs c (Nv _ hc)) l]
   have hd:=hs d Nj
   have:upC c=d↔c=d:=by
    unfold upC
    split<;>omega
   rw [this]
theorem wH {k:Nat} (h:k<5):ap (cy.getD (k+1) au)=dz.getD k []∧dz.drop k=dz.getD k []::dz.drop (k+1)∧(cy.getD (k+1) au).size≤10:=by
 rcases (by omega:k=0∨k=1∨k=2∨k=3∨k=4) with rfl|rfl|rfl|rfl|rfl<;>decide+kernel
set_option maxHeartbeats 2000000 in
theorem BV (a:ByteArray) (ha:a.size≤256) (i:Nat) (hi:i<a.size) (w:World):aP Tryz.prog 286 [.string a,.int .i64 (i:Int)] w fun v H=>H= []∧TokR i (iN ((ap a).drop i)) v:=by
  refine aq Tryz.func286 rfl Tryz.ntmps286 rfl ?_
  have hl:=av a
  have hh:((ap a).drop i).headD 0=bat a i:=l4
  have hB:=fun s hs w=>xb a ha i (by omega) s hs w
  obtain ⟨l,hll⟩: ∃ l,(ap a).drop i=l:=⟨_,rfl⟩
  rw [hll] at hh hB ⊢
  obtain ⟨F,hF⟩: ∃ F,ju l dz 1=F:=⟨_,rfl⟩
  repeat' (first|refine sT ?_|refine sS ?_|refine sT2 ?_|refine sM fun _=> ?_|(refine sC ?_ ?_<;>intro hb<;>try omega)|fail)
  rename_i g4
  refine ax [0,1,4] rfl (fun k:Nat=> [(7,.int .i64 ((k+1:Nat):Int))]) (fun _=> [.box g4 228 (bh cU)]) (fun k=>k≤5∧F=ju l (dz.drop k) ((k+1:Nat):Int)) (fun k=>5 - k) 0 ⟨by omega,hF.symm⟩ sB mS ?_
  rintro k ⟨hk,hFk⟩
  by_cases hk5:k<5
  · obtain ⟨hn1,hn2,hn3⟩:=wH hk5
    have hS:=fun w=>BW ((k+1:Nat):Int) (by omega) (by omega) w
    rw [Ov] at hS
    obtain ⟨s,hs⟩: ∃ s,cy.getD (k+1) au=s:=⟨_,rfl⟩
    rw [hs] at hS hn1 hn3
    have hBs:=hB s (by omega)
    rw [hn2,ju,← hn1,av] at hFk
    by_cases hb:(l.take s.size).map upC=ap s
    · rw [if_pos hb] at hFk
      rw [decide_eq_true hb] at hBs
      repeat' (first|(apply aa (f:=321);exact rfl;exact rfl;(intro w' hm;exact hS w'))|(apply aa (f:=322);exact rfl;exact rfl;(intro w' hm;exact hBs w'))|refine sT ?_|refine sS ?_|refine sT2 ?_|refine sN ?_|refine sM fun _=> ?_|(refine sC ?_ ?_<;>intro hb<;>try omega)|fail)
      all_goals
        first
        |(exfalso;omega)
        |((refine cD ?_);refine ⟨rfl,?_⟩;rw [iN,jL,hF,hFk];rfl)
    · rw [if_neg hb] at hFk
      rw [decide_eq_false hb] at hBs
      repeat' (first|(apply aa (f:=321);exact rfl;exact rfl;(intro w' hm;exact hS w'))|(apply aa (f:=322);exact rfl;exact rfl;(intro w' hm;exact hBs w'))|refine sT ?_|refine sS ?_|refine sT2 ?_|refine sN ?_|refine sM fun _=> ?_|(refine sC ?_ ?_<;>intro hb<;>try omega)|fail)
      all_goals
        first
        |(exfalso;omega)
        |exact ⟨k+1,⟨by omega,hFk⟩,by omega,sB,sB,.refl _⟩
  have ek:k=5:=by omega
  subst ek
  have hsr:iN l=gK l:=by
    rw [iN,jL,hF,hFk];rfl
  rw [hsr]
  clear hF hFk hsr hk hk5
  obtain ⟨O,hO⟩: ∃ O,opL l eD=O:=⟨_,rfl⟩
  repeat' (first|refine sT ?_|refine sS ?_|refine sT2 ?_|refine sM fun _=> ?_|(refine sC ?_ ?_<;>intro hb<;>try omega)|fail)
  refine ax [0,1,4] rfl (fun z:Nat=> [(9,.int .i64 (z:Int))]) (fun _=> [.box g4 228 (bh cU)]) (fun z=>z≤2∧O=opL l (J5 z)) (fun z=>z) 2 ⟨by omega,by rw [Ht,hO]⟩ sB mS ?_
  rintro z ⟨hz,hOz⟩
  cases z with
  |zero=>
    have hOn:O=none:=hOz
    subst hOn
    have hsp:gK l=if bat a i=40 then some (⟨9,0,au,aO,0⟩,1) else if bat a i=41 then some (⟨10,0,au,aO,0⟩,1) else if bat a i=44 then some (⟨11,0,au,aO,0⟩,1) else none:=by
      unfold gK
      rw [hO,hh]
    rw [hsp]
    repeat' (first|(apply ak (d:=58);exact rfl;apply aZ (j:=i);exact rfl;exact rfl;omega)|refine sT ?_|refine sS ?_|refine sT2 ?_|refine sN ?_|refine sM fun _=> ?_|(refine sC ?_ ?_<;>intro hb<;>try omega)|fail)
    all_goals
      first
      |(exfalso;omega)
      | ((refine cD ?_)
         refine ⟨rfl,?_⟩
         repeat (first|rw [if_pos (by assumption)]|rw [if_neg (by assumption)])
         first|exact rfl|exact ⟨cU,_,rfl⟩)
  |succ z=>
    repeat' (first|refine sT ?_|refine sS ?_|refine sT2 ?_|refine sM fun _=> ?_|(refine sC ?_ ?_<;>intro hb<;>try omega)|fail)
    all_goals try (exfalso;omega)
    refine ax [0,1,4,9] rfl (fun k:Nat=> [(10,.int .i64 (k:Int))]) (fun _=> [.box g4 228 (bh cU)]) (fun k=>1≤k∧k≤14∧O=opL l (Co (z+1) k++J5 z)) (fun k=>14 - k) 1 ⟨by omega,by omega,hOz⟩ sB mS ?_
    rintro k ⟨hk1,hk2,hOk⟩
    by_cases hk14:k=14
    · subst hk14
      rw [Hs,Ng] at hOk
      repeat' (first|refine sT ?_|refine sS ?_|refine sT2 ?_|refine sN ?_|refine sM fun _=> ?_|(refine sC ?_ ?_<;>intro hb<;>try omega)|fail)
      all_goals
        first
        |(exfalso;omega)
        |exact ⟨z,⟨by omega,hOk⟩,by omega,sB,sB,.refl _⟩
    rw [E0 (by omega)] at hOk
    obtain ⟨s,hs⟩: ∃ s,opB (k:Int)=s:=⟨_,rfl⟩
    have hu:=LI k (by omega)
    have hP:=fun w=>sH (k:Int) w
    rw [hs] at hOk hu hP
    by_cases hsz:s.size=z+1
    · rw [if_pos hsz] at hOk
      have hBs:=hB s (by omega)
      by_cases hb:(l.take s.size).map upC=ap s
      · have hb2:=(Du hu _).1 hb
        rw [← av] at hb2
        rw [Nf,J6 hb2,av,hsz] at hOk
        rw [decide_eq_true hb] at hBs
        have hsp:gK l=some (⟨8,k,au,aO,0⟩,z+1):=by
          unfold gK
          rw [hO,hOk]
        rw [hsp]
        repeat' (first|(apply aa (f:=323);exact rfl;exact rfl;(intro w' hm;exact hP w'))|(apply aa (f:=322);exact rfl;exact rfl;(intro w' hm;exact hBs w'))|refine sT ?_|refine sS ?_|refine sT2 ?_|refine sN ?_|refine sM fun _=> ?_|(refine sC ?_ ?_<;>intro hb<;>try omega)|fail)
        all_goals
          first
          |(exfalso;omega)
          |((refine cD ?_);exact ⟨rfl,rfl⟩)
      · have hb2: ¬ l.take s.size=ap s:=fun h=>hb ((Du hu _).2 h)
        rw [← av] at hb2
        rw [Nf,opL,if_neg hb2] at hOk
        rw [decide_eq_false hb] at hBs
        repeat' (first|(apply aa (f:=323);exact rfl;exact rfl;(intro w' hm;exact hP w'))|(apply aa (f:=322);exact rfl;exact rfl;(intro w' hm;exact hBs w'))|refine sT ?_|refine sS ?_|refine sT2 ?_|refine sN ?_|refine sM fun _=> ?_|(refine sC ?_ ?_<;>intro hb<;>try omega)|fail)
        all_goals
          first
          |(exfalso;omega)
          |exact ⟨k+1,⟨by omega,by omega,hOk⟩,by omega,sB,sB,.refl _⟩
    · rw [if_neg hsz] at hOk
      repeat' (first|(apply aa (f:=323);exact rfl;exact rfl;(intro w' hm;exact hP w'))|refine sT ?_|refine sS ?_|refine sT2 ?_|refine sN ?_|refine sM fun _=> ?_|(refine sC ?_ ?_<;>intro hb<;>try omega)|fail)
      all_goals
        first
        |(exfalso;omega)
        |exact ⟨k+1,⟨by omega,by omega,hOk⟩,by omega,sB,sB,.refl _⟩
end Go.SL

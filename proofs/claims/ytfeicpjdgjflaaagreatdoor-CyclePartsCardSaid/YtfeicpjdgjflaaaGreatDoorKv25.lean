/-
  Lemmas and walks, put together: R9 R10 Q8 R11 R12 Q7 Q9.
-/
import Derived.Test.YtfeicpjdgjflaaaGreatDoorKv22
import Derived.Test.YtfeicpjdgjflaaaGreatDoorKv24
set_option linter.unusedSimpArgs false
set_option linter.unusedVariables false
set_option maxRecDepth 20000
set_option maxHeartbeats 16000000
namespace Go.SL
open Go Go.Proofs
attribute [local irreducible] W WL WQ WG WA WX WLI WR WT WC VOp RW thn blk bg scp aS aV bi FnAt FnIn FnP ceP
theorem qm {a:ByteArray} {i:Nat}:((ap a).drop i).headD 0=bat a i:=by
 by_cases h:i<a.size
 ·rw [bA h];rfl
 ·rw [uG (by omega),ko (by omega)];rfl
theorem rD (a:ByteArray) (ha:a.size≤256) (i:Nat) (hi:i≤a.size) (w:World):aF Tryz.prog 383 [.string a,.int .i64 (i:Int)] w (.int .i64 ((i+aK dI ((ap a).drop i):Nat):Int)):=by
 refine aA Tryz.func383 rfl Tryz.ntmps383 rfl ?_;have hl:=az a;obtain ⟨X,hX⟩: ∃ X,i+aK dI ((ap a).drop i)=X:=⟨_,rfl⟩;rw [hX];repeat' (first|refine zZB ?_|refine sM fun _=>?_|refine sC ?_ ?_<;>intro hb<;>try omega|fail)
 refine ay [0] rfl (fun j:Nat=> [(1,.int .i64 (j:Int))]) (fun _=> []) (fun j=>j≤a.size∧X=j+aK dI ((ap a).drop j)) (fun j=>a.size - j) i ⟨hi,hX.symm⟩ sB (.refl _) ?_;rintro j ⟨hj,hx⟩;have hL:=fun w=>oV a (by omega) j w;have hD:=fun w=>p7 a (by omega) j w;by_cases hw:dI (bat a j)=true
 ·have hlt:j<a.size:=by
   rcases WY j a.size with h|h
   ·exact h
   ·rw [ko h] at hw;cases hw
  rw [jp hlt,if_pos hw] at hx;obtain ⟨b1,hb1⟩: ∃ b,cz (bat a j)=b:=⟨_,rfl⟩;obtain ⟨b2,hb2⟩: ∃ b,aL (bat a j)=b:=⟨_,rfl⟩;rw [hb1] at hL;rw [hb2] at hD;have h12:(b1||b2)=true:=by rw [← hb1,← hb2];exact hw
  cases b1<;>cases b2<;>first|exact absurd h12 (by decide)|skip
  all_goals
   repeat' first|apply ag (f:=360);exact rfl;exact rfl;intro w' hm;exact hL w'|apply ag (f:=357);exact rfl;exact rfl;intro w' hm;exact hD w'|refine zZA ?_|refine sM fun _=>?_|refine sC ?_ ?_<;>intro hb<;>try omega|fail
   exact ⟨j+1,⟨hlt,by omega⟩,by omega,sB,sB,.nil _⟩
 ·have hr:aK dI ((ap a).drop j)=0:=by
   by_cases hlt:j<a.size
   ·rw [jp hlt,if_neg hw]
   ·rw [uG (by omega)];rfl
  rw [hr,XA] at hx;subst hx;have h1:cz (bat a X)=false:=by unfold dI at hw;revert hw;cases cz (bat a X)<;>simp
  have h2:aL (bat a X)=false:=by unfold dI at hw;revert hw;cases aL (bat a X)<;>simp
  rw [h1] at hL;rw [h2] at hD;repeat' (first|apply ag (f:=360);exact rfl;exact rfl;intro w' hm;exact hL w'|apply ag (f:=357);exact rfl;exact rfl;intro w' hm;exact hD w'|refine rT1 ?_|refine zZA ?_|refine sM fun _=>?_|refine sC ?_ ?_<;>intro hb<;>try omega|fail)
  rfl
theorem tC (a:ByteArray) (i W:Nat):ap (sub a i (i+W))=((ap a).drop i).take W:=by
 rw [fK];congr 1;omega
def Uj (a:ByteArray) (i:Nat):Value:=
 if cz (bat a i)=false then .tuple #[.agg (aw ⟨0,0⟩).toArray,.int .i64 0,.bool false]
 else .tuple #[.agg (aw ⟨(cX (upW ((ap a).drop i))).1,(cX (upW ((ap a).drop i))).2.1⟩).toArray,.int .i64 ((i+aK dI ((ap a).drop i):Nat):Int),.bool (decide ((cX (upW ((ap a).drop i))).2.2=0∧bat a (i+aK dI ((ap a).drop i))≠40))]
theorem rF (a:ByteArray) (ha:a.size≤256) (i:Nat) (hi:i≤a.size) (w:World):aF Tryz.prog 384 [.string a,.int .i64 (i:Int)] w (Uj a i):=by
 refine aA Tryz.func384 rfl Tryz.ntmps384 rfl ?_;have hl:=az a;have hL:=fun w=>oV a (by omega) i w;have hW:=fun w=>rD a ha i hi w;obtain ⟨W,hWe⟩: ∃ W,aK dI ((ap a).drop i)=W:=⟨_,rfl⟩;have hWl:i+W≤a.size:=by
  have:=cH dI ((ap a).drop i);rw [VS] at this;omega
 have hP:=fun w=>IR (sub a i (i+W)) (by rw [cP a (by omega)];omega) w;rw [tC] at hP;unfold Uj;rw [Va];rw [hWe] at hW ⊢;obtain ⟨c,r,e,hA⟩: ∃ c r e,cX (((ap a).drop i).take W)=(c,r,e):=⟨_,_,_,rfl⟩;rw [hA] at hP ⊢;dsimp only at hP ⊢;obtain ⟨b,hb⟩: ∃ b,cz (bat a i)=b:=⟨_,rfl⟩;rw [hb] at hL ⊢;have hout:a.size≤i+W→bat a (i+W)≠40:=fun h=>by rw [ko h];decide
 cases b with
 |false=>
  repeat' first|apply ag (f:=360);exact rfl;exact rfl;intro w' hm;exact hL w'|refine zZC ?_|refine sM fun _=>?_|refine sC ?_ ?_<;>intro hb<;>try omega|fail
  all_goals ((refine dz ?_);rfl)
 |true=>
  rw [if_neg (by simp)];repeat' (first|apply ag (f:=360);exact rfl;exact rfl;intro w' hm;exact hL w'|apply ag (f:=383);exact rfl;exact rfl;intro w' hm;exact hW w'|apply ag (f:=402);exact rfl;exact rfl;intro w' hm;exact hP w'|apply ai (d:=22);exact rfl;apply iD (lo:=i) (hi:=i+W);(iterate 3 exact rfl);exact ⟨by omega,by omega⟩|rename_i g4 g8;refine fa (id:=5) [16] [] [Blk.box g8 35 (aw ⟨c,r⟩)] (by kernel_rfl) (by kernel_rfl) (by kernel_rfl) mS ?_|apply dC (d:=38);(iterate 3 exact rfl);apply bk (j:=i+W);exact rfl;exact rfl;omega|refine sT ?_|refine sS ?_|refine sW ?_|refine sT2 ?_|refine sW2 ?_|refine sN ?_|refine sWN ?_|refine sM fun _=>?_|refine sC ?_ ?_<;>intro hb<;>try omega|refine sCW ?_ ?_<;>intro hb<;>try omega|fail)
  ·(refine dz ?_);rw [decide_eq_true (show e=0∧bat a (i+W)≠40 from ⟨by assumption,hout (by omega)⟩)]
   rfl
  ·(refine dz ?_);have he:e=0:=by assumption
   subst he;simp only [true_and]
   rfl
  ·(refine dz ?_);rw [decide_eq_false (show ¬ (e=0∧bat a (i+W)≠40) from fun h=>absurd h.1 (by assumption))]
   rfl
theorem IC (a:ByteArray) (ha:a.size≤256) (i:Nat) (hi:i<a.size) (hli:cz (bat a i)=true) (w:World):FnAt Tryz.prog 361 [.string a,.int .i64 (i:Int)] w fun v H=>H= []∧TokR i (jm ((ap a).drop i)) v:=by
 refine aA Tryz.func361 rfl Tryz.ntmps361 rfl ?_;have hl:=az a;have hW:=fun w=>rD a ha i (by omega) w;obtain ⟨W,hWe⟩: ∃ W,aK dI ((ap a).drop i)=W:=⟨_,rfl⟩;have hWl:i+W≤a.size:=by
  have:=cH dI ((ap a).drop i);rw [VS] at this;omega
 have hA1:=fun w=>rF a ha i (by omega) w;have hA2:=fun (h:i+W<a.size) w=>rF a ha (i+W+1) h w;have hU:=fun w=>mG (sub a i (i+W)) (by rw [cP a (by omega)];omega) w;obtain ⟨U,hUe⟩: ∃ U,upB (sub a i (i+W))=U:=⟨_,rfl⟩;have hUm:mkB (upW ((ap a).drop i))=U:=by
  rw [← hUe,N0,hWe,← nW (upB _),ud,tC]
 have hl0:((ap a).drop i).headD 0=bat a i:=qm;have hl1:(((ap a).drop i).drop W).headD 0=bat a (i+W):=by rw [Xi,qm]
 have hd2:((ap a).drop i).drop (W+1)=(ap a).drop (i+W+1):=by rw [Xi,WF]
 have hl2:((ap a).drop (i+W+1)).headD 0=bat a (i+W+1):=qm;obtain ⟨W2,hW2⟩: ∃ W2,aK dI ((ap a).drop (i+W+1))=W2:=⟨_,rfl⟩;have hl3:(((ap a).drop i).drop (W+1+W2)).headD 0=bat a (i+W+1+W2):=by rw [Xi,qm];congr 1;omega
 have hW2l:i+W<a.size→i+W+1+W2≤a.size:=fun h=>by
  have:=cH dI ((ap a).drop (i+W+1));rw [VS] at this;omega
 unfold jm;unfold Uj at hA1 hA2;rw [hl0,hli,if_neg (by simp)];rw [hWe] at hW hA1 ⊢;rw [hd2,hl1,hl2,hW2,hl3];rw [hli,if_neg (by simp)] at hA1;rw [hW2] at hA2;rw [hUm];rw [hUe] at hU;obtain ⟨c1,r1,e1,hx1⟩: ∃ c r e,cX (upW ((ap a).drop i))=(c,r,e):=⟨_,_,_,rfl⟩;obtain ⟨c2,r2,e2,hx2⟩: ∃ c r e,cX (upW ((ap a).drop (i+W+1)))=(c,r,e):=⟨_,_,_,rfl⟩;rw [hx1] at hA1 ⊢;rw [hx2] at hA2 ⊢;dsimp only at hA1 hA2 ⊢;have hout:a.size≤i+W→bat a (i+W)≠40∧bat a (i+W)≠58:=fun h=>by rw [ko h];decide
 by_cases h40:bat a (i+W)=40
 ·rw [if_pos h40];have hlt:i+W<a.size:=by
   rcases WY (i+W) a.size with h|h
   ·exact h
   ·exact absurd h40 (hout h).1
  repeat' first|apply ag (f:=383);exact rfl;exact rfl;intro w' hm;exact hW w'|apply ag (f:=234);exact rfl;exact rfl;intro w' hm;exact hU w'|apply ai (d:=22);exact rfl;apply iD (lo:=i) (hi:=i+W);(iterate 3 exact rfl);exact ⟨by omega,by omega⟩|apply ai (d:=31);exact rfl;apply bk (j:=i+W);exact rfl;exact rfl;omega|refine zZC ?_|refine sM fun _=>?_|refine sC ?_ ?_<;>intro hb<;>try omega|fail
  all_goals
   first
   |omega
   |(refine dz ?_);exact ⟨rfl,rfl⟩
 rw [if_neg h40];clear hli hUm hUe hl0 hl1 hd2 hl2 hl3;by_cases hT:U=pQ
 ·rw [if_pos hT];subst hT;repeat' (first|apply ag (f:=383);exact rfl;exact rfl;intro w' hm;exact hW w'|apply ag (f:=234);exact rfl;exact rfl;intro w' hm;exact hU w'|apply ai (d:=22);exact rfl;apply iD (lo:=i) (hi:=i+W);(iterate 3 exact rfl);exact ⟨by omega,by omega⟩|apply ai (d:=31);exact rfl;apply bk (j:=i+W);exact rfl;exact rfl;omega|apply ai (d:=70);exact rfl;apply bk (j:=i+W);exact rfl;exact rfl;omega|apply ag (d:=51);exact rfl;exact rfl;intro w' hm;exact hA1 w'|apply ag (d:=76);exact rfl;exact rfl;intro w' hm;exact hA2 w'|apply ag (f:=106);exact rfl;exact rfl;intro w' hm;exact ij ⟨c1,r1⟩ w'|apply ai (d:=85);exact rfl;exact iG _ _ ▸ jD rfl rfl|apply ai (d:=90);exact rfl;exact iG _ _ ▸ jD rfl rfl|apply ai (d:=95);exact rfl;exact iH _ _ ▸ jE rfl rfl|apply ai (d:=100);exact rfl;exact iH _ _ ▸ jE rfl rfl|apply ai (d:=105);exact rfl;exact eJ (a:=⟨c1,r1⟩) (b:=⟨c2,r2⟩) rfl rfl rfl|refine zZC ?_|refine sM fun _=>?_|refine sC ?_ ?_<;>intro hb<;>try omega|fail)
  all_goals
   first
   |omega
   |exact absurd rfl (by assumption)
   |(refine dz ?_);exact ⟨rfl,rfl⟩
 rw [if_neg hT];by_cases hF:U=ny
 ·rw [if_pos hF];subst hF;repeat' (first|apply ag (f:=383);exact rfl;exact rfl;intro w' hm;exact hW w'|apply ag (f:=234);exact rfl;exact rfl;intro w' hm;exact hU w'|apply ai (d:=22);exact rfl;apply iD (lo:=i) (hi:=i+W);(iterate 3 exact rfl);exact ⟨by omega,by omega⟩|apply ai (d:=31);exact rfl;apply bk (j:=i+W);exact rfl;exact rfl;omega|apply ai (d:=70);exact rfl;apply bk (j:=i+W);exact rfl;exact rfl;omega|apply ag (d:=51);exact rfl;exact rfl;intro w' hm;exact hA1 w'|apply ag (d:=76);exact rfl;exact rfl;intro w' hm;exact hA2 w'|apply ag (f:=106);exact rfl;exact rfl;intro w' hm;exact ij ⟨c1,r1⟩ w'|apply ai (d:=85);exact rfl;exact iG _ _ ▸ jD rfl rfl|apply ai (d:=90);exact rfl;exact iG _ _ ▸ jD rfl rfl|apply ai (d:=95);exact rfl;exact iH _ _ ▸ jE rfl rfl|apply ai (d:=100);exact rfl;exact iH _ _ ▸ jE rfl rfl|apply ai (d:=105);exact rfl;exact eJ (a:=⟨c1,r1⟩) (b:=⟨c2,r2⟩) rfl rfl rfl|refine zZC ?_|refine sM fun _=>?_|refine sC ?_ ?_<;>intro hb<;>try omega|fail)
  all_goals
   first
   |omega
   |exact absurd (by assumption) hT
   |exact absurd rfl (by assumption)
   |(refine dz ?_);exact ⟨rfl,rfl⟩
 rw [if_neg hF];have hT' : ¬ U=({ data:= #[84,82,85,69] }:ByteArray):=hT;have hF' : ¬ U=({ data:= #[70,65,76,83,69] }:ByteArray):=hF;simp only [ne_eq,h40,not_false_eq_true,and_true] at hA1;by_cases he1:e1=0
 ·rw [if_neg (fun h=>h he1)];rw [decide_eq_true he1] at hA1;by_cases h58:bat a (i+W)=58
  ·have hlt:i+W<a.size:=by
    rcases WY (i+W) a.size with h|h
    ·exact h
    ·exact absurd h58 (hout h).2
   replace hA2:=hA2 hlt;by_cases hl2:cz (bat a (i+W+1))=true
   ·rw [hl2,if_neg (by simp)] at hA2;by_cases hok:e2=0∧bat a (i+W+1+W2)≠40
    ·rw [if_pos ⟨h58,hl2,hok⟩];rw [decide_eq_true hok] at hA2;repeat' (first|apply ag (f:=383);exact rfl;exact rfl;intro w' hm;exact hW w'|apply ag (f:=234);exact rfl;exact rfl;intro w' hm;exact hU w'|apply ai (d:=22);exact rfl;apply iD (lo:=i) (hi:=i+W);(iterate 3 exact rfl);exact ⟨by omega,by omega⟩|apply ai (d:=31);exact rfl;apply bk (j:=i+W);exact rfl;exact rfl;omega|apply ai (d:=70);exact rfl;apply bk (j:=i+W);exact rfl;exact rfl;omega|apply ag (d:=51);exact rfl;exact rfl;intro w' hm;exact hA1 w'|apply ag (d:=76);exact rfl;exact rfl;intro w' hm;exact hA2 w'|apply ag (f:=106);exact rfl;exact rfl;intro w' hm;exact ij ⟨c1,r1⟩ w'|apply ai (d:=85);exact rfl;exact iG _ _ ▸ jD rfl rfl|apply ai (d:=90);exact rfl;exact iG _ _ ▸ jD rfl rfl|apply ai (d:=95);exact rfl;exact iH _ _ ▸ jE rfl rfl|apply ai (d:=100);exact rfl;exact iH _ _ ▸ jE rfl rfl|apply ai (d:=105);exact rfl;exact eJ (a:=⟨c1,r1⟩) (b:=⟨c2,r2⟩) rfl rfl rfl|refine zZC ?_|refine sM fun _=>?_|refine sC ?_ ?_<;>intro hb<;>try omega|fail)
     all_goals
      first
      |omega
      |exact absurd (by assumption) hT'
      |exact absurd (by assumption) hF'
      |(refine dz ?_);exact ⟨rfl,dY,_,rfl⟩
      |(refine dz ?_);exact ⟨rfl,rfl⟩
      | ((refine dz ?_)
         refine ⟨rfl,?_⟩;have hne: ¬ (c1=c2∧r1=r2):=fun h=>(by assumption:(⟨c1,r1⟩:Rf)≠⟨c2,r2⟩) (by rw [h.1,h.2]);simp only [TokR,if_neg hne];rw [show i+(W+1+W2)=i+W+1+W2 by omega]
         rfl)
      | ((refine dz ?_)
         refine ⟨rfl,?_⟩;have heq:c1=c2∧r1=r2:=by
          have:(⟨c1,r1⟩:Rf)=⟨c2,r2⟩:=Classical.not_not.1 (by assumption);cases this;exact ⟨rfl,rfl⟩
         simp only [TokR,if_pos heq];rw [show i+(W+1+W2)=i+W+1+W2 by omega]
         rfl)
    ·rw [if_neg fun h=>hok h.2.2];rw [decide_eq_false hok] at hA2;repeat' (first|apply ag (f:=383);exact rfl;exact rfl;intro w' hm;exact hW w'|apply ag (f:=234);exact rfl;exact rfl;intro w' hm;exact hU w'|apply ai (d:=22);exact rfl;apply iD (lo:=i) (hi:=i+W);(iterate 3 exact rfl);exact ⟨by omega,by omega⟩|apply ai (d:=31);exact rfl;apply bk (j:=i+W);exact rfl;exact rfl;omega|apply ai (d:=70);exact rfl;apply bk (j:=i+W);exact rfl;exact rfl;omega|apply ag (d:=51);exact rfl;exact rfl;intro w' hm;exact hA1 w'|apply ag (d:=76);exact rfl;exact rfl;intro w' hm;exact hA2 w'|apply ag (f:=106);exact rfl;exact rfl;intro w' hm;exact ij ⟨c1,r1⟩ w'|apply ai (d:=85);exact rfl;exact iG _ _ ▸ jD rfl rfl|apply ai (d:=90);exact rfl;exact iG _ _ ▸ jD rfl rfl|apply ai (d:=95);exact rfl;exact iH _ _ ▸ jE rfl rfl|apply ai (d:=100);exact rfl;exact iH _ _ ▸ jE rfl rfl|apply ai (d:=105);exact rfl;exact eJ (a:=⟨c1,r1⟩) (b:=⟨c2,r2⟩) rfl rfl rfl|refine zZC ?_|refine sM fun _=>?_|refine sC ?_ ?_<;>intro hb<;>try omega|fail)
     all_goals
      first
      |omega
      |exact absurd (by assumption) hT'
      |exact absurd (by assumption) hF'
      |(refine dz ?_);exact ⟨rfl,dY,_,rfl⟩
      |(refine dz ?_);exact ⟨rfl,rfl⟩
      | ((refine dz ?_)
         refine ⟨rfl,?_⟩;have hne: ¬ (c1=c2∧r1=r2):=fun h=>(by assumption:(⟨c1,r1⟩:Rf)≠⟨c2,r2⟩) (by rw [h.1,h.2]);simp only [TokR,if_neg hne];rw [show i+(W+1+W2)=i+W+1+W2 by omega]
         rfl)
      | ((refine dz ?_)
         refine ⟨rfl,?_⟩;have heq:c1=c2∧r1=r2:=by
          have:(⟨c1,r1⟩:Rf)=⟨c2,r2⟩:=Classical.not_not.1 (by assumption);cases this;exact ⟨rfl,rfl⟩
         simp only [TokR,if_pos heq];rw [show i+(W+1+W2)=i+W+1+W2 by omega]
         rfl)
   ·rw [if_neg fun h=>hl2 h.2.1];rw [if_pos (by simpa using hl2)] at hA2;repeat' (first|apply ag (f:=383);exact rfl;exact rfl;intro w' hm;exact hW w'|apply ag (f:=234);exact rfl;exact rfl;intro w' hm;exact hU w'|apply ai (d:=22);exact rfl;apply iD (lo:=i) (hi:=i+W);(iterate 3 exact rfl);exact ⟨by omega,by omega⟩|apply ai (d:=31);exact rfl;apply bk (j:=i+W);exact rfl;exact rfl;omega|apply ai (d:=70);exact rfl;apply bk (j:=i+W);exact rfl;exact rfl;omega|apply ag (d:=51);exact rfl;exact rfl;intro w' hm;exact hA1 w'|apply ag (d:=76);exact rfl;exact rfl;intro w' hm;exact hA2 w'|apply ag (f:=106);exact rfl;exact rfl;intro w' hm;exact ij ⟨c1,r1⟩ w'|apply ai (d:=85);exact rfl;exact iG _ _ ▸ jD rfl rfl|apply ai (d:=90);exact rfl;exact iG _ _ ▸ jD rfl rfl|apply ai (d:=95);exact rfl;exact iH _ _ ▸ jE rfl rfl|apply ai (d:=100);exact rfl;exact iH _ _ ▸ jE rfl rfl|apply ai (d:=105);exact rfl;exact eJ (a:=⟨c1,r1⟩) (b:=⟨c2,r2⟩) rfl rfl rfl|refine zZC ?_|refine sM fun _=>?_|refine sC ?_ ?_<;>intro hb<;>try omega|fail)
    all_goals
     first
     |omega
     |exact absurd (by assumption) hT'
     |exact absurd (by assumption) hF'
     |(refine dz ?_);exact ⟨rfl,dY,_,rfl⟩
     |(refine dz ?_);exact ⟨rfl,rfl⟩
     | ((refine dz ?_)
        refine ⟨rfl,?_⟩;have hne: ¬ (c1=c2∧r1=r2):=fun h=>(by assumption:(⟨c1,r1⟩:Rf)≠⟨c2,r2⟩) (by rw [h.1,h.2]);simp only [TokR,if_neg hne];rw [show i+(W+1+W2)=i+W+1+W2 by omega]
        rfl)
     | ((refine dz ?_)
        refine ⟨rfl,?_⟩;have heq:c1=c2∧r1=r2:=by
         have:(⟨c1,r1⟩:Rf)=⟨c2,r2⟩:=Classical.not_not.1 (by assumption);cases this;exact ⟨rfl,rfl⟩
        simp only [TokR,if_pos heq];rw [show i+(W+1+W2)=i+W+1+W2 by omega]
        rfl)
  ·rw [if_neg fun h=>h58 h.1];repeat' (first|apply ag (f:=383);exact rfl;exact rfl;intro w' hm;exact hW w'|apply ag (f:=234);exact rfl;exact rfl;intro w' hm;exact hU w'|apply ai (d:=22);exact rfl;apply iD (lo:=i) (hi:=i+W);(iterate 3 exact rfl);exact ⟨by omega,by omega⟩|apply ai (d:=31);exact rfl;apply bk (j:=i+W);exact rfl;exact rfl;omega|apply ai (d:=70);exact rfl;apply bk (j:=i+W);exact rfl;exact rfl;omega|apply ag (d:=51);exact rfl;exact rfl;intro w' hm;exact hA1 w'|apply ag (d:=76);exact rfl;exact rfl;intro w' hm;exact hA2 w'|apply ag (f:=106);exact rfl;exact rfl;intro w' hm;exact ij ⟨c1,r1⟩ w'|apply ai (d:=85);exact rfl;exact iG _ _ ▸ jD rfl rfl|apply ai (d:=90);exact rfl;exact iG _ _ ▸ jD rfl rfl|apply ai (d:=95);exact rfl;exact iH _ _ ▸ jE rfl rfl|apply ai (d:=100);exact rfl;exact iH _ _ ▸ jE rfl rfl|apply ai (d:=105);exact rfl;exact eJ (a:=⟨c1,r1⟩) (b:=⟨c2,r2⟩) rfl rfl rfl|refine zZC ?_|refine sM fun _=>?_|refine sC ?_ ?_<;>intro hb<;>try omega|fail)
   all_goals
    first
    |omega
    |exact absurd (by assumption) hT'
    |exact absurd (by assumption) hF'
    |(refine dz ?_);exact ⟨rfl,dY,_,rfl⟩
    |(refine dz ?_);exact ⟨rfl,rfl⟩
    | ((refine dz ?_)
       refine ⟨rfl,?_⟩;have hne: ¬ (c1=c2∧r1=r2):=fun h=>(by assumption:(⟨c1,r1⟩:Rf)≠⟨c2,r2⟩) (by rw [h.1,h.2]);simp only [TokR,if_neg hne];rw [show i+(W+1+W2)=i+W+1+W2 by omega]
       rfl)
    | ((refine dz ?_)
       refine ⟨rfl,?_⟩;have heq:c1=c2∧r1=r2:=by
        have:(⟨c1,r1⟩:Rf)=⟨c2,r2⟩:=Classical.not_not.1 (by assumption);cases this;exact ⟨rfl,rfl⟩
       simp only [TokR,if_pos heq];rw [show i+(W+1+W2)=i+W+1+W2 by omega]
       rfl)
 ·rw [if_pos he1];rw [decide_eq_false he1] at hA1;repeat' (first|apply ag (f:=383);exact rfl;exact rfl;intro w' hm;exact hW w'|apply ag (f:=234);exact rfl;exact rfl;intro w' hm;exact hU w'|apply ai (d:=22);exact rfl;apply iD (lo:=i) (hi:=i+W);(iterate 3 exact rfl);exact ⟨by omega,by omega⟩|apply ai (d:=31);exact rfl;apply bk (j:=i+W);exact rfl;exact rfl;omega|apply ai (d:=70);exact rfl;apply bk (j:=i+W);exact rfl;exact rfl;omega|apply ag (d:=51);exact rfl;exact rfl;intro w' hm;exact hA1 w'|apply ag (d:=76);exact rfl;exact rfl;intro w' hm;exact hA2 w'|apply ag (f:=106);exact rfl;exact rfl;intro w' hm;exact ij ⟨c1,r1⟩ w'|apply ai (d:=85);exact rfl;exact iG _ _ ▸ jD rfl rfl|apply ai (d:=90);exact rfl;exact iG _ _ ▸ jD rfl rfl|apply ai (d:=95);exact rfl;exact iH _ _ ▸ jE rfl rfl|apply ai (d:=100);exact rfl;exact iH _ _ ▸ jE rfl rfl|apply ai (d:=105);exact rfl;exact eJ (a:=⟨c1,r1⟩) (b:=⟨c2,r2⟩) rfl rfl rfl|refine zZC ?_|refine sM fun _=>?_|refine sC ?_ ?_<;>intro hb<;>try omega|fail)
  all_goals
   first
   |omega
   |exact absurd (by assumption) hT'
   |exact absurd (by assumption) hF'
   |(refine dz ?_);exact ⟨rfl,dY,_,rfl⟩
   |(refine dz ?_);exact ⟨rfl,rfl⟩
   | ((refine dz ?_)
      refine ⟨rfl,?_⟩;have hne: ¬ (c1=c2∧r1=r2):=fun h=>(by assumption:(⟨c1,r1⟩:Rf)≠⟨c2,r2⟩) (by rw [h.1,h.2]);simp only [TokR,if_neg hne];rw [show i+(W+1+W2)=i+W+1+W2 by omega]
      rfl)
   | ((refine dz ?_)
      refine ⟨rfl,?_⟩;have heq:c1=c2∧r1=r2:=by
       have:(⟨c1,r1⟩:Rf)=⟨c2,r2⟩:=Classical.not_not.1 (by assumption);cases this;exact ⟨rfl,rfl⟩
      simp only [TokR,if_pos heq];rw [show i+(W+1+W2)=i+W+1+W2 by omega]
      rfl)
def opB (k:Int):ByteArray:=
 if k=1 then ⟨#[43]⟩ else if k=2 then ⟨#[45]⟩ else if k=3 then ⟨#[42]⟩ else if k=4 then ⟨#[47]⟩ else if k=5 then ⟨#[94]⟩ else if k=6 then ⟨#[38]⟩ else if k=7 then ⟨#[61]⟩
 else if k=8 then ⟨#[60,62]⟩ else if k=9 then ⟨#[60]⟩ else if k=10 then ⟨#[60,61]⟩ else if k=11 then ⟨#[62]⟩ else if k=12 then ⟨#[62,61]⟩ else if k=13 then ⟨#[37]⟩ else ⟨#[]⟩
theorem yn (k:Int) (w:World):aF Tryz.prog 387 [.int .i64 k] w (.string (opB k)):=by
 refine aA Tryz.func387 rfl Tryz.ntmps387 rfl ?_;repeat' (first|refine rT1 ?_|refine zZB ?_|refine sM fun _=>?_|refine sC ?_ ?_<;>intro hb<;>try omega|fail)
 all_goals
  unfold opB;repeat (first|rw [if_pos (by assumption)]|rw [if_neg (by assumption)])
theorem Dl (a:ByteArray) (ha:a.size≤256) (i:Nat) (hi:i≤a.size) (s:ByteArray) (hs:s.size≤1000) (w:World):aF Tryz.prog 386 [.string a,.int .i64 (i:Int),.string s] w (.bool (decide ((((ap a).drop i).take s.size).map upC=ap s))):=by
 refine aA Tryz.func386 rfl Tryz.ntmps386 rfl ?_;have hl:=az a;have hU:=fun h:i+s.size≤a.size=>fun w=>mG (sub a i (i+s.size)) (by rw [cP a h];omega) w;repeat' (first|apply ag (f:=234);exact rfl;exact rfl;intro w' hm;exact hU (by omega) w'|apply ai (d:=21);exact rfl;apply iD (lo:=i) (hi:=i+s.size);(iterate 3 exact rfl);exact ⟨by omega,by omega⟩|refine rT1 ?_|refine zZC ?_|refine sM fun _=>?_|refine sC ?_ ?_<;>intro hb<;>try omega|fail)
 ·have:(upB (sub a i (i+s.size))=s)=((((ap a).drop i).take s.size).map upC=ap s):=by
   rw [eq_iff_iff];constructor
   ·intro h;rw [← h,ud,tC,h]
   ·intro h;apply za;rw [ud,tC,h]
  simp only [this]
 ·rw [decide_eq_false];intro h;have:=congrArg List.length h;rw [VK,VQ,VS,hl,az] at this;omega
theorem Iw {p:Int→Bool} {l:List Int} (h:aK p l=l.length): ∀ c∈l,p c=true:=by
 intro c hc;have:c∈l.take (aK p l):=by rw [h,V1];exact hc
 exact nM this
theorem Sl (l0:List Int): -9223372036854775808≤(jf l0).1:=by
 unfold jf
 extract_lets neg l n rest frac p5
 split
 ·show (-9223372036854775808:Int)≤0;omega
 ·rename_i v _hc;have h0:0≤bP (l.take n++p5.take 4) 0:=by
   refine vo _ (fun c hc=> ?_) (XS _);rcases VH.1 hc with hc|hc
   ·have:=nM (p:=aL) hc;rw [fZ] at this;exact this.1
   ·have hc:=WV hc;rcases VH.1 hc with hc|hc
    ·by_cases hf:frac=true
     ·rw [if_pos hf] at hc;simp only [frac,VP,decide_eq_true_eq] at hf;have hl:rest.tail.length=rest.length - 1:=YF;have:=Iw (p:=aL) (l:=rest.tail) (by omega) c hc;rw [fZ] at this;exact this.1
     ·rw [if_neg hf] at hc;cases hc
    ·simp only [VN,XJ,or_false,or_self] at hc;omega
  have hv0:0≤v:=by
   show 0≤bP (l.take n++p5.take 4) 0+(if 53≤p5.getD 4 0 then 1 else 0);split<;>omega
  split
  ·show (-9223372036854775808:Int)≤0;omega
  ·rename_i hv;simp only [dx] at hv;split
   ·show (-9223372036854775808:Int)≤ -v;omega
   ·show (-9223372036854775808:Int)≤v;omega
theorem FK (b:ByteArray) (hb:b.size≤1000000) (w:World):aF Tryz.prog 164 [.string b] w (.agg (eZ (zN b)).toArray):=by
 refine aA Tryz.func164 rfl Tryz.ntmps164 rfl ?_;by_cases h0:b=aB
 ·subst h0;repeat' (first|refine zZF ?_|refine sM fun _=>?_|refine sC ?_ ?_<;>intro hb<;>try omega|fail)
  all_goals first
   |(refine eRC ?_);rfl
   |exfalso;rename_i hb;exact hb rfl
 have hpos:0<b.size:=by
  rcases Xc b.size with h|h
  ·exact absurd (ByteArray.ext (YD h)) h0
  ·exact h
 have hU:=fun w=>mG b hb w;have hC:=fun w=>IQ b hb w;have hD:=fun w=>LY b hb w;have hge:=Sl (ap b);have hM:=fun w=>IL _ hge w;have hF:=fun c w=>sn c w;have hTr:=fun c w=>FC c w;have hhd:(ap b).headD 0=bat b 0:=by have:=qm (a:=b) (i:=0);rwa [WH] at this
 have hsub:sub b 1 b.size=mkB (ap b).tail:=by
  refine O2 ?_;rw [fK,List.drop_one,Wl];rw [YF,az];exact VA _
 unfold zN;rw [if_neg h0,hhd];obtain ⟨u,hu⟩: ∃ u,upB b=u:=⟨_,rfl⟩;obtain ⟨⟨cn,ce⟩,hce⟩: ∃ u,jI b=u:=⟨_,rfl⟩;obtain ⟨⟨dn,de⟩,hde⟩: ∃ u,jf (ap b)=u:=⟨_,rfl⟩;rw [hu] at hU ⊢;rw [hce] at hC ⊢;rw [hde] at hD hM hge ⊢;dsimp only at hC hD hM hge ⊢;by_cases h1:bat b 0=39
 ·rw [if_pos h1];repeat' (first|apply ai (d:=7);exact rfl;apply fG;exact rfl;exact rfl;exact h0|apply ai (d:=10);exact rfl;apply bk (j:=0);exact rfl;exact rfl;exact hpos|apply ai (d:=13);exact rfl;apply xM (lo:=1);exact rfl;exact rfl;omega|refine zZF ?_|refine sM fun _=>?_|refine sC ?_ ?_<;>intro hb<;>try omega|fail)
  all_goals first
   |omega
   |(refine eRC ?_);rw [hsub];rfl
 rw [if_neg h1];by_cases h2:u=pQ
 ·rw [if_pos (.inl h2),decide_eq_true h2];repeat' (first|apply ai (d:=7);exact rfl;apply fG;exact rfl;exact rfl;exact h0|apply ai (d:=10);exact rfl;apply bk (j:=0);exact rfl;exact rfl;exact hpos|apply ag;exact rfl;exact rfl;intro w hm;exact hU w|apply ai (d:=17);exact rfl;apply pO;exact rfl;exact rfl;exact h2|apply ai (d:=25);exact rfl;apply pO;exact rfl;exact rfl;exact h2|apply ag (f:=235);exact rfl;exact rfl;intro w' _;exact hTr true w'|refine zZF ?_|refine sM fun _=>?_|refine sC ?_ ?_<;>intro hb<;>try omega|fail)
  all_goals first
   |omega
   |(refine eRC ?_);rfl
 by_cases h3:u=ny
 ·rw [if_pos (.inr h3),decide_eq_false h2];repeat' (first|apply ai (d:=7);exact rfl;apply fG;exact rfl;exact rfl;exact h0|apply ai (d:=10);exact rfl;apply bk (j:=0);exact rfl;exact rfl;exact hpos|apply ag;exact rfl;exact rfl;intro w hm;exact hU w|apply ai (d:=17);exact rfl;apply fG;exact rfl;exact rfl;exact h2|apply ai (d:=21);exact rfl;apply pO;exact rfl;exact rfl;exact h3|apply ai (d:=25);exact rfl;apply fG;exact rfl;exact rfl;exact h2|apply ag (f:=235);exact rfl;exact rfl;intro w' _;exact hTr false w'|refine zZF ?_|refine sM fun _=>?_|refine sC ?_ ?_<;>intro hb<;>try omega|fail)
  all_goals first
   |omega
   |(refine eRC ?_);rfl
 rw [if_neg (by simp [h2,h3])];repeat' (first|apply ai (d:=7);exact rfl;apply fG;exact rfl;exact rfl;exact h0|apply ai (d:=10);exact rfl;apply bk (j:=0);exact rfl;exact rfl;exact hpos|apply ag;exact rfl;exact rfl;intro w hm;exact hU w|apply ai (d:=17);exact rfl;apply fG;exact rfl;exact rfl;exact h2|apply ai (d:=21);exact rfl;apply fG;exact rfl;exact rfl;exact h3|apply ag;exact rfl;exact rfl;intro w hm;exact hC w|apply ag;exact rfl;exact rfl;intro w hm;exact hD w|apply ag;exact rfl;exact rfl;intro w hm;exact hM w|apply ag (f:=237);exact rfl;exact rfl;intro w' _;exact hF _ w'|refine zZF ?_|refine sM fun _=>?_|refine sC ?_ ?_<;>intro hb<;>try omega|fail)
 all_goals first
  |omega
  | ((refine eRC ?_)
     (repeat (first|rw [if_pos (by first|assumption|omega)]|rw [if_neg (by first|assumption|omega)]))
     rfl)
def I8 (z:Nat) (k:Nat):List (List Int × Int):=((List.range' k (14 - k)).map fun (j:Nat)=>(ap (opB (j:Int)),(j:Int))).filter fun x=>decide (x.1.length=z)
def RD:Nat→List (List Int × Int)
 |0=> []
 |z+1=>I8 (z+1) 1++RD z
theorem OM:RD 2=gI:=by decide+kernel
theorem Mi {z k:Nat} (h:k≤13):I8 z k=if (opB (k:Int)).size=z then (ap (opB (k:Int)),(k:Int))::I8 z (k+1) else I8 z (k+1):=by
 unfold I8;rw [show 14 - k=(13 - k)+1 by omega,List.range'_succ,VU,XC,show 14 - (k+1)=13 - k by omega];simp only [az,decide_eq_true_eq]
theorem OL (z:Nat):I8 z 14= []:=rfl
theorem RE {l:List Int} {s:List Int} {k:Int} {r:List (List Int × Int)} (h:l.take s.length=s):opL l ((s,k)::r)=some (k,s.length):=by
 rw [opL,if_pos h]
theorem TN (k:Nat) (h:k≤13): ∀ c∈ap (opB (k:Int)),¬ (65≤c∧c≤90)∧ ¬ (97≤c∧c≤122):=by
 rcases (by omega:k=0∨k=1∨k=2∨k=3∨k=4∨k=5∨k=6∨k=7∨k=8∨k=9∨k=10∨k=11∨k=12∨k=13) with rfl|rfl|rfl|rfl|rfl|rfl|rfl|rfl|rfl|rfl|rfl|rfl|rfl|rfl<;>decide+kernel
theorem Kf {s:List Int} (hs: ∀ c∈s,¬ (65≤c∧c≤90)∧ ¬ (97≤c∧c≤122)): ∀ l:List Int,l.map upC=s↔l=s:=by
 induction s with
 |nil=>intro l;simp
 |cons d s ih=>
  intro l
  cases l with
  |nil=>simp
  |cons c l=>
   simp only [VU,List.cons.injEq,ih (fun c hc=>hs c (Vv _ hc)) l];have hd:=hs d Vr;have:upC c=d↔c=d:=by
    unfold upC;split<;>omega
   rw [this]
theorem CQ {k:Nat} (h:k<5):ap (dq.getD (k+1) aB)=fw.getD k []∧fw.drop k=fw.getD k []::fw.drop (k+1)∧(dq.getD (k+1) aB).size≤10:=by
 rcases (by omega:k=0∨k=1∨k=2∨k=3∨k=4) with rfl|rfl|rfl|rfl|rfl<;>decide+kernel
theorem IG (a:ByteArray) (ha:a.size≤256) (i:Nat) (hi:i<a.size) (w:World):FnAt Tryz.prog 362 [.string a,.int .i64 (i:Int)] w fun v H=>H= []∧TokR i (kQ ((ap a).drop i)) v:=by
 refine aA Tryz.func362 rfl Tryz.ntmps362 rfl ?_;have hl:=az a;have hh:((ap a).drop i).headD 0=bat a i:=qm;have hB:=fun s hs w=>Dl a ha i (by omega) s hs w;obtain ⟨l,hll⟩: ∃ l,(ap a).drop i=l:=⟨_,rfl⟩;rw [hll] at hh hB ⊢;obtain ⟨F,hF⟩: ∃ F,mg l fw 1=F:=⟨_,rfl⟩;repeat' (first|refine zZF ?_|refine sM fun _=>?_|refine sC ?_ ?_<;>intro hb<;>try omega|fail)
 rename_i g4;refine ay [0,1,4] rfl (fun k:Nat=> [(7,.int .i64 ((k+1:Nat):Int))]) (fun _=> [.box g4 339 (bw dY)]) (fun k=>k≤5∧F=mg l (fw.drop k) ((k+1:Nat):Int)) (fun k=>5 - k) 0 ⟨by omega,hF.symm⟩ sB mS ?_;rintro k ⟨hk,hFk⟩;by_cases hk5:k<5
 ·obtain ⟨hn1,hn2,hn3⟩:=CQ hk5;have hS:=fun w=>II ((k+1:Nat):Int) (by omega) (by omega) w;rw [Yc] at hS;obtain ⟨s,hs⟩: ∃ s,dq.getD (k+1) aB=s:=⟨_,rfl⟩;rw [hs] at hS hn1 hn3;have hBs:=hB s (by omega);rw [hn2,mg,← hn1,az] at hFk;by_cases hb:(l.take s.size).map upC=ap s
  ·rw [if_pos hb] at hFk;rw [decide_eq_true hb] at hBs;repeat' (first|apply ag (f:=385);exact rfl;exact rfl;intro w' hm;exact hS w'|apply ag (f:=386);exact rfl;exact rfl;intro w' hm;exact hBs w'|refine zZC ?_|refine sM fun _=>?_|refine sC ?_ ?_<;>intro hb<;>try omega|fail)
   all_goals
    first
    |omega
    |(refine dz ?_);refine ⟨rfl,?_⟩;rw [kQ,mR,hF,hFk];rfl
  ·rw [if_neg hb] at hFk;rw [decide_eq_false hb] at hBs;repeat' (first|apply ag (f:=385);exact rfl;exact rfl;intro w' hm;exact hS w'|apply ag (f:=386);exact rfl;exact rfl;intro w' hm;exact hBs w'|refine zZC ?_|refine sM fun _=>?_|refine sC ?_ ?_<;>intro hb<;>try omega|fail)
   all_goals
    first
    |omega
    |exact ⟨k+1,⟨by omega,hFk⟩,by omega,sB,sB,.refl _⟩
 have ek:k=5:=by omega
 subst ek;have hsr:kQ l=jG l:=by
  rw [kQ,mR,hF,hFk];rfl
 rw [hsr];clear hF hFk hsr hk hk5;obtain ⟨O,hO⟩: ∃ O,opL l gI=O:=⟨_,rfl⟩;repeat' (first|refine zZF ?_|refine sM fun _=>?_|refine sC ?_ ?_<;>intro hb<;>try omega|fail)
 refine ay [0,1,4] rfl (fun z:Nat=> [(9,.int .i64 (z:Int))]) (fun _=> [.box g4 339 (bw dY)]) (fun z=>z≤2∧O=opL l (RD z)) (fun z=>z) 2 ⟨by omega,by rw [OM,hO]⟩ sB mS ?_;rintro z ⟨hz,hOz⟩
 cases z with
 |zero=>
   have hOn:O=none:=hOz;subst hOn;have hsp:jG l=if bat a i=40 then some (⟨9,0,aB,aZ,0⟩,1) else if bat a i=41 then some (⟨10,0,aB,aZ,0⟩,1) else if bat a i=44 then some (⟨11,0,aB,aZ,0⟩,1) else none:=by
    unfold jG;rw [hO,hh]
   rw [hsp];repeat' (first|apply ai (d:=58);exact rfl;apply bk (j:=i);exact rfl;exact rfl;omega|refine zZC ?_|refine sM fun _=>?_|refine sC ?_ ?_<;>intro hb<;>try omega|fail)
   all_goals
    first
    |omega
    | ((refine dz ?_)
       refine ⟨rfl,?_⟩;repeat (first|rw [if_pos (by assumption)]|rw [if_neg (by assumption)])
       first|exact rfl|exact ⟨dY,_,rfl⟩)
 |succ z=>
   repeat' first|refine zZF ?_|refine sM fun _=>?_|refine sC ?_ ?_<;>intro hb<;>try omega|fail
   all_goals try omega
   refine ay [0,1,4,9] rfl (fun k:Nat=> [(10,.int .i64 (k:Int))]) (fun _=> [.box g4 339 (bw dY)]) (fun k=>1≤k∧k≤14∧O=opL l (I8 (z+1) k++RD z)) (fun k=>14 - k) 1 ⟨by omega,by omega,hOz⟩ sB mS ?_;rintro k ⟨hk1,hk2,hOk⟩;by_cases hk14:k=14
   ·subst hk14;rw [OL,Vq] at hOk;repeat' (first|refine zZC ?_|refine sM fun _=>?_|refine sC ?_ ?_<;>intro hb<;>try omega|fail)
    all_goals
     first
     |omega
     |exact ⟨z,⟨by omega,hOk⟩,by omega,sB,sB,.refl _⟩
   rw [Mi (by omega)] at hOk;obtain ⟨s,hs⟩: ∃ s,opB (k:Int)=s:=⟨_,rfl⟩;have hu:=TN k (by omega);have hP:=fun w=>yn (k:Int) w;rw [hs] at hOk hu hP;by_cases hsz:s.size=z+1
   ·rw [if_pos hsz] at hOk;have hBs:=hB s (by omega);by_cases hb:(l.take s.size).map upC=ap s
    ·have hb2:=(Kf hu _).1 hb;rw [← az] at hb2;rw [Vp,RE hb2,az,hsz] at hOk;rw [decide_eq_true hb] at hBs;have hsp:jG l=some (⟨8,k,aB,aZ,0⟩,z+1):=by
      unfold jG;rw [hO,hOk]
     rw [hsp];repeat' (first|apply ag (f:=387);exact rfl;exact rfl;intro w' hm;exact hP w'|apply ag (f:=386);exact rfl;exact rfl;intro w' hm;exact hBs w'|refine zZC ?_|refine sM fun _=>?_|refine sC ?_ ?_<;>intro hb<;>try omega|fail)
     all_goals
      first
      |omega
      |(refine dz ?_);exact ⟨rfl,rfl⟩
    ·have hb2: ¬ l.take s.size=ap s:=fun h=>hb ((Kf hu _).2 h);rw [← az] at hb2;rw [Vp,opL,if_neg hb2] at hOk;rw [decide_eq_false hb] at hBs;repeat' (first|apply ag (f:=387);exact rfl;exact rfl;intro w' hm;exact hP w'|apply ag (f:=386);exact rfl;exact rfl;intro w' hm;exact hBs w'|refine zZC ?_|refine sM fun _=>?_|refine sC ?_ ?_<;>intro hb<;>try omega|fail)
     all_goals
      first
      |omega
      |exact ⟨k+1,⟨by omega,by omega,hOk⟩,by omega,sB,sB,.refl _⟩
   ·rw [if_neg hsz] at hOk;repeat' (first|apply ag (f:=387);exact rfl;exact rfl;intro w' hm;exact hP w'|refine zZC ?_|refine sM fun _=>?_|refine sC ?_ ?_<;>intro hb<;>try omega|fail)
    all_goals
     first
     |omega
     |exact ⟨k+1,⟨by omega,by omega,hOk⟩,by omega,sB,sB,.refl _⟩
theorem TokR.form {i:Nat} {o:Option (Tk × Nat)} {v:Value} (h:TokR i o v): ∃ (t:Tk) (n:Int) (b:Bool),v= .tuple #[.agg (bw t).toArray,.int .i64 n,.bool b]:=by
 cases o with
 |none=>
  obtain ⟨t,e,rfl⟩:=h;exact ⟨t,e,false,rfl⟩
 |some x=>
  obtain ⟨t,n⟩:=x;exact ⟨_,_,_,h⟩
theorem FD (a:ByteArray) (ha:a.size≤256) (i:Nat) (hi:i<a.size) (w:World):FnAt Tryz.prog 307 [.string a,.int .i64 (i:Int)] w fun v H=>H= []∧TokR i (bN ((ap a).drop i)) v:=by
 refine aA Tryz.func307 rfl Tryz.ntmps307 rfl ?_;have hl:=az a;have hD:=fun w=>p7 a (by omega) i w;have hL:=fun w=>oV a (by omega) i w;have hN:=fun h w=>Dj a ha i hi h w;have hT:=fun w=>IE a ha i hi w;have hWd:=fun h w=>IC a ha i hi h w;have hS:=fun w=>IG a ha i hi w;unfold bN;rw [qm,show ((ap a).drop i).tail=(ap a).drop (i+1) by rw [Yj]];by_cases h1:aL (bat a i)=true
 ·rw [if_pos h1];rw [h1] at hD;replace hN:=hN h1;repeat' (first|apply ag (f:=357);exact rfl;exact rfl;intro w' hm;exact hD w'|apply aJ (f:=358);exact rfl;exact rfl;intro w' hm;exact hN w';rintro _ _ ⟨rfl,h⟩;obtain ⟨t,n,b,rfl⟩:=h.form|refine zZC ?_|refine sM fun _=>?_|refine sC ?_ ?_<;>intro hb<;>try omega|fail)
  all_goals ((refine dz ?_);exact ⟨rfl,by assumption⟩)
 rw [if_neg h1];replace h1:aL (bat a i)=false:=by simpa using h1
 rw [h1] at hD;by_cases h2:bat a i=34
 ·rw [if_pos h2];repeat' (first|apply ag (f:=357);exact rfl;exact rfl;intro w' hm;exact hD w'|apply aJ (f:=359);exact rfl;exact rfl;intro w' hm;exact hT w';rintro _ _ ⟨rfl,h⟩;obtain ⟨t,n,b,rfl⟩:=h.form|apply ai (d:=20);exact rfl;apply bk (j:=i);exact rfl;exact rfl;omega|refine zZC ?_|refine sM fun _=>?_|refine sC ?_ ?_<;>intro hb<;>try omega|fail)
  all_goals
   first
   |exact absurd h2 (by assumption)
   |(refine dz ?_);exact ⟨rfl,by assumption⟩
 rw [if_neg h2];by_cases h3:cz (bat a i)=true
 ·rw [if_pos h3];rw [h3] at hL;replace hWd:=hWd h3;repeat' (first|apply ag (f:=357);exact rfl;exact rfl;intro w' hm;exact hD w'|apply ag (f:=360);exact rfl;exact rfl;intro w' hm;exact hL w'|apply aJ (f:=361);exact rfl;exact rfl;intro w' hm;exact hWd w';rintro _ _ ⟨rfl,h⟩;obtain ⟨t,n,b,rfl⟩:=h.form|apply ai (d:=20);exact rfl;apply bk (j:=i);exact rfl;exact rfl;omega|refine zZC ?_|refine sM fun _=>?_|refine sC ?_ ?_<;>intro hb<;>try omega|fail)
  all_goals
   first
   |exact absurd (by assumption) h2
   |(refine dz ?_);exact ⟨rfl,by assumption⟩
 rw [if_neg h3];replace h3:cz (bat a i)=false:=by simpa using h3
 rw [h3] at hL;repeat' (first|apply ag (f:=357);exact rfl;exact rfl;intro w' hm;exact hD w'|apply ag (f:=360);exact rfl;exact rfl;intro w' hm;exact hL w'|apply aJ (f:=362);exact rfl;exact rfl;intro w' hm;exact hS w';rintro _ _ ⟨rfl,h⟩;obtain ⟨t,n,b,rfl⟩:=h.form|apply ai (d:=20);exact rfl;apply bk (j:=i);exact rfl;exact rfl;omega|refine zZC ?_|refine sM fun _=>?_|refine sC ?_ ?_<;>intro hb<;>try omega|fail)
 all_goals
  first
  |exact absurd (by assumption) h2
  |(refine dz ?_);exact ⟨rfl,by assumption⟩
theorem Di (a:ByteArray) (w:World):
 FnAt Tryz.prog 240 [.string a] w fun v H=> ∃ A cap,v=Ki A cap (bG bN (ap a))∧H= [.own A 339 8 (bG bN (ap a)).1.length cap ((bG bN (ap a)).1.flatMap bw)]:=by
 refine aA Tryz.func240 rfl Tryz.ntmps240 rfl ?_;have hl:=az a;unfold bG;refine aI 339 8 ?_;by_cases hlen:256<(ap a).length
 ·rw [if_pos hlen];repeat' (first|refine zZF ?_|refine sM fun _=>?_|refine sC ?_ ?_<;>intro hb<;>try omega|fail)
  all_goals try omega
  exact sj (.inl rfl) rfl rfl rfl rfl (.refl _) ⟨none,0,rfl,rfl⟩
 rw [if_neg hlen];repeat' (first|refine zZF ?_|refine sM fun _=>?_|refine sC ?_ ?_<;>intro hb<;>try omega|fail)
 all_goals try omega
 refine ay [0] rfl (fun i:Nat=> [(5,.int .i64 (i:Int))]) (fun _=> [.own none 339 8 0 0 []]) (fun i=>i≤a.size∧ ∀ j,j<i→bR (bat a j)=true) (fun i=>a.size - i) 0 ⟨by omega,fun j h=>by omega⟩ sB mS ?_;rintro i ⟨hi,hpl⟩;by_cases hlt:i<a.size
 ·repeat' first|apply ai (d:=22);exact rfl;apply bk (j:=i);exact rfl;exact rfl;omega|apply ai (d:=27);exact rfl;apply bk (j:=i);exact rfl;exact rfl;omega|refine zZC ?_|refine sM fun _=>?_|refine sC ?_ ?_<;>intro hb<;>try omega|fail
  all_goals first
   |omega
   | (have hf : (ap a).findIdx? (fun c => !bR c) = some i := by
       refine qu hlt ?_ fun j hj=>by rw [hpl j hj];rfl
       simp only [bR,XO,Xp,decide_eq_false_iff_not];omega
      rw [hf];exact sj (.inl rfl) rfl rfl rfl rfl (.refl _) ⟨none,0,rfl,rfl⟩)
   | (refine ⟨i + 1, ?_, (by first | omega |dsimp only; omega), sB, sB, mS⟩
      refine ⟨hlt,fun j hj=> ?_⟩;rcases (by omega:j<i∨j=i) with h|rfl
      ·exact hpl j h
      ·simp only [bR,VP,decide_eq_true_eq];omega)
 have e:i=a.size:=by omega
 subst e;have hf:(ap a).findIdx? (fun c=> !bR c)=none:=oZ fun j hj=>by rw [hpl j hj];rfl
 rw [hf];dsimp only;repeat' (first|refine zZC ?_|refine sM fun _=>?_|refine sC ?_ ?_<;>intro hb<;>try omega|fail)
 all_goals try omega
 generalize hT:bB bN (ap a) (ap a).length 0=T
 refine ay [0] rfl (fun x:Nat × List Tk × Option Nat × Nat=> [(6,sl x.2.2.1 x.2.1.length x.2.2.2),(7,.int .i64 (x.1:Int))]) (fun x=> [.own x.2.2.1 339 8 x.2.1.length x.2.2.2 (x.2.1.flatMap bw)])
  (fun x=>x.1≤a.size∧x.2.1.length≤x.1∧T=(bB bN (ap a) (a.size - x.1) x.1).map (x.2.1++ ·)) (fun x=>a.size - x.1) (0,[],none,0) ⟨by omega,by simp,by rw [← hT,hl];cases bB bN (ap a) a.size 0<;>rfl⟩ sB mS ?_
 rintro ⟨i,toks,A,cap⟩ ⟨hi2,hi3,hi4⟩;dsimp only at hi2 hi3 hi4 ⊢;by_cases hlt2:i<a.size
 ·obtain ⟨f,hf1⟩: ∃ f,a.size - i=f+1:=⟨a.size - i - 1,by omega⟩;rw [hf1] at hi4;simp only [bB] at hi4;have hdr:=bA hlt2;have hK:=FD a (by omega) i hlt2;generalize hld:(ap a).drop i=ld at hi4 hdr hK;rw [hdr] at hi4;dsimp only at hi4;by_cases h32:bat a i=32
  ·rw [if_pos h32] at hi4;repeat' (first|apply ai (d:=37);exact rfl;apply bk (j:=i);exact rfl;exact rfl;omega|refine zZC ?_|refine sM fun _=>?_|refine sC ?_ ?_<;>intro hb<;>try omega|fail)
   all_goals try omega
   refine ⟨(i+1,toks,A,cap),?_,(by first|omega|dsimp only;omega),sB,sB,mS⟩;exact ⟨hlt2,by dsimp only;omega,by dsimp only;rw [show a.size - (i+1)=f by omega];exact hi4⟩
  ·rw [if_neg h32,← hdr] at hi4;have hldl:ld.length=a.size - i:=by rw [← hld,VS,hl]
   cases ho:bN ld with
   |none=>
     rw [ho] at hi4 hK;dsimp only [Except.map] at hi4;rw [hi4];refine aI 339 8 ?_;repeat' (first|apply ai (d:=37);exact rfl;apply bk (j:=i);exact rfl;exact rfl;omega|apply aJ (f:=307);exact rfl;exact rfl;intro w' hm;exact hK w';rintro _ _ ⟨rfl,t,n,rfl⟩|refine zZC ?_|refine sM fun _=>?_|refine sC ?_ ?_<;>intro hb<;>try omega|fail)
     all_goals try omega
     exact sj (.inl rfl) rfl rfl rfl rfl (H' := [.own none 339 8 0 0 []]) mS ⟨none,0,rfl,rfl⟩
   |some x=>
     obtain ⟨t,m⟩:=x;rw [ho] at hi4 hK;dsimp only at hi4;have hfit:=pS ld t m ho;have hm0:0<m:=hfit.1;repeat' (first|apply ai (d:=37);exact rfl;apply bk (j:=i);exact rfl;exact rfl;omega|apply aJ (f:=307);exact rfl;exact rfl;intro w' hm;exact hK w';rintro _ _ ⟨rfl,rfl⟩|apply aG;(iterate 3 exact rfl);exact pK;exact pK;exact rfl;simp [bw,Value.oneCell'];omega;simp only [maxLen];omega;intro g8 c8|refine zZC ?_|refine sM fun _=>?_|refine sC ?_ ?_<;>intro hb<;>try omega|fail)
     all_goals try omega
     refine ⟨(i+m,toks++ [{ t with at_:=(i:Int) }],some g8,c8),⟨by dsimp only;omega,by simp;omega,?_⟩,(by dsimp only;omega),?_,sB,?_⟩
     ·dsimp only;rw [hi4,tA pS f (a.size - (i+m)) f (i+m) (by omega) (by omega) (by omega)];cases bB bN (ap a) (a.size - (i+m)) (i+m)<;>simp [Except.map]
     ·simp only [Vn,Vs];exact sB
     ·simp only [Vn,Vs,VF,VE,VZ,VB];exact mS
 ·have e:i=a.size:=by omega
  subst e;rw [show a.size - a.size=0 by omega] at hi4;simp only [bB,Except.map,VB] at hi4;rw [hi4];repeat' (first|refine zZC ?_|refine sM fun _=>?_|refine sC ?_ ?_<;>intro hb<;>try omega|fail)
  all_goals try omega
  exact sj (.inl rfl) rfl rfl rfl rfl (H' := [.own A 339 8 toks.length cap (toks.flatMap bw)]) mS ⟨A,cap,rfl,rfl⟩
theorem Db {tk:List Int→Option (Tk × Nat)} {a:ByteArray} (h:(bG tk (ap a)).2.2=0):a.size≤256:=by
 unfold bG at h;split at h
 ·cases h
 ·rename_i h1;rw [az] at h1;omega
theorem AB (a:ByteArray) (w:World) (r:List Nd × Int × Int) (hr:r=bZ (bG bN (ap a)) (a.size:Int)):
 FnAt Tryz.prog 165 [.string a] w fun v H=> ∃ A cap,v=Kh A cap r∧H= [.own A 132 11 r.1.length cap (r.1.flatMap bu)]:=by
 refine aA Tryz.func165 rfl Tryz.ntmps165 rfl ?_;have hT:=fun w' =>Di a w';have htl:=pR bN (ap a);have hch:=Ak (ap a);have hnum:=v7 (ap a);have hsz:=Db (tk:=bN) (a:=a);obtain ⟨⟨toks,at0,e0⟩,hx⟩: ∃ x,bG bN (ap a)=x:=⟨_,rfl⟩;rw [hx] at hr htl hch hnum hsz;simp only [hx,Ki] at hT;dsimp only at htl hch hnum hsz;refine aI 132 11 ?_;refine aI 132 11 ?_;by_cases he0:e0≠0
 ·have hr' :r=([],at0,e0):=by rw [hr];simp [bZ,he0]
  subst hr';repeat' (first|apply aJ (f:=240);exact rfl;exact rfl;exact fun w' _=>hT w';rintro _ _ ⟨A,cap,rfl,rfl⟩|refine zZA ?_|refine sM fun _=>?_|refine sC ?_ ?_<;>intro hb<;>try omega|fail)
  all_goals first
   |omega
   |exact sj eIO rfl rfl rfl rfl (H' := [.own none 132 11 0 0 []]) mS ⟨none,0,rfl,rfl⟩
 have he0:e0=0:=Classical.not_not.1 he0;subst he0;replace hsz:=hsz rfl;obtain ⟨r1,hr1,_⟩:=uZ (a.size:Int) (20*toks.length+40) (.level 1) ⟨toks,[]⟩ ⟨by omega,by omega⟩ (by simp [Job.c]);have hL:=(Iz (20*toks.length+40)).1 1 (by decide) (by decide);obtain ⟨ff,hff⟩: ∃ ff,20*toks.length+40=ff:=⟨_,rfl⟩;rw [hff] at hr1 hL
 cases r1 with
 |error e=>
  have hr' :r=([],e.1,e.2):=by rw [hr];simp [bZ,hff,hr1]
  subst hr';repeat' (first|apply aJ (f:=240);exact rfl;exact rfl;exact fun w' _=>hT w';rintro _ _ ⟨A,cap,rfl,rfl⟩|apply ak (f:=241);exact rfl;exact rfl;rename_i g;exact FnIn.msub (hL ⟨g,a,A,cap,toks,hsz,htl,hch⟩ 0 ⟨toks,[]⟩ none 0 _ _ w (Nat.zero_le _) rfl (Nat.le_refl 0) hr1) (MSub.pick pK (MSub.pick pK (MSub.pick pK (MSub.refl _))));rintro _ _ ⟨rfl,k1,B1,cb1,o1,j1,j2,j3,j4,rfl⟩;dsimp only at j2;obtain ⟨u,hd1⟩: ∃ u,hdT (a.size:Int) (toks.drop k1)=u:=⟨_,rfl⟩|apply ai;exact rfl;apply eu;exact rfl;exact rfl|apply ag (f:=243);exact rfl;exact rfl;exact fun w' hm=>Cx.next (x:=⟨_,a,A,cap,toks,hsz,htl,hch⟩) hd1 (B:=B1) (cb:=cb1) (out:=o1) (at_:=e.1) (e:=e.2) (MSub.pick pK (MSub.pick pK (MSub.pick pK (MSub.nil _)))) w' hm|apply ak (f:=242);exact rfl;exact rfl;exact FnIn.msub (il _ a A toks.length cap k1 B1 o1.length cb1 e.1 e.2 _ _ _ _) (MSub.pick pK (.refl _));rw [if_neg j1,if_neg j1];rintro _ _ ⟨rfl,rfl⟩|refine zZG ?_|refine sM fun _=>?_|refine sC ?_ ?_<;>intro hb<;>try omega|refine sCQ ?_ ?_<;>intro hb<;>try omega|fail)
  all_goals first
   |omega
   |exact absurd (by assumption) j1
   |exact sj eIO rfl rfl rfl rfl (H' := [.own none 132 11 0 0 []]) mS ⟨none,0,rfl,rfl⟩
 |ok y=>
  obtain ⟨n,p'⟩:=y;have hwf:=Dg _ _ _ _ _ _ hr1 (⟨hnum,fun _ h=>by cases h⟩:Wf ⟨toks,[]⟩);have hD:=fun (tv:Value) (w' :World) (h:Reads w' tv p'.out.length (p'.out.flatMap bu))=>wn p'.out hwf.2 tv w' h;have hde:(nB p'.out).2=eD p'.out:=by
   unfold nB;split
   ·rfl
   ·rename_i h;simp at h;simp [h]
  obtain ⟨dd,de,hdd⟩: ∃ a b,nB p'.out=(a,b):=⟨_,_,rfl⟩;rw [hdd] at hD hde;dsimp only at hD hde;repeat' (first|apply aJ (f:=240);exact rfl;exact rfl;exact fun w' _=>hT w';rintro _ _ ⟨A,cap,rfl,rfl⟩|apply ak (f:=241);exact rfl;exact rfl;rename_i g;exact FnIn.msub (hL ⟨g,a,A,cap,toks,hsz,htl,hch⟩ 0 ⟨toks,[]⟩ none 0 _ _ w (Nat.zero_le _) rfl (Nat.le_refl 0) hr1) (MSub.pick pK (MSub.pick pK (MSub.pick pK (MSub.refl _))));rintro _ _ ⟨rfl,k1,B1,cb1,j1,j2,j3,j4,rfl⟩;dsimp only at j1 j2;obtain ⟨u,hd1⟩: ∃ u,hdT (a.size:Int) (toks.drop k1)=u:=⟨_,rfl⟩|apply ai;exact rfl;apply eu;exact rfl;exact rfl|apply ag (f:=243);exact rfl;exact rfl;exact fun w' hm=>Cx.next (x:=⟨_,a,A,cap,toks,hsz,htl,hch⟩) hd1 (B:=B1) (cb:=cb1) (out:=p'.out) (at_:=0) (e:=0) (MSub.pick pK (MSub.pick pK (MSub.pick pK (MSub.nil _)))) w' hm|apply ak (f:=242);exact rfl;exact rfl;exact FnIn.msub (il _ a A toks.length cap k1 B1 p'.out.length cb1 0 0 _ _ _ _) (MSub.pick pK (.refl _));rintro _ _ ⟨rfl,rfl⟩|apply ag (f:=244);exact rfl;exact rfl;intro w' hm';exact hD _ w' (Reads.of_own (A:=B1) hm' pK)|refine zZG ?_|refine sM fun _=>?_|refine sC ?_ ?_<;>intro hb<;>try omega|refine sCQ ?_ ?_<;>intro hb<;>try omega|fail)
  all_goals try omega
  ·have hk1:k1<toks.length:=by
    have:(k1:Int)<(toks.length:Int):=by assumption
    omega
   have hu0:u.kind≠0:=fun h=>by
    have h2:=(hch.drop k1).kind (fin:=(a.size:Int));rw [hd1] at h2;have:=congrArg List.length (h2.1 h);rw [VS,WN] at this;omega
   have hr' :r=([],u.at_,4):=by rw [hr];simp [bZ,hff,hr1,j2,hd1,hu0]
   subst hr';exact sj eIO rfl rfl rfl rfl (H' := [.own none 132 11 0 0 []]) mS ⟨none,0,rfl,rfl⟩
  all_goals
   have hk1:toks.length≤k1:=by
    have:(toks.length:Int)≤(k1:Int):=by assumption
    omega
   have hu0:u.kind=0:=by rw [← hd1,xj hk1];rfl
  ·have hr' :r=([],0,de):=by
    have hb' :de≠0:=by assumption
    rw [hr];rw [hde] at hb' ⊢;simp [bZ,hff,hr1,j2,hd1,hu0,hb']
   subst hr';exact sj eIO rfl rfl rfl rfl (H' := [.own none 132 11 0 0 []]) mS ⟨none,0,rfl,rfl⟩
  ·have hr' :r=(p'.out,0,0):=by
    have hb' :eD p'.out=0:=hde ▸ Classical.not_not.1 (by assumption);rw [hr];simp [bZ,hff,hr1,j2,hd1,hu0,hb']
   subst hr';exact sj eIO rfl rfl rfl rfl (H' := [.own B1 132 11 p'.out.length cb1 (p'.out.flatMap bu)]) mS ⟨B1,cb1,rfl,rfl⟩
theorem FF (b:ByteArray) (w:World):FnAt Tryz.prog 102 [.string b] w fun v H=> ∃ A cap,v=ofV A cap (ofP b)∧H= [.own A 132 11 (ofP b).1.tree.length cap ((ofP b).1.tree.flatMap bu)]:=by
 refine aA Tryz.func102 rfl Tryz.ntmps102 rfl ?_;refine aI 132 11 ?_;rw [OP];unfold ofR;by_cases hlen:256<b.size
 ·rw [if_pos hlen];repeat' (first|refine zZF ?_|refine sM fun _=>?_|refine sC ?_ ?_<;>intro hb<;>try omega|fail)
  all_goals first
   |omega
   |exact iF eIO rfl rfl pK rfl rfl rfl (H' := [.own none 132 11 0 0 []]) mS ⟨none,0,rfl,rfl⟩
 rw [if_neg hlen];repeat' (first|refine zZF ?_|refine sM fun _=>?_|refine sC ?_ ?_<;>intro hb<;>try omega|fail)
 all_goals try omega
 rename_i g2;refine ay [0,2] rfl (fun i:Nat=> [(5,.int .i64 (i:Int))]) (fun _=> [.box g2 191 [.bool false,.int .u8 0,.int .i64 0,.string aB,.slice none 0 0],.own none 132 11 0 0 []]) (fun i=>i≤b.size∧ ∀ j,j<i→bR (bat b j)=true) (fun i=>b.size - i) 0 ⟨by omega,fun j h=>by omega⟩ sB mS ?_;rintro i ⟨hi,hpl⟩;by_cases hlt:i<b.size
 ·by_cases hc:bR (bat b i)=true
  ·have hc' :=hc;simp only [bR,VP,decide_eq_true_eq] at hc';repeat' (first|apply ai (d:=21);exact rfl;apply bk (j:=i);exact rfl;exact rfl;omega|apply ai (d:=26);exact rfl;apply bk (j:=i);exact rfl;exact rfl;omega|refine zZC ?_|refine sM fun _=>?_|refine sC ?_ ?_<;>intro hb<;>try omega|fail)
   all_goals try omega
   refine ⟨i+1,?_,(by first|omega|dsimp only;omega),sB,sB,mS⟩;refine ⟨hlt,fun j hj=> ?_⟩;rcases (by omega:j<i∨j=i) with h|rfl
   ·exact hpl j h
   ·exact hc
  ·have hc' :=hc;simp only [bR,VP,decide_eq_true_eq] at hc';have hf:(ap b).findIdx? (fun c=> !bR c)=some i:=qu hlt (by simp [hc]) fun j hj=>by rw [hpl j hj];rfl
   rw [hf];repeat' (first|apply ai (d:=21);exact rfl;apply bk (j:=i);exact rfl;exact rfl;omega|apply ai (d:=26);exact rfl;apply bk (j:=i);exact rfl;exact rfl;omega|refine zZC ?_|refine sM fun _=>?_|refine sC ?_ ?_<;>intro hb<;>try omega|fail)
   all_goals first
    |omega
    |exact iF eIO rfl rfl pK rfl rfl rfl (H' := [.own none 132 11 0 0 []]) mS ⟨none,0,rfl,rfl⟩
 ·have e:i=b.size:=by omega
  subst e;have hf:(ap b).findIdx? (fun c=> !bR c)=none:=oZ fun j hj=>by rw [hpl j hj];rfl
  rw [hf];dsimp only;have hhd:(ap b).headD 0=bat b 0:=by have:=qm (a:=b) (i:=0);rwa [WH] at this
  rw [hhd];have hC:=fun w=>FK b (by omega) w;by_cases h61:bat b 0≠61
  ·rw [if_pos h61];by_cases h0:b=aB
   ·repeat' first|apply ai (d:=32);exact rfl;apply pO;exact rfl;exact rfl;exact h0|apply ag;exact rfl;exact rfl;intro w hm;exact hC w|refine zZC ?_|refine sM fun _=>?_|refine sC ?_ ?_<;>intro hb<;>try omega|fail
    all_goals first
     |omega
     |exact iF eIO rfl rfl pK rfl rfl rfl (H' := [.own none 132 11 0 0 []]) mS ⟨none,0,rfl,rfl⟩
   ·have hpos:0<b.size:=by
     rcases Xc b.size with h|h
     ·exact absurd (ByteArray.ext (YD h)) h0
     ·exact h
    repeat' first|apply ai (d:=32);exact rfl;apply fG;exact rfl;exact rfl;exact h0|apply ai (d:=35);exact rfl;apply bk (j:=0);exact rfl;exact rfl;exact hpos|apply ag;exact rfl;exact rfl;intro w hm;exact hC w|refine zZC ?_|refine sM fun _=>?_|refine sC ?_ ?_<;>intro hb<;>try omega|fail
    all_goals first
     |omega
     |exact iF eIO rfl rfl pK rfl rfl rfl (H' := [.own none 132 11 0 0 []]) mS ⟨none,0,rfl,rfl⟩
  ·rw [if_neg h61];have h61:bat b 0=61:=Classical.not_not.1 h61;have hpos:0<b.size:=by
    rcases Xc b.size with h|h
    ·rw [ko (by omega)] at h61;cases h61
    ·exact h
   have h0:b≠aB:=by
    rintro rfl;exact absurd hpos (by decide)
   have hF:=fun (w' :World)=>AB (sub b 1 b.size) w' _ rfl;obtain ⟨⟨t,at0,e0⟩,hr⟩: ∃ x,bZ (bG bN (ap (sub b 1 b.size))) ((sub b 1 b.size).size:Int)=x:=⟨_,rfl⟩;simp only [hr,Kh] at hF;rw [hr];dsimp only;by_cases he:e0≠0
   ·rw [if_pos he];repeat' (first|apply ai (d:=32);exact rfl;apply fG;exact rfl;exact rfl;exact h0|apply ai (d:=35);exact rfl;apply bk (j:=0);exact rfl;exact rfl;exact hpos|apply ai (d:=43);exact rfl;apply xM (lo:=1);exact rfl;exact rfl;omega|apply aJ (f:=165);exact rfl;exact rfl;intro w' hm';exact hF w';rintro _ _ ⟨A,cap,rfl,rfl⟩|apply ai;exact rfl;apply xT;exact rfl;exact rfl|refine zZC ?_|refine sM fun _=>?_|refine sC ?_ ?_<;>intro hb<;>try omega|fail)
    all_goals first
     |omega
     |exact iF eIO rfl rfl pK rfl rfl rfl (H' := [.own none 132 11 0 0 []]) mS ⟨none,0,rfl,rfl⟩
   ·rw [if_neg he];repeat' (first|apply ai (d:=32);exact rfl;apply fG;exact rfl;exact rfl;exact h0|apply ai (d:=35);exact rfl;apply bk (j:=0);exact rfl;exact rfl;exact hpos|apply ai (d:=43);exact rfl;apply xM (lo:=1);exact rfl;exact rfl;omega|apply aJ (f:=165);exact rfl;exact rfl;intro w' hm';exact hF w';rintro _ _ ⟨A,cap,rfl,rfl⟩|apply ai;exact rfl;apply xT;exact rfl;exact rfl|refine zZC ?_|refine sM fun _=>?_|refine sC ?_ ?_<;>intro hb<;>try omega|fail)
    all_goals first
     |omega
     |exact iF eIO rfl rfl pK rfl rfl rfl (H' := [.own A 132 11 t.length cap (t.flatMap bu)]) mS ⟨A,cap,rfl,rfl⟩
theorem FI (L:List Et) (tv:Value) (w:World) (ht:Reads w tv L.length (L.flatMap rK)) (i:Nat) (hlt:i<L.length):
 aF Tryz.prog 157 [tv,.int .i64 (i:Int)] w (.int .i64 (lz (kH L i) L[i])):=by
 obtain ⟨Al,cl,rfl,hl1,hl2,hl3⟩:=ht;refine aA Tryz.func157 rfl Tryz.ntmps157 rfl ?_;obtain ⟨gl,ol,rfl,hrl⟩:=hl3 (by omega);have he:=hrl.elem lJ i hlt;have hprev: ∀ h:0<i,Ro w gl (ol+(i - 1)*3) (rK L[i - 1]):=fun h=>hrl.elem lJ (i - 1) (by omega);have hbef: ∀ h:0<i,kH L i=some L[i - 1].at_:=fun h=>by unfold kH;rw [if_neg (by omega),Vo (by omega)];rfl
 have hbef0:i=0→kH L i=none:=fun h=>by unfold kH;rw [if_pos h]
 generalize L[i]=e at he ⊢;obtain ⟨fo,hfo⟩: ∃ fo,lz (kH L i) e=fo:=⟨_,rfl⟩;rw [hfo];have hV: ∀ w',aF Tryz.prog 53 [.agg (aw e.at_).toArray] w' (.bool e.at_.valid):=fun w' =>kB e.at_.col e.at_.row w';have hO:=fun (w' :World)=>FF e.input w';have hofV: ∀ (A:Option Nat) (cap:Nat),ofV A cap (ofP e.input)= .tuple #[.agg (DX (ofP e.input).1 (sl A (ofP e.input).1.tree.length cap)).toArray,.int .i64 (ofP e.input).2.1,.int .i64 (ofP e.input).2.2]:=fun _ _=>rfl;simp only [hofV] at hO;unfold lz at hfo;generalize ofP e.input=o at hO hfo;obtain ⟨⟨f1,f2,f3⟩,oa,oe⟩:=o;simp only [DX] at hO;generalize e.at_.valid=vd at hV hfo;have hle: ∀ (w' :World),True:=fun _=>trivial;by_cases h0:0<i
 ·have hp:=hprev h0;rw [hbef h0] at hfo;generalize L[i - 1]=b at hp hfo;have hL:=fun w' =>yo b.at_ e.at_ w';replace hfo:(if vd=false then (3:Int) else if bn b.at_ e.at_=false then 12 else if e.input=aB then 2 else oe)=fo:=hfo;generalize bn b.at_ e.at_=ls at hL hfo;repeat' (first|apply ai (d:=10);exact rfl;apply aa;exact rfl;exact rfl;exact hlt|apply ai (d:=12);exact rfl;apply cZ (off:=0) (ys:=aw e.at_) he;(iterate 3 exact rfl)|apply aY (d:=20);exact rfl;apply fE;exact rfl;exact rfl;exact h0;simp only [maxLen] at*;omega|apply aY (d:=21);exact rfl;apply aa (j:=i - 1);exact rfl;exact rfl;omega|apply aY (d:=23);exact rfl;apply cZ (off:=0) (ys:=aw b.at_) hp;(iterate 3 exact rfl)|apply aY (d:=26);exact rfl;apply aa (j:=i);exact rfl;exact rfl;exact hlt|apply aY (d:=28);exact rfl;apply cZ (off:=0) (ys:=aw e.at_) he;(iterate 3 exact rfl)|apply ai (d:=34);exact rfl;apply aa;exact rfl;exact rfl;exact hlt|apply ai (d:=36);exact rfl;apply eP (off:=2);exact rfl;exact he;exact rfl|apply ai (d:=41);exact rfl;apply aa;exact rfl;exact rfl;exact hlt|apply ai (d:=43);exact rfl;apply eP (off:=2);exact rfl;exact he;exact rfl|apply ag;exact rfl;exact rfl;intro w hm;exact hV w|apply dw;exact rfl;exact rfl;intro w hm;exact hL w|apply aJ (f:=102);exact rfl;exact rfl;intro w' hm;exact hO w';rintro _ _ ⟨A,cap,rfl,rfl⟩|refine zZG ?_|refine sM fun _=>?_|refine sC ?_ ?_<;>intro hb<;>try omega|refine sCQ ?_ ?_<;>intro hb<;>try omega|fail)
  all_goals (refine bp eIO rfl rfl (.nil _) ?_;simp_all [aB];done)
 ·rw [hbef0 (by omega)] at hfo;repeat' (first|apply ai (d:=10);exact rfl;apply aa;exact rfl;exact rfl;exact hlt|apply ai (d:=12);exact rfl;apply cZ (off:=0) (ys:=aw e.at_) he;(iterate 3 exact rfl)|apply ai (d:=34);exact rfl;apply aa;exact rfl;exact rfl;exact hlt|apply ai (d:=36);exact rfl;apply eP (off:=2);exact rfl;exact he;exact rfl|apply ai (d:=41);exact rfl;apply aa;exact rfl;exact rfl;exact hlt|apply ai (d:=43);exact rfl;apply eP (off:=2);exact rfl;exact he;exact rfl|apply ag;exact rfl;exact rfl;intro w hm;exact hV w|apply aJ (f:=102);exact rfl;exact rfl;intro w' hm;exact hO w';rintro _ _ ⟨A,cap,rfl,rfl⟩|refine zZG ?_|refine sM fun _=>?_|refine sC ?_ ?_<;>intro hb<;>try omega|refine sCQ ?_ ?_<;>intro hb<;>try omega|fail)
  all_goals first
   |omega
   |refine bp eIO rfl rfl (.nil _) ?_;simp_all [aB];done
theorem AC (L:List Et) (tv:Value) (w:World) (ht:Reads w tv L.length (L.flatMap rK)) (hlen:L.length≤1000000):
 aF Tryz.prog 98 [tv] w (.tuple #[.int .i64 (iY L).1,.int .i64 (iY L).2]):=by
 have hF:=fun (w' :World) (H' :List Blk) (hm:Mem w w' H') (i:Nat) (hi:i<L.length)=>FI L tv w' (ht.of_w0 hm) i hi;obtain ⟨Al,cl,rfl,hl1,hl2,hl3⟩:=ht;refine aA Tryz.func98 rfl Tryz.ntmps98 rfl ?_;repeat' (first|refine zZB ?_|refine sM fun _=>?_|refine sC ?_ ?_<;>intro hb<;>try omega|fail)
 refine ay [0] rfl (fun i:Nat=> [(4,.int .i64 (i:Int))]) (fun _=> []) (fun i=>i≤L.length∧iY L=gy i (kH L i) (L.drop i)) (fun i=>L.length - i) 0 ⟨by omega,rfl⟩ sB (.refl _) ?_;rintro i ⟨hi,hck⟩;by_cases hlt:i<L.length
 ·have hF:=fun w' H' hm=>hF w' H' hm i hlt;have hnext:kH L (i+1)=some L[i].at_:=by unfold kH;rw [if_neg (by omega),X5,Vo hlt];rfl
  rw [Vy hlt,gy,← hnext] at hck;generalize lz (kH L i) L[i]=e at hF hck;repeat' (first|apply ag (f:=157);exact rfl;exact rfl;intro w' hm;exact hF w' _ hm|refine zZA ?_|refine sM fun _=>?_|refine sC ?_ ?_<;>intro hb<;>try omega|fail)
  all_goals first
   |omega
   |refine dm eIO rfl rfl rfl (.nil _) ?_;rw [hck,if_pos (by assumption)];done
   | (rw [if_neg (by assumption)] at hck
      refine ⟨i+1,⟨hlt,hck⟩,by omega,?_,?_,.nil _⟩
      ·exact sB
      ·exact sB)
 ·have e2:i=L.length:=by omega
  subst e2;rw [V8,gy] at hck;repeat' (first|refine zZB ?_|refine sM fun _=>?_|refine sC ?_ ?_<;>intro hb<;>try omega|fail)
  all_goals first
   |omega
   |refine dm eIO rfl rfl rfl (.nil _) ?_;rw [hck]
end Go.SL

/-
  Lemmas and walks, put together: R8 R9 R10 R11.
-/
import Derived.Test.YthefeclkaaocnaaGreatDoorKl23
set_option linter.unusedSimpArgs false
set_option linter.unusedVariables false
set_option maxRecDepth 20000
namespace Go.SL
open Go Go.Proofs
attribute [local irreducible] W WL WQ WG WA WX WLI WR WT WC VOp RW thn blk bS scp bq bF cj aS FnIn FnP ceP
theorem oo {a:ByteArray} {i:Nat} (h:a.size≤i):(ap a).drop i= []:=L6 (by rw [au];exact h)
set_option maxHeartbeats 2000000 in
theorem AA (a:ByteArray) (ha:a.size≤256) (i:Nat) (hi:i<a.size) (w:World):
  aS Tryz.prog 319 [.string a,.int .i64 (i:Int)] w fun v H=>H= []∧TokR i ((i9 ((ap a).drop (i+1))).map fun x=>(⟨2,0,mkB x.1,aL,0⟩,x.2+1)) v:=by
 refine aq Tryz.func319 rfl Tryz.ntmps319 rfl ?_
 have hl:=au a
 obtain ⟨X,hX⟩: ∃ X,i9 ((ap a).drop (i+1))=X:=⟨_,rfl⟩
 rw [hX]
 repeat' (first|refine sT ?_|refine sS ?_|refine sT2 ?_|refine sN ?_|refine sM fun _=> ?_|(refine sC ?_ ?_<;>intro hb<;>try omega)|fail)
 rename_i g4 g7
 refine ax [0,1,4,7] rfl (fun x:Nat × ByteArray=> [(8,.int .i64 (x.1:Int))]) (fun x=> [.box g7 295 (aZ ⟨2,0,x.2,aL,i⟩),.box g4 295 (aZ cM)]) (fun x=>i+1≤x.1∧x.1≤a.size∧x.2.size≤x.1∧X=(i9 ((ap a).drop x.1)).map fun y=>(ap x.2++y.1,y.2+(x.1 - (i+1)))) (fun x=>a.size - x.1) (i+1,av) ⟨LK _,hi,LS _,by rw [hX];cases X<;>simp [rQ]⟩ sB mS ?_
 rintro ⟨k,T⟩ ⟨hk1,hk2,hT,hXk⟩
 dsimp only at hk1 hk2 hT hXk ⊢
 rw [show aZ ⟨2,0,T,aL,i⟩= [.int .u8 2,.int .i64 0,.string T,.int .i64 0,.int .i64 0,.int .i64 0,.int .i64 0,.int .i64 (i:Int)] from rfl]
 by_cases hend:k=a.size
 ·
  subst hend
  rw [oo (LK _)] at hXk
  simp only [i9,Ol] at hXk
  subst hXk
  repeat' (first|refine sT ?_|refine sS ?_|refine sT2 ?_|refine sN ?_|refine sM fun _=> ?_|(refine sC ?_ ?_<;>intro hb<;>try omega)|fail)
  all_goals first
   |(exfalso;omega)
   |((refine ck ?_);exact ⟨rfl,⟨2,0,T,aL,i⟩,_,rfl⟩)
 have hlt:k<a.size:=by omega
 rw [ba hlt,i9.eq_def] at hXk
 dsimp only at hXk
 obtain ⟨T1,hT1⟩: ∃ T1,T1=T++sub a k (k+1):=⟨_,rfl⟩
 obtain ⟨T2,hT2⟩: ∃ T2,T2=T++({ data:= #[34] }:ByteArray):=⟨_,rfl⟩
 have hs1:(sub a k (k+1)).size=1:=by rw [bQ a (by omega)];omega
 have hs2:({ data:= #[34] }:ByteArray).size=1:=rfl
 have hT1s:T1.size=T.size+1:=by rw [hT1,Nq,hs1]
 have hT2s:T2.size=T.size+1:=by rw [hT2,Nq,hs2]
 have hT1i:ap T1=ap T++ [bat a k]:=by rw [hT1,fH,dD,ba hlt,show k+1 - k=1 by omega];rfl
 have hT2i:ap T2=ap T++ [34]:=by rw [hT2,fH];rfl
 repeat' (first|(refine j6 (id:=6) [9] [1] [Blk.box g4 295 (aZ cM)] (by kernel_rfl) (by kernel_rfl) (by kernel_rfl) mS ?_)|(apply ak;exact rfl;apply aU (j:=k);exact rfl;exact rfl;omega)|(apply ak;exact rfl;apply aU (j:=k+1);exact rfl;exact rfl;omega)|(apply dm (d:=29);(iterate 3 exact rfl);apply eO (lo:=k) (hi:=k+1);(iterate 3 exact rfl);exact ⟨by omega,by omega⟩)|(apply dm (d:=30);(iterate 3 exact rfl);apply iI (c:=T1);exact rfl;exact rfl;exact hT1.symm;omega)|(apply ak (d:=46);exact rfl;apply iI (c:=T2);exact rfl;exact rfl;exact hT2.symm;omega)|refine sT ?_|refine sS ?_|refine sW ?_|refine sT2 ?_|refine sW2 ?_|refine sN ?_|refine sWN ?_|refine sM fun _=> ?_|(refine sC ?_ ?_<;>intro hb<;>try omega)|(refine sCW ?_ ?_<;>intro hb<;>try omega)|fail)
 ·
  rw [if_pos (by assumption),NP] at hXk
  refine ⟨(k+1,T1),⟨by dsimp only;omega,hlt,by dsimp only;omega,?_⟩,by dsimp only;omega,sB,sB,by exact mS⟩
  rw [hXk]
  congr 1
  funext y
  simp only [Function.comp,hT1i,Mk,List.singleton_append]
  congr 1
  omega
 ·
  have h34:bat a (k+1)=34:=by assumption
  rw [if_neg (by assumption),ba (by omega),h34] at hXk
  simp only [if_true,NP] at hXk
  refine ⟨(k+1+1,T2),⟨by dsimp only;omega,by dsimp only;omega,by dsimp only;omega,?_⟩,by dsimp only;omega,sB,sB,by exact mS⟩
  rw [hXk]
  congr 1
  funext y
  simp only [Function.comp,hT2i,Mk,List.singleton_append]
  congr 1
  omega
 ·
  have h34: ¬ bat a (k+1)=34:=by assumption
  rw [if_neg (by assumption),ba (by omega)] at hXk
  simp only [if_neg h34,ME,LN] at hXk
  subst hXk
  (refine ck ?_)
  refine ⟨rfl,?_⟩
  simp only [ME,TokR,jS]
  rw [show i+(1+(k - (i+1))+1)=k+1 by omega]
  rfl
 ·
  rw [if_neg (by assumption),oo (by omega)] at hXk
  simp only [ME,LN] at hXk
  subst hXk
  (refine ck ?_)
  refine ⟨rfl,?_⟩
  simp only [ME,TokR,jS]
  rw [show i+(1+(k - (i+1))+1)=k+1 by omega]
  rfl
theorem lp {a:ByteArray} {i:Nat}:((ap a).drop i).headD 0=bat a i:=by
 by_cases h:i<a.size
 ·
  rw [ba h];rfl
 ·
  rw [oo (by omega),gT (by omega)];rfl
theorem l6 (a:ByteArray) (ha:a.size≤256) (i:Nat) (hi:i≤a.size) (w:World):ay Tryz.prog 336 [.string a,.int .i64 (i:Int)] w (.int .i64 ((i+aB cC ((ap a).drop i):Nat):Int)):=by
 refine aq Tryz.func336 rfl Tryz.ntmps336 rfl ?_
 have hl:=au a
 obtain ⟨X,hX⟩: ∃ X,i+aB cC ((ap a).drop i)=X:=⟨_,rfl⟩
 rw [hX]
 repeat' (first|refine sT ?_|refine sS ?_|refine sM fun _=> ?_|(refine sC ?_ ?_<;>intro hb<;>try omega)|fail)
 refine ax [0] rfl (fun j:Nat=> [(1,.int .i64 (j:Int))]) (fun _=> []) (fun j=>j≤a.size∧X=j+aB cC ((ap a).drop j)) (fun j=>a.size - j) i ⟨hi,hX.symm⟩ sB (.refl _) ?_
 rintro j ⟨hj,hx⟩
 have hL:=fun w=>kr a (by omega) j w
 have hD:=fun w=>kY a (by omega) j w
 by_cases hw:cC (bat a j)=true
 ·
  have hlt:j<a.size:=by
   rcases MV j a.size with h|h
   ·
    exact h
   ·
    rw [gT h] at hw;cases hw
  rw [fR hlt,if_pos hw] at hx
  obtain ⟨b1,hb1⟩: ∃ b,bH (bat a j)=b:=⟨_,rfl⟩
  obtain ⟨b2,hb2⟩: ∃ b,aC (bat a j)=b:=⟨_,rfl⟩
  rw [hb1] at hL;rw [hb2] at hD
  have h12:(b1||b2)=true:=by rw [← hb1,← hb2];exact hw
  cases b1<;>cases b2<;>first|(exact absurd h12 (by decide))|skip
  all_goals
   repeat' (first|(apply aa (f:=320);exact rfl;exact rfl;(intro w' hm;exact hL w'))|(apply aa (f:=317);exact rfl;exact rfl;(intro w' hm;exact hD w'))|refine sT ?_|refine sS ?_|refine sN ?_|refine sM fun _=> ?_|(refine sC ?_ ?_<;>intro hb<;>try omega)|fail)
   exact ⟨j+1,⟨hlt,by omega⟩,by omega,sB,sB,.nil _⟩
 ·
  have hr:aB cC ((ap a).drop j)=0:=by
   by_cases hlt:j<a.size
   ·
    rw [fR hlt,if_neg hw]
   ·
    rw [oo (by omega)];rfl
  rw [hr,Nj] at hx
  subst hx
  have h1:bH (bat a X)=false:=by unfold cC at hw;revert hw;cases bH (bat a X)<;>simp
  have h2:aC (bat a X)=false:=by unfold cC at hw;revert hw;cases aC (bat a X)<;>simp
  rw [h1] at hL;rw [h2] at hD
  repeat' (first|(apply aa (f:=320);exact rfl;exact rfl;(intro w' hm;exact hL w'))|(apply aa (f:=317);exact rfl;exact rfl;(intro w' hm;exact hD w'))|(refine rT1 ?_)|refine sT ?_|refine sS ?_|refine sN ?_|refine sM fun _=> ?_|(refine sC ?_ ?_<;>intro hb<;>try omega)|fail)
  rfl
theorem ni (a:ByteArray) (i W:Nat):ap (sub a i (i+W))=((ap a).drop i).take W:=by
 rw [dD];congr 1;omega
def Ku (a:ByteArray) (i:Nat):Value:=
 if bH (bat a i)=false then .tuple #[.agg (cB ⟨0,0⟩).toArray,.int .i64 0,.bool false]
 else .tuple #[.agg (cB ⟨(bT (upW ((ap a).drop i))).1,(bT (upW ((ap a).drop i))).2.1⟩).toArray,.int .i64 ((i+aB cC ((ap a).drop i):Nat):Int),.bool (decide ((bT (upW ((ap a).drop i))).2.2=0∧bat a (i+aB cC ((ap a).drop i))≠40))]
set_option maxHeartbeats 1000000 in
theorem l8 (a:ByteArray) (ha:a.size≤256) (i:Nat) (hi:i≤a.size) (w:World):ay Tryz.prog 337 [.string a,.int .i64 (i:Int)] w (Ku a i):=by
 refine aq Tryz.func337 rfl Tryz.ntmps337 rfl ?_
 have hl:=au a
 have hL:=fun w=>kr a (by omega) i w
 have hW:=fun w=>l6 a ha i hi w
 obtain ⟨W,hWe⟩: ∃ W,aB cC ((ap a).drop i)=W:=⟨_,rfl⟩
 have hWl:i+W≤a.size:=by
  have:=bM cC ((ap a).drop i)
  rw [LL] at this
  omega
 have hP:=fun w=>AO (sub a i (i+W)) (by rw [bQ a (by omega)];omega) w
 rw [ni] at hP
 unfold Ku
 rw [Ln]
 rw [hWe] at hW ⊢
 obtain ⟨c,r,e,hA⟩: ∃ c r e,bT (((ap a).drop i).take W)=(c,r,e):=⟨_,_,_,rfl⟩
 rw [hA] at hP ⊢
 dsimp only at hP ⊢
 obtain ⟨b,hb⟩: ∃ b,bH (bat a i)=b:=⟨_,rfl⟩
 rw [hb] at hL ⊢
 have hout:a.size≤i+W→bat a (i+W)≠40:=fun h=>by rw [gT h];decide
 cases b with
 |false=>
  repeat' (first|(apply aa (f:=320);exact rfl;exact rfl;(intro w' hm;exact hL w'))|refine sT ?_|refine sS ?_|refine sT2 ?_|refine sN ?_|refine sM fun _=> ?_|(refine sC ?_ ?_<;>intro hb<;>try omega)|fail)
  all_goals ((refine ck ?_);rfl)
 |true=>
  rw [if_neg (by simp)]
  repeat' (first|(apply aa (f:=320);exact rfl;exact rfl;(intro w' hm;exact hL w'))|(apply aa (f:=336);exact rfl;exact rfl;(intro w' hm;exact hW w'))|(apply aa (f:=352);exact rfl;exact rfl;(intro w' hm;exact hP w'))|(apply ak (d:=22);exact rfl;apply eO (lo:=i) (hi:=i+W);(iterate 3 exact rfl);exact ⟨by omega,by omega⟩)|(rename_i g4 g8;refine j6 (id:=5) [16] [] [Blk.box g8 51 (cB ⟨c,r⟩)] (by kernel_rfl) (by kernel_rfl) (by kernel_rfl) mS ?_)|(apply dm (d:=38);(iterate 3 exact rfl);apply aU (j:=i+W);exact rfl;exact rfl;omega)|refine sT ?_|refine sS ?_|refine sW ?_|refine sT2 ?_|refine sW2 ?_|refine sN ?_|refine sWN ?_|refine sM fun _=> ?_|(refine sC ?_ ?_<;>intro hb<;>try omega)|(refine sCW ?_ ?_<;>intro hb<;>try omega)|fail)
  ·
   (refine ck ?_)
   rw [decide_eq_true (show e=0∧bat a (i+W)≠40 from ⟨by assumption,hout (by omega)⟩)]
   rfl
  ·
   (refine ck ?_)
   have he:e=0:=by assumption
   subst he
   simp only [true_and]
   rfl
  ·
   (refine ck ?_)
   rw [decide_eq_false (show ¬ (e=0∧bat a (i+W)≠40) from fun h=>absurd h.1 (by assumption))]
   rfl
set_option maxHeartbeats 1000000 in
theorem Ay (a:ByteArray) (ha:a.size≤256) (i:Nat) (hi:i<a.size) (hli:bH (bat a i)=true) (w:World):aS Tryz.prog 321 [.string a,.int .i64 (i:Int)] w fun v H=>H= []∧TokR i (fK ((ap a).drop i)) v:=by
  refine aq Tryz.func321 rfl Tryz.ntmps321 rfl ?_
  have hl:=au a
  have hW:=fun w=>l6 a ha i (by omega) w
  obtain ⟨W,hWe⟩: ∃ W,aB cC ((ap a).drop i)=W:=⟨_,rfl⟩
  have hWl:i+W≤a.size:=by
    have:=bM cC ((ap a).drop i)
    rw [LL] at this
    omega
  have hA1:=fun w=>l8 a ha i (by omega) w
  have hA2:=fun (h:i+W<a.size) w=>l8 a ha (i+W+1) h w
  have hU:=fun w=>jb (sub a i (i+W)) (by rw [bQ a (by omega)];omega) w
  obtain ⟨U,hUe⟩: ∃ U,upB (sub a i (i+W))=U:=⟨_,rfl⟩
  have hUm:mkB (upW ((ap a).drop i))=U:=by
    rw [← hUe,Fh,hWe,← jS (upB _),nN,ni]
  have hl0:((ap a).drop i).headD 0=bat a i:=lp
  have hl1:(((ap a).drop i).drop W).headD 0=bat a (i+W):=by rw [MK,lp]
  have hd2:((ap a).drop i).drop (W+1)=(ap a).drop (i+W+1):=by rw [MK,M4]
  have hl2:((ap a).drop (i+W+1)).headD 0=bat a (i+W+1):=lp
  obtain ⟨W2,hW2⟩: ∃ W2,aB cC ((ap a).drop (i+W+1))=W2:=⟨_,rfl⟩
  have hl3:(((ap a).drop i).drop (W+1+W2)).headD 0=bat a (i+W+1+W2):=by rw [MK,lp];congr 1;omega
  have hW2l:i+W<a.size→i+W+1+W2≤a.size:=fun h=>by
    have:=bM cC ((ap a).drop (i+W+1))
    rw [LL] at this
    omega
  unfold fK
  unfold Ku at hA1 hA2
  rw [hl0,hli,if_neg (by simp)]
  rw [hWe] at hW hA1 ⊢
  rw [hd2,hl1,hl2,hW2,hl3]
  rw [hli,if_neg (by simp)] at hA1
  rw [hW2] at hA2
  rw [hUm]
  rw [hUe] at hU
  obtain ⟨c1,r1,e1,hx1⟩: ∃ c r e,bT (upW ((ap a).drop i))=(c,r,e):=⟨_,_,_,rfl⟩
  obtain ⟨c2,r2,e2,hx2⟩: ∃ c r e,bT (upW ((ap a).drop (i+W+1)))=(c,r,e):=⟨_,_,_,rfl⟩
  rw [hx1] at hA1 ⊢
  rw [hx2] at hA2 ⊢
  dsimp only at hA1 hA2 ⊢
  have hout:a.size≤i+W→bat a (i+W)≠40∧bat a (i+W)≠58:=fun h=>by rw [gT h];decide
  by_cases h40:bat a (i+W)=40
  · rw [if_pos h40]
    have hlt:i+W<a.size:=by
      rcases MV (i+W) a.size with h|h
      · exact h
      · exact absurd h40 (hout h).1
    repeat' (first|(apply aa (f:=336);exact rfl;exact rfl;(intro w' hm;exact hW w'))|(apply aa (f:=249);exact rfl;exact rfl;(intro w' hm;exact hU w'))|(apply ak (d:=22);exact rfl;apply eO (lo:=i) (hi:=i+W);(iterate 3 exact rfl);exact ⟨by omega,by omega⟩)|(apply ak (d:=31);exact rfl;apply aU (j:=i+W);exact rfl;exact rfl;omega)|refine sT ?_|refine sS ?_|refine sT2 ?_|refine sN ?_|refine sM fun _=> ?_|(refine sC ?_ ?_<;>intro hb<;>try omega)|fail)
    all_goals
      first
      |(exfalso;omega)
      |((refine ck ?_);exact ⟨rfl,rfl⟩)
  rw [if_neg h40]
  clear hli hUm hUe hl0 hl1 hd2 hl2 hl3
  by_cases hT:U=kS
  · rw [if_pos hT]
    subst hT
    repeat' (first|(apply aa (f:=336);exact rfl;exact rfl;(intro w' hm;exact hW w'))|(apply aa (f:=249);exact rfl;exact rfl;(intro w' hm;exact hU w'))|(apply ak (d:=22);exact rfl;apply eO (lo:=i) (hi:=i+W);(iterate 3 exact rfl);exact ⟨by omega,by omega⟩)|(apply ak (d:=31);exact rfl;apply aU (j:=i+W);exact rfl;exact rfl;omega)|(apply ak (d:=70);exact rfl;apply aU (j:=i+W);exact rfl;exact rfl;omega)|(apply aa (d:=51);exact rfl;exact rfl;(intro w' hm;exact hA1 w'))|(apply aa (d:=76);exact rfl;exact rfl;(intro w' hm;exact hA2 w'))|(apply aa (f:=338);exact rfl;exact rfl;(intro w' hm;exact gy ⟨c1,r1⟩ w'))|(apply ak (d:=85);exact rfl;exact eU _ _ ▸ gW rfl rfl)|(apply ak (d:=90);exact rfl;exact eU _ _ ▸ gW rfl rfl)|(apply ak (d:=95);exact rfl;exact eV _ _ ▸ fY rfl rfl)|(apply ak (d:=100);exact rfl;exact eV _ _ ▸ fY rfl rfl)|(apply ak (d:=105);exact rfl;exact gj (a:=⟨c1,r1⟩) (b:=⟨c2,r2⟩) rfl rfl rfl)|refine sT ?_|refine sS ?_|refine sT2 ?_|refine sN ?_|refine sM fun _=> ?_|(refine sC ?_ ?_<;>intro hb<;>try omega)|fail)
    all_goals
      first
      |(exfalso;omega)
      |(exact absurd rfl (by assumption))
      |((refine ck ?_);exact ⟨rfl,rfl⟩)
  rw [if_neg hT]
  by_cases hF:U=jy
  · rw [if_pos hF]
    subst hF
    repeat' (first|(apply aa (f:=336);exact rfl;exact rfl;(intro w' hm;exact hW w'))|(apply aa (f:=249);exact rfl;exact rfl;(intro w' hm;exact hU w'))|(apply ak (d:=22);exact rfl;apply eO (lo:=i) (hi:=i+W);(iterate 3 exact rfl);exact ⟨by omega,by omega⟩)|(apply ak (d:=31);exact rfl;apply aU (j:=i+W);exact rfl;exact rfl;omega)|(apply ak (d:=70);exact rfl;apply aU (j:=i+W);exact rfl;exact rfl;omega)|(apply aa (d:=51);exact rfl;exact rfl;(intro w' hm;exact hA1 w'))|(apply aa (d:=76);exact rfl;exact rfl;(intro w' hm;exact hA2 w'))|(apply aa (f:=338);exact rfl;exact rfl;(intro w' hm;exact gy ⟨c1,r1⟩ w'))|(apply ak (d:=85);exact rfl;exact eU _ _ ▸ gW rfl rfl)|(apply ak (d:=90);exact rfl;exact eU _ _ ▸ gW rfl rfl)|(apply ak (d:=95);exact rfl;exact eV _ _ ▸ fY rfl rfl)|(apply ak (d:=100);exact rfl;exact eV _ _ ▸ fY rfl rfl)|(apply ak (d:=105);exact rfl;exact gj (a:=⟨c1,r1⟩) (b:=⟨c2,r2⟩) rfl rfl rfl)|refine sT ?_|refine sS ?_|refine sT2 ?_|refine sN ?_|refine sM fun _=> ?_|(refine sC ?_ ?_<;>intro hb<;>try omega)|fail)
    all_goals
      first
      |(exfalso;omega)
      |(exact absurd (by assumption) hT)
      |(exact absurd rfl (by assumption))
      |((refine ck ?_);exact ⟨rfl,rfl⟩)
  rw [if_neg hF]
  have hT' : ¬ U=({ data:= #[84,82,85,69] }:ByteArray):=hT
  have hF' : ¬ U=({ data:= #[70,65,76,83,69] }:ByteArray):=hF
  simp only [ne_eq,h40,not_false_eq_true,and_true] at hA1
  by_cases he1:e1=0
  · rw [if_neg (fun h=>h he1)]
    rw [decide_eq_true he1] at hA1
    by_cases h58:bat a (i+W)=58
    · have hlt:i+W<a.size:=by
        rcases MV (i+W) a.size with h|h
        · exact h
        · exact absurd h58 (hout h).2
      replace hA2:=hA2 hlt
      by_cases hl2:bH (bat a (i+W+1))=true
      · rw [hl2,if_neg (by simp)] at hA2
        by_cases hok:e2=0∧bat a (i+W+1+W2)≠40
        · rw [if_pos ⟨h58,hl2,hok⟩]
          rw [decide_eq_true hok] at hA2
          repeat' (first|(apply aa (f:=336);exact rfl;exact rfl;(intro w' hm;exact hW w'))|(apply aa (f:=249);exact rfl;exact rfl;(intro w' hm;exact hU w'))|(apply ak (d:=22);exact rfl;apply eO (lo:=i) (hi:=i+W);(iterate 3 exact rfl);exact ⟨by omega,by omega⟩)|(apply ak (d:=31);exact rfl;apply aU (j:=i+W);exact rfl;exact rfl;omega)|(apply ak (d:=70);exact rfl;apply aU (j:=i+W);exact rfl;exact rfl;omega)|(apply aa (d:=51);exact rfl;exact rfl;(intro w' hm;exact hA1 w'))|(apply aa (d:=76);exact rfl;exact rfl;(intro w' hm;exact hA2 w'))|(apply aa (f:=338);exact rfl;exact rfl;(intro w' hm;exact gy ⟨c1,r1⟩ w'))|(apply ak (d:=85);exact rfl;exact eU _ _ ▸ gW rfl rfl)|(apply ak (d:=90);exact rfl;exact eU _ _ ▸ gW rfl rfl)|(apply ak (d:=95);exact rfl;exact eV _ _ ▸ fY rfl rfl)|(apply ak (d:=100);exact rfl;exact eV _ _ ▸ fY rfl rfl)|(apply ak (d:=105);exact rfl;exact gj (a:=⟨c1,r1⟩) (b:=⟨c2,r2⟩) rfl rfl rfl)|refine sT ?_|refine sS ?_|refine sT2 ?_|refine sN ?_|refine sM fun _=> ?_|(refine sC ?_ ?_<;>intro hb<;>try omega)|fail)
          all_goals
            first
            |(exfalso;omega)
            |(exact absurd (by assumption) hT')
            |(exact absurd (by assumption) hF')
            |((refine ck ?_);exact ⟨rfl,cM,_,rfl⟩)
            |((refine ck ?_);exact ⟨rfl,rfl⟩)
            | ((refine ck ?_)
               refine ⟨rfl,?_⟩
               have hne: ¬ (c1=c2∧r1=r2):=fun h=>(by assumption:(⟨c1,r1⟩:Rf)≠⟨c2,r2⟩) (by rw [h.1,h.2])
               simp only [TokR,if_neg hne]
               rw [show i+(W+1+W2)=i+W+1+W2 by omega]
               rfl)
            | ((refine ck ?_)
               refine ⟨rfl,?_⟩
               have heq:c1=c2∧r1=r2:=by
                 have:(⟨c1,r1⟩:Rf)=⟨c2,r2⟩:=Classical.not_not.1 (by assumption)
                 cases this
                 exact ⟨rfl,rfl⟩
               simp only [TokR,if_pos heq]
               rw [show i+(W+1+W2)=i+W+1+W2 by omega]
               rfl)
        · rw [if_neg fun h=>hok h.2.2]
          rw [decide_eq_false hok] at hA2
          repeat' (first|(apply aa (f:=336);exact rfl;exact rfl;(intro w' hm;exact hW w'))|(apply aa (f:=249);exact rfl;exact rfl;(intro w' hm;exact hU w'))|(apply ak (d:=22);exact rfl;apply eO (lo:=i) (hi:=i+W);(iterate 3 exact rfl);exact ⟨by omega,by omega⟩)|(apply ak (d:=31);exact rfl;apply aU (j:=i+W);exact rfl;exact rfl;omega)|(apply ak (d:=70);exact rfl;apply aU (j:=i+W);exact rfl;exact rfl;omega)|(apply aa (d:=51);exact rfl;exact rfl;(intro w' hm;exact hA1 w'))|(apply aa (d:=76);exact rfl;exact rfl;(intro w' hm;exact hA2 w'))|(apply aa (f:=338);exact rfl;exact rfl;(intro w' hm;exact gy ⟨c1,r1⟩ w'))|(apply ak (d:=85);exact rfl;exact eU _ _ ▸ gW rfl rfl)|(apply ak (d:=90);exact rfl;exact eU _ _ ▸ gW rfl rfl)|(apply ak (d:=95);exact rfl;exact eV _ _ ▸ fY rfl rfl)|(apply ak (d:=100);exact rfl;exact eV _ _ ▸ fY rfl rfl)|(apply ak (d:=105);exact rfl;exact gj (a:=⟨c1,r1⟩) (b:=⟨c2,r2⟩) rfl rfl rfl)|refine sT ?_|refine sS ?_|refine sT2 ?_|refine sN ?_|refine sM fun _=> ?_|(refine sC ?_ ?_<;>intro hb<;>try omega)|fail)
          all_goals
            first
            |(exfalso;omega)
            |(exact absurd (by assumption) hT')
            |(exact absurd (by assumption) hF')
            |((refine ck ?_);exact ⟨rfl,cM,_,rfl⟩)
            |((refine ck ?_);exact ⟨rfl,rfl⟩)
            | ((refine ck ?_)
               refine ⟨rfl,?_⟩
               have hne: ¬ (c1=c2∧r1=r2):=fun h=>(by assumption:(⟨c1,r1⟩:Rf)≠⟨c2,r2⟩) (by rw [h.1,h.2])
               simp only [TokR,if_neg hne]
               rw [show i+(W+1+W2)=i+W+1+W2 by omega]
               rfl)
            | ((refine ck ?_)
               refine ⟨rfl,?_⟩
               have heq:c1=c2∧r1=r2:=by
                 have:(⟨c1,r1⟩:Rf)=⟨c2,r2⟩:=Classical.not_not.1 (by assumption)
                 cases this
                 exact ⟨rfl,rfl⟩
               simp only [TokR,if_pos heq]
               rw [show i+(W+1+W2)=i+W+1+W2 by omega]
               rfl)
      · rw [if_neg fun h=>hl2 h.2.1]
        rw [if_pos (by simpa using hl2)] at hA2
        repeat' (first|(apply aa (f:=336);exact rfl;exact rfl;(intro w' hm;exact hW w'))|(apply aa (f:=249);exact rfl;exact rfl;(intro w' hm;exact hU w'))|(apply ak (d:=22);exact rfl;apply eO (lo:=i) (hi:=i+W);(iterate 3 exact rfl);exact ⟨by omega,by omega⟩)|(apply ak (d:=31);exact rfl;apply aU (j:=i+W);exact rfl;exact rfl;omega)|(apply ak (d:=70);exact rfl;apply aU (j:=i+W);exact rfl;exact rfl;omega)|(apply aa (d:=51);exact rfl;exact rfl;(intro w' hm;exact hA1 w'))|(apply aa (d:=76);exact rfl;exact rfl;(intro w' hm;exact hA2 w'))|(apply aa (f:=338);exact rfl;exact rfl;(intro w' hm;exact gy ⟨c1,r1⟩ w'))|(apply ak (d:=85);exact rfl;exact eU _ _ ▸ gW rfl rfl)|(apply ak (d:=90);exact rfl;exact eU _ _ ▸ gW rfl rfl)|(apply ak (d:=95);exact rfl;exact eV _ _ ▸ fY rfl rfl)|(apply ak (d:=100);exact rfl;exact eV _ _ ▸ fY rfl rfl)|(apply ak (d:=105);exact rfl;exact gj (a:=⟨c1,r1⟩) (b:=⟨c2,r2⟩) rfl rfl rfl)|refine sT ?_|refine sS ?_|refine sT2 ?_|refine sN ?_|refine sM fun _=> ?_|(refine sC ?_ ?_<;>intro hb<;>try omega)|fail)
        all_goals
          first
          |(exfalso;omega)
          |(exact absurd (by assumption) hT')
          |(exact absurd (by assumption) hF')
          |((refine ck ?_);exact ⟨rfl,cM,_,rfl⟩)
          |((refine ck ?_);exact ⟨rfl,rfl⟩)
          | ((refine ck ?_)
             refine ⟨rfl,?_⟩
             have hne: ¬ (c1=c2∧r1=r2):=fun h=>(by assumption:(⟨c1,r1⟩:Rf)≠⟨c2,r2⟩) (by rw [h.1,h.2])
             simp only [TokR,if_neg hne]
             rw [show i+(W+1+W2)=i+W+1+W2 by omega]
             rfl)
          | ((refine ck ?_)
             refine ⟨rfl,?_⟩
             have heq:c1=c2∧r1=r2:=by
               have:(⟨c1,r1⟩:Rf)=⟨c2,r2⟩:=Classical.not_not.1 (by assumption)
               cases this
               exact ⟨rfl,rfl⟩
             simp only [TokR,if_pos heq]
             rw [show i+(W+1+W2)=i+W+1+W2 by omega]
             rfl)
    · rw [if_neg fun h=>h58 h.1]
      repeat' (first|(apply aa (f:=336);exact rfl;exact rfl;(intro w' hm;exact hW w'))|(apply aa (f:=249);exact rfl;exact rfl;(intro w' hm;exact hU w'))|(apply ak (d:=22);exact rfl;apply eO (lo:=i) (hi:=i+W);(iterate 3 exact rfl);exact ⟨by omega,by omega⟩)|(apply ak (d:=31);exact rfl;apply aU (j:=i+W);exact rfl;exact rfl;omega)|(apply ak (d:=70);exact rfl;apply aU (j:=i+W);exact rfl;exact rfl;omega)|(apply aa (d:=51);exact rfl;exact rfl;(intro w' hm;exact hA1 w'))|(apply aa (d:=76);exact rfl;exact rfl;(intro w' hm;exact hA2 w'))|(apply aa (f:=338);exact rfl;exact rfl;(intro w' hm;exact gy ⟨c1,r1⟩ w'))|(apply ak (d:=85);exact rfl;exact eU _ _ ▸ gW rfl rfl)|(apply ak (d:=90);exact rfl;exact eU _ _ ▸ gW rfl rfl)|(apply ak (d:=95);exact rfl;exact eV _ _ ▸ fY rfl rfl)|(apply ak (d:=100);exact rfl;exact eV _ _ ▸ fY rfl rfl)|(apply ak (d:=105);exact rfl;exact gj (a:=⟨c1,r1⟩) (b:=⟨c2,r2⟩) rfl rfl rfl)|refine sT ?_|refine sS ?_|refine sT2 ?_|refine sN ?_|refine sM fun _=> ?_|(refine sC ?_ ?_<;>intro hb<;>try omega)|fail)
      all_goals
        first
        |(exfalso;omega)
        |(exact absurd (by assumption) hT')
        |(exact absurd (by assumption) hF')
        |((refine ck ?_);exact ⟨rfl,cM,_,rfl⟩)
        |((refine ck ?_);exact ⟨rfl,rfl⟩)
        | ((refine ck ?_)
           refine ⟨rfl,?_⟩
           have hne: ¬ (c1=c2∧r1=r2):=fun h=>(by assumption:(⟨c1,r1⟩:Rf)≠⟨c2,r2⟩) (by rw [h.1,h.2])
           simp only [TokR,if_neg hne]
           rw [show i+(W+1+W2)=i+W+1+W2 by omega]
           rfl)
        | ((refine ck ?_)
           refine ⟨rfl,?_⟩
           have heq:c1=c2∧r1=r2:=by
             have:(⟨c1,r1⟩:Rf)=⟨c2,r2⟩:=Classical.not_not.1 (by assumption)
             cases this
             exact ⟨rfl,rfl⟩
           simp only [TokR,if_pos heq]
           rw [show i+(W+1+W2)=i+W+1+W2 by omega]
           rfl)
  · rw [if_pos he1]
    rw [decide_eq_false he1] at hA1
    repeat' (first|(apply aa (f:=336);exact rfl;exact rfl;(intro w' hm;exact hW w'))|(apply aa (f:=249);exact rfl;exact rfl;(intro w' hm;exact hU w'))|(apply ak (d:=22);exact rfl;apply eO (lo:=i) (hi:=i+W);(iterate 3 exact rfl);exact ⟨by omega,by omega⟩)|(apply ak (d:=31);exact rfl;apply aU (j:=i+W);exact rfl;exact rfl;omega)|(apply ak (d:=70);exact rfl;apply aU (j:=i+W);exact rfl;exact rfl;omega)|(apply aa (d:=51);exact rfl;exact rfl;(intro w' hm;exact hA1 w'))|(apply aa (d:=76);exact rfl;exact rfl;(intro w' hm;exact hA2 w'))|(apply aa (f:=338);exact rfl;exact rfl;(intro w' hm;exact gy ⟨c1,r1⟩ w'))|(apply ak (d:=85);exact rfl;exact eU _ _ ▸ gW rfl rfl)|(apply ak (d:=90);exact rfl;exact eU _ _ ▸ gW rfl rfl)|(apply ak (d:=95);exact rfl;exact eV _ _ ▸ fY rfl rfl)|(apply ak (d:=100);exact rfl;exact eV _ _ ▸ fY rfl rfl)|(apply ak (d:=105);exact rfl;exact gj (a:=⟨c1,r1⟩) (b:=⟨c2,r2⟩) rfl rfl rfl)|refine sT ?_|refine sS ?_|refine sT2 ?_|refine sN ?_|refine sM fun _=> ?_|(refine sC ?_ ?_<;>intro hb<;>try omega)|fail)
    all_goals
      first
      |(exfalso;omega)
      |(exact absurd (by assumption) hT')
      |(exact absurd (by assumption) hF')
      |((refine ck ?_);exact ⟨rfl,cM,_,rfl⟩)
      |((refine ck ?_);exact ⟨rfl,rfl⟩)
      | ((refine ck ?_)
         refine ⟨rfl,?_⟩
         have hne: ¬ (c1=c2∧r1=r2):=fun h=>(by assumption:(⟨c1,r1⟩:Rf)≠⟨c2,r2⟩) (by rw [h.1,h.2])
         simp only [TokR,if_neg hne]
         rw [show i+(W+1+W2)=i+W+1+W2 by omega]
         rfl)
      | ((refine ck ?_)
         refine ⟨rfl,?_⟩
         have heq:c1=c2∧r1=r2:=by
           have:(⟨c1,r1⟩:Rf)=⟨c2,r2⟩:=Classical.not_not.1 (by assumption)
           cases this
           exact ⟨rfl,rfl⟩
         simp only [TokR,if_pos heq]
         rw [show i+(W+1+W2)=i+W+1+W2 by omega]
         rfl)
def opB (k:Int):ByteArray:=
 if k=1 then ⟨#[43]⟩ else if k=2 then ⟨#[45]⟩ else if k=3 then ⟨#[42]⟩ else if k=4 then ⟨#[47]⟩ else if k=5 then ⟨#[94]⟩ else if k=6 then ⟨#[38]⟩ else if k=7 then ⟨#[61]⟩
 else if k=8 then ⟨#[60,62]⟩ else if k=9 then ⟨#[60]⟩ else if k=10 then ⟨#[60,61]⟩ else if k=11 then ⟨#[62]⟩ else if k=12 then ⟨#[62,61]⟩ else if k=13 then ⟨#[37]⟩ else ⟨#[]⟩
theorem rl (k:Int) (w:World):ay Tryz.prog 341 [.int .i64 k] w (.string (opB k)):=by
 refine aq Tryz.func341 rfl Tryz.ntmps341 rfl ?_
 repeat' (first|(refine rT1 ?_)|refine sT ?_|refine sS ?_|refine sM fun _=> ?_|(refine sC ?_ ?_<;>intro hb<;>try omega)|fail)
 all_goals
  unfold opB
  repeat (first|rw [if_pos (by assumption)]|rw [if_neg (by assumption)])
theorem vW (a:ByteArray) (ha:a.size≤256) (i:Nat) (hi:i≤a.size) (s:ByteArray) (hs:s.size≤1000) (w:World):ay Tryz.prog 340 [.string a,.int .i64 (i:Int),.string s] w (.bool (decide ((((ap a).drop i).take s.size).map upC=ap s))):=by
 refine aq Tryz.func340 rfl Tryz.ntmps340 rfl ?_
 have hl:=au a
 have hU:=fun h:i+s.size≤a.size=>fun w=>jb (sub a i (i+s.size)) (by rw [bQ a h];omega) w
 repeat' (first|(apply aa (f:=249);exact rfl;exact rfl;(intro w' hm;exact hU (by omega) w'))|(apply ak (d:=21);exact rfl;apply eO (lo:=i) (hi:=i+s.size);(iterate 3 exact rfl);exact ⟨by omega,by omega⟩)|(refine rT1 ?_)|refine sT ?_|refine sS ?_|refine sT2 ?_|refine sN ?_|refine sM fun _=> ?_|(refine sC ?_ ?_<;>intro hb<;>try omega)|fail)
 ·
  have:(upB (sub a i (i+s.size))=s)=((((ap a).drop i).take s.size).map upC=ap s):=by
   rw [eq_iff_iff]
   constructor
   ·
    intro h
    rw [← h,nN,ni,h]
   ·
    intro h
    apply rP
    rw [nN,ni,h]
  simp only [this]
 ·
  rw [decide_eq_false]
  intro h
  have:=congrArg List.length h
  rw [MF,LP,LL,hl,au] at this
  omega
def A0 (z:Nat) (k:Nat):List (List Int × Int):=((List.range' k (14 - k)).map fun (j:Nat)=>(ap (opB (j:Int)),(j:Int))).filter fun x=>decide (x.1.length=z)
def IE:Nat→List (List Int × Int)
 |0=> []
 |z+1=>A0 (z+1) 1++IE z
theorem FV:IE 2=dU:=by decide+kernel
theorem DU {z k:Nat} (h:k≤13):A0 z k=if (opB (k:Int)).size=z then (ap (opB (k:Int)),(k:Int))::A0 z (k+1) else A0 z (k+1):=by
 unfold A0
 rw [show 14 - k=(13 - k)+1 by omega,List.range'_succ,Mh,List.filter_cons,show 14 - (k+1)=13 - k by omega]
 simp only [au,decide_eq_true_eq]
theorem FU (z:Nat):A0 z 14= []:=rfl
theorem IG {l:List Int} {s:List Int} {k:Int} {r:List (List Int × Int)} (h:l.take s.length=s):opL l ((s,k)::r)=some (k,s.length):=by
 rw [opL,if_pos h]
theorem Kc (k:Nat) (h:k≤13): ∀ c∈ap (opB (k:Int)),¬ (65≤c∧c≤90)∧ ¬ (97≤c∧c≤122):=by
 rcases (by omega:k=0∨k=1∨k=2∨k=3∨k=4∨k=5∨k=6∨k=7∨k=8∨k=9∨k=10∨k=11∨k=12∨k=13) with rfl|rfl|rfl|rfl|rfl|rfl|rfl|rfl|rfl|rfl|rfl|rfl|rfl|rfl<;>decide+kernel
theorem Cs {s:List Int} (hs: ∀ c∈s,¬ (65≤c∧c≤90)∧ ¬ (97≤c∧c≤122)): ∀ l:List Int,l.map upC=s↔l=s:=by
 induction s with
 |nil=>intro l;simp
 |cons d s ih=>
  intro l
  cases l with
  |nil=>simp
  |cons c l=>
   simp only [Mh,List.cons.injEq,ih (fun c hc=>hs c (LX _ hc)) l]
   have hd:=hs d LI
   have:upC c=d↔c=d:=by
    unfold upC
    split<;>omega
   rw [this]
theorem vg {k:Nat} (h:k<5):ap (bZ.getD (k+1) av)=dg.getD k []∧dg.drop k=dg.getD k []::dg.drop (k+1)∧(bZ.getD (k+1) av).size≤10:=by
 rcases (by omega:k=0∨k=1∨k=2∨k=3∨k=4) with rfl|rfl|rfl|rfl|rfl<;>decide+kernel
set_option maxHeartbeats 2000000 in
theorem AB (a:ByteArray) (ha:a.size≤256) (i:Nat) (hi:i<a.size) (w:World):aS Tryz.prog 322 [.string a,.int .i64 (i:Int)] w fun v H=>H= []∧TokR i (il ((ap a).drop i)) v:=by
  refine aq Tryz.func322 rfl Tryz.ntmps322 rfl ?_
  have hl:=au a
  have hh:((ap a).drop i).headD 0=bat a i:=lp
  have hB:=fun s hs w=>vW a ha i (by omega) s hs w
  obtain ⟨l,hll⟩: ∃ l,(ap a).drop i=l:=⟨_,rfl⟩
  rw [hll] at hh hB ⊢
  obtain ⟨F,hF⟩: ∃ F,iW l dg 1=F:=⟨_,rfl⟩
  repeat' (first|refine sT ?_|refine sS ?_|refine sT2 ?_|refine sM fun _=> ?_|(refine sC ?_ ?_<;>intro hb<;>try omega)|fail)
  rename_i g4
  refine ax [0,1,4] rfl (fun k:Nat=> [(7,.int .i64 ((k+1:Nat):Int))]) (fun _=> [.box g4 295 (aZ cM)]) (fun k=>k≤5∧F=iW l (dg.drop k) ((k+1:Nat):Int)) (fun k=>5 - k) 0 ⟨by omega,hF.symm⟩ sB mS ?_
  rintro k ⟨hk,hFk⟩
  by_cases hk5:k<5
  · obtain ⟨hn1,hn2,hn3⟩:=vg hk5
    have hS:=fun w=>AC ((k+1:Nat):Int) (by omega) (by omega) w
    rw [MY] at hS
    obtain ⟨s,hs⟩: ∃ s,bZ.getD (k+1) av=s:=⟨_,rfl⟩
    rw [hs] at hS hn1 hn3
    have hBs:=hB s (by omega)
    rw [hn2,iW,← hn1,au] at hFk
    by_cases hb:(l.take s.size).map upC=ap s
    · rw [if_pos hb] at hFk
      rw [decide_eq_true hb] at hBs
      repeat' (first|(apply aa (f:=339);exact rfl;exact rfl;(intro w' hm;exact hS w'))|(apply aa (f:=340);exact rfl;exact rfl;(intro w' hm;exact hBs w'))|refine sT ?_|refine sS ?_|refine sT2 ?_|refine sN ?_|refine sM fun _=> ?_|(refine sC ?_ ?_<;>intro hb<;>try omega)|fail)
      all_goals
        first
        |(exfalso;omega)
        |((refine ck ?_);refine ⟨rfl,?_⟩;rw [il,jl,hF,hFk];rfl)
    · rw [if_neg hb] at hFk
      rw [decide_eq_false hb] at hBs
      repeat' (first|(apply aa (f:=339);exact rfl;exact rfl;(intro w' hm;exact hS w'))|(apply aa (f:=340);exact rfl;exact rfl;(intro w' hm;exact hBs w'))|refine sT ?_|refine sS ?_|refine sT2 ?_|refine sN ?_|refine sM fun _=> ?_|(refine sC ?_ ?_<;>intro hb<;>try omega)|fail)
      all_goals
        first
        |(exfalso;omega)
        |exact ⟨k+1,⟨by omega,hFk⟩,by omega,sB,sB,.refl _⟩
  have ek:k=5:=by omega
  subst ek
  have hsr:il l=fZ l:=by
    rw [il,jl,hF,hFk];rfl
  rw [hsr]
  clear hF hFk hsr hk hk5
  obtain ⟨O,hO⟩: ∃ O,opL l dU=O:=⟨_,rfl⟩
  repeat' (first|refine sT ?_|refine sS ?_|refine sT2 ?_|refine sM fun _=> ?_|(refine sC ?_ ?_<;>intro hb<;>try omega)|fail)
  refine ax [0,1,4] rfl (fun z:Nat=> [(9,.int .i64 (z:Int))]) (fun _=> [.box g4 295 (aZ cM)]) (fun z=>z≤2∧O=opL l (IE z)) (fun z=>z) 2 ⟨by omega,by rw [FV,hO]⟩ sB mS ?_
  rintro z ⟨hz,hOz⟩
  cases z with
  |zero=>
    have hOn:O=none:=hOz
    subst hOn
    have hsp:fZ l=if bat a i=40 then some (⟨9,0,av,aL,0⟩,1) else if bat a i=41 then some (⟨10,0,av,aL,0⟩,1) else if bat a i=44 then some (⟨11,0,av,aL,0⟩,1) else none:=by
      unfold fZ
      rw [hO,hh]
    rw [hsp]
    repeat' (first|(apply ak (d:=58);exact rfl;apply aU (j:=i);exact rfl;exact rfl;omega)|refine sT ?_|refine sS ?_|refine sT2 ?_|refine sN ?_|refine sM fun _=> ?_|(refine sC ?_ ?_<;>intro hb<;>try omega)|fail)
    all_goals
      first
      |(exfalso;omega)
      | ((refine ck ?_)
         refine ⟨rfl,?_⟩
         repeat (first|rw [if_pos (by assumption)]|rw [if_neg (by assumption)])
         first|exact rfl|exact ⟨cM,_,rfl⟩)
  |succ z=>
    repeat' (first|refine sT ?_|refine sS ?_|refine sT2 ?_|refine sM fun _=> ?_|(refine sC ?_ ?_<;>intro hb<;>try omega)|fail)
    all_goals try (exfalso;omega)
    refine ax [0,1,4,9] rfl (fun k:Nat=> [(10,.int .i64 (k:Int))]) (fun _=> [.box g4 295 (aZ cM)]) (fun k=>1≤k∧k≤14∧O=opL l (A0 (z+1) k++IE z)) (fun k=>14 - k) 1 ⟨by omega,by omega,hOz⟩ sB mS ?_
    rintro k ⟨hk1,hk2,hOk⟩
    by_cases hk14:k=14
    · subst hk14
      rw [FU,LG] at hOk
      repeat' (first|refine sT ?_|refine sS ?_|refine sT2 ?_|refine sN ?_|refine sM fun _=> ?_|(refine sC ?_ ?_<;>intro hb<;>try omega)|fail)
      all_goals
        first
        |(exfalso;omega)
        |exact ⟨z,⟨by omega,hOk⟩,by omega,sB,sB,.refl _⟩
    rw [DU (by omega)] at hOk
    obtain ⟨s,hs⟩: ∃ s,opB (k:Int)=s:=⟨_,rfl⟩
    have hu:=Kc k (by omega)
    have hP:=fun w=>rl (k:Int) w
    rw [hs] at hOk hu hP
    by_cases hsz:s.size=z+1
    · rw [if_pos hsz] at hOk
      have hBs:=hB s (by omega)
      by_cases hb:(l.take s.size).map upC=ap s
      · have hb2:=(Cs hu _).1 hb
        rw [← au] at hb2
        rw [LD,IG hb2,au,hsz] at hOk
        rw [decide_eq_true hb] at hBs
        have hsp:fZ l=some (⟨8,k,av,aL,0⟩,z+1):=by
          unfold fZ
          rw [hO,hOk]
        rw [hsp]
        repeat' (first|(apply aa (f:=341);exact rfl;exact rfl;(intro w' hm;exact hP w'))|(apply aa (f:=340);exact rfl;exact rfl;(intro w' hm;exact hBs w'))|refine sT ?_|refine sS ?_|refine sT2 ?_|refine sN ?_|refine sM fun _=> ?_|(refine sC ?_ ?_<;>intro hb<;>try omega)|fail)
        all_goals
          first
          |(exfalso;omega)
          |((refine ck ?_);exact ⟨rfl,rfl⟩)
      · have hb2: ¬ l.take s.size=ap s:=fun h=>hb ((Cs hu _).2 h)
        rw [← au] at hb2
        rw [LD,opL,if_neg hb2] at hOk
        rw [decide_eq_false hb] at hBs
        repeat' (first|(apply aa (f:=341);exact rfl;exact rfl;(intro w' hm;exact hP w'))|(apply aa (f:=340);exact rfl;exact rfl;(intro w' hm;exact hBs w'))|refine sT ?_|refine sS ?_|refine sT2 ?_|refine sN ?_|refine sM fun _=> ?_|(refine sC ?_ ?_<;>intro hb<;>try omega)|fail)
        all_goals
          first
          |(exfalso;omega)
          |exact ⟨k+1,⟨by omega,by omega,hOk⟩,by omega,sB,sB,.refl _⟩
    · rw [if_neg hsz] at hOk
      repeat' (first|(apply aa (f:=341);exact rfl;exact rfl;(intro w' hm;exact hP w'))|refine sT ?_|refine sS ?_|refine sT2 ?_|refine sN ?_|refine sM fun _=> ?_|(refine sC ?_ ?_<;>intro hb<;>try omega)|fail)
      all_goals
        first
        |(exfalso;omega)
        |exact ⟨k+1,⟨by omega,by omega,hOk⟩,by omega,sB,sB,.refl _⟩
end Go.SL

/-
  Lemmas and walks, put together: Ja Nb Oa Oc Ob Jb.
-/
import Derived.Test.YthefeclkaaocnaaGreatDoorKl36
set_option linter.unusedSimpArgs false
set_option linter.unusedVariables false
set_option maxRecDepth 20000
namespace Go.SL
open Go Go.Proofs
attribute [local irreducible] W WL WQ WG WA WX WLI WR WT WC WE VOp RW thn blk bS scp bq bF cj aS FnIn FnP ceP
theorem Ey (n:Nat) (h:n<64):wH (n+1)=wH n|||1#64<<<n:=by
 have h1: ∀ n:Fin 64,wH (n.val+1)=wH n.val|||1#64<<<n.val:=by decide+kernel
 exact h1 ⟨n,h⟩
theorem ux (m:Nat) (h:m≤64) (w:World):ay Tryz.prog 208 [.int .i64 (m:Int)] w (vS (1#64<<<m)):=by
 refine aq Tryz.func208 rfl Tryz.ntmps208 rfl ?_
 repeat' (first|(apply ak;exact rfl;apply bJ (c:=(m:Int));exact rfl;(simp only [IntKind.wrap_u64];omega))|(apply ak;exact rfl;apply vF (a:=1#64) (m:=m);exact rfl;exact rfl;omega)|refine sT ?_|refine sM fun _=> ?_|(refine sC ?_ ?_<;>intro hb<;>try omega)|fail)
 all_goals first|(exfalso;omega)|((refine rT1 ?_);rfl)|trace_state
theorem xW (u:Int) (w:World):ay Tryz.prog 156 [.int .i64 u] w (.tuple #[vS (dq u).1,.int .i64 (dq u).2]):=by
 refine aq Tryz.func156 rfl Tryz.ntmps156 rfl ?_
 by_cases h:u<0∨64<u
 ·
  rw [dq,if_pos h]
  repeat' (first|refine sT ?_|refine sM fun _=> ?_|(refine sC ?_ ?_<;>intro hb<;>try omega)|fail)
  all_goals first|(exfalso;omega)|((refine rT2 ?_);rfl)|trace_state
 ·
  rw [dq,if_neg h]
  obtain ⟨m,rfl⟩: ∃ m:Nat,u=(m:Int):=⟨u.toNat,by omega⟩
  rw [MY]
  repeat' (first|refine sT ?_|refine sS ?_|refine sM fun _=> ?_|(refine sC ?_ ?_<;>intro hb<;>try omega)|fail)
  all_goals try (exfalso;omega)
  refine ax [0] rfl (fun i:Nat=> [(4,vS (wH i)),(5,.int .i64 (i:Int))]) (fun _=> []) (fun i=>i≤m) (fun i=>m - i) 0 (by omega) sB mS ?_
  rintro i hi
  by_cases hlt:i<m
  ·
   have hB:=fun w=>ux i (by omega) w
   have hs:=Ey i (by omega)
   repeat' (first|(apply aa;exact rfl;exact rfl;(intro w hm;exact hB w))|(apply ak;exact rfl;apply oL (a:=wH i);exact rfl;exact rfl)|refine sT ?_|refine sS ?_|refine sN ?_|refine sM fun _=> ?_|(refine sC ?_ ?_<;>intro hb<;>try omega)|fail)
   all_goals first
    |(exfalso;omega)
    |(rw [← hs];refine ⟨i+1,hlt,by omega,by exact sB,by exact sB,by exact mS⟩;done)
    |trace_state
  ·
   have e:i=m:=by omega
   subst e
   repeat' (first|refine sT ?_|refine sS ?_|refine sM fun _=> ?_|(refine sC ?_ ?_<;>intro hb<;>try omega)|fail)
   all_goals first|(exfalso;omega)|((refine rT2 ?_);rfl)|trace_state
theorem iB (x:BitVec 64) (u:Int) (w:World):ay Tryz.prog 125 [vS x,.int .i64 u] w (.bool (decide (x &&& ~~~(dq u).1=0#64))):=by
 refine aq Tryz.func125 rfl Tryz.ntmps125 rfl ?_
 have h1:=fun w=>xW u w
 generalize (dq u).1=a at h1 ⊢
 generalize (dq u).2=e at h1
 repeat' (first|(apply aa;exact rfl;exact rfl;(intro w hm;exact h1 w))|(apply ak;exact rfl;apply dE (b:=a);exact rfl;exact rfl)|(apply ak;exact rfl;apply Cq (b:=0#64);exact rfl;exact rfl)|refine sT ?_|refine sM fun _=> ?_|(refine sC ?_ ?_<;>intro hb<;>try omega)|fail)
 all_goals first|(exfalso;omega)|((refine rT1 ?_);rfl)|trace_state
theorem jc (r:Rct) (w:World):ay Tryz.prog 124 [.agg (bO r).toArray] w (.bool (bi r)):=by
 refine aq Tryz.func124 rfl Tryz.ntmps124 rfl ?_
 have h:bi r=true↔(1≤r.c1∧r.c1≤r.c2∧r.c2≤1024∧1≤r.r1∧r.r1≤r.r2∧r.r2≤1024):=by
  simp only [bi,valid,LM,decide_eq_true_eq]
  omega
 by_cases hk:bi r=true
 ·
  have hk2:=h.1 hk
  rw [hk]
  repeat' (first|refine sT ?_|refine sM fun _=> ?_|(refine sC ?_ ?_<;>intro hb<;>try omega)|fail)
  all_goals first|(exfalso;omega)|((refine rT1 ?_);simp;omega)|((refine rT1 ?_);rfl)|trace_state
 ·
  have hk2:=fun a=>hk (h.2 a)
  rw [show bi r=false by simpa using hk]
  repeat' (first|refine sT ?_|refine sM fun _=> ?_|(refine sC ?_ ?_<;>intro hb<;>try omega)|fail)
  all_goals first|(exfalso;omega)|((refine rT1 ?_);rfl)|((refine rT1 ?_);exact congrArg Value.bool (decide_eq_false fun hz=>hk2 ⟨by omega,by omega,by omega,by omega,by omega,by omega⟩))|trace_state
theorem FT (a b c s:BitVec 64):((a|||b|||c) &&& s=0#64)↔(a &&& s=0#64∧b &&& s=0#64∧c &&& s=0#64):=by
 have h: ∀ x:BitVec 64,(x=0#64)↔ ∀ i,x.getLsbD i=false:=fun x=>⟨fun h i=>by rw [h];simp,fun h=>Oj fun i _=>by rw [h i];simp⟩
 simp only [h,N0,BitVec.getLsbD_or,MB,NC]
 constructor
 ·
  intro hh
  refine ⟨fun i=> ?_,fun i=> ?_,fun i=> ?_⟩<;>rcases hh i with ⟨⟨h1,h2⟩,h3⟩|h1<;>simp_all
 ·
  rintro ⟨h1,h2,h3⟩ i
  rcases h1 i with a|a
  ·
   rcases h2 i with b|b
   ·
    rcases h3 i with c|c
    ·
     exact .inl ⟨⟨a,b⟩,c⟩
    ·
     exact .inr c
   ·
    exact .inr b
  ·
   exact .inr a
theorem Ll (r:Rl) (a:BitVec 64):((r.read|||r.write|||r.own) &&& ~~~a≠0#64)↔(r.read &&& ~~~a≠0#64∨r.write &&& ~~~a≠0#64∨r.own &&& ~~~a≠0#64):=by
 rw [ne_eq,FT]
 constructor
 ·
  intro h
  by_cases h1:r.read &&& ~~~a=0#64
  ·
   by_cases h2:r.write &&& ~~~a=0#64
   ·
    exact .inr (.inr fun h3=>h ⟨h1,h2,h3⟩)
   ·
    exact .inr (.inl h2)
  ·
   exact .inl h1
 ·
  rintro (h|h|h) ⟨h1,h2,h3⟩
  ·
   exact h h1
  ·
   exact h h2
  ·
   exact h h3
set_option maxHeartbeats 8000000 in
theorem ma (u:Int) (L:List Rl) (lv:Value) (w:World) (hl:Reads w lv L.length (L.flatMap bh)):ay Tryz.prog 65 [.int .i64 u,lv] w (.tuple #[.int .i64 (jY u L).1,.int .i64 (jY u L).2]):=by
 obtain ⟨Al,cl,rfl,hl1,hl2,hl3⟩:=hl
 refine aq Tryz.func65 rfl Tryz.ntmps65 rfl ?_
 unfold jY
 by_cases h1:u<0∨64<u∨u=0∨L= []
 ·
  rw [if_pos h1]
  have h1' :u<1∨64<u∨L.length=0:=by
   rcases h1 with h|h|h|h
   ·
    exact .inl (by omega)
   ·
    exact .inr (.inl h)
   ·
    exact .inl (by omega)
   ·
    exact .inr (.inr (by rw [h];rfl))
  repeat' (first|refine sT ?_|refine sM fun _=> ?_|(refine sC ?_ ?_<;>intro hb<;>try omega)|fail)
  all_goals first|(exfalso;omega)|((refine rT2 ?_);rfl)|trace_state
 rw [if_neg h1]
 have hne:0<L.length:=by
  rcases Mx L.length with h|h
  ·
   exact absurd (.inr (.inr (.inr (Me h)))) h1
  ·
   exact h
 by_cases h64:64<L.length
 ·
  rw [if_pos h64]
  repeat' (first|refine sT ?_|refine sM fun _=> ?_|(refine sC ?_ ?_<;>intro hb<;>try omega)|fail)
  all_goals first|(exfalso;omega)|((refine rT2 ?_);rfl)|trace_state
 rw [if_neg h64]
 obtain ⟨gl,ol,rfl,hrl⟩:=hl3 hne
 have hS:=fun w=>q9 w
 obtain ⟨h0a,_⟩:=Rl.ro (hrl.elem bX 0 hne)
 have hhd:L.head?.map (·.rect)=some L[0].rect:=by rw [List.head?_eq_getElem?,LF hne];rfl
 rw [hhd]
 by_cases hsh:some L[0].rect≠some mG
 ·
  rw [if_pos hsh]
  have hc:decide (L[0].rect=mG)=false:=decide_eq_false fun e=>hsh (congrArg some e)
  generalize L[0].rect=r0 at h0a hc
  repeat' (first|(apply bK (id:=5) [4] [];kernel_rfl;kernel_rfl;kernel_rfl)|(apply dm;(iterate 3 exact rfl);apply aj (j:=0);exact rfl;exact rfl;omega)|(apply dm;(iterate 3 exact rfl);apply aA;exact rfl;exact h0a;exact rfl)|(apply dm;(iterate 3 exact rfl);apply lL hc;exact rfl;exact rfl)|(apply aa (f:=105);exact rfl;exact rfl;(intro w' _;exact hS w'))|refine sT ?_|refine sS ?_|refine sW ?_|refine sO ?_|refine sM fun _=> ?_|(refine sC ?_ ?_<;>intro hb<;>try omega)|(refine sCW ?_ ?_<;>intro hb<;>try omega)|fail)
  all_goals first|(exfalso;omega)|((refine rT2 ?_);rfl)|trace_state
 rw [if_neg hsh]
 have hc:decide (L[0].rect=mG)=true:=decide_eq_true (Option.some.inj (Decidable.not_not.1 hsh))
 obtain ⟨ac,hac⟩: ∃ ac,gU u L 0=ac:=⟨_,rfl⟩
 rw [hac]
 generalize L[0].rect=r0 at h0a hc
 repeat' (first|(apply bK (id:=5) [4] [];kernel_rfl;kernel_rfl;kernel_rfl)|(apply dm;(iterate 3 exact rfl);apply aj (j:=0);exact rfl;exact rfl;omega)|(apply dm;(iterate 3 exact rfl);apply aA;exact rfl;exact h0a;exact rfl)|(apply dm;(iterate 3 exact rfl);apply lL hc;exact rfl;exact rfl)|(apply aa (f:=105);exact rfl;exact rfl;(intro w' _;exact hS w'))|refine sT ?_|refine sS ?_|refine sW ?_|refine sO ?_|refine sM fun _=> ?_|(refine sC ?_ ?_<;>intro hb<;>try omega)|(refine sCW ?_ ?_<;>intro hb<;>try omega)|fail)
 all_goals try (exfalso;omega)
 refine ax [0,1] rfl (fun i:Nat=> [(6,.int .i64 (i:Int))]) (fun _=> []) (fun i=>i≤L.length∧ac=gU u (L.drop i) (i:Int)) (fun i=>L.length - i) 0 ⟨by omega,hac.symm⟩ sB mS ?_
 rintro i ⟨hi,hrec⟩
 by_cases hlt:i<L.length
 ·
  obtain ⟨hr1,_,_,_,hr2⟩:=Rl.ro (hrl.elem bX i hlt)
  rw [LJ hlt,gU] at hrec
  simp only [Ll] at hrec
  generalize L[i]=r at hr1 hr2 hrec
  have hR:=fun w=>jc r.rect w
  have hW:=fun (x:BitVec 64) w=>iB x u w
  generalize bi r.rect=ro at hR hrec
  generalize (dq u).1=sa at hW hrec
  by_cases h3:ro=false
  ·
   rw [if_pos h3] at hrec
   subst h3
   repeat' (first|(apply ak;exact rfl;apply aj (j:=i);exact rfl;exact rfl;omega)|(apply aa;exact rfl;exact rfl;(intro w hm;exact hR w))|refine sT ?_|refine sS ?_|refine sO ?_|refine sM fun _=> ?_|(refine sC ?_ ?_<;>intro hb<;>try omega)|fail)
   all_goals first|(exfalso;omega)|((refine rT2 ?_);rw [hrec];done)|trace_state
  rw [if_neg h3] at hrec
  have h3' :ro=true:=by simpa using h3
  subst h3'
  by_cases h4:r.read &&& ~~~sa≠0#64∨r.write &&& ~~~sa≠0#64∨r.own &&& ~~~sa≠0#64
  ·
   rw [if_pos h4] at hrec
   repeat' (first|(apply ak;exact rfl;apply aj (j:=i);exact rfl;exact rfl;omega)|(apply ak;exact rfl;apply aA;exact rfl;exact hr2;exact rfl)|(apply aa;exact rfl;exact rfl;(intro w hm;exact hR w))|(apply aa (f:=125);exact rfl;exact rfl;(intro w' _;exact hW _ w'))|refine sT ?_|refine sS ?_|refine sO ?_|refine sM fun _=> ?_|(refine sC ?_ ?_<;>intro hb<;>try omega)|fail)
   all_goals first
    |(exfalso;omega)
    |((refine rT2 ?_);rw [hrec];done)
    |(exfalso;rcases h4 with h|h|h<;>exact h (by assumption))
    |trace_state
  ·
   rw [if_neg h4] at hrec
   repeat' (first|(apply ak;exact rfl;apply aj (j:=i);exact rfl;exact rfl;omega)|(apply ak;exact rfl;apply aA;exact rfl;exact hr2;exact rfl)|(apply aa;exact rfl;exact rfl;(intro w hm;exact hR w))|(apply aa (f:=125);exact rfl;exact rfl;(intro w' _;exact hW _ w'))|refine sT ?_|refine sS ?_|refine sN ?_|refine sO ?_|refine sM fun _=> ?_|(refine sC ?_ ?_<;>intro hb<;>try omega)|fail)
   all_goals first
    |(exfalso;omega)
    |(exfalso;exact h4 (by first|exact .inl (by assumption)|exact .inr (.inl (by assumption))|exact .inr (.inr (by assumption))))
    |(refine ⟨i+1,⟨hlt,by rw [hrec];rfl⟩,by omega,by exact sB,by exact sB,by exact mS⟩;done)
    |trace_state
 ·
  have e:i=L.length:=by omega
  subst e
  rw [LU,gU] at hrec
  rw [hrec]
  repeat' (first|refine sT ?_|refine sS ?_|refine sM fun _=> ?_|(refine sC ?_ ?_<;>intro hb<;>try omega)|fail)
  all_goals first|(exfalso;omega)|((refine rT2 ?_);rfl)|trace_state
theorem G5 (n:Nat) (h:n≤64) (i:Nat):(wH n).getLsbD i=decide (i<n):=by
 have h1: ∀ n:Fin 65,∀ i:Fin 64,(wH n.val).getLsbD i.val=decide (i.val<n.val):=by decide+kernel
 by_cases hi:i<64
 ·
  exact h1 ⟨n,by omega⟩ ⟨i,hi⟩
 ·
  rw [BitVec.getLsbD_of_ge _ _ (by omega),decide_eq_false (by omega)]
theorem yJ {u b:Int} (h: ¬ (u<0∨64<u∨u=0)):fU (dq u).1 b=(decide (0≤b) && decide (b<u)):=by
 unfold dq fU
 rw [if_neg (by omega)]
 rw [G5 _ (by omega),Mp]
 simp only [LM,decide_eq_true_eq]
 omega
set_option maxHeartbeats 8000000 in
theorem tF (u:Int) (L:List Gn) (lv:Value) (w:World) (hl:Reads w lv L.length (L.flatMap bg)):ay Tryz.prog 67 [.int .i64 u,lv] w (.tuple #[.int .i64 (l3 u L).1,.int .i64 (l3 u L).2]):=by
 obtain ⟨Al,cl,rfl,hl1,hl2,hl3⟩:=hl
 refine aq Tryz.func67 rfl Tryz.ntmps67 rfl ?_
 unfold l3
 by_cases h1:u<0∨64<u∨u=0
 ·
  rw [if_pos h1]
  repeat' (first|refine sT ?_|refine sM fun _=> ?_|(refine sC ?_ ?_<;>intro hb<;>try omega)|fail)
  all_goals first|(exfalso;omega)|((refine rT2 ?_);rfl)|trace_state
 rw [if_neg h1]
 by_cases h64:64<L.length
 ·
  rw [if_pos h64]
  repeat' (first|refine sT ?_|refine sM fun _=> ?_|(refine sC ?_ ?_<;>intro hb<;>try omega)|fail)
  all_goals first|(exfalso;omega)|((refine rT2 ?_);rfl)|trace_state
 rw [if_neg h64]
 obtain ⟨ac,hac⟩: ∃ ac,gQ u L 0=ac:=⟨_,rfl⟩
 rw [hac]
 repeat' (first|refine sT ?_|refine sS ?_|refine sM fun _=> ?_|(refine sC ?_ ?_<;>intro hb<;>try omega)|fail)
 all_goals try (exfalso;omega)
 refine ax [0,1] rfl (fun i:Nat=> [(6,.int .i64 (i:Int))]) (fun _=> []) (fun i=>i≤L.length∧ac=gQ u (L.drop i) (i:Int)) (fun i=>L.length - i) 0 ⟨by omega,hac.symm⟩ sB mS ?_
 rintro i ⟨hi,hrec⟩
 by_cases hlt:i<L.length
 ·
  obtain ⟨gl,ol,rfl,hrl⟩:=hl3 (by omega)
  have he1:=hrl.elem bR i hlt
  rw [LJ hlt,gQ,Km,yJ h1] at hrec
  generalize L[i]=r at he1 hrec
  have hR:=fun w=>jc r.rect w
  have hW:=fun w=>iB r.to u w
  generalize bi r.rect=ro at hR hrec
  generalize (dq u).1=sa at hW hrec
  obtain ⟨wi,hwi⟩: ∃ wi,decide (r.to &&& ~~~sa=0#64)=wi:=⟨_,rfl⟩
  rw [hwi] at hW hrec
  cases ro with
  |false=>
   rw [if_pos rfl] at hrec
   repeat' (first|(apply ak;exact rfl;apply aj (j:=i);exact rfl;exact rfl;omega)|(apply aa;exact rfl;exact rfl;(intro w hm;exact hR w))|refine sT ?_|refine sS ?_|refine sO ?_|refine sM fun _=> ?_|(refine sC ?_ ?_<;>intro hb<;>try omega)|fail)
   all_goals first|(exfalso;omega)|((refine rT2 ?_);rw [hrec];done)|trace_state
  |true=>
   rw [if_neg (by decide)] at hrec
   by_cases hg:1≤r.fns∧r.fns≤31∧wi=true∧0≤r.by_∧r.by_<u
   ·
    obtain ⟨g1,g2,rfl,g4,g5⟩:=hg
    rw [decide_eq_true g1,decide_eq_true g2,decide_eq_true g4,decide_eq_true g5] at hrec
    rw [if_neg (by decide)] at hrec
    repeat' (first|(apply ak;exact rfl;apply aj (j:=i);exact rfl;exact rfl;omega)|(apply aa;exact rfl;exact rfl;(intro w hm;exact hR w))|(apply aa;exact rfl;exact rfl;(intro w hm;exact hW w))|refine sT ?_|refine sS ?_|refine sN ?_|refine sO ?_|refine sM fun _=> ?_|(refine sC ?_ ?_<;>intro hb<;>try omega)|fail)
    all_goals first
     |(exfalso;omega)
     |(refine ⟨i+1,⟨hlt,by rw [hrec];rfl⟩,by omega,by exact sB,by exact sB,by exact mS⟩;done)
     |trace_state
   ·
    rw [if_pos (by rw [← Bool.not_eq_true,LM,LM,LM,LM,decide_eq_true_eq,decide_eq_true_eq,decide_eq_true_eq,decide_eq_true_eq];rintro ⟨⟨⟨a1,a2⟩,a3⟩,a4,a5⟩;exact hg ⟨a1,a2,a3,a4,a5⟩)] at hrec
    cases wi
    all_goals
     repeat' (first|(apply ak;exact rfl;apply aj (j:=i);exact rfl;exact rfl;omega)|(apply aa;exact rfl;exact rfl;(intro w hm;exact hR w))|(apply aa;exact rfl;exact rfl;(intro w hm;exact hW w))|refine sT ?_|refine sS ?_|refine sN ?_|refine sO ?_|refine sM fun _=> ?_|(refine sC ?_ ?_<;>intro hb<;>try omega)|fail)
    all_goals first
     |(exfalso;omega)
     |(exfalso;exact hg ⟨by omega,by omega,rfl,by omega,by omega⟩)
     |((refine rT2 ?_);rw [hrec];done)
     |trace_state
 ·
  have e:i=L.length:=by omega
  subst e
  rw [LU,gQ] at hrec
  rw [hrec]
  repeat' (first|refine sT ?_|refine sS ?_|refine sM fun _=> ?_|(refine sC ?_ ?_<;>intro hb<;>try omega)|fail)
  all_goals first|(exfalso;omega)|((refine rT2 ?_);rfl)|trace_state
theorem Je (x:BitVec 64) (m:Nat) (h:m<64):(x &&& 1#64<<<m=0#64)↔x.getLsbD m=false:=by
 have hb: ∀ m:Fin 64,∀ i:Fin 64,(1#64<<<m.val).getLsbD i.val=decide (i.val=m.val):=by decide+kernel
 constructor
 ·
  intro e
  have h1:(x &&& 1#64<<<m).getLsbD m=false:=by rw [e];simp
  rw [N0,hb ⟨m,h⟩ ⟨m,h⟩] at h1
  simpa using h1
 ·
  intro e
  apply Oj
  intro i hi
  rw [N0,hb ⟨m,h⟩ ⟨i,hi⟩]
  by_cases e2:i=m
  ·
   subst e2;rw [e];simp
  ·
   simp [e2]
theorem vY (u:Int) (w:World):ay Tryz.prog 211 [.int .i64 u] w (.bool (decide (0≤u) && decide (u<64))):=by
 refine aq Tryz.func211 rfl Tryz.ntmps211 rfl ?_
 repeat' (first|refine sT ?_|refine sM fun _=> ?_|(refine sC ?_ ?_<;>intro hb<;>try omega)|fail)
 all_goals first|(exfalso;omega)|((refine rT1 ?_);simp;omega)|((refine rT1 ?_);simp_all;done)|trace_state
theorem xZ (x:BitVec 64) (u:Int) (w:World):ay Tryz.prog 161 [vS x,.int .i64 u] w (.bool (fU x u)):=by
 refine aq Tryz.func161 rfl Tryz.ntmps161 rfl ?_
 have hU:=fun w=>vY u w
 by_cases h:0≤u∧u<64
 ·
  obtain ⟨m,rfl⟩: ∃ m:Nat,u=(m:Int):=⟨u.toNat,by omega⟩
  have hm:m<64:=by omega
  have hB:=fun w=>ux m (by omega) w
  have hs:=Je x m hm
  have he:fU x (m:Int)=x.getLsbD m:=by simp [fU];omega
  rw [he]
  rw [decide_eq_true h.1,decide_eq_true h.2] at hU
  cases hx:x.getLsbD m
  ·
   have hz:=hs.2 hx
   repeat' (first|(apply aa;exact rfl;exact rfl;(intro w hm;exact hU w))|(apply aa;exact rfl;exact rfl;(intro w hm;exact hB w))|(apply ak;exact rfl;apply qf (b:=1#64<<<m);exact rfl;exact rfl)|(apply ak;exact rfl;apply gJ (b:=0#64);exact rfl;exact rfl)|refine sT ?_|refine sM fun _=> ?_|(refine sC ?_ ?_<;>intro hb<;>try omega)|fail)
   all_goals first|(exfalso;omega)|((refine rT1 ?_);simp [hz];done)|trace_state
  ·
   have hz: ¬ (x &&& 1#64<<<m=0#64):=fun e=>by rw [hs.1 e] at hx;cases hx
   repeat' (first|(apply aa;exact rfl;exact rfl;(intro w hm;exact hU w))|(apply aa;exact rfl;exact rfl;(intro w hm;exact hB w))|(apply ak;exact rfl;apply qf (b:=1#64<<<m);exact rfl;exact rfl)|(apply ak;exact rfl;apply gJ (b:=0#64);exact rfl;exact rfl)|refine sT ?_|refine sM fun _=> ?_|(refine sC ?_ ?_<;>intro hb<;>try omega)|fail)
   all_goals first|(exfalso;omega)|((refine rT1 ?_);simp [hz];done)|trace_state
 ·
  have he:fU x u=false:=by
   unfold fU
   by_cases h1:0≤u
   ·
    have h2: ¬ u<64:=fun h2=>h ⟨h1,h2⟩
    simp [h2]
   ·
    simp [h1]
  have hf:(decide (0≤u) && decide (u<64))=false:=by
   rw [← Bool.not_eq_true,LM,decide_eq_true_eq,decide_eq_true_eq];exact h
  rw [hf] at hU
  rw [he]
  repeat' (first|(apply aa;exact rfl;exact rfl;(intro w hm;exact hU w))|refine sT ?_|refine sM fun _=> ?_|(refine sC ?_ ?_<;>intro hb<;>try omega)|fail)
  all_goals first|(exfalso;omega)|((refine rT1 ?_);rfl)|trace_state
theorem xX (x:Ox) (w:World):ay Tryz.prog 160 [.agg (bL x).toArray] w (.bool (kK x.kind)):=by
 refine aq Tryz.func160 rfl Tryz.ntmps160 rfl ?_
 repeat' (first|refine sT ?_|refine sS ?_|refine sM fun _=> ?_|(refine sC ?_ ?_<;>intro hb<;>try omega)|fail)
 all_goals first
  |(exfalso;omega)
  |((refine rT1 ?_);simp_all [kK];done)
  |trace_state
theorem vX (k:Int) (w:World):ay Tryz.prog 160 [.agg (bL (oD k)).toArray] w (.bool (kK k)):=xX (oD k) w
theorem nA (a:Rf) (w:World):ay Tryz.prog 74 [.agg (cB a).toArray] w (.bool a.valid):=by
 refine aq Tryz.func74 rfl Tryz.ntmps74 rfl ?_
 have h:a.valid=true↔(1≤a.col∧a.col≤1024∧1≤a.row∧a.row≤1024):=by
  show valid a.col a.row=true↔_
  rw [Dk]
 by_cases hk:a.valid=true
 ·
  have hk2:=h.1 hk
  rw [hk]
  repeat' (first|refine sT ?_|refine sM fun _=> ?_|(refine sC ?_ ?_<;>intro hb<;>try omega)|fail)
  all_goals first|(exfalso;omega)|((refine rT1 ?_);simp;omega)|((refine rT1 ?_);rfl)|trace_state
 ·
  have hk2:=fun x=>hk (h.2 x)
  rw [show a.valid=false by simpa using hk]
  repeat' (first|refine sT ?_|refine sM fun _=> ?_|(refine sC ?_ ?_<;>intro hb<;>try omega)|fail)
  all_goals first|(exfalso;omega)|((refine rT1 ?_);rfl)|((refine rT1 ?_);exact congrArg Value.bool (decide_eq_false fun hz=>hk2 ⟨by omega,by omega,by omega,by omega⟩))|trace_state
theorem xY (fn:Int) (w:World):ay Tryz.prog 162 [.int .u8 fn] w (.bool (decide (46≤fn) && decide (fn≤50))):=by
 refine aq Tryz.func162 rfl Tryz.ntmps162 rfl ?_
 repeat' (first|refine sT ?_|refine sM fun _=> ?_|(refine sC ?_ ?_<;>intro hb<;>try omega)|fail)
 all_goals first|(exfalso;omega)|((refine rT1 ?_);simp;omega)|((refine rT1 ?_);simp_all;done)|trace_state
def mR (all:BitVec 64) (last:Int) (x:Ev):Int:=
 if x.step≤last then 12 else if (kK x.kind && fU all x.user)=false then 2 else if bi x.rect=false then 3 else if (decide (x.to &&& ~~~all=0#64) && fU x.to x.user)=false then 2 else 0
theorem mT (all:BitVec 64) (last:Int) (x:Ev) (l:List Ev):eC all last (x::l)=if mR all last x≠0 then mR all last x else eC all x.step l:=by
 rw [eC,mR]
 split
 ·
  rfl
 split
 ·
  rfl
 split
 ·
  rfl
 split<;>rfl
def mH (all:BitVec 64) (last:Int) (x:Rv):Int:=
 if x.step<last then 12 else if (x.call.at_.valid && bi x.rect)=false then 3 else if Fy all x=false then 2 else 0
theorem mI (all:BitVec 64) (last:Int) (x:Rv) (l:List Rv):eQ all last (x::l)=if mH all last x≠0 then mH all last x else eQ all x.step l:=by
 rw [eQ,mH]
 split
 ·
  rfl
 split
 ·
  rfl
 split<;>rfl
set_option maxHeartbeats 4000000 in
theorem Bn (u:Int) (hu: ¬ (u<0∨64<u∨u=0)) (last:Int) (x:Ev) (w:World):ay Tryz.prog 127 [.int .i64 u,.int .i64 last,.agg (aQ x).toArray] w (.int .i64 (mR (dq u).1 last x)):=by
 refine aq Tryz.func127 rfl Tryz.ntmps127 rfl ?_
 have hM:=fun w=>vX x.kind w
 have hR:=fun w=>jc x.rect w
 have hW:=fun w=>iB x.to u w
 have hH:=fun w=>xZ x.to x.user w
 unfold mR
 rw [yJ hu]
 generalize kK x.kind=mk at hM ⊢
 generalize bi x.rect=ro at hR ⊢
 generalize fU x.to x.user=hs at hH ⊢
 generalize (dq u).1=sa at hW ⊢
 generalize decide (x.to &&& ~~~sa=0#64)=wi at hW ⊢
 repeat' (first|(apply aa;exact rfl;exact rfl;(intro w hm;exact hM w))|(apply aa;exact rfl;exact rfl;(intro w hm;exact hR w))|(apply aa;exact rfl;exact rfl;(intro w hm;exact hW w))|(apply aa;exact rfl;exact rfl;(intro w hm;exact hH w))|refine sT ?_|refine sS ?_|refine sM fun _=> ?_|(refine sC ?_ ?_<;>intro hb<;>try omega)|fail)
 all_goals first
  |(exfalso;omega)
  |((refine rT1 ?_);simp_all;done)
  |((refine rT1 ?_);simp_all;omega)
  |trace_state
set_option maxHeartbeats 4000000 in
theorem vQ (u:Int) (last:Int) (x:Rv) (w:World):ay Tryz.prog 128 [.int .i64 u,.int .i64 last,.agg (bu x).toArray] w (.int .i64 (mH (dq u).1 last x)):=by
 refine aq Tryz.func128 rfl Tryz.ntmps128 rfl ?_
 have hA:=fun w=>nA x.call.at_ w
 have hR:=fun w=>jc x.rect w
 have hL:=fun w=>xY x.fn w
 have hW:=fun w=>iB x.to u w
 unfold mH Fy
 generalize x.call.at_.valid=va at hA ⊢
 generalize bi x.rect=ro at hR ⊢
 generalize (dq u).1=sa at hW ⊢
 generalize decide (x.to &&& ~~~sa=0#64)=wi at hW ⊢
 repeat' (first|(apply aa;exact rfl;exact rfl;(intro w hm;exact hA w))|(apply aa;exact rfl;exact rfl;(intro w hm;exact hR w))|(apply aa;exact rfl;exact rfl;(intro w hm;exact hL w))|(apply aa;exact rfl;exact rfl;(intro w hm;exact hW w))|refine sT ?_|refine sS ?_|refine sM fun _=> ?_|(refine sC ?_ ?_<;>intro hb<;>try omega)|fail)
 all_goals first
  |(exfalso;omega)
  |((refine rT1 ?_);simp_all;done)
  |((refine rT1 ?_);simp_all;omega)
  |trace_state
set_option maxHeartbeats 8000000 in
theorem tE (u:Int) (L:List Ev) (M:List Rv) (lv mv:Value) (w:World) (hl:Reads w lv L.length (L.flatMap aQ)) (hm:Reads w mv M.length (M.flatMap bu)):ay Tryz.prog 68 [.int .i64 u,lv,mv] w (.int .i64 (p9 u L M)):=by
 obtain ⟨Al,cl,rfl,hl1,hl2,hl3⟩:=hl
 obtain ⟨Am,cm,rfl,hm1,hm2,hm3⟩:=hm
 refine aq Tryz.func68 rfl Tryz.ntmps68 rfl ?_
 unfold p9
 by_cases h1:u<0∨64<u∨u=0
 ·
  rw [if_pos h1]
  repeat' (first|refine sT ?_|refine sM fun _=> ?_|(refine sC ?_ ?_<;>intro hb<;>try omega)|fail)
  all_goals first|(exfalso;omega)|((refine rT1 ?_);rfl)|trace_state
 rw [if_neg h1]
 have hE:=fun last (x:Ev) w=>Bn u h1 last x w
 have hR:=fun last (x:Rv) w=>vQ u last x w
 generalize (dq u).1=sa at hE hR ⊢
 obtain ⟨ef,hef⟩: ∃ ef,eC sa (-1) L=ef:=⟨_,rfl⟩
 rw [hef]
 repeat' (first|refine sT ?_|refine sS ?_|refine sM fun _=> ?_|(refine sC ?_ ?_<;>intro hb<;>try omega)|fail)
 all_goals try (exfalso;omega)
 refine ax [0,1,2] rfl (fun i:Nat=> [(7,.int .i64 (jv L i)),(8,.int .i64 (i:Int))]) (fun _=> []) (fun i=>i≤L.length∧ef=eC sa (jv L i) (L.drop i)) (fun i=>L.length - i) 0 ⟨LS _,hef.symm⟩ sB mS ?_
 rintro i ⟨hi,hrec⟩
 by_cases hlt:i<L.length
 ·
  obtain ⟨gl,ol,rfl,hrl⟩:=hl3 (by omega)
  have he1:=hrl.elem cX i hlt
  have hnext:jv L (i+1)=L[i].step:=by unfold jv;rw [if_neg (by omega),M3,LF hlt];rfl
  rw [LJ hlt,mT] at hrec
  generalize jv L i=last at hrec
  generalize L[i]=r at hnext he1 hrec
  have hE1:=fun w=>hE last r w
  have hs:=(Ev.ro he1).1
  generalize mR sa last r=e1 at hE1 hrec
  repeat' (first|(apply ak;exact rfl;apply aj (j:=i);exact rfl;exact rfl;omega)|(apply ak;exact rfl;apply aA;exact rfl;exact he1;exact rfl)|(apply aa;exact rfl;exact rfl;(intro w hm;exact hE1 w))|refine sT ?_|refine sS ?_|refine sN ?_|refine sO ?_|refine sM fun _=> ?_|(refine sC ?_ ?_<;>intro hb<;>try omega)|fail)
  all_goals first
   |(exfalso;omega)
   |(rw [if_pos hb] at hrec;(refine rT1 ?_);rw [hrec,if_pos hb];done)
   |(rw [if_neg (by omega)] at hrec;refine ⟨i+1,⟨hlt,?_⟩,by omega,by (try simp only [hnext]);exact sB,by (try simp only [hnext]);exact sB,by exact mS⟩;rw [hnext];exact hrec)
   |trace_state
 ·
  have e:i=L.length:=by omega
  subst e
  rw [LU,eC] at hrec
  subst hrec
  rw [if_neg (by decide)]
  obtain ⟨rf,hrf⟩: ∃ rf,eQ sa (-1) M=rf:=⟨_,rfl⟩
  rw [hrf]
  repeat' (first|refine sT ?_|refine sS ?_|refine sM fun _=> ?_|(refine sC ?_ ?_<;>intro hb<;>try omega)|fail)
  refine ax [0,2] rfl (fun i:Nat=> [(7,.int .i64 (ju M i)),(10,.int .i64 (i:Int))]) (fun _=> []) (fun i=>i≤M.length∧rf=eQ sa (ju M i) (M.drop i)) (fun i=>M.length - i) 0 ⟨LS _,hrf.symm⟩ sB mS ?_
  rintro i ⟨hi,hrec⟩
  by_cases hlt:i<M.length
  ·
   obtain ⟨gm,om,rfl,hrm⟩:=hm3 (by omega)
   have he1:=hrm.elem cW i hlt
   have hnext:ju M (i+1)=M[i].step:=by unfold ju;rw [if_neg (by omega),M3,LF hlt];rfl
   rw [LJ hlt,mI] at hrec
   generalize ju M i=last at hrec
   generalize M[i]=r at hnext he1 hrec
   have hE1:=fun w=>hR last r w
   have hs:=Rv.ro1 he1
   generalize mH sa last r=e1 at hE1 hrec
   repeat' (first|(apply ak;exact rfl;apply aj (j:=i);exact rfl;exact rfl;omega)|(apply ak;exact rfl;apply aA;exact rfl;exact he1;exact rfl)|(apply aa;exact rfl;exact rfl;(intro w hm;exact hE1 w))|refine sT ?_|refine sS ?_|refine sN ?_|refine sO ?_|refine sM fun _=> ?_|(refine sC ?_ ?_<;>intro hb<;>try omega)|fail)
   all_goals first
    |(exfalso;omega)
    |(rw [if_pos hb] at hrec;(refine rT1 ?_);rw [hrec];done)
    |(rw [if_neg (by omega)] at hrec;refine ⟨i+1,⟨hlt,?_⟩,by omega,by (try simp only [hnext]);exact sB,by (try simp only [hnext]);exact sB,by exact mS⟩;rw [hnext];exact hrec)
    |trace_state
  ·
   have e:i=M.length:=by omega
   subst e
   rw [LU,eQ] at hrec
   subst hrec
   repeat' (first|refine sT ?_|refine sS ?_|refine sM fun _=> ?_|(refine sC ?_ ?_<;>intro hb<;>try omega)|fail)
   all_goals first|(exfalso;omega)|((refine rT1 ?_);rfl)|trace_state
end Go.SL
namespace Go.SL
open Go
def pP (last:Int):List Ev→Int
 | []=>last
 |x::l=>pP x.step l
theorem za: ∀ (L:List Ev) (last:Int),pP last L=if L.length=0 then last else ((L[L.length - 1]?).map Ev.step).getD 0
 | [],_=>rfl
 | [x],_=>rfl
 |x::y::L,last=>by
  have ih:=za (y::L) x.step
  rw [show pP last (x::y::L)=pP x.step (y::L) from rfl,ih]
  simp
theorem CW {u:Int} {L:List Ev} {M:List Rv}:p9 u L M=0↔(1≤u∧u≤64)∧eC (dq u).1 (-1) L=0∧eQ (dq u).1 (-1) M=0:=by
 unfold p9
 split
 ·
  exact ⟨fun h=>(by cases h),fun h=>by omega⟩
 split
 ·
  rename_i h;exact ⟨fun h2=>absurd h2 h,fun h2=>absurd h2.2.1 h⟩
 ·
  exact ⟨fun h=>⟨by omega,by omega,h⟩,fun h=>h.2.2⟩
end Go.SL
namespace Go.SL
open Go Go.Proofs
attribute [local irreducible] W WL WQ WG WA WX WLI WR WT WC WE VOp RW thn blk bS scp bq bF cj aS FnIn FnP ceP
theorem yT {all:BitVec 64}: ∀ {L:List Ev} {last:Int},eC all last L=0→ ∀ x∈L,x.step≤pP last L
 | [],_,_,x,hx=>by cases hx
 |y::L,last,h,x,hx=>by
  rw [mT] at h
  split at h
  ·
   rename_i h2;exact absurd h h2
  have hmono: ∀ {L:List Ev} {a:Int},eC all a L=0→a≤pP a L:=by
   intro L
   induction L with
   |nil=>intro a _;exact M7 _
   |cons z L ih=>
    intro a h
    rw [mT] at h
    split at h
    ·
     rename_i h2;exact absurd h h2
    rename_i h2
    have h3:=ih h
    have h4: ¬ z.step≤a:=fun h5=>by
     have h6:=Classical.not_not.1 h2
     unfold mR at h6
     rw [if_pos h5] at h6
     cases h6
    show a≤pP z.step L
    omega
  show x.step≤pP y.step L
  rcases L7.1 hx with rfl|hx
  ·
   exact hmono h
  ·
   exact yT h x hx
def pO (last:Int):List Rv→Int
 | []=>last
 |x::l=>pO x.step l
theorem y9: ∀ (L:List Rv) (last:Int),pO last L=if L.length=0 then last else ((L[L.length - 1]?).map Rv.step).getD 0
 | [],_=>rfl
 | [x],_=>rfl
 |x::y::L,last=>by
  have ih:=y9 (y::L) x.step
  rw [show pO last (x::y::L)=pO x.step (y::L) from rfl,ih]
  simp
theorem xF {all:BitVec 64}: ∀ {L:List Rv} {last:Int},eQ all last L=0→ ∀ x∈L,x.step≤pO last L
 | [],_,_,x,hx=>by cases hx
 |y::L,last,h,x,hx=>by
  rw [mI] at h
  split at h
  ·
   rename_i h2;exact absurd h h2
  have hmono: ∀ {L:List Rv} {a:Int},eQ all a L=0→a≤pO a L:=by
   intro L
   induction L with
   |nil=>intro a _;exact M7 _
   |cons z L ih=>
    intro a h
    rw [mI] at h
    split at h
    ·
     rename_i h2;exact absurd h h2
    rename_i h2
    have h3:=ih h
    have h4: ¬ z.step<a:=fun h5=>by
     have h6:=Classical.not_not.1 h2
     unfold mH at h6
     rw [if_pos h5] at h6
     cases h6
    show a≤pO z.step L
    omega
  show x.step≤pO y.step L
  rcases L7.1 hx with rfl|hx
  ·
   exact hmono h
  ·
   exact xF h x hx
theorem D8 {all:BitVec 64} {s:Int} {L:List Ev} (h:eC all (-1) L=0):nK s L=false↔ ∀ x∈L,x.step<s:=by
 have h1:=yT h
 rw [za] at h1
 unfold nK
 by_cases hl:0<L.length
 ·
  rw [if_pos hl,decide_eq_false_iff_not]
  rw [if_neg (by omega)] at h1
  constructor
  ·
   intro h2 x hx
   have:=h1 x hx
   omega
  ·
   intro h2 h3
   have hlt:L.length - 1<L.length:=by omega
   have h4:=h2 _ (Mw hlt)
   rw [LF hlt] at h3
   simp only [ME,Ok] at h3
   omega
 ·
  rw [if_neg hl]
  have:L= []:=M5.1 (by omega)
  subst this
  simp
theorem D7 {all:BitVec 64} {s:Int} {L:List Rv} (h:eQ all (-1) L=0):nJ s L=false↔ ∀ x∈L,x.step<s:=by
 have h1:=xF h
 rw [y9] at h1
 unfold nJ
 by_cases hl:0<L.length
 ·
  rw [if_pos hl,decide_eq_false_iff_not]
  rw [if_neg (by omega)] at h1
  constructor
  ·
   intro h2 x hx
   have:=h1 x hx
   omega
  ·
   intro h2 h3
   have hlt:L.length - 1<L.length:=by omega
   have h4:=h2 _ (Mw hlt)
   rw [LF hlt] at h3
   simp only [ME,Ok] at h3
   omega
 ·
  rw [if_neg hl]
  have:L= []:=M5.1 (by omega)
  subst this
  simp
set_option maxHeartbeats 16000000 in
theorem l9 (b:Bk) (x:Bv) (w:World) (h:BRd w b x) (hlen:b.ents.length≤1000000):ay Tryz.prog 21 [.agg (aP b x).toArray] w (.int .i64 (bkE b)):=by
 have hent:=fun (w' :World) (H:List Blk) (hm:Mem w w' H)=>tC b.ents _ w' (h.e.of_w0 hm) hlen
 have hacl:=fun (w' :World) (H:List Blk) (hm:Mem w w' H)=>ma b.users b.rules _ w' (h.r.of_w0 hm)
 have hgnt:=fun (w' :World) (H:List Blk) (hm:Mem w w' H)=>tF b.users b.grants _ w' (h.g.of_w0 hm)
 have haud:=fun (w' :World) (H:List Blk) (hm:Mem w w' H)=>tE b.users b.log b.rels _ _ w' (h.l.of_w0 hm) (h.s.of_w0 hm)
 refine aq Tryz.func21 rfl Tryz.ntmps21 rfl ?_
 unfold bkE
 obtain ⟨Al,cl,el,hl1,hl2,hl3⟩:=h.l
 obtain ⟨Am,cm,em,hm1,hm2,hm3⟩:=h.s
 have hl3' :0<b.log.length→ ∃ g o,x.al=some ⟨g,o,none⟩∧Ro w g o (b.log.flatMap aQ):=by
  cases el
  exact hl3
 have hm3' :0<b.rels.length→ ∃ g o,x.as_=some ⟨g,o,none⟩∧Ro w g o (b.rels.flatMap bu):=by
  cases em
  exact hm3
 have hLm:b.log.length≤maxLen:=Ma hl1 hl2
 have hMm:b.rels.length≤maxLen:=Ma hm1 hm2
 clear hl1 hl2 hl3 hm1 hm2 hm3 el em
 have hlE:=fun (hz:p9 b.users b.log b.rels=0)=>D8 (s:=b.step) (CW.1 hz).2.1
 have hlR:=fun (hz:p9 b.users b.log b.rels=0)=>D7 (s:=b.step) (CW.1 hz).2.2
 generalize gS b.ents=ce at hent ⊢
 generalize jY b.users b.rules=ae at hacl ⊢
 generalize l3 b.users b.grants=ge at hgnt ⊢
 generalize p9 b.users b.log b.rels=ue at haud hlE hlR ⊢
 obtain ⟨us,E,RU,G,L,M,st⟩:=b
 obtain ⟨ae1,ar1,ag1,al1,as1,ce1,cr1,cg1,cl1,cs1⟩:=x
 dsimp only at*
 simp only [aP] at*
 generalize nK st L=le at hlE ⊢
 generalize nJ st M=lr at hlR ⊢
 repeat' (first|(apply aa (f:=66);exact rfl;exact rfl;(intro w' hm;exact hent w' _ hm))|(apply aa (f:=65);exact rfl;exact rfl;(intro w' hm;exact hacl w' _ hm))|(apply aa (f:=67);exact rfl;exact rfl;(intro w' hm;exact hgnt w' _ hm))|(apply aa (f:=68);exact rfl;exact rfl;(intro w' hm;exact haud w' _ hm))|refine sT ?_|refine sS ?_|refine sN ?_|refine sM fun _=> ?_|(refine sC ?_ ?_<;>intro hb<;>try omega)|fail)
 all_goals first
  |(exfalso;omega)
  |((refine rT1 ?_);simp_all;done)
  |((refine rT1 ?_);simp_all;omega)
  |skip
 rename_i g1 _ _ _ _ _ _ _
 have hue:ue=0:=Decidable.not_not.1 (show ¬ (ue≠0) by assumption)
 have hlE1:=hlE hue
 have hlR1:=hlR hue
 rw [if_neg (by omega),if_neg (show ¬ (ce.2≠0) by assumption),if_neg (show ¬ (ae.2≠0) by assumption),if_neg (show ¬ (ge.2≠0) by assumption),if_neg (show ¬ (ue≠0) by assumption),if_neg (by omega)]
 clear hlE hlR hent hacl hgnt haud
 refine ax [1] rfl (fun i:Nat=> [(10,.int .i64 (i:Int))]) (fun _=> [.box g1 28 [.int .i64 us,.slice ae1 E.length ce1,.slice ar1 RU.length cr1,.slice ag1 G.length cg1,.slice al1 L.length cl1,.slice as1 M.length cs1,.int .i64 st]]) (fun i=>i≤L.length∧ ∀ j (h:j<L.length),j<i→L[j].step<st) (fun i=>L.length - i) 0 ⟨LS _,fun j _ h=>absurd h (Nat.not_lt_zero _)⟩ sB mS ?_
 rintro i ⟨hi,hall⟩
 by_cases hlt:i<L.length
 ·
  obtain ⟨gl,ol,rfl,hrl⟩:=hl3' (by omega)
  have he:=(Ev.ro (hrl.elem cX i hlt)).1
  have hnx:L[i].step<st→ ∀ j (h:j<L.length),j<i+1→L[j].step<st:=fun hs j hj hji=>by
   by_cases e:j=i
   ·
    subst e;exact hs
   ·
    exact hall j hj (by omega)
  have hbad:st≤L[i].step→le=true:=fun hs=>by
   cases hle:le with
   |true=>rfl
   |false=>exact absurd (hlE1.1 hle _ (Mw hlt)) (by omega)
  generalize L[i].step=sp at he hnx hbad
  repeat' (first|(apply aK;exact rfl;apply aj (j:=i);exact rfl;exact rfl;exact hlt)|refine sT ?_|refine sS ?_|refine sQ ?_|refine sN ?_|refine sNQ ?_|refine sO ?_|refine sOQ ?_|refine sD ?_|refine sM fun _=> ?_|(refine sC ?_ ?_<;>intro hb<;>try omega)|(refine sCQ ?_ ?_<;>intro hb<;>try omega)|fail)
  all_goals first
   |(exfalso;omega)
   |((refine rT1 ?_);rw [if_pos (hbad (by omega))];done)
   |(refine ⟨i+1,⟨hlt,hnx (by omega)⟩,by omega,by exact sB,by exact sB,by exact mS⟩;done)
   |trace_state
 have hle:le=false:=hlE1.2 fun x hx=>by
  obtain ⟨j,hj,rfl⟩:=Nl hx
  exact hall j hj (by omega)
 rw [hle,if_neg (by decide)]
 repeat' (first|refine sT ?_|refine sS ?_|refine sN ?_|refine sM fun _=> ?_|(refine sC ?_ ?_<;>intro hb<;>try omega)|fail)
 all_goals try (exfalso;omega)
 refine ax [1] rfl (fun i:Nat=> [(11,.int .i64 (i:Int))]) (fun _=> [.box g1 28 [.int .i64 us,.slice ae1 E.length ce1,.slice ar1 RU.length cr1,.slice ag1 G.length cg1,.slice al1 L.length cl1,.slice as1 M.length cs1,.int .i64 st]]) (fun i=>i≤M.length∧ ∀ j (h:j<M.length),j<i→M[j].step<st) (fun i=>M.length - i) 0 ⟨LS _,fun j _ h=>absurd h (Nat.not_lt_zero _)⟩ sB mS ?_
 rintro k ⟨hk,hall2⟩
 by_cases hltk:k<M.length
 ·
  obtain ⟨gm,om,rfl,hrm⟩:=hm3' (by omega)
  have he:=Rv.ro1 (hrm.elem cW k hltk)
  have hnx:M[k].step<st→ ∀ j (h:j<M.length),j<k+1→M[j].step<st:=fun hs j hj hji=>by
   by_cases e:j=k
   ·
    subst e;exact hs
   ·
    exact hall2 j hj (by omega)
  have hbad:st≤M[k].step→lr=true:=fun hs=>by
   cases hlr:lr with
   |true=>rfl
   |false=>exact absurd (hlR1.1 hlr _ (Mw hltk)) (by omega)
  generalize M[k].step=sp at he hnx hbad
  repeat' (first|(apply aK;exact rfl;apply aj (j:=k);exact rfl;exact rfl;exact hltk)|refine sT ?_|refine sS ?_|refine sQ ?_|refine sN ?_|refine sNQ ?_|refine sO ?_|refine sOQ ?_|refine sD ?_|refine sM fun _=> ?_|(refine sC ?_ ?_<;>intro hb<;>try omega)|(refine sCQ ?_ ?_<;>intro hb<;>try omega)|fail)
  all_goals first
   |(exfalso;omega)
   |((refine rT1 ?_);rw [if_pos (hbad (by omega))];done)
   |(refine ⟨k+1,⟨hltk,hnx (by omega)⟩,by omega,by exact sB,by exact sB,by exact mS⟩;done)
   |trace_state
 have hlr:lr=false:=hlR1.2 fun x hx=>by
  obtain ⟨j,hj,rfl⟩:=Nl hx
  exact hall2 j hj (by omega)
 rw [hlr,if_neg (by decide)]
 repeat' (first|refine sT ?_|refine sS ?_|refine sN ?_|refine sM fun _=> ?_|(refine sC ?_ ?_<;>intro hb<;>try omega)|fail)
 all_goals first|(exfalso;omega)|((refine rT1 ?_);rfl)|trace_state
def Bm:Bk:=⟨3,Gt,bkR,[],[],[],0⟩
theorem wM (w:World):aS Tryz.prog 11 [] w fun v H=> ∃ a:Bo,v= .agg (aP Bm a.v).toArray∧H=aM Bm a:=by
 refine aq Tryz.func11 rfl Tryz.ntmps11 rfl ?_
 refine aJ 56 8 ?_
 refine aJ 48 9 ?_
 refine aJ 70 11 ?_
 repeat' (first|(apply aG (f:=49);exact rfl;exact rfl;(intro w' hm;exact EH w');rintro _ _ ⟨ge,gr,gn,rfl,rfl⟩)|refine sT ?_|refine sS ?_|refine sM fun _=> ?_|(refine sC ?_ ?_<;>intro hb<;>try omega)|fail)
 exact vO (.inl rfl) rfl rfl pK rfl (H' :=aM Bm ⟨some ge,some gr,none,none,none,6,2,0,0,0⟩) (by unfold aM;exact mS) ⟨⟨some ge,some gr,none,none,none,6,2,0,0,0⟩,rfl,rfl⟩
def GU (c r:Int):Rct:=⟨c,r,c,r⟩
theorem Ep (c r:Int) (w:World):ay Tryz.prog 13 [.int .i64 c,.int .i64 r] w (.agg (bO (GU c r)).toArray):=by
 refine aq Tryz.func13 rfl Tryz.ntmps13 rfl ?_
 repeat' (first|refine sT ?_|refine sM fun _=> ?_|(refine sC ?_ ?_<;>intro hb<;>try omega)|fail)
 (refine eRC ?_)
 rfl
def mE (b:Bk):Bool:=
 decide (b.ents.length≤40) && (decide (b.rules.length≤10)||(decide ((jY b.users b.rules).2≠0) && decide (b.rules.length<70))) && (decide (b.grants.length≤10)||(decide (64<b.grants.length) && decide (b.grants.length<70))) && decide (b.log.length≤60) && decide (b.rels.length≤60)
theorem Dz {b:Bk} (h:mE b=true):b.ents.length≤40∧b.rules.length<70∧b.grants.length<70∧b.log.length≤60∧b.rels.length≤60:=by
 simp only [mE,LM,Nt,decide_eq_true_eq] at h
 omega
set_option maxHeartbeats 8000000 in
theorem sL (b:Bk) (x:Bv) (w:World) (h:BRd w b x):ay Tryz.prog 20 [.agg (aP b x).toArray] w (.bool (mE b)):=by
 refine aq Tryz.func20 rfl Tryz.ntmps20 rfl ?_
 have h1:=fun (w' :World) (H:List Blk) (hm:Mem w w' H)=>ma b.users b.rules _ w' (h.r.of_w0 hm)
 unfold mE
 generalize jY b.users b.rules=ae at h1 ⊢
 obtain ⟨us,E,RU,G,L,M,st⟩:=b
 obtain ⟨ae1,ar1,ag1,al1,as1,ce1,cr1,cg1,cl1,cs1⟩:=x
 dsimp only at*
 clear h
 simp only [aP]
 generalize E.length=nE
 generalize RU.length=nR at h1 ⊢
 generalize G.length=nG
 generalize L.length=nL
 generalize M.length=nM
 repeat' (first|(apply aa (f:=65);exact rfl;exact rfl;(intro w' hm;exact h1 w' _ hm))|refine sT ?_|refine sS ?_|refine sM fun _=> ?_|(refine sC ?_ ?_<;>intro hb<;>try omega)|fail)
 all_goals first
  |(exfalso;omega)
  |((refine rT1 ?_);refine congrArg Value.bool (Mp.2 ?_);simp only [LM,Nt,decide_eq_true_eq,MG,true_iff,false_iff];omega)
  |trace_state
def K6:Ox:=⟨3,1,GU 3 3,⟨#[55]⟩,0#64,0#64,0#64,0,0#64,0⟩
section
variable (ov:Rct→List Rl→(BitVec 64 × BitVec 64 × BitVec 64) × Int)
def Lt (b:Bk) (o:Ox):Bool:=
 if o.kind=3∨o.kind=4 then !fU (ov o.rect b.rules).1.2.1 o.user
 else if o.kind=6 then !fU (ov o.rect b.rules).1.1 o.user
 else if o.kind=7∨o.kind=8 then !fU (ov o.rect b.rules).1.2.2 o.user
 else if o.kind=9 then (match b.grants[o.idx.toNat]? with|some g=>decide (g.by_≠o.user) && !fU (ov g.rect b.rules).1.2.2 o.user|none=>false)
 else false
def cdV (b:Bk) (o:Ox):Int × Int:=
 if tst b o 0 then (1,0) else if tst b o 1 then (2,0) else if tst b o 2 then (4,0) else if tst b o 3 then (2,0) else if tst b o 4 then (8,0)
 else if Lt ov b o then (5,0) else if tst b o 6 then (6,(ofP o.input).2.1) else if tst b o 7 then (7,0) else (0,0)
def evV (step:Int) (x:Ox) (dn:Bool) (L:List Rl) (N:List Gn):Ev × Int:=
 if kK x.kind=false then (fJ,2)
 else if step<0∨opE x≠0∨x.user<0∨64≤x.user then (fJ,2)
 else if (jY 64 L).2≠0 then (fJ,(jY 64 L).2)
 else if (l3 64 N).2≠0 then (fJ,(l3 64 N).2)
 else if x.kind=9∧(x.idx<0∨(N.length:Int)≤x.idx) then (fJ,6)
 else if bi (evT x N)=false then (fJ,3)
 else (⟨step,x.user,x.kind,evT x N,dn,(ov (evT x N) L).1.2.2|||(ofS x.user).1⟩,0)
def K7 (b:Bk) (o:Ox) (c:Int):Bk:=
 ⟨b.users,b.ents,b.rules,b.grants,if (c=0∨c=5)∧kK o.kind=true then b.log++ [(evV ov b.step o (decide (c=0)) b.rules b.grants).1] else b.log,b.rels,b.step+1⟩
def apW (b:Bk) (o:Ox) (c:Int × Int):Bk × Int × Int × Int:=
 if c.1≠0 then (K7 ov b o c.1,c.1,c.2,0) else (zt (K7 ov b o c.1) o,0,0,0)
def apV (b:Bk) (o:Ox):Bk × Int × Int × Int:=
 if bkE b≠0 then (oF,0,0,bkE b)
 else if b.step=1099511627776 then (oF,0,0,5)
 else apW ov b o (cdV ov b o)
end
theorem Ks (b:Bk) (o:Ox):apE b o=apV ovC b o:=by rw [← Ka];rfl
theorem Lm {b:Bk} {o:Ox} {b' :Bk} {x:Int × Int × Int} (h:wC (apV ovC b o).1 b' =true) (h2:(apV ovC b o).2=x):apE b o=(b',x):=by
 rw [Ks]
 exact Prod.ext (y8.1 h) h2
def GZ:Bk:=⟨3,[⟨⟨1,1⟩,⟨#[53]⟩⟩,⟨⟨2,1⟩,⟨#[49,48]⟩⟩,⟨⟨1,2⟩,inB⟩,⟨⟨2,2⟩,⟨#[50,48]⟩⟩,⟨⟨1,3⟩,inC⟩,⟨⟨3,3⟩,⟨#[55]⟩⟩,⟨⟨1,4⟩,inD⟩],bkR,[],[⟨0,1,3,GU 3 3,true,3#64⟩],[],1⟩
set_option maxRecDepth 100000 in
theorem BJ:apE Bm K6=(GZ,0,0,0):=Lm (by decide+kernel) (by decide+kernel)
set_option maxRecDepth 100000 in
theorem BH:yI GZ ⟨3,3⟩=(⟨#[55]⟩,0):=by decide+kernel
set_option maxHeartbeats 8000000 in
theorem BI (w:World) (hW:Words w):ay Tryz.prog 24 [] w (.bool true):=by
 refine aq Tryz.func24 rfl Tryz.ntmps24 rfl ?_
 have hC:=fun w=>Ep 3 3 w
 have hs:Small Bm:=⟨by decide,by decide,by decide,by decide,by decide⟩
 have hs2:GZ.ents.length≤1000000:=by decide
 have hA:=fun (a:Bo) (w' :World) (H:List Blk) (hm:Mem w w' H) (h:BRd w' Bm a.v)=>BJ ▸ Hp Bm a.v K6 w' h (hW.next hm) hs
 have hI:=fun (a:Bo) (w' :World) (H:List Blk) (hm:Mem w w' H) (h:BRd w' GZ a.v)=>BH ▸ sF GZ a.v ⟨3,3⟩ w' h (hW.next hm) hs2
 repeat' (first|(apply aG (f:=11);exact rfl;exact rfl;(intro w' hm;exact wM w');rintro _ _ ⟨a,rfl,rfl⟩)|(apply aa;exact rfl;exact rfl;(intro w hm;exact hC w))|(apply aG (f:=14);exact rfl;exact rfl;(intro w' hm;exact hA a w' _ hm (BRd.of_rows hm pK pK pK pK pK));rintro _ _ ⟨a2,rfl,rfl⟩)|(apply aa (f:=19);exact rfl;exact rfl;(intro w' hm;exact hI a2 w' _ hm (BRd.of_rows hm pK pK pK pK pK)))|(apply ak (d:=32);exact rfl;apply vH (b:=(⟨#[55]⟩:ByteArray));exact rfl;exact rfl)|refine sT ?_|refine sS ?_|refine sM fun _=> ?_|(refine sC ?_ ?_<;>intro hb<;>try omega)|fail)
 all_goals first|(exfalso;omega)|((refine rT1 ?_);rfl)|trace_state
end Go.SL

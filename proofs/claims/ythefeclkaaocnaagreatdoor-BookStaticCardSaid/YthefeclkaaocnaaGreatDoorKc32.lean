/-
  Lemmas and walks, put together: Ja Nb Oa.
-/
import Derived.Test.YthefeclkaaocnaaGreatDoorKc31
set_option linter.unusedSimpArgs false
set_option linter.unusedVariables false
set_option maxRecDepth 20000
namespace Go.SL
open Go Go.Proofs
attribute [local irreducible] W WL WQ WG WA WX WLI WR WT WC WE VOp RW thn blk bL scp bi bz bY aQ FnIn FnP ceP
theorem EV (n:Nat) (h:n<64):xe (n+1)=xe n|||1#64<<<n:=by
 have h1: ∀ n:Fin 64,xe (n.val+1)=xe n.val|||1#64<<<n.val:=by decide+kernel
 exact h1 ⟨n,h⟩
theorem uT (m:Nat) (h:m≤64) (w:World):ax Tryz.prog 208 [.int .i64 (m:Int)] w (vS (1#64<<<m)):=by
 refine aq Tryz.func208 rfl Tryz.ntmps208 rfl ?_
 repeat' (first|(apply aj;exact rfl;apply bI (c:=(m:Int));exact rfl;(simp only [IntKind.wrap_u64];omega))|(apply aj;exact rfl;apply wo (a:=1#64) (m:=m);exact rfl;exact rfl;omega)|refine sT ?_|refine sM fun _=> ?_|(refine sC ?_ ?_<;>intro hb<;>try omega)|fail)
 all_goals first|(exfalso;omega)|((refine rT1 ?_);rfl)|trace_state
theorem yH (u:Int) (w:World):ax Tryz.prog 156 [.int .i64 u] w (.tuple #[vS (cN u).1,.int .i64 (cN u).2]):=by
 refine aq Tryz.func156 rfl Tryz.ntmps156 rfl ?_
 by_cases h:u<0∨64<u
 ·
  rw [cN,if_pos h]
  repeat' (first|refine sT ?_|refine sM fun _=> ?_|(refine sC ?_ ?_<;>intro hb<;>try omega)|fail)
  all_goals first|(exfalso;omega)|((refine rT2 ?_);rfl)|trace_state
 ·
  rw [cN,if_neg h]
  obtain ⟨m,rfl⟩: ∃ m:Nat,u=(m:Int):=⟨u.toNat,by omega⟩
  rw [Om]
  repeat' (first|refine sT ?_|refine sS ?_|refine sM fun _=> ?_|(refine sC ?_ ?_<;>intro hb<;>try omega)|fail)
  all_goals try (exfalso;omega)
  refine ay [0] rfl (fun i:Nat=> [(4,vS (xe i)),(5,.int .i64 (i:Int))]) (fun _=> []) (fun i=>i≤m) (fun i=>m - i) 0 (by omega) sB mS ?_
  rintro i hi
  by_cases hlt:i<m
  ·
   have hB:=fun w=>uT i (by omega) w
   have hs:=EV i (by omega)
   repeat' (first|(apply aa;exact rfl;exact rfl;(intro w hm;exact hB w))|(apply aj;exact rfl;apply oX (a:=xe i);exact rfl;exact rfl)|refine sT ?_|refine sS ?_|refine sN ?_|refine sM fun _=> ?_|(refine sC ?_ ?_<;>intro hb<;>try omega)|fail)
   all_goals first
    |(exfalso;omega)
    |(rw [← hs];refine ⟨i+1,hlt,by omega,by exact sB,by exact sB,by exact mS⟩;done)
    |trace_state
  ·
   have e:i=m:=by omega
   subst e
   repeat' (first|refine sT ?_|refine sS ?_|refine sM fun _=> ?_|(refine sC ?_ ?_<;>intro hb<;>try omega)|fail)
   all_goals first|(exfalso;omega)|((refine rT2 ?_);rfl)|trace_state
theorem iN (x:BitVec 64) (u:Int) (w:World):ax Tryz.prog 125 [vS x,.int .i64 u] w (.bool (decide (x &&& ~~~(cN u).1=0#64))):=by
 refine aq Tryz.func125 rfl Tryz.ntmps125 rfl ?_
 have h1:=fun w=>yH u w
 generalize (cN u).1=a at h1 ⊢
 generalize (cN u).2=e at h1
 repeat' (first|(apply aa;exact rfl;exact rfl;(intro w hm;exact h1 w))|(apply aj;exact rfl;apply dG (b:=a);exact rfl;exact rfl)|(apply aj;exact rfl;apply CF (b:=0#64);exact rfl;exact rfl)|refine sT ?_|refine sM fun _=> ?_|(refine sC ?_ ?_<;>intro hb<;>try omega)|fail)
 all_goals first|(exfalso;omega)|((refine rT1 ?_);rfl)|trace_state
theorem jp (r:Rct) (w:World):ax Tryz.prog 124 [.agg (bK r).toArray] w (.bool (aG r)):=by
 refine aq Tryz.func124 rfl Tryz.ntmps124 rfl ?_
 have h:aG r=true↔(1≤r.c1∧r.c1≤r.c2∧r.c2≤1024∧1≤r.r1∧r.r1≤r.r2∧r.r2≤1024):=by
  simp only [aG,valid,M0,decide_eq_true_eq]
  omega
 by_cases hk:aG r=true
 ·
  have hk2:=h.1 hk
  rw [hk]
  repeat' (first|refine sT ?_|refine sM fun _=> ?_|(refine sC ?_ ?_<;>intro hb<;>try omega)|fail)
  all_goals first|(exfalso;omega)|((refine rT1 ?_);simp;omega)|((refine rT1 ?_);rfl)|trace_state
 ·
  have hk2:=fun a=>hk (h.2 a)
  rw [show aG r=false by simpa using hk]
  repeat' (first|refine sT ?_|refine sM fun _=> ?_|(refine sC ?_ ?_<;>intro hb<;>try omega)|fail)
  all_goals first|(exfalso;omega)|((refine rT1 ?_);rfl)|((refine rT1 ?_);exact congrArg Value.bool (decide_eq_false fun hz=>hk2 ⟨by omega,by omega,by omega,by omega,by omega,by omega⟩))|trace_state
theorem Gm (a b c s:BitVec 64):((a|||b|||c) &&& s=0#64)↔(a &&& s=0#64∧b &&& s=0#64∧c &&& s=0#64):=by
 have h: ∀ x:BitVec 64,(x=0#64)↔ ∀ i,x.getLsbD i=false:=fun x=>⟨fun h i=>by rw [h];simp,fun h=>Pr fun i _=>by rw [h i];simp⟩
 simp only [h,O2,BitVec.getLsbD_or,NU,OT]
 constructor
 ·
  intro hh
  refine ⟨fun i=> ?_,fun i=> ?_,fun i=> ?_⟩<;>rcases hh i with ⟨⟨h1,h2⟩,h3⟩|h1<;>simp_all
 ·
  rintro ⟨h1,h2,h3⟩ i
  rcases h1 i with a|a
  ·
   rcases h2 i with b|b
   ·
    rcases h3 i with c|c
    ·
     exact .inl ⟨⟨a,b⟩,c⟩
    ·
     exact .inr c
   ·
    exact .inr b
  ·
   exact .inr a
theorem MF (r:Rl) (a:BitVec 64):((r.read|||r.write|||r.own) &&& ~~~a≠0#64)↔(r.read &&& ~~~a≠0#64∨r.write &&& ~~~a≠0#64∨r.own &&& ~~~a≠0#64):=by
 rw [ne_eq,Gm]
 constructor
 ·
  intro h
  by_cases h1:r.read &&& ~~~a=0#64
  ·
   by_cases h2:r.write &&& ~~~a=0#64
   ·
    exact .inr (.inr fun h3=>h ⟨h1,h2,h3⟩)
   ·
    exact .inr (.inl h2)
  ·
   exact .inl h1
 ·
  rintro (h|h|h) ⟨h1,h2,h3⟩
  ·
   exact h h1
  ·
   exact h h2
  ·
   exact h h3
set_option maxHeartbeats 8000000 in
theorem mK (u:Int) (L:List Rl) (lv:Value) (w:World) (hl:Reads w lv L.length (L.flatMap bf)):ax Tryz.prog 65 [.int .i64 u,lv] w (.tuple #[.int .i64 (fP u L).1,.int .i64 (fP u L).2]):=by
 obtain ⟨Al,cl,rfl,hl1,hl2,hl3⟩:=hl
 refine aq Tryz.func65 rfl Tryz.ntmps65 rfl ?_
 unfold fP
 by_cases h1:u<0∨64<u∨u=0∨L= []
 ·
  rw [if_pos h1]
  have h1' :u<1∨64<u∨L.length=0:=by
   rcases h1 with h|h|h|h
   ·
    exact .inl (by omega)
   ·
    exact .inr (.inl h)
   ·
    exact .inl (by omega)
   ·
    exact .inr (.inr (by rw [h];rfl))
  repeat' (first|refine sT ?_|refine sM fun _=> ?_|(refine sC ?_ ?_<;>intro hb<;>try omega)|fail)
  all_goals first|(exfalso;omega)|((refine rT2 ?_);rfl)|trace_state
 rw [if_neg h1]
 have hne:0<L.length:=by
  rcases NP L.length with h|h
  ·
   exact absurd (.inr (.inr (.inr (Nw h)))) h1
  ·
   exact h
 by_cases h64:64<L.length
 ·
  rw [if_pos h64]
  repeat' (first|refine sT ?_|refine sM fun _=> ?_|(refine sC ?_ ?_<;>intro hb<;>try omega)|fail)
  all_goals first|(exfalso;omega)|((refine rT2 ?_);rfl)|trace_state
 rw [if_neg h64]
 obtain ⟨gl,ol,rfl,hrl⟩:=hl3 hne
 have hS:=fun w=>rF w
 obtain ⟨h0a,_⟩:=Rl.ro (hrl.elem dg 0 hne)
 have hhd:L.head?.map (·.rect)=some L[0].rect:=by rw [List.head?_eq_getElem?,MV hne];rfl
 rw [hhd]
 by_cases hsh:some L[0].rect≠some lp
 ·
  rw [if_pos hsh]
  have hc:decide (L[0].rect=lp)=false:=decide_eq_false fun e=>hsh (congrArg some e)
  generalize L[0].rect=r0 at h0a hc
  repeat' (first|(apply bS (id:=5) [4] [];kernel_rfl;kernel_rfl;kernel_rfl)|(apply dO;(iterate 3 exact rfl);apply ak (j:=0);exact rfl;exact rfl;omega)|(apply dO;(iterate 3 exact rfl);apply aA;exact rfl;exact h0a;exact rfl)|(apply dO;(iterate 3 exact rfl);apply l9 hc;exact rfl;exact rfl)|(apply aa (f:=105);exact rfl;exact rfl;(intro w' _;exact hS w'))|refine sT ?_|refine sS ?_|refine sW ?_|refine sO ?_|refine sM fun _=> ?_|(refine sC ?_ ?_<;>intro hb<;>try omega)|(refine sCW ?_ ?_<;>intro hb<;>try omega)|fail)
  all_goals first|(exfalso;omega)|((refine rT2 ?_);rfl)|trace_state
 rw [if_neg hsh]
 have hc:decide (L[0].rect=lp)=true:=decide_eq_true (Option.some.inj (Decidable.not_not.1 hsh))
 obtain ⟨ac,hac⟩: ∃ ac,dZ u L 0=ac:=⟨_,rfl⟩
 rw [hac]
 generalize L[0].rect=r0 at h0a hc
 repeat' (first|(apply bS (id:=5) [4] [];kernel_rfl;kernel_rfl;kernel_rfl)|(apply dO;(iterate 3 exact rfl);apply ak (j:=0);exact rfl;exact rfl;omega)|(apply dO;(iterate 3 exact rfl);apply aA;exact rfl;exact h0a;exact rfl)|(apply dO;(iterate 3 exact rfl);apply l9 hc;exact rfl;exact rfl)|(apply aa (f:=105);exact rfl;exact rfl;(intro w' _;exact hS w'))|refine sT ?_|refine sS ?_|refine sW ?_|refine sO ?_|refine sM fun _=> ?_|(refine sC ?_ ?_<;>intro hb<;>try omega)|(refine sCW ?_ ?_<;>intro hb<;>try omega)|fail)
 all_goals try (exfalso;omega)
 refine ay [0,1] rfl (fun i:Nat=> [(6,.int .i64 (i:Int))]) (fun _=> []) (fun i=>i≤L.length∧ac=dZ u (L.drop i) (i:Int)) (fun i=>L.length - i) 0 ⟨by omega,hac.symm⟩ sB mS ?_
 rintro i ⟨hi,hrec⟩
 by_cases hlt:i<L.length
 ·
  obtain ⟨hr1,_,_,_,hr2⟩:=Rl.ro (hrl.elem dg i hlt)
  rw [M3 hlt,dZ] at hrec
  simp only [MF] at hrec
  generalize L[i]=r at hr1 hr2 hrec
  have hR:=fun w=>jp r.rect w
  have hW:=fun (x:BitVec 64) w=>iN x u w
  generalize aG r.rect=ro at hR hrec
  generalize (cN u).1=sa at hW hrec
  by_cases h3:ro=false
  ·
   rw [if_pos h3] at hrec
   subst h3
   repeat' (first|(apply aj;exact rfl;apply ak (j:=i);exact rfl;exact rfl;omega)|(apply aa;exact rfl;exact rfl;(intro w hm;exact hR w))|refine sT ?_|refine sS ?_|refine sO ?_|refine sM fun _=> ?_|(refine sC ?_ ?_<;>intro hb<;>try omega)|fail)
   all_goals first|(exfalso;omega)|((refine rT2 ?_);rw [hrec];done)|trace_state
  rw [if_neg h3] at hrec
  have h3' :ro=true:=by simpa using h3
  subst h3'
  by_cases h4:r.read &&& ~~~sa≠0#64∨r.write &&& ~~~sa≠0#64∨r.own &&& ~~~sa≠0#64
  ·
   rw [if_pos h4] at hrec
   repeat' (first|(apply aj;exact rfl;apply ak (j:=i);exact rfl;exact rfl;omega)|(apply aj;exact rfl;apply aA;exact rfl;exact hr2;exact rfl)|(apply aa;exact rfl;exact rfl;(intro w hm;exact hR w))|(apply aa (f:=125);exact rfl;exact rfl;(intro w' _;exact hW _ w'))|refine sT ?_|refine sS ?_|refine sO ?_|refine sM fun _=> ?_|(refine sC ?_ ?_<;>intro hb<;>try omega)|fail)
   all_goals first
    |(exfalso;omega)
    |((refine rT2 ?_);rw [hrec];done)
    |(exfalso;rcases h4 with h|h|h<;>exact h (by assumption))
    |trace_state
  ·
   rw [if_neg h4] at hrec
   repeat' (first|(apply aj;exact rfl;apply ak (j:=i);exact rfl;exact rfl;omega)|(apply aj;exact rfl;apply aA;exact rfl;exact hr2;exact rfl)|(apply aa;exact rfl;exact rfl;(intro w hm;exact hR w))|(apply aa (f:=125);exact rfl;exact rfl;(intro w' _;exact hW _ w'))|refine sT ?_|refine sS ?_|refine sN ?_|refine sO ?_|refine sM fun _=> ?_|(refine sC ?_ ?_<;>intro hb<;>try omega)|fail)
   all_goals first
    |(exfalso;omega)
    |(exfalso;exact h4 (by first|exact .inl (by assumption)|exact .inr (.inl (by assumption))|exact .inr (.inr (by assumption))))
    |(refine ⟨i+1,⟨hlt,by rw [hrec];rfl⟩,by omega,by exact sB,by exact sB,by exact mS⟩;done)
    |trace_state
 ·
  have e:i=L.length:=by omega
  subst e
  rw [ND,dZ] at hrec
  rw [hrec]
  repeat' (first|refine sT ?_|refine sS ?_|refine sM fun _=> ?_|(refine sC ?_ ?_<;>intro hb<;>try omega)|fail)
  all_goals first|(exfalso;omega)|((refine rT2 ?_);rfl)|trace_state
theorem zO (n:Nat) (h:n≤64) (i:Nat):(xe n).getLsbD i=decide (i<n):=by
 have h1: ∀ n:Fin 65,∀ i:Fin 64,(xe n.val).getLsbD i.val=decide (i.val<n.val):=by decide+kernel
 by_cases hi:i<64
 ·
  exact h1 ⟨n,by omega⟩ ⟨i,hi⟩
 ·
  rw [BitVec.getLsbD_of_ge _ _ (by omega),decide_eq_false (by omega)]
theorem oC {u b:Int} (h: ¬ (u<0∨64<u∨u=0)):fA (cN u).1 b=(decide (0≤b) && decide (b<u)):=by
 unfold cN fA
 rw [if_neg (by omega)]
 rw [zO _ (by omega),NG]
 simp only [M0,decide_eq_true_eq]
 omega
set_option maxHeartbeats 8000000 in
theorem ud (u:Int) (L:List Gn) (lv:Value) (w:World) (hl:Reads w lv L.length (L.flatMap bg)):ax Tryz.prog 67 [.int .i64 u,lv] w (.tuple #[.int .i64 (jL u L).1,.int .i64 (jL u L).2]):=by
 obtain ⟨Al,cl,rfl,hl1,hl2,hl3⟩:=hl
 refine aq Tryz.func67 rfl Tryz.ntmps67 rfl ?_
 unfold jL
 by_cases h1:u<0∨64<u∨u=0
 ·
  rw [if_pos h1]
  repeat' (first|refine sT ?_|refine sM fun _=> ?_|(refine sC ?_ ?_<;>intro hb<;>try omega)|fail)
  all_goals first|(exfalso;omega)|((refine rT2 ?_);rfl)|trace_state
 rw [if_neg h1]
 by_cases h64:64<L.length
 ·
  rw [if_pos h64]
  repeat' (first|refine sT ?_|refine sM fun _=> ?_|(refine sC ?_ ?_<;>intro hb<;>try omega)|fail)
  all_goals first|(exfalso;omega)|((refine rT2 ?_);rfl)|trace_state
 rw [if_neg h64]
 obtain ⟨ac,hac⟩: ∃ ac,fE u L 0=ac:=⟨_,rfl⟩
 rw [hac]
 repeat' (first|refine sT ?_|refine sS ?_|refine sM fun _=> ?_|(refine sC ?_ ?_<;>intro hb<;>try omega)|fail)
 all_goals try (exfalso;omega)
 refine ay [0,1] rfl (fun i:Nat=> [(6,.int .i64 (i:Int))]) (fun _=> []) (fun i=>i≤L.length∧ac=fE u (L.drop i) (i:Int)) (fun i=>L.length - i) 0 ⟨by omega,hac.symm⟩ sB mS ?_
 rintro i ⟨hi,hrec⟩
 by_cases hlt:i<L.length
 ·
  obtain ⟨gl,ol,rfl,hrl⟩:=hl3 (by omega)
  have he1:=hrl.elem cW i hlt
  rw [M3 hlt,fE,BN,oC h1] at hrec
  generalize L[i]=r at he1 hrec
  have hR:=fun w=>jp r.rect w
  have hW:=fun w=>iN r.to u w
  generalize aG r.rect=ro at hR hrec
  generalize (cN u).1=sa at hW hrec
  obtain ⟨wi,hwi⟩: ∃ wi,decide (r.to &&& ~~~sa=0#64)=wi:=⟨_,rfl⟩
  rw [hwi] at hW hrec
  cases ro with
  |false=>
   rw [if_pos rfl] at hrec
   repeat' (first|(apply aj;exact rfl;apply ak (j:=i);exact rfl;exact rfl;omega)|(apply aa;exact rfl;exact rfl;(intro w hm;exact hR w))|refine sT ?_|refine sS ?_|refine sO ?_|refine sM fun _=> ?_|(refine sC ?_ ?_<;>intro hb<;>try omega)|fail)
   all_goals first|(exfalso;omega)|((refine rT2 ?_);rw [hrec];done)|trace_state
  |true=>
   rw [if_neg (by decide)] at hrec
   by_cases hg:1≤r.fns∧r.fns≤31∧wi=true∧0≤r.by_∧r.by_<u
   ·
    obtain ⟨g1,g2,rfl,g4,g5⟩:=hg
    rw [decide_eq_true g1,decide_eq_true g2,decide_eq_true g4,decide_eq_true g5] at hrec
    rw [if_neg (by decide)] at hrec
    repeat' (first|(apply aj;exact rfl;apply ak (j:=i);exact rfl;exact rfl;omega)|(apply aa;exact rfl;exact rfl;(intro w hm;exact hR w))|(apply aa;exact rfl;exact rfl;(intro w hm;exact hW w))|refine sT ?_|refine sS ?_|refine sN ?_|refine sO ?_|refine sM fun _=> ?_|(refine sC ?_ ?_<;>intro hb<;>try omega)|fail)
    all_goals first
     |(exfalso;omega)
     |(refine ⟨i+1,⟨hlt,by rw [hrec];rfl⟩,by omega,by exact sB,by exact sB,by exact mS⟩;done)
     |trace_state
   ·
    rw [if_pos (by rw [← Bool.not_eq_true,M0,M0,M0,M0,decide_eq_true_eq,decide_eq_true_eq,decide_eq_true_eq,decide_eq_true_eq];rintro ⟨⟨⟨a1,a2⟩,a3⟩,a4,a5⟩;exact hg ⟨a1,a2,a3,a4,a5⟩)] at hrec
    cases wi
    all_goals
     repeat' (first|(apply aj;exact rfl;apply ak (j:=i);exact rfl;exact rfl;omega)|(apply aa;exact rfl;exact rfl;(intro w hm;exact hR w))|(apply aa;exact rfl;exact rfl;(intro w hm;exact hW w))|refine sT ?_|refine sS ?_|refine sN ?_|refine sO ?_|refine sM fun _=> ?_|(refine sC ?_ ?_<;>intro hb<;>try omega)|fail)
    all_goals first
     |(exfalso;omega)
     |(exfalso;exact hg ⟨by omega,by omega,rfl,by omega,by omega⟩)
     |((refine rT2 ?_);rw [hrec];done)
     |trace_state
 ·
  have e:i=L.length:=by omega
  subst e
  rw [ND,fE] at hrec
  rw [hrec]
  repeat' (first|refine sT ?_|refine sS ?_|refine sM fun _=> ?_|(refine sC ?_ ?_<;>intro hb<;>try omega)|fail)
  all_goals first|(exfalso;omega)|((refine rT2 ?_);rfl)|trace_state
theorem Kc (x:BitVec 64) (m:Nat) (h:m<64):(x &&& 1#64<<<m=0#64)↔x.getLsbD m=false:=by
 have hb: ∀ m:Fin 64,∀ i:Fin 64,(1#64<<<m.val).getLsbD i.val=decide (i.val=m.val):=by decide+kernel
 constructor
 ·
  intro e
  have h1:(x &&& 1#64<<<m).getLsbD m=false:=by rw [e];simp
  rw [O2,hb ⟨m,h⟩ ⟨m,h⟩] at h1
  simpa using h1
 ·
  intro e
  apply Pr
  intro i hi
  rw [O2,hb ⟨m,h⟩ ⟨i,hi⟩]
  by_cases e2:i=m
  ·
   subst e2;rw [e];simp
  ·
   simp [e2]
theorem wI (u:Int) (w:World):ax Tryz.prog 211 [.int .i64 u] w (.bool (decide (0≤u) && decide (u<64))):=by
 refine aq Tryz.func211 rfl Tryz.ntmps211 rfl ?_
 repeat' (first|refine sT ?_|refine sM fun _=> ?_|(refine sC ?_ ?_<;>intro hb<;>try omega)|fail)
 all_goals first|(exfalso;omega)|((refine rT1 ?_);simp;omega)|((refine rT1 ?_);simp_all;done)|trace_state
theorem yK (x:BitVec 64) (u:Int) (w:World):ax Tryz.prog 161 [vS x,.int .i64 u] w (.bool (fA x u)):=by
 refine aq Tryz.func161 rfl Tryz.ntmps161 rfl ?_
 have hU:=fun w=>wI u w
 by_cases h:0≤u∧u<64
 ·
  obtain ⟨m,rfl⟩: ∃ m:Nat,u=(m:Int):=⟨u.toNat,by omega⟩
  have hm:m<64:=by omega
  have hB:=fun w=>uT m (by omega) w
  have hs:=Kc x m hm
  have he:fA x (m:Int)=x.getLsbD m:=by simp [fA];omega
  rw [he]
  rw [decide_eq_true h.1,decide_eq_true h.2] at hU
  cases hx:x.getLsbD m
  ·
   have hz:=hs.2 hx
   repeat' (first|(apply aa;exact rfl;exact rfl;(intro w hm;exact hU w))|(apply aa;exact rfl;exact rfl;(intro w hm;exact hB w))|(apply aj;exact rfl;apply qx (b:=1#64<<<m);exact rfl;exact rfl)|(apply aj;exact rfl;apply gU (b:=0#64);exact rfl;exact rfl)|refine sT ?_|refine sM fun _=> ?_|(refine sC ?_ ?_<;>intro hb<;>try omega)|fail)
   all_goals first|(exfalso;omega)|((refine rT1 ?_);simp [hz];done)|trace_state
  ·
   have hz: ¬ (x &&& 1#64<<<m=0#64):=fun e=>by rw [hs.1 e] at hx;cases hx
   repeat' (first|(apply aa;exact rfl;exact rfl;(intro w hm;exact hU w))|(apply aa;exact rfl;exact rfl;(intro w hm;exact hB w))|(apply aj;exact rfl;apply qx (b:=1#64<<<m);exact rfl;exact rfl)|(apply aj;exact rfl;apply gU (b:=0#64);exact rfl;exact rfl)|refine sT ?_|refine sM fun _=> ?_|(refine sC ?_ ?_<;>intro hb<;>try omega)|fail)
   all_goals first|(exfalso;omega)|((refine rT1 ?_);simp [hz];done)|trace_state
 ·
  have he:fA x u=false:=by
   unfold fA
   by_cases h1:0≤u
   ·
    have h2: ¬ u<64:=fun h2=>h ⟨h1,h2⟩
    simp [h2]
   ·
    simp [h1]
  have hf:(decide (0≤u) && decide (u<64))=false:=by
   rw [← Bool.not_eq_true,M0,decide_eq_true_eq,decide_eq_true_eq];exact h
  rw [hf] at hU
  rw [he]
  repeat' (first|(apply aa;exact rfl;exact rfl;(intro w hm;exact hU w))|refine sT ?_|refine sM fun _=> ?_|(refine sC ?_ ?_<;>intro hb<;>try omega)|fail)
  all_goals first|(exfalso;omega)|((refine rT1 ?_);rfl)|trace_state
theorem yI (x:Ox) (w:World):ax Tryz.prog 160 [.agg (bE x).toArray] w (.bool (jf x.kind)):=by
 refine aq Tryz.func160 rfl Tryz.ntmps160 rfl ?_
 repeat' (first|refine sT ?_|refine sS ?_|refine sM fun _=> ?_|(refine sC ?_ ?_<;>intro hb<;>try omega)|fail)
 all_goals first
  |(exfalso;omega)
  |((refine rT1 ?_);simp_all [jf];done)
  |trace_state
theorem wG (k:Int) (w:World):ax Tryz.prog 160 [.agg (bE (oQ k)).toArray] w (.bool (jf k)):=yI (oQ k) w
theorem wH (a:Rf) (w:World):ax Tryz.prog 74 [.agg (db a).toArray] w (.bool a.valid):=by
 refine aq Tryz.func74 rfl Tryz.ntmps74 rfl ?_
 have h:a.valid=true↔(1≤a.col∧a.col≤1024∧1≤a.row∧a.row≤1024):=by
  show valid a.col a.row=true↔_
  rw [uB]
 by_cases hk:a.valid=true
 ·
  have hk2:=h.1 hk
  rw [hk]
  repeat' (first|refine sT ?_|refine sM fun _=> ?_|(refine sC ?_ ?_<;>intro hb<;>try omega)|fail)
  all_goals first|(exfalso;omega)|((refine rT1 ?_);simp;omega)|((refine rT1 ?_);rfl)|trace_state
 ·
  have hk2:=fun x=>hk (h.2 x)
  rw [show a.valid=false by simpa using hk]
  repeat' (first|refine sT ?_|refine sM fun _=> ?_|(refine sC ?_ ?_<;>intro hb<;>try omega)|fail)
  all_goals first|(exfalso;omega)|((refine rT1 ?_);rfl)|((refine rT1 ?_);exact congrArg Value.bool (decide_eq_false fun hz=>hk2 ⟨by omega,by omega,by omega,by omega⟩))|trace_state
theorem yJ (fn:Int) (w:World):ax Tryz.prog 162 [.int .u8 fn] w (.bool (decide (46≤fn) && decide (fn≤50))):=by
 refine aq Tryz.func162 rfl Tryz.ntmps162 rfl ?_
 repeat' (first|refine sT ?_|refine sM fun _=> ?_|(refine sC ?_ ?_<;>intro hb<;>try omega)|fail)
 all_goals first|(exfalso;omega)|((refine rT1 ?_);simp;omega)|((refine rT1 ?_);simp_all;done)|trace_state
def jN (all:BitVec 64) (last:Int) (x:Ev):Int:=
 if x.step≤last then 12 else if (jf x.kind && fA all x.user)=false then 2 else if aG x.rect=false then 3 else if (decide (x.to &&& ~~~all=0#64) && fA x.to x.user)=false then 2 else 0
theorem gQ (all:BitVec 64) (last:Int) (x:Ev) (l:List Ev):dM all last (x::l)=if jN all last x≠0 then jN all last x else dM all x.step l:=by
 rw [dM,jN]
 split
 ·
  rfl
 split
 ·
  rfl
 split
 ·
  rfl
 split<;>rfl
def mZ (all:BitVec 64) (last:Int) (x:Rv):Int:=
 if x.step<last then 12 else if (x.call.at_.valid && aG x.rect)=false then 3 else if FZ all x=false then 2 else 0
theorem m7 (all:BitVec 64) (last:Int) (x:Rv) (l:List Rv):eY all last (x::l)=if mZ all last x≠0 then mZ all last x else eY all x.step l:=by
 rw [eY,mZ]
 split
 ·
  rfl
 split
 ·
  rfl
 split<;>rfl
set_option maxHeartbeats 4000000 in
theorem BT (u:Int) (hu: ¬ (u<0∨64<u∨u=0)) (last:Int) (x:Ev) (w:World):ax Tryz.prog 127 [.int .i64 u,.int .i64 last,.agg (aO x).toArray] w (.int .i64 (jN (cN u).1 last x)):=by
 refine aq Tryz.func127 rfl Tryz.ntmps127 rfl ?_
 have hM:=fun w=>wG x.kind w
 have hR:=fun w=>jp x.rect w
 have hW:=fun w=>iN x.to u w
 have hH:=fun w=>yK x.to x.user w
 unfold jN
 rw [oC hu]
 generalize jf x.kind=mk at hM ⊢
 generalize aG x.rect=ro at hR ⊢
 generalize fA x.to x.user=hs at hH ⊢
 generalize (cN u).1=sa at hW ⊢
 generalize decide (x.to &&& ~~~sa=0#64)=wi at hW ⊢
 repeat' (first|(apply aa;exact rfl;exact rfl;(intro w hm;exact hM w))|(apply aa;exact rfl;exact rfl;(intro w hm;exact hR w))|(apply aa;exact rfl;exact rfl;(intro w hm;exact hW w))|(apply aa;exact rfl;exact rfl;(intro w hm;exact hH w))|refine sT ?_|refine sS ?_|refine sM fun _=> ?_|(refine sC ?_ ?_<;>intro hb<;>try omega)|fail)
 all_goals first
  |(exfalso;omega)
  |((refine rT1 ?_);simp_all;done)
  |((refine rT1 ?_);simp_all;omega)
  |trace_state
set_option maxHeartbeats 4000000 in
theorem wB (u:Int) (last:Int) (x:Rv) (w:World):ax Tryz.prog 128 [.int .i64 u,.int .i64 last,.agg (ck x).toArray] w (.int .i64 (mZ (cN u).1 last x)):=by
 refine aq Tryz.func128 rfl Tryz.ntmps128 rfl ?_
 have hA:=fun w=>wH x.call.at_ w
 have hR:=fun w=>jp x.rect w
 have hL:=fun w=>yJ x.fn w
 have hW:=fun w=>iN x.to u w
 unfold mZ FZ
 generalize x.call.at_.valid=va at hA ⊢
 generalize aG x.rect=ro at hR ⊢
 generalize (cN u).1=sa at hW ⊢
 generalize decide (x.to &&& ~~~sa=0#64)=wi at hW ⊢
 repeat' (first|(apply aa;exact rfl;exact rfl;(intro w hm;exact hA w))|(apply aa;exact rfl;exact rfl;(intro w hm;exact hR w))|(apply aa;exact rfl;exact rfl;(intro w hm;exact hL w))|(apply aa;exact rfl;exact rfl;(intro w hm;exact hW w))|refine sT ?_|refine sS ?_|refine sM fun _=> ?_|(refine sC ?_ ?_<;>intro hb<;>try omega)|fail)
 all_goals first
  |(exfalso;omega)
  |((refine rT1 ?_);simp_all;done)
  |((refine rT1 ?_);simp_all;omega)
  |trace_state
set_option maxHeartbeats 8000000 in
theorem ub (u:Int) (L:List Ev) (M:List Rv) (lv mv:Value) (w:World) (hl:Reads w lv L.length (L.flatMap aO)) (hm:Reads w mv M.length (M.flatMap ck)):ax Tryz.prog 68 [.int .i64 u,lv,mv] w (.int .i64 (pE u L M)):=by
 obtain ⟨Al,cl,rfl,hl1,hl2,hl3⟩:=hl
 obtain ⟨Am,cm,rfl,hm1,hm2,hm3⟩:=hm
 refine aq Tryz.func68 rfl Tryz.ntmps68 rfl ?_
 unfold pE
 by_cases h1:u<0∨64<u∨u=0
 ·
  rw [if_pos h1]
  repeat' (first|refine sT ?_|refine sM fun _=> ?_|(refine sC ?_ ?_<;>intro hb<;>try omega)|fail)
  all_goals first|(exfalso;omega)|((refine rT1 ?_);rfl)|trace_state
 rw [if_neg h1]
 have hE:=fun last (x:Ev) w=>BT u h1 last x w
 have hR:=fun last (x:Rv) w=>wB u last x w
 generalize (cN u).1=sa at hE hR ⊢
 obtain ⟨ef,hef⟩: ∃ ef,dM sa (-1) L=ef:=⟨_,rfl⟩
 rw [hef]
 repeat' (first|refine sT ?_|refine sS ?_|refine sM fun _=> ?_|(refine sC ?_ ?_<;>intro hb<;>try omega)|fail)
 all_goals try (exfalso;omega)
 refine ay [0,1,2] rfl (fun i:Nat=> [(7,.int .i64 (jI L i)),(8,.int .i64 (i:Int))]) (fun _=> []) (fun i=>i≤L.length∧ef=dM sa (jI L i) (L.drop i)) (fun i=>L.length - i) 0 ⟨Nl _,hef.symm⟩ sB mS ?_
 rintro i ⟨hi,hrec⟩
 by_cases hlt:i<L.length
 ·
  obtain ⟨gl,ol,rfl,hrl⟩:=hl3 (by omega)
  have he1:=hrl.elem eP i hlt
  have hnext:jI L (i+1)=L[i].step:=by unfold jI;rw [if_neg (by omega),Ot,MV hlt];rfl
  rw [M3 hlt,gQ] at hrec
  generalize jI L i=last at hrec
  generalize L[i]=r at hnext he1 hrec
  have hE1:=fun w=>hE last r w
  have hs:=(Ev.ro he1).1
  generalize jN sa last r=e1 at hE1 hrec
  repeat' (first|(apply aj;exact rfl;apply ak (j:=i);exact rfl;exact rfl;omega)|(apply aj;exact rfl;apply aA;exact rfl;exact he1;exact rfl)|(apply aa;exact rfl;exact rfl;(intro w hm;exact hE1 w))|refine sT ?_|refine sS ?_|refine sN ?_|refine sO ?_|refine sM fun _=> ?_|(refine sC ?_ ?_<;>intro hb<;>try omega)|fail)
  all_goals first
   |(exfalso;omega)
   |(rw [if_pos hb] at hrec;(refine rT1 ?_);rw [hrec,if_pos hb];done)
   |(rw [if_neg (by omega)] at hrec;refine ⟨i+1,⟨hlt,?_⟩,by omega,by (try simp only [hnext]);exact sB,by (try simp only [hnext]);exact sB,by exact mS⟩;rw [hnext];exact hrec)
   |trace_state
 ·
  have e:i=L.length:=by omega
  subst e
  rw [ND,dM] at hrec
  subst hrec
  rw [if_neg (by decide)]
  obtain ⟨rf,hrf⟩: ∃ rf,eY sa (-1) M=rf:=⟨_,rfl⟩
  rw [hrf]
  repeat' (first|refine sT ?_|refine sS ?_|refine sM fun _=> ?_|(refine sC ?_ ?_<;>intro hb<;>try omega)|fail)
  refine ay [0,2] rfl (fun i:Nat=> [(7,.int .i64 (jH M i)),(10,.int .i64 (i:Int))]) (fun _=> []) (fun i=>i≤M.length∧rf=eY sa (jH M i) (M.drop i)) (fun i=>M.length - i) 0 ⟨Nl _,hrf.symm⟩ sB mS ?_
  rintro i ⟨hi,hrec⟩
  by_cases hlt:i<M.length
  ·
   obtain ⟨gm,om,rfl,hrm⟩:=hm3 (by omega)
   have he1:=hrm.elem gR i hlt
   have hnext:jH M (i+1)=M[i].step:=by unfold jH;rw [if_neg (by omega),Ot,MV hlt];rfl
   rw [M3 hlt,m7] at hrec
   generalize jH M i=last at hrec
   generalize M[i]=r at hnext he1 hrec
   have hE1:=fun w=>hR last r w
   have hs:=Rv.ro1 he1
   generalize mZ sa last r=e1 at hE1 hrec
   repeat' (first|(apply aj;exact rfl;apply ak (j:=i);exact rfl;exact rfl;omega)|(apply aj;exact rfl;apply aA;exact rfl;exact he1;exact rfl)|(apply aa;exact rfl;exact rfl;(intro w hm;exact hE1 w))|refine sT ?_|refine sS ?_|refine sN ?_|refine sO ?_|refine sM fun _=> ?_|(refine sC ?_ ?_<;>intro hb<;>try omega)|fail)
   all_goals first
    |(exfalso;omega)
    |(rw [if_pos hb] at hrec;(refine rT1 ?_);rw [hrec];done)
    |(rw [if_neg (by omega)] at hrec;refine ⟨i+1,⟨hlt,?_⟩,by omega,by (try simp only [hnext]);exact sB,by (try simp only [hnext]);exact sB,by exact mS⟩;rw [hnext];exact hrec)
    |trace_state
  ·
   have e:i=M.length:=by omega
   subst e
   rw [ND,eY] at hrec
   subst hrec
   repeat' (first|refine sT ?_|refine sS ?_|refine sM fun _=> ?_|(refine sC ?_ ?_<;>intro hb<;>try omega)|fail)
   all_goals first|(exfalso;omega)|((refine rT1 ?_);rfl)|trace_state
end Go.SL

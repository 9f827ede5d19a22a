/-
  Lemmas and walks, put together: Ja Nb Oa.
-/
import Derived.Test.YtoanpdoacdpgeaaGreatDoorKn36
import Derived.Test.YtoanpdoacdpgeaaGreatDoorKn38
set_option linter.unusedSimpArgs false
set_option linter.unusedVariables false
set_option maxRecDepth 20000
namespace Go.SL
open Go Go.Proofs
attribute [local irreducible] W WL WQ WG WA WX WLI WR WT WC WE VOp RW thn blk bE scp ba bo bL aP FnIn FnP ceP
theorem FL (n:Nat) (h:n<64):xT (n+1)=xT n|||1#64<<<n:=by
 have h1: ∀ n:Fin 64,xT (n.val+1)=xT n.val|||1#64<<<n.val:=by decide+kernel
 exact h1 ⟨n,h⟩
theorem pW (m:Nat) (h:m≤64) (w:World):ay Tryz.prog 112 [.int .i64 (m:Int)] w (vS (1#64<<<m)):=by
 refine aq Tryz.func112 rfl Tryz.ntmps112 rfl ?_
 repeat' (first|(apply ak;exact rfl;apply bP (c:=(m:Int));exact rfl;(simp only [IntKind.wrap_u64];omega))|(apply ak;exact rfl;apply wT (a:=1#64) (m:=m);exact rfl;exact rfl;omega)|refine sT ?_|refine sM fun _=> ?_|(refine sC ?_ ?_<;>intro hb<;>try omega)|fail)
 all_goals first|(exfalso;omega)|((refine rT1 ?_);rfl)|trace_state
theorem qu (u:Int) (w:World):ay Tryz.prog 132 [.int .i64 u] w (.tuple #[vS (df u).1,.int .i64 (df u).2]):=by
 refine aq Tryz.func132 rfl Tryz.ntmps132 rfl ?_
 by_cases h:u<0∨64<u
 ·
  rw [df,if_pos h]
  repeat' (first|refine sT ?_|refine sM fun _=> ?_|(refine sC ?_ ?_<;>intro hb<;>try omega)|fail)
  all_goals first|(exfalso;omega)|((refine rT2 ?_);rfl)|trace_state
 ·
  rw [df,if_neg h]
  obtain ⟨m,rfl⟩: ∃ m:Nat,u=(m:Int):=⟨u.toNat,by omega⟩
  rw [Ov]
  repeat' (first|refine sT ?_|refine sS ?_|refine sM fun _=> ?_|(refine sC ?_ ?_<;>intro hb<;>try omega)|fail)
  all_goals try (exfalso;omega)
  refine ax [0] rfl (fun i:Nat=> [(4,vS (xT i)),(5,.int .i64 (i:Int))]) (fun _=> []) (fun i=>i≤m) (fun i=>m - i) 0 (by omega) sB mS ?_
  rintro i hi
  by_cases hlt:i<m
  ·
   have hB:=fun w=>pW i (by omega) w
   have hs:=FL i (by omega)
   repeat' (first|(apply aa;exact rfl;exact rfl;(intro w hm;exact hB w))|(apply ak;exact rfl;apply dg (a:=xT i);exact rfl;exact rfl)|refine sT ?_|refine sS ?_|refine sN ?_|refine sM fun _=> ?_|(refine sC ?_ ?_<;>intro hb<;>try omega)|fail)
   all_goals first
    |(exfalso;omega)
    |(rw [← hs];refine ⟨i+1,hlt,by omega,by exact sB,by exact sB,by exact mS⟩;done)
    |trace_state
  ·
   have e:i=m:=by omega
   subst e
   repeat' (first|refine sT ?_|refine sS ?_|refine sM fun _=> ?_|(refine sC ?_ ?_<;>intro hb<;>try omega)|fail)
   all_goals first|(exfalso;omega)|((refine rT2 ?_);rfl)|trace_state
theorem gy (x:BitVec 64) (u:Int) (w:World):ay Tryz.prog 86 [vS x,.int .i64 u] w (.bool (decide (x &&& ~~~(df u).1=0#64))):=by
 refine aq Tryz.func86 rfl Tryz.ntmps86 rfl ?_
 have h1:=fun w=>qu u w
 generalize (df u).1=a at h1 ⊢
 generalize (df u).2=e at h1
 repeat' (first|(apply aa;exact rfl;exact rfl;(intro w hm;exact h1 w))|(apply ak;exact rfl;apply dR (b:=a);exact rfl;exact rfl)|(apply ak;exact rfl;apply Dr (b:=0#64);exact rfl;exact rfl)|refine sT ?_|refine sM fun _=> ?_|(refine sC ?_ ?_<;>intro hb<;>try omega)|fail)
 all_goals first|(exfalso;omega)|((refine rT1 ?_);rfl)|trace_state
theorem dP (r:Rct) (w:World):ay Tryz.prog 85 [.agg (bH r).toArray] w (.bool (aI r)):=by
 refine aq Tryz.func85 rfl Tryz.ntmps85 rfl ?_
 have h:aI r=true↔(1≤r.c1∧r.c1≤r.c2∧r.c2≤1024∧1≤r.r1∧r.r1≤r.r2∧r.r2≤1024):=by
  simp only [aI,valid,Nm,decide_eq_true_eq]
  omega
 by_cases hk:aI r=true
 ·
  have hk2:=h.1 hk
  rw [hk]
  repeat' (first|refine sT ?_|refine sM fun _=> ?_|(refine sC ?_ ?_<;>intro hb<;>try omega)|fail)
  all_goals first|(exfalso;omega)|((refine rT1 ?_);simp;omega)|((refine rT1 ?_);rfl)|trace_state
 ·
  have hk2:=fun a=>hk (h.2 a)
  rw [show aI r=false by simpa using hk]
  repeat' (first|refine sT ?_|refine sM fun _=> ?_|(refine sC ?_ ?_<;>intro hb<;>try omega)|fail)
  all_goals first|(exfalso;omega)|((refine rT1 ?_);rfl)|((refine rT1 ?_);exact congrArg Value.bool (decide_eq_false fun hz=>hk2 ⟨by omega,by omega,by omega,by omega,by omega,by omega⟩))|trace_state
theorem Hr (a b c s:BitVec 64):((a|||b|||c) &&& s=0#64)↔(a &&& s=0#64∧b &&& s=0#64∧c &&& s=0#64):=by
 have h: ∀ x:BitVec 64,(x=0#64)↔ ∀ i,x.getLsbD i=false:=fun x=>⟨fun h i=>by rw [h];simp,fun h=>PH fun i _=>by rw [h i];simp⟩
 simp only [h,PG,BitVec.getLsbD_or,Oj,Pf]
 constructor
 ·
  intro hh
  refine ⟨fun i=> ?_,fun i=> ?_,fun i=> ?_⟩<;>rcases hh i with ⟨⟨h1,h2⟩,h3⟩|h1<;>simp_all
 ·
  rintro ⟨h1,h2,h3⟩ i
  rcases h1 i with a|a
  ·
   rcases h2 i with b|b
   ·
    rcases h3 i with c|c
    ·
     exact .inl ⟨⟨a,b⟩,c⟩
    ·
     exact .inr c
   ·
    exact .inr b
  ·
   exact .inr a
theorem MR (r:Rl) (a:BitVec 64):((r.read|||r.write|||r.own) &&& ~~~a≠0#64)↔(r.read &&& ~~~a≠0#64∨r.write &&& ~~~a≠0#64∨r.own &&& ~~~a≠0#64):=by
 rw [ne_eq,Hr]
 constructor
 ·
  intro h
  by_cases h1:r.read &&& ~~~a=0#64
  ·
   by_cases h2:r.write &&& ~~~a=0#64
   ·
    exact .inr (.inr fun h3=>h ⟨h1,h2,h3⟩)
   ·
    exact .inr (.inl h2)
  ·
   exact .inl h1
 ·
  rintro (h|h|h) ⟨h1,h2,h3⟩
  ·
   exact h h1
  ·
   exact h h2
  ·
   exact h h3
set_option maxHeartbeats 8000000 in
theorem ij (u:Int) (L:List Rl) (lv:Value) (w:World) (hl:Reads w lv L.length (L.flatMap aV)):ay Tryz.prog 34 [.int .i64 u,lv] w (.tuple #[.int .i64 (iF u L).1,.int .i64 (iF u L).2]):=by
 obtain ⟨Al,cl,rfl,hl1,hl2,hl3⟩:=hl
 refine aq Tryz.func34 rfl Tryz.ntmps34 rfl ?_
 unfold iF
 by_cases h1:u<0∨64<u∨u=0∨L= []
 ·
  rw [if_pos h1]
  have h1' :u<1∨64<u∨L.length=0:=by
   rcases h1 with h|h|h|h
   ·
    exact .inl (by omega)
   ·
    exact .inr (.inl h)
   ·
    exact .inl (by omega)
   ·
    exact .inr (.inr (by rw [h];rfl))
  repeat' (first|refine sT ?_|refine sM fun _=> ?_|(refine sC ?_ ?_<;>intro hb<;>try omega)|fail)
  all_goals first|(exfalso;omega)|((refine rT2 ?_);rfl)|trace_state
 rw [if_neg h1]
 have hne:0<L.length:=by
  rcases N9 L.length with h|h
  ·
   exact absurd (.inr (.inr (.inr (NK h)))) h1
  ·
   exact h
 by_cases h64:64<L.length
 ·
  rw [if_pos h64]
  repeat' (first|refine sT ?_|refine sM fun _=> ?_|(refine sC ?_ ?_<;>intro hb<;>try omega)|fail)
  all_goals first|(exfalso;omega)|((refine rT2 ?_);rfl)|trace_state
 rw [if_neg h64]
 obtain ⟨gl,ol,rfl,hrl⟩:=hl3 hne
 have hS:=fun w=>su w
 obtain ⟨h0a,_⟩:=Rl.ro (hrl.elem cI 0 hne)
 have hhd:L.head?.map (·.rect)=some L[0].rect:=by rw [List.head?_eq_getElem?,Nc hne];rfl
 rw [hhd]
 by_cases hsh:some L[0].rect≠some lH
 ·
  rw [if_pos hsh]
  have hc:decide (L[0].rect=lH)=false:=decide_eq_false fun e=>hsh (congrArg some e)
  generalize L[0].rect=r0 at h0a hc
  repeat' (first|(apply bp (id:=5) [4] [];kernel_rfl;kernel_rfl;kernel_rfl)|(apply bZ;(iterate 3 exact rfl);apply aj (j:=0);exact rfl;exact rfl;omega)|(apply bZ;(iterate 3 exact rfl);apply aA;exact rfl;exact h0a;exact rfl)|(apply bZ;(iterate 3 exact rfl);apply mA hc;exact rfl;exact rfl)|(apply aa (f:=84);exact rfl;exact rfl;(intro w' _;exact hS w'))|refine sT ?_|refine sS ?_|refine sW ?_|refine sO ?_|refine sM fun _=> ?_|(refine sC ?_ ?_<;>intro hb<;>try omega)|(refine sCW ?_ ?_<;>intro hb<;>try omega)|fail)
  all_goals first|(exfalso;omega)|((refine rT2 ?_);rfl)|trace_state
 rw [if_neg hsh]
 have hc:decide (L[0].rect=lH)=true:=decide_eq_true (Option.some.inj (Decidable.not_not.1 hsh))
 obtain ⟨ac,hac⟩: ∃ ac,fS u L 0=ac:=⟨_,rfl⟩
 rw [hac]
 generalize L[0].rect=r0 at h0a hc
 repeat' (first|(apply bp (id:=5) [4] [];kernel_rfl;kernel_rfl;kernel_rfl)|(apply bZ;(iterate 3 exact rfl);apply aj (j:=0);exact rfl;exact rfl;omega)|(apply bZ;(iterate 3 exact rfl);apply aA;exact rfl;exact h0a;exact rfl)|(apply bZ;(iterate 3 exact rfl);apply mA hc;exact rfl;exact rfl)|(apply aa (f:=84);exact rfl;exact rfl;(intro w' _;exact hS w'))|refine sT ?_|refine sS ?_|refine sW ?_|refine sO ?_|refine sM fun _=> ?_|(refine sC ?_ ?_<;>intro hb<;>try omega)|(refine sCW ?_ ?_<;>intro hb<;>try omega)|fail)
 all_goals try (exfalso;omega)
 refine ax [0,1] rfl (fun i:Nat=> [(6,.int .i64 (i:Int))]) (fun _=> []) (fun i=>i≤L.length∧ac=fS u (L.drop i) (i:Int)) (fun i=>L.length - i) 0 ⟨by omega,hac.symm⟩ sB mS ?_
 rintro i ⟨hi,hrec⟩
 by_cases hlt:i<L.length
 ·
  obtain ⟨hr1,_,_,_,hr2⟩:=Rl.ro (hrl.elem cI i hlt)
  rw [Nn hlt,fS] at hrec
  simp only [MR] at hrec
  generalize L[i]=r at hr1 hr2 hrec
  have hR:=fun w=>dP r.rect w
  have hW:=fun (x:BitVec 64) w=>gy x u w
  generalize aI r.rect=ro at hR hrec
  generalize (df u).1=sa at hW hrec
  by_cases h3:ro=false
  ·
   rw [if_pos h3] at hrec
   subst h3
   repeat' (first|(apply ak;exact rfl;apply aj (j:=i);exact rfl;exact rfl;omega)|(apply aa;exact rfl;exact rfl;(intro w hm;exact hR w))|refine sT ?_|refine sS ?_|refine sO ?_|refine sM fun _=> ?_|(refine sC ?_ ?_<;>intro hb<;>try omega)|fail)
   all_goals first|(exfalso;omega)|((refine rT2 ?_);rw [hrec];done)|trace_state
  rw [if_neg h3] at hrec
  have h3' :ro=true:=by simpa using h3
  subst h3'
  by_cases h4:r.read &&& ~~~sa≠0#64∨r.write &&& ~~~sa≠0#64∨r.own &&& ~~~sa≠0#64
  ·
   rw [if_pos h4] at hrec
   repeat' (first|(apply ak;exact rfl;apply aj (j:=i);exact rfl;exact rfl;omega)|(apply ak;exact rfl;apply aA;exact rfl;exact hr2;exact rfl)|(apply aa;exact rfl;exact rfl;(intro w hm;exact hR w))|(apply aa (f:=86);exact rfl;exact rfl;(intro w' _;exact hW _ w'))|refine sT ?_|refine sS ?_|refine sO ?_|refine sM fun _=> ?_|(refine sC ?_ ?_<;>intro hb<;>try omega)|fail)
   all_goals first
    |(exfalso;omega)
    |((refine rT2 ?_);rw [hrec];done)
    |(exfalso;rcases h4 with h|h|h<;>exact h (by assumption))
    |trace_state
  ·
   rw [if_neg h4] at hrec
   repeat' (first|(apply ak;exact rfl;apply aj (j:=i);exact rfl;exact rfl;omega)|(apply ak;exact rfl;apply aA;exact rfl;exact hr2;exact rfl)|(apply aa;exact rfl;exact rfl;(intro w hm;exact hR w))|(apply aa (f:=86);exact rfl;exact rfl;(intro w' _;exact hW _ w'))|refine sT ?_|refine sS ?_|refine sN ?_|refine sO ?_|refine sM fun _=> ?_|(refine sC ?_ ?_<;>intro hb<;>try omega)|fail)
   all_goals first
    |(exfalso;omega)
    |(exfalso;exact h4 (by first|exact .inl (by assumption)|exact .inr (.inl (by assumption))|exact .inr (.inr (by assumption))))
    |(refine ⟨i+1,⟨hlt,by rw [hrec];rfl⟩,by omega,by exact sB,by exact sB,by exact mS⟩;done)
    |trace_state
 ·
  have e:i=L.length:=by omega
  subst e
  rw [NF,fS] at hrec
  rw [hrec]
  repeat' (first|refine sT ?_|refine sS ?_|refine sM fun _=> ?_|(refine sC ?_ ?_<;>intro hb<;>try omega)|fail)
  all_goals first|(exfalso;omega)|((refine rT2 ?_);rfl)|trace_state
theorem I3 (n:Nat) (h:n≤64) (i:Nat):(xT n).getLsbD i=decide (i<n):=by
 have h1: ∀ n:Fin 65,∀ i:Fin 64,(xT n.val).getLsbD i.val=decide (i.val<n.val):=by decide+kernel
 by_cases hi:i<64
 ·
  exact h1 ⟨n,by omega⟩ ⟨i,hi⟩
 ·
  rw [BitVec.getLsbD_of_ge _ _ (by omega),decide_eq_false (by omega)]
theorem zP {u b:Int} (h: ¬ (u<0∨64<u∨u=0)):fE (df u).1 b=(decide (0≤b) && decide (b<u)):=by
 unfold df fE
 rw [if_neg (by omega)]
 rw [I3 _ (by omega),NL]
 simp only [Nm,decide_eq_true_eq]
 omega
set_option maxHeartbeats 8000000 in
theorem mX (u:Int) (L:List Gn) (lv:Value) (w:World) (hl:Reads w lv L.length (L.flatMap aW)):ay Tryz.prog 64 [.int .i64 u,lv] w (.tuple #[.int .i64 (kB u L).1,.int .i64 (kB u L).2]):=by
 obtain ⟨Al,cl,rfl,hl1,hl2,hl3⟩:=hl
 refine aq Tryz.func64 rfl Tryz.ntmps64 rfl ?_
 unfold kB
 by_cases h1:u<0∨64<u∨u=0
 ·
  rw [if_pos h1]
  repeat' (first|refine sT ?_|refine sM fun _=> ?_|(refine sC ?_ ?_<;>intro hb<;>try omega)|fail)
  all_goals first|(exfalso;omega)|((refine rT2 ?_);rfl)|trace_state
 rw [if_neg h1]
 by_cases h64:64<L.length
 ·
  rw [if_pos h64]
  repeat' (first|refine sT ?_|refine sM fun _=> ?_|(refine sC ?_ ?_<;>intro hb<;>try omega)|fail)
  all_goals first|(exfalso;omega)|((refine rT2 ?_);rfl)|trace_state
 rw [if_neg h64]
 obtain ⟨ac,hac⟩: ∃ ac,fQ u L 0=ac:=⟨_,rfl⟩
 rw [hac]
 repeat' (first|refine sT ?_|refine sS ?_|refine sM fun _=> ?_|(refine sC ?_ ?_<;>intro hb<;>try omega)|fail)
 all_goals try (exfalso;omega)
 refine ax [0,1] rfl (fun i:Nat=> [(6,.int .i64 (i:Int))]) (fun _=> []) (fun i=>i≤L.length∧ac=fQ u (L.drop i) (i:Int)) (fun i=>L.length - i) 0 ⟨by omega,hac.symm⟩ sB mS ?_
 rintro i ⟨hi,hrec⟩
 by_cases hlt:i<L.length
 ·
  obtain ⟨gl,ol,rfl,hrl⟩:=hl3 (by omega)
  have he1:=hrl.elem bW i hlt
  rw [Nn hlt,fQ,H4,zP h1] at hrec
  generalize L[i]=r at he1 hrec
  have hR:=fun w=>dP r.rect w
  have hW:=fun w=>gy r.to u w
  generalize aI r.rect=ro at hR hrec
  generalize (df u).1=sa at hW hrec
  obtain ⟨wi,hwi⟩: ∃ wi,decide (r.to &&& ~~~sa=0#64)=wi:=⟨_,rfl⟩
  rw [hwi] at hW hrec
  cases ro with
  |false=>
   rw [if_pos rfl] at hrec
   repeat' (first|(apply ak;exact rfl;apply aj (j:=i);exact rfl;exact rfl;omega)|(apply aa;exact rfl;exact rfl;(intro w hm;exact hR w))|refine sT ?_|refine sS ?_|refine sO ?_|refine sM fun _=> ?_|(refine sC ?_ ?_<;>intro hb<;>try omega)|fail)
   all_goals first|(exfalso;omega)|((refine rT2 ?_);rw [hrec];done)|trace_state
  |true=>
   rw [if_neg (by decide)] at hrec
   by_cases hg:1≤r.fns∧r.fns≤31∧wi=true∧0≤r.by_∧r.by_<u
   ·
    obtain ⟨g1,g2,rfl,g4,g5⟩:=hg
    rw [decide_eq_true g1,decide_eq_true g2,decide_eq_true g4,decide_eq_true g5] at hrec
    rw [if_neg (by decide)] at hrec
    repeat' (first|(apply ak;exact rfl;apply aj (j:=i);exact rfl;exact rfl;omega)|(apply aa;exact rfl;exact rfl;(intro w hm;exact hR w))|(apply aa;exact rfl;exact rfl;(intro w hm;exact hW w))|refine sT ?_|refine sS ?_|refine sN ?_|refine sO ?_|refine sM fun _=> ?_|(refine sC ?_ ?_<;>intro hb<;>try omega)|fail)
    all_goals first
     |(exfalso;omega)
     |(refine ⟨i+1,⟨hlt,by rw [hrec];rfl⟩,by omega,by exact sB,by exact sB,by exact mS⟩;done)
     |trace_state
   ·
    rw [if_pos (by rw [← P5,Nm,Nm,Nm,Nm,decide_eq_true_eq,decide_eq_true_eq,decide_eq_true_eq,decide_eq_true_eq];rintro ⟨⟨⟨a1,a2⟩,a3⟩,a4,a5⟩;exact hg ⟨a1,a2,a3,a4,a5⟩)] at hrec
    cases wi
    all_goals
     repeat' (first|(apply ak;exact rfl;apply aj (j:=i);exact rfl;exact rfl;omega)|(apply aa;exact rfl;exact rfl;(intro w hm;exact hR w))|(apply aa;exact rfl;exact rfl;(intro w hm;exact hW w))|refine sT ?_|refine sS ?_|refine sN ?_|refine sO ?_|refine sM fun _=> ?_|(refine sC ?_ ?_<;>intro hb<;>try omega)|fail)
    all_goals first
     |(exfalso;omega)
     |(exfalso;exact hg ⟨by omega,by omega,rfl,by omega,by omega⟩)
     |((refine rT2 ?_);rw [hrec];done)
     |trace_state
 ·
  have e:i=L.length:=by omega
  subst e
  rw [NF,fQ] at hrec
  rw [hrec]
  repeat' (first|refine sT ?_|refine sS ?_|refine sM fun _=> ?_|(refine sC ?_ ?_<;>intro hb<;>try omega)|fail)
  all_goals first|(exfalso;omega)|((refine rT2 ?_);rfl)|trace_state
theorem Kz (x:BitVec 64) (m:Nat) (h:m<64):(x &&& 1#64<<<m=0#64)↔x.getLsbD m=false:=by
 have hb: ∀ m:Fin 64,∀ i:Fin 64,(1#64<<<m.val).getLsbD i.val=decide (i.val=m.val):=by decide+kernel
 constructor
 ·
  intro e
  have h1:(x &&& 1#64<<<m).getLsbD m=false:=by rw [e];simp
  rw [PG,hb ⟨m,h⟩ ⟨m,h⟩] at h1
  simpa using h1
 ·
  intro e
  apply PH
  intro i hi
  rw [PG,hb ⟨m,h⟩ ⟨i,hi⟩]
  by_cases e2:i=m
  ·
   subst e2;rw [e];simp
  ·
   simp [e2]
theorem oP (u:Int) (w:World):ay Tryz.prog 110 [.int .i64 u] w (.bool (decide (0≤u) && decide (u<64))):=by
 refine aq Tryz.func110 rfl Tryz.ntmps110 rfl ?_
 repeat' (first|refine sT ?_|refine sM fun _=> ?_|(refine sC ?_ ?_<;>intro hb<;>try omega)|fail)
 all_goals first|(exfalso;omega)|((refine rT1 ?_);simp;omega)|((refine rT1 ?_);simp_all;done)|trace_state
theorem qx (x:BitVec 64) (u:Int) (w:World):ay Tryz.prog 145 [vS x,.int .i64 u] w (.bool (fE x u)):=by
 refine aq Tryz.func145 rfl Tryz.ntmps145 rfl ?_
 have hU:=fun w=>oP u w
 by_cases h:0≤u∧u<64
 ·
  obtain ⟨m,rfl⟩: ∃ m:Nat,u=(m:Int):=⟨u.toNat,by omega⟩
  have hm:m<64:=by omega
  have hB:=fun w=>pW m (by omega) w
  have hs:=Kz x m hm
  have he:fE x (m:Int)=x.getLsbD m:=by simp [fE];omega
  rw [he]
  rw [decide_eq_true h.1,decide_eq_true h.2] at hU
  cases hx:x.getLsbD m
  ·
   have hz:=hs.2 hx
   repeat' (first|(apply aa;exact rfl;exact rfl;(intro w hm;exact hU w))|(apply aa;exact rfl;exact rfl;(intro w hm;exact hB w))|(apply ak;exact rfl;apply ou (b:=1#64<<<m);exact rfl;exact rfl)|(apply ak;exact rfl;apply ib (b:=0#64);exact rfl;exact rfl)|refine sT ?_|refine sM fun _=> ?_|(refine sC ?_ ?_<;>intro hb<;>try omega)|fail)
   all_goals first|(exfalso;omega)|((refine rT1 ?_);simp [hz];done)|trace_state
  ·
   have hz: ¬ (x &&& 1#64<<<m=0#64):=fun e=>by rw [hs.1 e] at hx;cases hx
   repeat' (first|(apply aa;exact rfl;exact rfl;(intro w hm;exact hU w))|(apply aa;exact rfl;exact rfl;(intro w hm;exact hB w))|(apply ak;exact rfl;apply ou (b:=1#64<<<m);exact rfl;exact rfl)|(apply ak;exact rfl;apply ib (b:=0#64);exact rfl;exact rfl)|refine sT ?_|refine sM fun _=> ?_|(refine sC ?_ ?_<;>intro hb<;>try omega)|fail)
   all_goals first|(exfalso;omega)|((refine rT1 ?_);simp [hz];done)|trace_state
 ·
  have he:fE x u=false:=by
   unfold fE
   by_cases h1:0≤u
   ·
    have h2: ¬ u<64:=fun h2=>h ⟨h1,h2⟩
    simp [h2]
   ·
    simp [h1]
  have hf:(decide (0≤u) && decide (u<64))=false:=by
   rw [← P5,Nm,decide_eq_true_eq,decide_eq_true_eq];exact h
  rw [hf] at hU
  rw [he]
  repeat' (first|(apply aa;exact rfl;exact rfl;(intro w hm;exact hU w))|refine sT ?_|refine sM fun _=> ?_|(refine sC ?_ ?_<;>intro hb<;>try omega)|fail)
  all_goals first|(exfalso;omega)|((refine rT1 ?_);rfl)|trace_state
theorem lM (x:Ox) (w:World):ay Tryz.prog 49 [.agg (bi x).toArray] w (.bool (jx x.kind)):=by
 refine aq Tryz.func49 rfl Tryz.ntmps49 rfl ?_
 repeat' (first|refine sT ?_|refine sS ?_|refine sM fun _=> ?_|(refine sC ?_ ?_<;>intro hb<;>try omega)|fail)
 all_goals first
  |(exfalso;omega)
  |((refine rT1 ?_);simp_all [jx];done)
  |trace_state
theorem xj (k:Int) (w:World):ay Tryz.prog 49 [.agg (bi (pH k)).toArray] w (.bool (jx k)):=lM (pH k) w
theorem xo (a:Rf) (w:World):ay Tryz.prog 72 [.agg (cw a).toArray] w (.bool a.valid):=by
 refine aq Tryz.func72 rfl Tryz.ntmps72 rfl ?_
 have h:a.valid=true↔(1≤a.col∧a.col≤1024∧1≤a.row∧a.row≤1024):=by
  show valid a.col a.row=true↔_
  rw [Ep]
 by_cases hk:a.valid=true
 ·
  have hk2:=h.1 hk
  rw [hk]
  repeat' (first|refine sT ?_|refine sM fun _=> ?_|(refine sC ?_ ?_<;>intro hb<;>try omega)|fail)
  all_goals first|(exfalso;omega)|((refine rT1 ?_);simp;omega)|((refine rT1 ?_);rfl)|trace_state
 ·
  have hk2:=fun x=>hk (h.2 x)
  rw [show a.valid=false by simpa using hk]
  repeat' (first|refine sT ?_|refine sM fun _=> ?_|(refine sC ?_ ?_<;>intro hb<;>try omega)|fail)
  all_goals first|(exfalso;omega)|((refine rT1 ?_);rfl)|((refine rT1 ?_);exact congrArg Value.bool (decide_eq_false fun hz=>hk2 ⟨by omega,by omega,by omega,by omega⟩))|trace_state
theorem zl (fn:Int) (w:World):ay Tryz.prog 152 [.int .u8 fn] w (.bool (decide (46≤fn) && decide (fn≤50))):=by
 refine aq Tryz.func152 rfl Tryz.ntmps152 rfl ?_
 repeat' (first|refine sT ?_|refine sM fun _=> ?_|(refine sC ?_ ?_<;>intro hb<;>try omega)|fail)
 all_goals first|(exfalso;omega)|((refine rT1 ?_);simp;omega)|((refine rT1 ?_);simp_all;done)|trace_state
def nU (all:BitVec 64) (last:Int) (x:Ev):Int:=
 if x.step≤last then 12 else if (jx x.kind && fE all x.user)=false then 2 else if aI x.rect=false then 3 else if (decide (x.to &&& ~~~all=0#64) && fE x.to x.user)=false then 2 else 0
theorem nV (all:BitVec 64) (last:Int) (x:Ev) (l:List Ev):eV all last (x::l)=if nU all last x≠0 then nU all last x else eV all x.step l:=by
 rw [eV,nU]
 split
 ·
  rfl
 split
 ·
  rfl
 split
 ·
  rfl
 split<;>rfl
def nD (all:BitVec 64) (last:Int) (x:Rv):Int:=
 if x.step<last then 12 else if (x.call.at_.valid && aI x.rect)=false then 3 else if GM all x=false then 2 else 0
theorem nF (all:BitVec 64) (last:Int) (x:Rv) (l:List Rv):fA all last (x::l)=if nD all last x≠0 then nD all last x else fA all x.step l:=by
 rw [fA,nD]
 split
 ·
  rfl
 split
 ·
  rfl
 split<;>rfl
set_option maxHeartbeats 4000000 in
theorem CF (u:Int) (hu: ¬ (u<0∨64<u∨u=0)) (last:Int) (x:Ev) (w:World):ay Tryz.prog 120 [.int .i64 u,.int .i64 last,.agg (aN x).toArray] w (.int .i64 (nU (df u).1 last x)):=by
 refine aq Tryz.func120 rfl Tryz.ntmps120 rfl ?_
 have hM:=fun w=>xj x.kind w
 have hR:=fun w=>dP x.rect w
 have hW:=fun w=>gy x.to u w
 have hH:=fun w=>qx x.to x.user w
 unfold nU
 rw [zP hu]
 generalize jx x.kind=mk at hM ⊢
 generalize aI x.rect=ro at hR ⊢
 generalize fE x.to x.user=hs at hH ⊢
 generalize (df u).1=sa at hW ⊢
 generalize decide (x.to &&& ~~~sa=0#64)=wi at hW ⊢
 repeat' (first|(apply aa;exact rfl;exact rfl;(intro w hm;exact hM w))|(apply aa;exact rfl;exact rfl;(intro w hm;exact hR w))|(apply aa;exact rfl;exact rfl;(intro w hm;exact hW w))|(apply aa;exact rfl;exact rfl;(intro w hm;exact hH w))|refine sT ?_|refine sS ?_|refine sM fun _=> ?_|(refine sC ?_ ?_<;>intro hb<;>try omega)|fail)
 all_goals first
  |(exfalso;omega)
  |((refine rT1 ?_);simp_all;done)
  |((refine rT1 ?_);simp_all;omega)
  |trace_state
set_option maxHeartbeats 4000000 in
theorem w7 (u:Int) (last:Int) (x:Rv) (w:World):ay Tryz.prog 121 [.int .i64 u,.int .i64 last,.agg (bD x).toArray] w (.int .i64 (nD (df u).1 last x)):=by
 refine aq Tryz.func121 rfl Tryz.ntmps121 rfl ?_
 have hA:=fun w=>xo x.call.at_ w
 have hR:=fun w=>dP x.rect w
 have hL:=fun w=>zl x.fn w
 have hW:=fun w=>gy x.to u w
 unfold nD GM
 generalize x.call.at_.valid=va at hA ⊢
 generalize aI x.rect=ro at hR ⊢
 generalize (df u).1=sa at hW ⊢
 generalize decide (x.to &&& ~~~sa=0#64)=wi at hW ⊢
 repeat' (first|(apply aa;exact rfl;exact rfl;(intro w hm;exact hA w))|(apply aa;exact rfl;exact rfl;(intro w hm;exact hR w))|(apply aa;exact rfl;exact rfl;(intro w hm;exact hL w))|(apply aa;exact rfl;exact rfl;(intro w hm;exact hW w))|refine sT ?_|refine sS ?_|refine sM fun _=> ?_|(refine sC ?_ ?_<;>intro hb<;>try omega)|fail)
 all_goals first
  |(exfalso;omega)
  |((refine rT1 ?_);simp_all;done)
  |((refine rT1 ?_);simp_all;omega)
  |trace_state
set_option maxHeartbeats 8000000 in
theorem uW (u:Int) (L:List Ev) (M:List Rv) (lv mv:Value) (w:World) (hl:Reads w lv L.length (L.flatMap aN)) (hm:Reads w mv M.length (M.flatMap bD)):ay Tryz.prog 65 [.int .i64 u,lv,mv] w (.int .i64 (qd u L M)):=by
 obtain ⟨Al,cl,rfl,hl1,hl2,hl3⟩:=hl
 obtain ⟨Am,cm,rfl,hm1,hm2,hm3⟩:=hm
 refine aq Tryz.func65 rfl Tryz.ntmps65 rfl ?_
 unfold qd
 by_cases h1:u<0∨64<u∨u=0
 ·
  rw [if_pos h1]
  repeat' (first|refine sT ?_|refine sM fun _=> ?_|(refine sC ?_ ?_<;>intro hb<;>try omega)|fail)
  all_goals first|(exfalso;omega)|((refine rT1 ?_);rfl)|trace_state
 rw [if_neg h1]
 have hE:=fun last (x:Ev) w=>CF u h1 last x w
 have hR:=fun last (x:Rv) w=>w7 u last x w
 generalize (df u).1=sa at hE hR ⊢
 obtain ⟨ef,hef⟩: ∃ ef,eV sa (-1) L=ef:=⟨_,rfl⟩
 rw [hef]
 repeat' (first|refine sT ?_|refine sS ?_|refine sM fun _=> ?_|(refine sC ?_ ?_<;>intro hb<;>try omega)|fail)
 all_goals try (exfalso;omega)
 refine ax [0,1,2] rfl (fun i:Nat=> [(7,.int .i64 (jS L i)),(8,.int .i64 (i:Int))]) (fun _=> []) (fun i=>i≤L.length∧ef=eV sa (jS L i) (L.drop i)) (fun i=>L.length - i) 0 ⟨Ns _,hef.symm⟩ sB mS ?_
 rintro i ⟨hi,hrec⟩
 by_cases hlt:i<L.length
 ·
  obtain ⟨gl,ol,rfl,hrl⟩:=hl3 (by omega)
  have he1:=hrl.elem fk i hlt
  have hnext:jS L (i+1)=L[i].step:=by unfold jS;rw [if_neg (by omega),OU,Nc hlt];rfl
  rw [Nn hlt,nV] at hrec
  generalize jS L i=last at hrec
  generalize L[i]=r at hnext he1 hrec
  have hE1:=fun w=>hE last r w
  have hs:=(Ev.ro he1).1
  generalize nU sa last r=e1 at hE1 hrec
  repeat' (first|(apply ak;exact rfl;apply aj (j:=i);exact rfl;exact rfl;omega)|(apply ak;exact rfl;apply aA;exact rfl;exact he1;exact rfl)|(apply aa;exact rfl;exact rfl;(intro w hm;exact hE1 w))|refine sT ?_|refine sS ?_|refine sN ?_|refine sO ?_|refine sM fun _=> ?_|(refine sC ?_ ?_<;>intro hb<;>try omega)|fail)
  all_goals first
   |(exfalso;omega)
   |(rw [if_pos hb] at hrec;(refine rT1 ?_);rw [hrec,if_pos hb];done)
   |(rw [if_neg (by omega)] at hrec;refine ⟨i+1,⟨hlt,?_⟩,by omega,by (try simp only [hnext]);exact sB,by (try simp only [hnext]);exact sB,by exact mS⟩;rw [hnext];exact hrec)
   |trace_state
 ·
  have e:i=L.length:=by omega
  subst e
  rw [NF,eV] at hrec
  subst hrec
  rw [if_neg (by decide)]
  obtain ⟨rf,hrf⟩: ∃ rf,fA sa (-1) M=rf:=⟨_,rfl⟩
  rw [hrf]
  repeat' (first|refine sT ?_|refine sS ?_|refine sM fun _=> ?_|(refine sC ?_ ?_<;>intro hb<;>try omega)|fail)
  refine ax [0,2] rfl (fun i:Nat=> [(7,.int .i64 (jR M i)),(10,.int .i64 (i:Int))]) (fun _=> []) (fun i=>i≤M.length∧rf=fA sa (jR M i) (M.drop i)) (fun i=>M.length - i) 0 ⟨Ns _,hrf.symm⟩ sB mS ?_
  rintro i ⟨hi,hrec⟩
  by_cases hlt:i<M.length
  ·
   obtain ⟨gm,om,rfl,hrm⟩:=hm3 (by omega)
   have he1:=hrm.elem fj i hlt
   have hnext:jR M (i+1)=M[i].step:=by unfold jR;rw [if_neg (by omega),OU,Nc hlt];rfl
   rw [Nn hlt,nF] at hrec
   generalize jR M i=last at hrec
   generalize M[i]=r at hnext he1 hrec
   have hE1:=fun w=>hR last r w
   have hs:=Rv.ro1 he1
   generalize nD sa last r=e1 at hE1 hrec
   repeat' (first|(apply ak;exact rfl;apply aj (j:=i);exact rfl;exact rfl;omega)|(apply ak;exact rfl;apply aA;exact rfl;exact he1;exact rfl)|(apply aa;exact rfl;exact rfl;(intro w hm;exact hE1 w))|refine sT ?_|refine sS ?_|refine sN ?_|refine sO ?_|refine sM fun _=> ?_|(refine sC ?_ ?_<;>intro hb<;>try omega)|fail)
   all_goals first
    |(exfalso;omega)
    |(rw [if_pos hb] at hrec;(refine rT1 ?_);rw [hrec];done)
    |(rw [if_neg (by omega)] at hrec;refine ⟨i+1,⟨hlt,?_⟩,by omega,by (try simp only [hnext]);exact sB,by (try simp only [hnext]);exact sB,by exact mS⟩;rw [hnext];exact hrec)
    |trace_state
  ·
   have e:i=M.length:=by omega
   subst e
   rw [NF,fA] at hrec
   subst hrec
   repeat' (first|refine sT ?_|refine sS ?_|refine sM fun _=> ?_|(refine sC ?_ ?_<;>intro hb<;>try omega)|fail)
   all_goals first|(exfalso;omega)|((refine rT1 ?_);rfl)|trace_state
end Go.SL

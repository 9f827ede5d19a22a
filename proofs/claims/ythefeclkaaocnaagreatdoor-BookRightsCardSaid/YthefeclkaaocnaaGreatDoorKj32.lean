/-
  Lemmas and walks, put together: Ja Nb Ng Hw Hx Hy Nc Nd Nf Oa.
-/
import Derived.Test.YthefeclkaaocnaaGreatDoorKj31
set_option linter.unusedSimpArgs false
set_option linter.unusedVariables false
set_option maxRecDepth 20000
namespace Go.SL
open Go Go.Proofs
attribute [local irreducible] W WL WQ WG WA WX WLI WR WT WC WE VOp RW thn blk bG scp bg bi bT aQ FnIn FnP ceP
theorem Gt (n:Nat) (h:n<64):yD (n+1)=yD n|||1#64<<<n:=by
 have h1: ∀ n:Fin 64,yD (n.val+1)=yD n.val|||1#64<<<n.val:=by decide+kernel
 exact h1 ⟨n,h⟩
theorem wE (m:Nat) (h:m≤64) (w:World):ax Tryz.prog 208 [.int .i64 (m:Int)] w (vS (1#64<<<m)):=by
 refine aq Tryz.func208 rfl Tryz.ntmps208 rfl ?_
 repeat' (first|(apply ak;exact rfl;apply bI (c:=(m:Int));exact rfl;(simp only [IntKind.wrap_u64];omega))|(apply ak;exact rfl;apply xD (a:=1#64) (m:=m);exact rfl;exact rfl;omega)|refine sT ?_|refine sM fun _=> ?_|(refine sC ?_ ?_<;>intro hb<;>try omega)|fail)
 all_goals first|(exfalso;omega)|((refine rT1 ?_);rfl)|trace_state
theorem zK (u:Int) (w:World):ax Tryz.prog 156 [.int .i64 u] w (.tuple #[vS (db u).1,.int .i64 (db u).2]):=by
 refine aq Tryz.func156 rfl Tryz.ntmps156 rfl ?_
 by_cases h:u<0∨64<u
 ·
  rw [db,if_pos h]
  repeat' (first|refine sT ?_|refine sM fun _=> ?_|(refine sC ?_ ?_<;>intro hb<;>try omega)|fail)
  all_goals first|(exfalso;omega)|((refine rT2 ?_);rfl)|trace_state
 ·
  rw [db,if_neg h]
  obtain ⟨m,rfl⟩: ∃ m:Nat,u=(m:Int):=⟨u.toNat,by omega⟩
  rw [OZ]
  repeat' (first|refine sT ?_|refine sS ?_|refine sM fun _=> ?_|(refine sC ?_ ?_<;>intro hb<;>try omega)|fail)
  all_goals try (exfalso;omega)
  refine ay [0] rfl (fun i:Nat=> [(4,vS (yD i)),(5,.int .i64 (i:Int))]) (fun _=> []) (fun i=>i≤m) (fun i=>m - i) 0 (by omega) sB mS ?_
  rintro i hi
  by_cases hlt:i<m
  ·
   have hB:=fun w=>wE i (by omega) w
   have hs:=Gt i (by omega)
   repeat' (first|(apply aa;exact rfl;exact rfl;(intro w hm;exact hB w))|(apply ak;exact rfl;apply qE (a:=yD i);exact rfl;exact rfl)|refine sT ?_|refine sS ?_|refine sN ?_|refine sM fun _=> ?_|(refine sC ?_ ?_<;>intro hb<;>try omega)|fail)
   all_goals first
    |(exfalso;omega)
    |(rw [← hs];refine ⟨i+1,hlt,by omega,by exact sB,by exact sB,by exact mS⟩;done)
    |trace_state
  ·
   have e:i=m:=by omega
   subst e
   repeat' (first|refine sT ?_|refine sS ?_|refine sM fun _=> ?_|(refine sC ?_ ?_<;>intro hb<;>try omega)|fail)
   all_goals first|(exfalso;omega)|((refine rT2 ?_);rfl)|trace_state
theorem ju (x:BitVec 64) (u:Int) (w:World):ax Tryz.prog 125 [vS x,.int .i64 u] w (.bool (decide (x &&& ~~~(db u).1=0#64))):=by
 refine aq Tryz.func125 rfl Tryz.ntmps125 rfl ?_
 have h1:=fun w=>zK u w
 generalize (db u).1=a at h1 ⊢
 generalize (db u).2=e at h1
 repeat' (first|(apply aa;exact rfl;exact rfl;(intro w hm;exact h1 w))|(apply ak;exact rfl;apply dY (b:=a);exact rfl;exact rfl)|(apply ak;exact rfl;apply xG (b:=0#64);exact rfl;exact rfl)|refine sT ?_|refine sM fun _=> ?_|(refine sC ?_ ?_<;>intro hb<;>try omega)|fail)
 all_goals first|(exfalso;omega)|((refine rT1 ?_);rfl)|trace_state
theorem j9 (r:Rct) (w:World):ax Tryz.prog 124 [.agg (bQ r).toArray] w (.bool (aF r)):=by
 refine aq Tryz.func124 rfl Tryz.ntmps124 rfl ?_
 have h:aF r=true↔(1≤r.c1∧r.c1≤r.c2∧r.c2≤1024∧1≤r.r1∧r.r1≤r.r2∧r.r2≤1024):=by
  simp only [aF,valid,NK,decide_eq_true_eq]
  omega
 by_cases hk:aF r=true
 ·
  have hk2:=h.1 hk
  rw [hk]
  repeat' (first|refine sT ?_|refine sM fun _=> ?_|(refine sC ?_ ?_<;>intro hb<;>try omega)|fail)
  all_goals first|(exfalso;omega)|((refine rT1 ?_);simp;omega)|((refine rT1 ?_);rfl)|trace_state
 ·
  have hk2:=fun a=>hk (h.2 a)
  rw [show aF r=false by simpa using hk]
  repeat' (first|refine sT ?_|refine sM fun _=> ?_|(refine sC ?_ ?_<;>intro hb<;>try omega)|fail)
  all_goals first|(exfalso;omega)|((refine rT1 ?_);rfl)|((refine rT1 ?_);exact congrArg Value.bool (decide_eq_false fun hz=>hk2 ⟨by omega,by omega,by omega,by omega,by omega,by omega⟩))|trace_state
theorem Iz (a b c s:BitVec 64):((a|||b|||c) &&& s=0#64)↔(a &&& s=0#64∧b &&& s=0#64∧c &&& s=0#64):=by
 have h: ∀ x:BitVec 64,(x=0#64)↔ ∀ i,x.getLsbD i=false:=fun x=>⟨fun h i=>by rw [h];simp,fun h=>Qc fun i _=>by rw [h i];simp⟩
 simp only [h,PL,BitVec.getLsbD_or,OQ,PA]
 constructor
 ·
  intro hh
  refine ⟨fun i=> ?_,fun i=> ?_,fun i=> ?_⟩<;>rcases hh i with ⟨⟨h1,h2⟩,h3⟩|h1<;>simp_all
 ·
  rintro ⟨h1,h2,h3⟩ i
  rcases h1 i with a|a
  ·
   rcases h2 i with b|b
   ·
    rcases h3 i with c|c
    ·
     exact .inl ⟨⟨a,b⟩,c⟩
    ·
     exact .inr c
   ·
    exact .inr b
  ·
   exact .inr a
theorem Nq (r:Rl) (a:BitVec 64):((r.read|||r.write|||r.own) &&& ~~~a≠0#64)↔(r.read &&& ~~~a≠0#64∨r.write &&& ~~~a≠0#64∨r.own &&& ~~~a≠0#64):=by
 rw [ne_eq,Iz]
 constructor
 ·
  intro h
  by_cases h1:r.read &&& ~~~a=0#64
  ·
   by_cases h2:r.write &&& ~~~a=0#64
   ·
    exact .inr (.inr fun h3=>h ⟨h1,h2,h3⟩)
   ·
    exact .inr (.inl h2)
  ·
   exact .inl h1
 ·
  rintro (h|h|h) ⟨h1,h2,h3⟩
  ·
   exact h h1
  ·
   exact h h2
  ·
   exact h h3
set_option maxHeartbeats 8000000 in
theorem oN (u:Int) (L:List Rl) (lv:Value) (w:World) (hl:Reads w lv L.length (L.flatMap bn)):ax Tryz.prog 65 [.int .i64 u,lv] w (.tuple #[.int .i64 (eL u L).1,.int .i64 (eL u L).2]):=by
 obtain ⟨Al,cl,rfl,hl1,hl2,hl3⟩:=hl
 refine aq Tryz.func65 rfl Tryz.ntmps65 rfl ?_
 unfold eL
 by_cases h1:u<0∨64<u∨u=0∨L= []
 ·
  rw [if_pos h1]
  have h1' :u<1∨64<u∨L.length=0:=by
   rcases h1 with h|h|h|h
   ·
    exact .inl (by omega)
   ·
    exact .inr (.inl h)
   ·
    exact .inl (by omega)
   ·
    exact .inr (.inr (by rw [h];rfl))
  repeat' (first|refine sT ?_|refine sM fun _=> ?_|(refine sC ?_ ?_<;>intro hb<;>try omega)|fail)
  all_goals first|(exfalso;omega)|((refine rT2 ?_);rfl)|trace_state
 rw [if_neg h1]
 have hne:0<L.length:=by
  rcases OJ L.length with h|h
  ·
   exact absurd (.inr (.inr (.inr (Oo h)))) h1
  ·
   exact h
 by_cases h64:64<L.length
 ·
  rw [if_pos h64]
  repeat' (first|refine sT ?_|refine sM fun _=> ?_|(refine sC ?_ ?_<;>intro hb<;>try omega)|fail)
  all_goals first|(exfalso;omega)|((refine rT2 ?_);rfl)|trace_state
 rw [if_neg h64]
 obtain ⟨gl,ol,rfl,hrl⟩:=hl3 hne
 have hS:=fun w=>tU w
 obtain ⟨h0a,_⟩:=Rl.ro (hrl.elem cK 0 hne)
 have hhd:L.head?.map (·.rect)=some L[0].rect:=by rw [List.head?_eq_getElem?,NE hne];rfl
 rw [hhd]
 by_cases hsh:some L[0].rect≠some mU
 ·
  rw [if_pos hsh]
  have hc:decide (L[0].rect=mU)=false:=decide_eq_false fun e=>hsh (congrArg some e)
  generalize L[0].rect=r0 at h0a hc
  repeat' (first|(apply bZ (id:=5) [4] [];kernel_rfl;kernel_rfl;kernel_rfl)|(apply cC;(iterate 3 exact rfl);apply aj (j:=0);exact rfl;exact rfl;omega)|(apply cC;(iterate 3 exact rfl);apply aA;exact rfl;exact h0a;exact rfl)|(apply cC;(iterate 3 exact rfl);apply nV hc;exact rfl;exact rfl)|(apply aa (f:=105);exact rfl;exact rfl;(intro w' _;exact hS w'))|refine sT ?_|refine sS ?_|refine sW ?_|refine sO ?_|refine sM fun _=> ?_|(refine sC ?_ ?_<;>intro hb<;>try omega)|(refine sCW ?_ ?_<;>intro hb<;>try omega)|fail)
  all_goals first|(exfalso;omega)|((refine rT2 ?_);rfl)|trace_state
 rw [if_neg hsh]
 have hc:decide (L[0].rect=mU)=true:=decide_eq_true (Option.some.inj (Decidable.not_not.1 hsh))
 obtain ⟨ac,hac⟩: ∃ ac,eR u L 0=ac:=⟨_,rfl⟩
 rw [hac]
 generalize L[0].rect=r0 at h0a hc
 repeat' (first|(apply bZ (id:=5) [4] [];kernel_rfl;kernel_rfl;kernel_rfl)|(apply cC;(iterate 3 exact rfl);apply aj (j:=0);exact rfl;exact rfl;omega)|(apply cC;(iterate 3 exact rfl);apply aA;exact rfl;exact h0a;exact rfl)|(apply cC;(iterate 3 exact rfl);apply nV hc;exact rfl;exact rfl)|(apply aa (f:=105);exact rfl;exact rfl;(intro w' _;exact hS w'))|refine sT ?_|refine sS ?_|refine sW ?_|refine sO ?_|refine sM fun _=> ?_|(refine sC ?_ ?_<;>intro hb<;>try omega)|(refine sCW ?_ ?_<;>intro hb<;>try omega)|fail)
 all_goals try (exfalso;omega)
 refine ay [0,1] rfl (fun i:Nat=> [(6,.int .i64 (i:Int))]) (fun _=> []) (fun i=>i≤L.length∧ac=eR u (L.drop i) (i:Int)) (fun i=>L.length - i) 0 ⟨by omega,hac.symm⟩ sB mS ?_
 rintro i ⟨hi,hrec⟩
 by_cases hlt:i<L.length
 ·
  obtain ⟨hr1,_,_,_,hr2⟩:=Rl.ro (hrl.elem cK i hlt)
  rw [NL hlt,eR] at hrec
  simp only [Nq] at hrec
  generalize L[i]=r at hr1 hr2 hrec
  have hR:=fun w=>j9 r.rect w
  have hW:=fun (x:BitVec 64) w=>ju x u w
  generalize aF r.rect=ro at hR hrec
  generalize (db u).1=sa at hW hrec
  by_cases h3:ro=false
  ·
   rw [if_pos h3] at hrec
   subst h3
   repeat' (first|(apply ak;exact rfl;apply aj (j:=i);exact rfl;exact rfl;omega)|(apply aa;exact rfl;exact rfl;(intro w hm;exact hR w))|refine sT ?_|refine sS ?_|refine sO ?_|refine sM fun _=> ?_|(refine sC ?_ ?_<;>intro hb<;>try omega)|fail)
   all_goals first|(exfalso;omega)|((refine rT2 ?_);rw [hrec];done)|trace_state
  rw [if_neg h3] at hrec
  have h3' :ro=true:=by simpa using h3
  subst h3'
  by_cases h4:r.read &&& ~~~sa≠0#64∨r.write &&& ~~~sa≠0#64∨r.own &&& ~~~sa≠0#64
  ·
   rw [if_pos h4] at hrec
   repeat' (first|(apply ak;exact rfl;apply aj (j:=i);exact rfl;exact rfl;omega)|(apply ak;exact rfl;apply aA;exact rfl;exact hr2;exact rfl)|(apply aa;exact rfl;exact rfl;(intro w hm;exact hR w))|(apply aa (f:=125);exact rfl;exact rfl;(intro w' _;exact hW _ w'))|refine sT ?_|refine sS ?_|refine sO ?_|refine sM fun _=> ?_|(refine sC ?_ ?_<;>intro hb<;>try omega)|fail)
   all_goals first
    |(exfalso;omega)
    |((refine rT2 ?_);rw [hrec];done)
    |(exfalso;rcases h4 with h|h|h<;>exact h (by assumption))
    |trace_state
  ·
   rw [if_neg h4] at hrec
   repeat' (first|(apply ak;exact rfl;apply aj (j:=i);exact rfl;exact rfl;omega)|(apply ak;exact rfl;apply aA;exact rfl;exact hr2;exact rfl)|(apply aa;exact rfl;exact rfl;(intro w hm;exact hR w))|(apply aa (f:=125);exact rfl;exact rfl;(intro w' _;exact hW _ w'))|refine sT ?_|refine sS ?_|refine sN ?_|refine sO ?_|refine sM fun _=> ?_|(refine sC ?_ ?_<;>intro hb<;>try omega)|fail)
   all_goals first
    |(exfalso;omega)
    |(exfalso;exact h4 (by first|exact .inl (by assumption)|exact .inr (.inl (by assumption))|exact .inr (.inr (by assumption))))
    |(refine ⟨i+1,⟨hlt,by rw [hrec];rfl⟩,by omega,by exact sB,by exact sB,by exact mS⟩;done)
    |trace_state
 ·
  have e:i=L.length:=by omega
  subst e
  rw [NW,eR] at hrec
  rw [hrec]
  repeat' (first|refine sT ?_|refine sS ?_|refine sM fun _=> ?_|(refine sC ?_ ?_<;>intro hb<;>try omega)|fail)
  all_goals first|(exfalso;omega)|((refine rT2 ?_);rfl)|trace_state
theorem Bw (n:Nat) (h:n≤64) (i:Nat):(yD n).getLsbD i=decide (i<n):=by
 have h1: ∀ n:Fin 65,∀ i:Fin 64,(yD n.val).getLsbD i.val=decide (i.val<n.val):=by decide+kernel
 by_cases hi:i<64
 ·
  exact h1 ⟨n,by omega⟩ ⟨i,hi⟩
 ·
  rw [BitVec.getLsbD_of_ge _ _ (by omega),decide_eq_false (by omega)]
theorem qd {u b:Int} (h: ¬ (u<0∨64<u∨u=0)):eU (db u).1 b=(decide (0≤b) && decide (b<u)):=by
 unfold db eU
 rw [if_neg (by omega)]
 rw [Bw _ (by omega),Om]
 simp only [NK,decide_eq_true_eq]
 omega
set_option maxHeartbeats 8000000 in
theorem vH (u:Int) (L:List Gn) (lv:Value) (w:World) (hl:Reads w lv L.length (L.flatMap bA)):ax Tryz.prog 67 [.int .i64 u,lv] w (.tuple #[.int .i64 (kR u L).1,.int .i64 (kR u L).2]):=by
 obtain ⟨Al,cl,rfl,hl1,hl2,hl3⟩:=hl
 refine aq Tryz.func67 rfl Tryz.ntmps67 rfl ?_
 unfold kR
 by_cases h1:u<0∨64<u∨u=0
 ·
  rw [if_pos h1]
  repeat' (first|refine sT ?_|refine sM fun _=> ?_|(refine sC ?_ ?_<;>intro hb<;>try omega)|fail)
  all_goals first|(exfalso;omega)|((refine rT2 ?_);rfl)|trace_state
 rw [if_neg h1]
 by_cases h64:64<L.length
 ·
  rw [if_pos h64]
  repeat' (first|refine sT ?_|refine sM fun _=> ?_|(refine sC ?_ ?_<;>intro hb<;>try omega)|fail)
  all_goals first|(exfalso;omega)|((refine rT2 ?_);rfl)|trace_state
 rw [if_neg h64]
 obtain ⟨ac,hac⟩: ∃ ac,f9 u L 0=ac:=⟨_,rfl⟩
 rw [hac]
 repeat' (first|refine sT ?_|refine sS ?_|refine sM fun _=> ?_|(refine sC ?_ ?_<;>intro hb<;>try omega)|fail)
 all_goals try (exfalso;omega)
 refine ay [0,1] rfl (fun i:Nat=> [(6,.int .i64 (i:Int))]) (fun _=> []) (fun i=>i≤L.length∧ac=f9 u (L.drop i) (i:Int)) (fun i=>L.length - i) 0 ⟨by omega,hac.symm⟩ sB mS ?_
 rintro i ⟨hi,hrec⟩
 by_cases hlt:i<L.length
 ·
  obtain ⟨gl,ol,rfl,hrl⟩:=hl3 (by omega)
  have he1:=hrl.elem cX i hlt
  rw [NL hlt,f9,Da,qd h1] at hrec
  generalize L[i]=r at he1 hrec
  have hR:=fun w=>j9 r.rect w
  have hW:=fun w=>ju r.to u w
  generalize aF r.rect=ro at hR hrec
  generalize (db u).1=sa at hW hrec
  obtain ⟨wi,hwi⟩: ∃ wi,decide (r.to &&& ~~~sa=0#64)=wi:=⟨_,rfl⟩
  rw [hwi] at hW hrec
  cases ro with
  |false=>
   rw [if_pos rfl] at hrec
   repeat' (first|(apply ak;exact rfl;apply aj (j:=i);exact rfl;exact rfl;omega)|(apply aa;exact rfl;exact rfl;(intro w hm;exact hR w))|refine sT ?_|refine sS ?_|refine sO ?_|refine sM fun _=> ?_|(refine sC ?_ ?_<;>intro hb<;>try omega)|fail)
   all_goals first|(exfalso;omega)|((refine rT2 ?_);rw [hrec];done)|trace_state
  |true=>
   rw [if_neg (by decide)] at hrec
   by_cases hg:1≤r.fns∧r.fns≤31∧wi=true∧0≤r.by_∧r.by_<u
   ·
    obtain ⟨g1,g2,rfl,g4,g5⟩:=hg
    rw [decide_eq_true g1,decide_eq_true g2,decide_eq_true g4,decide_eq_true g5] at hrec
    rw [if_neg (by decide)] at hrec
    repeat' (first|(apply ak;exact rfl;apply aj (j:=i);exact rfl;exact rfl;omega)|(apply aa;exact rfl;exact rfl;(intro w hm;exact hR w))|(apply aa;exact rfl;exact rfl;(intro w hm;exact hW w))|refine sT ?_|refine sS ?_|refine sN ?_|refine sO ?_|refine sM fun _=> ?_|(refine sC ?_ ?_<;>intro hb<;>try omega)|fail)
    all_goals first
     |(exfalso;omega)
     |(refine ⟨i+1,⟨hlt,by rw [hrec];rfl⟩,by omega,by exact sB,by exact sB,by exact mS⟩;done)
     |trace_state
   ·
    rw [if_pos (by rw [← Bool.not_eq_true,NK,NK,NK,NK,decide_eq_true_eq,decide_eq_true_eq,decide_eq_true_eq,decide_eq_true_eq];rintro ⟨⟨⟨a1,a2⟩,a3⟩,a4,a5⟩;exact hg ⟨a1,a2,a3,a4,a5⟩)] at hrec
    cases wi
    all_goals
     repeat' (first|(apply ak;exact rfl;apply aj (j:=i);exact rfl;exact rfl;omega)|(apply aa;exact rfl;exact rfl;(intro w hm;exact hR w))|(apply aa;exact rfl;exact rfl;(intro w hm;exact hW w))|refine sT ?_|refine sS ?_|refine sN ?_|refine sO ?_|refine sM fun _=> ?_|(refine sC ?_ ?_<;>intro hb<;>try omega)|fail)
    all_goals first
     |(exfalso;omega)
     |(exfalso;exact hg ⟨by omega,by omega,rfl,by omega,by omega⟩)
     |((refine rT2 ?_);rw [hrec];done)
     |trace_state
 ·
  have e:i=L.length:=by omega
  subst e
  rw [NW,f9] at hrec
  rw [hrec]
  repeat' (first|refine sT ?_|refine sS ?_|refine sM fun _=> ?_|(refine sC ?_ ?_<;>intro hb<;>try omega)|fail)
  all_goals first|(exfalso;omega)|((refine rT2 ?_);rfl)|trace_state
end Go.SL
namespace Go.SL
open Go
theorem Gy {L:List Rl} (h:(eL 64 L).2=0): ∀ R∈L,aF R.rect=true:=by
 unfold eL at h
 split at h
 ·
  cases h
 split at h
 ·
  cases h
 split at h
 ·
  cases h
 have hf: ∀ (M:List Rl) (i:Int),(eR 64 M i).2=0→ ∀ R∈M,aF R.rect=true:=by
  intro M
  induction M with
  |nil=>intro _ _ R hR;cases hR
  |cons r M ih=>
   intro i hi R hR
   rw [eR] at hi
   split at hi
   ·
    cases hi
   rename_i h1
   split at hi
   ·
    cases hi
   rcases NS.1 hR with rfl|hR
   ·
    simpa using h1
   ·
    exact ih _ hi R hR
 exact hf L 0 h
def IW (f:Rl→BitVec 64) (L:List Rl) (a:Rf):BitVec 64:=(L[fV L a]?.map f).getD 0#64
theorem Iv {L:List Rl} (h:(eL 64 L).2=0) {r:Rct} (hr:aF r=true):ovE r L=((uk (fun x=>x.read) r L,uk (fun x=>x.write) r L,uk (fun x=>x.own) r L),0):=by
 have hz:jk r L=0:=by
  unfold jk
  rw [if_neg (by rw [hr];decide)];exact h
 unfold ovE
 rw [if_neg (by rw [hz];decide)]
theorem JI {x:BitVec 64} {i:Nat} (h:x.getLsbD i=true):i<64:=by
 refine Nat.lt_of_not_le fun hn=> ?_
 rw [BitVec.getLsbD_of_ge _ _ hn] at h
 cases h
theorem Kz {L:List Rl} (h:(eL 64 L).2=0) {r:Rct} (hr:aF r=true) {i:Nat} (hi:i<64):(ovE r L).1.2.2.getLsbD i=true↔ ∀ a,di r a=true→(IW (fun x=>x.own) L a).getLsbD i=true:=by
 rw [Iv h hr]
 exact Iw hr (Gy h) hi
end Go.SL
namespace Go.SL
open Go Go.Proofs
attribute [local irreducible] W WL WQ WG WA WX WLI WR WT WC WE VOp RW thn blk bG scp bg bi bT aQ FnIn FnP ceP ve oq o7
theorem Kv (a:BitVec 64):(a.toNat:Int).tmod 2=((a &&& 1#64).toNat:Int):=by
 have h1:(a &&& 1#64).toNat=a.toNat % 2:=by
  rw [BitVec.toNat_and,show (1#64).toNat=1 from rfl,Nat.and_one_is_mod]
 rw [h1,Qn (by omega)]
 omega
section
variable {P:Program} {w0:World} {s:az} {H:List Blk} {ty:TypeId}
theorem G8 {x y:Operand} {a:BitVec 64} {t t' :TypeId} (hx:ev s x=some (vS a)) (hy:ev s y=some (.int .u64 2)):VOp P w0 s H (.binOp .rem t x y t') ty (vS (a &&& 1#64)):=
 mH hx hy (by decide) (Kv a)
theorem tI {c:Bool} {x y:Operand} {a b:BitVec 64} {t t' :TypeId} (h:decide (a=b)=c) (hx:ev s x=some (vS a)) (hy:ev s y=some (vS b)):VOp P w0 s H (.binOp .eql t x y t') ty (.bool c):=h ▸ xG hx hy
end
theorem Bl (x:BitVec 64) (m:Nat):decide ((x>>>m) &&& 1#64=0#64)= !x.getLsbD m:=by
 rw [← Es]
 have h:(x>>>m) &&& 1#64=0#64∨(x>>>m) &&& 1#64=1#64:=by
  have h1:((x>>>m) &&& 1#64).toNat=(x>>>m).toNat % 2:=by
   rw [BitVec.toNat_and,show (1#64).toNat=1 from rfl,Nat.and_one_is_mod]
  have h2:(x>>>m).toNat % 2=0∨(x>>>m).toNat % 2=1:=by omega
  rcases h2 with h2|h2
  ·
   left;apply PM;rw [h1,h2];rfl
  ·
   right;apply PM;rw [h1,h2];rfl
 rcases h with h|h<;>rw [h]<;>rfl
end Go.SL
namespace Go.SL
open Go
theorem if4 (c1 c2 c3:Prop) [Decidable c1] [Decidable c2] [Decidable c3] (z:Int):(if c1 then (3:Int) else if c2 then 12 else if c3 then 2 else z)=0↔ ¬ c1∧ ¬ c2∧ ¬ c3∧z=0:=by
 by_cases h1:c1
 ·
  rw [if_pos h1];exact ⟨fun h=>(by cases h),fun h=>absurd h1 h.1⟩
 by_cases h2:c2
 ·
  rw [if_neg h1,if_pos h2];exact ⟨fun h=>(by cases h),fun h=>absurd h2 h.2.1⟩
 by_cases h3:c3
 ·
  rw [if_neg h1,if_neg h2,if_pos h3];exact ⟨fun h=>(by cases h),fun h=>absurd h3 h.2.2.1⟩
 ·
  rw [if_neg h1,if_neg h2,if_neg h3];exact ⟨fun h=>⟨h1,h2,h3,h⟩,fun h=>h.2.2.2⟩
def ID (e:Et):Prop:=e.at_.valid=true∧e.input≠au∧(ofP e.input).2.2=0
theorem wV {b:Option Rf} {e:Et}:gU b e=0↔(∀ p,b=some p→bP p e.at_=true)∧ID e:=by
 cases b with
 |none=>
  unfold gU ID
  rw [if4]
  constructor
  ·
   rintro ⟨h1,_,h3,h4⟩;exact ⟨fun p hp=>(by cases hp),by simpa using h1,h3,h4⟩
  ·
   rintro ⟨_,h1,h3,h4⟩;exact ⟨by rw [h1];decide,by simp,h3,h4⟩
 |some p=>
  unfold gU ID
  rw [if4]
  constructor
  ·
   rintro ⟨h1,h2,h3,h4⟩;exact ⟨fun q hq=>by cases hq;simpa using h2,by simpa using h1,h3,h4⟩
  ·
   rintro ⟨h2,h1,h3,h4⟩;exact ⟨by rw [h1];decide,by simpa using h2 p rfl,h3,h4⟩
end Go.SL
namespace Go.SL
open Go Go.Proofs
attribute [local irreducible] W WL WQ WG WA WX WLI WR WT WC WE VOp RW thn blk bG scp bg bi bT aQ FnIn FnP ceP
theorem Lg (x:BitVec 64) (m:Nat) (h:m<64):(x &&& 1#64<<<m=0#64)↔x.getLsbD m=false:=by
 have hb: ∀ m:Fin 64,∀ i:Fin 64,(1#64<<<m.val).getLsbD i.val=decide (i.val=m.val):=by decide+kernel
 constructor
 ·
  intro e
  have h1:(x &&& 1#64<<<m).getLsbD m=false:=by rw [e];simp
  rw [PL,hb ⟨m,h⟩ ⟨m,h⟩] at h1
  simpa using h1
 ·
  intro e
  apply Qc
  intro i hi
  rw [PL,hb ⟨m,h⟩ ⟨i,hi⟩]
  by_cases e2:i=m
  ·
   subst e2;rw [e];simp
  ·
   simp [e2]
theorem xU (u:Int) (w:World):ax Tryz.prog 211 [.int .i64 u] w (.bool (decide (0≤u) && decide (u<64))):=by
 refine aq Tryz.func211 rfl Tryz.ntmps211 rfl ?_
 repeat' (first|refine sT ?_|refine sM fun _=> ?_|(refine sC ?_ ?_<;>intro hb<;>try omega)|fail)
 all_goals first|(exfalso;omega)|((refine rT1 ?_);simp;omega)|((refine rT1 ?_);simp_all;done)|trace_state
theorem zN (x:BitVec 64) (u:Int) (w:World):ax Tryz.prog 161 [vS x,.int .i64 u] w (.bool (eU x u)):=by
 refine aq Tryz.func161 rfl Tryz.ntmps161 rfl ?_
 have hU:=fun w=>xU u w
 by_cases h:0≤u∧u<64
 ·
  obtain ⟨m,rfl⟩: ∃ m:Nat,u=(m:Int):=⟨u.toNat,by omega⟩
  have hm:m<64:=by omega
  have hB:=fun w=>wE m (by omega) w
  have hs:=Lg x m hm
  have he:eU x (m:Int)=x.getLsbD m:=by simp [eU];omega
  rw [he]
  rw [decide_eq_true h.1,decide_eq_true h.2] at hU
  cases hx:x.getLsbD m
  ·
   have hz:=hs.2 hx
   repeat' (first|(apply aa;exact rfl;exact rfl;(intro w hm;exact hU w))|(apply aa;exact rfl;exact rfl;(intro w hm;exact hB w))|(apply ak;exact rfl;apply su (b:=1#64<<<m);exact rfl;exact rfl)|(apply ak;exact rfl;apply iM (b:=0#64);exact rfl;exact rfl)|refine sT ?_|refine sM fun _=> ?_|(refine sC ?_ ?_<;>intro hb<;>try omega)|fail)
   all_goals first|(exfalso;omega)|((refine rT1 ?_);simp [hz];done)|trace_state
  ·
   have hz: ¬ (x &&& 1#64<<<m=0#64):=fun e=>by rw [hs.1 e] at hx;cases hx
   repeat' (first|(apply aa;exact rfl;exact rfl;(intro w hm;exact hU w))|(apply aa;exact rfl;exact rfl;(intro w hm;exact hB w))|(apply ak;exact rfl;apply su (b:=1#64<<<m);exact rfl;exact rfl)|(apply ak;exact rfl;apply iM (b:=0#64);exact rfl;exact rfl)|refine sT ?_|refine sM fun _=> ?_|(refine sC ?_ ?_<;>intro hb<;>try omega)|fail)
   all_goals first|(exfalso;omega)|((refine rT1 ?_);simp [hz];done)|trace_state
 ·
  have he:eU x u=false:=by
   unfold eU
   by_cases h1:0≤u
   ·
    have h2: ¬ u<64:=fun h2=>h ⟨h1,h2⟩
    simp [h2]
   ·
    simp [h1]
  have hf:(decide (0≤u) && decide (u<64))=false:=by
   rw [← Bool.not_eq_true,NK,decide_eq_true_eq,decide_eq_true_eq];exact h
  rw [hf] at hU
  rw [he]
  repeat' (first|(apply aa;exact rfl;exact rfl;(intro w hm;exact hU w))|refine sT ?_|refine sM fun _=> ?_|(refine sC ?_ ?_<;>intro hb<;>try omega)|fail)
  all_goals first|(exfalso;omega)|((refine rT1 ?_);rfl)|trace_state
theorem zL (x:Ox) (w:World):ax Tryz.prog 160 [.agg (bu x).toArray] w (.bool (dh x.kind)):=by
 refine aq Tryz.func160 rfl Tryz.ntmps160 rfl ?_
 repeat' (first|refine sT ?_|refine sS ?_|refine sM fun _=> ?_|(refine sC ?_ ?_<;>intro hb<;>try omega)|fail)
 all_goals first
  |(exfalso;omega)
  |((refine rT1 ?_);simp_all [dh];done)
  |trace_state
theorem xS (k:Int) (w:World):ax Tryz.prog 160 [.agg (bu (qx k)).toArray] w (.bool (dh k)):=zL (qx k) w
theorem xT (a:Rf) (w:World):ax Tryz.prog 74 [.agg (cu a).toArray] w (.bool a.valid):=by
 refine aq Tryz.func74 rfl Tryz.ntmps74 rfl ?_
 have h:a.valid=true↔(1≤a.col∧a.col≤1024∧1≤a.row∧a.row≤1024):=by
  show valid a.col a.row=true↔_
  rw [qC]
 by_cases hk:a.valid=true
 ·
  have hk2:=h.1 hk
  rw [hk]
  repeat' (first|refine sT ?_|refine sM fun _=> ?_|(refine sC ?_ ?_<;>intro hb<;>try omega)|fail)
  all_goals first|(exfalso;omega)|((refine rT1 ?_);simp;omega)|((refine rT1 ?_);rfl)|trace_state
 ·
  have hk2:=fun x=>hk (h.2 x)
  rw [show a.valid=false by simpa using hk]
  repeat' (first|refine sT ?_|refine sM fun _=> ?_|(refine sC ?_ ?_<;>intro hb<;>try omega)|fail)
  all_goals first|(exfalso;omega)|((refine rT1 ?_);rfl)|((refine rT1 ?_);exact congrArg Value.bool (decide_eq_false fun hz=>hk2 ⟨by omega,by omega,by omega,by omega⟩))|trace_state
theorem zM (fn:Int) (w:World):ax Tryz.prog 162 [.int .u8 fn] w (.bool (decide (46≤fn) && decide (fn≤50))):=by
 refine aq Tryz.func162 rfl Tryz.ntmps162 rfl ?_
 repeat' (first|refine sT ?_|refine sM fun _=> ?_|(refine sC ?_ ?_<;>intro hb<;>try omega)|fail)
 all_goals first|(exfalso;omega)|((refine rT1 ?_);simp;omega)|((refine rT1 ?_);simp_all;done)|trace_state
def kT (all:BitVec 64) (last:Int) (x:Ev):Int:=
 if x.step≤last then 12 else if (dh x.kind && eU all x.user)=false then 2 else if aF x.rect=false then 3 else if (decide (x.to &&& ~~~all=0#64) && eU x.to x.user)=false then 2 else 0
theorem iD (all:BitVec 64) (last:Int) (x:Ev) (l:List Ev):eu all last (x::l)=if kT all last x≠0 then kT all last x else eu all x.step l:=by
 rw [eu,kT]
 split
 ·
  rfl
 split
 ·
  rfl
 split
 ·
  rfl
 split<;>rfl
def o4 (all:BitVec 64) (last:Int) (x:Rv):Int:=
 if x.step<last then 12 else if (x.call.at_.valid && aF x.rect)=false then 3 else if HQ all x=false then 2 else 0
theorem o5 (all:BitVec 64) (last:Int) (x:Rv) (l:List Rv):fG all last (x::l)=if o4 all last x≠0 then o4 all last x else fG all x.step l:=by
 rw [fG,o4]
 split
 ·
  rfl
 split
 ·
  rfl
 split<;>rfl
set_option maxHeartbeats 4000000 in
theorem Dg (u:Int) (hu: ¬ (u<0∨64<u∨u=0)) (last:Int) (x:Ev) (w:World):ax Tryz.prog 127 [.int .i64 u,.int .i64 last,.agg (aL x).toArray] w (.int .i64 (kT (db u).1 last x)):=by
 refine aq Tryz.func127 rfl Tryz.ntmps127 rfl ?_
 have hM:=fun w=>xS x.kind w
 have hR:=fun w=>j9 x.rect w
 have hW:=fun w=>ju x.to u w
 have hH:=fun w=>zN x.to x.user w
 unfold kT
 rw [qd hu]
 generalize dh x.kind=mk at hM ⊢
 generalize aF x.rect=ro at hR ⊢
 generalize eU x.to x.user=hs at hH ⊢
 generalize (db u).1=sa at hW ⊢
 generalize decide (x.to &&& ~~~sa=0#64)=wi at hW ⊢
 repeat' (first|(apply aa;exact rfl;exact rfl;(intro w hm;exact hM w))|(apply aa;exact rfl;exact rfl;(intro w hm;exact hR w))|(apply aa;exact rfl;exact rfl;(intro w hm;exact hW w))|(apply aa;exact rfl;exact rfl;(intro w hm;exact hH w))|refine sT ?_|refine sS ?_|refine sM fun _=> ?_|(refine sC ?_ ?_<;>intro hb<;>try omega)|fail)
 all_goals first
  |(exfalso;omega)
  |((refine rT1 ?_);simp_all;done)
  |((refine rT1 ?_);simp_all;omega)
  |trace_state
set_option maxHeartbeats 4000000 in
theorem xN (u:Int) (last:Int) (x:Rv) (w:World):ax Tryz.prog 128 [.int .i64 u,.int .i64 last,.agg (bU x).toArray] w (.int .i64 (o4 (db u).1 last x)):=by
 refine aq Tryz.func128 rfl Tryz.ntmps128 rfl ?_
 have hA:=fun w=>xT x.call.at_ w
 have hR:=fun w=>j9 x.rect w
 have hL:=fun w=>zM x.fn w
 have hW:=fun w=>ju x.to u w
 unfold o4 HQ
 generalize x.call.at_.valid=va at hA ⊢
 generalize aF x.rect=ro at hR ⊢
 generalize (db u).1=sa at hW ⊢
 generalize decide (x.to &&& ~~~sa=0#64)=wi at hW ⊢
 repeat' (first|(apply aa;exact rfl;exact rfl;(intro w hm;exact hA w))|(apply aa;exact rfl;exact rfl;(intro w hm;exact hR w))|(apply aa;exact rfl;exact rfl;(intro w hm;exact hL w))|(apply aa;exact rfl;exact rfl;(intro w hm;exact hW w))|refine sT ?_|refine sS ?_|refine sM fun _=> ?_|(refine sC ?_ ?_<;>intro hb<;>try omega)|fail)
 all_goals first
  |(exfalso;omega)
  |((refine rT1 ?_);simp_all;done)
  |((refine rT1 ?_);simp_all;omega)
  |trace_state
set_option maxHeartbeats 8000000 in
theorem vG (u:Int) (L:List Ev) (M:List Rv) (lv mv:Value) (w:World) (hl:Reads w lv L.length (L.flatMap aL)) (hm:Reads w mv M.length (M.flatMap bU)):ax Tryz.prog 68 [.int .i64 u,lv,mv] w (.int .i64 (qZ u L M)):=by
 obtain ⟨Al,cl,rfl,hl1,hl2,hl3⟩:=hl
 obtain ⟨Am,cm,rfl,hm1,hm2,hm3⟩:=hm
 refine aq Tryz.func68 rfl Tryz.ntmps68 rfl ?_
 unfold qZ
 by_cases h1:u<0∨64<u∨u=0
 ·
  rw [if_pos h1]
  repeat' (first|refine sT ?_|refine sM fun _=> ?_|(refine sC ?_ ?_<;>intro hb<;>try omega)|fail)
  all_goals first|(exfalso;omega)|((refine rT1 ?_);rfl)|trace_state
 rw [if_neg h1]
 have hE:=fun last (x:Ev) w=>Dg u h1 last x w
 have hR:=fun last (x:Rv) w=>xN u last x w
 generalize (db u).1=sa at hE hR ⊢
 obtain ⟨ef,hef⟩: ∃ ef,eu sa (-1) L=ef:=⟨_,rfl⟩
 rw [hef]
 repeat' (first|refine sT ?_|refine sS ?_|refine sM fun _=> ?_|(refine sC ?_ ?_<;>intro hb<;>try omega)|fail)
 all_goals try (exfalso;omega)
 refine ay [0,1,2] rfl (fun i:Nat=> [(7,.int .i64 (kO L i)),(8,.int .i64 (i:Int))]) (fun _=> []) (fun i=>i≤L.length∧ef=eu sa (kO L i) (L.drop i)) (fun i=>L.length - i) 0 ⟨NY _,hef.symm⟩ sB mS ?_
 rintro i ⟨hi,hrec⟩
 by_cases hlt:i<L.length
 ·
  obtain ⟨gl,ol,rfl,hrl⟩:=hl3 (by omega)
  have he1:=hrl.elem bw i hlt
  have hnext:kO L (i+1)=L[i].step:=by unfold kO;rw [if_neg (by omega),Pa,NE hlt];rfl
  rw [NL hlt,iD] at hrec
  generalize kO L i=last at hrec
  generalize L[i]=r at hnext he1 hrec
  have hE1:=fun w=>hE last r w
  have hs:=(Ev.ro he1).1
  generalize kT sa last r=e1 at hE1 hrec
  repeat' (first|(apply ak;exact rfl;apply aj (j:=i);exact rfl;exact rfl;omega)|(apply ak;exact rfl;apply aA;exact rfl;exact he1;exact rfl)|(apply aa;exact rfl;exact rfl;(intro w hm;exact hE1 w))|refine sT ?_|refine sS ?_|refine sN ?_|refine sO ?_|refine sM fun _=> ?_|(refine sC ?_ ?_<;>intro hb<;>try omega)|fail)
  all_goals first
   |(exfalso;omega)
   |(rw [if_pos hb] at hrec;(refine rT1 ?_);rw [hrec,if_pos hb];done)
   |(rw [if_neg (by omega)] at hrec;refine ⟨i+1,⟨hlt,?_⟩,by omega,by (try simp only [hnext]);exact sB,by (try simp only [hnext]);exact sB,by exact mS⟩;rw [hnext];exact hrec)
   |trace_state
 ·
  have e:i=L.length:=by omega
  subst e
  rw [NW,eu] at hrec
  subst hrec
  rw [if_neg (by decide)]
  obtain ⟨rf,hrf⟩: ∃ rf,fG sa (-1) M=rf:=⟨_,rfl⟩
  rw [hrf]
  repeat' (first|refine sT ?_|refine sS ?_|refine sM fun _=> ?_|(refine sC ?_ ?_<;>intro hb<;>try omega)|fail)
  refine ay [0,2] rfl (fun i:Nat=> [(7,.int .i64 (kN M i)),(10,.int .i64 (i:Int))]) (fun _=> []) (fun i=>i≤M.length∧rf=fG sa (kN M i) (M.drop i)) (fun i=>M.length - i) 0 ⟨NY _,hrf.symm⟩ sB mS ?_
  rintro i ⟨hi,hrec⟩
  by_cases hlt:i<M.length
  ·
   obtain ⟨gm,om,rfl,hrm⟩:=hm3 (by omega)
   have he1:=hrm.elem eF i hlt
   have hnext:kN M (i+1)=M[i].step:=by unfold kN;rw [if_neg (by omega),Pa,NE hlt];rfl
   rw [NL hlt,o5] at hrec
   generalize kN M i=last at hrec
   generalize M[i]=r at hnext he1 hrec
   have hE1:=fun w=>hR last r w
   have hs:=Rv.ro1 he1
   generalize o4 sa last r=e1 at hE1 hrec
   repeat' (first|(apply ak;exact rfl;apply aj (j:=i);exact rfl;exact rfl;omega)|(apply ak;exact rfl;apply aA;exact rfl;exact he1;exact rfl)|(apply aa;exact rfl;exact rfl;(intro w hm;exact hE1 w))|refine sT ?_|refine sS ?_|refine sN ?_|refine sO ?_|refine sM fun _=> ?_|(refine sC ?_ ?_<;>intro hb<;>try omega)|fail)
   all_goals first
    |(exfalso;omega)
    |(rw [if_pos hb] at hrec;(refine rT1 ?_);rw [hrec];done)
    |(rw [if_neg (by omega)] at hrec;refine ⟨i+1,⟨hlt,?_⟩,by omega,by (try simp only [hnext]);exact sB,by (try simp only [hnext]);exact sB,by exact mS⟩;rw [hnext];exact hrec)
    |trace_state
  ·
   have e:i=M.length:=by omega
   subst e
   rw [NW,fG] at hrec
   subst hrec
   repeat' (first|refine sT ?_|refine sS ?_|refine sM fun _=> ?_|(refine sC ?_ ?_<;>intro hb<;>try omega)|fail)
   all_goals first|(exfalso;omega)|((refine rT1 ?_);rfl)|trace_state
end Go.SL

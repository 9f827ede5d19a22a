/-
  Lemmas and walks, put together: Ha Hb S5 S6 Hc G2a G2 Lp K2 Sm L3 La Ra Pl Rb Rd Re Rf Pl2 Rg Rh Pl3 Ri.
-/
import Derived.Deep.RegionHeld3
import Derived.Shelf.SortM.Plain
import Derived.Shelf.SortM.SortNone
import Derived.Ground.SlgmProg
import Derived.Test.YthefeclkaaocnaaGreatDoorKf26
import Derived.Test.YthefeclkaaocnaaGreatDoorKf27
set_option linter.unusedSimpArgs false
set_option linter.unusedVariables false
set_option maxRecDepth 20000
namespace Go.SL
open Go Go.Proofs
attribute [local irreducible] W WL WQ WG WA WX WLI WR WT WC WE VOp RW thn blk bF scp ba aZ bC FnAt FnIn FnP ceP
def jP (n:Int):BitVec 64 × Int:=if n<0∨64<n then (0#64,3) else (CW n.toNat,0)
theorem OM (n:Int) (w:World):aD Tryz.prog 107 [.int .i64 n] w (.tuple #[vS (jP n).1,.int .i64 (jP n).2]):=by
 refine ax Tryz.func107 rfl Tryz.ntmps107 rfl ?_
 by_cases h:n<0∨64<n
 ·
  rw [jP,if_pos h]
  repeat' (first|refine sT ?_|refine sM fun _=> ?_|(refine sC ?_ ?_<;>intro hb<;>try omega)|fail)
  all_goals first|(exfalso;omega)|((refine rT2 ?_);rfl)|trace_state
 ·
  rw [jP,if_neg h]
  obtain ⟨m,rfl⟩: ∃ m:Nat,n=(m:Int):=⟨n.toNat,by omega⟩
  repeat' (first|(apply ak;exact rfl;apply Jb (a:=1#64) (m:=m);exact rfl;exact rfl;omega)|(apply ak;exact rfl;apply O4 (b:=1#64);exact rfl;exact rfl)|refine sT ?_|refine sM fun _=> ?_|(refine sC ?_ ?_<;>intro hb<;>try omega)|fail)
  all_goals first|(exfalso;omega)|((refine rT2 ?_);rfl)|trace_state
theorem FX (x:BitVec 64) (u:Int) (w:World):aD Tryz.prog 109 [vS x,.int .i64 u] w (.bool (v8 x u)):=by
 refine ax Tryz.func109 rfl Tryz.ntmps109 rfl ?_
 by_cases h:0≤u∧u<64
 ·
  obtain ⟨m,rfl⟩: ∃ m:Nat,u=(m:Int):=⟨u.toNat,by omega⟩
  have hs:=BO x m
  have he:v8 x (m:Int)=x.getLsbD m:=by simp [v8];omega
  rw [he]
  repeat' (first|(apply ak;exact rfl;apply m7 (a:=x) (m:=m);exact rfl;exact rfl;omega)|(apply ak;exact rfl;apply ng (b:=1#64);exact rfl;exact rfl)|(apply ak;exact rfl;apply p9 (b:=1#64);exact rfl;exact rfl)|refine sT ?_|refine sM fun _=> ?_|(refine sC ?_ ?_<;>intro hb<;>try omega)|fail)
  all_goals first|(exfalso;omega)|((refine rT1 ?_);exact congrArg Value.bool hs)|trace_state
 ·
  have he:v8 x u=false:=by
   unfold v8
   by_cases h1:0≤u
   ·
    have h2: ¬ u<64:=fun h2=>h ⟨h1,h2⟩
    simp [h2]
   ·
    simp [h1]
  rw [he]
  repeat' (first|refine sT ?_|refine sM fun _=> ?_|(refine sC ?_ ?_<;>intro hb<;>try omega)|fail)
  all_goals first|(exfalso;omega)|((refine rT1 ?_);rfl)|trace_state
theorem LU (L:List (BitVec 64)) (lv:Value) (w:World) (hl:Reads w lv L.length (L.map vS)):aD Tryz.prog 83 [lv] w (vS (wq L)):=by
 obtain ⟨Al,cl,rfl,hl1,hl2,hl3⟩:=hl
 refine ax Tryz.func83 rfl Tryz.ntmps83 rfl ?_
 repeat' (first|refine sT ?_|refine sM fun _=> ?_|(refine sC ?_ ?_<;>intro hb<;>try omega)|fail)
 refine ay [6,7] rfl (fun i:Nat=> [(3,vS (wq (L.take i))),(8,.int .i64 (i:Int))]) (fun _=> []) (fun i=>i≤L.length) (fun i=>L.length - i) 0 (TW _) sB mS ?_
 rintro i hi
 by_cases hlt:i<L.length
 ·
  obtain ⟨gl,ol,rfl,hrl⟩:=hl3 (by omega)
  have he1:=hrl.cellV i (v:=vS L[i]) (by rw [Uq,TJ hlt];rfl)
  have hs:wq (L.take (i+1))=wq (L.take i) &&& L[i]:=by rw [TP hlt,LL]
  repeat' (first|(apply ak;exact rfl;apply ng;exact rfl;exact rfl)|refine sT ?_|refine sN ?_|refine sO ?_|refine sM fun _=> ?_|(refine sC ?_ ?_<;>intro hb<;>try omega)|fail)
  all_goals first
   |(exfalso;omega)
   |(refine ⟨i+1,hlt,by omega,?_,by exact sB,by exact mS⟩;rw [hs];exact sB)
   |trace_state
 ·
  have e:i=L.length:=by omega
  subst e
  repeat' (first|refine sT ?_|refine sM fun _=> ?_|(refine sC ?_ ?_<;>intro hb<;>try omega)|fail)
  all_goals first
   |(exfalso;omega)
   |((refine rT1 ?_);rw [Ux])
   |trace_state
theorem ui {r:Rct} (h:dY r≠0):aH r=false:=by
 cases hq:aH r
 ·
  rfl
 ·
  exact absurd (by rw [dY,hq];rfl) h
theorem kR {r:Rct} (h: ¬ dY r≠0): ¬ aH r=false:=fun hq=>h (by rw [dY,hq];decide)
def rl:Rct:=⟨1,1,1024,1024⟩
def eR (u:Int):List Rl→Int→Int × Int
 | [],_=>(0,0)
 |r::L,i=>if aH r.rect=false then (i,3) else if (r.read|||r.write|||r.own) &&& ~~~(jP u).1≠0#64 then (i,2) else eR u L (i+1)
def dw (u:Int) (L:List Rl):Int × Int:=
 if u<0∨64<u∨u=0∨L= [] then (0,2) else if 64<L.length then (64,5) else if (L.head?.map (·.rect))≠some rl then (0,2) else eR u L 0
theorem MK (w:World):aD Tryz.prog 108 [] w (.agg (aN rl).toArray):=by
 refine ax Tryz.func108 rfl Tryz.ntmps108 rfl ?_
 repeat' (first|refine sT ?_|refine sM fun _=> ?_|(refine sC ?_ ?_<;>intro hb<;>try omega)|fail)
 (refine eRC ?_)
 rfl
theorem Rl.ro {w:World} {g o:Nat} {r:Rl} (h:Ro w g o (bM r)):Ro w g o (aN r.rect)∧Ro w g (o+4) [vS r.read]∧Ro w g (o+5) [vS r.write]∧Ro w g (o+6) [vS r.own]∧Ro w g (o+4) [vS r.read,vS r.write,vS r.own]:=
 ⟨h.take (k:=4),(h.drop (k:=4)).take (k:=1),(h.drop (k:=5)).take (k:=1),h.drop (k:=6),h.drop (k:=4)⟩
set_option maxHeartbeats 4000000 in
theorem lR (u:Int) (L:List Rl) (lv:Value) (w:World) (hl:Reads w lv L.length (L.flatMap bM)):aD Tryz.prog 51 [.int .i64 u,lv] w (.tuple #[.int .i64 (dw u L).1,.int .i64 (dw u L).2]):=by
 obtain ⟨Al,cl,rfl,hl1,hl2,hl3⟩:=hl
 refine ax Tryz.func51 rfl Tryz.ntmps51 rfl ?_
 have hA:=fun w=>OM u w
 unfold dw
 have hE:(jP u).2=if u<0∨64<u then 3 else 0:=by unfold jP;split<;>rfl
 by_cases h1:u<0∨64<u∨u=0∨L= []
 ·
  rw [if_pos h1]
  generalize jP u=ae at hA hE
  obtain ⟨sa,ee⟩:=ae
  dsimp only at hA hE
  subst hE
  have h1' : ¬ (u<0∨64<u)→u≠0→L.length=0:=fun h2 h3=>by
   rcases h1 with h|h|h|h
   ·
    exact absurd (.inl h) h2
   ·
    exact absurd (.inr h) h2
   ·
    exact absurd h h3
   ·
    rw [h];rfl
  clear h1
  by_cases h2:u<0∨64<u
  ·
   rw [if_pos h2] at hA
   repeat' (first|(apply aa;exact rfl;exact rfl;(intro w hm;exact hA w))|refine sT ?_|refine sM fun _=> ?_|(refine sC ?_ ?_<;>intro hb<;>try omega)|fail)
   all_goals first|(exfalso;omega)|((refine rT2 ?_);rfl)|trace_state
  ·
   rw [if_neg h2] at hA
   have h3:=h1' h2
   repeat' (first|(apply aa;exact rfl;exact rfl;(intro w hm;exact hA w))|refine sT ?_|refine sM fun _=> ?_|(refine sC ?_ ?_<;>intro hb<;>try omega)|fail)
   all_goals first|(exfalso;omega)|((refine rT2 ?_);rfl)|trace_state
 rw [if_neg h1]
 have hu: ¬ (u<0∨64<u)∧u≠0:=⟨fun h=>h1 (h.elim .inl fun h=> .inr (.inl h)),fun h=>h1 (.inr (.inr (.inl h)))⟩
 have hpos:0<L.length:=UX.2 fun h=>h1 (.inr (.inr (.inr h)))
 rw [if_neg hu.1] at hE
 rw [hE] at hA
 obtain ⟨sa,has⟩: ∃ sa,sa=(jP u).1:=⟨_,rfl⟩
 rw [← has] at hA
 obtain ⟨gl,ol,rfl,hrl⟩:=hl3 hpos
 by_cases h64:64<L.length
 ·
  rw [if_pos h64]
  repeat' (first|(apply aa;exact rfl;exact rfl;(intro w hm;exact hA w))|refine sT ?_|refine sM fun _=> ?_|(refine sC ?_ ?_<;>intro hb<;>try omega)|fail)
  all_goals first|(exfalso;omega)|((refine rT2 ?_);rfl)|trace_state
 rw [if_neg h64]
 obtain ⟨h0a,_⟩:=Rl.ro (hrl.elem dz 0 hpos)
 have hsh:=fun w=>MK w
 have hhd:L.head?.map (·.rect)=some L[0].rect:=by rw [Wh,TJ hpos];rfl
 rw [hhd]
 obtain ⟨c,hc⟩: ∃ c,decide (L[0].rect=rl)=c:=⟨_,rfl⟩
 have hcs:(some L[0].rect≠some rl)↔c=false:=by rw [← hc];simp
 generalize L[0].rect=r0 at h0a hc hcs ⊢
 simp only [hcs]
 clear hhd hcs
 cases c with
 |false=>
  repeat' (first|(apply aa;exact rfl;exact rfl;(intro w hm;exact hA w))|(apply cY (f:=108);exact rfl;exact rfl;(intro w' _;exact hsh w'))|(apply aO;exact rfl;apply aj (j:=0);exact rfl;exact rfl;exact hpos)|(apply aO;exact rfl;apply aP (xs:=aN r0);exact rfl;exact h0a;exact rfl)|(apply aO;exact rfl;apply kA hc;exact rfl;exact rfl)|refine sT ?_|refine sQ ?_|refine sN ?_|refine sNQ ?_|refine sO ?_|refine sOQ ?_|refine sD ?_|refine sM fun _=> ?_|(refine sC ?_ ?_<;>intro hb<;>try omega)|(refine sCQ ?_ ?_<;>intro hb<;>try omega)|fail)
  all_goals first|(exfalso;omega)|((refine rT2 ?_);rfl)|trace_state
 |true=>
  repeat' (first|(apply aa;exact rfl;exact rfl;(intro w hm;exact hA w))|(apply cY (f:=108);exact rfl;exact rfl;(intro w' _;exact hsh w'))|(apply aO;exact rfl;apply aj (j:=0);exact rfl;exact rfl;exact hpos)|(apply aO;exact rfl;apply aP (xs:=aN r0);exact rfl;exact h0a;exact rfl)|(apply aO;exact rfl;apply kA hc;exact rfl;exact rfl)|refine sT ?_|refine sQ ?_|refine sN ?_|refine sNQ ?_|refine sO ?_|refine sOQ ?_|refine sD ?_|refine sM fun _=> ?_|(refine sC ?_ ?_<;>intro hb<;>try omega)|(refine sCQ ?_ ?_<;>intro hb<;>try omega)|fail)
  all_goals try (exfalso;omega)
  refine ay [1,6,37,38] rfl (fun i:Nat=> [(39,.int .i64 (i:Int))]) (fun _=> []) (fun i=>i≤L.length∧eR u L 0=eR u (L.drop i) (i:Int)) (fun i=>L.length - i) 0 ⟨TW _,rfl⟩ sB mS ?_
  rintro i ⟨hi,hrec⟩
  by_cases hlt:i<L.length
  ·
   have he1:=hrl.elem dz i hlt
   rw [TN hlt,eR,← has] at hrec
   generalize L[i]=r at hrec he1
   have hck:=fun w=>ko r.rect w
   repeat' (first|(apply aa;exact rfl;exact rfl;(intro w hm;exact hck w))|(apply ak;exact rfl;apply rf;exact rfl;exact rfl)|(apply ak;exact rfl;apply m9 (b:=sa);exact rfl;exact rfl)|(apply ak;exact rfl;apply BG (b:=0#64);exact rfl;exact rfl)|refine sT ?_|refine sN ?_|refine sO ?_|refine sM fun _=> ?_|(refine sC ?_ ?_<;>intro hb<;>try omega)|fail)
   all_goals first
    |(exfalso;omega)
    |((refine rT2 ?_);rw [if_neg (by decide),hrec,if_pos (ui hb)];done)
    |((refine rT2 ?_);rw [if_neg (by decide),hrec,if_neg (kR ‹_›),if_pos hb];done)
    |(refine ⟨i+1,⟨hlt,by rw [hrec,if_neg (kR ‹_›),if_neg (fun h=>h hb)];rfl⟩,by omega,by exact sB,by exact sB,by exact mS⟩;done)
    |trace_state
  ·
   have e:i=L.length:=by omega
   subst e
   rw [UB,eR] at hrec
   rw [if_neg (by decide),hrec]
   repeat' (first|refine sT ?_|refine sM fun _=> ?_|(refine sC ?_ ?_<;>intro hb<;>try omega)|fail)
   all_goals first|(exfalso;omega)|((refine rT2 ?_);rfl)|trace_state
theorem LY (a b:Rct) (w:World):aD Tryz.prog 166 [.agg (aN a).toArray,.agg (aN b).toArray] w (.bool (kw a b)):=by
 refine ax Tryz.func166 rfl Tryz.ntmps166 rfl ?_
 have hM:=fun w=>CZ a b w
 unfold kw
 obtain ⟨c,hc⟩: ∃ c,decide ((dZ a b).1=a)=c:=⟨_,rfl⟩
 rw [hc]
 generalize dZ a b=m at hM hc
 obtain ⟨mr,mb⟩:=m
 dsimp only at hM hc ⊢
 cases mb
 ·
  repeat' (first|(apply aa;exact rfl;exact rfl;(intro w hm;exact hM w))|refine sT ?_|refine sM fun _=> ?_|(refine sC ?_ ?_<;>intro hb<;>try omega)|fail)
  all_goals first|(exfalso;omega)|((refine rT1 ?_);rfl)|trace_state
 ·
  repeat' (first|(apply aa;exact rfl;exact rfl;(intro w hm;exact hM w))|(apply ak;exact rfl;apply p8 hc;exact rfl;exact rfl)|refine sT ?_|refine sM fun _=> ?_|(refine sC ?_ ?_<;>intro hb<;>try omega)|fail)
  all_goals first|(exfalso;omega)|((refine rT1 ?_);rfl)|trace_state
set_option maxHeartbeats 4000000 in
theorem Dl (r:Rct) (L:List Rl) (lv:Value) (w:World) (hl:Reads w lv L.length (L.flatMap bM)) (hb:L.length≤1000000):aD Tryz.prog 132 [.agg (aN r).toArray,lv] w (.int .i64 (jd r L:Int)):=by
 obtain ⟨Al,cl,rfl,hl1,hl2,hl3⟩:=hl
 refine ax Tryz.func132 rfl Tryz.ntmps132 rfl ?_
 by_cases h0:L.length=0
 ·
  have e:jd r L=0:=by rw [jd,h0];rfl
  rw [e]
  repeat' (first|refine sT ?_|refine sS ?_|refine sJ ?_|refine sM fun _=> ?_|(refine sC ?_ ?_<;>intro hb<;>try omega)|fail)
  rename_i g2
  refine ay [1,2] rfl (fun _:Unit=> [(5,.int .i64 (-1))]) (fun _=> [.box g2 33 (aN r)]) (fun _=>True) (fun _=>0) () trivial (by rw [h0];exact sB) mS ?_
  rintro _ _
  repeat' (first|refine sT ?_|refine sS ?_|refine sJ ?_|refine sM fun _=> ?_|(refine sC ?_ ?_<;>intro hb<;>try omega)|fail)
  all_goals first|(exfalso;omega)|((refine rT1 ?_);rfl)|trace_state
 repeat' (first|refine sT ?_|refine sS ?_|refine sN ?_|refine sM fun _=> ?_|(refine sC ?_ ?_<;>intro hb<;>try omega)|fail)
 rename_i g2
 obtain ⟨gl,ol,rfl,hrl⟩:=hl3 (by omega)
 refine ay [1,2] rfl (fun i:Nat=> [(5,.int .i64 (i:Int))]) (fun _=> [.box g2 33 (aN r)]) (fun i=>i<L.length∧jd r L=oD r L (i+1)) (fun i=>i) (L.length - 1) ⟨by omega,by rw [Wv (by omega)];rfl⟩ sB mS ?_
 rintro i ⟨hi,hrec⟩
 rw [oD,TJ hi] at hrec
 simp only [UH,VI] at hrec
 have hIn:=fun w=>LY r L[i].rect w
 obtain ⟨h0a,_⟩:=Rl.ro (hrl.elem dz i hi)
 obtain ⟨c,hcc⟩: ∃ c,kw r L[i].rect=c:=⟨_,rfl⟩
 simp only [hcc] at hIn hrec
 clear hcc
 generalize L[i].rect=x at h0a hIn
 by_cases hi0:i=0
 ·
  subst hi0
  have e:jd r L=0:=by rw [hrec];cases c<;>rfl
  rw [e]
  repeat' (first|refine sT ?_|refine sS ?_|refine sM fun _=> ?_|(refine sC ?_ ?_<;>intro hb<;>try omega)|fail)
  all_goals first|(exfalso;omega)|((refine rT1 ?_);rfl)|trace_state
 ·
  cases c
  ·
   rw [if_neg (by decide)] at hrec
   repeat' (first|(apply aO;exact rfl;apply aj (j:=i);exact rfl;exact rfl;exact hi)|(apply cY (f:=166);exact rfl;exact rfl;(intro w' _;exact hIn w'))|refine sT ?_|refine sS ?_|refine sQ ?_|refine sN ?_|refine sNQ ?_|refine sO ?_|refine sOQ ?_|refine sD ?_|refine sM fun _=> ?_|(refine sC ?_ ?_<;>intro hb<;>try omega)|(refine sCQ ?_ ?_<;>intro hb<;>try omega)|fail)
   all_goals first
    |(exfalso;omega)
    |(refine ⟨i - 1,⟨by omega,by rw [Wv (by omega)];exact hrec⟩,by omega,by exact sB,by exact sB,by exact mS⟩;done)
    |trace_state
  ·
   rw [if_pos rfl] at hrec
   rw [hrec]
   repeat' (first|(apply aO;exact rfl;apply aj (j:=i);exact rfl;exact rfl;exact hi)|(apply cY (f:=166);exact rfl;exact rfl;(intro w' _;exact hIn w'))|refine sT ?_|refine sS ?_|refine sQ ?_|refine sN ?_|refine sNQ ?_|refine sO ?_|refine sOQ ?_|refine sD ?_|refine sM fun _=> ?_|(refine sC ?_ ?_<;>intro hb<;>try omega)|(refine sCQ ?_ ?_<;>intro hb<;>try omega)|fail)
   all_goals first|(exfalso;omega)|((refine rT1 ?_);rfl)|trace_state
def o7 (fns fn:Int):Bool:=decide (46≤fn) && decide (fn≤50) && decide (Go.bits .and .u8 (fns / 2 ^ (fn - 46).toNat) 1=1)
theorem OH (fns fn:Int) (w:World):aD Tryz.prog 145 [.int .u8 fns,.int .u8 fn] w (.bool (o7 fns fn)):=by
 refine ax Tryz.func145 rfl Tryz.ntmps145 rfl ?_
 by_cases h:46≤fn∧fn≤50
 ·
  obtain ⟨m,hm⟩: ∃ m:Nat,fn=46+(m:Int):=⟨(fn - 46).toNat,by omega⟩
  have he:o7 fns fn=decide (Go.bits .and .u8 (fns / 2 ^ m) 1=1):=by
   unfold o7
   rw [decide_eq_true h.1,decide_eq_true h.2,show (fn - 46).toNat=m by omega,VB,VB]
  rw [he]
  have hsub:IntKind.u8.wrap (fn - 46)=(m:Int):=by rw [IntKind.wrap_u8];omega
  repeat' (first|(apply ak;exact rfl;apply Kb (c:=(m:Int));exact rfl;exact rfl;exact hsub)|(apply ak;exact rfl;apply I9 (m:=m);exact rfl;exact rfl;(simp [IntKind.bits];omega))|(apply ak;exact rfl;apply RB;exact rfl;exact rfl)|refine sT ?_|refine sM fun _=> ?_|(refine sC ?_ ?_<;>intro hb<;>try omega)|fail)
  all_goals first|(exfalso;omega)|((refine rT1 ?_);rfl)|trace_state
 ·
  have he:o7 fns fn=false:=by
   unfold o7
   by_cases h1:46≤fn
   ·
    have h2: ¬ fn≤50:=fun h2=>h ⟨h1,h2⟩
    simp [h2]
   ·
    simp [h1]
  rw [he]
  repeat' (first|refine sT ?_|refine sM fun _=> ?_|(refine sC ?_ ?_<;>intro hb<;>try omega)|fail)
  all_goals first|(exfalso;omega)|((refine rT1 ?_);rfl)|trace_state
def Sd (u:Int) (g:Gn):Bool:=decide (1≤g.fns) && decide (g.fns≤31) && decide (g.to &&& ~~~(jP u).1=0#64) && v8 (jP u).1 g.by_
def ic (u:Int):List Gn→Int→Int × Int
 | [],_=>(0,0)
 |g::L,i=>if aH g.rect=false then (i,3) else if Sd u g=false then (i,2) else ic u L (i+1)
def gQ (u:Int) (L:List Gn):Int × Int:=
 if u<0∨64<u∨u=0 then (0,2) else if 64<L.length then (64,5) else ic u L 0
set_option maxHeartbeats 4000000 in
theorem vG (u:Int) (L:List Gn) (lv:Value) (w:World) (hl:Reads w lv L.length (L.flatMap bp)):aD Tryz.prog 52 [.int .i64 u,lv] w (.tuple #[.int .i64 (gQ u L).1,.int .i64 (gQ u L).2]):=by
 obtain ⟨Al,cl,rfl,hl1,hl2,hl3⟩:=hl
 refine ax Tryz.func52 rfl Tryz.ntmps52 rfl ?_
 have hA:=fun w=>OM u w
 unfold gQ
 have hE:(jP u).2=if u<0∨64<u then 3 else 0:=by unfold jP;split<;>rfl
 obtain ⟨sa,has⟩: ∃ sa,sa=(jP u).1:=⟨_,rfl⟩
 rw [← has,hE] at hA
 by_cases h1:u<0∨64<u∨u=0
 ·
  rw [if_pos h1]
  by_cases h2:u<0∨64<u
  ·
   rw [if_pos h2] at hA
   repeat' (first|(apply aa;exact rfl;exact rfl;(intro w hm;exact hA w))|refine sT ?_|refine sM fun _=> ?_|(refine sC ?_ ?_<;>intro hb<;>try omega)|fail)
   all_goals first|(exfalso;omega)|((refine rT2 ?_);rfl)|trace_state
  ·
   rw [if_neg h2] at hA
   repeat' (first|(apply aa;exact rfl;exact rfl;(intro w hm;exact hA w))|refine sT ?_|refine sM fun _=> ?_|(refine sC ?_ ?_<;>intro hb<;>try omega)|fail)
   all_goals first|(exfalso;omega)|((refine rT2 ?_);rfl)|trace_state
 rw [if_neg h1]
 rw [if_neg (by omega)] at hA
 by_cases h64:64<L.length
 ·
  rw [if_pos h64]
  repeat' (first|(apply aa;exact rfl;exact rfl;(intro w hm;exact hA w))|refine sT ?_|refine sM fun _=> ?_|(refine sC ?_ ?_<;>intro hb<;>try omega)|fail)
  all_goals first|(exfalso;omega)|((refine rT2 ?_);rfl)|trace_state
 rw [if_neg h64]
 repeat' (first|(apply aa;exact rfl;exact rfl;(intro w hm;exact hA w))|refine sT ?_|refine sM fun _=> ?_|(refine sC ?_ ?_<;>intro hb<;>try omega)|fail)
 all_goals try (exfalso;omega)
 refine ay [1,6,23,24] rfl (fun i:Nat=> [(25,.int .i64 (i:Int))]) (fun _=> []) (fun i=>i≤L.length∧ic u L 0=ic u (L.drop i) (i:Int)) (fun i=>L.length - i) 0 ⟨TW _,rfl⟩ sB mS ?_
 rintro i ⟨hi,hrec⟩
 by_cases hlt:i<L.length
 ·
  obtain ⟨gl,ol,rfl,hrl⟩:=hl3 (by omega)
  have he1:=hrl.elem mT i hlt
  rw [TN hlt,ic,Sd,← has] at hrec
  generalize L[i]=r at hrec he1
  have hck:=fun w=>ko r.rect w
  have hhs:=fun w=>FX sa r.by_ w
  generalize v8 sa r.by_=hb at hhs hrec
  repeat' (first|(apply aa;exact rfl;exact rfl;(intro w hm;exact hck w))|(apply aa;exact rfl;exact rfl;(intro w hm;exact hhs w))|(apply ak;exact rfl;apply m9 (b:=sa);exact rfl;exact rfl)|(apply ak;exact rfl;apply BG (b:=0#64);exact rfl;exact rfl)|refine sT ?_|refine sN ?_|refine sO ?_|refine sM fun _=> ?_|(refine sC ?_ ?_<;>intro hb<;>try omega)|fail)
  all_goals first
   |(exfalso;omega)
   |((refine rT2 ?_);rw [hrec,if_pos (ui hb)];done)
   |((refine rT2 ?_);rw [hrec,if_neg (kR ‹_›),if_pos (by first|(rw [decide_eq_false (show ¬ (1:Int)≤r.fns by omega)];rfl)|(rw [decide_eq_false (show ¬ r.fns≤(31:Int) by omega),Bool.and_false];rfl)|(rw [decide_eq_false hb,Bool.and_false];rfl)|(rw [hb,Bool.and_false]))];done)
   |(refine ⟨i+1,⟨hlt,by rw [hrec,if_neg (kR ‹_›),if_neg (by simp_all)];rfl⟩,by omega,by exact sB,by exact sB,by exact mS⟩;done)
   |trace_state
 ·
  have e:i=L.length:=by omega
  subst e
  rw [UB,ic] at hrec
  rw [hrec]
  repeat' (first|refine sT ?_|refine sM fun _=> ?_|(refine sC ?_ ?_<;>intro hb<;>try omega)|fail)
  all_goals first|(exfalso;omega)|((refine rT2 ?_);rfl)|trace_state
end Go.SL
namespace Go.Proofs
open Go Go.Shelf Go.RowKit Go.Lib Go.Sort Go.SL
def lh (a b:Int):Int:=if a<b then -1 else if b<a then 1 else 0
def orI (a b c d:Int):Int:=if a≠0 then a else if b≠0 then b else if c≠0 then c else d
def cK (a b:Rct):Int:=orI (lh a.r1 b.r1) (lh a.c1 b.c1) (lh a.r2 b.r2) (lh a.c2 b.c2)
end Go.Proofs
namespace Go.Proofs
open Go Go.Shelf Go.RowKit Go.Lib Go.Sort Go.SL
def Tryz.sortRc_ren:Go.Shelf.Ren:=⟨fun|6=>100|15=>138|14=>148|28=>177|29=>178|20=>183|21=>184|22=>185|23=>186|24=>187|25=>188|26=>189|27=>190|46=>227|47=>218|48=>219|49=>228|50=>229|57=>273|n=>n,fun|22=>110|24=>33|25=>188|3=>3|39=>75|0=>0|53=>265|55=>34|4=>4|46=>258|45=>257|50=>262|5=>5|9=>9|66=>303|70=>307|76=>351|77=>352|n=>n,fun|n=>n⟩
theorem Tryz.sortRc:Go.Proofs.SlLaysF0.n6 Tryz.prog Tryz.sortRc_ren:={
 mixed:=by kernel_rfl
 f6:=⟨Tryz.f100.name,by decide,Tryz.func100.trans (congrArg some (by kernel_rfl))⟩
 f14:=⟨Tryz.f148.name,by decide,Tryz.func148.trans (congrArg some (by kernel_rfl))⟩
 f15:=Tryz.func138.trans (congrArg some (by kernel_rfl))
 f20:=⟨Tryz.f183.name,by decide,Tryz.func183.trans (congrArg some (by kernel_rfl))⟩
 f21:=⟨Tryz.f184.name,by decide,Tryz.func184.trans (congrArg some (by kernel_rfl))⟩
 f22:=⟨Tryz.f185.name,by decide,Tryz.func185.trans (congrArg some (by kernel_rfl))⟩
 f23:=⟨Tryz.f186.name,by decide,Tryz.func186.trans (congrArg some (by kernel_rfl))⟩
 f24:=⟨Tryz.f187.name,by decide,Tryz.func187.trans (congrArg some (by kernel_rfl))⟩
 f25:=⟨Tryz.f188.name,by decide,Tryz.func188.trans (congrArg some (by kernel_rfl))⟩
 f26:=⟨Tryz.f189.name,by decide,Tryz.func189.trans (congrArg some (by kernel_rfl))⟩
 f27:=⟨Tryz.f190.name,by decide,Tryz.func190.trans (congrArg some (by kernel_rfl))⟩
 f28:=Tryz.func177.trans (congrArg some (by kernel_rfl))
 f29:=Tryz.func178.trans (congrArg some (by kernel_rfl))
 f46:=⟨Tryz.f227.name,by decide,Tryz.func227.trans (congrArg some (by kernel_rfl))⟩
 f47:=Tryz.func218.trans (congrArg some (by kernel_rfl))
 f48:=Tryz.func219.trans (congrArg some (by kernel_rfl))
 f49:=⟨Tryz.f228.name,by decide,Tryz.func228.trans (congrArg some (by kernel_rfl))⟩
 f50:=⟨Tryz.f229.name,by decide,Tryz.func229.trans (congrArg some (by kernel_rfl))⟩
 f57:=⟨Tryz.f273.name,by decide,Tryz.func273.trans (congrArg some (by kernel_rfl))⟩
 t0:=Tryz.underlying0
 a0:=Tryz.isAgg0
 z0:=Tryz.sizeOf0
 v0:=Tryz.zeroValue0
 t3:=Tryz.underlying3
 a3:=Tryz.isAgg3
 z3:=Tryz.sizeOf3
 v3:=Tryz.zeroValue3
 t4:=Tryz.underlying4
 a4:=Tryz.isAgg4
 z4:=Tryz.sizeOf4
 v4:=Tryz.zeroValue4
 t5:=Tryz.underlying5
 a5:=Tryz.isAgg5
 z5:=Tryz.sizeOf5
 v5:=Tryz.zeroValue5
 t9:=Tryz.underlying9
 a9:=Tryz.isAgg9
 z9:=Tryz.sizeOf9
 v9:=Tryz.zeroValue9
 t22:=Tryz.underlying110
 a22:=Tryz.isAgg110
 z22:=Tryz.sizeOf110
 v22:=Tryz.zeroValue110
 t25:=Tryz.underlying188
 a25:=Tryz.isAgg188
 z25:=Tryz.sizeOf188
 v25:=Tryz.zeroValue188
 t39:=Tryz.underlying75
 a39:=Tryz.isAgg75
 z39:=Tryz.sizeOf75
 v39:=Tryz.zeroValue75
 t45:=Tryz.underlying257
 a45:=Tryz.isAgg257
 z45:=Tryz.sizeOf257
 v45:=Tryz.zeroValue257
 t46:=Tryz.underlying258
 a46:=Tryz.isAgg258
 z46:=Tryz.sizeOf258
 v46:=Tryz.zeroValue258
 t50:=Tryz.underlying262
 a50:=Tryz.isAgg262
 z50:=Tryz.sizeOf262
 v50:=Tryz.zeroValue262
 t53:=Tryz.underlying265
 a53:=Tryz.isAgg265
 z53:=Tryz.sizeOf265
 v53:=Tryz.zeroValue265
 t55:=Tryz.underlying34
 a55:=Tryz.isAgg34
 z55:=Tryz.sizeOf34
 v55:=Tryz.zeroValue34
 t66:=Tryz.underlying303
 a66:=Tryz.isAgg303
 z66:=Tryz.sizeOf303
 v66:=Tryz.zeroValue303
 t70:=Tryz.underlying307
 a70:=Tryz.isAgg307
 z70:=Tryz.sizeOf307
 v70:=Tryz.zeroValue307
 t76:=Tryz.underlying351
 a76:=Tryz.isAgg351
 z76:=Tryz.sizeOf351
 v76:=Tryz.zeroValue351
 t77:=Tryz.underlying352
 a77:=Tryz.isAgg352
 z77:=Tryz.sizeOf352
 v77:=Tryz.zeroValue352 }
end Go.Proofs
namespace Go.SL
open Go Go.Proofs Go.Sort Go.Shelf
def sortRc (L:List Rct):List Rct:=L.mergeSort fun x y=> !(ltOf cK y x)
end Go.SL
namespace Go.Proofs
open Go Go.Shelf Go.RowKit Go.Lib Go.Sort Go.SL
def Tryz.sortIn_ren:Go.Shelf.Ren:=⟨fun|5=>164|8=>138|7=>212|19=>177|20=>178|10=>260|11=>261|12=>262|13=>263|14=>264|15=>265|16=>266|17=>267|18=>268|30=>303|31=>218|32=>219|33=>304|34=>305|35=>149|40=>326|n=>n,fun|23=>102|25=>3|3=>3|32=>75|22=>102|0=>0|44=>265|46=>34|4=>4|36=>258|35=>257|41=>262|5=>5|9=>9|53=>303|57=>307|63=>351|64=>352|n=>n,fun|n=>n⟩
theorem Tryz.sortIn:Go.Proofs.SlLaysM.n5 Tryz.prog Tryz.sortIn_ren:={
 mixed:=by kernel_rfl
 f5:=⟨Tryz.f164.name,by decide,Tryz.func164.trans (congrArg some (by kernel_rfl))⟩
 f7:=⟨Tryz.f212.name,by decide,Tryz.func212.trans (congrArg some (by kernel_rfl))⟩
 f8:=Tryz.func138.trans (congrArg some (by kernel_rfl))
 f10:=⟨Tryz.f260.name,by decide,Tryz.func260.trans (congrArg some (by kernel_rfl))⟩
 f11:=⟨Tryz.f261.name,by decide,Tryz.func261.trans (congrArg some (by kernel_rfl))⟩
 f12:=⟨Tryz.f262.name,by decide,Tryz.func262.trans (congrArg some (by kernel_rfl))⟩
 f13:=⟨Tryz.f263.name,by decide,Tryz.func263.trans (congrArg some (by kernel_rfl))⟩
 f14:=⟨Tryz.f264.name,by decide,Tryz.func264.trans (congrArg some (by kernel_rfl))⟩
 f15:=⟨Tryz.f265.name,by decide,Tryz.func265.trans (congrArg some (by kernel_rfl))⟩
 f16:=⟨Tryz.f266.name,by decide,Tryz.func266.trans (congrArg some (by kernel_rfl))⟩
 f17:=⟨Tryz.f267.name,by decide,Tryz.func267.trans (congrArg some (by kernel_rfl))⟩
 f18:=⟨Tryz.f268.name,by decide,Tryz.func268.trans (congrArg some (by kernel_rfl))⟩
 f19:=Tryz.func177.trans (congrArg some (by kernel_rfl))
 f20:=Tryz.func178.trans (congrArg some (by kernel_rfl))
 f30:=⟨Tryz.f303.name,by decide,Tryz.func303.trans (congrArg some (by kernel_rfl))⟩
 f31:=Tryz.func218.trans (congrArg some (by kernel_rfl))
 f32:=Tryz.func219.trans (congrArg some (by kernel_rfl))
 f33:=⟨Tryz.f304.name,by decide,Tryz.func304.trans (congrArg some (by kernel_rfl))⟩
 f34:=⟨Tryz.f305.name,by decide,Tryz.func305.trans (congrArg some (by kernel_rfl))⟩
 f35:=⟨Tryz.f149.name,by decide,Tryz.func149.trans (congrArg some (by kernel_rfl))⟩
 f40:=⟨Tryz.f326.name,by decide,Tryz.func326.trans (congrArg some (by kernel_rfl))⟩
 t0:=Tryz.underlying0
 a0:=Tryz.isAgg0
 z0:=Tryz.sizeOf0
 v0:=Tryz.zeroValue0
 t3:=Tryz.underlying3
 a3:=Tryz.isAgg3
 z3:=Tryz.sizeOf3
 v3:=Tryz.zeroValue3
 t4:=Tryz.underlying4
 a4:=Tryz.isAgg4
 z4:=Tryz.sizeOf4
 v4:=Tryz.zeroValue4
 t5:=Tryz.underlying5
 a5:=Tryz.isAgg5
 z5:=Tryz.sizeOf5
 v5:=Tryz.zeroValue5
 t9:=Tryz.underlying9
 a9:=Tryz.isAgg9
 z9:=Tryz.sizeOf9
 v9:=Tryz.zeroValue9
 t22:=Tryz.underlying102
 a22:=Tryz.isAgg102
 z22:=Tryz.sizeOf102
 v22:=Tryz.zeroValue102
 t23:=Tryz.underlying102
 a23:=Tryz.isAgg102
 z23:=Tryz.sizeOf102
 v23:=Tryz.zeroValue102
 t25:=Tryz.underlying3
 a25:=Tryz.isAgg3
 z25:=Tryz.sizeOf3
 v25:=Tryz.zeroValue3
 t32:=Tryz.underlying75
 a32:=Tryz.isAgg75
 z32:=Tryz.sizeOf75
 v32:=Tryz.zeroValue75
 t35:=Tryz.underlying257
 a35:=Tryz.isAgg257
 z35:=Tryz.sizeOf257
 v35:=Tryz.zeroValue257
 t36:=Tryz.underlying258
 a36:=Tryz.isAgg258
 z36:=Tryz.sizeOf258
 v36:=Tryz.zeroValue258
 t41:=Tryz.underlying262
 a41:=Tryz.isAgg262
 z41:=Tryz.sizeOf262
 v41:=Tryz.zeroValue262
 t44:=Tryz.underlying265
 a44:=Tryz.isAgg265
 z44:=Tryz.sizeOf265
 v44:=Tryz.zeroValue265
 t46:=Tryz.underlying34
 a46:=Tryz.isAgg34
 z46:=Tryz.sizeOf34
 v46:=Tryz.zeroValue34
 t53:=Tryz.underlying303
 a53:=Tryz.isAgg303
 z53:=Tryz.sizeOf303
 v53:=Tryz.zeroValue303
 t57:=Tryz.underlying307
 a57:=Tryz.isAgg307
 z57:=Tryz.sizeOf307
 v57:=Tryz.zeroValue307
 t63:=Tryz.underlying351
 a63:=Tryz.isAgg351
 z63:=Tryz.sizeOf351
 v63:=Tryz.zeroValue351
 t64:=Tryz.underlying352
 a64:=Tryz.isAgg352
 z64:=Tryz.sizeOf352
 v64:=Tryz.zeroValue352 }
end Go.Proofs
namespace Go.SL
open Go Go.Proofs Go.Sort Go.Shelf
theorem DV {α:Type} [Inhabited α] {enc:α→Value} (w:World) (g n:Nat) (d:Array α) (os:Array Obj):w.grownBy (grow (putRow enc (Sort.ahead w n) g 0 d) os) (some g):={
 os:=rfl
 tape:=rfl
 output:=rfl
 size:=by
  show w.heap.size≤((w.heap.modify g _)++os).size
  rw [WF,Vx]
  omega
 block k hk hne:=by
  show ((w.heap.modify g _)++os)[k]? =_
  rw [UO (by rw [Vx];exact hk),Vk,if_neg (fun e=>hne (by rw [e]))] }
theorem GQ {α:Type} [Inhabited α] {enc:α→Value} (w:World) (g n:Nat) (d:Array α) (os:Array Obj) (c:Array Value) (T:TypeId) (fr:Nat × Nat) (h:w.heap[g]? =some (.cells c T fr)):
  (grow (putRow enc (Sort.ahead w n) g 0 d) os).heap[g]? =some (.cells (putCells enc 0 d c) T fr):=by
 have hlt:g<w.heap.size:=(Um.1 h).1
 show ((w.heap.modify g _)++os)[g]? =_
 rw [UO (by rw [Vx];exact hlt),Vk,if_pos rfl,h]
 rfl
theorem HK (L:List Int) (xs junk:List Value) (hl:xs.length=L.length):putCells gL 0 L.toArray (xs++junk).toArray=(L.map gL++junk).toArray:=by
 apply Wx
 intro j
 simp only [putCells,WS,UD,Vc,TW,true_and,Uc,U9]
 by_cases hj:j<L.length
 ·
  rw [Uh (by omega),Uh (by rw [Uf];omega),Uq,TJ (by omega),TJ hj]
  simp [hj]
 ·
  rw [Uj (by omega),Uj (by rw [Uf];omega),hl,Uf]
  simp [hj]
set_option maxHeartbeats 1000000 in
theorem DS (L:List Int) (A:Option Nat) (cap:Nat) (hL:L.length≤1000000) (R:List Blk) (w0:World):
  FnIn Tryz.prog 164 [sl A L.length cap] w0 (.own A 3 1 L.length cap (L.map gL)::R) fun v H=>v= .tuple #[]∧H= .own A 3 1 L.length cap ((jX L).map gL)::R:=by
 have hl:(jX L).length=L.length:=(ji L).length_eq
 cases A with
 |none=>
  intro w hm
  obtain ⟨⟨h1,h2,h3,h4⟩,_⟩:=hm.on _ TI
  obtain ⟨h5,h6⟩:=h4
  have hnil:L= []:=UW.1 h5
  subst hnil
  subst h6
  have he:jX []= []:=UW.1 hl
  refine Calls.mono (AnyM.slices_Sort_int_none Tryz.sortIn none 0 w) ?_
  rintro e w' ⟨rfl,rfl⟩
  exact ⟨_,_,rfl,hm,rfl,by rw [he]⟩
 |some g=>
  intro w hm
  obtain ⟨⟨h1,h2,h3,junk,h4,h5⟩,hkk⟩:=hm.on _ TI
  have hlt:g<w.heap.size:=(Um.1 h5).1
  have hH:Holds gL w g 0 L.toArray:=by
   intro j hj
   simp only [Vc] at hj
   have hc:(L.map gL++junk).toArray[j]? =some (gL L.toArray[j]!):=by
    rw [UD,Uh (by rw [Uf];exact hj),Uq,TJ hj]
    simp [hj]
   constructor
   ·
    simp only [World.cell?,Uc,h5]
    exact hc
   ·
    simp [World.frozen?,h5]
  have hs:=AnyM.slices_Sort_int Tryz.sortIn g 0 cap L w hH hlt (by omega)
  refine hs.mono ?_
  rintro e w' ⟨rfl,n,os,rfl⟩
  refine ⟨_,_,rfl,hm.upd (DV _ _ _ _ _) (b' := .own (some g) 3 1 L.length cap ((jX L).map gL)) ?_ fun k hk=> .inl hk,rfl,rfl⟩
  refine ⟨by rw [Uf,hl,Va],h2,h3,junk,by rw [TG,Uf,hl,← Va L.length,← h1,← TG];exact h4,?_⟩
  have h6:=GQ (enc:=gL) w g n (jX L).toArray os _ _ _ h5
  rw [HK (jX L) _ _ (by rw [hl,h1,Va])] at h6
  exact h6
end Go.SL
namespace Go.SL
open Go Go.Proofs
attribute [local irreducible] W WL WQ WG WA WX WLI WR WT WC VOp RW thn blk bF scp ba aZ bC FnAt FnP ceP
theorem BV {f:FuncId} {args:List Value} {w0:World} {B H:List Blk} {φ:Value→Option Nat→Nat→Prop} {t sz n:Nat} {cs:List Value}
  (h: ∀ F,FnIn Tryz.prog f args w0 (B++F) fun v H' => ∃ A cap,φ v A cap∧H' = .own A t sz n cap cs::(B++F)) (hs:MSub B H):
  FnIn Tryz.prog f args w0 H fun v H' => ∃ A cap,φ v A cap∧H' = .own A t sz n cap cs::H:=by
 obtain ⟨F,hp⟩:=hs
 refine ((h F).msub (MSub.of_perm hp)).re ?_
 rintro v H' ⟨A,cap,hv,rfl⟩
 exact ⟨_,MSub.of_perm (hp.symm.cons _),A,cap,hv,rfl⟩
section
variable {R:List Blk} {E:List En} {clock:Nat} {G:Gr} (h:GOk R E clock G) (gg gm:Nat) {H:List Blk} (hs:MSub (gB gg gm (E.map En.m) clock++R) H) (w0:World)
include h hs
theorem GOk.uses_any (c:Rf):FnIn Tryz.prog 42 [.pointer (some ⟨gg,0,none⟩),aY c] w0 H fun v H' => ∃ A cap,v=sl A (aK G c).length cap∧H' = .own A 100 6 (aK G c).length cap ((aK G c).flatMap cV)::H:=by
 refine BV (φ:=fun v A cap=>v=sl A (aK G c).length cap) (fun F=> ?_) hs
 have h1:=Ql gg gm clock E c (R++F) w0 (fun e he=>(h.en e he).sub (MSub.appL R F))
 rw [h.uses] at h1
 rw [TY]
 exact h1
variable (hl:G.length≤900)
include hl
theorem GOk.formulas_any:FnIn Tryz.prog 34 [.pointer (some ⟨gg,0,none⟩)] w0 H fun v H' => ∃ A cap,v=sl A (aq G).length cap∧H' = .own A 51 2 (aq G).length cap ((aq G).flatMap aC)::H:=by
 refine BV (φ:=fun v A cap=>v=sl A (aq G).length cap) (fun F=> ?_) hs
 have h1:=vT gg gm clock (E.map En.m) h.ok (by rw [Uf,h.len];omega) (R++F) w0
 rw [h.forms,show (E.map En.m).length=(aq G).length by rw [Uf,h.len,aq,Uf]] at h1
 rw [TY]
 exact h1
variable (hG:GrOk G)
include hG
theorem GOk.users_any (r:Rct):FnIn Tryz.prog 139 [.pointer (some ⟨gg,0,none⟩),.agg (aN r).toArray] w0 H fun v H' => ∃ A cap,v=sl A (eJ G r).length cap∧H' = .own A 51 2 (eJ G r).length cap ((eJ G r).flatMap aC)::H:=by
 refine BV (φ:=fun v A cap=>v=sl A (eJ G r).length cap) (fun F=> ?_) hs
 have h1:=OC gg gm clock E r h.ok (by rw [h.len];omega) (Uo (h.allLen hG) (by omega)) (R++F) w0 (fun e he=>(h.en e he).sub (MSub.appL R F))
 rw [h.users] at h1
 rw [TY]
 exact h1
end
structure Gp where
 gg:Nat
 gm:Nat
 E:List En
 clock:Nat
 gr:Nat
 A:Option Nat
 cap:Nat
 Q:List En
 R:List Blk
end Go.SL
namespace Go.SL
open Go
theorem Ki {G:Gr} (h:GrOk G) (c:Rf):(aK G c).length≤256:=by
 unfold aK
 cases hl:lK G c with
 |none=>simp
 |some x=>
  have h1:=h.ent _ ((rF h.sort).1 hl)
  simp only [UH,VI]
  rw [h1.uses]
  exact Uo (gC _ _) h1.len
end Go.SL
namespace Go.SL
open Go Go.Proofs
attribute [local irreducible] W WL WQ WG WA WX WLI WR WT WC VOp RW thn blk bF scp ba aZ bC FnAt FnIn FnP ceP
theorem xJ {L:List Rf} {k:Nat} (h:k<L.length):((L.flatMap aC).drop (0+k*2)).take 2=aC L[k]:=by
 rw [Uc]
 exact cf fj L k h
end Go.SL
namespace Go.SL
open Go Go.Proofs
structure Qu where
 g:Nat
 off:Nat
 k:Nat
 n:Nat
 c:Nat
 ys:List Value
def Qu.v (q:Qu):Value:= .slice (some ⟨q.g,q.off,none⟩) (q.n - q.k) (q.c - q.k)
structure Qu.ok {α:Type} (q:Qu) (enc:α→List Value) (sz:Nat) (L:List α):Prop where
 le:q.k≤q.n
 off:q.k<q.c→q.off=q.k*sz
 len:q.n - q.k=L.length
 cells:q.ys.drop (q.k*sz)=L.flatMap enc
def Qu.pop (q:Qu) (sz:Nat):Qu:={ q with off:=if q.c - q.k=1 then q.off else q.off+1*sz,k:=q.k+1 }
theorem Qu.ok.pop {α:Type} {q:Qu} {enc:α→List Value} {sz:Nat} {a:α} {L:List α} (h:q.ok enc sz (a::L)) (he:(enc a).length=sz) (hc:q.n≤q.c):(q.pop sz).ok enc sz L:=by
 have hl:=h.len
 rw [TZ] at hl
 have h0:=h.off (by omega)
 refine ⟨by simp only [Qu.pop];omega,fun hk=> ?_,by simp only [Qu.pop];omega,?_⟩
 ·
  simp only [Qu.pop] at hk ⊢
  rw [if_neg (by omega),h0,Vt]
 ·
  have h1:=h.cells
  simp only [Qu.pop]
  rw [Vt,Wq,← U0,h1,T9,← he,List.drop_left]
theorem O1 {P:Program} {n:Fr} {w0:World} {Q:ck} {s:aB} {H:List Blk} {c:Code} {A:Option Nat} {t sz m cap:Nat} {xs:List Value} (hi:In (.own A t sz m cap xs) H) (h:m≤cap→W P n w0 c Q s H):W P n w0 c Q s H:=fun a w hs hmem=>
 h (hmem.on _ hi.mem).1.2.1 a w hs hmem
theorem qd (w:World):Reads w (.slice none 0 0) 0 []:=⟨none,0,rfl,TQ _,TW _,fun h=>absurd h (Nat.lt_irrefl 0)⟩
attribute [local irreducible] W WL WQ WG WA WX WLI WR WT WC WE VOp RW thn blk bF scp ba aZ bC FnAt FnIn FnP ceP
theorem Qu.pop_v (q:Qu) (sz:Nat):Value.slice (if q.c - q.k=1 then some ⟨q.g,q.off,none⟩ else (some (⟨q.g,q.off,none⟩:Addr)).map (·.add (1*sz))) (q.n - q.k - 1) (q.c - q.k - 1)=(q.pop sz).v:=by
 simp only [Qu.v,Qu.pop]
 rw [Nat.sub_sub,Nat.sub_sub]
 split
 ·
  rfl
 ·
  have h:(⟨q.g,q.off,none⟩:Addr).add (1*sz)=⟨q.g,q.off+1*sz,none⟩:=by unfold Addr.add;split<;>simp_all
  rw [UH,h]
theorem Qy {P:Program} {w0:World} {s:aB} {H:List Blk} {ty t e sz:Nat} {x:Operand} [ht:Und P t (.slice e)] [hz:Size P e sz] (q:Qu) (hx:ev s x=some q.v) (h1:1≤q.n - q.k) (h2:q.n≤q.c):
  VOp P w0 s H (.slice t x (some (.const (.int .i64 1))) none none) ty (q.pop sz).v:=by
 rw [← Qu.pop_v]
 exact mZ (lo:=1) (hi:=q.n - q.k) hx ⟨_,rfl⟩ rfl h1 (by omega)
theorem Qu.ok.head {α:Type} {q:Qu} {enc:α→List Value} {sz:Nat} {a:α} {L:List α} (h:q.ok enc sz (a::L)) (he:(enc a).length=sz) (hc:q.n≤q.c):(q.ys.drop (q.off+0*sz)).take sz=enc a:=by
 have hl:=h.len
 rw [TZ] at hl
 rw [h.off (by omega),Wu,Vi,h.cells,T9,← he,V1]
end Go.SL
namespace Go.SL
open Go
theorem r9 {G:Gr} {x:Rf} {u:Us} (hu:u∈aK G x): ∃ e∈G,e.1=x∧e.2.2=aK G x:=by
 unfold aK lK at hu ⊢
 cases hf:G.find? (fun e=>decide (e.1=x)) with
 |none=>rw [hf] at hu;cases hu
 |some e=>
  have h1:=WP hf
  simp only [decide_eq_true_eq] at h1
  exact ⟨e,VP hf,h1,rfl⟩
theorem jr {G:Gr} (h:GrOk G) {d:Rf} (hd:d∈aq G):d.valid=true:=by
 obtain ⟨e,he,rfl⟩:=gH.1 hd
 exact (h.ent e he).at_
theorem oM {G:Gr} (h:GrOk G) {x d:Rf} {u:Us} (hu:u∈aK G x) (hd:d∈aq G):og (fR d.col d.row) u=cj u.rect d:=by
 obtain ⟨e,he,h1,h2⟩:=r9 hu
 exact (Lb ((h.ent e he).rect u (by rw [h2];exact hu)) (jr h hd)).symm
end Go.SL
namespace Go.SL
open Go Go.Proofs
attribute [local irreducible] W WL WQ WG WA WX WLI WR WT WC WE VOp RW thn blk bF scp ba aZ bC FnAt FnIn FnP ceP
theorem Aq {L:List Us} {k:Nat} (h:k<L.length):((L.flatMap cV).drop (0+k*6)).take 6=cV L[k]:=by
 rw [Uc];exact cf yK L k h
theorem p7 {P:Program} {w0:World} {s:aB} {H:List Blk} {ty t e lo m c sz g:Nat} {x xl:Operand} [ht:Und P t (.slice e)] [hz:Size P e sz] (hx:ev s x=some (.slice (some ⟨g,0,none⟩) m c)) (hxl:ev s xl=some (.int .i64 (lo:Nat))) (h1:lo<m) (h2:m≤c):
  VOp P w0 s H (.slice t x (some xl) none none) ty (.slice (some ⟨g,lo*sz,none⟩) (m - lo) (c - lo)):=by
 have h:=mZ (P:=P) (w0:=w0) (s:=s) (H:=H) (ty:=ty) (t:=t) (lo:=lo) (hi:=m) (x:=x) (xl:=some xl) (xh:=none) hx ⟨_,hxl⟩ rfl (by omega) h2
 rw [if_neg (show ¬ c=lo by omega)] at h
 have ha:(⟨g,0,none⟩:Addr).add (lo*sz)=⟨g,lo*sz,none⟩:=by unfold Addr.add;split<;>simp_all
 rw [UH,ha] at h
 exact h
theorem zL {P:Program} {w0:World} {s:aB} {H:List Blk} {ty t e hi m c sz:Nat} {A:Option Addr} {x xh:Operand} [ht:Und P t (.slice e)] [hz:Size P e sz] (hx:ev s x=some (.slice A m c)) (hxh:ev s xh=some (.int .i64 (hi:Nat))) (h2:hi≤c):
  VOp P w0 s H (.slice t x none (some xh) none) ty (.slice A hi c):=by
 have h:=mZ (P:=P) (w0:=w0) (s:=s) (H:=H) (ty:=ty) (t:=t) (lo:=0) (hi:=hi) (x:=x) (xl:=none) (xh:=some xh) hx rfl ⟨_,hxh⟩ (by omega) h2
 have ha:(if c=0 then A else A.map (·.add (0*sz)))=A:=by
  split
  ·
   rfl
  ·
   cases A with
   |none=>rfl
   |some a=>rw [Wu];simp [Addr.add]
 rw [ha] at h
 exact h
end Go.SL

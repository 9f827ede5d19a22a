/-
  Lemmas and walks, put together: Ha Hb Hc He Hf.
-/
import Derived.Ground.SlgmProg
import Derived.Shelf.SortM.Plain
import Derived.Shelf.SortM.SortNone
import Derived.Test.YthefeclkaaocnaaGreatDoorKl22
import Derived.Test.YthefeclkaaocnaaGreatDoorKl26
set_option linter.unusedSimpArgs false
set_option linter.unusedVariables false
set_option maxRecDepth 20000
namespace Go.SL
open Go Go.Proofs
attribute [local irreducible] W WL WQ WG WA WX WLI WR WT WC WE VOp RW thn blk bS scp bq bF cj aS FnIn FnP ceP
def dq (n:Int):BitVec 64 × Int:=if n<0∨64<n then (0#64,3) else (wH n.toNat,0)
theorem wO (n:Int) (w:World):ay Tryz.prog 107 [.int .i64 n] w (.tuple #[vS (dq n).1,.int .i64 (dq n).2]):=by
 refine aq Tryz.func107 rfl Tryz.ntmps107 rfl ?_
 by_cases h:n<0∨64<n
 ·
  rw [dq,if_pos h]
  repeat' (first|refine sT ?_|refine sM fun _=> ?_|(refine sC ?_ ?_<;>intro hb<;>try omega)|fail)
  all_goals first|(exfalso;omega)|((refine rT2 ?_);rfl)|trace_state
 ·
  rw [dq,if_neg h]
  obtain ⟨m,rfl⟩: ∃ m:Nat,n=(m:Int):=⟨n.toNat,by omega⟩
  repeat' (first|(apply ak;exact rfl;apply vF (a:=1#64) (m:=m);exact rfl;exact rfl;omega)|(apply ak;exact rfl;apply HK (b:=1#64);exact rfl;exact rfl)|refine sT ?_|refine sM fun _=> ?_|(refine sC ?_ ?_<;>intro hb<;>try omega)|fail)
  all_goals first|(exfalso;omega)|((refine rT2 ?_);rfl)|trace_state
theorem oC (x:BitVec 64) (u:Int) (w:World):ay Tryz.prog 109 [vS x,.int .i64 u] w (.bool (fU x u)):=by
 refine aq Tryz.func109 rfl Tryz.ntmps109 rfl ?_
 by_cases h:0≤u∧u<64
 ·
  obtain ⟨m,rfl⟩: ∃ m:Nat,u=(m:Int):=⟨u.toNat,by omega⟩
  have hs:=Io x m
  have he:fU x (m:Int)=x.getLsbD m:=by simp [fU];omega
  rw [he]
  repeat' (first|(apply ak;exact rfl;apply HN (a:=x) (m:=m);exact rfl;exact rfl;omega)|(apply ak;exact rfl;apply qf (b:=1#64);exact rfl;exact rfl)|(apply ak;exact rfl;apply Cq (b:=1#64);exact rfl;exact rfl)|refine sT ?_|refine sM fun _=> ?_|(refine sC ?_ ?_<;>intro hb<;>try omega)|fail)
  all_goals first|(exfalso;omega)|((refine rT1 ?_);exact congrArg Value.bool hs)|trace_state
 ·
  have he:fU x u=false:=by
   unfold fU
   by_cases h1:0≤u
   ·
    have h2: ¬ u<64:=fun h2=>h ⟨h1,h2⟩
    simp [h2]
   ·
    simp [h1]
  rw [he]
  repeat' (first|refine sT ?_|refine sM fun _=> ?_|(refine sC ?_ ?_<;>intro hb<;>try omega)|fail)
  all_goals first|(exfalso;omega)|((refine rT1 ?_);rfl)|trace_state
theorem EE (L:List (BitVec 64)) (lv:Value) (w:World) (hl:Reads w lv L.length (L.map vS)):ay Tryz.prog 83 [lv] w (vS (tP L)):=by
 obtain ⟨Al,cl,rfl,hl1,hl2,hl3⟩:=hl
 refine aq Tryz.func83 rfl Tryz.ntmps83 rfl ?_
 repeat' (first|refine sT ?_|refine sM fun _=> ?_|(refine sC ?_ ?_<;>intro hb<;>try omega)|fail)
 refine ax [6,7] rfl (fun i:Nat=> [(3,vS (tP (L.take i))),(8,.int .i64 (i:Int))]) (fun _=> []) (fun i=>i≤L.length) (fun i=>L.length - i) 0 (LS _) sB mS ?_
 rintro i hi
 by_cases hlt:i<L.length
 ·
  obtain ⟨gl,ol,rfl,hrl⟩:=hl3 (by omega)
  have he1:=hrl.cellV i (v:=vS L[i]) (by rw [MD,LF hlt];rfl)
  have hs:tP (L.take (i+1))=tP (L.take i) &&& L[i]:=by rw [LQ hlt,Ew]
  repeat' (first|(apply ak;exact rfl;apply qf;exact rfl;exact rfl)|refine sT ?_|refine sN ?_|refine sO ?_|refine sM fun _=> ?_|(refine sC ?_ ?_<;>intro hb<;>try omega)|fail)
  all_goals first
   |(exfalso;omega)
   |(refine ⟨i+1,hlt,by omega,?_,by exact sB,by exact mS⟩;rw [hs];exact sB)
   |trace_state
 ·
  have e:i=L.length:=by omega
  subst e
  repeat' (first|refine sT ?_|refine sM fun _=> ?_|(refine sC ?_ ?_<;>intro hb<;>try omega)|fail)
  all_goals first
   |(exfalso;omega)
   |((refine rT1 ?_);rw [MI])
   |trace_state
theorem gA {r:Rct} (h:dS r≠0):bi r=false:=by
 cases hq:bi r
 ·
  rfl
 ·
  exact absurd (by rw [dS,hq];rfl) h
theorem eu {r:Rct} (h: ¬ dS r≠0): ¬ bi r=false:=fun hq=>h (by rw [dS,hq];decide)
def mG:Rct:=⟨1,1,1024,1024⟩
def gU (u:Int):List Rl→Int→Int × Int
 | [],_=>(0,0)
 |r::L,i=>if bi r.rect=false then (i,3) else if (r.read|||r.write|||r.own) &&& ~~~(dq u).1≠0#64 then (i,2) else gU u L (i+1)
def jY (u:Int) (L:List Rl):Int × Int:=
 if u<0∨64<u∨u=0∨L= [] then (0,2) else if 64<L.length then (64,5) else if (L.head?.map (·.rect))≠some mG then (0,2) else gU u L 0
theorem Fv (w:World):ay Tryz.prog 108 [] w (.agg (bO mG).toArray):=by
 refine aq Tryz.func108 rfl Tryz.ntmps108 rfl ?_
 repeat' (first|refine sT ?_|refine sM fun _=> ?_|(refine sC ?_ ?_<;>intro hb<;>try omega)|fail)
 (refine eRC ?_)
 rfl
theorem Rl.ro {w:World} {g o:Nat} {r:Rl} (h:Ro w g o (bh r)):Ro w g o (bO r.rect)∧Ro w g (o+4) [vS r.read]∧Ro w g (o+5) [vS r.write]∧Ro w g (o+6) [vS r.own]∧Ro w g (o+4) [vS r.read,vS r.write,vS r.own]:=
 ⟨h.take (k:=4),(h.drop (k:=4)).take (k:=1),(h.drop (k:=5)).take (k:=1),h.drop (k:=6),h.drop (k:=4)⟩
set_option maxHeartbeats 4000000 in
theorem lF (u:Int) (L:List Rl) (lv:Value) (w:World) (hl:Reads w lv L.length (L.flatMap bh)):ay Tryz.prog 51 [.int .i64 u,lv] w (.tuple #[.int .i64 (jY u L).1,.int .i64 (jY u L).2]):=by
 obtain ⟨Al,cl,rfl,hl1,hl2,hl3⟩:=hl
 refine aq Tryz.func51 rfl Tryz.ntmps51 rfl ?_
 have hA:=fun w=>wO u w
 unfold jY
 have hE:(dq u).2=if u<0∨64<u then 3 else 0:=by unfold dq;split<;>rfl
 by_cases h1:u<0∨64<u∨u=0∨L= []
 ·
  rw [if_pos h1]
  generalize dq u=ae at hA hE
  obtain ⟨sa,ee⟩:=ae
  dsimp only at hA hE
  subst hE
  have h1' : ¬ (u<0∨64<u)→u≠0→L.length=0:=fun h2 h3=>by
   rcases h1 with h|h|h|h
   ·
    exact absurd (.inl h) h2
   ·
    exact absurd (.inr h) h2
   ·
    exact absurd h h3
   ·
    rw [h];rfl
  clear h1
  by_cases h2:u<0∨64<u
  ·
   rw [if_pos h2] at hA
   repeat' (first|(apply aa;exact rfl;exact rfl;(intro w hm;exact hA w))|refine sT ?_|refine sM fun _=> ?_|(refine sC ?_ ?_<;>intro hb<;>try omega)|fail)
   all_goals first|(exfalso;omega)|((refine rT2 ?_);rfl)|trace_state
  ·
   rw [if_neg h2] at hA
   have h3:=h1' h2
   repeat' (first|(apply aa;exact rfl;exact rfl;(intro w hm;exact hA w))|refine sT ?_|refine sM fun _=> ?_|(refine sC ?_ ?_<;>intro hb<;>try omega)|fail)
   all_goals first|(exfalso;omega)|((refine rT2 ?_);rfl)|trace_state
 rw [if_neg h1]
 have hu: ¬ (u<0∨64<u)∧u≠0:=⟨fun h=>h1 (h.elim .inl fun h=> .inr (.inl h)),fun h=>h1 (.inr (.inr (.inl h)))⟩
 have hpos:0<L.length:=Nc.2 fun h=>h1 (.inr (.inr (.inr h)))
 rw [if_neg hu.1] at hE
 rw [hE] at hA
 obtain ⟨sa,has⟩: ∃ sa,sa=(dq u).1:=⟨_,rfl⟩
 rw [← has] at hA
 obtain ⟨gl,ol,rfl,hrl⟩:=hl3 hpos
 by_cases h64:64<L.length
 ·
  rw [if_pos h64]
  repeat' (first|(apply aa;exact rfl;exact rfl;(intro w hm;exact hA w))|refine sT ?_|refine sM fun _=> ?_|(refine sC ?_ ?_<;>intro hb<;>try omega)|fail)
  all_goals first|(exfalso;omega)|((refine rT2 ?_);rfl)|trace_state
 rw [if_neg h64]
 obtain ⟨h0a,_⟩:=Rl.ro (hrl.elem bX 0 hpos)
 have hsh:=fun w=>Fv w
 have hhd:L.head?.map (·.rect)=some L[0].rect:=by rw [List.head?_eq_getElem?,LF hpos];rfl
 rw [hhd]
 obtain ⟨c,hc⟩: ∃ c,decide (L[0].rect=mG)=c:=⟨_,rfl⟩
 have hcs:(some L[0].rect≠some mG)↔c=false:=by rw [← hc];simp
 generalize L[0].rect=r0 at h0a hc hcs ⊢
 simp only [hcs]
 clear hhd hcs
 cases c with
 |false=>
  repeat' (first|(apply aa;exact rfl;exact rfl;(intro w hm;exact hA w))|(apply dX (f:=108);exact rfl;exact rfl;(intro w' _;exact hsh w'))|(apply aK;exact rfl;apply aj (j:=0);exact rfl;exact rfl;exact hpos)|(apply aK;exact rfl;apply aA (xs:=bO r0);exact rfl;exact h0a;exact rfl)|(apply aK;exact rfl;apply lL hc;exact rfl;exact rfl)|refine sT ?_|refine sQ ?_|refine sN ?_|refine sNQ ?_|refine sO ?_|refine sOQ ?_|refine sD ?_|refine sM fun _=> ?_|(refine sC ?_ ?_<;>intro hb<;>try omega)|(refine sCQ ?_ ?_<;>intro hb<;>try omega)|fail)
  all_goals first|(exfalso;omega)|((refine rT2 ?_);rfl)|trace_state
 |true=>
  repeat' (first|(apply aa;exact rfl;exact rfl;(intro w hm;exact hA w))|(apply dX (f:=108);exact rfl;exact rfl;(intro w' _;exact hsh w'))|(apply aK;exact rfl;apply aj (j:=0);exact rfl;exact rfl;exact hpos)|(apply aK;exact rfl;apply aA (xs:=bO r0);exact rfl;exact h0a;exact rfl)|(apply aK;exact rfl;apply lL hc;exact rfl;exact rfl)|refine sT ?_|refine sQ ?_|refine sN ?_|refine sNQ ?_|refine sO ?_|refine sOQ ?_|refine sD ?_|refine sM fun _=> ?_|(refine sC ?_ ?_<;>intro hb<;>try omega)|(refine sCQ ?_ ?_<;>intro hb<;>try omega)|fail)
  all_goals try (exfalso;omega)
  refine ax [1,6,37,38] rfl (fun i:Nat=> [(39,.int .i64 (i:Int))]) (fun _=> []) (fun i=>i≤L.length∧gU u L 0=gU u (L.drop i) (i:Int)) (fun i=>L.length - i) 0 ⟨LS _,rfl⟩ sB mS ?_
  rintro i ⟨hi,hrec⟩
  by_cases hlt:i<L.length
  ·
   have he1:=hrl.elem bX i hlt
   rw [LJ hlt,gU,← has] at hrec
   generalize L[i]=r at hrec he1
   have hck:=fun w=>fS r.rect w
   repeat' (first|(apply aa;exact rfl;exact rfl;(intro w hm;exact hck w))|(apply ak;exact rfl;apply oL;exact rfl;exact rfl)|(apply ak;exact rfl;apply dE (b:=sa);exact rfl;exact rfl)|(apply ak;exact rfl;apply gJ (b:=0#64);exact rfl;exact rfl)|refine sT ?_|refine sN ?_|refine sO ?_|refine sM fun _=> ?_|(refine sC ?_ ?_<;>intro hb<;>try omega)|fail)
   all_goals first
    |(exfalso;omega)
    |((refine rT2 ?_);rw [if_neg (by decide),hrec,if_pos (gA hb)];done)
    |((refine rT2 ?_);rw [if_neg (by decide),hrec,if_neg (eu ‹_›),if_pos hb];done)
    |(refine ⟨i+1,⟨hlt,by rw [hrec,if_neg (eu ‹_›),if_neg (fun h=>h hb)];rfl⟩,by omega,by exact sB,by exact sB,by exact mS⟩;done)
    |trace_state
  ·
   have e:i=L.length:=by omega
   subst e
   rw [LU,gU] at hrec
   rw [if_neg (by decide),hrec]
   repeat' (first|refine sT ?_|refine sM fun _=> ?_|(refine sC ?_ ?_<;>intro hb<;>try omega)|fail)
   all_goals first|(exfalso;omega)|((refine rT2 ?_);rfl)|trace_state
theorem EG (a b:Rct) (w:World):ay Tryz.prog 166 [.agg (bO a).toArray,.agg (bO b).toArray] w (.bool (qp a b)):=by
 refine aq Tryz.func166 rfl Tryz.ntmps166 rfl ?_
 have hM:=fun w=>CY a b w
 unfold qp
 obtain ⟨c,hc⟩: ∃ c,decide ((dV a b).1=a)=c:=⟨_,rfl⟩
 rw [hc]
 generalize dV a b=m at hM hc
 obtain ⟨mr,mb⟩:=m
 dsimp only at hM hc ⊢
 cases mb
 ·
  repeat' (first|(apply aa;exact rfl;exact rfl;(intro w hm;exact hM w))|refine sT ?_|refine sM fun _=> ?_|(refine sC ?_ ?_<;>intro hb<;>try omega)|fail)
  all_goals first|(exfalso;omega)|((refine rT1 ?_);rfl)|trace_state
 ·
  repeat' (first|(apply aa;exact rfl;exact rfl;(intro w hm;exact hM w))|(apply ak;exact rfl;apply Dq hc;exact rfl;exact rfl)|refine sT ?_|refine sM fun _=> ?_|(refine sC ?_ ?_<;>intro hb<;>try omega)|fail)
  all_goals first|(exfalso;omega)|((refine rT1 ?_);rfl)|trace_state
set_option maxHeartbeats 4000000 in
theorem wZ (r:Rct) (L:List Rl) (lv:Value) (w:World) (hl:Reads w lv L.length (L.flatMap bh)) (hb:L.length≤1000000):ay Tryz.prog 132 [.agg (bO r).toArray,lv] w (.int .i64 (gh r L:Int)):=by
 obtain ⟨Al,cl,rfl,hl1,hl2,hl3⟩:=hl
 refine aq Tryz.func132 rfl Tryz.ntmps132 rfl ?_
 by_cases h0:L.length=0
 ·
  have e:gh r L=0:=by rw [gh,h0];rfl
  rw [e]
  repeat' (first|refine sT ?_|refine sS ?_|refine sJ ?_|refine sM fun _=> ?_|(refine sC ?_ ?_<;>intro hb<;>try omega)|fail)
  rename_i g2
  refine ax [1,2] rfl (fun _:Unit=> [(5,.int .i64 (-1))]) (fun _=> [.box g2 33 (bO r)]) (fun _=>True) (fun _=>0) () trivial (by rw [h0];exact sB) mS ?_
  rintro _ _
  repeat' (first|refine sT ?_|refine sS ?_|refine sJ ?_|refine sM fun _=> ?_|(refine sC ?_ ?_<;>intro hb<;>try omega)|fail)
  all_goals first|(exfalso;omega)|((refine rT1 ?_);rfl)|trace_state
 repeat' (first|refine sT ?_|refine sS ?_|refine sN ?_|refine sM fun _=> ?_|(refine sC ?_ ?_<;>intro hb<;>try omega)|fail)
 rename_i g2
 obtain ⟨gl,ol,rfl,hrl⟩:=hl3 (by omega)
 refine ax [1,2] rfl (fun i:Nat=> [(5,.int .i64 (i:Int))]) (fun _=> [.box g2 33 (bO r)]) (fun i=>i<L.length∧gh r L=oJ r L (i+1)) (fun i=>i) (L.length - 1) ⟨by omega,by rw [Nat.sub_add_cancel (by omega)];rfl⟩ sB mS ?_
 rintro i ⟨hi,hrec⟩
 rw [oJ,LF hi] at hrec
 simp only [ME,Ok] at hrec
 have hIn:=fun w=>EG r L[i].rect w
 obtain ⟨h0a,_⟩:=Rl.ro (hrl.elem bX i hi)
 obtain ⟨c,hcc⟩: ∃ c,qp r L[i].rect=c:=⟨_,rfl⟩
 simp only [hcc] at hIn hrec
 clear hcc
 generalize L[i].rect=x at h0a hIn
 by_cases hi0:i=0
 ·
  subst hi0
  have e:gh r L=0:=by rw [hrec];cases c<;>rfl
  rw [e]
  repeat' (first|refine sT ?_|refine sS ?_|refine sM fun _=> ?_|(refine sC ?_ ?_<;>intro hb<;>try omega)|fail)
  all_goals first|(exfalso;omega)|((refine rT1 ?_);rfl)|trace_state
 ·
  cases c
  ·
   rw [if_neg (by decide)] at hrec
   repeat' (first|(apply aK;exact rfl;apply aj (j:=i);exact rfl;exact rfl;exact hi)|(apply dX (f:=166);exact rfl;exact rfl;(intro w' _;exact hIn w'))|refine sT ?_|refine sS ?_|refine sQ ?_|refine sN ?_|refine sNQ ?_|refine sO ?_|refine sOQ ?_|refine sD ?_|refine sM fun _=> ?_|(refine sC ?_ ?_<;>intro hb<;>try omega)|(refine sCQ ?_ ?_<;>intro hb<;>try omega)|fail)
   all_goals first
    |(exfalso;omega)
    |(refine ⟨i - 1,⟨by omega,by rw [Nat.sub_add_cancel (by omega)];exact hrec⟩,by omega,by exact sB,by exact sB,by exact mS⟩;done)
    |trace_state
  ·
   rw [if_pos rfl] at hrec
   rw [hrec]
   repeat' (first|(apply aK;exact rfl;apply aj (j:=i);exact rfl;exact rfl;exact hi)|(apply dX (f:=166);exact rfl;exact rfl;(intro w' _;exact hIn w'))|refine sT ?_|refine sS ?_|refine sQ ?_|refine sN ?_|refine sNQ ?_|refine sO ?_|refine sOQ ?_|refine sD ?_|refine sM fun _=> ?_|(refine sC ?_ ?_<;>intro hb<;>try omega)|(refine sCQ ?_ ?_<;>intro hb<;>try omega)|fail)
   all_goals first|(exfalso;omega)|((refine rT1 ?_);rfl)|trace_state
def Km (u:Int) (g:Gn):Bool:=decide (1≤g.fns) && decide (g.fns≤31) && decide (g.to &&& ~~~(dq u).1=0#64) && fU (dq u).1 g.by_
def gQ (u:Int):List Gn→Int→Int × Int
 | [],_=>(0,0)
 |g::L,i=>if bi g.rect=false then (i,3) else if Km u g=false then (i,2) else gQ u L (i+1)
def l3 (u:Int) (L:List Gn):Int × Int:=
 if u<0∨64<u∨u=0 then (0,2) else if 64<L.length then (64,5) else gQ u L 0
theorem Gn.ro {w:World} {g o:Nat} {r:Gn} (h:Ro w g o (bg r)):Ro w g o (bO r.rect)∧Ro w g (o+4) [.int .u8 r.fns]∧Ro w g (o+5) [vS r.to]∧Ro w g (o+6) [.int .i64 r.by_]∧Ro w g (o+7) [.bool r.rev]:=
 ⟨h.take (k:=4),(h.drop (k:=4)).take (k:=1),(h.drop (k:=5)).take (k:=1),(h.drop (k:=6)).take (k:=1),h.drop (k:=7)⟩
set_option maxHeartbeats 4000000 in
theorem pM (u:Int) (L:List Gn) (lv:Value) (w:World) (hl:Reads w lv L.length (L.flatMap bg)):ay Tryz.prog 52 [.int .i64 u,lv] w (.tuple #[.int .i64 (l3 u L).1,.int .i64 (l3 u L).2]):=by
 obtain ⟨Al,cl,rfl,hl1,hl2,hl3⟩:=hl
 refine aq Tryz.func52 rfl Tryz.ntmps52 rfl ?_
 have hA:=fun w=>wO u w
 unfold l3
 have hE:(dq u).2=if u<0∨64<u then 3 else 0:=by unfold dq;split<;>rfl
 obtain ⟨sa,has⟩: ∃ sa,sa=(dq u).1:=⟨_,rfl⟩
 rw [← has,hE] at hA
 by_cases h1:u<0∨64<u∨u=0
 ·
  rw [if_pos h1]
  by_cases h2:u<0∨64<u
  ·
   rw [if_pos h2] at hA
   repeat' (first|(apply aa;exact rfl;exact rfl;(intro w hm;exact hA w))|refine sT ?_|refine sM fun _=> ?_|(refine sC ?_ ?_<;>intro hb<;>try omega)|fail)
   all_goals first|(exfalso;omega)|((refine rT2 ?_);rfl)|trace_state
  ·
   rw [if_neg h2] at hA
   repeat' (first|(apply aa;exact rfl;exact rfl;(intro w hm;exact hA w))|refine sT ?_|refine sM fun _=> ?_|(refine sC ?_ ?_<;>intro hb<;>try omega)|fail)
   all_goals first|(exfalso;omega)|((refine rT2 ?_);rfl)|trace_state
 rw [if_neg h1]
 rw [if_neg (by omega)] at hA
 by_cases h64:64<L.length
 ·
  rw [if_pos h64]
  repeat' (first|(apply aa;exact rfl;exact rfl;(intro w hm;exact hA w))|refine sT ?_|refine sM fun _=> ?_|(refine sC ?_ ?_<;>intro hb<;>try omega)|fail)
  all_goals first|(exfalso;omega)|((refine rT2 ?_);rfl)|trace_state
 rw [if_neg h64]
 repeat' (first|(apply aa;exact rfl;exact rfl;(intro w hm;exact hA w))|refine sT ?_|refine sM fun _=> ?_|(refine sC ?_ ?_<;>intro hb<;>try omega)|fail)
 all_goals try (exfalso;omega)
 refine ax [1,6,23,24] rfl (fun i:Nat=> [(25,.int .i64 (i:Int))]) (fun _=> []) (fun i=>i≤L.length∧gQ u L 0=gQ u (L.drop i) (i:Int)) (fun i=>L.length - i) 0 ⟨LS _,rfl⟩ sB mS ?_
 rintro i ⟨hi,hrec⟩
 by_cases hlt:i<L.length
 ·
  obtain ⟨gl,ol,rfl,hrl⟩:=hl3 (by omega)
  have he1:=hrl.elem bR i hlt
  rw [LJ hlt,gQ,Km,← has] at hrec
  generalize L[i]=r at hrec he1
  have hck:=fun w=>fS r.rect w
  have hhs:=fun w=>oC sa r.by_ w
  generalize fU sa r.by_=hb at hhs hrec
  repeat' (first|(apply aa;exact rfl;exact rfl;(intro w hm;exact hck w))|(apply aa;exact rfl;exact rfl;(intro w hm;exact hhs w))|(apply ak;exact rfl;apply dE (b:=sa);exact rfl;exact rfl)|(apply ak;exact rfl;apply gJ (b:=0#64);exact rfl;exact rfl)|refine sT ?_|refine sN ?_|refine sO ?_|refine sM fun _=> ?_|(refine sC ?_ ?_<;>intro hb<;>try omega)|fail)
  all_goals first
   |(exfalso;omega)
   |((refine rT2 ?_);rw [hrec,if_pos (gA hb)];done)
   |((refine rT2 ?_);rw [hrec,if_neg (eu ‹_›),if_pos (by first|(rw [decide_eq_false (show ¬ (1:Int)≤r.fns by omega)];rfl)|(rw [decide_eq_false (show ¬ r.fns≤(31:Int) by omega),Mq];rfl)|(rw [decide_eq_false hb,Mq];rfl)|(rw [hb,Mq]))];done)
   |(refine ⟨i+1,⟨hlt,by rw [hrec,if_neg (eu ‹_›),if_neg (by simp_all)];rfl⟩,by omega,by exact sB,by exact sB,by exact mS⟩;done)
   |trace_state
 ·
  have e:i=L.length:=by omega
  subst e
  rw [LU,gQ] at hrec
  rw [hrec]
  repeat' (first|refine sT ?_|refine sM fun _=> ?_|(refine sC ?_ ?_<;>intro hb<;>try omega)|fail)
  all_goals first|(exfalso;omega)|((refine rT2 ?_);rfl)|trace_state
end Go.SL
namespace Go.Proofs
open Go Go.Shelf Go.RowKit Go.Lib Go.Sort Go.SL
def Tryz.sortIn_ren:Go.Shelf.Ren:=⟨fun|5=>164|8=>138|7=>212|19=>177|20=>178|10=>260|11=>261|12=>262|13=>263|14=>264|15=>265|16=>266|17=>267|18=>268|30=>303|31=>218|32=>219|33=>304|34=>305|35=>149|40=>326|n=>n,fun|23=>102|25=>3|3=>3|32=>75|22=>102|0=>0|44=>265|46=>34|4=>4|36=>258|35=>257|41=>262|5=>5|9=>9|53=>303|57=>307|63=>351|64=>352|n=>n,fun|n=>n⟩
theorem Tryz.sortIn:Go.Proofs.SlLaysM.n5 Tryz.prog Tryz.sortIn_ren:={
 mixed:=by kernel_rfl
 f5:=⟨Tryz.f164.name,by decide,Tryz.func164.trans (congrArg some (by kernel_rfl))⟩
 f7:=⟨Tryz.f212.name,by decide,Tryz.func212.trans (congrArg some (by kernel_rfl))⟩
 f8:=Tryz.func138.trans (congrArg some (by kernel_rfl))
 f10:=⟨Tryz.f260.name,by decide,Tryz.func260.trans (congrArg some (by kernel_rfl))⟩
 f11:=⟨Tryz.f261.name,by decide,Tryz.func261.trans (congrArg some (by kernel_rfl))⟩
 f12:=⟨Tryz.f262.name,by decide,Tryz.func262.trans (congrArg some (by kernel_rfl))⟩
 f13:=⟨Tryz.f263.name,by decide,Tryz.func263.trans (congrArg some (by kernel_rfl))⟩
 f14:=⟨Tryz.f264.name,by decide,Tryz.func264.trans (congrArg some (by kernel_rfl))⟩
 f15:=⟨Tryz.f265.name,by decide,Tryz.func265.trans (congrArg some (by kernel_rfl))⟩
 f16:=⟨Tryz.f266.name,by decide,Tryz.func266.trans (congrArg some (by kernel_rfl))⟩
 f17:=⟨Tryz.f267.name,by decide,Tryz.func267.trans (congrArg some (by kernel_rfl))⟩
 f18:=⟨Tryz.f268.name,by decide,Tryz.func268.trans (congrArg some (by kernel_rfl))⟩
 f19:=Tryz.func177.trans (congrArg some (by kernel_rfl))
 f20:=Tryz.func178.trans (congrArg some (by kernel_rfl))
 f30:=⟨Tryz.f303.name,by decide,Tryz.func303.trans (congrArg some (by kernel_rfl))⟩
 f31:=Tryz.func218.trans (congrArg some (by kernel_rfl))
 f32:=Tryz.func219.trans (congrArg some (by kernel_rfl))
 f33:=⟨Tryz.f304.name,by decide,Tryz.func304.trans (congrArg some (by kernel_rfl))⟩
 f34:=⟨Tryz.f305.name,by decide,Tryz.func305.trans (congrArg some (by kernel_rfl))⟩
 f35:=⟨Tryz.f149.name,by decide,Tryz.func149.trans (congrArg some (by kernel_rfl))⟩
 f40:=⟨Tryz.f326.name,by decide,Tryz.func326.trans (congrArg some (by kernel_rfl))⟩
 t0:=Tryz.underlying0
 a0:=Tryz.isAgg0
 z0:=Tryz.sizeOf0
 v0:=Tryz.zeroValue0
 t3:=Tryz.underlying3
 a3:=Tryz.isAgg3
 z3:=Tryz.sizeOf3
 v3:=Tryz.zeroValue3
 t4:=Tryz.underlying4
 a4:=Tryz.isAgg4
 z4:=Tryz.sizeOf4
 v4:=Tryz.zeroValue4
 t5:=Tryz.underlying5
 a5:=Tryz.isAgg5
 z5:=Tryz.sizeOf5
 v5:=Tryz.zeroValue5
 t9:=Tryz.underlying9
 a9:=Tryz.isAgg9
 z9:=Tryz.sizeOf9
 v9:=Tryz.zeroValue9
 t22:=Tryz.underlying102
 a22:=Tryz.isAgg102
 z22:=Tryz.sizeOf102
 v22:=Tryz.zeroValue102
 t23:=Tryz.underlying102
 a23:=Tryz.isAgg102
 z23:=Tryz.sizeOf102
 v23:=Tryz.zeroValue102
 t25:=Tryz.underlying3
 a25:=Tryz.isAgg3
 z25:=Tryz.sizeOf3
 v25:=Tryz.zeroValue3
 t32:=Tryz.underlying75
 a32:=Tryz.isAgg75
 z32:=Tryz.sizeOf75
 v32:=Tryz.zeroValue75
 t35:=Tryz.underlying257
 a35:=Tryz.isAgg257
 z35:=Tryz.sizeOf257
 v35:=Tryz.zeroValue257
 t36:=Tryz.underlying258
 a36:=Tryz.isAgg258
 z36:=Tryz.sizeOf258
 v36:=Tryz.zeroValue258
 t41:=Tryz.underlying262
 a41:=Tryz.isAgg262
 z41:=Tryz.sizeOf262
 v41:=Tryz.zeroValue262
 t44:=Tryz.underlying265
 a44:=Tryz.isAgg265
 z44:=Tryz.sizeOf265
 v44:=Tryz.zeroValue265
 t46:=Tryz.underlying34
 a46:=Tryz.isAgg34
 z46:=Tryz.sizeOf34
 v46:=Tryz.zeroValue34
 t53:=Tryz.underlying303
 a53:=Tryz.isAgg303
 z53:=Tryz.sizeOf303
 v53:=Tryz.zeroValue303
 t57:=Tryz.underlying307
 a57:=Tryz.isAgg307
 z57:=Tryz.sizeOf307
 v57:=Tryz.zeroValue307
 t63:=Tryz.underlying351
 a63:=Tryz.isAgg351
 z63:=Tryz.sizeOf351
 v63:=Tryz.zeroValue351
 t64:=Tryz.underlying352
 a64:=Tryz.isAgg352
 z64:=Tryz.sizeOf352
 v64:=Tryz.zeroValue352 }
end Go.Proofs
namespace Go.SL
open Go Go.Proofs Go.Sort Go.Shelf
theorem xE {α:Type} [Inhabited α] {enc:α→Value} (w:World) (g n:Nat) (d:Array α) (os:Array Obj):w.grownBy (grow (putRow enc (Sort.ahead w n) g 0 d) os) (some g):={
 os:=rfl
 tape:=rfl
 output:=rfl
 size:=by
  show w.heap.size≤((w.heap.modify g _)++os).size
  rw [Array.size_append,Array.size_modify]
  omega
 block k hk hne:=by
  show ((w.heap.modify g _)++os)[k]? =_
  rw [MS (by rw [Array.size_modify];exact hk),NT,if_neg (fun e=>hne (by rw [e]))] }
theorem Aj {α:Type} [Inhabited α] {enc:α→Value} (w:World) (g n:Nat) (d:Array α) (os:Array Obj) (c:Array Value) (T:TypeId) (fr:Nat × Nat) (h:w.heap[g]? =some (.cells c T fr)):
  (grow (putRow enc (Sort.ahead w n) g 0 d) os).heap[g]? =some (.cells (putCells enc 0 d c) T fr):=by
 have hlt:g<w.heap.size:=(Mb.1 h).1
 show ((w.heap.modify g _)++os)[g]? =_
 rw [MS (by rw [Array.size_modify];exact hlt),NT,if_pos rfl,h]
 rfl
theorem AQ (L:List Int) (xs junk:List Value) (hl:xs.length=L.length):putCells eP 0 L.toArray (xs++junk).toArray=(L.map eP++junk).toArray:=by
 apply Array.ext_getElem?
 intro j
 simp only [putCells,Array.getElem?_mapIdx,Mr,NN,LS,true_and,LZ,Np]
 by_cases hj:j<L.length
 ·
  rw [MO (by omega),MO (by rw [MF];omega),MD,LF (by omega),LF hj]
  simp [hj]
 ·
  rw [MC (by omega),MC (by rw [MF];omega),hl,MF]
  simp [hj]
set_option maxHeartbeats 1000000 in
theorem xD (L:List Int) (A:Option Nat) (cap:Nat) (hL:L.length≤1000000) (R:List Blk) (w0:World):
  FnIn Tryz.prog 164 [sl A L.length cap] w0 (.own A 3 1 L.length cap (L.map eP)::R) fun v H=>v= .tuple #[]∧H= .own A 3 1 L.length cap ((ik L).map eP)::R:=by
 have hl:(ik L).length=L.length:=(gq L).length_eq
 cases A with
 |none=>
  intro w hm
  obtain ⟨⟨h1,h2,h3,h4⟩,_⟩:=hm.on _ LI
  obtain ⟨h5,h6⟩:=h4
  have hnil:L= []:=M5.1 h5
  subst hnil
  subst h6
  have he:ik []= []:=M5.1 hl
  refine Calls.mono (AnyM.slices_Sort_int_none Tryz.sortIn none 0 w) ?_
  rintro e w' ⟨rfl,rfl⟩
  exact ⟨_,_,rfl,hm,rfl,by rw [he]⟩
 |some g=>
  intro w hm
  obtain ⟨⟨h1,h2,h3,junk,h4,h5⟩,hkk⟩:=hm.on _ LI
  have hlt:g<w.heap.size:=(Mb.1 h5).1
  have hH:Holds eP w g 0 L.toArray:=by
   intro j hj
   simp only [NN] at hj
   have hc:(L.map eP++junk).toArray[j]? =some (eP L.toArray[j]!):=by
    rw [Mr,MO (by rw [MF];exact hj),MD,LF hj]
    simp [hj]
   constructor
   ·
    simp only [World.cell?,LZ,h5]
    exact hc
   ·
    simp [World.frozen?,h5]
  have hs:=AnyM.slices_Sort_int Tryz.sortIn g 0 cap L w hH hlt (by omega)
  refine hs.mono ?_
  rintro e w' ⟨rfl,n,os,rfl⟩
  refine ⟨_,_,rfl,hm.upd (xE _ _ _ _ _) (b' := .own (some g) 3 1 L.length cap ((ik L).map eP)) ?_ fun k hk=> .inl hk,rfl,rfl⟩
  refine ⟨by rw [MF,hl,Ni],h2,h3,junk,by rw [LC,MF,hl,← Ni L.length,← h1,← LC];exact h4,?_⟩
  have h6:=Aj (enc:=eP) w g n (ik L).toArray os _ _ _ h5
  rw [AQ (ik L) _ _ (by rw [hl,h1,Ni])] at h6
  exact h6
end Go.SL
namespace Go.SL
open Go Go.Proofs
attribute [local irreducible] W WL WQ WG WA WX WLI WR WT WC WE VOp RW thn blk bS scp bq bF cj aS FnIn FnP ceP
def Ek (p q:Pz):Int:=if p.rect.r1≠q.rect.r1 then p.rect.r1 - q.rect.r1 else p.rect.c1 - q.rect.c1
def qY (p:Pz):Prop:=0≤p.rect.r1∧p.rect.r1≤100000∧0≤p.rect.c1∧p.rect.c1≤100000
theorem I7 (p q:Pz) (hp:qY p) (hq:qY q) (w:World):ay Tryz.prog 134 [.agg (cU p).toArray,.agg (cU q).toArray] w (.int .i64 (Ek p q)):=by
 refine aq Tryz.func134 rfl Tryz.ntmps134 rfl ?_
 obtain ⟨h1,h2,h3,h4⟩:=hp
 obtain ⟨h5,h6,h7,h8⟩:=hq
 repeat' (first|refine sT ?_|refine sJ ?_|refine sM fun _=> ?_|(refine sC ?_ ?_<;>intro hb<;>try omega)|fail)
 all_goals first
  |(exfalso;omega)
  |((refine rT1 ?_);rw [Ek,if_pos hb];done)
  |((refine rT1 ?_);rw [Ek,if_neg (fun h=>h hb)];done)
  |((refine rT1 ?_);rw [Ek,if_neg (fun h=>hb h)];done)
  |trace_state
structure InZ (L:List Pz):Prop where
 sort:L.Pairwise F5
 small: ∀ p∈L,qY p
 len:L.length≤1000000
theorem InZ.cmp {L:List Pz} (h:InZ L) {i j:Nat} (hij:i≤j) (hj:j<L.length): ∃ z:Int,0≤z∧ ∀ w,ay Tryz.prog 134 [.agg (cU L[j]).toArray,.agg (cU (L[i]'(by omega))).toArray] w (.int .i64 z):=by
 refine ⟨_,?_,fun w=>I7 _ _ (h.small _ (Mw hj)) (h.small _ (Mw _)) w⟩
 by_cases e:i=j
 ·
  subst e;simp [Ek]
 ·
  have:=List.pairwise_iff_getElem.1 h.sort i j (by omega) hj (by omega)
  unfold Ek
  rcases this with h1|⟨h1,h2⟩
  ·
   rw [if_pos (by omega)];omega
  ·
   rw [if_neg (by omega)];omega
abbrev I8:Value:= .func (.func 134) #[] #[]
set_option maxHeartbeats 4000000 in
theorem IM (L:List Pz) (hL:InZ L) (lv:Value) (w:World) (hl:Reads w lv L.length (L.flatMap cU)) (a b:Nat) (hb:b≤L.length) (ha:a≤L.length):
  ay Tryz.prog 213 [lv,.int .i64 (a:Int),.int .i64 (b:Int),I8] w (.tuple #[]):=by
 obtain ⟨Al,cl,rfl,hl1,hl2,hl3⟩:=hl
 refine aq Tryz.func213 rfl Tryz.ntmps213 rfl ?_
 have hlen:=hL.len
 repeat' (first|refine sT ?_|refine sS ?_|refine sN ?_|refine sM fun _=> ?_|(refine sC ?_ ?_<;>intro hb<;>try omega)|fail)
 refine ax [0,1,2,3] rfl (fun i:Nat=> [(8,.int .i64 (i:Int))]) (fun _=> []) (fun i=>a+1≤i∧i≤max b (a+1)) (fun i=>max b (a+1) - i) (a+1) ⟨LK _,by omega⟩ sB mS ?_
 rintro i ⟨hi,hi2⟩
 by_cases hlt:i<b
 ·
  obtain ⟨gl,ol,rfl,hrl⟩:=hl3 (by omega)
  obtain ⟨z,hz,hc⟩:=hL.cmp (i:=i - 1) (j:=i) (by omega) (by omega)
  have h1:=hrl.elem cL i (by omega)
  have h2:=hrl.elem cL (i - 1) (by omega)
  generalize L[i]'(by omega)=p at h1 hc
  generalize L[i - 1]'(by omega)=q at h2 hc
  repeat' (first|refine sT ?_|refine sS ?_|refine sN ?_|refine sM fun _=> ?_|(refine sC ?_ ?_<;>intro hb<;>try omega)|fail)
  all_goals try (exfalso;omega)
  refine ax [0,1,2,3,8] rfl (fun _:Unit=> [(9,.int .i64 (i:Int))]) (fun _=> []) (fun _=>True) (fun _=>0) () trivial sB mS ?_
  rintro _ _
  repeat' (first|(apply fN (id:=4);kernel_rfl;kernel_rfl)|(apply aK (d:=25);exact rfl;apply aj (j:=i);exact rfl;exact rfl;omega)|(apply aK (d:=30);exact rfl;apply aj (j:=i - 1);exact rfl;exact rfl;omega)|(apply aK (d:=26);exact rfl;apply aA (xs:=cU p);exact rfl;exact h1;exact rfl)|(apply aK (d:=31);exact rfl;apply aA (xs:=cU q);exact rfl;exact h2;exact rfl)|(apply f9;exact rfl;exact rfl;infer_instance;exact rfl;(intro w' _;exact hc w'))|refine sT ?_|refine sS ?_|refine sQ ?_|refine sN ?_|refine sNQ ?_|refine sO ?_|refine sOQ ?_|refine sD ?_|refine sM fun _=> ?_|(refine sC ?_ ?_<;>intro hb<;>try omega)|(refine sCQ ?_ ?_<;>intro hb<;>try omega)|fail)
  all_goals first
   |(exfalso;omega)
   |(refine ⟨i+1,⟨by omega,by omega⟩,by omega,by exact sB,by exact sB,by exact mS⟩;done)
   |trace_state
 ·
  repeat' (first|refine sT ?_|refine sS ?_|refine sM fun _=> ?_|(refine sC ?_ ?_<;>intro hb<;>try omega)|fail)
  all_goals first
   |(exfalso;omega)
   |(exact gX eIO rfl (MSub.nil _) rfl)
   |trace_state
section
variable {P:Program} {n:Fr} {w0:World} {Q:bI} {s:az} {H:List Blk} {l rest:List Oper} {ty:TypeId} {p:String} {af:Array Edge}
theorem tY {x:Operand} {a:Nat} {t t' :TypeId} {d:TypeDesc} [hs:Und P t d] [hd:Und P t' (.int .u64)] (hx:ev s x=some (.int .i64 (a:Nat))) (h:a≤maxLen):VOp P w0 s H (.convert t t' x) ty (.int .u64 (a:Nat)):=
 bJ (k:= .i64) hx (by rw [IntKind.wrap_u64];simp only [maxLen] at h;omega)
theorem tZ {x:Operand} {a:Nat} {t t' :TypeId} {d:TypeDesc} [hs:Und P t d] [hd:Und P t' (.int .i64)] (hx:ev s x=some (.int .u64 (a:Nat))) (h:a≤maxLen):VOp P w0 s H (.convert t t' x) ty (.int .i64 (a:Nat)):=
 bJ (k:= .u64) hx (I64.wrap ⟨by omega,by simp only [maxLen] at h;omega⟩)
theorem oP {x y:Operand} {a:Nat} {t t' :TypeId} (hx:ev s x=some (.int .u64 (a:Nat))) (hy:ev s y=some (.int .u64 1)):VOp P w0 s H (.binOp .shr t x y t') ty (.int .u64 ((a / 2:Nat):Int)):=by
 have h:=E9 (P:=P) (w0:=w0) (H:=H) (ty:=ty) (t:=t) (t' :=t') (m:=1) hx hy rfl
 have e:((a:Int) / 2 ^ 1)=((a / 2:Nat):Int):=by omega
 rwa [e] at h
theorem vG {x y:Operand} {a b:Nat} {t t' :TypeId} (hx:ev s x=some (.int .i64 (a:Nat))) (hy:ev s y=some (.int .i64 (b:Nat))) (ha:a*b≤maxLen):VOp P w0 s H (.binOp .mul t x y t') ty (.int .i64 ((a*b:Nat):Int)):=by
 rw [Int.natCast_mul]
 have e:((a:Int)*b)=((a*b:Nat):Int):=(Int.natCast_mul a b).symm
 exact qK hx hy ⟨by rw [e];omega,by rw [e];simp only [maxLen] at ha;omega⟩
end
set_option maxHeartbeats 16000000 in
theorem Cw (L:List Pz) (hL:InZ L) (lv:Value) (w:World) (hl:Reads w lv L.length (L.flatMap cU)): ∀ (k a m b:Nat),b - a≤k→a<m→m<b→b≤L.length→ ∀ w',(∃ H',Mem w w' H')→
  ay Tryz.prog 214 [lv,.int .i64 (a:Int),.int .i64 (m:Int),.int .i64 (b:Int),I8] w' (.tuple #[])
 |0,a,m,b,hk,h1,h2,_=>by omega
 |k+1,a,m,b,hk,h1,h2,h3=>by
  intro w' ⟨H',hm'⟩
  have hl' :=hl.of_w0 hm'
  have IH:=fun (a m b:Nat) (g1:b - a≤k) (g2:a<m) (g3:m<b) (g4:b≤L.length) (w2:World) (H2:List Blk) (hm2:Mem w' w2 H2)=>Cw L hL lv w' hl' k a m b g1 g2 g3 g4 w2 ⟨H2,hm2⟩
  have hl0:=hl'
  obtain ⟨Al,cl,rfl,hl1,hl2,hl3⟩:=hl'
  refine aq Tryz.func214 rfl Tryz.ntmps214 rfl ?_
  have hlen:=hL.len
  obtain ⟨gl,ol,rfl,hrl⟩:=hl3 (by omega)
  by_cases c1:m - a=1
  ·
   repeat' (first|refine sT ?_|refine sS ?_|refine sN ?_|refine sM fun _=> ?_|(refine sC ?_ ?_<;>intro hb<;>try omega)|fail)
   all_goals try (exfalso;omega)
   refine ax [0,1,2,3,4,10] rfl (fun j:Nat=> [(11,.int .i64 (j:Int))]) (fun _=> []) (fun j=>m≤j∧j≤b) (fun j=>j - m) b ⟨by omega,by omega⟩ sB mS ?_
   rintro j ⟨hj1,hj2⟩
   by_cases hlt:m<j
   ·
    obtain ⟨z,hz,hc⟩:=hL.cmp (i:=a) (j:=(m+j) / 2) (by omega) (by omega)
    have r1:=hrl.elem cL ((m+j) / 2) (by omega)
    have r2:=hrl.elem cL a (by omega)
    generalize L[(m+j) / 2]'(by omega)=p at r1 hc
    generalize L[a]'(by omega)=q at r2 hc
    repeat' (first|(apply ak;exact rfl;apply tY (a:=m+j);exact rfl;(simp only [maxLen];omega))|(apply ak;exact rfl;apply oP (a:=m+j);exact rfl;exact rfl)|(apply ak;exact rfl;apply tZ (a:=(m+j) / 2);exact rfl;(simp only [maxLen];omega))|(apply fN (id:=5);kernel_rfl;kernel_rfl)|(apply aK (d:=43);exact rfl;apply aj (j:=(m+j) / 2);exact rfl;exact rfl;omega)|(apply aK (d:=47);exact rfl;apply aj (j:=a);exact rfl;exact rfl;omega)|(apply aK (d:=44);exact rfl;apply aA (xs:=cU p);exact rfl;exact r1;exact rfl)|(apply aK (d:=48);exact rfl;apply aA (xs:=cU q);exact rfl;exact r2;exact rfl)|(apply f9;exact rfl;exact rfl;infer_instance;exact rfl;(intro w' _;exact hc w'))|refine sT ?_|refine sS ?_|refine sQ ?_|refine sN ?_|refine sNQ ?_|refine sD ?_|refine sM fun _=> ?_|(refine sC ?_ ?_<;>intro hb<;>try omega)|(refine sCQ ?_ ?_<;>intro hb<;>try omega)|fail)
    all_goals first
     |(exfalso;omega)
     |(refine ⟨(m+j) / 2,⟨by omega,by omega⟩,by omega,by exact sB,by exact sB,by exact mS⟩;done)
     |trace_state
   ·
    have e:j=m:=by omega
    subst e
    repeat' (first|refine sT ?_|refine sS ?_|refine sN ?_|refine sM fun _=> ?_|(refine sC ?_ ?_<;>intro hb<;>try omega)|fail)
    all_goals try (exfalso;omega)
    refine ax [0,1,2,3,4,10] rfl (fun _:Unit=> [(13,.int .i64 (a:Int))]) (fun _=> []) (fun _=>True) (fun _=>0) () trivial sB mS ?_
    rintro _ _
    repeat' (first|refine sT ?_|refine sS ?_|refine sN ?_|refine sM fun _=> ?_|(refine sC ?_ ?_<;>intro hb<;>try omega)|fail)
    all_goals first
     |(exfalso;omega)
     |(exact gX eIO rfl (MSub.nil _) rfl)
     |trace_state
  by_cases c2:b - m=1
  ·
   repeat' (first|refine sT ?_|refine sS ?_|refine sN ?_|refine sM fun _=> ?_|(refine sC ?_ ?_<;>intro hb<;>try omega)|fail)
   all_goals try (exfalso;omega)
   refine ax [0,1,2,3,4,15] rfl (fun i:Nat=> [(14,.int .i64 (i:Int))]) (fun _=> []) (fun i=>a≤i∧i≤m) (fun i=>m - i) a ⟨by omega,by omega⟩ sB mS ?_
   rintro i ⟨hi1,hi2⟩
   by_cases hlt:i<m
   ·
    obtain ⟨z,hz,hc⟩:=hL.cmp (i:=(i+m) / 2) (j:=m) (by omega) (by omega)
    have r1:=hrl.elem cL m (by omega)
    have r2:=hrl.elem cL ((i+m) / 2) (by omega)
    generalize L[m]'(by omega)=p at r1 hc
    generalize L[(i+m) / 2]'(by omega)=q at r2 hc
    repeat' (first|(apply ak;exact rfl;apply tY (a:=i+m);exact rfl;(simp only [maxLen];omega))|(apply ak;exact rfl;apply oP (a:=i+m);exact rfl;exact rfl)|(apply ak;exact rfl;apply tZ (a:=(i+m) / 2);exact rfl;(simp only [maxLen];omega))|(apply fN (id:=17);kernel_rfl;kernel_rfl)|(apply aK (d:=95);exact rfl;apply aj (j:=m);exact rfl;exact rfl;omega)|(apply aK (d:=99);exact rfl;apply aj (j:=(i+m) / 2);exact rfl;exact rfl;omega)|(apply aK (d:=96);exact rfl;apply aA (xs:=cU p);exact rfl;exact r1;exact rfl)|(apply aK (d:=100);exact rfl;apply aA (xs:=cU q);exact rfl;exact r2;exact rfl)|(apply f9;exact rfl;exact rfl;infer_instance;exact rfl;(intro w' _;exact hc w'))|refine sT ?_|refine sS ?_|refine sQ ?_|refine sN ?_|refine sNQ ?_|refine sD ?_|refine sM fun _=> ?_|(refine sC ?_ ?_<;>intro hb<;>try omega)|(refine sCQ ?_ ?_<;>intro hb<;>try omega)|fail)
    all_goals first
     |(exfalso;simp at hb;omega)
     |(exfalso;omega)
     |(refine ⟨(i+m) / 2+1,⟨by omega,by omega⟩,by omega,by exact sB,by exact sB,by exact mS⟩;done)
     |trace_state
   ·
    have e:i=m:=by omega
    subst e
    repeat' (first|refine sT ?_|refine sS ?_|refine sN ?_|refine sM fun _=> ?_|(refine sC ?_ ?_<;>intro hb<;>try omega)|fail)
    all_goals try (exfalso;omega)
    refine ax [0,1,2,3,4,14] rfl (fun _:Unit=> [(17,.int .i64 (i:Int))]) (fun _=> []) (fun _=>True) (fun _=>0) () trivial sB mS ?_
    rintro _ _
    repeat' (first|refine sT ?_|refine sS ?_|refine sN ?_|refine sM fun _=> ?_|(refine sC ?_ ?_<;>intro hb<;>try omega)|fail)
    all_goals first
     |(exfalso;omega)
     |(exact gX eIO rfl (MSub.nil _) rfl)
     |trace_state
  obtain ⟨d,hd⟩: ∃ d,d=(a+b) / 2:=⟨_,rfl⟩
  by_cases c3:d<m
  ·
   repeat' (first|(apply ak (d:=132);exact rfl;apply tY (a:=a+b);exact rfl;(simp only [maxLen];omega))|(apply ak (d:=133);exact rfl;apply oP (a:=a+b);exact rfl;exact rfl)|(apply ak (d:=134);exact rfl;(rw [← hd];apply tZ (a:=d));exact rfl;(simp only [maxLen];omega))|refine sT ?_|refine sS ?_|refine sN ?_|refine sM fun _=> ?_|(refine sC ?_ ?_<;>intro hb<;>try omega)|fail)
   all_goals try (exfalso;omega)
   refine ax [0,1,2,3,4,18,19,21,22] rfl (fun st:Nat=> [(20,.int .i64 (st:Int))]) (fun _=> []) (fun st=>d+m - b≤st∧st≤d) (fun st=>d - st) (d+m - b) ⟨by omega,by omega⟩ sB mS ?_
   rintro st ⟨hs1,hs2⟩
   by_cases hlt:st<d
   ·
    obtain ⟨z,hz,hc⟩:=hL.cmp (i:=(st+d) / 2) (j:=d+m - 1 - (st+d) / 2) (by omega) (by omega)
    have r1:=hrl.elem cL (d+m - 1 - (st+d) / 2) (by omega)
    have r2:=hrl.elem cL ((st+d) / 2) (by omega)
    generalize L[d+m - 1 - (st+d) / 2]'(by omega)=p at r1 hc
    generalize L[(st+d) / 2]'(by omega)=q at r2 hc
    repeat' (first|(apply ak;exact rfl;apply tY (a:=st+d);exact rfl;(simp only [maxLen];omega))|(apply ak;exact rfl;apply oP (a:=st+d);exact rfl;exact rfl)|(apply ak;exact rfl;apply tZ (a:=(st+d) / 2);exact rfl;(simp only [maxLen];omega))|(apply fN (id:=35);kernel_rfl;kernel_rfl)|(apply aK (d:=163);exact rfl;apply aj (j:=d+m - 1 - (st+d) / 2);exact rfl;exact rfl;omega)|(apply aK (d:=167);exact rfl;apply aj (j:=(st+d) / 2);exact rfl;exact rfl;omega)|(apply aK (d:=164);exact rfl;apply aA (xs:=cU p);exact rfl;exact r1;exact rfl)|(apply aK (d:=168);exact rfl;apply aA (xs:=cU q);exact rfl;exact r2;exact rfl)|(apply f9;exact rfl;exact rfl;infer_instance;exact rfl;(intro w' _;exact hc w'))|refine sT ?_|refine sS ?_|refine sQ ?_|refine sN ?_|refine sNQ ?_|refine sD ?_|refine sM fun _=> ?_|(refine sC ?_ ?_<;>intro hb<;>try omega)|(refine sCQ ?_ ?_<;>intro hb<;>try omega)|fail)
    all_goals first
     |(exfalso;simp at hb;omega)
     |(exfalso;omega)
     |(refine ⟨(st+d) / 2+1,⟨by omega,by omega⟩,by omega,by exact sB,by exact sB,by exact mS⟩;done)
     |trace_state
   ·
    have e:st=d:=by omega
    subst e
    repeat' (first|(apply ak (d:=177);exact rfl;apply jr (a:=st+m) (b:=st);exact rfl;exact rfl;omega;(simp only [maxLen];omega))|(apply aa (f:=214);exact rfl;exact rfl;(intro w2 hm2;(first|exact IH st (st+m - st) b (by omega) (by omega) (by omega) h3 w2 _ hm2)))|refine sT ?_|refine sS ?_|refine sN ?_|refine sM fun _=> ?_|(refine sC ?_ ?_<;>intro hb<;>try omega)|fail)
    all_goals first
     |(exfalso;omega)
     |(exact gX eIO rfl (MSub.nil _) rfl)
     |trace_state
  ·
   repeat' (first|(apply ak (d:=132);exact rfl;apply tY (a:=a+b);exact rfl;(simp only [maxLen];omega))|(apply ak (d:=133);exact rfl;apply oP (a:=a+b);exact rfl;exact rfl)|(apply ak (d:=134);exact rfl;(rw [← hd];apply tZ (a:=d));exact rfl;(simp only [maxLen];omega))|refine sT ?_|refine sS ?_|refine sN ?_|refine sM fun _=> ?_|(refine sC ?_ ?_<;>intro hb<;>try omega)|fail)
   all_goals try (exfalso;omega)
   refine ax [0,1,2,3,4,18,19,21,22] rfl (fun st:Nat=> [(20,.int .i64 (st:Int))]) (fun _=> []) (fun st=>a≤st∧st≤m) (fun st=>m - st) a ⟨by omega,by omega⟩ sB mS ?_
   rintro st ⟨hs1,hs2⟩
   by_cases hlt:st<m
   ·
    obtain ⟨z,hz,hc⟩:=hL.cmp (i:=(st+m) / 2) (j:=d+m - 1 - (st+m) / 2) (by omega) (by omega)
    have r1:=hrl.elem cL (d+m - 1 - (st+m) / 2) (by omega)
    have r2:=hrl.elem cL ((st+m) / 2) (by omega)
    generalize L[d+m - 1 - (st+m) / 2]'(by omega)=p at r1 hc
    generalize L[(st+m) / 2]'(by omega)=q at r2 hc
    repeat' (first|(apply ak;exact rfl;apply tY (a:=st+m);exact rfl;(simp only [maxLen];omega))|(apply ak;exact rfl;apply oP (a:=st+m);exact rfl;exact rfl)|(apply ak;exact rfl;apply tZ (a:=(st+m) / 2);exact rfl;(simp only [maxLen];omega))|(apply fN (id:=35);kernel_rfl;kernel_rfl)|(apply aK (d:=163);exact rfl;apply aj (j:=d+m - 1 - (st+m) / 2);exact rfl;exact rfl;omega)|(apply aK (d:=167);exact rfl;apply aj (j:=(st+m) / 2);exact rfl;exact rfl;omega)|(apply aK (d:=164);exact rfl;apply aA (xs:=cU p);exact rfl;exact r1;exact rfl)|(apply aK (d:=168);exact rfl;apply aA (xs:=cU q);exact rfl;exact r2;exact rfl)|(apply f9;exact rfl;exact rfl;infer_instance;exact rfl;(intro w' _;exact hc w'))|refine sT ?_|refine sS ?_|refine sQ ?_|refine sN ?_|refine sNQ ?_|refine sD ?_|refine sM fun _=> ?_|(refine sC ?_ ?_<;>intro hb<;>try omega)|(refine sCQ ?_ ?_<;>intro hb<;>try omega)|fail)
    all_goals first
     |(exfalso;simp at hb;omega)
     |(exfalso;omega)
     |(refine ⟨(st+m) / 2+1,⟨by omega,by omega⟩,by omega,by exact sB,by exact sB,by exact mS⟩;done)
     |trace_state
   ·
    have e:st=m:=by omega
    subst e
    by_cases c4:st<d
    ·
     repeat' (first|(apply ak (d:=177);exact rfl;apply jr (a:=d+st) (b:=st);exact rfl;exact rfl;omega;(simp only [maxLen];omega))|(apply aa (f:=214);exact rfl;exact rfl;(intro w2 hm2;exact IH a st d (by omega) (by omega) (by omega) (by omega) w2 _ hm2))|refine sT ?_|refine sS ?_|refine sN ?_|refine sM fun _=> ?_|(refine sC ?_ ?_<;>intro hb<;>try omega)|fail)
     all_goals first
      |(exfalso;omega)
      |(exact gX eIO rfl (MSub.nil _) rfl)
      |trace_state
    ·
     repeat' (first|(apply ak (d:=177);exact rfl;apply jr (a:=d+st) (b:=st);exact rfl;exact rfl;omega;(simp only [maxLen];omega))|refine sT ?_|refine sS ?_|refine sN ?_|refine sM fun _=> ?_|(refine sC ?_ ?_<;>intro hb<;>try omega)|fail)
     all_goals first
      |(exfalso;omega)
      |(exact gX eIO rfl (MSub.nil _) rfl)
      |trace_state
end Go.SL

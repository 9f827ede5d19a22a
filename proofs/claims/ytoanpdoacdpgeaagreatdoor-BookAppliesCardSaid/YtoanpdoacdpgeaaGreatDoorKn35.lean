/-
  Lemmas and walks, put together: Id.
-/
import Derived.Test.YtoanpdoacdpgeaaGreatDoorKn20
import Derived.Test.YtoanpdoacdpgeaaGreatDoorKn29
set_option linter.unusedSimpArgs false
set_option linter.unusedVariables false
set_option maxRecDepth 20000
namespace Go.SL
open Go Go.Proofs
attribute [local irreducible] W WL WQ WG WA WX WLI WR WT WC WE VOp RW thn blk bE scp ba bo bL aP FnIn FnP ceP
def eV (all:BitVec 64):Int→List Ev→Int
 |_,[]=>0
 |last,x::l=>if x.step≤last then 12 else if (jx x.kind && fE all x.user)=false then 2 else if aI x.rect=false then 3 else if (decide (x.to &&& ~~~all=0#64) && fE x.to x.user)=false then 2 else eV all x.step l
def GM (all:BitVec 64) (x:Rv):Bool:=decide (0≤x.call.node) && decide (x.call.node<256) && decide (46≤x.fn) && decide (x.fn≤50) && decide (0≤x.grant) && decide (x.grant<64) && decide (x.to &&& ~~~all=0#64)
def fA (all:BitVec 64):Int→List Rv→Int
 |_,[]=>0
 |last,x::l=>if x.step<last then 12 else if (x.call.at_.valid && aI x.rect)=false then 3 else if GM all x=false then 2 else fA all x.step l
def qd (u:Int) (L:List Ev) (M:List Rv):Int:=
 if u<0∨64<u∨u=0 then 2 else if eV (df u).1 (-1) L≠0 then eV (df u).1 (-1) L else fA (df u).1 (-1) M
theorem pX {r:Rct}:aI r=false↔eP r≠0:=⟨fun h=>by rw [eP,h];decide,gU⟩
theorem Ev.ro {w:World} {g o:Nat} {r:Ev} (h:Ro w g o (aN r)):Ro w g o [.int .i64 r.step]∧Ro w g (o+1) [.int .i64 r.user]∧Ro w g (o+2) [.int .u8 r.kind]∧Ro w g (o+3) (bH r.rect)∧Ro w g (o+7) [.bool r.done]∧Ro w g (o+8) [vS r.to]:=
 ⟨h.take (k:=1),(h.drop (k:=1)).take (k:=1),(h.drop (k:=2)).take (k:=1),(h.drop (k:=3)).take (k:=4),(h.drop (k:=7)).take (k:=1),h.drop (k:=8)⟩
def jS (L:List Ev) (i:Nat):Int:=if i=0 then -1 else ((L[i - 1]?).map Ev.step).getD 0
def jR (L:List Rv) (i:Nat):Int:=if i=0 then -1 else ((L[i - 1]?).map Rv.step).getD 0
set_option maxHeartbeats 8000000 in
theorem AH (u:Int) (L:List Ev) (M:List Rv) (lv mv:Value) (w:World) (hl:Reads w lv L.length (L.flatMap aN)) (hm:Reads w mv M.length (M.flatMap bD)):ay Tryz.prog 62 [.int .i64 u,lv,mv] w (.int .i64 (qd u L M)):=by
 obtain ⟨Al,cl,rfl,hl1,hl2,hl3⟩:=hl
 obtain ⟨Am,cm,rfl,hm1,hm2,hm3⟩:=hm
 refine aq Tryz.func62 rfl Tryz.ntmps62 rfl ?_
 have hA:=fun w=>x9 u w
 unfold qd
 have hE:(df u).2=if u<0∨64<u then 3 else 0:=by unfold df;split<;>rfl
 obtain ⟨sa,has⟩: ∃ sa,sa=(df u).1:=⟨_,rfl⟩
 rw [← has,hE] at hA
 rw [← has]
 by_cases h1:u<0∨64<u∨u=0
 ·
  rw [if_pos h1]
  by_cases h2:u<0∨64<u
  ·
   rw [if_pos h2] at hA
   repeat' (first|(apply aa;exact rfl;exact rfl;(intro w hm;exact hA w))|refine sT ?_|refine sM fun _=> ?_|(refine sC ?_ ?_<;>intro hb<;>try omega)|fail)
   all_goals first|(exfalso;omega)|((refine rT1 ?_);rfl)|trace_state
  ·
   rw [if_neg h2] at hA
   repeat' (first|(apply aa;exact rfl;exact rfl;(intro w hm;exact hA w))|refine sT ?_|refine sM fun _=> ?_|(refine sC ?_ ?_<;>intro hb<;>try omega)|fail)
   all_goals first|(exfalso;omega)|((refine rT1 ?_);rfl)|trace_state
 rw [if_neg h1]
 rw [if_neg (by omega)] at hA
 repeat' (first|(apply aa;exact rfl;exact rfl;(intro w hm;exact hA w))|refine sT ?_|refine sM fun _=> ?_|(refine sC ?_ ?_<;>intro hb<;>try omega)|fail)
 all_goals try (exfalso;omega)
 obtain ⟨ef,hef⟩: ∃ ef,eV sa (-1) L=ef:=⟨_,rfl⟩
 rw [hef]
 refine ax [0,1,2,7,25,26] rfl (fun i:Nat=> [(9,.int .i64 (jS L i)),(27,.int .i64 (i:Int))]) (fun _=> []) (fun i=>i≤L.length∧ef=eV sa (jS L i) (L.drop i)) (fun i=>L.length - i) 0 ⟨Ns _,hef.symm⟩ sB mS ?_
 rintro i ⟨hi,hrec⟩
 by_cases hlt:i<L.length
 ·
  obtain ⟨gl,ol,rfl,hrl⟩:=hl3 (by omega)
  have he1:=hrl.elem fk i hlt
  have hnext:jS L (i+1)=L[i].step:=by unfold jS;rw [if_neg (by omega),OU,Nc hlt];rfl
  rw [Nn hlt,eV] at hrec
  generalize jS L i=last at hrec
  generalize L[i]=r at hnext he1 hrec
  have hck:=fun w=>gA r.rect w
  have hhs:=fun w=>pG sa r.user w
  have hht:=fun w=>pG r.to r.user w
  have hmu:=fun w=>AP r.kind w
  simp only [pX] at hrec
  generalize eP r.rect=re at hck hrec
  clear has
  generalize jx r.kind=mk at hmu hrec
  generalize fE sa r.user=hb1 at hhs hrec
  generalize fE r.to r.user=hb2 at hht hrec
  repeat' (first|(apply ak;exact rfl;apply aA;exact rfl;exact he1;exact rfl)|(apply aa;exact rfl;exact rfl;(intro w hm;exact hmu w))|(apply aa (f:=118);exact rfl;exact rfl;(intro w' _;first|exact hhs w' |exact hht w'))|(apply aa;exact rfl;exact rfl;(intro w hm;exact hck w))|(apply ak;exact rfl;apply dR (b:=sa);exact rfl;exact rfl)|(apply ak;exact rfl;apply ib (b:=0#64);exact rfl;exact rfl)|refine sT ?_|refine sS ?_|refine sN ?_|refine sO ?_|refine sM fun _=> ?_|(refine sC ?_ ?_<;>intro hb<;>try omega)|fail)
  all_goals try (have hnl: ¬ r.step≤last:=by omega)
  all_goals first
   |(exfalso;omega)
   |(refine ⟨i+1,⟨hlt,?_⟩,by omega,by (try simp only [hnext]);exact sB,by (try simp only [hnext]);exact sB,by exact mS⟩;rw [hnext];simp_all;done)
   |((refine rT1 ?_);simp_all;done)
   |trace_state
 ·
  have e:i=L.length:=by omega
  subst e
  rw [NF,eV] at hrec
  subst hrec
  rw [if_neg (by decide)]
  obtain ⟨rf,hrf⟩: ∃ rf,fA sa (-1) M=rf:=⟨_,rfl⟩
  rw [hrf]
  repeat' (first|refine sT ?_|refine sM fun _=> ?_|(refine sC ?_ ?_<;>intro hb<;>try omega)|fail)
  refine ax [0,2,7,71,72] rfl (fun i:Nat=> [(9,.int .i64 (jR M i)),(73,.int .i64 (i:Int))]) (fun _=> []) (fun i=>i≤M.length∧rf=fA sa (jR M i) (M.drop i)) (fun i=>M.length - i) 0 ⟨Ns _,hrf.symm⟩ sB mS ?_
  rintro i ⟨hi,hrec⟩
  by_cases hlt:i<M.length
  ·
   obtain ⟨gm,om,rfl,hrm⟩:=hm3 (by omega)
   have he1:=hrm.elem fj i hlt
   have hnext:jR M (i+1)=M[i].step:=by unfold jR;rw [if_neg (by omega),OU,Nc hlt];rfl
   rw [Nn hlt,fA] at hrec
   generalize jR M i=last at hrec
   generalize M[i]=r at hnext he1 hrec
   have hck:=fun w=>gA r.rect w
   have hV: ∀ w',ay Tryz.prog 71 [.agg (cw r.call.at_).toArray] w' (.bool r.call.at_.valid):=fun w' =>j6 r.call.at_.col r.call.at_.row w'
   have hok:GM sa r=false↔(r.call.node<0∨256≤r.call.node∨r.fn<46∨50<r.fn∨r.grant<0∨64≤r.grant∨r.to &&& ~~~sa≠0#64):=by
    simp only [GM,Oj,decide_eq_false_iff_not,Int.not_le,Int.not_lt,or_assoc]
   simp only [hok] at hrec
   clear hok
   simp only [Oj,pX] at hrec
   generalize eP r.rect=re at hck hrec
   clear has
   generalize r.call.at_.valid=vd at hV hrec
   by_cases h12:r.step<last
   ·
    rw [if_pos h12] at hrec
    repeat' (first|(apply ak;exact rfl;apply aA;exact rfl;exact he1;exact rfl)|(apply aa;exact rfl;exact rfl;(intro w hm;exact hV w))|(apply aa;exact rfl;exact rfl;(intro w hm;exact hck w))|(apply ak;exact rfl;apply dR (b:=sa);exact rfl;exact rfl)|(apply ak;exact rfl;apply ib (b:=0#64);exact rfl;exact rfl)|refine sT ?_|refine sS ?_|refine sN ?_|refine sO ?_|refine sM fun _=> ?_|(refine sC ?_ ?_<;>intro hb<;>try omega)|fail)
    all_goals first|(exfalso;omega)|((refine rT1 ?_);rw [hrec];done)|trace_state
   rw [if_neg h12] at hrec
   by_cases h3:vd=false∨re≠0
   ·
    rw [if_pos h3] at hrec
    repeat' (first|(apply ak;exact rfl;apply aA;exact rfl;exact he1;exact rfl)|(apply aa;exact rfl;exact rfl;(intro w hm;exact hV w))|(apply aa;exact rfl;exact rfl;(intro w hm;exact hck w))|(apply ak;exact rfl;apply dR (b:=sa);exact rfl;exact rfl)|(apply ak;exact rfl;apply ib (b:=0#64);exact rfl;exact rfl)|refine sT ?_|refine sS ?_|refine sN ?_|refine sO ?_|refine sM fun _=> ?_|(refine sC ?_ ?_<;>intro hb<;>try omega)|fail)
    all_goals first
     |(exfalso;omega)
     |(exfalso;rcases h3 with h3|h3<;>simp_all;done)
     |((refine rT1 ?_);rw [hrec];done)
     |trace_state
   rw [if_neg h3] at hrec
   obtain ⟨h31,h32⟩:=not_or.1 h3
   have h31:vd=true:=by simpa using h31
   have h32:re=0:=by omega
   subst h31;subst h32
   by_cases hD:r.call.node<0∨256≤r.call.node∨r.fn<46∨50<r.fn∨r.grant<0∨64≤r.grant∨r.to &&& ~~~sa≠0#64
   ·
    rw [if_pos hD] at hrec
    repeat' (first|(apply ak;exact rfl;apply aA;exact rfl;exact he1;exact rfl)|(apply aa;exact rfl;exact rfl;(intro w hm;exact hV w))|(apply aa;exact rfl;exact rfl;(intro w hm;exact hck w))|(apply ak;exact rfl;apply dR (b:=sa);exact rfl;exact rfl)|(apply ak;exact rfl;apply ib (b:=0#64);exact rfl;exact rfl)|refine sT ?_|refine sS ?_|refine sN ?_|refine sO ?_|refine sM fun _=> ?_|(refine sC ?_ ?_<;>intro hb<;>try omega)|fail)
    all_goals first
     |(exfalso;omega)
     |((refine rT1 ?_);rw [hrec];done)
     |(exfalso;rcases hD with h|h|h|h|h|h|h<;>first|omega|exact absurd ‹_› h)
     |trace_state
   ·
    rw [if_neg hD] at hrec
    repeat' (first|(apply ak;exact rfl;apply aA;exact rfl;exact he1;exact rfl)|(apply aa;exact rfl;exact rfl;(intro w hm;exact hV w))|(apply aa;exact rfl;exact rfl;(intro w hm;exact hck w))|(apply ak;exact rfl;apply dR (b:=sa);exact rfl;exact rfl)|(apply ak;exact rfl;apply ib (b:=0#64);exact rfl;exact rfl)|refine sT ?_|refine sS ?_|refine sN ?_|refine sO ?_|refine sM fun _=> ?_|(refine sC ?_ ?_<;>intro hb<;>try omega)|fail)
    all_goals first
     |(exfalso;omega)
     |(exfalso;exact hD (.inr (.inr (.inr (.inr (.inr (.inr hb)))))))
     |(refine ⟨i+1,⟨hlt,?_⟩,by omega,by (try simp only [hnext]);exact sB,by (try simp only [hnext]);exact sB,by exact mS⟩;rw [hnext,hrec];done)
     |trace_state
  ·
   have e:i=M.length:=by omega
   subst e
   rw [NF,fA] at hrec
   subst hrec
   repeat' (first|refine sT ?_|refine sM fun _=> ?_|(refine sC ?_ ?_<;>intro hb<;>try omega)|fail)
   all_goals first|(exfalso;omega)|((refine rT1 ?_);rfl)|trace_state
end Go.SL

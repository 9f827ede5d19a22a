/-
  Lemmas and walks, put together: Hb Id If Yb Ik0.
-/
import Derived.Test.YthgjiibbmkiplaaGreatDoorKw19
set_option linter.unusedSimpArgs false
set_option linter.unusedVariables false
set_option maxRecDepth 20000
set_option maxHeartbeats 16000000
namespace Go.SL
open Go Go.Proofs
attribute [local irreducible] W WL WQ WG WA WX WLI WR WT WC WE VOp RW thn blk bA scp aY aX bw FnAt FnIn FnP ceP
theorem M7 (a b:Rct) (w:World):aL Tryz.prog 239 [.agg (ay a).toArray,.agg (ay b).toArray] w (.bool (j9 a b)):=by
 refine aB Tryz.func239 rfl Tryz.ntmps239 rfl ?_;have hM:=fun w=>tX a b w;unfold j9;obtain ⟨c,hc⟩: ∃ c,decide ((bZ a b).1=a)=c:=⟨_,rfl⟩;rw [hc];generalize bZ a b=m at hM hc;obtain ⟨mr,mb⟩:=m;dsimp only at hM hc ⊢;cases mb
 ·repeat' first|apply aa;exact rfl;exact rfl;intro w hm;exact hM w|refine sT ?_|refine sM fun _=>?_|refine sC ?_ ?_<;>intro hb<;>try omega|fail
  all_goals first|omega|(refine rT1 ?_);rfl
 ·repeat' first|apply aa;exact rfl;exact rfl;intro w hm;exact hM w|apply ak;exact rfl;apply pW hc;exact rfl;exact rfl|refine sT ?_|refine sM fun _=>?_|refine sC ?_ ?_<;>intro hb<;>try omega|fail
  all_goals first|omega|(refine rT1 ?_);rfl
theorem EA (r:Rct) (L:List Rl) (lv:Value) (w:World) (hl:Reads w lv L.length (L.flatMap bQ)) (hb:L.length≤1000000):aL Tryz.prog 189 [.agg (ay r).toArray,lv] w (.int .i64 (jh r L:Int)):=by
 obtain ⟨Al,cl,rfl,hl1,hl2,hl3⟩:=hl;refine aB Tryz.func189 rfl Tryz.ntmps189 rfl ?_;by_cases h0:L.length=0
 ·have e:jh r L=0:=by rw [jh,h0];rfl
  rw [e];repeat' (first|refine sT ?_|refine sS ?_|refine sJ ?_|refine sM fun _=>?_|refine sC ?_ ?_<;>intro hb<;>try omega|fail)
  rename_i g2;refine ax [1,2] rfl (fun _:Unit=> [(5,.int .i64 (-1))]) (fun _=> [.box g2 31 (ay r)]) (fun _=>True) (fun _=>0) () trivial (by rw [h0];exact sB) mS ?_;rintro _ _;repeat' (first|refine sT ?_|refine sS ?_|refine sJ ?_|refine sM fun _=>?_|refine sC ?_ ?_<;>intro hb<;>try omega|fail)
  all_goals first|omega|(refine rT1 ?_);rfl
 repeat' first|refine zZA ?_|refine sM fun _=>?_|refine sC ?_ ?_<;>intro hb<;>try omega|fail
 rename_i g2;obtain ⟨gl,ol,rfl,hrl⟩:=hl3 (by omega);refine ax [1,2] rfl (fun i:Nat=> [(5,.int .i64 (i:Int))]) (fun _=> [.box g2 31 (ay r)]) (fun i=>i<L.length∧jh r L=oz r L (i+1)) (fun i=>i) (L.length - 1) ⟨by omega,by rw [aab (by omega)];rfl⟩ sB mS ?_;rintro i ⟨hi,hrec⟩;rw [oz,Xf hi] at hrec;simp only [Ys,Ze] at hrec;have hIn:=fun w=>M7 r L[i].rect w;obtain ⟨h0a,_⟩:=Rl.ro (hrl.elem dw i hi);obtain ⟨c,hcc⟩: ∃ c,j9 r L[i].rect=c:=⟨_,rfl⟩;simp only [hcc] at hIn hrec;clear hcc;generalize L[i].rect=x at h0a hIn;by_cases hi0:i=0
 ·subst hi0;have e:jh r L=0:=by rw [hrec];cases c<;>rfl
  rw [e];repeat' (first|refine zZB ?_|refine sM fun _=>?_|refine sC ?_ ?_<;>intro hb<;>try omega|fail)
  all_goals first|omega|(refine rT1 ?_);rfl
 ·cases c
  ·rw [if_neg (by decide)] at hrec;repeat' (first|apply aQ;exact rfl;apply ai (j:=i);exact rfl;exact rfl;exact hi|apply df (f:=239);exact rfl;exact rfl;intro w' _;exact hIn w'|refine zZQ ?_|refine sM fun _=>?_|refine sC ?_ ?_<;>intro hb<;>try omega|refine sCQ ?_ ?_<;>intro hb<;>try omega|fail)
   all_goals first
    |omega
    |refine ⟨i - 1,⟨by omega,by rw [aab (by omega)];exact hrec⟩,by omega,by exact sB,by exact sB,by exact mS⟩;done
  ·rw [if_pos rfl] at hrec;rw [hrec];repeat' (first|apply aQ;exact rfl;apply ai (j:=i);exact rfl;exact rfl;exact hi|apply df (f:=239);exact rfl;exact rfl;intro w' _;exact hIn w'|refine zZQ ?_|refine sM fun _=>?_|refine sC ?_ ?_<;>intro hb<;>try omega|refine sCQ ?_ ?_<;>intro hb<;>try omega|fail)
   all_goals first|omega|(refine rT1 ?_);rfl
def oT (fns fn:Int):Bool:=decide (46≤fn) && decide (fn≤50) && decide (Go.bits .and .u8 (fns / 2 ^ (fn - 46).toNat) 1=1)
theorem Qw (fns fn:Int) (w:World):aL Tryz.prog 214 [.int .u8 fns,.int .u8 fn] w (.bool (oT fns fn)):=by
 refine aB Tryz.func214 rfl Tryz.ntmps214 rfl ?_;by_cases h:46≤fn∧fn≤50
 ·obtain ⟨m,hm⟩: ∃ m:Nat,fn=46+(m:Int):=⟨(fn - 46).toNat,by omega⟩;have he:oT fns fn=decide (Go.bits .and .u8 (fns / 2 ^ m) 1=1):=by
   unfold oT;rw [decide_eq_true h.1,decide_eq_true h.2,show (fn - 46).toNat=m by omega,XT,XT]
  rw [he];have hsub:IntKind.u8.wrap (fn - 46)=(m:Int):=by rw [IntKind.wrap_u8];omega
  repeat' first|apply ak;exact rfl;apply K9 (c:=(m:Int));exact rfl;exact rfl;exact hsub|apply ak;exact rfl;apply EK (m:=m);exact rfl;exact rfl;simp [IntKind.bits];omega|apply ak;exact rfl;apply NT;exact rfl;exact rfl|refine sT ?_|refine sM fun _=>?_|refine sC ?_ ?_<;>intro hb<;>try omega|fail
  all_goals first|omega|(refine rT1 ?_);rfl
 ·have he:oT fns fn=false:=by
   unfold oT;by_cases h1:46≤fn
   ·have h2: ¬ fn≤50:=fun h2=>h ⟨h1,h2⟩;simp [h2]
   ·simp [h1]
  rw [he];repeat' (first|refine sT ?_|refine sM fun _=>?_|refine sC ?_ ?_<;>intro hb<;>try omega|fail)
  all_goals first|omega|(refine rT1 ?_);rfl
def Mo (u:Int) (g:Gn):Bool:=decide (1≤g.fns) && decide (g.fns≤31) && decide (g.to &&& ~~~(ku u).1=0#64) && gD (ku u).1 g.by_
def lO (u:Int):List Gn→Int→Int × Int
 | [],_=>(0,0)
 |g::L,i=>if aA g.rect=false then (i,3) else if Mo u g=false then (i,2) else lO u L (i+1)
def lA (u:Int) (L:List Gn):Int × Int:=
 if u<0∨64<u∨u=0 then (0,2) else if 64<L.length then (64,5) else lO u L 0
theorem o7 (u:Int) (L:List Gn) (lv:Value) (w:World) (hl:Reads w lv L.length (L.flatMap cD)):aL Tryz.prog 69 [.int .i64 u,lv] w (.tuple #[.int .i64 (lA u L).1,.int .i64 (lA u L).2]):=by
 obtain ⟨Al,cl,rfl,hl1,hl2,hl3⟩:=hl;refine aB Tryz.func69 rfl Tryz.ntmps69 rfl ?_;have hA:=fun w=>JU u w;unfold lA;have hE:(ku u).2=if u<0∨64<u then 3 else 0:=by unfold ku;split<;>rfl
 obtain ⟨sa,has⟩: ∃ sa,sa=(ku u).1:=⟨_,rfl⟩;rw [← has,hE] at hA;by_cases h1:u<0∨64<u∨u=0
 ·rw [if_pos h1];by_cases h2:u<0∨64<u
  ·rw [if_pos h2] at hA;repeat' (first|apply aa;exact rfl;exact rfl;intro w hm;exact hA w|refine sT ?_|refine sM fun _=>?_|refine sC ?_ ?_<;>intro hb<;>try omega|fail)
   all_goals first|omega|(refine rT2 ?_);rfl
  ·rw [if_neg h2] at hA;repeat' (first|apply aa;exact rfl;exact rfl;intro w hm;exact hA w|refine sT ?_|refine sM fun _=>?_|refine sC ?_ ?_<;>intro hb<;>try omega|fail)
   all_goals first|omega|(refine rT2 ?_);rfl
 rw [if_neg h1];rw [if_neg (by omega)] at hA;by_cases h64:64<L.length
 ·rw [if_pos h64];repeat' (first|apply aa;exact rfl;exact rfl;intro w hm;exact hA w|refine sT ?_|refine sM fun _=>?_|refine sC ?_ ?_<;>intro hb<;>try omega|fail)
  all_goals first|omega|(refine rT2 ?_);rfl
 rw [if_neg h64];repeat' (first|apply aa;exact rfl;exact rfl;intro w hm;exact hA w|refine sT ?_|refine sM fun _=>?_|refine sC ?_ ?_<;>intro hb<;>try omega|fail)
 all_goals try omega
 refine ax [1,6,23,24] rfl (fun i:Nat=> [(25,.int .i64 (i:Int))]) (fun _=> []) (fun i=>i≤L.length∧lO u L 0=lO u (L.drop i) (i:Int)) (fun i=>L.length - i) 0 ⟨Xn _,rfl⟩ sB mS ?_;rintro i ⟨hi,hrec⟩;by_cases hlt:i<L.length
 ·obtain ⟨gl,ol,rfl,hrl⟩:=hl3 (by omega);have he1:=hrl.elem jy i hlt;rw [XC hlt,lO,Mo,← has] at hrec;generalize L[i]=r at hrec he1;have hck:=fun w=>dQ r.rect w;have hhs:=fun w=>jc sa r.by_ w;generalize gD sa r.by_=hb at hhs hrec;repeat' (first|apply aa;exact rfl;exact rfl;intro w hm;exact hck w|apply aa;exact rfl;exact rfl;intro w hm;exact hhs w|apply ak;exact rfl;apply il (b:=sa);exact rfl;exact rfl|apply ak;exact rfl;apply m4 (b:=0#64);exact rfl;exact rfl|refine zZO ?_|refine sM fun _=>?_|refine sC ?_ ?_<;>intro hb<;>try omega|fail)
  all_goals first
   |omega
   |(refine rT2 ?_);rw [hrec,if_pos (qd hb)];done
   |(refine rT2 ?_);rw [hrec,if_neg (kR ‹_›),if_pos (by first|rw [decide_eq_false (show ¬ (1:Int)≤r.fns by omega)];rfl|rw [decide_eq_false (show ¬ r.fns≤(31:Int) by omega),Ye];rfl|rw [decide_eq_false hb,Ye];rfl|rw [hb,Ye])];done
   |refine ⟨i+1,⟨hlt,by rw [hrec,if_neg (kR ‹_›),if_neg (by simp_all)];rfl⟩,by omega,by exact sB,by exact sB,by exact mS⟩;done
 ·have e:i=L.length:=by omega
  subst e;rw [X0,lO] at hrec;rw [hrec];repeat' (first|refine sT ?_|refine sM fun _=>?_|refine sC ?_ ?_<;>intro hb<;>try omega|fail)
  all_goals first|omega|(refine rT2 ?_);rfl
def rU (all:BitVec 64):Int→List Ev→Int
 |_,[]=>0
 |last,x::l=>if x.step≤last then 12 else if (OX x.kind && gD all x.user)=false then 2 else if aA x.rect=false then 3 else if (decide (x.to &&& ~~~all=0#64) && gD x.to x.user)=false then 2 else rU all x.step l
def Uo (all:BitVec 64) (x:Rv):Bool:=decide (0≤x.call.node) && decide (x.call.node<256) && decide (46≤x.fn) && decide (x.fn≤50) && decide (0≤x.grant) && decide (x.grant<64) && decide (x.to &&& ~~~all=0#64)
def ux (all:BitVec 64):Int→List Rv→Int
 |_,[]=>0
 |last,x::l=>if x.step<last then 12 else if (x.call.at_.valid && aA x.rect)=false then 3 else if Uo all x=false then 2 else ux all x.step l
def MT (u:Int) (L:List Ev) (M:List Rv):Int:=
 if u<0∨64<u∨u=0 then 2 else if rU (ku u).1 (-1) L≠0 then rU (ku u).1 (-1) L else ux (ku u).1 (-1) M
theorem AX {r:Rct}:aA r=false↔bY r≠0:=⟨fun h=>by rw [bY,h];decide,qd⟩
theorem Ev.ro {w:World} {g o:Nat} {r:Ev} (h:Ro w g o (fF r)):Ro w g o [.int .i64 r.step]∧Ro w g (o+1) [.int .i64 r.user]∧Ro w g (o+2) [.int .u8 r.kind]∧Ro w g (o+3) (ay r.rect)∧Ro w g (o+7) [.bool r.done]∧Ro w g (o+8) [vS r.to]:=
 ⟨h.take (k:=1),(h.drop (k:=1)).take (k:=1),(h.drop (k:=2)).take (k:=1),(h.drop (k:=3)).take (k:=4),(h.drop (k:=7)).take (k:=1),h.drop (k:=8)⟩
def yG (L:List Ev) (i:Nat):Int:=if i=0 then -1 else ((L[i - 1]?).map Ev.step).getD 0
def yF (L:List Rv) (i:Nat):Int:=if i=0 then -1 else ((L[i - 1]?).map Rv.step).getD 0
theorem G6 (u:Int) (L:List Ev) (M:List Rv) (lv mv:Value) (w:World) (hl:Reads w lv L.length (L.flatMap fF)) (hm:Reads w mv M.length (M.flatMap fE)):aL Tryz.prog 70 [.int .i64 u,lv,mv] w (.int .i64 (MT u L M)):=by
 obtain ⟨Al,cl,rfl,hl1,hl2,hl3⟩:=hl;obtain ⟨Am,cm,rfl,hm1,hm2,hm3⟩:=hm;refine aB Tryz.func70 rfl Tryz.ntmps70 rfl ?_;have hA:=fun w=>JU u w;unfold MT;have hE:(ku u).2=if u<0∨64<u then 3 else 0:=by unfold ku;split<;>rfl
 obtain ⟨sa,has⟩: ∃ sa,sa=(ku u).1:=⟨_,rfl⟩;rw [← has,hE] at hA;rw [← has];by_cases h1:u<0∨64<u∨u=0
 ·rw [if_pos h1];by_cases h2:u<0∨64<u
  ·rw [if_pos h2] at hA;repeat' (first|apply aa;exact rfl;exact rfl;intro w hm;exact hA w|refine sT ?_|refine sM fun _=>?_|refine sC ?_ ?_<;>intro hb<;>try omega|fail)
   all_goals first|omega|(refine rT1 ?_);rfl
  ·rw [if_neg h2] at hA;repeat' (first|apply aa;exact rfl;exact rfl;intro w hm;exact hA w|refine sT ?_|refine sM fun _=>?_|refine sC ?_ ?_<;>intro hb<;>try omega|fail)
   all_goals first|omega|(refine rT1 ?_);rfl
 rw [if_neg h1];rw [if_neg (by omega)] at hA;repeat' (first|apply aa;exact rfl;exact rfl;intro w hm;exact hA w|refine sT ?_|refine sM fun _=>?_|refine sC ?_ ?_<;>intro hb<;>try omega|fail)
 all_goals try omega
 obtain ⟨ef,hef⟩: ∃ ef,rU sa (-1) L=ef:=⟨_,rfl⟩;rw [hef];refine ax [0,1,2,7,25,26] rfl (fun i:Nat=> [(9,.int .i64 (yG L i)),(27,.int .i64 (i:Int))]) (fun _=> []) (fun i=>i≤L.length∧ef=rU sa (yG L i) (L.drop i)) (fun i=>L.length - i) 0 ⟨Xn _,hef.symm⟩ sB mS ?_;rintro i ⟨hi,hrec⟩;by_cases hlt:i<L.length
 ·obtain ⟨gl,ol,rfl,hrl⟩:=hl3 (by omega);have he1:=hrl.elem mP i hlt;have hnext:yG L (i+1)=L[i].step:=by unfold yG;rw [if_neg (by omega),ZF,Xf hlt];rfl
  rw [XC hlt,rU] at hrec;generalize yG L i=last at hrec;generalize L[i]=r at hnext he1 hrec;have hck:=fun w=>dQ r.rect w;have hhs:=fun w=>jc sa r.user w;have hht:=fun w=>jc r.to r.user w;have hmu:=fun w=>HF r.kind w;simp only [AX] at hrec;generalize bY r.rect=re at hck hrec;clear has;generalize OX r.kind=mk at hmu hrec;generalize gD sa r.user=hb1 at hhs hrec;generalize gD r.to r.user=hb2 at hht hrec;repeat' (first|apply ak;exact rfl;apply aP;exact rfl;exact he1;exact rfl|apply aa;exact rfl;exact rfl;intro w hm;exact hmu w|apply aa (f:=65);exact rfl;exact rfl;(intro w' _;first|exact hhs w' |exact hht w')|apply aa;exact rfl;exact rfl;intro w hm;exact hck w|apply ak;exact rfl;apply il (b:=sa);exact rfl;exact rfl|apply ak;exact rfl;apply m4 (b:=0#64);exact rfl;exact rfl|refine zZN ?_|refine sM fun _=>?_|refine sC ?_ ?_<;>intro hb<;>try omega|fail)
  all_goals try (have hnl: ¬ r.step≤last:=by omega)
  all_goals first
   |omega
   |refine ⟨i+1,⟨hlt,?_⟩,by omega,by (try simp only [hnext]);exact sB,by (try simp only [hnext]);exact sB,by exact mS⟩;rw [hnext];simp_all;done
   |(refine rT1 ?_);simp_all;done
 ·have e:i=L.length:=by omega
  subst e;rw [X0,rU] at hrec;subst hrec;rw [if_neg (by decide)];obtain ⟨rf,hrf⟩: ∃ rf,ux sa (-1) M=rf:=⟨_,rfl⟩;rw [hrf];repeat' (first|refine sT ?_|refine sM fun _=>?_|refine sC ?_ ?_<;>intro hb<;>try omega|fail)
  refine ax [0,2,7,71,72] rfl (fun i:Nat=> [(9,.int .i64 (yF M i)),(73,.int .i64 (i:Int))]) (fun _=> []) (fun i=>i≤M.length∧rf=ux sa (yF M i) (M.drop i)) (fun i=>M.length - i) 0 ⟨Xn _,hrf.symm⟩ sB mS ?_;rintro i ⟨hi,hrec⟩;by_cases hlt:i<M.length
  ·obtain ⟨gm,om,rfl,hrm⟩:=hm3 (by omega);have he1:=hrm.elem mM i hlt;have hnext:yF M (i+1)=M[i].step:=by unfold yF;rw [if_neg (by omega),ZF,Xf hlt];rfl
   rw [XC hlt,ux] at hrec;generalize yF M i=last at hrec;generalize M[i]=r at hnext he1 hrec;have hck:=fun w=>dQ r.rect w;have hV: ∀ w',aL Tryz.prog 50 [.agg (aq r.call.at_).toArray] w' (.bool r.call.at_.valid):=fun w' =>iQ r.call.at_.col r.call.at_.row w';have hok:Uo sa r=false↔(r.call.node<0∨256≤r.call.node∨r.fn<46∨50<r.fn∨r.grant<0∨64≤r.grant∨r.to &&& ~~~sa≠0#64):=by
    simp only [Uo,ZH,decide_eq_false_iff_not,Int.not_le,Int.not_lt,or_assoc]
   simp only [hok] at hrec;clear hok;simp only [ZH,AX] at hrec;generalize bY r.rect=re at hck hrec;clear has;generalize r.call.at_.valid=vd at hV hrec;by_cases h12:r.step<last
   ·rw [if_pos h12] at hrec;repeat' (first|apply ak;exact rfl;apply aP;exact rfl;exact he1;exact rfl|apply aa;exact rfl;exact rfl;intro w hm;exact hV w|apply aa;exact rfl;exact rfl;intro w hm;exact hck w|apply ak;exact rfl;apply il (b:=sa);exact rfl;exact rfl|apply ak;exact rfl;apply m4 (b:=0#64);exact rfl;exact rfl|refine zZN ?_|refine sM fun _=>?_|refine sC ?_ ?_<;>intro hb<;>try omega|fail)
    all_goals first|omega|(refine rT1 ?_);rw [hrec];done
   rw [if_neg h12] at hrec;by_cases h3:vd=false∨re≠0
   ·rw [if_pos h3] at hrec;repeat' (first|apply ak;exact rfl;apply aP;exact rfl;exact he1;exact rfl|apply aa;exact rfl;exact rfl;intro w hm;exact hV w|apply aa;exact rfl;exact rfl;intro w hm;exact hck w|apply ak;exact rfl;apply il (b:=sa);exact rfl;exact rfl|apply ak;exact rfl;apply m4 (b:=0#64);exact rfl;exact rfl|refine zZN ?_|refine sM fun _=>?_|refine sC ?_ ?_<;>intro hb<;>try omega|fail)
    all_goals first
     |omega
     |(exfalso;rcases h3 with h3|h3<;>simp_all;done)
     |(refine rT1 ?_);rw [hrec];done
   rw [if_neg h3] at hrec;obtain ⟨h31,h32⟩:=not_or.1 h3;have h31:vd=true:=by simpa using h31
   have h32:re=0:=by omega
   subst h31;subst h32;by_cases hD:r.call.node<0∨256≤r.call.node∨r.fn<46∨50<r.fn∨r.grant<0∨64≤r.grant∨r.to &&& ~~~sa≠0#64
   ·rw [if_pos hD] at hrec;repeat' (first|apply ak;exact rfl;apply aP;exact rfl;exact he1;exact rfl|apply aa;exact rfl;exact rfl;intro w hm;exact hV w|apply aa;exact rfl;exact rfl;intro w hm;exact hck w|apply ak;exact rfl;apply il (b:=sa);exact rfl;exact rfl|apply ak;exact rfl;apply m4 (b:=0#64);exact rfl;exact rfl|refine zZN ?_|refine sM fun _=>?_|refine sC ?_ ?_<;>intro hb<;>try omega|fail)
    all_goals first
     |omega
     |(refine rT1 ?_);rw [hrec];done
     |(exfalso;rcases hD with h|h|h|h|h|h|h<;>first|omega|exact absurd ‹_› h)
   ·rw [if_neg hD] at hrec;repeat' (first|apply ak;exact rfl;apply aP;exact rfl;exact he1;exact rfl|apply aa;exact rfl;exact rfl;intro w hm;exact hV w|apply aa;exact rfl;exact rfl;intro w hm;exact hck w|apply ak;exact rfl;apply il (b:=sa);exact rfl;exact rfl|apply ak;exact rfl;apply m4 (b:=0#64);exact rfl;exact rfl|refine zZN ?_|refine sM fun _=>?_|refine sC ?_ ?_<;>intro hb<;>try omega|fail)
    all_goals first
     |omega
     |exfalso;exact hD (.inr (.inr (.inr (.inr (.inr (.inr hb))))))
     |refine ⟨i+1,⟨hlt,?_⟩,by omega,by (try simp only [hnext]);exact sB,by (try simp only [hnext]);exact sB,by exact mS⟩;rw [hnext,hrec];done
  ·have e:i=M.length:=by omega
   subst e;rw [X0,ux] at hrec;subst hrec;repeat' (first|refine sT ?_|refine sM fun _=>?_|refine sC ?_ ?_<;>intro hb<;>try omega|fail)
   all_goals first|omega|(refine rT1 ?_);rfl
structure Bk where
 users:Int
 ents:List Et
 rules:List Rl
 grants:List Gn
 log:List Ev
 rels:List Rv
 step:Int
structure Bv where
 ae:Option Addr
 ar:Option Addr
 ag:Option Addr
 al:Option Addr
 as_:Option Addr
 ce:Nat
 cr:Nat
 cg:Nat
 cl:Nat
 cs:Nat
def bg (b:Bk) (x:Bv):List Value:= [.int .i64 b.users,.slice x.ae b.ents.length x.ce,.slice x.ar b.rules.length x.cr,.slice x.ag b.grants.length x.cg,.slice x.al b.log.length x.cl,.slice x.as_ b.rels.length x.cs,.int .i64 b.step]
structure BRd (w:World) (b:Bk) (x:Bv):Prop where
 e:Reads w (.slice x.ae b.ents.length x.ce) b.ents.length (b.ents.flatMap bN)
 r:Reads w (.slice x.ar b.rules.length x.cr) b.rules.length (b.rules.flatMap bQ)
 g:Reads w (.slice x.ag b.grants.length x.cg) b.grants.length (b.grants.flatMap cD)
 l:Reads w (.slice x.al b.log.length x.cl) b.log.length (b.log.flatMap fF)
 s:Reads w (.slice x.as_ b.rels.length x.cs) b.rels.length (b.rels.flatMap fE)
theorem BRd.of_w0 {w w' :World} {b:Bk} {x:Bv} {H:List Blk} (h:BRd w b x) (hm:Mem w w' H):BRd w' b x:=⟨h.e.of_w0 hm,h.r.of_w0 hm,h.g.of_w0 hm,h.l.of_w0 hm,h.s.of_w0 hm⟩
def yE (s:Int) (L:List Ev):Bool:=if 0<L.length then decide (s≤((L[L.length - 1]?).map Ev.step).getD 0) else false
def yD (s:Int) (L:List Rv):Bool:=if 0<L.length then decide (s≤((L[L.length - 1]?).map Rv.step).getD 0) else false
def bkE (b:Bk):Int:=
 if b.users<1∨64<b.users then 2
 else if (jF b.ents).2≠0 then (jF b.ents).2
 else if (eV b.users b.rules).2≠0 then (eV b.users b.rules).2
 else if (lA b.users b.grants).2≠0 then (lA b.users b.grants).2
 else if MT b.users b.log b.rels≠0 then MT b.users b.log b.rels
 else if b.step<0∨1099511627776<b.step then 2
 else if yE b.step b.log=true then 2
 else if yD b.step b.rels=true then 2 else 0
theorem Rv.ro1 {w:World} {g o:Nat} {r:Rv} (h:Ro w g o (fE r)):Ro w g o [.int .i64 r.step]:=h.take (k:=1)
theorem nS (b:Bk) (x:Bv) (w:World) (h:BRd w b x) (hW:Words w) (hlen:b.ents.length≤1000000):aL Tryz.prog 35 [.agg (bg b x).toArray] w (.int .i64 (bkE b)):=by
 have hent:=fun (w' :World) (H:List Blk) (hm:Mem w w' H)=>qV b.ents _ w' (h.e.of_w0 hm) hlen (hW.next hm);have hacl:=fun (w' :World) (H:List Blk) (hm:Mem w w' H)=>jP b.users b.rules _ w' (h.r.of_w0 hm);have hgnt:=fun (w' :World) (H:List Blk) (hm:Mem w w' H)=>o7 b.users b.grants _ w' (h.g.of_w0 hm);have haud:=fun (w' :World) (H:List Blk) (hm:Mem w w' H)=>G6 b.users b.log b.rels _ _ w' (h.l.of_w0 hm) (h.s.of_w0 hm);refine aB Tryz.func35 rfl Tryz.ntmps35 rfl ?_;unfold bkE;obtain ⟨Al,cl,el,hl1,hl2,hl3⟩:=h.l;obtain ⟨Am,cm,em,hm1,hm2,hm3⟩:=h.s;have hl3' :0<b.log.length→ ∃ g o,x.al=some ⟨g,o,none⟩∧Ro w g o (b.log.flatMap fF):=by
  cases el;exact hl3
 have hm3' :0<b.rels.length→ ∃ g o,x.as_=some ⟨g,o,none⟩∧Ro w g o (b.rels.flatMap fE):=by
  cases em;exact hm3
 have hLm:b.log.length≤maxLen:=XU hl1 hl2;have hMm:b.rels.length≤maxLen:=XU hm1 hm2;clear hl1 hl2 hl3 hm1 hm2 hm3 el em;generalize jF b.ents=ce at hent ⊢;generalize eV b.users b.rules=ae at hacl ⊢;generalize lA b.users b.grants=ge at hgnt ⊢;generalize MT b.users b.log b.rels=ue at haud ⊢;obtain ⟨us,E,RU,G,L,M,st⟩:=b;obtain ⟨ae1,ar1,ag1,al1,as1,ce1,cr1,cg1,cl1,cs1⟩:=x;dsimp only at*;simp only [bg] at*;have hL:(L.length=0∧yE st L=false)∨(0<L.length∧ ∃ g o s,al1=some ⟨g,o,none⟩∧Ro w g (o+(L.length - 1)*9) [.int .i64 s]∧yE st L=decide (st≤s)):=by
  rcases Y6 L.length with h0|hp
  ·exact .inl ⟨h0,by unfold yE;rw [if_neg (by omega)]⟩
  ·obtain ⟨g,o,e,hr⟩:=hl3' hp;have hlt:L.length - 1<L.length:=by omega
   exact .inr ⟨hp,g,o,L[L.length - 1].step,e,(Ev.ro (hr.elem mP (L.length - 1) hlt)).1,by unfold yE;rw [if_pos hp,Xf hlt];rfl⟩
 have hM:(M.length=0∧yD st M=false)∨(0<M.length∧ ∃ g o s,as1=some ⟨g,o,none⟩∧Ro w g (o+(M.length - 1)*11) [.int .i64 s]∧yD st M=decide (st≤s)):=by
  rcases Y6 M.length with h0|hp
  ·exact .inl ⟨h0,by unfold yD;rw [if_neg (by omega)]⟩
  ·obtain ⟨g,o,e,hr⟩:=hm3' hp;have hlt:M.length - 1<M.length:=by omega
   exact .inr ⟨hp,g,o,M[M.length - 1].step,e,Rv.ro1 (hr.elem mM (M.length - 1) hlt),by unfold yD;rw [if_pos hp,Xf hlt];rfl⟩
 generalize yE st L=le at hL ⊢;generalize yD st M=lr at hM ⊢;clear hl3' hm3';generalize L.length=nl at*;generalize M.length=nm at*;generalize E.length=nE at*;generalize RU.length=nR at*;generalize G.length=nG at*;rcases hL with ⟨hL,rfl⟩|⟨hL,g1,o1,s1,rfl,hr1,rfl⟩<;>rcases hM with ⟨hM,rfl⟩|⟨hM,g2,o2,s2,rfl,hr2,rfl⟩
 all_goals
  repeat' first|apply aa (f:=47);exact rfl;exact rfl;intro w' hm;exact hent w' _ hm|apply aa (f:=68);exact rfl;exact rfl;intro w' hm;exact hacl w' _ hm|apply aa (f:=69);exact rfl;exact rfl;intro w' hm;exact hgnt w' _ hm|apply aa (f:=70);exact rfl;exact rfl;intro w' hm;exact haud w' _ hm|apply aQ;exact rfl;apply cQ;exact rfl;exact rfl;omega;simp only [maxLen] at*;omega|apply aQ;exact rfl;apply ai (j:=nl - 1);exact rfl;exact rfl;omega|apply aQ;exact rfl;apply ai (j:=nm - 1);exact rfl;exact rfl;omega|refine zZQ ?_|refine sM fun _=>?_|refine sC ?_ ?_<;>intro hb<;>try omega|refine sCQ ?_ ?_<;>intro hb<;>try omega|fail
 all_goals first
  |omega
  |(refine rT1 ?_);simp_all;done
  |(refine rT1 ?_);simp_all;omega
def jU (b c:Bk):Int:=if bkE b≠0 then bkE b else bkE c
structure Bo where
 e:Option Nat
 r:Option Nat
 g:Option Nat
 l:Option Nat
 s:Option Nat
 ce:Nat
 cr:Nat
 cg:Nat
 cl:Nat
 cs:Nat
def adr (A:Option Nat):Option Addr:=A.map fun g=>⟨g,0,none⟩
def Bo.v (a:Bo):Bv:=⟨adr a.e,adr a.r,adr a.g,adr a.l,adr a.s,a.ce,a.cr,a.cg,a.cl,a.cs⟩
def iB (b:Bk) (a:Bo):List Blk:= [.own a.e 79 3 b.ents.length a.ce (b.ents.flatMap bN),.own a.r 137 7 b.rules.length a.cr (b.rules.flatMap bQ),.own a.g 76 8 b.grants.length a.cg (b.grants.flatMap cD),.own a.l 147 9 b.log.length a.cl (b.log.flatMap fF),.own a.s 149 11 b.rels.length a.cs (b.rels.flatMap fE)]
theorem BRd.of_rows {w0 w:World} {H:List Blk} {b:Bk} {a:Bo} (hm:Mem w0 w H) (h1:In (.own a.e 79 3 b.ents.length a.ce (b.ents.flatMap bN)) H) (h2:In (.own a.r 137 7 b.rules.length a.cr (b.rules.flatMap bQ)) H) (h3:In (.own a.g 76 8 b.grants.length a.cg (b.grants.flatMap cD)) H) (h4:In (.own a.l 147 9 b.log.length a.cl (b.log.flatMap fF)) H) (h5:In (.own a.s 149 11 b.rels.length a.cs (b.rels.flatMap fE)) H):BRd w b a.v:=
 ⟨Reads.of_own (A:=a.e) hm h1,Reads.of_own (A:=a.r) hm h2,Reads.of_own (A:=a.g) hm h3,Reads.of_own (A:=a.l) hm h4,Reads.of_own (A:=a.s) hm h5⟩
end Go.SL

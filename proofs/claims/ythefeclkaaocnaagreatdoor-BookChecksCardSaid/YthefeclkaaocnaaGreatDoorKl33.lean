/-
  Lemmas and walks, put together: Ic Id Ie If Ig.
-/
import Derived.Test.YthefeclkaaocnaaGreatDoorKl32
set_option linter.unusedSimpArgs false
set_option linter.unusedVariables false
set_option maxRecDepth 20000
namespace Go.SL
open Go Go.Proofs
attribute [local irreducible] W WL WQ WG WA WX WLI WR WT WC WE VOp RW thn blk bS scp bq bF cj aS FnIn FnP ceP
def kK (k:Int):Bool:=decide (k=3)||decide (k=4)||decide (k=7)||decide (k=8)||decide (k=9)
def Iv (k:Int):Bool:=decide (k=3)||decide (k=4)||decide (k=5)||decide (k=6)||decide (k=7)||decide (k=8)
def oD (k:Int):Ox:=⟨k,0,aL,av,0#64,0#64,0#64,0,0#64,0⟩
def jI (x:Ox):Rct × Bool:=if Iv x.kind then (x.rect,true) else (aL,false)
def oU (x:Ox):Ox:=
 if x.kind<1∨10<x.kind then oD x.kind
 else ⟨x.kind,x.user,(jI x).1,if x.kind=3 then x.input else av,if x.kind=7 then x.rd else 0#64,if x.kind=7 then x.wr else 0#64,if x.kind=7 then x.ow else 0#64,if x.kind=8 then x.fns else 0,if x.kind=8 then x.to else 0#64,if x.kind=9 then x.idx else 0⟩
def opE (x:Ox):Int:=
 if x.kind<1∨10<x.kind∨x≠oU x then 4
 else if x.kind=3∨x.kind=6 then (if x.rect.c1=x.rect.c2∧x.rect.r1=x.rect.r2 then (if fV x.input≠0 then 4 else 0) else 4)
 else if x.kind=8 then (if x.fns<1∨31<x.fns then 4 else 0) else 0
theorem mX (x:Ox) (w:World):ay Tryz.prog 55 [.agg (bL x).toArray] w (.bool (kK x.kind)):=by
 refine aq Tryz.func55 rfl Tryz.ntmps55 rfl ?_
 repeat' (first|refine sT ?_|refine sS ?_|refine sM fun _=> ?_|(refine sC ?_ ?_<;>intro hb<;>try omega)|fail)
 all_goals first
  |(exfalso;omega)
  |((refine rT1 ?_);simp_all [kK];done)
  |trace_state
theorem zx (k:Int) (w:World):ay Tryz.prog 55 [.agg (bL (oD k)).toArray] w (.bool (kK k)):=mX (oD k) w
theorem u7 (x:Ox) (w:World):ay Tryz.prog 110 [.agg (bL x).toArray] w (.tuple #[.agg (bO (jI x).1).toArray,.bool (jI x).2]):=by
 refine aq Tryz.func110 rfl Tryz.ntmps110 rfl ?_
 by_cases h:Iv x.kind=true
 ·
  rw [jI,if_pos h]
  repeat' (first|refine sT ?_|refine sS ?_|refine sM fun _=> ?_|(refine sC ?_ ?_<;>intro hb<;>try omega)|fail)
  all_goals first
   |(exfalso;omega)
   |((refine eK ?_);rfl)
   |(exfalso;simp_all [Iv];done)
   |trace_state
 ·
  rw [jI,if_neg h]
  repeat' (first|refine sT ?_|refine sS ?_|refine sM fun _=> ?_|(refine sC ?_ ?_<;>intro hb<;>try omega)|fail)
  all_goals first
   |(exfalso;omega)
   |(exfalso;simp_all [Iv];done)
   |((refine eK ?_);rfl)
   |trace_state
set_option maxHeartbeats 4000000 in
theorem G9 (x:Ox) (w:World):ay Tryz.prog 154 [.agg (bL x).toArray] w (.agg (bL (oU x)).toArray):=by
 refine aq Tryz.func154 rfl Tryz.ntmps154 rfl ?_
 have hT:=fun w=>u7 x w
 unfold oU
 obtain ⟨⟨t,tb⟩,ht⟩: ∃ t,jI x=t:=⟨_,rfl⟩
 rw [ht] at hT ⊢
 by_cases h8:x.kind=8
 ·
  repeat' (first|(apply aa;exact rfl;exact rfl;(intro w hm;exact hT w))|refine sT ?_|refine sS ?_|refine sM fun _=> ?_|(refine sC ?_ ?_<;>intro hb<;>try omega)|fail)
  all_goals try (exfalso;omega)
  rename_i g1 g2 g3 _ _ _ _
  refine j6 (id:=12) [5,7] [] [.box g1 41 (bL x)] (by kernel_rfl) (by kernel_rfl) (by kernel_rfl) mS ?_
  repeat' (first|refine sT ?_|refine sS ?_|refine sW ?_|refine sM fun _=> ?_|(refine sC ?_ ?_<;>intro hb<;>try omega)|(refine sCW ?_ ?_<;>intro hb<;>try omega)|fail)
  all_goals first
   |(exfalso;omega)
   |((refine eRC ?_);rw [if_neg (by omega)];simp_all [bL,av,vS];done)
   |trace_state
 ·
  repeat' (first|(apply aa;exact rfl;exact rfl;(intro w hm;exact hT w))|refine sT ?_|refine sS ?_|refine sM fun _=> ?_|(refine sC ?_ ?_<;>intro hb<;>try omega)|fail)
  all_goals first
   |(exfalso;omega)
   |((refine eRC ?_);rw [if_pos (by omega)];simp_all [bL,oD,aL,av,vS];done)
   |((refine eRC ?_);rw [if_neg (by omega)];simp_all [bL,av,vS];done)
   |trace_state
set_option maxHeartbeats 4000000 in
theorem rA (x:Ox) (w:World):ay Tryz.prog 112 [.agg (bL x).toArray] w (.int .i64 (opE x)):=by
 refine aq Tryz.func112 rfl Tryz.ntmps112 rfl ?_
 have hP:=fun w=>G9 x w
 have hG:=fun w=>rS x.input w
 unfold opE
 obtain ⟨c,hc⟩: ∃ c,Bs x (oU x)=c:=⟨_,rfl⟩
 have hc' :x≠oU x↔c=false:=by
  rw [← hc,← Bool.not_eq_true,yZ]
 simp only [hc']
 clear hc'
 generalize fV x.input=ge at hG
 generalize oU x=p at hP hc
 repeat' (first|(apply bK (id:=1) [11] [];kernel_rfl;kernel_rfl;kernel_rfl)|(apply dm;(iterate 3 exact rfl);apply HO (b:=p);exact rfl;exact rfl)|(apply aa (f:=154);exact rfl;exact rfl;(intro w' _;exact hP w'))|(apply aa;exact rfl;exact rfl;(intro w hm;exact hG w))|refine sT ?_|refine sS ?_|refine sW ?_|refine sM fun _=> ?_|(refine sC ?_ ?_<;>intro hb<;>try omega)|(refine sCW ?_ ?_<;>intro hb<;>try omega)|fail)
 all_goals first
  |(exfalso;omega)
  |((refine rT1 ?_);simp_all;done)
  |((refine rT1 ?_);simp_all;omega)
  |trace_state
def eC (all:BitVec 64):Int→List Ev→Int
 |_,[]=>0
 |last,x::l=>if x.step≤last then 12 else if (kK x.kind && fU all x.user)=false then 2 else if bi x.rect=false then 3 else if (decide (x.to &&& ~~~all=0#64) && fU x.to x.user)=false then 2 else eC all x.step l
def Fy (all:BitVec 64) (x:Rv):Bool:=decide (0≤x.call.node) && decide (x.call.node<256) && decide (46≤x.fn) && decide (x.fn≤50) && decide (0≤x.grant) && decide (x.grant<64) && decide (x.to &&& ~~~all=0#64)
def eQ (all:BitVec 64):Int→List Rv→Int
 |_,[]=>0
 |last,x::l=>if x.step<last then 12 else if (x.call.at_.valid && bi x.rect)=false then 3 else if Fy all x=false then 2 else eQ all x.step l
def p9 (u:Int) (L:List Ev) (M:List Rv):Int:=
 if u<0∨64<u∨u=0 then 2 else if eC (dq u).1 (-1) L≠0 then eC (dq u).1 (-1) L else eQ (dq u).1 (-1) M
theorem uy {r:Rct}:bi r=false↔dS r≠0:=⟨fun h=>by rw [dS,h];decide,gA⟩
theorem Ev.ro {w:World} {g o:Nat} {r:Ev} (h:Ro w g o (aQ r)):Ro w g o [.int .i64 r.step]∧Ro w g (o+1) [.int .i64 r.user]∧Ro w g (o+2) [.int .u8 r.kind]∧Ro w g (o+3) (bO r.rect)∧Ro w g (o+7) [.bool r.done]∧Ro w g (o+8) [vS r.to]:=
 ⟨h.take (k:=1),(h.drop (k:=1)).take (k:=1),(h.drop (k:=2)).take (k:=1),(h.drop (k:=3)).take (k:=4),(h.drop (k:=7)).take (k:=1),h.drop (k:=8)⟩
def jv (L:List Ev) (i:Nat):Int:=if i=0 then -1 else ((L[i - 1]?).map Ev.step).getD 0
def ju (L:List Rv) (i:Nat):Int:=if i=0 then -1 else ((L[i - 1]?).map Rv.step).getD 0
set_option maxHeartbeats 8000000 in
theorem zp (u:Int) (L:List Ev) (M:List Rv) (lv mv:Value) (w:World) (hl:Reads w lv L.length (L.flatMap aQ)) (hm:Reads w mv M.length (M.flatMap bu)):ay Tryz.prog 53 [.int .i64 u,lv,mv] w (.int .i64 (p9 u L M)):=by
 obtain ⟨Al,cl,rfl,hl1,hl2,hl3⟩:=hl
 obtain ⟨Am,cm,rfl,hm1,hm2,hm3⟩:=hm
 refine aq Tryz.func53 rfl Tryz.ntmps53 rfl ?_
 have hA:=fun w=>wO u w
 unfold p9
 have hE:(dq u).2=if u<0∨64<u then 3 else 0:=by unfold dq;split<;>rfl
 obtain ⟨sa,has⟩: ∃ sa,sa=(dq u).1:=⟨_,rfl⟩
 rw [← has,hE] at hA
 rw [← has]
 by_cases h1:u<0∨64<u∨u=0
 ·
  rw [if_pos h1]
  by_cases h2:u<0∨64<u
  ·
   rw [if_pos h2] at hA
   repeat' (first|(apply aa;exact rfl;exact rfl;(intro w hm;exact hA w))|refine sT ?_|refine sM fun _=> ?_|(refine sC ?_ ?_<;>intro hb<;>try omega)|fail)
   all_goals first|(exfalso;omega)|((refine rT1 ?_);rfl)|trace_state
  ·
   rw [if_neg h2] at hA
   repeat' (first|(apply aa;exact rfl;exact rfl;(intro w hm;exact hA w))|refine sT ?_|refine sM fun _=> ?_|(refine sC ?_ ?_<;>intro hb<;>try omega)|fail)
   all_goals first|(exfalso;omega)|((refine rT1 ?_);rfl)|trace_state
 rw [if_neg h1]
 rw [if_neg (by omega)] at hA
 repeat' (first|(apply aa;exact rfl;exact rfl;(intro w hm;exact hA w))|refine sT ?_|refine sM fun _=> ?_|(refine sC ?_ ?_<;>intro hb<;>try omega)|fail)
 all_goals try (exfalso;omega)
 obtain ⟨ef,hef⟩: ∃ ef,eC sa (-1) L=ef:=⟨_,rfl⟩
 rw [hef]
 refine ax [0,1,2,7,25,26] rfl (fun i:Nat=> [(9,.int .i64 (jv L i)),(27,.int .i64 (i:Int))]) (fun _=> []) (fun i=>i≤L.length∧ef=eC sa (jv L i) (L.drop i)) (fun i=>L.length - i) 0 ⟨LS _,hef.symm⟩ sB mS ?_
 rintro i ⟨hi,hrec⟩
 by_cases hlt:i<L.length
 ·
  obtain ⟨gl,ol,rfl,hrl⟩:=hl3 (by omega)
  have he1:=hrl.elem cX i hlt
  have hnext:jv L (i+1)=L[i].step:=by unfold jv;rw [if_neg (by omega),M3,LF hlt];rfl
  rw [LJ hlt,eC] at hrec
  generalize jv L i=last at hrec
  generalize L[i]=r at hnext he1 hrec
  have hck:=fun w=>fS r.rect w
  have hhs:=fun w=>oC sa r.user w
  have hht:=fun w=>oC r.to r.user w
  have hmu:=fun w=>zx r.kind w
  simp only [uy] at hrec
  generalize dS r.rect=re at hck hrec
  clear has
  generalize kK r.kind=mk at hmu hrec
  generalize fU sa r.user=hb1 at hhs hrec
  generalize fU r.to r.user=hb2 at hht hrec
  repeat' (first|(apply ak;exact rfl;apply aA;exact rfl;exact he1;exact rfl)|(apply aa;exact rfl;exact rfl;(intro w hm;exact hmu w))|(apply aa (f:=109);exact rfl;exact rfl;(intro w' _;first|exact hhs w' |exact hht w'))|(apply aa;exact rfl;exact rfl;(intro w hm;exact hck w))|(apply ak;exact rfl;apply dE (b:=sa);exact rfl;exact rfl)|(apply ak;exact rfl;apply gJ (b:=0#64);exact rfl;exact rfl)|refine sT ?_|refine sS ?_|refine sN ?_|refine sO ?_|refine sM fun _=> ?_|(refine sC ?_ ?_<;>intro hb<;>try omega)|fail)
  all_goals try (have hnl: ¬ r.step≤last:=by omega)
  all_goals first
   |(exfalso;omega)
   |(refine ⟨i+1,⟨hlt,?_⟩,by omega,by (try simp only [hnext]);exact sB,by (try simp only [hnext]);exact sB,by exact mS⟩;rw [hnext];simp_all;done)
   |((refine rT1 ?_);simp_all;done)
   |trace_state
 ·
  have e:i=L.length:=by omega
  subst e
  rw [LU,eC] at hrec
  subst hrec
  rw [if_neg (by decide)]
  obtain ⟨rf,hrf⟩: ∃ rf,eQ sa (-1) M=rf:=⟨_,rfl⟩
  rw [hrf]
  repeat' (first|refine sT ?_|refine sM fun _=> ?_|(refine sC ?_ ?_<;>intro hb<;>try omega)|fail)
  refine ax [0,2,7,71,72] rfl (fun i:Nat=> [(9,.int .i64 (ju M i)),(73,.int .i64 (i:Int))]) (fun _=> []) (fun i=>i≤M.length∧rf=eQ sa (ju M i) (M.drop i)) (fun i=>M.length - i) 0 ⟨LS _,hrf.symm⟩ sB mS ?_
  rintro i ⟨hi,hrec⟩
  by_cases hlt:i<M.length
  ·
   obtain ⟨gm,om,rfl,hrm⟩:=hm3 (by omega)
   have he1:=hrm.elem cW i hlt
   have hnext:ju M (i+1)=M[i].step:=by unfold ju;rw [if_neg (by omega),M3,LF hlt];rfl
   rw [LJ hlt,eQ] at hrec
   generalize ju M i=last at hrec
   generalize M[i]=r at hnext he1 hrec
   have hck:=fun w=>fS r.rect w
   have hV: ∀ w',ay Tryz.prog 64 [.agg (cB r.call.at_).toArray] w' (.bool r.call.at_.valid):=fun w' =>jG r.call.at_.col r.call.at_.row w'
   have hok:Fy sa r=false↔(r.call.node<0∨256≤r.call.node∨r.fn<46∨50<r.fn∨r.grant<0∨64≤r.grant∨r.to &&& ~~~sa≠0#64):=by
    simp only [Fy,MB,decide_eq_false_iff_not,Int.not_le,Int.not_lt,or_assoc]
   simp only [hok] at hrec
   clear hok
   simp only [MB,uy] at hrec
   generalize dS r.rect=re at hck hrec
   clear has
   generalize r.call.at_.valid=vd at hV hrec
   by_cases h12:r.step<last
   ·
    rw [if_pos h12] at hrec
    repeat' (first|(apply ak;exact rfl;apply aA;exact rfl;exact he1;exact rfl)|(apply aa;exact rfl;exact rfl;(intro w hm;exact hV w))|(apply aa;exact rfl;exact rfl;(intro w hm;exact hck w))|(apply ak;exact rfl;apply dE (b:=sa);exact rfl;exact rfl)|(apply ak;exact rfl;apply gJ (b:=0#64);exact rfl;exact rfl)|refine sT ?_|refine sS ?_|refine sN ?_|refine sO ?_|refine sM fun _=> ?_|(refine sC ?_ ?_<;>intro hb<;>try omega)|fail)
    all_goals first|(exfalso;omega)|((refine rT1 ?_);rw [hrec];done)|trace_state
   rw [if_neg h12] at hrec
   by_cases h3:vd=false∨re≠0
   ·
    rw [if_pos h3] at hrec
    repeat' (first|(apply ak;exact rfl;apply aA;exact rfl;exact he1;exact rfl)|(apply aa;exact rfl;exact rfl;(intro w hm;exact hV w))|(apply aa;exact rfl;exact rfl;(intro w hm;exact hck w))|(apply ak;exact rfl;apply dE (b:=sa);exact rfl;exact rfl)|(apply ak;exact rfl;apply gJ (b:=0#64);exact rfl;exact rfl)|refine sT ?_|refine sS ?_|refine sN ?_|refine sO ?_|refine sM fun _=> ?_|(refine sC ?_ ?_<;>intro hb<;>try omega)|fail)
    all_goals first
     |(exfalso;omega)
     |(exfalso;rcases h3 with h3|h3<;>simp_all;done)
     |((refine rT1 ?_);rw [hrec];done)
     |trace_state
   rw [if_neg h3] at hrec
   obtain ⟨h31,h32⟩:=not_or.1 h3
   have h31:vd=true:=by simpa using h31
   have h32:re=0:=by omega
   subst h31;subst h32
   by_cases hD:r.call.node<0∨256≤r.call.node∨r.fn<46∨50<r.fn∨r.grant<0∨64≤r.grant∨r.to &&& ~~~sa≠0#64
   ·
    rw [if_pos hD] at hrec
    repeat' (first|(apply ak;exact rfl;apply aA;exact rfl;exact he1;exact rfl)|(apply aa;exact rfl;exact rfl;(intro w hm;exact hV w))|(apply aa;exact rfl;exact rfl;(intro w hm;exact hck w))|(apply ak;exact rfl;apply dE (b:=sa);exact rfl;exact rfl)|(apply ak;exact rfl;apply gJ (b:=0#64);exact rfl;exact rfl)|refine sT ?_|refine sS ?_|refine sN ?_|refine sO ?_|refine sM fun _=> ?_|(refine sC ?_ ?_<;>intro hb<;>try omega)|fail)
    all_goals first
     |(exfalso;omega)
     |((refine rT1 ?_);rw [hrec];done)
     |(exfalso;rcases hD with h|h|h|h|h|h|h<;>first|omega|exact absurd ‹_› h)
     |trace_state
   ·
    rw [if_neg hD] at hrec
    repeat' (first|(apply ak;exact rfl;apply aA;exact rfl;exact he1;exact rfl)|(apply aa;exact rfl;exact rfl;(intro w hm;exact hV w))|(apply aa;exact rfl;exact rfl;(intro w hm;exact hck w))|(apply ak;exact rfl;apply dE (b:=sa);exact rfl;exact rfl)|(apply ak;exact rfl;apply gJ (b:=0#64);exact rfl;exact rfl)|refine sT ?_|refine sS ?_|refine sN ?_|refine sO ?_|refine sM fun _=> ?_|(refine sC ?_ ?_<;>intro hb<;>try omega)|fail)
    all_goals first
     |(exfalso;omega)
     |(exfalso;exact hD (.inr (.inr (.inr (.inr (.inr (.inr hb)))))))
     |(refine ⟨i+1,⟨hlt,?_⟩,by omega,by (try simp only [hnext]);exact sB,by (try simp only [hnext]);exact sB,by exact mS⟩;rw [hnext,hrec];done)
     |trace_state
  ·
   have e:i=M.length:=by omega
   subst e
   rw [LU,eQ] at hrec
   subst hrec
   repeat' (first|refine sT ?_|refine sM fun _=> ?_|(refine sC ?_ ?_<;>intro hb<;>try omega)|fail)
   all_goals first|(exfalso;omega)|((refine rT1 ?_);rfl)|trace_state
def ofS (u:Int):BitVec 64 × Int:=if u<0∨64≤u then (0#64,3) else (1#64<<<u.toNat,0)
theorem Ji (u:Int) (lv:Value) (w:World) (hl:Reads w lv 1 [.int .i64 u]):ay Tryz.prog 122 [lv] w (.tuple #[vS (ofS u).1,.int .i64 (ofS u).2]):=by
 obtain ⟨Al,cl,rfl,hl1,hl2,hl3⟩:=hl
 obtain ⟨gl,ol,rfl,hrl⟩:=hl3 (by omega)
 have he1:=hrl.cellV 0 (v:= .int .i64 u) rfl
 refine aq Tryz.func122 rfl Tryz.ntmps122 rfl ?_
 by_cases h:u<0∨64≤u
 ·
  rw [ofS,if_pos h]
  repeat' (first|refine sT ?_|refine sS ?_|refine sO ?_|refine sM fun _=> ?_|(refine sC ?_ ?_<;>intro hb<;>try omega)|fail)
  refine ax [7,8] rfl (fun _:Unit=> [(4,.int .u64 0),(9,.int .i64 0)]) (fun _=> []) (fun _=>True) (fun _=>0) () trivial sB mS ?_
  rintro _ _
  repeat' (first|(apply ak;exact rfl;apply aj (j:=0);exact rfl;exact rfl;omega)|refine sT ?_|refine sS ?_|refine sO ?_|refine sM fun _=> ?_|(refine sC ?_ ?_<;>intro hb<;>try omega)|fail)
  all_goals first|(exfalso;omega)|((refine rT2 ?_);rfl)|trace_state
 ·
  rw [ofS,if_neg h]
  obtain ⟨m,rfl⟩: ∃ m:Nat,u=(m:Int):=⟨u.toNat,by omega⟩
  repeat' (first|refine sT ?_|refine sS ?_|refine sO ?_|refine sM fun _=> ?_|(refine sC ?_ ?_<;>intro hb<;>try omega)|fail)
  refine ax [7,8] rfl (fun i:Nat=> [(4,vS (if i=0 then 0#64 else 1#64<<<m)),(9,.int .i64 (i:Int))]) (fun _=> []) (fun i=>i≤1) (fun i=>1 - i) 0 (by omega) sB mS ?_
  rintro i hi
  rcases (by omega:i=0∨i=1) with rfl|rfl
  ·
   repeat' (first|(apply ak;exact rfl;apply aj (j:=0);exact rfl;exact rfl;omega)|(apply ak;exact rfl;apply vF (a:=1#64) (m:=m);exact rfl;exact rfl;omega)|(apply ak;exact rfl;apply oL (a:=0#64);exact rfl;exact rfl)|refine sT ?_|refine sS ?_|refine sN ?_|refine sO ?_|refine sM fun _=> ?_|(refine sC ?_ ?_<;>intro hb<;>try omega)|fail)
   all_goals first
    |(exfalso;omega)
    |(simp only [BitVec.zero_or];refine ⟨1,by omega,by omega,by exact sB,by exact sB,by exact mS⟩;done)
    |trace_state
  ·
   repeat' (first|refine sT ?_|refine sS ?_|refine sO ?_|refine sM fun _=> ?_|(refine sC ?_ ?_<;>intro hb<;>try omega)|fail)
   all_goals first|(exfalso;omega)|((refine rT2 ?_);rfl)|trace_state
def fJ:Ev:=⟨0,0,0,aL,false,0#64⟩
def evT (x:Ox) (N:List Gn):Rct:=if x.kind=9 then ((N[x.idx.toNat]?).map Gn.rect).getD aL else x.rect
def evO (step:Int) (x:Ox) (dn:Bool) (L:List Rl) (N:List Gn):Ev × Int:=
 if kK x.kind=false then (fJ,2)
 else if step<0∨opE x≠0∨x.user<0∨64≤x.user then (fJ,2)
 else if (jY 64 L).2≠0 then (fJ,(jY 64 L).2)
 else if (l3 64 N).2≠0 then (fJ,(l3 64 N).2)
 else if x.kind=9∧(x.idx<0∨(N.length:Int)≤x.idx) then (fJ,6)
 else if bi (evT x N)=false then (fJ,3)
 else (⟨step,x.user,x.kind,evT x N,dn,(ovE (evT x N) L).1.2.2|||(ofS x.user).1⟩,0)
set_option maxHeartbeats 16000000 in
theorem Hn (step:Int) (x:Ox) (dn:Bool) (L:List Rl) (N:List Gn) (lv nv:Value) (w:World) (hl:Reads w lv L.length (L.flatMap bh)) (hn:Reads w nv N.length (N.flatMap bg)):
  ay Tryz.prog 56 [.int .i64 step,.agg (bL x).toArray,.bool dn,lv,nv] w (.tuple #[.agg (aQ (evO step x dn L N).1).toArray,.int .i64 (evO step x dn L N).2]):=by
 have hacl:=fun (w' :World) (H:List Blk) (hm:Mem w w' H)=>lF 64 L lv w' (hl.of_w0 hm)
 have hgnt:=fun (w' :World) (H:List Blk) (hm:Mem w w' H)=>pM 64 N nv w' (hn.of_w0 hm)
 have hov:=fun (r:Rct) (w' :World) (H:List Blk) (hm:Mem w w' H)=>CX r L lv w' (hl.of_w0 hm)
 obtain ⟨Al,cl,rfl,hl1,hl2,hl3⟩:=hl
 obtain ⟨An,cn,rfl,hn1,hn2,hn3⟩:=hn
 refine aq Tryz.func56 rfl Tryz.ntmps56 rfl ?_
 have hop:=fun w=>rA x w
 have hmu:=fun w=>mX x w
 unfold evO
 generalize kK x.kind=mk at hmu ⊢
 generalize opE x=oe at hop ⊢
 generalize jY 64 L=ae at hacl ⊢
 generalize l3 64 N=ne at hgnt ⊢
 cases mk with
 |false=>
  rw [if_pos rfl]
  repeat' (first|(apply aa;exact rfl;exact rfl;(intro w hm;exact hop w))|(apply aa;exact rfl;exact rfl;(intro w hm;exact hmu w))|refine sT ?_|refine sS ?_|refine sM fun _=> ?_|(refine sC ?_ ?_<;>intro hb<;>try omega)|fail)
  all_goals first|(exfalso;omega)|((refine eK ?_);rfl)|trace_state
 |true=>
  rw [if_neg (by decide)]
  by_cases h1:step<0∨oe≠0∨x.user<0∨64≤x.user
  ·
   rw [if_pos h1]
   repeat' (first|(apply aa;exact rfl;exact rfl;(intro w hm;exact hop w))|(apply aa;exact rfl;exact rfl;(intro w hm;exact hmu w))|refine sT ?_|refine sS ?_|refine sM fun _=> ?_|(refine sC ?_ ?_<;>intro hb<;>try omega)|fail)
   all_goals first|(exfalso;omega)|((refine eK ?_);rfl)|trace_state
  rw [if_neg h1]
  by_cases h2:ae.2≠0
  ·
   rw [if_pos h2]
   repeat' (first|(apply aa;exact rfl;exact rfl;(intro w hm;exact hop w))|(apply aa;exact rfl;exact rfl;(intro w hm;exact hmu w))|(apply aa (f:=51);exact rfl;exact rfl;(intro w' hm;exact hacl w' _ hm))|refine sT ?_|refine sS ?_|refine sM fun _=> ?_|(refine sC ?_ ?_<;>intro hb<;>try omega)|fail)
   all_goals first|(exfalso;omega)|((refine eK ?_);rfl)|trace_state
  rw [if_neg h2]
  by_cases h3:ne.2≠0
  ·
   rw [if_pos h3]
   repeat' (first|(apply aa;exact rfl;exact rfl;(intro w hm;exact hop w))|(apply aa;exact rfl;exact rfl;(intro w hm;exact hmu w))|(apply aa (f:=51);exact rfl;exact rfl;(intro w' hm;exact hacl w' _ hm))|(apply aa (f:=52);exact rfl;exact rfl;(intro w' hm;exact hgnt w' _ hm))|refine sT ?_|refine sS ?_|refine sM fun _=> ?_|(refine sC ?_ ?_<;>intro hb<;>try omega)|fail)
   all_goals first|(exfalso;omega)|((refine eK ?_);rfl)|trace_state
  rw [if_neg h3]
  obtain ⟨sa,has⟩: ∃ sa,sa=ofS x.user:=⟨_,rfl⟩
  have hof:=fun (w' :World) (g:Nat) (H:List Blk) (hi:In (.own (some g) 3 1 1 1 [.int .i64 x.user]) H) (hm:Mem w w' H)=>Ji x.user (.slice (some ⟨g,0,none⟩) 1 1) w' (Reads.of_own (A:=some g) hm hi)
  rw [← has] at hof ⊢
  by_cases h9:x.kind=9
  ·
   by_cases h4:x.idx<0∨(N.length:Int)≤x.idx
   ·
    rw [if_pos ⟨h9,h4⟩]
    repeat' (first|(apply aa;exact rfl;exact rfl;(intro w hm;exact hop w))|(apply aa;exact rfl;exact rfl;(intro w hm;exact hmu w))|(apply aa (f:=51);exact rfl;exact rfl;(intro w' hm;exact hacl w' _ hm))|(apply aa (f:=52);exact rfl;exact rfl;(intro w' hm;exact hgnt w' _ hm))|refine sT ?_|refine sS ?_|refine sM fun _=> ?_|(refine sC ?_ ?_<;>intro hb<;>try omega)|fail)
    all_goals first|(exfalso;omega)|((refine eK ?_);rfl)|trace_state
   rw [if_neg (fun h=>h4 h.2)]
   obtain ⟨j,hj⟩: ∃ j:Nat,x.idx=(j:Int):=⟨x.idx.toNat,by omega⟩
   have hjl:j<N.length:=by omega
   obtain ⟨gn,on,rfl,hrn⟩:=hn3 (by omega)
   obtain ⟨hrr,_⟩:=Gn.ro (hrn.elem bR j hjl)
   have ht:evT x N=N[j].rect:=by unfold evT;rw [if_pos h9,hj,MY,LF hjl];rfl
   rw [ht]
   generalize N[j].rect=t at hrr ⊢
   have hre:=fun w=>fS t w
   have hov' :=hov t
   generalize ovE t L=ov at hov' ⊢
   by_cases h5:bi t=false
   ·
    rw [if_pos h5]
    have h6:dS t≠0:=fun h=>eu (by simpa using h) h5
    repeat' (first|(apply aa;exact rfl;exact rfl;(intro w hm;exact hop w))|(apply aa;exact rfl;exact rfl;(intro w hm;exact hmu w))|(apply aa;exact rfl;exact rfl;(intro w hm;exact hre w))|(apply aa (f:=51);exact rfl;exact rfl;(intro w' hm;exact hacl w' _ hm))|(apply aa (f:=52);exact rfl;exact rfl;(intro w' hm;exact hgnt w' _ hm))|(apply ak;exact rfl;apply aj (j:=j);exact rfl;(rw [hj];exact rfl);exact hjl)|refine sT ?_|refine sS ?_|refine sO ?_|refine sM fun _=> ?_|(refine sC ?_ ?_<;>intro hb<;>try omega)|fail)
    all_goals first|(exfalso;omega)|((refine eK ?_);rfl)|trace_state
   ·
    rw [if_neg h5]
    repeat' (first|(apply aa;exact rfl;exact rfl;(intro w hm;exact hop w))|(apply aa;exact rfl;exact rfl;(intro w hm;exact hmu w))|(apply aa;exact rfl;exact rfl;(intro w hm;exact hre w))|(apply aa (f:=51);exact rfl;exact rfl;(intro w' hm;exact hacl w' _ hm))|(apply aa (f:=52);exact rfl;exact rfl;(intro w' hm;exact hgnt w' _ hm))|(apply aa (f:=30);exact rfl;exact rfl;(intro w' hm;exact hov' w' _ hm))|(apply aa (f:=122);exact rfl;exact rfl;(intro w' hm;exact hof w' _ _ pK hm))|(apply ak;exact rfl;apply aj (j:=j);exact rfl;(rw [hj];exact rfl);exact hjl)|(apply ak;exact rfl;apply oL;exact rfl;exact rfl)|refine sT ?_|refine sS ?_|refine sO ?_|refine sM fun _=> ?_|(refine sC ?_ ?_<;>intro hb<;>try omega)|fail)
    all_goals first|(exfalso;omega)|(exact absurd (gA hb) h5)|((refine eK ?_);rfl)|trace_state
  ·
   rw [if_neg (fun h=>h9 h.1)]
   have ht:evT x N=x.rect:=by unfold evT;rw [if_neg h9]
   rw [ht]
   have hre:=fun w=>fS x.rect w
   have hov' :=hov x.rect
   generalize ovE x.rect L=ov at hov' ⊢
   by_cases h5:bi x.rect=false
   ·
    rw [if_pos h5]
    repeat' (first|(apply aa;exact rfl;exact rfl;(intro w hm;exact hop w))|(apply aa;exact rfl;exact rfl;(intro w hm;exact hmu w))|(apply aa;exact rfl;exact rfl;(intro w hm;exact hre w))|(apply aa (f:=51);exact rfl;exact rfl;(intro w' hm;exact hacl w' _ hm))|(apply aa (f:=52);exact rfl;exact rfl;(intro w' hm;exact hgnt w' _ hm))|refine sT ?_|refine sS ?_|refine sO ?_|refine sM fun _=> ?_|(refine sC ?_ ?_<;>intro hb<;>try omega)|fail)
    all_goals first|(exfalso;omega)|(exact absurd h5 (eu ‹_›))|((refine eK ?_);rfl)|trace_state
   ·
    rw [if_neg h5]
    repeat' (first|(apply aa;exact rfl;exact rfl;(intro w hm;exact hop w))|(apply aa;exact rfl;exact rfl;(intro w hm;exact hmu w))|(apply aa;exact rfl;exact rfl;(intro w hm;exact hre w))|(apply aa (f:=51);exact rfl;exact rfl;(intro w' hm;exact hacl w' _ hm))|(apply aa (f:=52);exact rfl;exact rfl;(intro w' hm;exact hgnt w' _ hm))|(apply aa (f:=30);exact rfl;exact rfl;(intro w' hm;exact hov' w' _ hm))|(apply aa (f:=122);exact rfl;exact rfl;(intro w' hm;exact hof w' _ _ pK hm))|(apply ak;exact rfl;apply oL;exact rfl;exact rfl)|refine sT ?_|refine sS ?_|refine sO ?_|refine sM fun _=> ?_|(refine sC ?_ ?_<;>intro hb<;>try omega)|fail)
    all_goals first|(exfalso;omega)|(exact absurd (gA hb) h5)|((refine eK ?_);rfl)|trace_state
structure Bk where
 users:Int
 ents:List Et
 rules:List Rl
 grants:List Gn
 log:List Ev
 rels:List Rv
 step:Int
structure Bv where
 ae:Option Addr
 ar:Option Addr
 ag:Option Addr
 al:Option Addr
 as_:Option Addr
 ce:Nat
 cr:Nat
 cg:Nat
 cl:Nat
 cs:Nat
def aP (b:Bk) (x:Bv):List Value:= [.int .i64 b.users,.slice x.ae b.ents.length x.ce,.slice x.ar b.rules.length x.cr,.slice x.ag b.grants.length x.cg,.slice x.al b.log.length x.cl,.slice x.as_ b.rels.length x.cs,.int .i64 b.step]
structure BRd (w:World) (b:Bk) (x:Bv):Prop where
 e:Reads w (.slice x.ae b.ents.length x.ce) b.ents.length (b.ents.flatMap aH)
 r:Reads w (.slice x.ar b.rules.length x.cr) b.rules.length (b.rules.flatMap bh)
 g:Reads w (.slice x.ag b.grants.length x.cg) b.grants.length (b.grants.flatMap bg)
 l:Reads w (.slice x.al b.log.length x.cl) b.log.length (b.log.flatMap aQ)
 s:Reads w (.slice x.as_ b.rels.length x.cs) b.rels.length (b.rels.flatMap bu)
theorem BRd.of_w0 {w w' :World} {b:Bk} {x:Bv} {H:List Blk} (h:BRd w b x) (hm:Mem w w' H):BRd w' b x:=⟨h.e.of_w0 hm,h.r.of_w0 hm,h.g.of_w0 hm,h.l.of_w0 hm,h.s.of_w0 hm⟩
def nK (s:Int) (L:List Ev):Bool:=if 0<L.length then decide (s≤((L[L.length - 1]?).map Ev.step).getD 0) else false
def nJ (s:Int) (L:List Rv):Bool:=if 0<L.length then decide (s≤((L[L.length - 1]?).map Rv.step).getD 0) else false
def bkE (b:Bk):Int:=
 if b.users<1∨64<b.users then 2
 else if (gS b.ents).2≠0 then (gS b.ents).2
 else if (jY b.users b.rules).2≠0 then (jY b.users b.rules).2
 else if (l3 b.users b.grants).2≠0 then (l3 b.users b.grants).2
 else if p9 b.users b.log b.rels≠0 then p9 b.users b.log b.rels
 else if b.step<0∨1099511627776<b.step then 2
 else if nK b.step b.log=true then 2
 else if nJ b.step b.rels=true then 2 else 0
theorem Rv.ro1 {w:World} {g o:Nat} {r:Rv} (h:Ro w g o (bu r)):Ro w g o [.int .i64 r.step]:=h.take (k:=1)
set_option maxHeartbeats 16000000 in
theorem mW (b:Bk) (x:Bv) (w:World) (h:BRd w b x) (hW:Words w) (hlen:b.ents.length≤1000000):ay Tryz.prog 12 [.agg (aP b x).toArray] w (.int .i64 (bkE b)):=by
 have hent:=fun (w' :World) (H:List Blk) (hm:Mem w w' H)=>tI b.ents _ w' (h.e.of_w0 hm) hlen (hW.next hm)
 have hacl:=fun (w' :World) (H:List Blk) (hm:Mem w w' H)=>lF b.users b.rules _ w' (h.r.of_w0 hm)
 have hgnt:=fun (w' :World) (H:List Blk) (hm:Mem w w' H)=>pM b.users b.grants _ w' (h.g.of_w0 hm)
 have haud:=fun (w' :World) (H:List Blk) (hm:Mem w w' H)=>zp b.users b.log b.rels _ _ w' (h.l.of_w0 hm) (h.s.of_w0 hm)
 refine aq Tryz.func12 rfl Tryz.ntmps12 rfl ?_
 unfold bkE
 obtain ⟨Al,cl,el,hl1,hl2,hl3⟩:=h.l
 obtain ⟨Am,cm,em,hm1,hm2,hm3⟩:=h.s
 have hl3' :0<b.log.length→ ∃ g o,x.al=some ⟨g,o,none⟩∧Ro w g o (b.log.flatMap aQ):=by
  cases el
  exact hl3
 have hm3' :0<b.rels.length→ ∃ g o,x.as_=some ⟨g,o,none⟩∧Ro w g o (b.rels.flatMap bu):=by
  cases em
  exact hm3
 have hLm:b.log.length≤maxLen:=Ma hl1 hl2
 have hMm:b.rels.length≤maxLen:=Ma hm1 hm2
 clear hl1 hl2 hl3 hm1 hm2 hm3 el em
 generalize gS b.ents=ce at hent ⊢
 generalize jY b.users b.rules=ae at hacl ⊢
 generalize l3 b.users b.grants=ge at hgnt ⊢
 generalize p9 b.users b.log b.rels=ue at haud ⊢
 obtain ⟨us,E,RU,G,L,M,st⟩:=b
 obtain ⟨ae1,ar1,ag1,al1,as1,ce1,cr1,cg1,cl1,cs1⟩:=x
 dsimp only at*
 simp only [aP] at*
 have hL:(L.length=0∧nK st L=false)∨(0<L.length∧ ∃ g o s,al1=some ⟨g,o,none⟩∧Ro w g (o+(L.length - 1)*9) [.int .i64 s]∧nK st L=decide (st≤s)):=by
  rcases Mx L.length with h0|hp
  ·
   exact .inl ⟨h0,by unfold nK;rw [if_neg (by omega)]⟩
  ·
   obtain ⟨g,o,e,hr⟩:=hl3' hp
   have hlt:L.length - 1<L.length:=by omega
   exact .inr ⟨hp,g,o,L[L.length - 1].step,e,(Ev.ro (hr.elem cX (L.length - 1) hlt)).1,by unfold nK;rw [if_pos hp,LF hlt];rfl⟩
 have hM:(M.length=0∧nJ st M=false)∨(0<M.length∧ ∃ g o s,as1=some ⟨g,o,none⟩∧Ro w g (o+(M.length - 1)*11) [.int .i64 s]∧nJ st M=decide (st≤s)):=by
  rcases Mx M.length with h0|hp
  ·
   exact .inl ⟨h0,by unfold nJ;rw [if_neg (by omega)]⟩
  ·
   obtain ⟨g,o,e,hr⟩:=hm3' hp
   have hlt:M.length - 1<M.length:=by omega
   exact .inr ⟨hp,g,o,M[M.length - 1].step,e,Rv.ro1 (hr.elem cW (M.length - 1) hlt),by unfold nJ;rw [if_pos hp,LF hlt];rfl⟩
 generalize nK st L=le at hL ⊢
 generalize nJ st M=lr at hM ⊢
 clear hl3' hm3'
 generalize L.length=nl at*
 generalize M.length=nm at*
 generalize E.length=nE at*
 generalize RU.length=nR at*
 generalize G.length=nG at*
 rcases hL with ⟨hL,rfl⟩|⟨hL,g1,o1,s1,rfl,hr1,rfl⟩<;>rcases hM with ⟨hM,rfl⟩|⟨hM,g2,o2,s2,rfl,hr2,rfl⟩
 all_goals
  repeat' (first|(apply aa (f:=50);exact rfl;exact rfl;(intro w' hm;exact hent w' _ hm))|(apply aa (f:=51);exact rfl;exact rfl;(intro w' hm;exact hacl w' _ hm))|(apply aa (f:=52);exact rfl;exact rfl;(intro w' hm;exact hgnt w' _ hm))|(apply aa (f:=53);exact rfl;exact rfl;(intro w' hm;exact haud w' _ hm))|(apply aK;exact rfl;apply du;exact rfl;exact rfl;omega;(simp only [maxLen] at*;omega))|(apply aK;exact rfl;apply aj (j:=nl - 1);exact rfl;exact rfl;omega)|(apply aK;exact rfl;apply aj (j:=nm - 1);exact rfl;exact rfl;omega)|refine sT ?_|refine sS ?_|refine sQ ?_|refine sN ?_|refine sNQ ?_|refine sO ?_|refine sOQ ?_|refine sD ?_|refine sM fun _=> ?_|(refine sC ?_ ?_<;>intro hb<;>try omega)|(refine sCQ ?_ ?_<;>intro hb<;>try omega)|fail)
 all_goals first
  |(exfalso;omega)
  |((refine rT1 ?_);simp_all;done)
  |((refine rT1 ?_);simp_all;omega)
  |trace_state
instance fldRt0:FldT Tryz.prog 36 0 34 0:=⟨_,_,Tryz.underlying36,rfl,rfl,rfl⟩
instance fldRt1:FldT Tryz.prog 36 1 34 1:=⟨_,_,Tryz.underlying36,rfl,rfl,rfl⟩
instance fldRt2:FldT Tryz.prog 36 2 34 2:=⟨_,_,Tryz.underlying36,rfl,rfl,rfl⟩
theorem Ox.ro {w:World} {g o:Nat} {x:Ox} (h:Ro w g o (bL x)):Ro w g (o+2) (bO x.rect)∧Ro w g (o+7) [vS x.rd,vS x.wr,vS x.ow]:=
 ⟨(h.drop (k:=2)).take (k:=4),(h.drop (k:=7)).take (k:=3)⟩
set_option maxHeartbeats 4000000 in
theorem Es (b:Bk) (x:Bv) (r:Rct) (gp gb:Nat) (w:World) (hp:Ro w gp 0 [.pointer (some ⟨gb,0,none⟩)]) (hbk:Ro w gb 0 (aP b x)) (hr:BRd w b x):
  ay Tryz.prog 155 [.agg (bO r).toArray,.pointer (some ⟨gp,0,none⟩)] w (.agg #[vS (ovE r b.rules).1.1,vS (ovE r b.rules).1.2.1,vS (ovE r b.rules).1.2.2]):=by
 refine aq Tryz.func155 rfl Tryz.ntmps155 rfl ?_
 have h1:=fun (w' :World) (H:List Blk) (hm:Mem w w' H)=>CX r b.rules _ w' (hr.r.of_w0 hm)
 generalize (ovE r b.rules).2=e at h1
 generalize (ovE r b.rules).1.1=s1 at h1 ⊢
 generalize (ovE r b.rules).1.2.1=s2 at h1 ⊢
 generalize (ovE r b.rules).1.2.2=s3 at h1 ⊢
 obtain ⟨us,E,RU,G,L,M,st⟩:=b
 obtain ⟨ae1,ar1,ag1,al1,as1,ce1,cr1,cg1,cl1,cs1⟩:=x
 dsimp only at*
 simp only [aP] at hbk
 repeat' (first|refine sT ?_|refine sS ?_|refine sO ?_|refine sM fun _=> ?_|(refine sC ?_ ?_<;>intro hb<;>try omega)|fail)
 rename_i g2 g3
 refine vw (id:=1) [5,9,10] [.box g2 33 (bO r),.box g3 36 [.int .u64 0,.int .u64 0,.int .u64 0]] 12 rfl rfl mS ?_
 repeat' (first|(apply fM (i:=1);(iterate 4 exact rfl);decide+kernel;decide+kernel;decide+kernel;apply iP;exact rfl;exact hp)|(apply fM (i:=4);(iterate 4 exact rfl);decide+kernel;decide+kernel;decide+kernel;apply dh;exact rfl;exact hbk;exact rfl)|(apply fM (i:=0);(iterate 4 exact rfl);decide+kernel;decide+kernel;decide+kernel;(exact vC))|(apply fM (i:=2);(iterate 4 exact rfl);decide+kernel;decide+kernel;decide+kernel;(exact vC))|(apply fM (i:=3);(iterate 4 exact rfl);decide+kernel;decide+kernel;decide+kernel;(exact vC))|(apply fM (i:=6);(iterate 4 exact rfl);decide+kernel;decide+kernel;decide+kernel;(exact vC))|(apply fM (i:=7);(iterate 4 exact rfl);decide+kernel;decide+kernel;decide+kernel;(exact vC))|(apply fM (i:=8);(iterate 4 exact rfl);decide+kernel;decide+kernel;decide+kernel;(exact vC))|(apply fM (i:=11);(iterate 4 exact rfl);decide+kernel;decide+kernel;decide+kernel;(apply kR;exact rfl))|(apply jq (i:=5) (j:=9);(iterate 6 exact rfl);decide+kernel)|(apply fB (i:=5);(iterate 3 exact rfl);decide+kernel)|(apply fB (i:=9);(iterate 3 exact rfl);decide+kernel)|(apply fB (i:=10);(iterate 3 exact rfl);decide+kernel)|(apply vu;decide+kernel)|(apply Jc;(focus (exact mS;done)))|(apply aa (f:=30);exact rfl;exact rfl;(intro w' hm;exact h1 w' _ hm))|refine sT ?_|refine sS ?_|refine sO ?_|refine sM fun _=> ?_|(refine sC ?_ ?_<;>intro hb<;>try omega)|fail)
 all_goals first
  |(exfalso;omega)
  |((refine eRC ?_);rfl)
  |trace_state
def DG (b:Bk) (o:Ox):Bool:=
 if o.kind=3∨o.kind=4 then !fU (ovE o.rect b.rules).1.2.1 o.user
 else if o.kind=6 then !fU (ovE o.rect b.rules).1.1 o.user
 else if o.kind=7∨o.kind=8 then !fU (ovE o.rect b.rules).1.2.2 o.user
 else if o.kind=9 then (match b.grants[o.idx.toNat]? with|some g=>decide (g.by_≠o.user) && !fU (ovE g.rect b.rules).1.2.2 o.user|none=>false)
 else false
set_option maxHeartbeats 16000000 in
theorem rj (b:Bk) (x:Bv) (o:Ox) (gb:Nat) (w:World) (hbk:Ro w gb 0 (aP b x)) (hr:BRd w b x) (hi:o.kind=9→0≤o.idx∧o.idx<(b.grants.length:Int)):
  ay Tryz.prog 118 [.pointer (some ⟨gb,0,none⟩),.agg (bL o).toArray] w (.bool (DG b o)):=by
 refine aq Tryz.func118 rfl Tryz.ntmps118 rfl ?_
 have hO:=fun (r:Rct) (gp:Nat) (w' :World) (H:List Blk) (hi:In (.box gp 123 [.pointer (some ⟨gb,0,none⟩)]) H) (hm:Mem w w' H)=>Es b x r gp gb w' (Ro.of_box hm hi) (hbk.next hm) (hr.of_w0 hm)
 unfold DG
 have hH:=fun (s:BitVec 64) w' =>oC s o.user w'
 by_cases k1:o.kind=3∨o.kind=4
 ·
  rw [if_pos k1]
  have hO1:=hO o.rect
  clear hO
  generalize (ovE o.rect b.rules).1.1=s1 at hO1 ⊢
  generalize (ovE o.rect b.rules).1.2.1=s2 at hO1 ⊢
  generalize (ovE o.rect b.rules).1.2.2=s3 at hO1 ⊢
  repeat' (first|(apply bK (id:=5) [3,7] [];kernel_rfl;kernel_rfl;kernel_rfl)|(apply dm;(iterate 3 exact rfl);apply cJ;exact rfl;exact rfl)|(apply bC (f:=155);exact rfl;exact rfl;infer_instance;exact rfl;(intro w' hm;exact hO1 _ w' _ pK hm))|(apply aa (f:=109);exact rfl;exact rfl;(intro w' _;exact hH _ w'))|refine sT ?_|refine sS ?_|refine sW ?_|refine sM fun _=> ?_|(refine sC ?_ ?_<;>intro hb<;>try omega)|(refine sCW ?_ ?_<;>intro hb<;>try omega)|fail)
  all_goals first|(exfalso;omega)|((refine rT1 ?_);rfl)|trace_state
 rw [if_neg k1]
 by_cases k2:o.kind=6
 ·
  rw [if_pos k2]
  have hO1:=hO o.rect
  clear hO
  generalize (ovE o.rect b.rules).1.1=s1 at hO1 ⊢
  generalize (ovE o.rect b.rules).1.2.1=s2 at hO1 ⊢
  generalize (ovE o.rect b.rules).1.2.2=s3 at hO1 ⊢
  repeat' (first|(apply bK (id:=7) [3,7] [];kernel_rfl;kernel_rfl;kernel_rfl)|(apply dm;(iterate 3 exact rfl);apply cJ;exact rfl;exact rfl)|(apply bC (f:=155);exact rfl;exact rfl;infer_instance;exact rfl;(intro w' hm;exact hO1 _ w' _ pK hm))|(apply aa (f:=109);exact rfl;exact rfl;(intro w' _;exact hH _ w'))|refine sT ?_|refine sS ?_|refine sW ?_|refine sM fun _=> ?_|(refine sC ?_ ?_<;>intro hb<;>try omega)|(refine sCW ?_ ?_<;>intro hb<;>try omega)|fail)
  all_goals first|(exfalso;omega)|((refine rT1 ?_);rfl)|trace_state
 rw [if_neg k2]
 by_cases k3:o.kind=7∨o.kind=8
 ·
  rw [if_pos k3]
  have hO1:=hO o.rect
  clear hO
  generalize (ovE o.rect b.rules).1.1=s1 at hO1 ⊢
  generalize (ovE o.rect b.rules).1.2.1=s2 at hO1 ⊢
  generalize (ovE o.rect b.rules).1.2.2=s3 at hO1 ⊢
  repeat' (first|(apply bK (id:=10) [3,7] [];kernel_rfl;kernel_rfl;kernel_rfl)|(apply dm;(iterate 3 exact rfl);apply cJ;exact rfl;exact rfl)|(apply bC (f:=155);exact rfl;exact rfl;infer_instance;exact rfl;(intro w' hm;exact hO1 _ w' _ pK hm))|(apply aa (f:=109);exact rfl;exact rfl;(intro w' _;exact hH _ w'))|refine sT ?_|refine sS ?_|refine sW ?_|refine sM fun _=> ?_|(refine sC ?_ ?_<;>intro hb<;>try omega)|(refine sCW ?_ ?_<;>intro hb<;>try omega)|fail)
  all_goals first|(exfalso;omega)|((refine rT1 ?_);rfl)|trace_state
 rw [if_neg k3]
 by_cases k4:o.kind=9
 ·
  rw [if_pos k4]
  obtain ⟨hi1,hi2⟩:=hi k4
  obtain ⟨j,hj⟩: ∃ j:Nat,o.idx=(j:Int):=⟨o.idx.toNat,by omega⟩
  have hjl:j<b.grants.length:=by omega
  rw [hj,MY,LF hjl]
  have hg:=hr.g
  obtain ⟨ae1,ar1,ag1,al1,as1,ce1,cr1,cg1,cl1,cs1⟩:=x
  dsimp only at*
  obtain ⟨Ag,cg2,eg,hg1,hg2,hg3⟩:=hg
  cases eg
  obtain ⟨gg,og,rfl,hrg⟩:=hg3 (by omega)
  have he:=hrg.elem bR j hjl
  generalize b.grants[j]=y at he ⊢
  have hO1:=hO y.rect
  clear hO
  generalize (ovE y.rect b.rules).1.1=s1 at hO1 ⊢
  generalize (ovE y.rect b.rules).1.2.1=s2 at hO1 ⊢
  generalize (ovE y.rect b.rules).1.2.2=s3 at hO1 ⊢
  obtain ⟨us,E,RU,G,L,M,st⟩:=b
  dsimp only at*
  simp only [aP] at hbk
  repeat' (first|(apply bK (id:=12) [8,9] [];kernel_rfl;kernel_rfl;kernel_rfl)|(apply bK (id:=13) [9,13] [];kernel_rfl;kernel_rfl;kernel_rfl)|(apply dm;(iterate 3 exact rfl);apply dh;exact rfl;exact hbk;exact rfl)|(apply dm;(iterate 3 exact rfl);apply aj (j:=j);exact rfl;(rw [hj];exact rfl);exact hjl)|(apply dm;(iterate 3 exact rfl);apply aA;exact rfl;exact he;exact rfl)|(apply dm;(iterate 3 exact rfl);apply cJ;exact rfl;exact rfl)|(apply bC (f:=155);exact rfl;exact rfl;infer_instance;exact rfl;(intro w' hm;exact hO1 _ w' _ pK hm))|(apply aa (f:=109);exact rfl;exact rfl;(intro w' _;exact hH _ w'))|refine sT ?_|refine sS ?_|refine sW ?_|refine sM fun _=> ?_|(refine sC ?_ ?_<;>intro hb<;>try omega)|(refine sCW ?_ ?_<;>intro hb<;>try omega)|fail)
  all_goals first
   |(exfalso;omega)
   |((refine rT1 ?_);rw [decide_eq_false hb];rfl)
   |((refine rT1 ?_);rw [decide_eq_true hb];rfl)
   |trace_state
 rw [if_neg k4]
 repeat' (first|refine sT ?_|refine sS ?_|refine sM fun _=> ?_|(refine sC ?_ ?_<;>intro hb<;>try omega)|fail)
 all_goals first|(exfalso;omega)|((refine rT1 ?_);rfl)|trace_state
end Go.SL

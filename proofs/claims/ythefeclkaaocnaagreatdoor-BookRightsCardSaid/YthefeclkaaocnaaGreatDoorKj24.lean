/-
  Lemmas and walks, put together: Hb S5 S6 Hc G2a G2 Lp K2 Sm L3 La Ra Pl Rb Rd Re Rf Pl2 Rg Rh Pl3 Ri Hd Pg2.
-/
import Derived.Deep.RegionHeld3
import Derived.Shelf.SortM.Plain
import Derived.Shelf.SortM.SortNone
import Derived.Ground.SlgmProg
import Derived.Test.YthefeclkaaocnaaGreatDoorKj22
import Derived.Test.YthefeclkaaocnaaGreatDoorKj23
set_option linter.unusedSimpArgs false
set_option linter.unusedVariables false
set_option maxRecDepth 20000
namespace Go.SL
open Go Go.Proofs
attribute [local irreducible] W WL WQ WG WA WX WLI WR WT WC WE VOp RW thn blk bG scp bg bi bT aQ FnIn FnP ceP
theorem GG (a b:Rct) (w:World):ax Tryz.prog 166 [.agg (bQ a).toArray,.agg (bQ b).toArray] w (.bool (jw a b)):=by
 refine aq Tryz.func166 rfl Tryz.ntmps166 rfl ?_
 have hM:=fun w=>EX a b w
 unfold jw
 obtain ⟨c,hc⟩: ∃ c,decide ((dV a b).1=a)=c:=⟨_,rfl⟩
 rw [hc]
 generalize dV a b=m at hM hc
 obtain ⟨mr,mb⟩:=m
 dsimp only at hM hc ⊢
 cases mb
 ·
  repeat' (first|(apply aa;exact rfl;exact rfl;(intro w hm;exact hM w))|refine sT ?_|refine sM fun _=> ?_|(refine sC ?_ ?_<;>intro hb<;>try omega)|fail)
  all_goals first|(exfalso;omega)|((refine rT1 ?_);rfl)|trace_state
 ·
  repeat' (first|(apply aa;exact rfl;exact rfl;(intro w hm;exact hM w))|(apply ak;exact rfl;apply Fj hc;exact rfl;exact rfl)|refine sT ?_|refine sM fun _=> ?_|(refine sC ?_ ?_<;>intro hb<;>try omega)|fail)
  all_goals first|(exfalso;omega)|((refine rT1 ?_);rfl)|trace_state
set_option maxHeartbeats 4000000 in
theorem yY (r:Rct) (L:List Rl) (lv:Value) (w:World) (hl:Reads w lv L.length (L.flatMap bn)) (hb:L.length≤1000000):ax Tryz.prog 132 [.agg (bQ r).toArray,lv] w (.int .i64 (ib r L:Int)):=by
 obtain ⟨Al,cl,rfl,hl1,hl2,hl3⟩:=hl
 refine aq Tryz.func132 rfl Tryz.ntmps132 rfl ?_
 by_cases h0:L.length=0
 ·
  have e:ib r L=0:=by rw [ib,h0];rfl
  rw [e]
  repeat' (first|refine sT ?_|refine sS ?_|refine sJ ?_|refine sM fun _=> ?_|(refine sC ?_ ?_<;>intro hb<;>try omega)|fail)
  rename_i g2
  refine ay [1,2] rfl (fun _:Unit=> [(5,.int .i64 (-1))]) (fun _=> [.box g2 33 (bQ r)]) (fun _=>True) (fun _=>0) () trivial (by rw [h0];exact sB) mS ?_
  rintro _ _
  repeat' (first|refine sT ?_|refine sS ?_|refine sJ ?_|refine sM fun _=> ?_|(refine sC ?_ ?_<;>intro hb<;>try omega)|fail)
  all_goals first|(exfalso;omega)|((refine rT1 ?_);rfl)|trace_state
 repeat' (first|refine sT ?_|refine sS ?_|refine sN ?_|refine sM fun _=> ?_|(refine sC ?_ ?_<;>intro hb<;>try omega)|fail)
 rename_i g2
 obtain ⟨gl,ol,rfl,hrl⟩:=hl3 (by omega)
 refine ay [1,2] rfl (fun i:Nat=> [(5,.int .i64 (i:Int))]) (fun _=> [.box g2 33 (bQ r)]) (fun i=>i<L.length∧ib r L=mE r L (i+1)) (fun i=>i) (L.length - 1) ⟨by omega,by rw [Qq (by omega)];rfl⟩ sB mS ?_
 rintro i ⟨hi,hrec⟩
 rw [mE,NE hi] at hrec
 simp only [OM,P5] at hrec
 have hIn:=fun w=>GG r L[i].rect w
 obtain ⟨h0a,_⟩:=Rl.ro (hrl.elem cK i hi)
 obtain ⟨c,hcc⟩: ∃ c,jw r L[i].rect=c:=⟨_,rfl⟩
 simp only [hcc] at hIn hrec
 clear hcc
 generalize L[i].rect=x at h0a hIn
 by_cases hi0:i=0
 ·
  subst hi0
  have e:ib r L=0:=by rw [hrec];cases c<;>rfl
  rw [e]
  repeat' (first|refine sT ?_|refine sS ?_|refine sM fun _=> ?_|(refine sC ?_ ?_<;>intro hb<;>try omega)|fail)
  all_goals first|(exfalso;omega)|((refine rT1 ?_);rfl)|trace_state
 ·
  cases c
  ·
   rw [if_neg (by decide)] at hrec
   repeat' (first|(apply aK;exact rfl;apply aj (j:=i);exact rfl;exact rfl;exact hi)|(apply dO (f:=166);exact rfl;exact rfl;(intro w' _;exact hIn w'))|refine sT ?_|refine sS ?_|refine sQ ?_|refine sN ?_|refine sNQ ?_|refine sO ?_|refine sOQ ?_|refine sD ?_|refine sM fun _=> ?_|(refine sC ?_ ?_<;>intro hb<;>try omega)|(refine sCQ ?_ ?_<;>intro hb<;>try omega)|fail)
   all_goals first
    |(exfalso;omega)
    |(refine ⟨i - 1,⟨by omega,by rw [Qq (by omega)];exact hrec⟩,by omega,by exact sB,by exact sB,by exact mS⟩;done)
    |trace_state
  ·
   rw [if_pos rfl] at hrec
   rw [hrec]
   repeat' (first|(apply aK;exact rfl;apply aj (j:=i);exact rfl;exact rfl;exact hi)|(apply dO (f:=166);exact rfl;exact rfl;(intro w' _;exact hIn w'))|refine sT ?_|refine sS ?_|refine sQ ?_|refine sN ?_|refine sNQ ?_|refine sO ?_|refine sOQ ?_|refine sD ?_|refine sM fun _=> ?_|(refine sC ?_ ?_<;>intro hb<;>try omega)|(refine sCQ ?_ ?_<;>intro hb<;>try omega)|fail)
   all_goals first|(exfalso;omega)|((refine rT1 ?_);rfl)|trace_state
def Da (u:Int) (g:Gn):Bool:=decide (1≤g.fns) && decide (g.fns≤31) && decide (g.to &&& ~~~(db u).1=0#64) && eU (db u).1 g.by_
def f9 (u:Int):List Gn→Int→Int × Int
 | [],_=>(0,0)
 |g::L,i=>if aF g.rect=false then (i,3) else if Da u g=false then (i,2) else f9 u L (i+1)
def kR (u:Int) (L:List Gn):Int × Int:=
 if u<0∨64<u∨u=0 then (0,2) else if 64<L.length then (64,5) else f9 u L 0
theorem Gn.ro {w:World} {g o:Nat} {r:Gn} (h:Ro w g o (bA r)):Ro w g o (bQ r.rect)∧Ro w g (o+4) [.int .u8 r.fns]∧Ro w g (o+5) [vS r.to]∧Ro w g (o+6) [.int .i64 r.by_]∧Ro w g (o+7) [.bool r.rev]:=
 ⟨h.take (k:=4),(h.drop (k:=4)).take (k:=1),(h.drop (k:=5)).take (k:=1),(h.drop (k:=6)).take (k:=1),h.drop (k:=7)⟩
set_option maxHeartbeats 4000000 in
theorem rI (u:Int) (L:List Gn) (lv:Value) (w:World) (hl:Reads w lv L.length (L.flatMap bA)):ax Tryz.prog 52 [.int .i64 u,lv] w (.tuple #[.int .i64 (kR u L).1,.int .i64 (kR u L).2]):=by
 obtain ⟨Al,cl,rfl,hl1,hl2,hl3⟩:=hl
 refine aq Tryz.func52 rfl Tryz.ntmps52 rfl ?_
 have hA:=fun w=>yO u w
 unfold kR
 have hE:(db u).2=if u<0∨64<u then 3 else 0:=by unfold db;split<;>rfl
 obtain ⟨sa,has⟩: ∃ sa,sa=(db u).1:=⟨_,rfl⟩
 rw [← has,hE] at hA
 by_cases h1:u<0∨64<u∨u=0
 ·
  rw [if_pos h1]
  by_cases h2:u<0∨64<u
  ·
   rw [if_pos h2] at hA
   repeat' (first|(apply aa;exact rfl;exact rfl;(intro w hm;exact hA w))|refine sT ?_|refine sM fun _=> ?_|(refine sC ?_ ?_<;>intro hb<;>try omega)|fail)
   all_goals first|(exfalso;omega)|((refine rT2 ?_);rfl)|trace_state
  ·
   rw [if_neg h2] at hA
   repeat' (first|(apply aa;exact rfl;exact rfl;(intro w hm;exact hA w))|refine sT ?_|refine sM fun _=> ?_|(refine sC ?_ ?_<;>intro hb<;>try omega)|fail)
   all_goals first|(exfalso;omega)|((refine rT2 ?_);rfl)|trace_state
 rw [if_neg h1]
 rw [if_neg (by omega)] at hA
 by_cases h64:64<L.length
 ·
  rw [if_pos h64]
  repeat' (first|(apply aa;exact rfl;exact rfl;(intro w hm;exact hA w))|refine sT ?_|refine sM fun _=> ?_|(refine sC ?_ ?_<;>intro hb<;>try omega)|fail)
  all_goals first|(exfalso;omega)|((refine rT2 ?_);rfl)|trace_state
 rw [if_neg h64]
 repeat' (first|(apply aa;exact rfl;exact rfl;(intro w hm;exact hA w))|refine sT ?_|refine sM fun _=> ?_|(refine sC ?_ ?_<;>intro hb<;>try omega)|fail)
 all_goals try (exfalso;omega)
 refine ay [1,6,23,24] rfl (fun i:Nat=> [(25,.int .i64 (i:Int))]) (fun _=> []) (fun i=>i≤L.length∧f9 u L 0=f9 u (L.drop i) (i:Int)) (fun i=>L.length - i) 0 ⟨NY _,rfl⟩ sB mS ?_
 rintro i ⟨hi,hrec⟩
 by_cases hlt:i<L.length
 ·
  obtain ⟨gl,ol,rfl,hrl⟩:=hl3 (by omega)
  have he1:=hrl.elem cX i hlt
  rw [NL hlt,f9,Da,← has] at hrec
  generalize L[i]=r at hrec he1
  have hck:=fun w=>gR r.rect w
  have hhs:=fun w=>qw sa r.by_ w
  generalize eU sa r.by_=hb at hhs hrec
  repeat' (first|(apply aa;exact rfl;exact rfl;(intro w hm;exact hck w))|(apply aa;exact rfl;exact rfl;(intro w hm;exact hhs w))|(apply ak;exact rfl;apply dY (b:=sa);exact rfl;exact rfl)|(apply ak;exact rfl;apply iM (b:=0#64);exact rfl;exact rfl)|refine sT ?_|refine sN ?_|refine sO ?_|refine sM fun _=> ?_|(refine sC ?_ ?_<;>intro hb<;>try omega)|fail)
  all_goals first
   |(exfalso;omega)
   |((refine rT2 ?_);rw [hrec,if_pos (iy hb)];done)
   |((refine rT2 ?_);rw [hrec,if_neg (fg ‹_›),if_pos (by first|(rw [decide_eq_false (show ¬ (1:Int)≤r.fns by omega)];rfl)|(rw [decide_eq_false (show ¬ r.fns≤(31:Int) by omega),Bool.and_false];rfl)|(rw [decide_eq_false hb,Bool.and_false];rfl)|(rw [hb,Bool.and_false]))];done)
   |(refine ⟨i+1,⟨hlt,by rw [hrec,if_neg (fg ‹_›),if_neg (by simp_all)];rfl⟩,by omega,by exact sB,by exact sB,by exact mS⟩;done)
   |trace_state
 ·
  have e:i=L.length:=by omega
  subst e
  rw [NW,f9] at hrec
  rw [hrec]
  repeat' (first|refine sT ?_|refine sM fun _=> ?_|(refine sC ?_ ?_<;>intro hb<;>try omega)|fail)
  all_goals first|(exfalso;omega)|((refine rT2 ?_);rfl)|trace_state
end Go.SL
namespace Go.Proofs
open Go Go.Shelf Go.RowKit Go.Lib Go.Sort Go.SL
def Ld (a b:Int):Int:=if a<b then -1 else if b<a then 1 else 0
def orI (a b c d:Int):Int:=if a≠0 then a else if b≠0 then b else if c≠0 then c else d
def KA (a b:Rct):Int:=orI (Ld a.r1 b.r1) (Ld a.c1 b.c1) (Ld a.r2 b.r2) (Ld a.c2 b.c2)
end Go.Proofs
namespace Go.Proofs
open Go Go.Shelf Go.RowKit Go.Lib Go.Sort Go.SL
def Tryz.sortRc_ren:Go.Shelf.Ren:=⟨fun|6=>100|15=>138|14=>148|28=>177|29=>178|20=>183|21=>184|22=>185|23=>186|24=>187|25=>188|26=>189|27=>190|46=>227|47=>218|48=>219|49=>228|50=>229|57=>273|n=>n,fun|22=>110|24=>33|25=>188|3=>3|39=>75|0=>0|53=>265|55=>34|4=>4|46=>258|45=>257|50=>262|5=>5|9=>9|66=>303|70=>307|76=>351|77=>352|n=>n,fun|n=>n⟩
theorem Tryz.sortRc:Go.Proofs.SlLaysF0.n6 Tryz.prog Tryz.sortRc_ren:={
 mixed:=by kernel_rfl
 f6:=⟨Tryz.f100.name,by decide,Tryz.func100.trans (congrArg some (by kernel_rfl))⟩
 f14:=⟨Tryz.f148.name,by decide,Tryz.func148.trans (congrArg some (by kernel_rfl))⟩
 f15:=Tryz.func138.trans (congrArg some (by kernel_rfl))
 f20:=⟨Tryz.f183.name,by decide,Tryz.func183.trans (congrArg some (by kernel_rfl))⟩
 f21:=⟨Tryz.f184.name,by decide,Tryz.func184.trans (congrArg some (by kernel_rfl))⟩
 f22:=⟨Tryz.f185.name,by decide,Tryz.func185.trans (congrArg some (by kernel_rfl))⟩
 f23:=⟨Tryz.f186.name,by decide,Tryz.func186.trans (congrArg some (by kernel_rfl))⟩
 f24:=⟨Tryz.f187.name,by decide,Tryz.func187.trans (congrArg some (by kernel_rfl))⟩
 f25:=⟨Tryz.f188.name,by decide,Tryz.func188.trans (congrArg some (by kernel_rfl))⟩
 f26:=⟨Tryz.f189.name,by decide,Tryz.func189.trans (congrArg some (by kernel_rfl))⟩
 f27:=⟨Tryz.f190.name,by decide,Tryz.func190.trans (congrArg some (by kernel_rfl))⟩
 f28:=Tryz.func177.trans (congrArg some (by kernel_rfl))
 f29:=Tryz.func178.trans (congrArg some (by kernel_rfl))
 f46:=⟨Tryz.f227.name,by decide,Tryz.func227.trans (congrArg some (by kernel_rfl))⟩
 f47:=Tryz.func218.trans (congrArg some (by kernel_rfl))
 f48:=Tryz.func219.trans (congrArg some (by kernel_rfl))
 f49:=⟨Tryz.f228.name,by decide,Tryz.func228.trans (congrArg some (by kernel_rfl))⟩
 f50:=⟨Tryz.f229.name,by decide,Tryz.func229.trans (congrArg some (by kernel_rfl))⟩
 f57:=⟨Tryz.f273.name,by decide,Tryz.func273.trans (congrArg some (by kernel_rfl))⟩
 t0:=Tryz.underlying0
 a0:=Tryz.isAgg0
 z0:=Tryz.sizeOf0
 v0:=Tryz.zeroValue0
 t3:=Tryz.underlying3
 a3:=Tryz.isAgg3
 z3:=Tryz.sizeOf3
 v3:=Tryz.zeroValue3
 t4:=Tryz.underlying4
 a4:=Tryz.isAgg4
 z4:=Tryz.sizeOf4
 v4:=Tryz.zeroValue4
 t5:=Tryz.underlying5
 a5:=Tryz.isAgg5
 z5:=Tryz.sizeOf5
 v5:=Tryz.zeroValue5
 t9:=Tryz.underlying9
 a9:=Tryz.isAgg9
 z9:=Tryz.sizeOf9
 v9:=Tryz.zeroValue9
 t22:=Tryz.underlying110
 a22:=Tryz.isAgg110
 z22:=Tryz.sizeOf110
 v22:=Tryz.zeroValue110
 t25:=Tryz.underlying188
 a25:=Tryz.isAgg188
 z25:=Tryz.sizeOf188
 v25:=Tryz.zeroValue188
 t39:=Tryz.underlying75
 a39:=Tryz.isAgg75
 z39:=Tryz.sizeOf75
 v39:=Tryz.zeroValue75
 t45:=Tryz.underlying257
 a45:=Tryz.isAgg257
 z45:=Tryz.sizeOf257
 v45:=Tryz.zeroValue257
 t46:=Tryz.underlying258
 a46:=Tryz.isAgg258
 z46:=Tryz.sizeOf258
 v46:=Tryz.zeroValue258
 t50:=Tryz.underlying262
 a50:=Tryz.isAgg262
 z50:=Tryz.sizeOf262
 v50:=Tryz.zeroValue262
 t53:=Tryz.underlying265
 a53:=Tryz.isAgg265
 z53:=Tryz.sizeOf265
 v53:=Tryz.zeroValue265
 t55:=Tryz.underlying34
 a55:=Tryz.isAgg34
 z55:=Tryz.sizeOf34
 v55:=Tryz.zeroValue34
 t66:=Tryz.underlying303
 a66:=Tryz.isAgg303
 z66:=Tryz.sizeOf303
 v66:=Tryz.zeroValue303
 t70:=Tryz.underlying307
 a70:=Tryz.isAgg307
 z70:=Tryz.sizeOf307
 v70:=Tryz.zeroValue307
 t76:=Tryz.underlying351
 a76:=Tryz.isAgg351
 z76:=Tryz.sizeOf351
 v76:=Tryz.zeroValue351
 t77:=Tryz.underlying352
 a77:=Tryz.isAgg352
 z77:=Tryz.sizeOf352
 v77:=Tryz.zeroValue352 }
end Go.Proofs
namespace Go.SL
open Go Go.Proofs Go.Sort Go.Shelf
def sortRc (L:List Rct):List Rct:=L.mergeSort fun x y=> !(ltOf KA y x)
end Go.SL
namespace Go.Proofs
open Go Go.Shelf Go.RowKit Go.Lib Go.Sort Go.SL
def Tryz.sortIn_ren:Go.Shelf.Ren:=⟨fun|5=>164|8=>138|7=>212|19=>177|20=>178|10=>260|11=>261|12=>262|13=>263|14=>264|15=>265|16=>266|17=>267|18=>268|30=>303|31=>218|32=>219|33=>304|34=>305|35=>149|40=>326|n=>n,fun|23=>102|25=>3|3=>3|32=>75|22=>102|0=>0|44=>265|46=>34|4=>4|36=>258|35=>257|41=>262|5=>5|9=>9|53=>303|57=>307|63=>351|64=>352|n=>n,fun|n=>n⟩
theorem Tryz.sortIn:Go.Proofs.SlLaysM.n5 Tryz.prog Tryz.sortIn_ren:={
 mixed:=by kernel_rfl
 f5:=⟨Tryz.f164.name,by decide,Tryz.func164.trans (congrArg some (by kernel_rfl))⟩
 f7:=⟨Tryz.f212.name,by decide,Tryz.func212.trans (congrArg some (by kernel_rfl))⟩
 f8:=Tryz.func138.trans (congrArg some (by kernel_rfl))
 f10:=⟨Tryz.f260.name,by decide,Tryz.func260.trans (congrArg some (by kernel_rfl))⟩
 f11:=⟨Tryz.f261.name,by decide,Tryz.func261.trans (congrArg some (by kernel_rfl))⟩
 f12:=⟨Tryz.f262.name,by decide,Tryz.func262.trans (congrArg some (by kernel_rfl))⟩
 f13:=⟨Tryz.f263.name,by decide,Tryz.func263.trans (congrArg some (by kernel_rfl))⟩
 f14:=⟨Tryz.f264.name,by decide,Tryz.func264.trans (congrArg some (by kernel_rfl))⟩
 f15:=⟨Tryz.f265.name,by decide,Tryz.func265.trans (congrArg some (by kernel_rfl))⟩
 f16:=⟨Tryz.f266.name,by decide,Tryz.func266.trans (congrArg some (by kernel_rfl))⟩
 f17:=⟨Tryz.f267.name,by decide,Tryz.func267.trans (congrArg some (by kernel_rfl))⟩
 f18:=⟨Tryz.f268.name,by decide,Tryz.func268.trans (congrArg some (by kernel_rfl))⟩
 f19:=Tryz.func177.trans (congrArg some (by kernel_rfl))
 f20:=Tryz.func178.trans (congrArg some (by kernel_rfl))
 f30:=⟨Tryz.f303.name,by decide,Tryz.func303.trans (congrArg some (by kernel_rfl))⟩
 f31:=Tryz.func218.trans (congrArg some (by kernel_rfl))
 f32:=Tryz.func219.trans (congrArg some (by kernel_rfl))
 f33:=⟨Tryz.f304.name,by decide,Tryz.func304.trans (congrArg some (by kernel_rfl))⟩
 f34:=⟨Tryz.f305.name,by decide,Tryz.func305.trans (congrArg some (by kernel_rfl))⟩
 f35:=⟨Tryz.f149.name,by decide,Tryz.func149.trans (congrArg some (by kernel_rfl))⟩
 f40:=⟨Tryz.f326.name,by decide,Tryz.func326.trans (congrArg some (by kernel_rfl))⟩
 t0:=Tryz.underlying0
 a0:=Tryz.isAgg0
 z0:=Tryz.sizeOf0
 v0:=Tryz.zeroValue0
 t3:=Tryz.underlying3
 a3:=Tryz.isAgg3
 z3:=Tryz.sizeOf3
 v3:=Tryz.zeroValue3
 t4:=Tryz.underlying4
 a4:=Tryz.isAgg4
 z4:=Tryz.sizeOf4
 v4:=Tryz.zeroValue4
 t5:=Tryz.underlying5
 a5:=Tryz.isAgg5
 z5:=Tryz.sizeOf5
 v5:=Tryz.zeroValue5
 t9:=Tryz.underlying9
 a9:=Tryz.isAgg9
 z9:=Tryz.sizeOf9
 v9:=Tryz.zeroValue9
 t22:=Tryz.underlying102
 a22:=Tryz.isAgg102
 z22:=Tryz.sizeOf102
 v22:=Tryz.zeroValue102
 t23:=Tryz.underlying102
 a23:=Tryz.isAgg102
 z23:=Tryz.sizeOf102
 v23:=Tryz.zeroValue102
 t25:=Tryz.underlying3
 a25:=Tryz.isAgg3
 z25:=Tryz.sizeOf3
 v25:=Tryz.zeroValue3
 t32:=Tryz.underlying75
 a32:=Tryz.isAgg75
 z32:=Tryz.sizeOf75
 v32:=Tryz.zeroValue75
 t35:=Tryz.underlying257
 a35:=Tryz.isAgg257
 z35:=Tryz.sizeOf257
 v35:=Tryz.zeroValue257
 t36:=Tryz.underlying258
 a36:=Tryz.isAgg258
 z36:=Tryz.sizeOf258
 v36:=Tryz.zeroValue258
 t41:=Tryz.underlying262
 a41:=Tryz.isAgg262
 z41:=Tryz.sizeOf262
 v41:=Tryz.zeroValue262
 t44:=Tryz.underlying265
 a44:=Tryz.isAgg265
 z44:=Tryz.sizeOf265
 v44:=Tryz.zeroValue265
 t46:=Tryz.underlying34
 a46:=Tryz.isAgg34
 z46:=Tryz.sizeOf34
 v46:=Tryz.zeroValue34
 t53:=Tryz.underlying303
 a53:=Tryz.isAgg303
 z53:=Tryz.sizeOf303
 v53:=Tryz.zeroValue303
 t57:=Tryz.underlying307
 a57:=Tryz.isAgg307
 z57:=Tryz.sizeOf307
 v57:=Tryz.zeroValue307
 t63:=Tryz.underlying351
 a63:=Tryz.isAgg351
 z63:=Tryz.sizeOf351
 v63:=Tryz.zeroValue351
 t64:=Tryz.underlying352
 a64:=Tryz.isAgg352
 z64:=Tryz.sizeOf352
 v64:=Tryz.zeroValue352 }
end Go.Proofs
namespace Go.SL
open Go Go.Proofs Go.Sort Go.Shelf
theorem zq {α:Type} [Inhabited α] {enc:α→Value} (w:World) (g n:Nat) (d:Array α) (os:Array Obj):w.grownBy (grow (putRow enc (Sort.ahead w n) g 0 d) os) (some g):={
 os:=rfl
 tape:=rfl
 output:=rfl
 size:=by
  show w.heap.size≤((w.heap.modify g _)++os).size
  rw [Array.size_append,Array.size_modify]
  omega
 block k hk hne:=by
  show ((w.heap.modify g _)++os)[k]? =_
  rw [O9 (by rw [Array.size_modify];exact hk),Qg,if_neg (fun e=>hne (by rw [e]))] }
theorem Cp {α:Type} [Inhabited α] {enc:α→Value} (w:World) (g n:Nat) (d:Array α) (os:Array Obj) (c:Array Value) (T:TypeId) (fr:Nat × Nat) (h:w.heap[g]? =some (.cells c T fr)):
  (grow (putRow enc (Sort.ahead w n) g 0 d) os).heap[g]? =some (.cells (putCells enc 0 d c) T fr):=by
 have hlt:g<w.heap.size:=(Oz.1 h).1
 show ((w.heap.modify g _)++os)[g]? =_
 rw [O9 (by rw [Array.size_modify];exact hlt),Qg,if_pos rfl,h]
 rfl
theorem CJ (L:List Int) (xs junk:List Value) (hl:xs.length=L.length):putCells fE 0 L.toArray (xs++junk).toArray=(L.map fE++junk).toArray:=by
 apply Array.ext_getElem?
 intro j
 simp only [putCells,Array.getElem?_mapIdx,OG,Qe,NY,true_and,N7,PJ]
 by_cases hj:j<L.length
 ·
  rw [OP (by omega),OP (by rw [OV];omega),OU,NE (by omega),NE hj]
  simp [hj]
 ·
  rw [OC (by omega),OC (by rw [OV];omega),hl,OV]
  simp [hj]
set_option maxHeartbeats 1000000 in
theorem zp (L:List Int) (A:Option Nat) (cap:Nat) (hL:L.length≤1000000) (R:List Blk) (w0:World):
  FnIn Tryz.prog 164 [sl A L.length cap] w0 (.own A 3 1 L.length cap (L.map fE)::R) fun v H=>v= .tuple #[]∧H= .own A 3 1 L.length cap ((jm L).map fE)::R:=by
 have hl:(jm L).length=L.length:=(il L).length_eq
 cases A with
 |none=>
  intro w hm
  obtain ⟨⟨h1,h2,h3,h4⟩,_⟩:=hm.on _ NI
  obtain ⟨h5,h6⟩:=h4
  have hnil:L= []:=Pk.1 h5
  subst hnil
  subst h6
  have he:jm []= []:=Pk.1 hl
  refine Calls.mono (AnyM.slices_Sort_int_none Tryz.sortIn none 0 w) ?_
  rintro e w' ⟨rfl,rfl⟩
  exact ⟨_,_,rfl,hm,rfl,by rw [he]⟩
 |some g=>
  intro w hm
  obtain ⟨⟨h1,h2,h3,junk,h4,h5⟩,hkk⟩:=hm.on _ NI
  have hlt:g<w.heap.size:=(Oz.1 h5).1
  have hH:Holds fE w g 0 L.toArray:=by
   intro j hj
   simp only [Qe] at hj
   have hc:(L.map fE++junk).toArray[j]? =some (fE L.toArray[j]!):=by
    rw [OG,OP (by rw [OV];exact hj),OU,NE hj]
    simp [hj]
   constructor
   ·
    simp only [World.cell?,N7,h5]
    exact hc
   ·
    simp [World.frozen?,h5]
  have hs:=AnyM.slices_Sort_int Tryz.sortIn g 0 cap L w hH hlt (by omega)
  refine hs.mono ?_
  rintro e w' ⟨rfl,n,os,rfl⟩
  refine ⟨_,_,rfl,hm.upd (zq _ _ _ _ _) (b' := .own (some g) 3 1 L.length cap ((jm L).map fE)) ?_ fun k hk=> .inl hk,rfl,rfl⟩
  refine ⟨by rw [OV,hl,Pw],h2,h3,junk,by rw [ND,OV,hl,← Pw L.length,← h1,← ND];exact h4,?_⟩
  have h6:=Cp (enc:=fE) w g n (jm L).toArray os _ _ _ h5
  rw [CJ (jm L) _ _ (by rw [hl,h1,Pw])] at h6
  exact h6
end Go.SL
namespace Go.SL
open Go Go.Proofs
attribute [local irreducible] W WL WQ WG WA WX WLI WR WT WC VOp RW thn blk bG scp bg bi bT aQ FnP ceP
structure Gp where
 gg:Nat
 gm:Nat
 E:List En
 clock:Nat
 gr:Nat
 A:Option Nat
 cap:Nat
 Q:List En
 R:List Blk
end Go.SL
namespace Go.SL
open Go Go.Proofs
attribute [local irreducible] W WL WQ WG WA WX WLI WR WT WC VOp RW thn blk bG scp bg bi bT aQ FnIn FnP ceP
theorem uX (L:List Et): ∀ u∈L.flatMap aJ,u.oneCell' =true:=by
 intro u hu
 obtain ⟨x,_,hx⟩:=OL.1 hu
 simp only [aJ,NS,PI,or_false] at hx
 rcases hx with rfl|rfl|rfl<;>rfl
theorem pH {P:Program} {w0:World} {s:az} {H:List Blk} {ty t t' :TypeId} [Und P t .bool] {x y:Operand} {b:Bool} (hx:ev s x=some (.bool b)) (hy:ev s y=some (.bool b)):VOp P w0 s H (.binOp .neq t x y t') ty (.bool false):=by
 have h:=ic (P:=P) (w0:=w0) (s:=s) (H:=H) (ty:=ty) (t:=t) (t' :=t') hx hy
 simpa using h
end Go.SL
namespace Go.SL
open Go Go.Proofs
attribute [local irreducible] W WL WQ WG WA WX WLI WR WT WC WE VOp RW thn blk bG scp bg bi bT aQ FnIn FnP ceP
theorem CI (r:Rct):dU r=0↔aF r=true:=by
 have:=H8 (r:=r)
 cases h:aF r
 ·
  rw [h] at this
  simp only [iff_true,OT,iff_false] at this ⊢
  exact this
 ·
  rw [h] at this
  simpa using this
end Go.SL
namespace Go.SL
open Go Go.Proofs
theorem LO {P:Program} {n:Fr} {w0:World} {Q:bO} {s:az} {H:List Blk} {c:Code} {A:Option Nat} {t sz m cap:Nat} {xs:List Value} (hi:In (.own A t sz m cap xs) H) (h:m≤cap→W P n w0 c Q s H):W P n w0 c Q s H:=fun a w hs hmem=>
 h (hmem.on _ hi.mem).1.2.1 a w hs hmem
theorem jD (w:World):Reads w (.slice none 0 0) 0 []:=⟨none,0,rfl,NJ _,NY _,fun h=>absurd h (Nat.lt_irrefl 0)⟩
attribute [local irreducible] W WL WQ WG WA WX WLI WR WT WC WE VOp RW thn blk bG scp bg bi bT aQ FnIn FnP ceP
end Go.SL
namespace Go.SL
open Go Go.Proofs
attribute [local irreducible] W WL WQ WG WA WX WLI WR WT WC WE VOp RW thn blk bG scp bg bi bT aQ FnIn FnP ceP
theorem qD {P:Program} {w0:World} {s:az} {H:List Blk} {ty t e lo m c sz g:Nat} {x xl:Operand} [ht:Und P t (.slice e)] [hz:Size P e sz] (hx:ev s x=some (.slice (some ⟨g,0,none⟩) m c)) (hxl:ev s xl=some (.int .i64 (lo:Nat))) (h1:lo<m) (h2:m≤c):
  VOp P w0 s H (.slice t x (some xl) none none) ty (.slice (some ⟨g,lo*sz,none⟩) (m - lo) (c - lo)):=by
 have h:=lO (P:=P) (w0:=w0) (s:=s) (H:=H) (ty:=ty) (t:=t) (lo:=lo) (hi:=m) (x:=x) (xl:=some xl) (xh:=none) hx ⟨_,hxl⟩ rfl (by omega) h2
 rw [if_neg (show ¬ c=lo by omega)] at h
 have ha:(⟨g,0,none⟩:Addr).add (lo*sz)=⟨g,lo*sz,none⟩:=by unfold Addr.add;split<;>simp_all
 rw [OM,ha] at h
 exact h
theorem wh {P:Program} {w0:World} {s:az} {H:List Blk} {ty t e hi m c sz:Nat} {A:Option Addr} {x xh:Operand} [ht:Und P t (.slice e)] [hz:Size P e sz] (hx:ev s x=some (.slice A m c)) (hxh:ev s xh=some (.int .i64 (hi:Nat))) (h2:hi≤c):
  VOp P w0 s H (.slice t x none (some xh) none) ty (.slice A hi c):=by
 have h:=lO (P:=P) (w0:=w0) (s:=s) (H:=H) (ty:=ty) (t:=t) (lo:=0) (hi:=hi) (x:=x) (xl:=none) (xh:=some xh) hx rfl ⟨_,hxh⟩ (by omega) h2
 have ha:(if c=0 then A else A.map (·.add (0*sz)))=A:=by
  split
  ·
   rfl
  ·
   cases A with
   |none=>rfl
   |some a=>rw [Nat.zero_mul];simp [Addr.add]
 rw [ha] at h
 exact h
theorem Ma {L:List Int} {k:Nat} (h:k<L.length):(L.map fE)[0+k*1]? =some (fE L[k]):=by
 rw [N7,Pw,OU,NE h];rfl
theorem LF {L:List Int} {a k:Nat} (h:a+k<L.length):(L.map fE)[a*1+k*1]? =some (fE L[a+k]):=by
 rw [Pw,Pw,OU,NE h];rfl
set_option maxHeartbeats 4000000 in
theorem BI (L:List Int) (A:Option Nat) (cap:Nat) (hL:L.length≤1000000) (R:List Blk) (w0:World):
    FnIn Tryz.prog 165 [sl A L.length cap] w0 (.own A 3 1 L.length cap (L.map fE)::R) fun v H=>v=sl A (fY L).length cap∧H= .own A 3 1 (fY L).length cap ((fY L).map fE)::R:=by
  refine eC Tryz.func165 rfl Tryz.ntmps165 rfl ?_
  refine LO (A:=A) .hd fun hle=> ?_
  by_cases h2:L.length<2
  · have hc:=Bh (L:=L) (by omega)
    repeat' (first|refine sT ?_|refine sS ?_|refine sN ?_|refine sM fun _=> ?_|(refine sC ?_ ?_<;>intro hb<;>try omega)|fail)
    all_goals first
      |(exfalso;omega)
      |(refine dF eIO rfl rfl (.refl _) ?_;rw [hc];exact ⟨rfl,rfl⟩)
      |trace_state
  · refine gx (A:=A) .hd (by omega) fun g hA=> ?_
    subst hA
    repeat' (first|refine sT ?_|refine sS ?_|refine sN ?_|refine sM fun _=> ?_|(refine sC ?_ ?_<;>intro hb<;>try omega)|fail)
    all_goals try (exfalso;omega)
    refine ay [0] rfl (fun k:Nat=> [(3,.int .i64 (k:Int))]) (fun _=> .own (some g) 3 1 L.length cap (L.map fE)::R) (fun k=>1≤k∧k≤L.length∧fY (L.take k)=L.take k) (fun k=>L.length - k) 1 ⟨NJ _,by omega,Bh (by rw [NZ];omega)⟩ sB mS ?_
    rintro k ⟨hk1,hk,hck⟩
    by_cases hlt:k<L.length
    · have hr1:=Ma hlt
      have hr2:=Ma (L:=L) (k:=k - 1) (by omega)
      have hst:=w6 hlt hk1
      have htk:L.take (k+1)=L.take k++ [L[k]]:=by rw [NT hlt]
      obtain ⟨c,hc⟩: ∃ c,decide (L[k]=L[k - 1])=c:=⟨_,rfl⟩
      cases c with
      |false=>
        have hne: ¬ L[k]=L[k - 1]:=by simpa using hc
        rw [if_neg hne,hck,← htk] at hst
        repeat' (first|(apply aK;exact rfl;apply dM;exact rfl;exact rfl;omega;(simp only [maxLen];omega))|(apply aK;exact rfl;apply aj (j:=k);exact rfl;exact rfl;omega)|(apply aK;exact rfl;apply aj (j:=k - 1);exact rfl;exact rfl;omega)|(apply aK;exact rfl;apply bF;exact rfl;exact pK;(first|exact hr1|exact hr2))|(apply aK;exact rfl;apply wm hc;exact rfl;exact rfl)|refine sT ?_|refine sS ?_|refine sQ ?_|refine sN ?_|refine sNQ ?_|refine sD ?_|refine sM fun _=> ?_|(refine sC ?_ ?_<;>intro hb<;>try omega)|(refine sCQ ?_ ?_<;>intro hb<;>try omega)|fail)
        all_goals first
          |(exfalso;omega)
          |(refine ⟨k+1,⟨by omega,hlt,hst⟩,by omega,by exact sB,by exact sB,by exact mS⟩;done)
          |trace_state
      |true=>
        have hne:L[k]=L[k - 1]:=by simpa using hc
        rw [if_pos hne,hck] at hst
        repeat' (first|(apply aK;exact rfl;apply dM;exact rfl;exact rfl;omega;(simp only [maxLen];omega))|(apply aK;exact rfl;apply aj (j:=k);exact rfl;exact rfl;omega)|(apply aK;exact rfl;apply aj (j:=k - 1);exact rfl;exact rfl;omega)|(apply aK;exact rfl;apply bF;exact rfl;exact pK;(first|exact hr1|exact hr2))|(apply aK;exact rfl;apply wm hc;exact rfl;exact rfl)|(apply ak;exact rfl;apply qD (lo:=k);exact rfl;exact rfl;omega;exact hle)|refine sT ?_|refine sS ?_|refine sQ ?_|refine sN ?_|refine sNQ ?_|refine sD ?_|refine sM fun _=> ?_|(refine sC ?_ ?_<;>intro hb<;>try omega)|(refine sCQ ?_ ?_<;>intro hb<;>try omega)|fail)
        all_goals try (exfalso;omega)
        refine ay [0,4] rfl (fun y:Nat × Nat × List Int=> [(5,.int .i64 (y.1:Int)),(3,.int .i64 (y.2.1:Int))]) (fun y=> .own (some g) 3 1 L.length cap (y.2.2.map fE)::R) (fun y=>1≤y.1∧k+y.1≤L.length∧y.2.1+1≤k+y.1∧y.2.2.length=L.length∧y.2.2.take y.2.1=fY (L.take (k+y.1))∧ ∀ j,k+y.1≤j+1→y.2.2[j]? =L[j]?) (fun y=>L.length - y.1) (1,k,L) ⟨NJ _,by omega,NJ _,rfl,hst.symm,fun _ _=>rfl⟩ sB mS ?_
        rintro ⟨i,k',ys⟩ ⟨hi1,hi2,hi3,hi4,hi5,hi6⟩
        dsimp only at hi1 hi2 hi3 hi4 hi5 hi6 ⊢
        by_cases hli:k+i<L.length
        · have hy1:k+i<ys.length:=by omega
          have hr3:=LF (L:=ys) (a:=k) (k:=i) hy1
          have hr4:=LF (L:=ys) (a:=k) (k:=i - 1) (by omega)
          have he1:ys[k+i]=L[k+i]:=by
            have:=hi6 (k+i) (by omega)
            rw [NE hy1,NE hli] at this
            exact Option.some.inj this
          have he2:ys[k+(i - 1)]=L[k+i - 1]:=by
            have:=hi6 (k+(i - 1)) (by omega)
            rw [NE (by omega),NE (by omega)] at this
            rw [Option.some.inj this]
            congr 1
            omega
          rw [he1] at hr3
          rw [he2] at hr4
          have hst2:=w6 hli (by omega)
          obtain ⟨c,hc2⟩: ∃ c,decide (L[k+i]=L[k+i - 1])=c:=⟨_,rfl⟩
          cases c with
          |true=>
            rw [if_pos (by simpa using hc2)] at hst2
            repeat' (first|(apply aK;exact rfl;apply dM;exact rfl;exact rfl;omega;(simp only [maxLen];omega))|(apply aK;exact rfl;apply aj (j:=i);exact rfl;exact rfl;omega)|(apply aK;exact rfl;apply aj (j:=i - 1);exact rfl;exact rfl;omega)|(apply aK;exact rfl;apply bF;exact rfl;exact pK;(first|exact hr3|exact hr4))|(apply aK;exact rfl;apply wj hc2;exact rfl;exact rfl)|refine sT ?_|refine sS ?_|refine sQ ?_|refine sN ?_|refine sNQ ?_|refine sD ?_|refine sM fun _=> ?_|(refine sC ?_ ?_<;>intro hb<;>try omega)|(refine sCQ ?_ ?_<;>intro hb<;>try omega)|fail)
            all_goals first
              |(exfalso;omega)
              |(refine ⟨(i+1,k',ys),⟨by dsimp only;omega,by dsimp only;omega,by dsimp only;omega,hi4,by dsimp only;rw [hi5,← Nat.add_assoc,hst2],fun j hj=>hi6 j (by omega)⟩,by dsimp only;omega,by exact sB,by exact sB,by exact mS⟩;done)
              |trace_state
          |false=>
            rw [if_neg (by simpa using hc2)] at hst2
            have hput:(ys.map fE).set (0+k' *1) (fE L[k+i])=(ys.set k' L[k+i]).map fE:=by rw [N7,Pw,List.map_set]
            repeat' (first|(apply aK;exact rfl;apply dM;exact rfl;exact rfl;omega;(simp only [maxLen];omega))|(apply aK;exact rfl;apply aj (j:=i);exact rfl;exact rfl;omega)|(apply aK;exact rfl;apply aj (j:=i - 1);exact rfl;exact rfl;omega)|(apply aK;exact rfl;apply bF;exact rfl;exact pK;(first|exact hr3|exact hr4))|(apply aK;exact rfl;apply wj hc2;exact rfl;exact rfl)|(apply ak (d:=49);exact rfl;apply aj (j:=i);exact rfl;exact rfl;omega)|(apply ak (d:=51);exact rfl;apply aj (j:=k');exact rfl;exact rfl;omega)|(apply ak;exact rfl;apply bF;exact rfl;exact pK;exact hr3)|(apply gL (v:=fE L[k+i]) (off:=0+k' *1);exact rfl;exact rfl;exact pK;exact rfl;(rw [OV,hi4];omega);rw [hput])|refine sT ?_|refine sS ?_|refine sQ ?_|refine sN ?_|refine sNQ ?_|refine sD ?_|refine sM fun _=> ?_|(refine sC ?_ ?_<;>intro hb<;>try omega)|(refine sCQ ?_ ?_<;>intro hb<;>try omega)|fail)
            all_goals first
              |(exfalso;omega)
              | (refine ⟨(i + 1, k' + 1, ys.set k' L[k + i]), ⟨by dsimp only; omega, by dsimp only; omega, by dsimp only; omega, by dsimp only; rw [List.length_set, hi4], ?_, fun j hj => ?_⟩, by dsimp only; omega, by exact sB, by exact sB, by exact mS⟩
                 · dsimp only
                   rw [NT (by rw [PX];omega),List.take_set_of_le (NJ _),hi5,List.getElem_set_self,← Pr,hst2]
                 · dsimp only at hj ⊢
                   rw [List.getElem?_set_ne (by omega)]
                   exact hi6 j (by omega))
              |trace_state
        · have hli2:k+i=L.length:=by omega
          rw [hli2,OX] at hi5
          have hcl:(fY L).length=k' :=by rw [← hi5,NZ,hi4];omega
          have hk'L:k' <L.length:=by omega
          repeat' (first|(apply ak;exact rfl;apply qD (lo:=k');exact rfl;exact rfl;omega;exact hle)|(apply yV (sz:=1) (k:=k') (n' :=L.length);exact rfl;omega;exact pK;(intro u hu;simp [Value.cells] at hu;subst hu;rfl);exact rfl)|(apply ak;exact rfl;apply wh (hi:=k');exact rfl;exact rfl;omega)|refine sT ?_|refine sS ?_|refine sN ?_|refine sM fun _=> ?_|(refine sC ?_ ?_<;>intro hb<;>try omega)|fail)
          all_goals first
            |(exfalso;omega)
            | (refine dF eIO rfl rfl (H' := .own (some g) 3 1 k' cap ((ys.map fE).take (k' * 1)) :: R) mS ?_
               rw [Pw,← List.map_take,hi5,hcl]
               exact ⟨rfl,rfl⟩)
            |trace_state
    · have hkl:k=L.length:=by omega
      rw [hkl,OX] at hck
      repeat' (first|refine sT ?_|refine sS ?_|refine sN ?_|refine sM fun _=> ?_|(refine sC ?_ ?_<;>intro hb<;>try omega)|fail)
      all_goals first
        |(exfalso;omega)
        |(refine dF eIO rfl rfl (.refl _) ?_;rw [hck];exact ⟨rfl,rfl⟩)
        |trace_state
end Go.SL
namespace Go.SL
open Go
def lD (a:Rf) (L:List Rl):Nat→Nat
 |0=>0
 |n+1=>if di ((L[n]?.map (·.rect)).getD aM) a=true then n else lD a L n
def fV (L:List Rl) (a:Rf):Nat:=lD a L L.length
theorem Ah (a:Rf) (L:List Rl): ∀ n,lD a L n≤n - 1
 |0=>NJ _
 |n+1=>by
  rw [lD];split
  ·
   exact NJ _
  ·
   have:=Ah a L n;omega
theorem Ai {a:Rf} {L:List Rl} (h:L≠ []):fV L a<L.length:=by
 have:=Ah a L L.length
 have h2:0<L.length:=O2.2 h
 unfold fV;omega
theorem E7 {r:Rct} {L:List Rl} (h:L≠ []):ib r L<L.length:=by
 have:=v6 r L L.length
 have h2:0<L.length:=O2.2 h
 unfold ib;omega
theorem cN {r:Rct}:aF r=true↔1≤r.c1∧r.c1≤r.c2∧r.c2≤1024∧1≤r.r1∧r.r1≤r.r2∧r.r2≤1024:=by
 unfold aF valid
 simp only [NK,decide_eq_true_eq]
 omega
theorem dc {r:Rct} {a:Rf}:di r a=true↔r.c1≤a.col∧a.col≤r.c2∧r.r1≤a.row∧a.row≤r.r2:=by
 unfold di
 simp only [NK,decide_eq_true_eq,and_assoc]
theorem ny (a b:Rct):(gY a b).c1=max a.c1 b.c1:=by unfold gY;simp only;split<;>omega
theorem nr (a b:Rct):(gY a b).r1=max a.r1 b.r1:=by unfold gY;simp only;split<;>omega
theorem nu (a b:Rct):(gY a b).c2=min a.c2 b.c2:=by unfold gY;simp only;split<;>omega
theorem nn (a b:Rct):(gY a b).r2=min a.r2 b.r2:=by unfold gY;simp only;split<;>omega
theorem wK {a b:Rct} (ha:aF a=true) (hb:aF b=true) {x:Rf} (h1:di a x=true) (h2:di b x=true):dV a b=(gY a b,true):=by
 unfold dV
 rw [if_pos]
 simp only [PP,List.all_nil,ha,hb,Qk,O8]
 rw [cN] at*
 rw [dc] at h1 h2
 rw [ny,nr,nu,nn]
 omega
theorem Rct.ext' {a b:Rct} (h1:a.c1=b.c1) (h2:a.r1=b.r1) (h3:a.c2=b.c2) (h4:a.r2=b.r2):a=b:=by
 cases a;cases b;simp only at*;subst h1 h2 h3 h4;rfl
theorem C9 {c R:Rct} (hc:aF c=true) (hR:aF R=true):jw c R=true↔R.c1≤c.c1∧c.c2≤R.c2∧R.r1≤c.r1∧c.r2≤R.r2:=by
 have hc' :=cN.1 hc
 constructor
 ·
  intro h
  unfold jw at h
  rw [NK,decide_eq_true_eq] at h
  obtain ⟨h1,h2⟩:=h
  unfold dV at h1 h2
  split at h1
  ·
   rename_i hall
   rw [if_pos hall] at h2
   have e1:=congrArg Rct.c1 h2
   have e2:=congrArg Rct.r1 h2
   have e3:=congrArg Rct.c2 h2
   have e4:=congrArg Rct.r2 h2
   simp only [ny,nr,nu,nn] at e1 e2 e3 e4
   omega
  ·
   cases h1
 ·
  intro h
  have h1:di c ⟨c.c1,c.r1⟩=true:=dc.2 (by simp only;omega)
  have h2:di R ⟨c.c1,c.r1⟩=true:=dc.2 (by simp only;omega)
  unfold jw
  rw [wK hc hR h1 h2,NK,decide_eq_true_eq]
  exact ⟨rfl,Rct.ext' (by rw [ny];omega) (by rw [nr];omega) (by rw [nu];omega) (by rw [nn];omega)⟩
structure CellOf (r:Rct) (A B:List Rl) (y x:Int × Int):Prop where
 row:y∈cE r.r1 r.r2 (aS r A++aS r B)
 col:x∈cE r.c1 r.c2 (aU r A++aU r B)
def fj (y x:Int × Int):Rct:=⟨x.1,y.1,x.2,y.2⟩
theorem CellOf.ok {r:Rct} {A B:List Rl} {y x:Int × Int} (h:CellOf r A B y x) (hr:aF r=true):aF (fj y x)=true:=by
 have h1:=eJ h.row
 have h2:=eJ h.col
 rw [cN] at*
 simp only [fj];omega
theorem CellOf.inside {r:Rct} {A B:List Rl} {y x:Int × Int} (h:CellOf r A B y x) (hr:aF r=true) {a:Rf} (ha:di (fj y x) a=true) {R:Rl} (hm:R∈A∨R∈B) (hR:aF R.rect=true):jw (fj y x) R.rect=di R.rect a:=by
 have h1:=eJ h.row
 have h2:=eJ h.col
 have ha' :=dc.1 ha
 simp only [fj] at ha'
 rw [Om,C9 (h.ok hr) hR,dc]
 simp only [fj]
 constructor
 ·
  intro h3;omega
 ·
  intro h3
  have har:di r a=true:=dc.2 (by omega)
  have haR:di R.rect a=true:=dc.2 h3
  have hmt:=wK hR hr haR har
  have hcol:((gY R.rect r).c1,(gY R.rect r).c2)∈aU r A++aU r B:=by
   rw [Ol]
   rcases hm with hm|hm
   ·
    exact .inl (OL.2 ⟨R,hm,by rw [hmt];simp⟩)
   ·
    exact .inr (OL.2 ⟨R,hm,by rw [hmt];simp⟩)
  have hrow:((gY R.rect r).r1,(gY R.rect r).r2)∈aS r A++aS r B:=by
   rw [Ol]
   rcases hm with hm|hm
   ·
    exact .inl (OL.2 ⟨R,hm,by rw [hmt];simp⟩)
   ·
    exact .inr (OL.2 ⟨R,hm,by rw [hmt];simp⟩)
  have k1:=xb h.col hcol (by simp only [ny];omega) (by simp only [nu];omega)
  have k2:=xb h.row hrow (by simp only [nr];omega) (by simp only [nn];omega)
  simp only [ny,nu,nr,nn] at k1 k2
  omega
theorem tr {c:Rct} {a:Rf} {L:List Rl} (h: ∀ R∈L,jw c R.rect=di R.rect a): ∀ n,n≤L.length→mE c L n=lD a L n
 |0,_=>rfl
 |n+1,hn=>by
  have hlt:n<L.length:=by omega
  rw [mE,lD,NE hlt,tr h n (by omega)]
  simp only [OM,P5]
  have e:=h _ (OD hlt)
  simp only [e]
theorem CellOf.which {r:Rct} {A B:List Rl} {y x:Int × Int} (h:CellOf r A B y x) (hr:aF r=true) (hA: ∀ R∈A,aF R.rect=true) {a:Rf} (ha:di (fj y x) a=true):(ng A B y x).a=fV A a:=
 tr (fun R hR=>h.inside hr ha (.inl hR) (hA R hR)) _ (NJ _)
theorem sv {α:Type} {p:List α→Prop} (h0:p []) (h1: ∀ l a,p l→p (l++ [a])) (l:List α):p l:=by
 have h: ∀ m:List α,p m.reverse:=fun m=>by
  induction m with
  |nil=>exact h0
  |cons a m ih=>rw [List.reverse_cons];exact h1 _ _ ih
 have:=h l.reverse
 rwa [List.reverse_reverse] at this
theorem Mu {l:List Pz} {p:Pz} {k:Nat}:k∈(jU l p).map (·.a)↔k∈l.map (·.a)∨k=p.a:=by
 unfold jU
 cases h:l.getLast? with
 |none=>
  rw [List.getLast?_eq_none_iff.1 h];simp
 |some q=>
  have hne:l≠ []:=fun e=>by rw [e] at h;cases h
  have hq:l.getLast hne=q:=by rw [List.getLast?_eq_some_getLast hne] at h;exact Option.some.inj h
  have he:=Ph hne
  rw [hq] at he
  dsimp only
  split
  ·
   rename_i hs
   rw [Pb,Ol]
   conv=>rhs;rw [← he]
   rw [Pb,Ol]
   simp only [Ow,Pe,Ov]
   rw [← hs.1]
   exact ⟨.inl,fun h=>h.elim id .inr⟩
  ·
   rw [Pb,Ol];simp
theorem LC {A B:List Rl} {y:Int × Int} {k:Nat} (xs:List (Int × Int)):k∈(jR A B y xs).map (·.a)↔ ∃ x∈xs,k=(ng A B y x).a:=by
 induction xs using sv with
 |h0=>simp [jR]
 |h1 xs x ih=>
  rw [ll,Mu,ih]
  simp only [Ol,Ov]
  constructor
  ·
   rintro (⟨z,hz,h⟩|h)
   ·
    exact ⟨z,.inl hz,h⟩
   ·
    exact ⟨x,.inr rfl,h⟩
  ·
   rintro ⟨z,hz|rfl,h⟩
   ·
    exact .inl ⟨z,hz,h⟩
   ·
    exact .inr h
theorem xW {r:Rct} {A B:List Rl} {k:Nat}:k∈(dJ r A B).map (·.a)↔ ∃ y x,CellOf r A B y x∧k=(ng A B y x).a:=by
 unfold dJ
 rw [List.map_flatMap,OL]
 constructor
 ·
  rintro ⟨y,hy,h⟩
  obtain ⟨x,hx,h2⟩:=(LC _).1 h
  exact ⟨y,x,⟨hy,hx⟩,h2⟩
 ·
  rintro ⟨y,x,h,h2⟩
  exact ⟨y,h.row,(LC _).2 ⟨x,h.col,h2⟩⟩
theorem JO {l:List (BitVec 64)} {i:Nat} (hi:i<64):(sj l).getLsbD i=true↔ ∀ x∈l,x.getLsbD i=true:=by
 have h: ∀ (l:List (BitVec 64)) (s:BitVec 64),(l.foldl (· &&& ·) s).getLsbD i=true↔s.getLsbD i=true∧ ∀ x∈l,x.getLsbD i=true:=by
  intro l
  induction l with
  |nil=>intro s;simp
  |cons a l ih=>
   intro s
   rw [PH,ih,PL,NK]
   simp only [NS,forall_eq_or_imp,and_assoc]
 unfold sj
 rw [h,BitVec.getLsbD_allOnes]
 simp [hi]
theorem Iw {f:Rl→BitVec 64} {r:Rct} {L:List Rl} (hr:aF r=true) (hL: ∀ R∈L,aF R.rect=true) {i:Nat} (hi:i<64):
  (uk f r L).getLsbD i=true↔ ∀ a,di r a=true→((L[fV L a]?.map f).getD 0#64).getLsbD i=true:=by
 unfold uk
 rw [JO hi]
 have hm:(∀ x∈(dJ r L []).map (fun p=>(L[p.a]?.map f).getD 0#64),x.getLsbD i=true)↔ ∀ k∈(dJ r L []).map (·.a),((L[k]?.map f).getD 0#64).getLsbD i=true:=by
  simp only [Pu,forall_exists_index,and_imp,forall_apply_eq_imp_iff₂]
 rw [hm]
 constructor
 ·
  intro h a ha
  have ha' :=dc.1 ha
  obtain ⟨y,hy,hy1,hy2⟩:=rQ (lo:=r.r1) (hi:=r.r2) (ps:=aS r L++aS r []) (v:=a.row) (by omega) (by omega)
  obtain ⟨x,hx,hx1,hx2⟩:=rQ (lo:=r.c1) (hi:=r.c2) (ps:=aU r L++aU r []) (v:=a.col) (by omega) (by omega)
  have hc:CellOf r L [] y x:=⟨hy,hx⟩
  have hag:di (fj y x) a=true:=dc.2 (by simp only [fj];omega)
  have:=h _ (xW.2 ⟨y,x,hc,rfl⟩)
  rwa [hc.which hr hL hag] at this
 ·
  intro h k hk
  obtain ⟨y,x,hc,rfl⟩:=xW.1 hk
  have hok:=cN.1 (hc.ok hr)
  have h1:=eJ hc.row
  have h2:=eJ hc.col
  simp only [fj] at hok
  have hag:di (fj y x) ⟨x.1,y.1⟩=true:=dc.2 (by simp only [fj];omega)
  rw [hc.which hr hL hag]
  exact h ⟨x.1,y.1⟩ (dc.2 (by simp only;omega))
def IL (p q:Pz):Prop:=p.rect.r1<q.rect.r1∨(p.rect.r1=q.rect.r1∧p.rect.c1<q.rect.c1)
theorem I6 {l:List Pz} {p:Pz} {y c:Int} (hp:p.rect.r1=y) (hl: ∀ q∈l,q.rect.r1=y∧q.rect.c1<p.rect.c1) (hc:p.rect.c1≤c) (hs:l.Pairwise IL):(jU l p).Pairwise IL∧ ∀ q∈jU l p,q.rect.r1=y∧q.rect.c1≤c:=by
 unfold jU
 cases h:l.getLast? with
 |none=>
  exact ⟨PO _ _,fun q hq=>by rw [Ov.1 hq];exact ⟨hp,hc⟩⟩
 |some q=>
  have hne:l≠ []:=fun e=>by rw [e] at h;cases h
  have hq:l.getLast hne=q:=by rw [List.getLast?_eq_some_getLast hne] at h;exact Option.some.inj h
  have he:=Ph hne
  rw [hq] at he
  have hql:q∈l:=by rw [← hq];exact List.getLast_mem hne
  dsimp only
  split
  ·
   rw [← he] at hs
   obtain ⟨s1,_,s3⟩:=O5.1 hs
   refine ⟨O5.2 ⟨s1,PO _ _,fun a ha b hb=> ?_⟩,fun a ha=> ?_⟩
   ·
    rw [Ov.1 hb]
    exact s3 a ha q (Ov.2 rfl)
   ·
    rcases Ol.1 ha with ha|ha
    ·
     have:=hl a (List.dropLast_subset l ha);omega
    ·
     rw [Ov.1 ha]
     have:=hl q hql;simp only;omega
  ·
   refine ⟨O5.2 ⟨hs,PO _ _,fun a ha b hb=> ?_⟩,fun a ha=> ?_⟩
   ·
    rw [Ov.1 hb]
    have:=hl a ha
    exact .inr ⟨by omega,this.2⟩
   ·
    rcases Ol.1 ha with ha|ha
    ·
     have:=hl a ha;omega
    ·
     rw [Ov.1 ha];exact ⟨hp,hc⟩
theorem o6 {A B:List Rl} {y:Int × Int} (xs:List (Int × Int)) (hs:xs.Pairwise fun p q=>p.1<q.1):(jR A B y xs).Pairwise IL∧ ∀ q∈jR A B y xs,q.rect.r1=y.1∧ ∃ x∈xs,q.rect.c1≤x.1:=by
 induction xs using sv with
 |h0=>exact ⟨.nil,fun q hq=>by cases hq⟩
 |h1 xs x ih=>
  obtain ⟨s1,_,s3⟩:=O5.1 hs
  obtain ⟨i1,i2⟩:=ih s1
  rw [ll]
  have:=I6 (l:=jR A B y xs) (p:=ng A B y x) (y:=y.1) (c:=x.1) rfl (fun q hq=>by
   obtain ⟨h1,z,hz,h2⟩:=i2 q hq
   have:=s3 z hz x (Ov.2 rfl)
   exact ⟨h1,by show q.rect.c1<x.1;omega⟩) (OW _) i1
  exact ⟨this.1,fun q hq=>⟨(this.2 q hq).1,x,by simp,(this.2 q hq).2⟩⟩
theorem xV (r:Rct) (A B:List Rl):(dJ r A B).Pairwise IL:=by
 unfold dJ
 have hx:(cE r.c1 r.c2 (aU r A++aU r B)).Pairwise fun p q=>p.1<q.1:=by
  refine (qq _ _ _).imp_of_mem fun {p q} hp _ h=> ?_
  have:=eJ hp;omega
 have hy:(cE r.r1 r.r2 (aS r A++aS r B)).Pairwise fun p q=>p.1<q.1:=by
  refine (qq _ _ _).imp_of_mem fun {p q} hp _ h=> ?_
  have:=eJ hp;omega
 generalize cE r.r1 r.r2 (aS r A++aS r B)=ys at hy
 generalize cE r.c1 r.c2 (aU r A++aU r B)=xs at hx
 induction ys with
 |nil=>exact .nil
 |cons y ys ih=>
  obtain ⟨k1,k2⟩:=Oi.1 hy
  rw [NU]
  refine O5.2 ⟨(o6 xs hx).1,ih k2,fun p hp q hq=> ?_⟩
  obtain ⟨z,hz,hq⟩:=OL.1 hq
  have h1:=((o6 (A:=A) (B:=B) (y:=y) xs hx).2 p hp).1
  have h2:=((o6 (A:=A) (B:=B) (y:=z) xs hx).2 q hq).1
  have h3:=k1 z hz
  exact .inl (by omega)
end Go.SL

/-
  Lemmas and walks, put together: Hb S5 S6 Hc G2a G2 Lp K2 Sm L3 La Ra Pl Rb Rd Re Rf Pl2 Rg Rh Pl3 Ri Hd Pg2.
-/
import Derived.Deep.RegionHeld3
import Derived.Shelf.SortM.Plain
import Derived.Shelf.SortM.SortNone
import Derived.Ground.SlgmProg
import Derived.Test.YthefeclkaaocnaaGreatDoorKc22
import Derived.Test.YthefeclkaaocnaaGreatDoorKc23
set_option linter.unusedSimpArgs false
set_option linter.unusedVariables false
set_option maxRecDepth 20000
namespace Go.SL
open Go Go.Proofs
attribute [local irreducible] W WL WQ WG WA WX WLI WR WT WC WE VOp RW thn blk bL scp bi bz bY aQ FnIn FnP ceP
theorem E6 (a b:Rct) (w:World):ax Tryz.prog 166 [.agg (bK a).toArray,.agg (bK b).toArray] w (.bool (iR a b)):=by
 refine aq Tryz.func166 rfl Tryz.ntmps166 rfl ?_
 have hM:=fun w=>Dp a b w
 unfold iR
 obtain ⟨c,hc⟩: ∃ c,decide ((dD a b).1=a)=c:=⟨_,rfl⟩
 rw [hc]
 generalize dD a b=m at hM hc
 obtain ⟨mr,mb⟩:=m
 dsimp only at hM hc ⊢
 cases mb
 ·
  repeat' (first|(apply aa;exact rfl;exact rfl;(intro w hm;exact hM w))|refine sT ?_|refine sM fun _=> ?_|(refine sC ?_ ?_<;>intro hb<;>try omega)|fail)
  all_goals first|(exfalso;omega)|((refine rT1 ?_);rfl)|trace_state
 ·
  repeat' (first|(apply aa;exact rfl;exact rfl;(intro w hm;exact hM w))|(apply aj;exact rfl;apply DJ hc;exact rfl;exact rfl)|refine sT ?_|refine sM fun _=> ?_|(refine sC ?_ ?_<;>intro hb<;>try omega)|fail)
  all_goals first|(exfalso;omega)|((refine rT1 ?_);rfl)|trace_state
set_option maxHeartbeats 4000000 in
theorem xF (r:Rct) (L:List Rl) (lv:Value) (w:World) (hl:Reads w lv L.length (L.flatMap bf)) (hb:L.length≤1000000):ax Tryz.prog 132 [.agg (bK r).toArray,lv] w (.int .i64 (gD r L:Int)):=by
 obtain ⟨Al,cl,rfl,hl1,hl2,hl3⟩:=hl
 refine aq Tryz.func132 rfl Tryz.ntmps132 rfl ?_
 by_cases h0:L.length=0
 ·
  have e:gD r L=0:=by rw [gD,h0];rfl
  rw [e]
  repeat' (first|refine sT ?_|refine sS ?_|refine sJ ?_|refine sM fun _=> ?_|(refine sC ?_ ?_<;>intro hb<;>try omega)|fail)
  rename_i g2
  refine ay [1,2] rfl (fun _:Unit=> [(5,.int .i64 (-1))]) (fun _=> [.box g2 33 (bK r)]) (fun _=>True) (fun _=>0) () trivial (by rw [h0];exact sB) mS ?_
  rintro _ _
  repeat' (first|refine sT ?_|refine sS ?_|refine sJ ?_|refine sM fun _=> ?_|(refine sC ?_ ?_<;>intro hb<;>try omega)|fail)
  all_goals first|(exfalso;omega)|((refine rT1 ?_);rfl)|trace_state
 repeat' (first|refine sT ?_|refine sS ?_|refine sN ?_|refine sM fun _=> ?_|(refine sC ?_ ?_<;>intro hb<;>try omega)|fail)
 rename_i g2
 obtain ⟨gl,ol,rfl,hrl⟩:=hl3 (by omega)
 refine ay [1,2] rfl (fun i:Nat=> [(5,.int .i64 (i:Int))]) (fun _=> [.box g2 33 (bK r)]) (fun i=>i<L.length∧gD r L=kW r L (i+1)) (fun i=>i) (L.length - 1) ⟨by omega,by rw [Nat.sub_add_cancel (by omega)];rfl⟩ sB mS ?_
 rintro i ⟨hi,hrec⟩
 rw [kW,MV hi] at hrec
 simp only [NW,PB] at hrec
 have hIn:=fun w=>E6 r L[i].rect w
 obtain ⟨h0a,_⟩:=Rl.ro (hrl.elem dg i hi)
 obtain ⟨c,hcc⟩: ∃ c,iR r L[i].rect=c:=⟨_,rfl⟩
 simp only [hcc] at hIn hrec
 clear hcc
 generalize L[i].rect=x at h0a hIn
 by_cases hi0:i=0
 ·
  subst hi0
  have e:gD r L=0:=by rw [hrec];cases c<;>rfl
  rw [e]
  repeat' (first|refine sT ?_|refine sS ?_|refine sM fun _=> ?_|(refine sC ?_ ?_<;>intro hb<;>try omega)|fail)
  all_goals first|(exfalso;omega)|((refine rT1 ?_);rfl)|trace_state
 ·
  cases c
  ·
   rw [if_neg (by decide)] at hrec
   repeat' (first|(apply aP;exact rfl;apply ak (j:=i);exact rfl;exact rfl;exact hi)|(apply d9 (f:=166);exact rfl;exact rfl;(intro w' _;exact hIn w'))|refine sT ?_|refine sS ?_|refine sQ ?_|refine sN ?_|refine sNQ ?_|refine sO ?_|refine sOQ ?_|refine sD ?_|refine sM fun _=> ?_|(refine sC ?_ ?_<;>intro hb<;>try omega)|(refine sCQ ?_ ?_<;>intro hb<;>try omega)|fail)
   all_goals first
    |(exfalso;omega)
    |(refine ⟨i - 1,⟨by omega,by rw [Nat.sub_add_cancel (by omega)];exact hrec⟩,by omega,by exact sB,by exact sB,by exact mS⟩;done)
    |trace_state
  ·
   rw [if_pos rfl] at hrec
   rw [hrec]
   repeat' (first|(apply aP;exact rfl;apply ak (j:=i);exact rfl;exact rfl;exact hi)|(apply d9 (f:=166);exact rfl;exact rfl;(intro w' _;exact hIn w'))|refine sT ?_|refine sS ?_|refine sQ ?_|refine sN ?_|refine sNQ ?_|refine sO ?_|refine sOQ ?_|refine sD ?_|refine sM fun _=> ?_|(refine sC ?_ ?_<;>intro hb<;>try omega)|(refine sCQ ?_ ?_<;>intro hb<;>try omega)|fail)
   all_goals first|(exfalso;omega)|((refine rT1 ?_);rfl)|trace_state
def BN (u:Int) (g:Gn):Bool:=decide (1≤g.fns) && decide (g.fns≤31) && decide (g.to &&& ~~~(cN u).1=0#64) && fA (cN u).1 g.by_
def fE (u:Int):List Gn→Int→Int × Int
 | [],_=>(0,0)
 |g::L,i=>if aG g.rect=false then (i,3) else if BN u g=false then (i,2) else fE u L (i+1)
def jL (u:Int) (L:List Gn):Int × Int:=
 if u<0∨64<u∨u=0 then (0,2) else if 64<L.length then (64,5) else fE u L 0
theorem Gn.ro {w:World} {g o:Nat} {r:Gn} (h:Ro w g o (bg r)):Ro w g o (bK r.rect)∧Ro w g (o+4) [.int .u8 r.fns]∧Ro w g (o+5) [vS r.to]∧Ro w g (o+6) [.int .i64 r.by_]∧Ro w g (o+7) [.bool r.rev]:=
 ⟨h.take (k:=4),(h.drop (k:=4)).take (k:=1),(h.drop (k:=5)).take (k:=1),(h.drop (k:=6)).take (k:=1),h.drop (k:=7)⟩
set_option maxHeartbeats 4000000 in
theorem pZ (u:Int) (L:List Gn) (lv:Value) (w:World) (hl:Reads w lv L.length (L.flatMap bg)):ax Tryz.prog 52 [.int .i64 u,lv] w (.tuple #[.int .i64 (jL u L).1,.int .i64 (jL u L).2]):=by
 obtain ⟨Al,cl,rfl,hl1,hl2,hl3⟩:=hl
 refine aq Tryz.func52 rfl Tryz.ntmps52 rfl ?_
 have hA:=fun w=>xq u w
 unfold jL
 have hE:(cN u).2=if u<0∨64<u then 3 else 0:=by unfold cN;split<;>rfl
 obtain ⟨sa,has⟩: ∃ sa,sa=(cN u).1:=⟨_,rfl⟩
 rw [← has,hE] at hA
 by_cases h1:u<0∨64<u∨u=0
 ·
  rw [if_pos h1]
  by_cases h2:u<0∨64<u
  ·
   rw [if_pos h2] at hA
   repeat' (first|(apply aa;exact rfl;exact rfl;(intro w hm;exact hA w))|refine sT ?_|refine sM fun _=> ?_|(refine sC ?_ ?_<;>intro hb<;>try omega)|fail)
   all_goals first|(exfalso;omega)|((refine rT2 ?_);rfl)|trace_state
  ·
   rw [if_neg h2] at hA
   repeat' (first|(apply aa;exact rfl;exact rfl;(intro w hm;exact hA w))|refine sT ?_|refine sM fun _=> ?_|(refine sC ?_ ?_<;>intro hb<;>try omega)|fail)
   all_goals first|(exfalso;omega)|((refine rT2 ?_);rfl)|trace_state
 rw [if_neg h1]
 rw [if_neg (by omega)] at hA
 by_cases h64:64<L.length
 ·
  rw [if_pos h64]
  repeat' (first|(apply aa;exact rfl;exact rfl;(intro w hm;exact hA w))|refine sT ?_|refine sM fun _=> ?_|(refine sC ?_ ?_<;>intro hb<;>try omega)|fail)
  all_goals first|(exfalso;omega)|((refine rT2 ?_);rfl)|trace_state
 rw [if_neg h64]
 repeat' (first|(apply aa;exact rfl;exact rfl;(intro w hm;exact hA w))|refine sT ?_|refine sM fun _=> ?_|(refine sC ?_ ?_<;>intro hb<;>try omega)|fail)
 all_goals try (exfalso;omega)
 refine ay [1,6,23,24] rfl (fun i:Nat=> [(25,.int .i64 (i:Int))]) (fun _=> []) (fun i=>i≤L.length∧fE u L 0=fE u (L.drop i) (i:Int)) (fun i=>L.length - i) 0 ⟨Nl _,rfl⟩ sB mS ?_
 rintro i ⟨hi,hrec⟩
 by_cases hlt:i<L.length
 ·
  obtain ⟨gl,ol,rfl,hrl⟩:=hl3 (by omega)
  have he1:=hrl.elem cW i hlt
  rw [M3 hlt,fE,BN,← has] at hrec
  generalize L[i]=r at hrec he1
  have hck:=fun w=>fY r.rect w
  have hhs:=fun w=>oP sa r.by_ w
  generalize fA sa r.by_=hb at hhs hrec
  repeat' (first|(apply aa;exact rfl;exact rfl;(intro w hm;exact hck w))|(apply aa;exact rfl;exact rfl;(intro w hm;exact hhs w))|(apply aj;exact rfl;apply dG (b:=sa);exact rfl;exact rfl)|(apply aj;exact rfl;apply gU (b:=0#64);exact rfl;exact rfl)|refine sT ?_|refine sN ?_|refine sO ?_|refine sM fun _=> ?_|(refine sC ?_ ?_<;>intro hb<;>try omega)|fail)
  all_goals first
   |(exfalso;omega)
   |((refine rT2 ?_);rw [hrec,if_pos (gL hb)];done)
   |((refine rT2 ?_);rw [hrec,if_neg (eD ‹_›),if_pos (by first|(rw [decide_eq_false (show ¬ (1:Int)≤r.fns by omega)];rfl)|(rw [decide_eq_false (show ¬ r.fns≤(31:Int) by omega),NH];rfl)|(rw [decide_eq_false hb,NH];rfl)|(rw [hb,NH]))];done)
   |(refine ⟨i+1,⟨hlt,by rw [hrec,if_neg (eD ‹_›),if_neg (by simp_all)];rfl⟩,by omega,by exact sB,by exact sB,by exact mS⟩;done)
   |trace_state
 ·
  have e:i=L.length:=by omega
  subst e
  rw [ND,fE] at hrec
  rw [hrec]
  repeat' (first|refine sT ?_|refine sM fun _=> ?_|(refine sC ?_ ?_<;>intro hb<;>try omega)|fail)
  all_goals first|(exfalso;omega)|((refine rT2 ?_);rfl)|trace_state
end Go.SL
namespace Go.Proofs
open Go Go.Shelf Go.RowKit Go.Lib Go.Sort Go.SL
def J7 (a b:Int):Int:=if a<b then -1 else if b<a then 1 else 0
def orI (a b c d:Int):Int:=if a≠0 then a else if b≠0 then b else if c≠0 then c else d
def JF (a b:Rct):Int:=orI (J7 a.r1 b.r1) (J7 a.c1 b.c1) (J7 a.r2 b.r2) (J7 a.c2 b.c2)
end Go.Proofs
namespace Go.Proofs
open Go Go.Shelf Go.RowKit Go.Lib Go.Sort Go.SL
def Tryz.sortRc_ren:Go.Shelf.Ren:=⟨fun|6=>100|15=>138|14=>148|28=>177|29=>178|20=>183|21=>184|22=>185|23=>186|24=>187|25=>188|26=>189|27=>190|46=>227|47=>218|48=>219|49=>228|50=>229|57=>273|n=>n,fun|22=>110|24=>33|25=>188|3=>3|39=>75|0=>0|53=>265|55=>34|4=>4|46=>258|45=>257|50=>262|5=>5|9=>9|66=>303|70=>307|76=>351|77=>352|n=>n,fun|n=>n⟩
theorem Tryz.sortRc:Go.Proofs.SlLaysF0.n6 Tryz.prog Tryz.sortRc_ren:={
 mixed:=by kernel_rfl
 f6:=⟨Tryz.f100.name,by decide,Tryz.func100.trans (congrArg some (by kernel_rfl))⟩
 f14:=⟨Tryz.f148.name,by decide,Tryz.func148.trans (congrArg some (by kernel_rfl))⟩
 f15:=Tryz.func138.trans (congrArg some (by kernel_rfl))
 f20:=⟨Tryz.f183.name,by decide,Tryz.func183.trans (congrArg some (by kernel_rfl))⟩
 f21:=⟨Tryz.f184.name,by decide,Tryz.func184.trans (congrArg some (by kernel_rfl))⟩
 f22:=⟨Tryz.f185.name,by decide,Tryz.func185.trans (congrArg some (by kernel_rfl))⟩
 f23:=⟨Tryz.f186.name,by decide,Tryz.func186.trans (congrArg some (by kernel_rfl))⟩
 f24:=⟨Tryz.f187.name,by decide,Tryz.func187.trans (congrArg some (by kernel_rfl))⟩
 f25:=⟨Tryz.f188.name,by decide,Tryz.func188.trans (congrArg some (by kernel_rfl))⟩
 f26:=⟨Tryz.f189.name,by decide,Tryz.func189.trans (congrArg some (by kernel_rfl))⟩
 f27:=⟨Tryz.f190.name,by decide,Tryz.func190.trans (congrArg some (by kernel_rfl))⟩
 f28:=Tryz.func177.trans (congrArg some (by kernel_rfl))
 f29:=Tryz.func178.trans (congrArg some (by kernel_rfl))
 f46:=⟨Tryz.f227.name,by decide,Tryz.func227.trans (congrArg some (by kernel_rfl))⟩
 f47:=Tryz.func218.trans (congrArg some (by kernel_rfl))
 f48:=Tryz.func219.trans (congrArg some (by kernel_rfl))
 f49:=⟨Tryz.f228.name,by decide,Tryz.func228.trans (congrArg some (by kernel_rfl))⟩
 f50:=⟨Tryz.f229.name,by decide,Tryz.func229.trans (congrArg some (by kernel_rfl))⟩
 f57:=⟨Tryz.f273.name,by decide,Tryz.func273.trans (congrArg some (by kernel_rfl))⟩
 t0:=Tryz.underlying0
 a0:=Tryz.isAgg0
 z0:=Tryz.sizeOf0
 v0:=Tryz.zeroValue0
 t3:=Tryz.underlying3
 a3:=Tryz.isAgg3
 z3:=Tryz.sizeOf3
 v3:=Tryz.zeroValue3
 t4:=Tryz.underlying4
 a4:=Tryz.isAgg4
 z4:=Tryz.sizeOf4
 v4:=Tryz.zeroValue4
 t5:=Tryz.underlying5
 a5:=Tryz.isAgg5
 z5:=Tryz.sizeOf5
 v5:=Tryz.zeroValue5
 t9:=Tryz.underlying9
 a9:=Tryz.isAgg9
 z9:=Tryz.sizeOf9
 v9:=Tryz.zeroValue9
 t22:=Tryz.underlying110
 a22:=Tryz.isAgg110
 z22:=Tryz.sizeOf110
 v22:=Tryz.zeroValue110
 t25:=Tryz.underlying188
 a25:=Tryz.isAgg188
 z25:=Tryz.sizeOf188
 v25:=Tryz.zeroValue188
 t39:=Tryz.underlying75
 a39:=Tryz.isAgg75
 z39:=Tryz.sizeOf75
 v39:=Tryz.zeroValue75
 t45:=Tryz.underlying257
 a45:=Tryz.isAgg257
 z45:=Tryz.sizeOf257
 v45:=Tryz.zeroValue257
 t46:=Tryz.underlying258
 a46:=Tryz.isAgg258
 z46:=Tryz.sizeOf258
 v46:=Tryz.zeroValue258
 t50:=Tryz.underlying262
 a50:=Tryz.isAgg262
 z50:=Tryz.sizeOf262
 v50:=Tryz.zeroValue262
 t53:=Tryz.underlying265
 a53:=Tryz.isAgg265
 z53:=Tryz.sizeOf265
 v53:=Tryz.zeroValue265
 t55:=Tryz.underlying34
 a55:=Tryz.isAgg34
 z55:=Tryz.sizeOf34
 v55:=Tryz.zeroValue34
 t66:=Tryz.underlying303
 a66:=Tryz.isAgg303
 z66:=Tryz.sizeOf303
 v66:=Tryz.zeroValue303
 t70:=Tryz.underlying307
 a70:=Tryz.isAgg307
 z70:=Tryz.sizeOf307
 v70:=Tryz.zeroValue307
 t76:=Tryz.underlying351
 a76:=Tryz.isAgg351
 z76:=Tryz.sizeOf351
 v76:=Tryz.zeroValue351
 t77:=Tryz.underlying352
 a77:=Tryz.isAgg352
 z77:=Tryz.sizeOf352
 v77:=Tryz.zeroValue352 }
end Go.Proofs
namespace Go.SL
open Go Go.Proofs Go.Sort Go.Shelf
def sortRc (L:List Rct):List Rct:=L.mergeSort fun x y=> !(ltOf JF y x)
end Go.SL
namespace Go.Proofs
open Go Go.Shelf Go.RowKit Go.Lib Go.Sort Go.SL
def Tryz.sortIn_ren:Go.Shelf.Ren:=⟨fun|5=>164|8=>138|7=>212|19=>177|20=>178|10=>260|11=>261|12=>262|13=>263|14=>264|15=>265|16=>266|17=>267|18=>268|30=>303|31=>218|32=>219|33=>304|34=>305|35=>149|40=>326|n=>n,fun|23=>102|25=>3|3=>3|32=>75|22=>102|0=>0|44=>265|46=>34|4=>4|36=>258|35=>257|41=>262|5=>5|9=>9|53=>303|57=>307|63=>351|64=>352|n=>n,fun|n=>n⟩
theorem Tryz.sortIn:Go.Proofs.SlLaysM.n5 Tryz.prog Tryz.sortIn_ren:={
 mixed:=by kernel_rfl
 f5:=⟨Tryz.f164.name,by decide,Tryz.func164.trans (congrArg some (by kernel_rfl))⟩
 f7:=⟨Tryz.f212.name,by decide,Tryz.func212.trans (congrArg some (by kernel_rfl))⟩
 f8:=Tryz.func138.trans (congrArg some (by kernel_rfl))
 f10:=⟨Tryz.f260.name,by decide,Tryz.func260.trans (congrArg some (by kernel_rfl))⟩
 f11:=⟨Tryz.f261.name,by decide,Tryz.func261.trans (congrArg some (by kernel_rfl))⟩
 f12:=⟨Tryz.f262.name,by decide,Tryz.func262.trans (congrArg some (by kernel_rfl))⟩
 f13:=⟨Tryz.f263.name,by decide,Tryz.func263.trans (congrArg some (by kernel_rfl))⟩
 f14:=⟨Tryz.f264.name,by decide,Tryz.func264.trans (congrArg some (by kernel_rfl))⟩
 f15:=⟨Tryz.f265.name,by decide,Tryz.func265.trans (congrArg some (by kernel_rfl))⟩
 f16:=⟨Tryz.f266.name,by decide,Tryz.func266.trans (congrArg some (by kernel_rfl))⟩
 f17:=⟨Tryz.f267.name,by decide,Tryz.func267.trans (congrArg some (by kernel_rfl))⟩
 f18:=⟨Tryz.f268.name,by decide,Tryz.func268.trans (congrArg some (by kernel_rfl))⟩
 f19:=Tryz.func177.trans (congrArg some (by kernel_rfl))
 f20:=Tryz.func178.trans (congrArg some (by kernel_rfl))
 f30:=⟨Tryz.f303.name,by decide,Tryz.func303.trans (congrArg some (by kernel_rfl))⟩
 f31:=Tryz.func218.trans (congrArg some (by kernel_rfl))
 f32:=Tryz.func219.trans (congrArg some (by kernel_rfl))
 f33:=⟨Tryz.f304.name,by decide,Tryz.func304.trans (congrArg some (by kernel_rfl))⟩
 f34:=⟨Tryz.f305.name,by decide,Tryz.func305.trans (congrArg some (by kernel_rfl))⟩
 f35:=⟨Tryz.f149.name,by decide,Tryz.func149.trans (congrArg some (by kernel_rfl))⟩
 f40:=⟨Tryz.f326.name,by decide,Tryz.func326.trans (congrArg some (by kernel_rfl))⟩
 t0:=Tryz.underlying0
 a0:=Tryz.isAgg0
 z0:=Tryz.sizeOf0
 v0:=Tryz.zeroValue0
 t3:=Tryz.underlying3
 a3:=Tryz.isAgg3
 z3:=Tryz.sizeOf3
 v3:=Tryz.zeroValue3
 t4:=Tryz.underlying4
 a4:=Tryz.isAgg4
 z4:=Tryz.sizeOf4
 v4:=Tryz.zeroValue4
 t5:=Tryz.underlying5
 a5:=Tryz.isAgg5
 z5:=Tryz.sizeOf5
 v5:=Tryz.zeroValue5
 t9:=Tryz.underlying9
 a9:=Tryz.isAgg9
 z9:=Tryz.sizeOf9
 v9:=Tryz.zeroValue9
 t22:=Tryz.underlying102
 a22:=Tryz.isAgg102
 z22:=Tryz.sizeOf102
 v22:=Tryz.zeroValue102
 t23:=Tryz.underlying102
 a23:=Tryz.isAgg102
 z23:=Tryz.sizeOf102
 v23:=Tryz.zeroValue102
 t25:=Tryz.underlying3
 a25:=Tryz.isAgg3
 z25:=Tryz.sizeOf3
 v25:=Tryz.zeroValue3
 t32:=Tryz.underlying75
 a32:=Tryz.isAgg75
 z32:=Tryz.sizeOf75
 v32:=Tryz.zeroValue75
 t35:=Tryz.underlying257
 a35:=Tryz.isAgg257
 z35:=Tryz.sizeOf257
 v35:=Tryz.zeroValue257
 t36:=Tryz.underlying258
 a36:=Tryz.isAgg258
 z36:=Tryz.sizeOf258
 v36:=Tryz.zeroValue258
 t41:=Tryz.underlying262
 a41:=Tryz.isAgg262
 z41:=Tryz.sizeOf262
 v41:=Tryz.zeroValue262
 t44:=Tryz.underlying265
 a44:=Tryz.isAgg265
 z44:=Tryz.sizeOf265
 v44:=Tryz.zeroValue265
 t46:=Tryz.underlying34
 a46:=Tryz.isAgg34
 z46:=Tryz.sizeOf34
 v46:=Tryz.zeroValue34
 t53:=Tryz.underlying303
 a53:=Tryz.isAgg303
 z53:=Tryz.sizeOf303
 v53:=Tryz.zeroValue303
 t57:=Tryz.underlying307
 a57:=Tryz.isAgg307
 z57:=Tryz.sizeOf307
 v57:=Tryz.zeroValue307
 t63:=Tryz.underlying351
 a63:=Tryz.isAgg351
 z63:=Tryz.sizeOf351
 v63:=Tryz.zeroValue351
 t64:=Tryz.underlying352
 a64:=Tryz.isAgg352
 z64:=Tryz.sizeOf352
 v64:=Tryz.zeroValue352 }
end Go.Proofs
namespace Go.SL
open Go Go.Proofs Go.Sort Go.Shelf
theorem yf {α:Type} [Inhabited α] {enc:α→Value} (w:World) (g n:Nat) (d:Array α) (os:Array Obj):w.grownBy (grow (putRow enc (Sort.ahead w n) g 0 d) os) (some g):={
 os:=rfl
 tape:=rfl
 output:=rfl
 size:=by
  show w.heap.size≤((w.heap.modify g _)++os).size
  rw [Array.size_append,Array.size_modify]
  omega
 block k hk hne:=by
  show ((w.heap.modify g _)++os)[k]? =_
  rw [Oo (by rw [Array.size_modify];exact hk),PA,if_neg (fun e=>hne (by rw [e]))] }
theorem AU {α:Type} [Inhabited α] {enc:α→Value} (w:World) (g n:Nat) (d:Array α) (os:Array Obj) (c:Array Value) (T:TypeId) (fr:Nat × Nat) (h:w.heap[g]? =some (.cells c T fr)):
  (grow (putRow enc (Sort.ahead w n) g 0 d) os).heap[g]? =some (.cells (putCells enc 0 d c) T fr):=by
 have hlt:g<w.heap.size:=(Nv.1 h).1
 show ((w.heap.modify g _)++os)[g]? =_
 rw [Oo (by rw [Array.size_modify];exact hlt),PA,if_pos rfl,h]
 rfl
theorem Bn (L:List Int) (xs junk:List Value) (hl:xs.length=L.length):putCells eW 0 L.toArray (xs++junk).toArray=(L.map eW++junk).toArray:=by
 apply Array.ext_getElem?
 intro j
 simp only [putCells,Array.getElem?_mapIdx,NJ,Pu,Nl,true_and,Nm,O0]
 by_cases hj:j<L.length
 ·
  rw [Oh (by omega),Oh (by rw [NZ];omega),NY,MV (by omega),MV hj]
  simp [hj]
 ·
  rw [NS (by omega),NS (by rw [NZ];omega),hl,NZ]
  simp [hj]
set_option maxHeartbeats 1000000 in
theorem ye (L:List Int) (A:Option Nat) (cap:Nat) (hL:L.length≤1000000) (R:List Blk) (w0:World):
  FnIn Tryz.prog 164 [sl A L.length cap] w0 (.own A 3 1 L.length cap (L.map eW)::R) fun v H=>v= .tuple #[]∧H= .own A 3 1 L.length cap ((iF L).map eW)::R:=by
 have hl:(iF L).length=L.length:=(gI L).length_eq
 cases A with
 |none=>
  intro w hm
  obtain ⟨⟨h1,h2,h3,h4⟩,_⟩:=hm.on _ MY
  obtain ⟨h5,h6⟩:=h4
  have hnil:L= []:=OD.1 h5
  subst hnil
  subst h6
  have he:iF []= []:=OD.1 hl
  refine Calls.mono (AnyM.slices_Sort_int_none Tryz.sortIn none 0 w) ?_
  rintro e w' ⟨rfl,rfl⟩
  exact ⟨_,_,rfl,hm,rfl,by rw [he]⟩
 |some g=>
  intro w hm
  obtain ⟨⟨h1,h2,h3,junk,h4,h5⟩,hkk⟩:=hm.on _ MY
  have hlt:g<w.heap.size:=(Nv.1 h5).1
  have hH:Holds eW w g 0 L.toArray:=by
   intro j hj
   simp only [Pu] at hj
   have hc:(L.map eW++junk).toArray[j]? =some (eW L.toArray[j]!):=by
    rw [NJ,Oh (by rw [NZ];exact hj),NY,MV hj]
    simp [hj]
   constructor
   ·
    simp only [World.cell?,Nm,h5]
    exact hc
   ·
    simp [World.frozen?,h5]
  have hs:=AnyM.slices_Sort_int Tryz.sortIn g 0 cap L w hH hlt (by omega)
  refine hs.mono ?_
  rintro e w' ⟨rfl,n,os,rfl⟩
  refine ⟨_,_,rfl,hm.upd (yf _ _ _ _ _) (b' := .own (some g) 3 1 L.length cap ((iF L).map eW)) ?_ fun k hk=> .inl hk,rfl,rfl⟩
  refine ⟨by rw [NZ,hl,OP],h2,h3,junk,by rw [MT,NZ,hl,← OP L.length,← h1,← MT];exact h4,?_⟩
  have h6:=AU (enc:=eW) w g n (iF L).toArray os _ _ _ h5
  rw [Bn (iF L) _ _ (by rw [hl,h1,OP])] at h6
  exact h6
end Go.SL
namespace Go.SL
open Go Go.Proofs
attribute [local irreducible] W WL WQ WG WA WX WLI WR WT WC VOp RW thn blk bL scp bi bz bY aQ FnP ceP
structure Gp where
 gg:Nat
 gm:Nat
 E:List En
 clock:Nat
 gr:Nat
 A:Option Nat
 cap:Nat
 Q:List En
 R:List Blk
end Go.SL
namespace Go.SL
open Go Go.Proofs
attribute [local irreducible] W WL WQ WG WA WX WLI WR WT WC VOp RW thn blk bL scp bi bz bY aQ FnIn FnP ceP
theorem nu (L:List Et): ∀ u∈L.flatMap aJ,u.oneCell' =true:=by
 intro u hu
 obtain ⟨x,_,hx⟩:=NR.1 hu
 simp only [aJ,M8,OZ,or_false] at hx
 rcases hx with rfl|rfl|rfl<;>rfl
theorem l3 (L:List Et) (tv:Value) (w:World) (ht:Reads w tv L.length (L.flatMap aJ)) (hlen:L.length≤1000000):
  aQ Tryz.prog 22 [tv] w fun v H=> ∃ A cap,v=sl A L.length cap∧H= [.own A 53 3 L.length cap (L.flatMap aJ)]:=by
 refine aq Tryz.func22 rfl Tryz.ntmps22 rfl ?_
 have hl:(L.flatMap aJ).length=L.length*3:=aK bC L
 refine aI 53 3 ?_
 repeat' (first|(apply cy (n' :=0) (c:=0) (A:=none) (m:=L.length);(iterate 3 exact rfl);exact pK;(intro w hm;exact ht.of_w0 hm);exact hl;exact nu L;omega;(simp only [maxLen];omega);intro A' cap' hA)|refine sT ?_|refine sM fun _=> ?_|(refine sC ?_ ?_<;>intro hb<;>try omega)|fail)
 exact cP (.inl rfl) Tryz.results22 rfl (H' := [.own A' 53 3 (0+L.length) cap' ([]++L.flatMap aJ)]) mS ⟨A',cap',by rw [Nm],by rw [Nm];rfl⟩
end Go.SL
namespace Go.SL
open Go Go.Proofs
attribute [local irreducible] W WL WQ WG WA WX WLI WR WT WC WE VOp RW thn blk bL scp bi bz bY aQ FnIn FnP ceP
theorem Bm (r:Rct):dC r=0↔aG r=true:=by
 have:=Gb (r:=r)
 cases h:aG r
 ·
  rw [h] at this
  simp only [iff_true,NV,iff_false] at this ⊢
  exact this
 ·
  rw [h] at this
  simpa using this
end Go.SL
namespace Go.SL
open Go Go.Proofs
theorem KI {P:Program} {n:Fr} {w0:World} {Q:bM} {s:az} {H:List Blk} {c:Code} {A:Option Nat} {t sz m cap:Nat} {xs:List Value} (hi:In (.own A t sz m cap xs) H) (h:m≤cap→W P n w0 c Q s H):W P n w0 c Q s H:=fun a w hs hmem=>
 h (hmem.on _ hi.mem).1.2.1 a w hs hmem
theorem Ec (w:World):Reads w (.slice none 0 0) 0 []:=⟨none,0,rfl,MZ _,Nl _,fun h=>absurd h (Nat.lt_irrefl 0)⟩
attribute [local irreducible] W WL WQ WG WA WX WLI WR WT WC WE VOp RW thn blk bL scp bi bz bY aQ FnIn FnP ceP
end Go.SL
namespace Go.SL
open Go Go.Proofs
attribute [local irreducible] W WL WQ WG WA WX WLI WR WT WC WE VOp RW thn blk bL scp bi bz bY aQ FnIn FnP ceP
theorem oW {P:Program} {w0:World} {s:az} {H:List Blk} {ty t e lo m c sz g:Nat} {x xl:Operand} [ht:Und P t (.slice e)] [hz:Size P e sz] (hx:ev s x=some (.slice (some ⟨g,0,none⟩) m c)) (hxl:ev s xl=some (.int .i64 (lo:Nat))) (h1:lo<m) (h2:m≤c):
  VOp P w0 s H (.slice t x (some xl) none none) ty (.slice (some ⟨g,lo*sz,none⟩) (m - lo) (c - lo)):=by
 have h:=kw (P:=P) (w0:=w0) (s:=s) (H:=H) (ty:=ty) (t:=t) (lo:=lo) (hi:=m) (x:=x) (xl:=some xl) (xh:=none) hx ⟨_,hxl⟩ rfl (by omega) h2
 rw [if_neg (show ¬ c=lo by omega)] at h
 have ha:(⟨g,0,none⟩:Addr).add (lo*sz)=⟨g,lo*sz,none⟩:=by unfold Addr.add;split<;>simp_all
 rw [NW,ha] at h
 exact h
theorem uE {P:Program} {w0:World} {s:az} {H:List Blk} {ty t e hi m c sz:Nat} {A:Option Addr} {x xh:Operand} [ht:Und P t (.slice e)] [hz:Size P e sz] (hx:ev s x=some (.slice A m c)) (hxh:ev s xh=some (.int .i64 (hi:Nat))) (h2:hi≤c):
  VOp P w0 s H (.slice t x none (some xh) none) ty (.slice A hi c):=by
 have h:=kw (P:=P) (w0:=w0) (s:=s) (H:=H) (ty:=ty) (t:=t) (lo:=0) (hi:=hi) (x:=x) (xl:=none) (xh:=some xh) hx rfl ⟨_,hxh⟩ (by omega) h2
 have ha:(if c=0 then A else A.map (·.add (0*sz)))=A:=by
  split
  ·
   rfl
  ·
   cases A with
   |none=>rfl
   |some a=>rw [Nat.zero_mul];simp [Addr.add]
 rw [ha] at h
 exact h
theorem K4 {L:List Int} {k:Nat} (h:k<L.length):(L.map eW)[0+k*1]? =some (eW L[k]):=by
 rw [Nm,OP,NY,MV h];rfl
theorem Kt {L:List Int} {a k:Nat} (h:a+k<L.length):(L.map eW)[a*1+k*1]? =some (eW L[a+k]):=by
 rw [OP,OP,NY,MV h];rfl
set_option maxHeartbeats 4000000 in
theorem z1 (L:List Int) (A:Option Nat) (cap:Nat) (hL:L.length≤1000000) (R:List Blk) (w0:World):
    FnIn Tryz.prog 165 [sl A L.length cap] w0 (.own A 3 1 L.length cap (L.map eW)::R) fun v H=>v=sl A (fD L).length cap∧H= .own A 3 1 (fD L).length cap ((fD L).map eW)::R:=by
  refine dP Tryz.func165 rfl Tryz.ntmps165 rfl ?_
  refine KI (A:=A) .hd fun hle=> ?_
  by_cases h2:L.length<2
  · have hc:=zG (L:=L) (by omega)
    repeat' (first|refine sT ?_|refine sS ?_|refine sN ?_|refine sM fun _=> ?_|(refine sC ?_ ?_<;>intro hb<;>try omega)|fail)
    all_goals first
      |(exfalso;omega)
      |(refine cP eIO rfl rfl (.refl _) ?_;rw [hc];exact ⟨rfl,rfl⟩)
      |trace_state
  · refine gF (A:=A) .hd (by omega) fun g hA=> ?_
    subst hA
    repeat' (first|refine sT ?_|refine sS ?_|refine sN ?_|refine sM fun _=> ?_|(refine sC ?_ ?_<;>intro hb<;>try omega)|fail)
    all_goals try (exfalso;omega)
    refine ay [0] rfl (fun k:Nat=> [(3,.int .i64 (k:Int))]) (fun _=> .own (some g) 3 1 L.length cap (L.map eW)::R) (fun k=>1≤k∧k≤L.length∧fD (L.take k)=L.take k) (fun k=>L.length - k) 1 ⟨MZ _,by omega,zG (by rw [Nj];omega)⟩ sB mS ?_
    rintro k ⟨hk1,hk,hck⟩
    by_cases hlt:k<L.length
    · have hr1:=K4 hlt
      have hr2:=K4 (L:=L) (k:=k - 1) (by omega)
      have hst:=vE hlt hk1
      have htk:L.take (k+1)=L.take k++ [L[k]]:=by rw [M9 hlt]
      obtain ⟨c,hc⟩: ∃ c,decide (L[k]=L[k - 1])=c:=⟨_,rfl⟩
      cases c with
      |false=>
        have hne: ¬ L[k]=L[k - 1]:=by simpa using hc
        rw [if_neg hne,hck,← htk] at hst
        repeat' (first|(apply aP;exact rfl;apply du;exact rfl;exact rfl;omega;(simp only [maxLen];omega))|(apply aP;exact rfl;apply ak (j:=k);exact rfl;exact rfl;omega)|(apply aP;exact rfl;apply ak (j:=k - 1);exact rfl;exact rfl;omega)|(apply aP;exact rfl;apply bT;exact rfl;exact pK;(first|exact hr1|exact hr2))|(apply aP;exact rfl;apply uG hc;exact rfl;exact rfl)|refine sT ?_|refine sS ?_|refine sQ ?_|refine sN ?_|refine sNQ ?_|refine sD ?_|refine sM fun _=> ?_|(refine sC ?_ ?_<;>intro hb<;>try omega)|(refine sCQ ?_ ?_<;>intro hb<;>try omega)|fail)
        all_goals first
          |(exfalso;omega)
          |(refine ⟨k+1,⟨by omega,hlt,hst⟩,by omega,by exact sB,by exact sB,by exact mS⟩;done)
          |trace_state
      |true=>
        have hne:L[k]=L[k - 1]:=by simpa using hc
        rw [if_pos hne,hck] at hst
        repeat' (first|(apply aP;exact rfl;apply du;exact rfl;exact rfl;omega;(simp only [maxLen];omega))|(apply aP;exact rfl;apply ak (j:=k);exact rfl;exact rfl;omega)|(apply aP;exact rfl;apply ak (j:=k - 1);exact rfl;exact rfl;omega)|(apply aP;exact rfl;apply bT;exact rfl;exact pK;(first|exact hr1|exact hr2))|(apply aP;exact rfl;apply uG hc;exact rfl;exact rfl)|(apply aj;exact rfl;apply oW (lo:=k);exact rfl;exact rfl;omega;exact hle)|refine sT ?_|refine sS ?_|refine sQ ?_|refine sN ?_|refine sNQ ?_|refine sD ?_|refine sM fun _=> ?_|(refine sC ?_ ?_<;>intro hb<;>try omega)|(refine sCQ ?_ ?_<;>intro hb<;>try omega)|fail)
        all_goals try (exfalso;omega)
        refine ay [0,4] rfl (fun y:Nat × Nat × List Int=> [(5,.int .i64 (y.1:Int)),(3,.int .i64 (y.2.1:Int))]) (fun y=> .own (some g) 3 1 L.length cap (y.2.2.map eW)::R) (fun y=>1≤y.1∧k+y.1≤L.length∧y.2.1+1≤k+y.1∧y.2.2.length=L.length∧y.2.2.take y.2.1=fD (L.take (k+y.1))∧ ∀ j,k+y.1≤j+1→y.2.2[j]? =L[j]?) (fun y=>L.length - y.1) (1,k,L) ⟨MZ _,by omega,MZ _,rfl,hst.symm,fun _ _=>rfl⟩ sB mS ?_
        rintro ⟨i,k',ys⟩ ⟨hi1,hi2,hi3,hi4,hi5,hi6⟩
        dsimp only at hi1 hi2 hi3 hi4 hi5 hi6 ⊢
        by_cases hli:k+i<L.length
        · have hy1:k+i<ys.length:=by omega
          have hr3:=Kt (L:=ys) (a:=k) (k:=i) hy1
          have hr4:=Kt (L:=ys) (a:=k) (k:=i - 1) (by omega)
          have he1:ys[k+i]=L[k+i]:=by
            have:=hi6 (k+i) (by omega)
            rw [MV hy1,MV hli] at this
            exact Option.some.inj this
          have he2:ys[k+(i - 1)]=L[k+i - 1]:=by
            have:=hi6 (k+(i - 1)) (by omega)
            rw [MV (by omega),MV (by omega)] at this
            rw [Option.some.inj this]
            congr 1
            omega
          rw [he1] at hr3
          rw [he2] at hr4
          have hst2:=vE hli (by omega)
          obtain ⟨c,hc2⟩: ∃ c,decide (L[k+i]=L[k+i - 1])=c:=⟨_,rfl⟩
          cases c with
          |true=>
            rw [if_pos (by simpa using hc2)] at hst2
            repeat' (first|(apply aP;exact rfl;apply du;exact rfl;exact rfl;omega;(simp only [maxLen];omega))|(apply aP;exact rfl;apply ak (j:=i);exact rfl;exact rfl;omega)|(apply aP;exact rfl;apply ak (j:=i - 1);exact rfl;exact rfl;omega)|(apply aP;exact rfl;apply bT;exact rfl;exact pK;(first|exact hr3|exact hr4))|(apply aP;exact rfl;apply uF hc2;exact rfl;exact rfl)|refine sT ?_|refine sS ?_|refine sQ ?_|refine sN ?_|refine sNQ ?_|refine sD ?_|refine sM fun _=> ?_|(refine sC ?_ ?_<;>intro hb<;>try omega)|(refine sCQ ?_ ?_<;>intro hb<;>try omega)|fail)
            all_goals first
              |(exfalso;omega)
              |(refine ⟨(i+1,k',ys),⟨by dsimp only;omega,by dsimp only;omega,by dsimp only;omega,hi4,by dsimp only;rw [hi5,← Nat.add_assoc,hst2],fun j hj=>hi6 j (by omega)⟩,by dsimp only;omega,by exact sB,by exact sB,by exact mS⟩;done)
              |trace_state
          |false=>
            rw [if_neg (by simpa using hc2)] at hst2
            have hput:(ys.map eW).set (0+k' *1) (eW L[k+i])=(ys.set k' L[k+i]).map eW:=by rw [Nm,OP,List.map_set]
            repeat' (first|(apply aP;exact rfl;apply du;exact rfl;exact rfl;omega;(simp only [maxLen];omega))|(apply aP;exact rfl;apply ak (j:=i);exact rfl;exact rfl;omega)|(apply aP;exact rfl;apply ak (j:=i - 1);exact rfl;exact rfl;omega)|(apply aP;exact rfl;apply bT;exact rfl;exact pK;(first|exact hr3|exact hr4))|(apply aP;exact rfl;apply uF hc2;exact rfl;exact rfl)|(apply aj (d:=49);exact rfl;apply ak (j:=i);exact rfl;exact rfl;omega)|(apply aj (d:=51);exact rfl;apply ak (j:=k');exact rfl;exact rfl;omega)|(apply aj;exact rfl;apply bT;exact rfl;exact pK;exact hr3)|(apply fR (v:=eW L[k+i]) (off:=0+k' *1);exact rfl;exact rfl;exact pK;exact rfl;(rw [NZ,hi4];omega);rw [hput])|refine sT ?_|refine sS ?_|refine sQ ?_|refine sN ?_|refine sNQ ?_|refine sD ?_|refine sM fun _=> ?_|(refine sC ?_ ?_<;>intro hb<;>try omega)|(refine sCQ ?_ ?_<;>intro hb<;>try omega)|fail)
            all_goals first
              |(exfalso;omega)
              | (refine ⟨(i + 1, k' + 1, ys.set k' L[k + i]), ⟨by dsimp only; omega, by dsimp only; omega, by dsimp only; omega, by dsimp only; rw [List.length_set, hi4], ?_, fun j hj => ?_⟩, by dsimp only; omega, by exact sB, by exact sB, by exact mS⟩
                 · dsimp only
                   rw [M9 (by rw [Pa];omega),List.take_set_of_le (MZ _),hi5,List.getElem_set_self,← OC,hst2]
                 · dsimp only at hj ⊢
                   rw [List.getElem?_set_ne (by omega)]
                   exact hi6 j (by omega))
              |trace_state
        · have hli2:k+i=L.length:=by omega
          rw [hli2,N0] at hi5
          have hcl:(fD L).length=k' :=by rw [← hi5,Nj,hi4];omega
          have hk'L:k' <L.length:=by omega
          repeat' (first|(apply aj;exact rfl;apply oW (lo:=k');exact rfl;exact rfl;omega;exact hle)|(apply xD (sz:=1) (k:=k') (n' :=L.length);exact rfl;omega;exact pK;(intro u hu;simp [Value.cells] at hu;subst hu;rfl);exact rfl)|(apply aj;exact rfl;apply uE (hi:=k');exact rfl;exact rfl;omega)|refine sT ?_|refine sS ?_|refine sN ?_|refine sM fun _=> ?_|(refine sC ?_ ?_<;>intro hb<;>try omega)|fail)
          all_goals first
            |(exfalso;omega)
            | (refine cP eIO rfl rfl (H' := .own (some g) 3 1 k' cap ((ys.map eW).take (k' * 1)) :: R) mS ?_
               rw [OP,← List.map_take,hi5,hcl]
               exact ⟨rfl,rfl⟩)
            |trace_state
    · have hkl:k=L.length:=by omega
      rw [hkl,N0] at hck
      repeat' (first|refine sT ?_|refine sS ?_|refine sN ?_|refine sM fun _=> ?_|(refine sC ?_ ?_<;>intro hb<;>try omega)|fail)
      all_goals first
        |(exfalso;omega)
        |(refine cP eIO rfl rfl (.refl _) ?_;rw [hck];exact ⟨rfl,rfl⟩)
        |trace_state
end Go.SL
namespace Go.SL
open Go
def Dc (a:Rf) (L:List Rl):Nat→Nat
 |0=>0
 |n+1=>if eM ((L[n]?.map (·.rect)).getD aL) a=true then n else Dc a L n
def Dd (L:List Rl) (a:Rf):Nat:=Dc a L L.length
theorem Dz {r:Rct} {L:List Rl} (h:L≠ []):gD r L<L.length:=by
 have:=uA r L L.length
 have h2:0<L.length:=OJ.2 h
 unfold gD;omega
theorem cQ {r:Rct}:aG r=true↔1≤r.c1∧r.c1≤r.c2∧r.c2≤1024∧1≤r.r1∧r.r1≤r.r2∧r.r2≤1024:=by
 unfold aG valid
 simp only [M0,decide_eq_true_eq]
 omega
theorem dF {r:Rct} {a:Rf}:eM r a=true↔r.c1≤a.col∧a.col≤r.c2∧r.r1≤a.row∧a.row≤r.r2:=by
 unfold eM
 simp only [M0,decide_eq_true_eq,and_assoc]
theorem lM (a b:Rct):(gy a b).c1=max a.c1 b.c1:=by unfold gy;simp only;split<;>omega
theorem lK (a b:Rct):(gy a b).r1=max a.r1 b.r1:=by unfold gy;simp only;split<;>omega
theorem lL (a b:Rct):(gy a b).c2=min a.c2 b.c2:=by unfold gy;simp only;split<;>omega
theorem lJ (a b:Rct):(gy a b).r2=min a.r2 b.r2:=by unfold gy;simp only;split<;>omega
theorem u4 {a b:Rct} (ha:aG a=true) (hb:aG b=true) {x:Rf} (h1:eM a x=true) (h2:eM b x=true):dD a b=(gy a b,true):=by
 unfold dD
 rw [if_pos]
 simp only [O5,List.all_nil,ha,hb,NI,Ns]
 rw [cQ] at*
 rw [dF] at h1 h2
 rw [lM,lK,lL,lJ]
 omega
theorem Rct.ext' {a b:Rct} (h1:a.c1=b.c1) (h2:a.r1=b.r1) (h3:a.c2=b.c2) (h4:a.r2=b.r2):a=b:=by
 cases a;cases b;simp only at*;subst h1 h2 h3 h4;rfl
theorem BM {c R:Rct} (hc:aG c=true) (hR:aG R=true):iR c R=true↔R.c1≤c.c1∧c.c2≤R.c2∧R.r1≤c.r1∧c.r2≤R.r2:=by
 have hc' :=cQ.1 hc
 constructor
 ·
  intro h
  unfold iR at h
  rw [M0,decide_eq_true_eq] at h
  obtain ⟨h1,h2⟩:=h
  unfold dD at h1 h2
  split at h1
  ·
   rename_i hall
   rw [if_pos hall] at h2
   have e1:=congrArg Rct.c1 h2
   have e2:=congrArg Rct.r1 h2
   have e3:=congrArg Rct.c2 h2
   have e4:=congrArg Rct.r2 h2
   simp only [lM,lK,lL,lJ] at e1 e2 e3 e4
   omega
  ·
   cases h1
 ·
  intro h
  have h1:eM c ⟨c.c1,c.r1⟩=true:=dF.2 (by simp only;omega)
  have h2:eM R ⟨c.c1,c.r1⟩=true:=dF.2 (by simp only;omega)
  unfold iR
  rw [u4 hc hR h1 h2,M0,decide_eq_true_eq]
  exact ⟨rfl,Rct.ext' (by rw [lM];omega) (by rw [lK];omega) (by rw [lL];omega) (by rw [lJ];omega)⟩
structure CellOf (r:Rct) (A B:List Rl) (y x:Int × Int):Prop where
 row:y∈cf r.r1 r.r2 (aS r A++aS r B)
 col:x∈cf r.c1 r.c2 (aU r A++aU r B)
def eE (y x:Int × Int):Rct:=⟨x.1,y.1,x.2,y.2⟩
theorem CellOf.ok {r:Rct} {A B:List Rl} {y x:Int × Int} (h:CellOf r A B y x) (hr:aG r=true):aG (eE y x)=true:=by
 have h1:=dU h.row
 have h2:=dU h.col
 rw [cQ] at*
 simp only [eE];omega
theorem CellOf.inside {r:Rct} {A B:List Rl} {y x:Int × Int} (h:CellOf r A B y x) (hr:aG r=true) {a:Rf} (ha:eM (eE y x) a=true) {R:Rl} (hm:R∈A∨R∈B) (hR:aG R.rect=true):iR (eE y x) R.rect=eM R.rect a:=by
 have h1:=dU h.row
 have h2:=dU h.col
 have ha' :=dF.1 ha
 simp only [eE] at ha'
 rw [NG,BM (h.ok hr) hR,dF]
 simp only [eE]
 constructor
 ·
  intro h3;omega
 ·
  intro h3
  have har:eM r a=true:=dF.2 (by omega)
  have haR:eM R.rect a=true:=dF.2 h3
  have hmt:=u4 hR hr haR har
  have hcol:((gy R.rect r).c1,(gy R.rect r).c2)∈aU r A++aU r B:=by
   rw [Nu]
   rcases hm with hm|hm
   ·
    exact .inl (NR.2 ⟨R,hm,by rw [hmt];simp⟩)
   ·
    exact .inr (NR.2 ⟨R,hm,by rw [hmt];simp⟩)
  have hrow:((gy R.rect r).r1,(gy R.rect r).r2)∈aS r A++aS r B:=by
   rw [Nu]
   rcases hm with hm|hm
   ·
    exact .inl (NR.2 ⟨R,hm,by rw [hmt];simp⟩)
   ·
    exact .inr (NR.2 ⟨R,hm,by rw [hmt];simp⟩)
  have k1:=vL h.col hcol (by simp only [lM];omega) (by simp only [lL];omega)
  have k2:=vL h.row hrow (by simp only [lK];omega) (by simp only [lJ];omega)
  simp only [lM,lL,lK,lJ] at k1 k2
  omega
theorem qR {c:Rct} {a:Rf} {L:List Rl} (h: ∀ R∈L,iR c R.rect=eM R.rect a): ∀ n,n≤L.length→kW c L n=Dc a L n
 |0,_=>rfl
 |n+1,hn=>by
  have hlt:n<L.length:=by omega
  rw [kW,Dc,MV hlt,qR h n (by omega)]
  simp only [NW,PB]
  have e:=h _ (NK hlt)
  simp only [e]
theorem CellOf.which {r:Rct} {A B:List Rl} {y x:Int × Int} (h:CellOf r A B y x) (hr:aG r=true) (hA: ∀ R∈A,aG R.rect=true) {a:Rf} (ha:eM (eE y x) a=true):(lG A B y x).a=Dd A a:=
 qR (fun R hR=>h.inside hr ha (.inl hR) (hA R hR)) _ (MZ _)
theorem qy {α:Type} {p:List α→Prop} (h0:p []) (h1: ∀ l a,p l→p (l++ [a])) (l:List α):p l:=by
 have h: ∀ m:List α,p m.reverse:=fun m=>by
  induction m with
  |nil=>exact h0
  |cons a m ih=>rw [List.reverse_cons];exact h1 _ _ ih
 have:=h l.reverse
 rwa [List.reverse_reverse] at this
theorem Ls {l:List Pz} {p:Pz} {k:Nat}:k∈(ji l p).map (·.a)↔k∈l.map (·.a)∨k=p.a:=by
 unfold ji
 cases h:l.getLast? with
 |none=>
  rw [List.getLast?_eq_none_iff.1 h];simp
 |some q=>
  have hne:l≠ []:=fun e=>by rw [e] at h;cases h
  have hq:l.getLast hne=q:=by rw [List.getLast?_eq_some_getLast hne] at h;exact Option.some.inj h
  have he:=OA hne
  rw [hq] at he
  dsimp only
  split
  ·
   rename_i hs
   rw [Ou,Nu]
   conv=>rhs;rw [← he]
   rw [Ou,Nu]
   simp only [NA,Oz,Nz]
   rw [← hs.1]
   exact ⟨.inl,fun h=>h.elim id .inr⟩
  ·
   rw [Ou,Nu];simp
theorem Kr {A B:List Rl} {y:Int × Int} {k:Nat} (xs:List (Int × Int)):k∈(je A B y xs).map (·.a)↔ ∃ x∈xs,k=(lG A B y x).a:=by
 induction xs using qy with
 |h0=>simp [je]
 |h1 xs x ih=>
  rw [jZ,Ls,ih]
  simp only [Nu,Nz]
  constructor
  ·
   rintro (⟨z,hz,h⟩|h)
   ·
    exact ⟨z,.inl hz,h⟩
   ·
    exact ⟨x,.inr rfl,h⟩
  ·
   rintro ⟨z,hz|rfl,h⟩
   ·
    exact .inl ⟨z,hz,h⟩
   ·
    exact .inr h
theorem wK {r:Rct} {A B:List Rl} {k:Nat}:k∈(dm r A B).map (·.a)↔ ∃ y x,CellOf r A B y x∧k=(lG A B y x).a:=by
 unfold dm
 rw [List.map_flatMap,NR]
 constructor
 ·
  rintro ⟨y,hy,h⟩
  obtain ⟨x,hx,h2⟩:=(Kr _).1 h
  exact ⟨y,x,⟨hy,hx⟩,h2⟩
 ·
  rintro ⟨y,x,h,h2⟩
  exact ⟨y,h.row,(Kr _).2 ⟨x,h.col,h2⟩⟩
theorem Iu {l:List (BitVec 64)} {i:Nat} (hi:i<64):(qp l).getLsbD i=true↔ ∀ x∈l,x.getLsbD i=true:=by
 have h: ∀ (l:List (BitVec 64)) (s:BitVec 64),(l.foldl (· &&& ·) s).getLsbD i=true↔s.getLsbD i=true∧ ∀ x∈l,x.getLsbD i=true:=by
  intro l
  induction l with
  |nil=>intro s;simp
  |cons a l ih=>
   intro s
   rw [OX,ih,O2,M0]
   simp only [M8,forall_eq_or_imp,and_assoc]
 unfold qp
 rw [h,BitVec.getLsbD_allOnes]
 simp [hi]
theorem Gk {f:Rl→BitVec 64} {r:Rct} {L:List Rl} (hr:aG r=true) (hL: ∀ R∈L,aG R.rect=true) {i:Nat} (hi:i<64):
  (rR f r L).getLsbD i=true↔ ∀ a,eM r a=true→((L[Dd L a]?.map f).getD 0#64).getLsbD i=true:=by
 unfold rR
 rw [Iu hi]
 have hm:(∀ x∈(dm r L []).map (fun p=>(L[p.a]?.map f).getD 0#64),x.getLsbD i=true)↔ ∀ k∈(dm r L []).map (·.a),((L[k]?.map f).getD 0#64).getLsbD i=true:=by
  simp only [OM,forall_exists_index,and_imp,forall_apply_eq_imp_iff₂]
 rw [hm]
 constructor
 ·
  intro h a ha
  have ha' :=dF.1 ha
  obtain ⟨y,hy,hy1,hy2⟩:=qd (lo:=r.r1) (hi:=r.r2) (ps:=aS r L++aS r []) (v:=a.row) (by omega) (by omega)
  obtain ⟨x,hx,hx1,hx2⟩:=qd (lo:=r.c1) (hi:=r.c2) (ps:=aU r L++aU r []) (v:=a.col) (by omega) (by omega)
  have hc:CellOf r L [] y x:=⟨hy,hx⟩
  have hag:eM (eE y x) a=true:=dF.2 (by simp only [eE];omega)
  have:=h _ (wK.2 ⟨y,x,hc,rfl⟩)
  rwa [hc.which hr hL hag] at this
 ·
  intro h k hk
  obtain ⟨y,x,hc,rfl⟩:=wK.1 hk
  have hok:=cQ.1 (hc.ok hr)
  have h1:=dU hc.row
  have h2:=dU hc.col
  simp only [eE] at hok
  have hag:eM (eE y x) ⟨x.1,y.1⟩=true:=dF.2 (by simp only [eE];omega)
  rw [hc.which hr hL hag]
  exact h ⟨x.1,y.1⟩ (dF.2 (by simp only;omega))
def GJ (p q:Pz):Prop:=p.rect.r1<q.rect.r1∨(p.rect.r1=q.rect.r1∧p.rect.c1<q.rect.c1)
theorem G5 {l:List Pz} {p:Pz} {y c:Int} (hp:p.rect.r1=y) (hl: ∀ q∈l,q.rect.r1=y∧q.rect.c1<p.rect.c1) (hc:p.rect.c1≤c) (hs:l.Pairwise GJ):(ji l p).Pairwise GJ∧ ∀ q∈ji l p,q.rect.r1=y∧q.rect.c1≤c:=by
 unfold ji
 cases h:l.getLast? with
 |none=>
  exact ⟨O4 _ _,fun q hq=>by rw [Nz.1 hq];exact ⟨hp,hc⟩⟩
 |some q=>
  have hne:l≠ []:=fun e=>by rw [e] at h;cases h
  have hq:l.getLast hne=q:=by rw [List.getLast?_eq_some_getLast hne] at h;exact Option.some.inj h
  have he:=OA hne
  rw [hq] at he
  have hql:q∈l:=by rw [← hq];exact List.getLast_mem hne
  dsimp only
  split
  ·
   rw [← he] at hs
   obtain ⟨s1,_,s3⟩:=Oj.1 hs
   refine ⟨Oj.2 ⟨s1,O4 _ _,fun a ha b hb=> ?_⟩,fun a ha=> ?_⟩
   ·
    rw [Nz.1 hb]
    exact s3 a ha q (Nz.2 rfl)
   ·
    rcases Nu.1 ha with ha|ha
    ·
     have:=hl a (List.dropLast_subset l ha);omega
    ·
     rw [Nz.1 ha]
     have:=hl q hql;simp only;omega
  ·
   refine ⟨Oj.2 ⟨hs,O4 _ _,fun a ha b hb=> ?_⟩,fun a ha=> ?_⟩
   ·
    rw [Nz.1 hb]
    have:=hl a ha
    exact .inr ⟨by omega,this.2⟩
   ·
    rcases Nu.1 ha with ha|ha
    ·
     have:=hl a ha;omega
    ·
     rw [Nz.1 ha];exact ⟨hp,hc⟩
theorem m8 {A B:List Rl} {y:Int × Int} (xs:List (Int × Int)) (hs:xs.Pairwise fun p q=>p.1<q.1):(je A B y xs).Pairwise GJ∧ ∀ q∈je A B y xs,q.rect.r1=y.1∧ ∃ x∈xs,q.rect.c1≤x.1:=by
 induction xs using qy with
 |h0=>exact ⟨.nil,fun q hq=>by cases hq⟩
 |h1 xs x ih=>
  obtain ⟨s1,_,s3⟩:=Oj.1 hs
  obtain ⟨i1,i2⟩:=ih s1
  rw [jZ]
  have:=G5 (l:=je A B y xs) (p:=lG A B y x) (y:=y.1) (c:=x.1) rfl (fun q hq=>by
   obtain ⟨h1,z,hz,h2⟩:=i2 q hq
   have:=s3 z hz x (Nz.2 rfl)
   exact ⟨h1,by show q.rect.c1<x.1;omega⟩) (Od _) i1
  exact ⟨this.1,fun q hq=>⟨(this.2 q hq).1,x,by simp,(this.2 q hq).2⟩⟩
theorem wJ (r:Rct) (A B:List Rl):(dm r A B).Pairwise GJ:=by
 unfold dm
 have hx:(cf r.c1 r.c2 (aU r A++aU r B)).Pairwise fun p q=>p.1<q.1:=by
  refine (oM _ _ _).imp_of_mem fun {p q} hp _ h=> ?_
  have:=dU hp;omega
 have hy:(cf r.r1 r.r2 (aS r A++aS r B)).Pairwise fun p q=>p.1<q.1:=by
  refine (oM _ _ _).imp_of_mem fun {p q} hp _ h=> ?_
  have:=dU hp;omega
 generalize cf r.r1 r.r2 (aS r A++aS r B)=ys at hy
 generalize cf r.c1 r.c2 (aU r A++aU r B)=xs at hx
 induction ys with
 |nil=>exact .nil
 |cons y ys ih=>
  obtain ⟨k1,k2⟩:=Nr.1 hy
  rw [Nc]
  refine Oj.2 ⟨(m8 xs hx).1,ih k2,fun p hp q hq=> ?_⟩
  obtain ⟨z,hz,hq⟩:=NR.1 hq
  have h1:=((m8 (A:=A) (B:=B) (y:=y) xs hx).2 p hp).1
  have h2:=((m8 (A:=A) (B:=B) (y:=z) xs hx).2 q hq).1
  have h3:=k1 z hz
  exact .inl (by omega)
end Go.SL

/-
  Lemmas and walks, put together: Hb S5 S6 Hc G2a G2 Lp K2 Sm L3 La Ra Pl Rb Rd Re Rf Pl2 Rg Rh Pl3 Ri Hd Pg2.
-/
import Derived.Deep.RegionHeld3
import Derived.Shelf.SortM.Plain
import Derived.Shelf.SortM.SortNone
import Derived.Ground.SlgmProg
import Derived.Test.YtljeomidcjpfmaaGreatDoorKb15
set_option linter.unusedSimpArgs false
set_option linter.unusedVariables false
set_option maxRecDepth 20000
namespace Go.SL
open Go Go.Proofs
attribute [local irreducible] W WL WQ WG WA WX WLI WR WT WC WE VOp RW thn blk cutP scp retP retPP endB FnAt FnIn FnP ceP
theorem Inside_at (a b:Rct) (w:World):Pure Tryz.prog 335 [.agg (encR a).toArray,.agg (encR b).toArray] w (.bool (insideR a b)):=by
 refine fn_at Tryz.func335 rfl Tryz.ntmps335 rfl ?_
 have hM:=fun w=>Meet_at a b w
 unfold insideR
 obtain ⟨c,hc⟩: ∃ c,decide ((meetR a b).1=a)=c:=⟨_,rfl⟩
 rw [hc]
 generalize meetR a b=m at hM hc
 obtain ⟨mr,mb⟩:=m
 dsimp only at hM hc ⊢
 cases mb
 ·
  repeat' (first|((with_reducible apply wl_callp);exact rfl;exact rfl;(intro w hm;exact hM w))|refine sT ?_|refine sM fun _=> ?_|(refine sC ?_ ?_<;>intro hb<;>try omega)|fail)
  all_goals first|(exfalso;omega)|((refine rT1 ?_);rfl)|trace_state
 ·
  repeat' (first|((with_reducible apply wl_callp);exact rfl;exact rfl;(intro w hm;exact hM w))|((with_reducible apply wl_v);exact rfl;(with_reducible apply v_eqlR_to hc);exact rfl;exact rfl)|refine sT ?_|refine sM fun _=> ?_|(refine sC ?_ ?_<;>intro hb<;>try omega)|fail)
  all_goals first|(exfalso;omega)|((refine rT1 ?_);rfl)|trace_state
set_option maxHeartbeats 4000000 in
theorem which_at (r:Rct) (L:List Rl) (lv:Value) (w:World) (hl:Reads w lv L.length (L.flatMap encRl)) (hb:L.length≤1000000):Pure Tryz.prog 281 [.agg (encR r).toArray,lv] w (.int .i64 (whichF r L:Int)):=by
 obtain ⟨Al,cl,rfl,hl1,hl2,hl3⟩:=hl
 refine fn_at Tryz.func281 rfl Tryz.ntmps281 rfl ?_
 by_cases h0:L.length=0
 ·
  have e:whichF r L=0:=by rw [whichF,h0];rfl
  rw [e]
  repeat' (first|refine sT ?_|refine sS ?_|refine sJ ?_|refine sM fun _=> ?_|(refine sC ?_ ?_<;>intro hb<;>try omega)|fail)
  rename_i g2
  refine w_loopK [1,2] rfl (fun _:Unit=> [(5,.int .i64 (-1))]) (fun _=> [.box g2 33 (encR r)]) (fun _=>True) (fun _=>0) () trivial (by rw [h0];exact sB) mS ?_
  rintro _ _
  repeat' (first|refine sT ?_|refine sS ?_|refine sJ ?_|refine sM fun _=> ?_|(refine sC ?_ ?_<;>intro hb<;>try omega)|fail)
  all_goals first|(exfalso;omega)|((refine rT1 ?_);rfl)|trace_state
 repeat' (first|refine sT ?_|refine sS ?_|refine sN ?_|refine sM fun _=> ?_|(refine sC ?_ ?_<;>intro hb<;>try omega)|fail)
 rename_i g2
 obtain ⟨gl,ol,rfl,hrl⟩:=hl3 (by omega)
 refine w_loopK [1,2] rfl (fun i:Nat=> [(5,.int .i64 (i:Int))]) (fun _=> [.box g2 33 (encR r)]) (fun i=>i<L.length∧whichF r L=whichN r L (i+1)) (fun i=>i) (L.length - 1) ⟨by omega,by rw [Nat.sub_add_cancel (by omega)];rfl⟩ sB mS ?_
 rintro i ⟨hi,hrec⟩
 rw [whichN,List.getElem?_eq_getElem hi] at hrec
 simp only [Option.map_some,Option.getD_some] at hrec
 have hIn:=fun w=>Inside_at r L[i].rect w
 obtain ⟨h0a,_⟩:=Rl.ro (hrl.elem encRl_len i hi)
 obtain ⟨c,hcc⟩: ∃ c,insideR r L[i].rect=c:=⟨_,rfl⟩
 simp only [hcc] at hIn hrec
 clear hcc
 generalize L[i].rect=x at h0a hIn
 by_cases hi0:i=0
 ·
  subst hi0
  have e:whichF r L=0:=by rw [hrec];cases c<;>rfl
  rw [e]
  repeat' (first|refine sT ?_|refine sS ?_|refine sM fun _=> ?_|(refine sC ?_ ?_<;>intro hb<;>try omega)|fail)
  all_goals first|(exfalso;omega)|((refine rT1 ?_);rfl)|trace_state
 ·
  cases c
  ·
   rw [if_neg (by decide)] at hrec
   repeat' (first|((with_reducible apply wq_v);exact rfl;(with_reducible apply v_indexAddr (j:=i));exact rfl;exact rfl;exact hi)|((with_reducible apply wq_callp (f:=335));exact rfl;exact rfl;(intro w' _;exact hIn w'))|refine sT ?_|refine sS ?_|refine sQ ?_|refine sN ?_|refine sNQ ?_|refine sO ?_|refine sOQ ?_|refine sD ?_|refine sM fun _=> ?_|(refine sC ?_ ?_<;>intro hb<;>try omega)|(refine sCQ ?_ ?_<;>intro hb<;>try omega)|fail)
   all_goals first
    |(exfalso;omega)
    |(refine ⟨i - 1,⟨by omega,by rw [Nat.sub_add_cancel (by omega)];exact hrec⟩,by omega,by exact sB,by exact sB,by exact mS⟩;done)
    |trace_state
  ·
   rw [if_pos rfl] at hrec
   rw [hrec]
   repeat' (first|((with_reducible apply wq_v);exact rfl;(with_reducible apply v_indexAddr (j:=i));exact rfl;exact rfl;exact hi)|((with_reducible apply wq_callp (f:=335));exact rfl;exact rfl;(intro w' _;exact hIn w'))|refine sT ?_|refine sS ?_|refine sQ ?_|refine sN ?_|refine sNQ ?_|refine sO ?_|refine sOQ ?_|refine sD ?_|refine sM fun _=> ?_|(refine sC ?_ ?_<;>intro hb<;>try omega)|(refine sCQ ?_ ?_<;>intro hb<;>try omega)|fail)
   all_goals first|(exfalso;omega)|((refine rT1 ?_);rfl)|trace_state
def gnOk (u:Int) (g:Gn):Bool:=decide (1≤g.fns) && decide (g.fns≤31) && decide (g.to &&& ~~~(allU u).1=0#64) && hasS (allU u).1 g.by_
def gntFrom (u:Int):List Gn→Int→Int × Int
 | [],_=>(0,0)
 |g::L,i=>if rectOk g.rect=false then (i,3) else if gnOk u g=false then (i,2) else gntFrom u L (i+1)
def gntE (u:Int) (L:List Gn):Int × Int:=
 if u<0∨64<u∨u=0 then (0,2) else if 64<L.length then (64,5) else gntFrom u L 0
theorem Gn.ro {w:World} {g o:Nat} {r:Gn} (h:Ro w g o (encGn r)):Ro w g o (encR r.rect)∧Ro w g (o+4) [.int .u8 r.fns]∧Ro w g (o+5) [vS r.to]∧Ro w g (o+6) [.int .i64 r.by_]∧Ro w g (o+7) [.bool r.rev]:=
 ⟨h.take (k:=4),(h.drop (k:=4)).take (k:=1),(h.drop (k:=5)).take (k:=1),(h.drop (k:=6)).take (k:=1),h.drop (k:=7)⟩
set_option maxHeartbeats 4000000 in
theorem gntCheck_at (u:Int) (L:List Gn) (lv:Value) (w:World) (hl:Reads w lv L.length (L.flatMap encGn)):Pure Tryz.prog 74 [.int .i64 u,lv] w (.tuple #[.int .i64 (gntE u L).1,.int .i64 (gntE u L).2]):=by
 obtain ⟨Al,cl,rfl,hl1,hl2,hl3⟩:=hl
 refine fn_at Tryz.func74 rfl Tryz.ntmps74 rfl ?_
 have hA:=fun w=>All_at u w
 unfold gntE
 have hE:(allU u).2=if u<0∨64<u then 3 else 0:=by unfold allU;split<;>rfl
 obtain ⟨sa,has⟩: ∃ sa,sa=(allU u).1:=⟨_,rfl⟩
 rw [← has,hE] at hA
 by_cases h1:u<0∨64<u∨u=0
 ·
  rw [if_pos h1]
  by_cases h2:u<0∨64<u
  ·
   rw [if_pos h2] at hA
   repeat' (first|((with_reducible apply wl_callp);exact rfl;exact rfl;(intro w hm;exact hA w))|refine sT ?_|refine sM fun _=> ?_|(refine sC ?_ ?_<;>intro hb<;>try omega)|fail)
   all_goals first|(exfalso;omega)|((refine rT2 ?_);rfl)|trace_state
  ·
   rw [if_neg h2] at hA
   repeat' (first|((with_reducible apply wl_callp);exact rfl;exact rfl;(intro w hm;exact hA w))|refine sT ?_|refine sM fun _=> ?_|(refine sC ?_ ?_<;>intro hb<;>try omega)|fail)
   all_goals first|(exfalso;omega)|((refine rT2 ?_);rfl)|trace_state
 rw [if_neg h1]
 rw [if_neg (by omega)] at hA
 by_cases h64:64<L.length
 ·
  rw [if_pos h64]
  repeat' (first|((with_reducible apply wl_callp);exact rfl;exact rfl;(intro w hm;exact hA w))|refine sT ?_|refine sM fun _=> ?_|(refine sC ?_ ?_<;>intro hb<;>try omega)|fail)
  all_goals first|(exfalso;omega)|((refine rT2 ?_);rfl)|trace_state
 rw [if_neg h64]
 repeat' (first|((with_reducible apply wl_callp);exact rfl;exact rfl;(intro w hm;exact hA w))|refine sT ?_|refine sM fun _=> ?_|(refine sC ?_ ?_<;>intro hb<;>try omega)|fail)
 all_goals first|(exfalso;omega)|skip
 refine w_loopK [1,6,23,24] rfl (fun i:Nat=> [(25,.int .i64 (i:Int))]) (fun _=> []) (fun i=>i≤L.length∧gntFrom u L 0=gntFrom u (L.drop i) (i:Int)) (fun i=>L.length - i) 0 ⟨Nat.zero_le _,rfl⟩ sB mS ?_
 rintro i ⟨hi,hrec⟩
 by_cases hlt:i<L.length
 ·
  obtain ⟨gl,ol,rfl,hrl⟩:=hl3 (by omega)
  have he1:=hrl.elem encGn_len i hlt
  rw [List.drop_eq_getElem_cons hlt,gntFrom,gnOk,← has] at hrec
  generalize L[i]=r at hrec he1
  have hck:=fun w=>rect_at r.rect w
  have hhs:=fun w=>Has18_at sa r.by_ w
  generalize hasS sa r.by_=hb at hhs hrec
  repeat' (first|((with_reducible apply wl_callp);exact rfl;exact rfl;(intro w hm;exact hck w))|((with_reducible apply wl_callp);exact rfl;exact rfl;(intro w hm;exact hhs w))|((with_reducible apply wl_v);exact rfl;(with_reducible apply v_andNot64 (b:=sa));exact rfl;exact rfl)|((with_reducible apply wl_v);exact rfl;(with_reducible apply v_neq64 (b:=0#64));exact rfl;exact rfl)|refine sT ?_|refine sN ?_|refine sO ?_|refine sM fun _=> ?_|(refine sC ?_ ?_<;>intro hb<;>try omega)|fail)
  all_goals first
   |(exfalso;omega)
   |((refine rT2 ?_);rw [hrec,if_pos (rectE_bad hb)];done)
   |((refine rT2 ?_);rw [hrec,if_neg (rectE_good ‹_›),if_pos (by first|(rw [decide_eq_false (show ¬ (1:Int)≤r.fns by omega)];rfl)|(rw [decide_eq_false (show ¬ r.fns≤(31:Int) by omega),Bool.and_false];rfl)|(rw [decide_eq_false hb,Bool.and_false];rfl)|(rw [hb,Bool.and_false]))];done)
   |(refine ⟨i+1,⟨hlt,by rw [hrec,if_neg (rectE_good ‹_›),if_neg (by simp_all)];rfl⟩,by omega,by exact sB,by exact sB,by exact mS⟩;done)
   |trace_state
 ·
  have e:i=L.length:=by omega
  subst e
  rw [List.drop_length,gntFrom] at hrec
  rw [hrec]
  repeat' (first|refine sT ?_|refine sM fun _=> ?_|(refine sC ?_ ?_<;>intro hb<;>try omega)|fail)
  all_goals first|(exfalso;omega)|((refine rT2 ?_);rfl)|trace_state
end Go.SL
namespace Go.Proofs
open Go Go.Shelf Go.RowKit Go.Lib Go.Sort Go.SL
def cmpI (a b:Int):Int:=if a<b then -1 else if b<a then 1 else 0
def orI (a b c d:Int):Int:=if a≠0 then a else if b≠0 then b else if c≠0 then c else d
def orderRc (a b:Rct):Int:=orI (cmpI a.r1 b.r1) (cmpI a.c1 b.c1) (cmpI a.r2 b.r2) (cmpI a.c2 b.c2)
end Go.Proofs
namespace Go.Proofs
open Go Go.Shelf Go.RowKit Go.Lib Go.Sort Go.SL
def Tryz.sortRc_ren:Go.Shelf.Ren:=⟨fun|6=>205|15=>175|14=>276|28=>239|29=>240|20=>319|21=>320|22=>321|23=>322|24=>323|25=>324|26=>325|27=>326|46=>377|47=>289|48=>290|49=>378|50=>379|57=>401|n=>n,fun|22=>121|24=>33|25=>305|3=>3|39=>119|0=>0|53=>343|55=>34|4=>4|46=>336|45=>335|50=>165|5=>5|9=>9|66=>395|70=>399|76=>451|77=>452|n=>n,fun|n=>n⟩
theorem Tryz.sortRc:Go.Proofs.SlLaysF0.n6 Tryz.prog Tryz.sortRc_ren:={
 mixed:=by kernel_rfl
 f6:=⟨Tryz.f205.name,by decide,Tryz.func205.trans (congrArg some (by kernel_rfl))⟩
 f14:=⟨Tryz.f276.name,by decide,Tryz.func276.trans (congrArg some (by kernel_rfl))⟩
 f15:=Tryz.func175.trans (congrArg some (by kernel_rfl))
 f20:=⟨Tryz.f319.name,by decide,Tryz.func319.trans (congrArg some (by kernel_rfl))⟩
 f21:=⟨Tryz.f320.name,by decide,Tryz.func320.trans (congrArg some (by kernel_rfl))⟩
 f22:=⟨Tryz.f321.name,by decide,Tryz.func321.trans (congrArg some (by kernel_rfl))⟩
 f23:=⟨Tryz.f322.name,by decide,Tryz.func322.trans (congrArg some (by kernel_rfl))⟩
 f24:=⟨Tryz.f323.name,by decide,Tryz.func323.trans (congrArg some (by kernel_rfl))⟩
 f25:=⟨Tryz.f324.name,by decide,Tryz.func324.trans (congrArg some (by kernel_rfl))⟩
 f26:=⟨Tryz.f325.name,by decide,Tryz.func325.trans (congrArg some (by kernel_rfl))⟩
 f27:=⟨Tryz.f326.name,by decide,Tryz.func326.trans (congrArg some (by kernel_rfl))⟩
 f28:=Tryz.func239.trans (congrArg some (by kernel_rfl))
 f29:=Tryz.func240.trans (congrArg some (by kernel_rfl))
 f46:=⟨Tryz.f377.name,by decide,Tryz.func377.trans (congrArg some (by kernel_rfl))⟩
 f47:=Tryz.func289.trans (congrArg some (by kernel_rfl))
 f48:=Tryz.func290.trans (congrArg some (by kernel_rfl))
 f49:=⟨Tryz.f378.name,by decide,Tryz.func378.trans (congrArg some (by kernel_rfl))⟩
 f50:=⟨Tryz.f379.name,by decide,Tryz.func379.trans (congrArg some (by kernel_rfl))⟩
 f57:=⟨Tryz.f401.name,by decide,Tryz.func401.trans (congrArg some (by kernel_rfl))⟩
 t0:=Tryz.underlying0
 a0:=Tryz.isAgg0
 z0:=Tryz.sizeOf0
 v0:=Tryz.zeroValue0
 t3:=Tryz.underlying3
 a3:=Tryz.isAgg3
 z3:=Tryz.sizeOf3
 v3:=Tryz.zeroValue3
 t4:=Tryz.underlying4
 a4:=Tryz.isAgg4
 z4:=Tryz.sizeOf4
 v4:=Tryz.zeroValue4
 t5:=Tryz.underlying5
 a5:=Tryz.isAgg5
 z5:=Tryz.sizeOf5
 v5:=Tryz.zeroValue5
 t9:=Tryz.underlying9
 a9:=Tryz.isAgg9
 z9:=Tryz.sizeOf9
 v9:=Tryz.zeroValue9
 t22:=Tryz.underlying121
 a22:=Tryz.isAgg121
 z22:=Tryz.sizeOf121
 v22:=Tryz.zeroValue121
 t25:=Tryz.underlying305
 a25:=Tryz.isAgg305
 z25:=Tryz.sizeOf305
 v25:=Tryz.zeroValue305
 t39:=Tryz.underlying119
 a39:=Tryz.isAgg119
 z39:=Tryz.sizeOf119
 v39:=Tryz.zeroValue119
 t45:=Tryz.underlying335
 a45:=Tryz.isAgg335
 z45:=Tryz.sizeOf335
 v45:=Tryz.zeroValue335
 t46:=Tryz.underlying336
 a46:=Tryz.isAgg336
 z46:=Tryz.sizeOf336
 v46:=Tryz.zeroValue336
 t50:=Tryz.underlying165
 a50:=Tryz.isAgg165
 z50:=Tryz.sizeOf165
 v50:=Tryz.zeroValue165
 t53:=Tryz.underlying343
 a53:=Tryz.isAgg343
 z53:=Tryz.sizeOf343
 v53:=Tryz.zeroValue343
 t55:=Tryz.underlying34
 a55:=Tryz.isAgg34
 z55:=Tryz.sizeOf34
 v55:=Tryz.zeroValue34
 t66:=Tryz.underlying395
 a66:=Tryz.isAgg395
 z66:=Tryz.sizeOf395
 v66:=Tryz.zeroValue395
 t70:=Tryz.underlying399
 a70:=Tryz.isAgg399
 z70:=Tryz.sizeOf399
 v70:=Tryz.zeroValue399
 t76:=Tryz.underlying451
 a76:=Tryz.isAgg451
 z76:=Tryz.sizeOf451
 v76:=Tryz.zeroValue451
 t77:=Tryz.underlying452
 a77:=Tryz.isAgg452
 z77:=Tryz.sizeOf452
 v77:=Tryz.zeroValue452 }
end Go.Proofs
namespace Go.SL
open Go Go.Proofs Go.Sort Go.Shelf
section
variable {α:Type} [Inhabited α] {enc:α→List Value} {k:Nat}
end
def sortRc (L:List Rct):List Rct:=L.mergeSort fun x y=> !(ltOf orderRc y x)
end Go.SL
namespace Go.Proofs
open Go Go.Shelf Go.RowKit Go.Lib Go.Sort Go.SL
def Tryz.sortIn_ren:Go.Shelf.Ren:=⟨fun|5=>106|8=>175|7=>174|19=>239|20=>240|10=>230|11=>231|12=>232|13=>233|14=>234|15=>235|16=>236|17=>237|18=>238|30=>288|31=>289|32=>290|33=>291|34=>292|35=>277|40=>353|n=>n,fun|23=>90|25=>3|3=>3|32=>119|22=>90|0=>0|44=>343|46=>34|4=>4|36=>336|35=>335|41=>165|5=>5|9=>9|53=>395|57=>399|63=>451|64=>452|n=>n,fun|n=>n⟩
theorem Tryz.sortIn:Go.Proofs.SlLaysM.n5 Tryz.prog Tryz.sortIn_ren:={
 mixed:=by kernel_rfl
 f5:=⟨Tryz.f106.name,by decide,Tryz.func106.trans (congrArg some (by kernel_rfl))⟩
 f7:=⟨Tryz.f174.name,by decide,Tryz.func174.trans (congrArg some (by kernel_rfl))⟩
 f8:=Tryz.func175.trans (congrArg some (by kernel_rfl))
 f10:=⟨Tryz.f230.name,by decide,Tryz.func230.trans (congrArg some (by kernel_rfl))⟩
 f11:=⟨Tryz.f231.name,by decide,Tryz.func231.trans (congrArg some (by kernel_rfl))⟩
 f12:=⟨Tryz.f232.name,by decide,Tryz.func232.trans (congrArg some (by kernel_rfl))⟩
 f13:=⟨Tryz.f233.name,by decide,Tryz.func233.trans (congrArg some (by kernel_rfl))⟩
 f14:=⟨Tryz.f234.name,by decide,Tryz.func234.trans (congrArg some (by kernel_rfl))⟩
 f15:=⟨Tryz.f235.name,by decide,Tryz.func235.trans (congrArg some (by kernel_rfl))⟩
 f16:=⟨Tryz.f236.name,by decide,Tryz.func236.trans (congrArg some (by kernel_rfl))⟩
 f17:=⟨Tryz.f237.name,by decide,Tryz.func237.trans (congrArg some (by kernel_rfl))⟩
 f18:=⟨Tryz.f238.name,by decide,Tryz.func238.trans (congrArg some (by kernel_rfl))⟩
 f19:=Tryz.func239.trans (congrArg some (by kernel_rfl))
 f20:=Tryz.func240.trans (congrArg some (by kernel_rfl))
 f30:=⟨Tryz.f288.name,by decide,Tryz.func288.trans (congrArg some (by kernel_rfl))⟩
 f31:=Tryz.func289.trans (congrArg some (by kernel_rfl))
 f32:=Tryz.func290.trans (congrArg some (by kernel_rfl))
 f33:=⟨Tryz.f291.name,by decide,Tryz.func291.trans (congrArg some (by kernel_rfl))⟩
 f34:=⟨Tryz.f292.name,by decide,Tryz.func292.trans (congrArg some (by kernel_rfl))⟩
 f35:=⟨Tryz.f277.name,by decide,Tryz.func277.trans (congrArg some (by kernel_rfl))⟩
 f40:=⟨Tryz.f353.name,by decide,Tryz.func353.trans (congrArg some (by kernel_rfl))⟩
 t0:=Tryz.underlying0
 a0:=Tryz.isAgg0
 z0:=Tryz.sizeOf0
 v0:=Tryz.zeroValue0
 t3:=Tryz.underlying3
 a3:=Tryz.isAgg3
 z3:=Tryz.sizeOf3
 v3:=Tryz.zeroValue3
 t4:=Tryz.underlying4
 a4:=Tryz.isAgg4
 z4:=Tryz.sizeOf4
 v4:=Tryz.zeroValue4
 t5:=Tryz.underlying5
 a5:=Tryz.isAgg5
 z5:=Tryz.sizeOf5
 v5:=Tryz.zeroValue5
 t9:=Tryz.underlying9
 a9:=Tryz.isAgg9
 z9:=Tryz.sizeOf9
 v9:=Tryz.zeroValue9
 t22:=Tryz.underlying90
 a22:=Tryz.isAgg90
 z22:=Tryz.sizeOf90
 v22:=Tryz.zeroValue90
 t23:=Tryz.underlying90
 a23:=Tryz.isAgg90
 z23:=Tryz.sizeOf90
 v23:=Tryz.zeroValue90
 t25:=Tryz.underlying3
 a25:=Tryz.isAgg3
 z25:=Tryz.sizeOf3
 v25:=Tryz.zeroValue3
 t32:=Tryz.underlying119
 a32:=Tryz.isAgg119
 z32:=Tryz.sizeOf119
 v32:=Tryz.zeroValue119
 t35:=Tryz.underlying335
 a35:=Tryz.isAgg335
 z35:=Tryz.sizeOf335
 v35:=Tryz.zeroValue335
 t36:=Tryz.underlying336
 a36:=Tryz.isAgg336
 z36:=Tryz.sizeOf336
 v36:=Tryz.zeroValue336
 t41:=Tryz.underlying165
 a41:=Tryz.isAgg165
 z41:=Tryz.sizeOf165
 v41:=Tryz.zeroValue165
 t44:=Tryz.underlying343
 a44:=Tryz.isAgg343
 z44:=Tryz.sizeOf343
 v44:=Tryz.zeroValue343
 t46:=Tryz.underlying34
 a46:=Tryz.isAgg34
 z46:=Tryz.sizeOf34
 v46:=Tryz.zeroValue34
 t53:=Tryz.underlying395
 a53:=Tryz.isAgg395
 z53:=Tryz.sizeOf395
 v53:=Tryz.zeroValue395
 t57:=Tryz.underlying399
 a57:=Tryz.isAgg399
 z57:=Tryz.sizeOf399
 v57:=Tryz.zeroValue399
 t63:=Tryz.underlying451
 a63:=Tryz.isAgg451
 z63:=Tryz.sizeOf451
 v63:=Tryz.zeroValue451
 t64:=Tryz.underlying452
 a64:=Tryz.isAgg452
 z64:=Tryz.sizeOf452
 v64:=Tryz.zeroValue452 }
end Go.Proofs
namespace Go.SL
open Go Go.Proofs Go.Sort Go.Shelf
theorem sort1_grown {α:Type} [Inhabited α] {enc:α→Value} (w:World) (g n:Nat) (d:Array α) (os:Array Obj):w.grownBy (grow (putRow enc (Sort.ahead w n) g 0 d) os) (some g):={
 os:=rfl
 tape:=rfl
 output:=rfl
 size:=by
  show w.heap.size≤((w.heap.modify g _)++os).size
  rw [Array.size_append,Array.size_modify]
  omega
 block k hk hne:=by
  show ((w.heap.modify g _)++os)[k]? =_
  rw [Array.getElem?_append_left (by rw [Array.size_modify];exact hk),Array.getElem?_modify,if_neg (fun e=>hne (by rw [e]))] }
theorem sort1_heap {α:Type} [Inhabited α] {enc:α→Value} (w:World) (g n:Nat) (d:Array α) (os:Array Obj) (c:Array Value) (T:TypeId) (fr:Nat × Nat) (h:w.heap[g]? =some (.cells c T fr)):
  (grow (putRow enc (Sort.ahead w n) g 0 d) os).heap[g]? =some (.cells (putCells enc 0 d c) T fr):=by
 have hlt:g<w.heap.size:=(Array.getElem?_eq_some_iff.1 h).1
 show ((w.heap.modify g _)++os)[g]? =_
 rw [Array.getElem?_append_left (by rw [Array.size_modify];exact hlt),Array.getElem?_modify,if_pos rfl,h]
 rfl
theorem put1_cells (L:List Int) (xs junk:List Value) (hl:xs.length=L.length):putCells vInt 0 L.toArray (xs++junk).toArray=(L.map vInt++junk).toArray:=by
 apply Array.ext_getElem?
 intro j
 simp only [putCells,Array.getElem?_mapIdx,List.getElem?_toArray,List.size_toArray,Nat.zero_le,true_and,Nat.zero_add,Nat.sub_zero]
 by_cases hj:j<L.length
 ·
  rw [List.getElem?_append_left (by omega),List.getElem?_append_left (by rw [List.length_map];omega),List.getElem?_map,List.getElem?_eq_getElem (by omega),List.getElem?_eq_getElem hj]
  simp [hj]
 ·
  rw [List.getElem?_append_right (by omega),List.getElem?_append_right (by rw [List.length_map];omega),hl,List.length_map]
  simp [hj]
set_option maxHeartbeats 1000000 in
theorem sortInts_in (L:List Int) (A:Option Nat) (cap:Nat) (hL:L.length≤1000000) (R:List Blk) (w0:World):
  FnIn Tryz.prog 106 [sl A L.length cap] w0 (.own A 3 1 L.length cap (L.map vInt)::R) fun v H=>v= .tuple #[]∧H= .own A 3 1 L.length cap ((sortI L).map vInt)::R:=by
 have hl:(sortI L).length=L.length:=(sortI_perm L).length_eq
 cases A with
 |none=>
  intro w hm
  obtain ⟨⟨h1,h2,h3,h4⟩,_⟩:=hm.on _ List.mem_cons_self
  obtain ⟨h5,h6⟩:=h4
  have hnil:L= []:=List.length_eq_zero_iff.1 h5
  subst hnil
  subst h6
  have he:sortI []= []:=List.length_eq_zero_iff.1 hl
  refine Calls.mono (AnyM.slices_Sort_int_none Tryz.sortIn none 0 w) ?_
  rintro e w' ⟨rfl,rfl⟩
  exact ⟨_,_,rfl,hm,rfl,by rw [he]⟩
 |some g=>
  intro w hm
  obtain ⟨⟨h1,h2,h3,junk,h4,h5⟩,hkk⟩:=hm.on _ List.mem_cons_self
  have hlt:g<w.heap.size:=(Array.getElem?_eq_some_iff.1 h5).1
  have hH:Holds vInt w g 0 L.toArray:=by
   intro j hj
   simp only [List.size_toArray] at hj
   have hc:(L.map vInt++junk).toArray[j]? =some (vInt L.toArray[j]!):=by
    rw [List.getElem?_toArray,List.getElem?_append_left (by rw [List.length_map];exact hj),List.getElem?_map,List.getElem?_eq_getElem hj]
    simp [hj]
   constructor
   ·
    simp only [World.cell?,Nat.zero_add,h5]
    exact hc
   ·
    simp [World.frozen?,h5]
  have hs:=AnyM.slices_Sort_int Tryz.sortIn g 0 cap L w hH hlt (by omega)
  refine hs.mono ?_
  rintro e w' ⟨rfl,n,os,rfl⟩
  refine ⟨_,_,rfl,hm.upd (sort1_grown _ _ _ _ _) (b' := .own (some g) 3 1 L.length cap ((sortI L).map vInt)) ?_ fun k hk=> .inl hk,rfl,rfl⟩
  refine ⟨by rw [List.length_map,hl,Nat.mul_one],h2,h3,junk,by rw [List.length_append,List.length_map,hl,← Nat.mul_one L.length,← h1,← List.length_append];exact h4,?_⟩
  have h6:=sort1_heap (enc:=vInt) w g n (sortI L).toArray os _ _ _ h5
  rw [put1_cells (sortI L) _ _ (by rw [hl,h1,Nat.mul_one])] at h6
  exact h6
end Go.SL
namespace Go.SL
open Go Go.Proofs
attribute [local irreducible] W WL WQ WG WA WX WLI WR WT WC VOp RW thn blk cutP scp retP retPP endB FnAt FnIn FnP ceP
theorem encEts_one (L:List Et): ∀ u∈L.flatMap encEt,u.oneCell' =true:=by
 intro u hu
 obtain ⟨x,_,hx⟩:=List.mem_flatMap.1 hu
 simp only [encEt,List.mem_cons,List.not_mem_nil,or_false] at hx
 rcases hx with rfl|rfl|rfl<;>rfl
end Go.SL
namespace Go.SL
open Go Go.Proofs
theorem w_le {P:Program} {n:Fr} {w0:World} {Q:Post} {s:Slots} {H:List Blk} {c:Code} {A:Option Nat} {t sz m cap:Nat} {xs:List Value} (hi:In (.own A t sz m cap xs) H) (h:m≤cap→W P n w0 c Q s H):W P n w0 c Q s H:=fun a w hs hmem=>
 h (hmem.on _ hi.mem).1.2.1 a w hs hmem
theorem reads_nil (w:World):Reads w (.slice none 0 0) 0 []:=⟨none,0,rfl,Nat.le_refl _,Nat.zero_le _,fun h=>absurd h (Nat.lt_irrefl 0)⟩
attribute [local irreducible] W WL WQ WG WA WX WLI WR WT WC WE VOp RW thn blk cutP scp retP retPP endB FnAt FnIn FnP ceP
end Go.SL
namespace Go.SL
open Go Go.Proofs
attribute [local irreducible] W WL WQ WG WA WX WLI WR WT WC WE VOp RW thn blk cutP scp retP retPP endB FnAt FnIn FnP ceP
theorem v_sliceLo {P:Program} {w0:World} {s:Slots} {H:List Blk} {ty t e lo m c sz g:Nat} {x xl:Operand} [ht:Und P t (.slice e)] [hz:Size P e sz] (hx:ev s x=some (.slice (some ⟨g,0,none⟩) m c)) (hxl:ev s xl=some (.int .i64 (lo:Nat))) (h1:lo<m) (h2:m≤c):
  VOp P w0 s H (.slice t x (some xl) none none) ty (.slice (some ⟨g,lo*sz,none⟩) (m - lo) (c - lo)):=by
 have h:=v_slice (P:=P) (w0:=w0) (s:=s) (H:=H) (ty:=ty) (t:=t) (lo:=lo) (hi:=m) (x:=x) (xl:=some xl) (xh:=none) hx ⟨_,hxl⟩ rfl (by omega) h2
 rw [if_neg (show ¬ c=lo by omega)] at h
 have ha:(⟨g,0,none⟩:Addr).add (lo*sz)=⟨g,lo*sz,none⟩:=by unfold Addr.add;split<;>simp_all
 rw [Option.map_some,ha] at h
 exact h
theorem v_sliceHi {P:Program} {w0:World} {s:Slots} {H:List Blk} {ty t e hi m c sz:Nat} {A:Option Addr} {x xh:Operand} [ht:Und P t (.slice e)] [hz:Size P e sz] (hx:ev s x=some (.slice A m c)) (hxh:ev s xh=some (.int .i64 (hi:Nat))) (h2:hi≤c):
  VOp P w0 s H (.slice t x none (some xh) none) ty (.slice A hi c):=by
 have h:=v_slice (P:=P) (w0:=w0) (s:=s) (H:=H) (ty:=ty) (t:=t) (lo:=0) (hi:=hi) (x:=x) (xl:=none) (xh:=some xh) hx rfl ⟨_,hxh⟩ (by omega) h2
 have ha:(if c=0 then A else A.map (·.add (0*sz)))=A:=by
  split
  ·
   rfl
  ·
   cases A with
   |none=>rfl
   |some a=>rw [Nat.zero_mul];simp [Addr.add]
 rw [ha] at h
 exact h
theorem refI {L:List Int} {k:Nat} (h:k<L.length):(L.map vInt)[0+k*1]? =some (vInt L[k]):=by
 rw [Nat.zero_add,Nat.mul_one,List.getElem?_map,List.getElem?_eq_getElem h];rfl
theorem refI2 {L:List Int} {a k:Nat} (h:a+k<L.length):(L.map vInt)[a*1+k*1]? =some (vInt L[a+k]):=by
 rw [Nat.mul_one,Nat.mul_one,List.getElem?_map,List.getElem?_eq_getElem h];rfl
set_option maxHeartbeats 4000000 in
theorem CompactI_in (L : List Int) (A : Option Nat) (cap : Nat) (hL : L.length ≤ 1000000) (R : List Blk) (w0 : World) :
    FnIn Tryz.prog 137 [sl A L.length cap] w0 (.own A 3 1 L.length cap (L.map vInt) :: R) fun v H => v = sl A (cmpN L).length cap ∧ H = .own A 3 1 (cmpN L).length cap ((cmpN L).map vInt) :: R := by
  refine fn_in Tryz.func137 rfl Tryz.ntmps137 rfl ?_
  refine w_le (A := A) .hd fun hle => ?_
  by_cases h2 : L.length < 2
  · have hc := cmpN_one (L := L) (by omega)
    repeat' (first | refine sT ?_ | refine sS ?_ | refine sT2 ?_ | refine sN ?_ | refine sM fun _ => ?_ | (refine sC ?_ ?_ <;> intro hb <;> try omega) | fail)
    all_goals first
      | (exfalso; omega)
      | (refine ret1 eIO rfl rfl (.refl _) ?_; rw [hc]; exact ⟨rfl, rfl⟩)
      | trace_state
  · refine w_some (A := A) .hd (by omega) fun g hA => ?_
    subst hA
    repeat' (first | refine sT ?_ | refine sS ?_ | refine sT2 ?_ | refine sN ?_ | refine sM fun _ => ?_ | (refine sC ?_ ?_ <;> intro hb <;> try omega) | fail)
    all_goals first | (exfalso; omega) | skip
    refine w_loopK [0] rfl (fun k : Nat => [(3, .int .i64 (k : Int))]) (fun _ => .own (some g) 3 1 L.length cap (L.map vInt) :: R) (fun k => 1 ≤ k ∧ k ≤ L.length ∧ cmpN (L.take k) = L.take k) (fun k => L.length - k) 1 ⟨Nat.le_refl _, by omega, cmpN_one (by rw [List.length_take]; omega)⟩ sB mS ?_
    rintro k ⟨hk1, hk, hck⟩
    by_cases hlt : k < L.length
    · have hr1 := refI hlt
      have hr2 := refI (L := L) (k := k - 1) (by omega)
      have hst := cmpN_step hlt hk1
      have htk : L.take (k + 1) = L.take k ++ [L[k]] := by rw [List.take_succ_eq_append_getElem hlt]
      obtain ⟨c, hc⟩ : ∃ c, decide (L[k] = L[k - 1]) = c := ⟨_, rfl⟩
      cases c with
      | false =>
        have hne : ¬ L[k] = L[k - 1] := by simpa using hc
        rw [if_neg hne, hck, ← htk] at hst
        repeat' (first | ((with_reducible apply wq_v); exact rfl; (with_reducible apply v_predN); exact rfl; exact rfl; omega; (simp only [maxLen]; omega)) | ((with_reducible apply wq_v); exact rfl; (with_reducible apply v_indexAddr (j := k)); exact rfl; exact rfl; omega) | ((with_reducible apply wq_v); exact rfl; (with_reducible apply v_indexAddr (j := k - 1)); exact rfl; exact rfl; omega) | ((with_reducible apply wq_v); exact rfl; (with_reducible apply v_load_own); exact rfl; exact pK; (first | exact hr1 | exact hr2)) | ((with_reducible apply wq_v); exact rfl; (with_reducible apply v_eqlI_to hc); exact rfl; exact rfl) | refine sT ?_ | refine sS ?_ | refine sQ ?_ | refine sT2 ?_ | refine sQ2 ?_ | refine sN ?_ | refine sNQ ?_ | refine sD ?_ | refine sM fun _ => ?_ | (refine sC ?_ ?_ <;> intro hb <;> try omega) | (refine sCQ ?_ ?_ <;> intro hb <;> try omega) | fail)
        all_goals first
          | (exfalso; omega)
          | (refine ⟨k + 1, ⟨by omega, hlt, hst⟩, by omega, by exact sB, by exact sB, by exact mS⟩; done)
          | trace_state
      | true =>
        have hne : L[k] = L[k - 1] := by simpa using hc
        rw [if_pos hne, hck] at hst
        repeat' (first | ((with_reducible apply wq_v); exact rfl; (with_reducible apply v_predN); exact rfl; exact rfl; omega; (simp only [maxLen]; omega)) | ((with_reducible apply wq_v); exact rfl; (with_reducible apply v_indexAddr (j := k)); exact rfl; exact rfl; omega) | ((with_reducible apply wq_v); exact rfl; (with_reducible apply v_indexAddr (j := k - 1)); exact rfl; exact rfl; omega) | ((with_reducible apply wq_v); exact rfl; (with_reducible apply v_load_own); exact rfl; exact pK; (first | exact hr1 | exact hr2)) | ((with_reducible apply wq_v); exact rfl; (with_reducible apply v_eqlI_to hc); exact rfl; exact rfl) | ((with_reducible apply wl_v); exact rfl; (with_reducible apply v_sliceLo (lo := k)); exact rfl; exact rfl; omega; exact hle) | refine sT ?_ | refine sS ?_ | refine sQ ?_ | refine sT2 ?_ | refine sQ2 ?_ | refine sN ?_ | refine sNQ ?_ | refine sD ?_ | refine sM fun _ => ?_ | (refine sC ?_ ?_ <;> intro hb <;> try omega) | (refine sCQ ?_ ?_ <;> intro hb <;> try omega) | fail)
        all_goals first | (exfalso; omega) | skip
        refine w_loopK [0, 4] rfl (fun y : Nat × Nat × List Int => [(5, .int .i64 (y.1 : Int)), (3, .int .i64 (y.2.1 : Int))]) (fun y => .own (some g) 3 1 L.length cap (y.2.2.map vInt) :: R) (fun y => 1 ≤ y.1 ∧ k + y.1 ≤ L.length ∧ y.2.1 + 1 ≤ k + y.1 ∧ y.2.2.length = L.length ∧ y.2.2.take y.2.1 = cmpN (L.take (k + y.1)) ∧ ∀ j, k + y.1 ≤ j + 1 → y.2.2[j]? = L[j]?) (fun y => L.length - y.1) (1, k, L) ⟨Nat.le_refl _, by omega, Nat.le_refl _, rfl, hst.symm, fun _ _ => rfl⟩ sB mS ?_
        rintro ⟨i, k', ys⟩ ⟨hi1, hi2, hi3, hi4, hi5, hi6⟩
        dsimp only at hi1 hi2 hi3 hi4 hi5 hi6 ⊢
        by_cases hli : k + i < L.length
        · have hy1 : k + i < ys.length := by omega
          have hr3 := refI2 (L := ys) (a := k) (k := i) hy1
          have hr4 := refI2 (L := ys) (a := k) (k := i - 1) (by omega)
          have he1 : ys[k + i] = L[k + i] := by
            have := hi6 (k + i) (by omega)
            rw [List.getElem?_eq_getElem hy1, List.getElem?_eq_getElem hli] at this
            exact Option.some.inj this
          have he2 : ys[k + (i - 1)] = L[k + i - 1] := by
            have := hi6 (k + (i - 1)) (by omega)
            rw [List.getElem?_eq_getElem (by omega), List.getElem?_eq_getElem (by omega)] at this
            rw [Option.some.inj this]
            congr 1
            omega
          rw [he1] at hr3
          rw [he2] at hr4
          have hst2 := cmpN_step hli (by omega)
          obtain ⟨c, hc2⟩ : ∃ c, decide (L[k + i] = L[k + i - 1]) = c := ⟨_, rfl⟩
          cases c with
          | true =>
            rw [if_pos (by simpa using hc2)] at hst2
            repeat' (first | ((with_reducible apply wq_v); exact rfl; (with_reducible apply v_predN); exact rfl; exact rfl; omega; (simp only [maxLen]; omega)) | ((with_reducible apply wq_v); exact rfl; (with_reducible apply v_indexAddr (j := i)); exact rfl; exact rfl; omega) | ((with_reducible apply wq_v); exact rfl; (with_reducible apply v_indexAddr (j := i - 1)); exact rfl; exact rfl; omega) | ((with_reducible apply wq_v); exact rfl; (with_reducible apply v_load_own); exact rfl; exact pK; (first | exact hr3 | exact hr4)) | ((with_reducible apply wq_v); exact rfl; (with_reducible apply v_neqI_to hc2); exact rfl; exact rfl) | refine sT ?_ | refine sS ?_ | refine sQ ?_ | refine sT2 ?_ | refine sQ2 ?_ | refine sN ?_ | refine sNQ ?_ | refine sD ?_ | refine sM fun _ => ?_ | (refine sC ?_ ?_ <;> intro hb <;> try omega) | (refine sCQ ?_ ?_ <;> intro hb <;> try omega) | fail)
            all_goals first
              | (exfalso; omega)
              | (refine ⟨(i + 1, k', ys), ⟨by dsimp only; omega, by dsimp only; omega, by dsimp only; omega, hi4, by dsimp only; rw [hi5, ← Nat.add_assoc, hst2], fun j hj => hi6 j (by omega)⟩, by dsimp only; omega, by exact sB, by exact sB, by exact mS⟩; done)
              | trace_state
          | false =>
            rw [if_neg (by simpa using hc2)] at hst2
            have hput : (ys.map vInt).set (0 + k' * 1) (vInt L[k + i]) = (ys.set k' L[k + i]).map vInt := by rw [Nat.zero_add, Nat.mul_one, List.map_set]
            repeat' (first | ((with_reducible apply wq_v); exact rfl; (with_reducible apply v_predN); exact rfl; exact rfl; omega; (simp only [maxLen]; omega)) | ((with_reducible apply wq_v); exact rfl; (with_reducible apply v_indexAddr (j := i)); exact rfl; exact rfl; omega) | ((with_reducible apply wq_v); exact rfl; (with_reducible apply v_indexAddr (j := i - 1)); exact rfl; exact rfl; omega) | ((with_reducible apply wq_v); exact rfl; (with_reducible apply v_load_own); exact rfl; exact pK; (first | exact hr3 | exact hr4)) | ((with_reducible apply wq_v); exact rfl; (with_reducible apply v_neqI_to hc2); exact rfl; exact rfl) | ((with_reducible apply wl_v (d := 49)); exact rfl; (with_reducible apply v_indexAddr (j := i)); exact rfl; exact rfl; omega) | ((with_reducible apply wl_v (d := 51)); exact rfl; (with_reducible apply v_indexAddr (j := k')); exact rfl; exact rfl; omega) | ((with_reducible apply wl_v); exact rfl; (with_reducible apply v_load_own); exact rfl; exact pK; exact hr3) | ((with_reducible apply wl_store_own (v := vInt L[k + i]) (off := 0 + k' * 1)); exact rfl; exact rfl; exact pK; exact rfl; (rw [List.length_map, hi4]; omega); rw [hput]) | refine sT ?_ | refine sS ?_ | refine sQ ?_ | refine sT2 ?_ | refine sQ2 ?_ | refine sN ?_ | refine sNQ ?_ | refine sD ?_ | refine sM fun _ => ?_ | (refine sC ?_ ?_ <;> intro hb <;> try omega) | (refine sCQ ?_ ?_ <;> intro hb <;> try omega) | fail)
            all_goals first
              | (exfalso; omega)
              | (refine ⟨(i + 1, k' + 1, ys.set k' L[k + i]), ⟨by dsimp only; omega, by dsimp only; omega, by dsimp only; omega, by dsimp only; rw [List.length_set, hi4], ?_, fun j hj => ?_⟩, by dsimp only; omega, by exact sB, by exact sB, by exact mS⟩
                 · dsimp only
                   rw [List.take_succ_eq_append_getElem (by rw [List.length_set]; omega), List.take_set_of_le (Nat.le_refl _), hi5, List.getElem_set_self, ← Nat.add_assoc, hst2]
                 · dsimp only at hj ⊢
                   rw [List.getElem?_set_ne (by omega)]
                   exact hi6 j (by omega))
              | trace_state
        · have hli2 : k + i = L.length := by omega
          rw [hli2, List.take_length] at hi5
          have hcl : (cmpN L).length = k' := by rw [← hi5, List.length_take, hi4]; omega
          have hk'L : k' < L.length := by omega
          repeat' (first | ((with_reducible apply wl_v); exact rfl; (with_reducible apply v_sliceLo (lo := k')); exact rfl; exact rfl; omega; exact hle) | ((with_reducible apply wl_clear (sz := 1) (k := k') (n' := L.length)); exact rfl; omega; exact pK; (intro u hu; simp [Value.cells] at hu; subst hu; rfl); exact rfl) | ((with_reducible apply wl_v); exact rfl; (with_reducible apply v_sliceHi (hi := k')); exact rfl; exact rfl; omega) | refine sT ?_ | refine sS ?_ | refine sT2 ?_ | refine sN ?_ | refine sM fun _ => ?_ | (refine sC ?_ ?_ <;> intro hb <;> try omega) | fail)
          all_goals first
            | (exfalso; omega)
            | (refine ret1 eIO rfl rfl (H' := .own (some g) 3 1 k' cap ((ys.map vInt).take (k' * 1)) :: R) mS ?_
               rw [Nat.mul_one, ← List.map_take, hi5, hcl]
               exact ⟨rfl, rfl⟩)
            | trace_state
    · have hkl : k = L.length := by omega
      rw [hkl, List.take_length] at hck
      repeat' (first | refine sT ?_ | refine sS ?_ | refine sT2 ?_ | refine sN ?_ | refine sM fun _ => ?_ | (refine sC ?_ ?_ <;> intro hb <;> try omega) | fail)
      all_goals first
        | (exfalso; omega)
        | (refine ret1 eIO rfl rfl (.refl _) ?_; rw [hck]; exact ⟨rfl, rfl⟩)
        | trace_state
end Go.SL
namespace Go.SL
open Go
theorem whichF_lt {r:Rct} {L:List Rl} (h:L≠ []):whichF r L<L.length:=by
 have:=whichN_lt r L L.length
 have h2:0<L.length:=List.length_pos_iff.2 h
 unfold whichF;omega
theorem rectOk_sides {r:Rct}:rectOk r=true↔1≤r.c1∧r.c1≤r.c2∧r.c2≤1024∧1≤r.r1∧r.r1≤r.r2∧r.r2≤1024:=by
 unfold rectOk valid
 simp only [Bool.and_eq_true,decide_eq_true_eq]
 omega
structure CellOf (r:Rct) (A B:List Rl) (y x:Int × Int):Prop where
 row:y∈bandsF r.r1 r.r2 (rowsOf r A++rowsOf r B)
 col:x∈bandsF r.c1 r.c2 (colsOf r A++colsOf r B)
def gridR (y x:Int × Int):Rct:=⟨x.1,y.1,x.2,y.2⟩
theorem snocRec {α:Type} {p:List α→Prop} (h0:p []) (h1: ∀ l a,p l→p (l++ [a])) (l:List α):p l:=by
 have h: ∀ m:List α,p m.reverse:=fun m=>by
  induction m with
  |nil=>exact h0
  |cons a m ih=>rw [List.reverse_cons];exact h1 _ _ ih
 have:=h l.reverse
 rwa [List.reverse_reverse] at this
theorem grow_a {l:List Pz} {p:Pz} {k:Nat}:k∈(growZ l p).map (·.a)↔k∈l.map (·.a)∨k=p.a:=by
 unfold growZ
 cases h:l.getLast? with
 |none=>
  rw [List.getLast?_eq_none_iff.1 h];simp
 |some q=>
  have hne:l≠ []:=fun e=>by rw [e] at h;cases h
  have hq:l.getLast hne=q:=by rw [List.getLast?_eq_some_getLast hne] at h;exact Option.some.inj h
  have he:=List.dropLast_concat_getLast hne
  rw [hq] at he
  dsimp only
  split
  ·
   rename_i hs
   rw [List.map_append,List.mem_append]
   conv=>rhs;rw [← he]
   rw [List.map_append,List.mem_append]
   simp only [List.map_cons,List.map_nil,List.mem_singleton]
   rw [← hs.1]
   exact ⟨.inl,fun h=>h.elim id .inr⟩
  ·
   rw [List.map_append,List.mem_append];simp
theorem row_a {A B:List Rl} {y:Int × Int} {k:Nat} (xs:List (Int × Int)):k∈(rowZ A B y xs).map (·.a)↔ ∃ x∈xs,k=(partOf A B y x).a:=by
 induction xs using snocRec with
 |h0=>simp [rowZ]
 |h1 xs x ih=>
  rw [rowZ_snoc,grow_a,ih]
  simp only [List.mem_append,List.mem_singleton]
  constructor
  ·
   rintro (⟨z,hz,h⟩|h)
   ·
    exact ⟨z,.inl hz,h⟩
   ·
    exact ⟨x,.inr rfl,h⟩
  ·
   rintro ⟨z,hz|rfl,h⟩
   ·
    exact .inl ⟨z,hz,h⟩
   ·
    exact .inr h
theorem parts_a {r:Rct} {A B:List Rl} {k:Nat}:k∈(partsF r A B).map (·.a)↔ ∃ y x,CellOf r A B y x∧k=(partOf A B y x).a:=by
 unfold partsF
 rw [List.map_flatMap,List.mem_flatMap]
 constructor
 ·
  rintro ⟨y,hy,h⟩
  obtain ⟨x,hx,h2⟩:=(row_a _).1 h
  exact ⟨y,x,⟨hy,hx⟩,h2⟩
 ·
  rintro ⟨y,x,h,h2⟩
  exact ⟨y,h.row,(row_a _).2 ⟨x,h.col,h2⟩⟩
def ltPz (p q:Pz):Prop:=p.rect.r1<q.rect.r1∨(p.rect.r1=q.rect.r1∧p.rect.c1<q.rect.c1)
theorem grow_row {l:List Pz} {p:Pz} {y c:Int} (hp:p.rect.r1=y) (hl: ∀ q∈l,q.rect.r1=y∧q.rect.c1<p.rect.c1) (hc:p.rect.c1≤c) (hs:l.Pairwise ltPz):(growZ l p).Pairwise ltPz∧ ∀ q∈growZ l p,q.rect.r1=y∧q.rect.c1≤c:=by
 unfold growZ
 cases h:l.getLast? with
 |none=>
  exact ⟨List.pairwise_singleton _ _,fun q hq=>by rw [List.mem_singleton.1 hq];exact ⟨hp,hc⟩⟩
 |some q=>
  have hne:l≠ []:=fun e=>by rw [e] at h;cases h
  have hq:l.getLast hne=q:=by rw [List.getLast?_eq_some_getLast hne] at h;exact Option.some.inj h
  have he:=List.dropLast_concat_getLast hne
  rw [hq] at he
  have hql:q∈l:=by rw [← hq];exact List.getLast_mem hne
  dsimp only
  split
  ·
   rw [← he] at hs
   obtain ⟨s1,_,s3⟩:=List.pairwise_append.1 hs
   refine ⟨List.pairwise_append.2 ⟨s1,List.pairwise_singleton _ _,fun a ha b hb=> ?_⟩,fun a ha=> ?_⟩
   ·
    rw [List.mem_singleton.1 hb]
    exact s3 a ha q (List.mem_singleton.2 rfl)
   ·
    rcases List.mem_append.1 ha with ha|ha
    ·
     have:=hl a (List.dropLast_subset l ha);omega
    ·
     rw [List.mem_singleton.1 ha]
     have:=hl q hql;simp only;omega
  ·
   refine ⟨List.pairwise_append.2 ⟨hs,List.pairwise_singleton _ _,fun a ha b hb=> ?_⟩,fun a ha=> ?_⟩
   ·
    rw [List.mem_singleton.1 hb]
    have:=hl a ha
    exact .inr ⟨by omega,this.2⟩
   ·
    rcases List.mem_append.1 ha with ha|ha
    ·
     have:=hl a ha;omega
    ·
     rw [List.mem_singleton.1 ha];exact ⟨hp,hc⟩
theorem row_sorted {A B:List Rl} {y:Int × Int} (xs:List (Int × Int)) (hs:xs.Pairwise fun p q=>p.1<q.1):(rowZ A B y xs).Pairwise ltPz∧ ∀ q∈rowZ A B y xs,q.rect.r1=y.1∧ ∃ x∈xs,q.rect.c1≤x.1:=by
 induction xs using snocRec with
 |h0=>exact ⟨.nil,fun q hq=>by cases hq⟩
 |h1 xs x ih=>
  obtain ⟨s1,_,s3⟩:=List.pairwise_append.1 hs
  obtain ⟨i1,i2⟩:=ih s1
  rw [rowZ_snoc]
  have:=grow_row (l:=rowZ A B y xs) (p:=partOf A B y x) (y:=y.1) (c:=x.1) rfl (fun q hq=>by
   obtain ⟨h1,z,hz,h2⟩:=i2 q hq
   have:=s3 z hz x (List.mem_singleton.2 rfl)
   exact ⟨h1,by show q.rect.c1<x.1;omega⟩) (Int.le_refl _) i1
  exact ⟨this.1,fun q hq=>⟨(this.2 q hq).1,x,by simp,(this.2 q hq).2⟩⟩
theorem parts_sorted (r:Rct) (A B:List Rl):(partsF r A B).Pairwise ltPz:=by
 unfold partsF
 have hx:(bandsF r.c1 r.c2 (colsOf r A++colsOf r B)).Pairwise fun p q=>p.1<q.1:=by
  refine (bands_sorted _ _ _).imp_of_mem fun {p q} hp _ h=> ?_
  have:=bands_mem hp;omega
 have hy:(bandsF r.r1 r.r2 (rowsOf r A++rowsOf r B)).Pairwise fun p q=>p.1<q.1:=by
  refine (bands_sorted _ _ _).imp_of_mem fun {p q} hp _ h=> ?_
  have:=bands_mem hp;omega
 generalize bandsF r.r1 r.r2 (rowsOf r A++rowsOf r B)=ys at hy
 generalize bandsF r.c1 r.c2 (colsOf r A++colsOf r B)=xs at hx
 induction ys with
 |nil=>exact .nil
 |cons y ys ih=>
  obtain ⟨k1,k2⟩:=List.pairwise_cons.1 hy
  rw [List.flatMap_cons]
  refine List.pairwise_append.2 ⟨(row_sorted xs hx).1,ih k2,fun p hp q hq=> ?_⟩
  obtain ⟨z,hz,hq⟩:=List.mem_flatMap.1 hq
  have h1:=((row_sorted (A:=A) (B:=B) (y:=y) xs hx).2 p hp).1
  have h2:=((row_sorted (A:=A) (B:=B) (y:=z) xs hx).2 q hq).1
  have h3:=k1 z hz
  exact .inl (by omega)
end Go.SL

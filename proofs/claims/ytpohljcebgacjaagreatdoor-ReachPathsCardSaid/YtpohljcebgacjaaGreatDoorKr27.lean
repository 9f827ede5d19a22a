/-
  Lemmas and walks, put together: Fc S5 S6 D13 G2 Lp K2 Sm L3 La Sl29.
-/
import Derived.LaidMore
import Derived.Lay
import Derived.SevenTiedAt
import Derived.Stop.Joined
import Derived.Deep.RegionHeld3
import Derived.Test.YtpohljcebgacjaaGreatDoorTie
import Derived.Test.YtpohljcebgacjaaGreatDoorCards
import Derived.Test.YtpohljcebgacjaaGreatDoorKr26
set_option linter.unusedSimpArgs false
set_option linter.unusedVariables false
set_option maxRecDepth 20000
namespace Go.SL
open Go Go.Proofs Go.Proofs.YtpohljcebgacjaaGreatDoor Go.ChangeShapes Go.WideShapes Go.ChangeAt Go.RowKit Go.Deep
def wordsU:List (List UInt8):= [[],[35,68,73,86,47,48,33],[35,86,65,76,85,69,33],[35,78,85,77,33],[35,78,47,65],[35,82,69,70,33],[35,67,89,67,76,69,33],[35,68,69,78,73,69,68]]
def laidWs:List (String × DataW Unit):= [("louvre/val.words",Rows.laid_louvre_val_words)]
theorem wordsU_laid:(Rows.laid_louvre_val_words:DataW Unit)= .agg (wordsU.map fun l=> .lit (.string l)):=rfl
theorem wordsU_B:wordsB=wordsU.map fun l=>⟨l.toArray⟩:=rfl
set_option maxRecDepth 100000 in
theorem words_of_laid {W:World} (h:laidMetH Tryz.prog laidWs W):Words W:=by
 rw [MakeChecks.laidMetH_plain _ _ _ (by kernel_rfl)] at h
 obtain ⟨ps,⟨g,t,cs,fuel,p,q,hg,ht,hv,hd,_,_⟩,_⟩:=h
 obtain rfl:=Option.some.inj ((show Tryz.prog.globalNamed "louvre/val.words" =some 0 by kernel_rfl).symm.trans hg)
 obtain rfl:=Option.some.inj ((show (Tryz.prog.globals[0]?).map (·.type)=some 252 by kernel_rfl).symm.trans ht)
 rw [wordsU_laid] at hd
 obtain ⟨xs,m,_,ex,_,hl,hel⟩:=DataW.trod_array Tryz.underlying252 hd
 have cS:Tryz.prog.cellsOf 9=1:=by kernel_rfl
 have hcell: ∀ (j:Nat) (v:Value),(wordsB.map Value.string)[j]? =some v→W.cell? ⟨0,0+j,none⟩=some v:=by
  intro j v hjv
  have hj:j<8:=by
   have:=(List.getElem?_eq_some_iff.1 hjv).1
   simpa [wordsB] using this
  have hE:=hel j hj
  rw [cS,Nat.mul_one,List.getElem?_eq_getElem (by omega)] at hE
  obtain ⟨s,e1,e2,_⟩:=DataW.trod_string Tryz.underlying9 hE
  have e3:(xs.map (·.1))=wordsU.map fun l=> .lit (.string l):=(DataW.agg.inj (Prod.mk.inj ex).1).symm
  have hwl:wordsU.length=8:=rfl
  have e4:(xs.map (·.1))[j]? =(wordsU.map fun l=>(DataW.lit (.string l):DataW Unit))[j]? :=by rw [e3]
  obtain ⟨u,hu⟩: ∃ u,wordsU[j]? =some u:=⟨_,List.getElem?_eq_getElem (by rw [hwl];exact hj)⟩
  rw [List.getElem?_map,List.getElem?_map,List.getElem?_eq_getElem (by omega:j<xs.length),hu,e2] at e4
  simp only [Option.map_some,Option.some.injEq,DataW.lit.injEq,Lit.string.injEq] at e4
  have hs:s=⟨u.toArray⟩:=by
   obtain ⟨d⟩:=s
   subst e4
   rfl
  have hvv:v= .string s:=by
   rw [wordsU_B,List.map_map,List.getElem?_map,hu] at hjv
   simp only [Option.map_some,Option.some.injEq,Function.comp] at hjv
   rw [← hjv,hs]
  rw [hvv,Nat.zero_add,World.var?_cell hg hv j]
  have:cs.toList[j]? =some (.string s):=by
   have h0:((cs.toList.drop j).take 1)[0]? =some (.string s):=by rw [e1];rfl
   simpa using h0
  simpa using this
 refine ⟨?_,hcell⟩
 have h5:=hcell 0 _ rfl
 simp only [World.cell?] at h5
 split at h5
 ·
  rename_i h6
  exact (Array.getElem?_eq_some_iff.1 h6).1
 ·
  cases h5
end Go.SL
namespace Go.Proofs
open Go Go.Shelf Go.RowKit Go.Lib Go.Sort Go.SL
set_option maxHeartbeats 1000000 in
theorem Tryz.rorderX (a b:Rf) (W:World):Calls Tryz.prog 129 #[.agg #[.int .i64 a.col,.int .i64 a.row],.agg #[.int .i64 b.col,.int .i64 b.row]] W fun e w' =>e= .returned (.int .i64 (orderF a b))∧ ∃ q os',w' =grow (W.drewN q) os' :=by
 unfold orderF
 have c1: ∀ q os,(grow (((W.alloc (Obj.cells #[Value.int IntKind.i64 a.col,Value.int IntKind.i64 a.row] 38)).alloc (Obj.cells #[Value.int IntKind.i64 b.col,Value.int IntKind.i64 b.row] 38)).drewN q) os).cell? ⟨W.heap.size,0,none⟩=some (.int .i64 a.col):=fun q os=>by
  refine cell_grown (by show W.heap.size<((W.heap.push _).push _).size;rw [Array.size_push,Array.size_push];omega) ?_ q os
  have e: ∀ o1 o2:Obj,((W.alloc o1).alloc o2).heap[W.heap.size]? =some o1:=fun o1 o2=>by
   show ((W.heap.push o1).push o2)[W.heap.size]? =_
   rw [Array.getElem?_push,if_neg (by rw [Array.size_push];omega),Array.getElem?_push,if_pos rfl]
  simp only [World.cell?,e]
  rfl
 have c2: ∀ q os,(grow (((W.alloc (Obj.cells #[Value.int IntKind.i64 a.col,Value.int IntKind.i64 a.row] 38)).alloc (Obj.cells #[Value.int IntKind.i64 b.col,Value.int IntKind.i64 b.row] 38)).drewN q) os).cell? ⟨W.heap.size,1,none⟩=some (.int .i64 a.row):=fun q os=>by
  refine cell_grown (by show W.heap.size<((W.heap.push _).push _).size;rw [Array.size_push,Array.size_push];omega) ?_ q os
  have e: ∀ o1 o2:Obj,((W.alloc o1).alloc o2).heap[W.heap.size]? =some o1:=fun o1 o2=>by
   show ((W.heap.push o1).push o2)[W.heap.size]? =_
   rw [Array.getElem?_push,if_neg (by rw [Array.size_push];omega),Array.getElem?_push,if_pos rfl]
  simp only [World.cell?,e]
  rfl
 have c3: ∀ q os,(grow (((W.alloc (Obj.cells #[Value.int IntKind.i64 a.col,Value.int IntKind.i64 a.row] 38)).alloc (Obj.cells #[Value.int IntKind.i64 b.col,Value.int IntKind.i64 b.row] 38)).drewN q) os).cell? ⟨W.heap.size+1,0,none⟩=some (.int .i64 b.col):=fun q os=>by
  refine cell_grown (by show W.heap.size+1<((W.heap.push _).push _).size;rw [Array.size_push,Array.size_push];omega) ?_ q os
  have e: ∀ o1 o2:Obj,((W.alloc o1).alloc o2).heap[W.heap.size+1]? =some o2:=fun o1 o2=>by
   show ((W.heap.push o1).push o2)[W.heap.size+1]? =_
   rw [Array.getElem?_push,if_pos (by rw [Array.size_push])]
  simp only [World.cell?,e]
  rfl
 have c4: ∀ q os,(grow (((W.alloc (Obj.cells #[Value.int IntKind.i64 a.col,Value.int IntKind.i64 a.row] 38)).alloc (Obj.cells #[Value.int IntKind.i64 b.col,Value.int IntKind.i64 b.row] 38)).drewN q) os).cell? ⟨W.heap.size+1,1,none⟩=some (.int .i64 b.row):=fun q os=>by
  refine cell_grown (by show W.heap.size+1<((W.heap.push _).push _).size;rw [Array.size_push,Array.size_push];omega) ?_ q os
  have e: ∀ o1 o2:Obj,((W.alloc o1).alloc o2).heap[W.heap.size+1]? =some o2:=fun o1 o2=>by
   show ((W.heap.push o1).push o2)[W.heap.size+1]? =_
   rw [Array.getElem?_push,if_pos (by rw [Array.size_push])]
  simp only [World.cell?,e]
  rfl
 go_enter Tryz.func129,Tryz.ntmps129
 go_wp2_with (go_at_call 113;refine (Tryz.lessX _ _ _).mono ?_;rintro e w' ⟨rfl,q,os,rfl⟩)
 all_goals
  go_ret
  exact ⟨rfl,by first|exact (((Lays.refl W).alloc _).alloc _).grow _ _|exact ((((Lays.refl W).alloc _).alloc _).grow _ _).grow _ _⟩
def cmpI (a b:Int):Int:=if a<b then -1 else if b<a then 1 else 0
set_option maxHeartbeats 1000000 in
theorem Tryz.nanX (a:Int) (W:World):Calls Tryz.prog 132 #[.int .i64 a] W fun e w' =>e= .returned (.bool false)∧w' =W:=by
 go_enter Tryz.func132,Tryz.ntmps132
 go_wp2
 all_goals
  go_ret
  exact ⟨by simp,rfl⟩
set_option maxHeartbeats 1000000 in
theorem Tryz.cmpX (a b:Int) (W:World):Calls Tryz.prog 96 #[.int .i64 a,.int .i64 b] W fun e w' =>e= .returned (.int .i64 (cmpI a b))∧w' =W:=by
 unfold cmpI
 go_enter Tryz.func96,Tryz.ntmps96
 go_wp2_with (go_at_call 132;refine (Tryz.nanX _ _).mono ?_;rintro e w' ⟨rfl,rfl⟩)
 all_goals
  go_ret
  exact ⟨by first|rfl|(repeat' split)<;>first|rfl|omega,rfl⟩
def orI (a b c d:Int):Int:=if a≠0 then a else if b≠0 then b else if c≠0 then c else d
set_option maxHeartbeats 1000000 in
theorem Tryz.orX (x0 x1 x2 x3 : Int) (g c : Nat) (W : World) (h0 : W.cell? ⟨g, 0, none⟩ = some (.int .i64 x0)) (h1 : W.cell? ⟨g, 1, none⟩ = some (.int .i64 x1)) (h2 : W.cell? ⟨g, 2, none⟩ = some (.int .i64 x2)) (h3 : W.cell? ⟨g, 3, none⟩ = some (.int .i64 x3)) :
    Calls Tryz.prog 95 #[.slice (some ⟨g, 0, none⟩) 4 c] W fun e w' => e = .returned (.int .i64 (orI x0 x1 x2 x3)) ∧ w' = W := by
  unfold orI
  go_enter Tryz.func95, Tryz.ntmps95
  go_wp2
  refine wp_loop_rounds 5 ?_
  rw [rounds_succ]
  go_wp2
  all_goals first
    | (rw [rounds_succ]; go_wp2)
    | skip
  all_goals first
    | (rw [rounds_succ]; go_wp2)
    | skip
  all_goals first
    | (rw [rounds_succ]; go_wp2)
    | skip
  all_goals first
    | (rw [rounds_succ]; go_wp2)
    | skip
  all_goals first
    | (go_ret
       exact ⟨by first | rfl | (congr 2; simp_all; done), rfl⟩)
    | trace_state
theorem Lays.drew {W X:World} (h:Lays W X):Lays W X.drew:=by
 obtain ⟨q,os,rfl⟩:=h
 exact ⟨q+1,os,rfl⟩
theorem newCell (W:World) (cs:Array Value) (T:TypeId) {g j:Nat} {v:Value} (hg:g=W.heap.size) (hv:cs[j]? =some v):(W.alloc (Obj.cells cs T)).cell? ⟨g,j,none⟩=some v:=by
 subst hg
 have e:(W.alloc (Obj.cells cs T)).heap[W.heap.size]? =some (Obj.cells cs T):=by
  show (W.heap.push _)[W.heap.size]? =_
  rw [Array.getElem?_push,if_pos rfl]
 simp only [World.cell?,e]
 exact hv
def orderRc (a b:Rct):Int:=orI (cmpI a.r1 b.r1) (cmpI a.c1 b.c1) (cmpI a.r2 b.r2) (cmpI a.c2 b.c2)
set_option maxHeartbeats 4000000 in
theorem Tryz.leavesX (a b:Rct) (W:World):Calls Tryz.prog 94 #[.agg #[.int .i64 a.c1,.int .i64 a.r1,.int .i64 a.c2,.int .i64 a.r2],.agg #[.int .i64 b.c1,.int .i64 b.r1,.int .i64 b.c2,.int .i64 b.r2]] W fun e w' =>e= .returned (.int .i64 (orderRc a b))∧ ∃ q os',w' =grow (W.drewN q) os' :=by
 unfold orderRc
 have hor: ∀ (o1 o2:Obj) (T:TypeId),Calls Tryz.prog 95 #[.slice (some ⟨W.heap.size+1+1,0,none⟩) 4 4] (((W.alloc o1).alloc o2).alloc (Obj.cells #[.int .i64 (cmpI a.r1 b.r1),.int .i64 (cmpI a.c1 b.c1),.int .i64 (cmpI a.r2 b.r2),.int .i64 (cmpI a.c2 b.c2)] T)).drew fun e w' =>e= .returned (.int .i64 (orI (cmpI a.r1 b.r1) (cmpI a.c1 b.c1) (cmpI a.r2 b.r2) (cmpI a.c2 b.c2)))∧w' =(((W.alloc o1).alloc o2).alloc (Obj.cells #[.int .i64 (cmpI a.r1 b.r1),.int .i64 (cmpI a.c1 b.c1),.int .i64 (cmpI a.r2 b.r2),.int .i64 (cmpI a.c2 b.c2)] T)).drew:=fun o1 o2 T=>by
  have hg:W.heap.size+1+1=((W.alloc o1).alloc o2).heap.size:=by
   show _=((W.heap.push o1).push o2).size
   rw [Array.size_push,Array.size_push]
  exact Tryz.orX _ _ _ _ _ _ _ (newCell _ _ _ hg rfl) (newCell _ _ _ hg rfl) (newCell _ _ _ hg rfl) (newCell _ _ _ hg rfl)
 go_enter Tryz.func94,Tryz.ntmps94
 go_wp2
 go_region_held3 (fun w' =>w'.cell? ⟨W.heap.size,0,none⟩=some (.int .i64 a.c1)∧w'.cell? ⟨W.heap.size,1,none⟩=some (.int .i64 a.r1)∧w'.cell? ⟨W.heap.size,2,none⟩=some (.int .i64 a.c2)∧w'.cell? ⟨W.heap.size,3,none⟩=some (.int .i64 a.r2)∧w'.cell? ⟨W.heap.size+1,0,none⟩=some (.int .i64 b.c1)∧w'.cell? ⟨W.heap.size+1,1,none⟩=some (.int .i64 b.r1)∧w'.cell? ⟨W.heap.size+1,2,none⟩=some (.int .i64 b.c2)∧w'.cell? ⟨W.heap.size+1,3,none⟩=some (.int .i64 b.r2)) (go_keep)
  (first|(go_at_call 96;refine (Tryz.cmpX _ _ _).mono ?_;rintro e w' ⟨rfl,rfl⟩)|(go_at_call 95;refine (hor _ _ _).mono ?_;rintro e w' ⟨rfl,rfl⟩))
 all_goals
  go_wp2
 all_goals
  go_ret
  exact ⟨rfl,by first|exact (((((Lays.refl W).alloc _).alloc _).alloc _)).drew|trace_state⟩
end Go.Proofs
namespace Go.Proofs
open Go Go.Shelf Go.RowKit Go.Lib Go.Sort Go.SL
def Tryz.sortRc_ren:Go.Shelf.Ren:=⟨fun|6=>93|15=>112|14=>131|28=>143|29=>144|20=>178|21=>179|22=>180|23=>181|24=>182|25=>183|26=>184|27=>185|46=>220|47=>187|48=>188|49=>221|50=>222|57=>256|n=>n,fun|22=>81|24=>24|25=>151|3=>3|39=>169|0=>0|53=>196|55=>198|4=>4|46=>189|45=>188|50=>193|5=>5|9=>9|66=>235|70=>239|76=>279|77=>280|n=>n,fun|n=>n⟩
theorem Tryz.sortRc:Go.Proofs.SlLaysF0.n6 Tryz.prog Tryz.sortRc_ren:={
 mixed:=by kernel_rfl
 f6:=⟨Tryz.f93.name,by decide,Tryz.func93.trans (congrArg some (by kernel_rfl))⟩
 f14:=⟨Tryz.f131.name,by decide,Tryz.func131.trans (congrArg some (by kernel_rfl))⟩
 f15:=Tryz.func112.trans (congrArg some (by kernel_rfl))
 f20:=⟨Tryz.f178.name,by decide,Tryz.func178.trans (congrArg some (by kernel_rfl))⟩
 f21:=⟨Tryz.f179.name,by decide,Tryz.func179.trans (congrArg some (by kernel_rfl))⟩
 f22:=⟨Tryz.f180.name,by decide,Tryz.func180.trans (congrArg some (by kernel_rfl))⟩
 f23:=⟨Tryz.f181.name,by decide,Tryz.func181.trans (congrArg some (by kernel_rfl))⟩
 f24:=⟨Tryz.f182.name,by decide,Tryz.func182.trans (congrArg some (by kernel_rfl))⟩
 f25:=⟨Tryz.f183.name,by decide,Tryz.func183.trans (congrArg some (by kernel_rfl))⟩
 f26:=⟨Tryz.f184.name,by decide,Tryz.func184.trans (congrArg some (by kernel_rfl))⟩
 f27:=⟨Tryz.f185.name,by decide,Tryz.func185.trans (congrArg some (by kernel_rfl))⟩
 f28:=Tryz.func143.trans (congrArg some (by kernel_rfl))
 f29:=Tryz.func144.trans (congrArg some (by kernel_rfl))
 f46:=⟨Tryz.f220.name,by decide,Tryz.func220.trans (congrArg some (by kernel_rfl))⟩
 f47:=Tryz.func187.trans (congrArg some (by kernel_rfl))
 f48:=Tryz.func188.trans (congrArg some (by kernel_rfl))
 f49:=⟨Tryz.f221.name,by decide,Tryz.func221.trans (congrArg some (by kernel_rfl))⟩
 f50:=⟨Tryz.f222.name,by decide,Tryz.func222.trans (congrArg some (by kernel_rfl))⟩
 f57:=⟨Tryz.f256.name,by decide,Tryz.func256.trans (congrArg some (by kernel_rfl))⟩
 t0:=Tryz.underlying0
 a0:=Tryz.isAgg0
 z0:=Tryz.sizeOf0
 v0:=Tryz.zeroValue0
 t3:=Tryz.underlying3
 a3:=Tryz.isAgg3
 z3:=Tryz.sizeOf3
 v3:=Tryz.zeroValue3
 t4:=Tryz.underlying4
 a4:=Tryz.isAgg4
 z4:=Tryz.sizeOf4
 v4:=Tryz.zeroValue4
 t5:=Tryz.underlying5
 a5:=Tryz.isAgg5
 z5:=Tryz.sizeOf5
 v5:=Tryz.zeroValue5
 t9:=Tryz.underlying9
 a9:=Tryz.isAgg9
 z9:=Tryz.sizeOf9
 v9:=Tryz.zeroValue9
 t22:=Tryz.underlying81
 a22:=Tryz.isAgg81
 z22:=Tryz.sizeOf81
 v22:=Tryz.zeroValue81
 t25:=Tryz.underlying151
 a25:=Tryz.isAgg151
 z25:=Tryz.sizeOf151
 v25:=Tryz.zeroValue151
 t39:=Tryz.underlying169
 a39:=Tryz.isAgg169
 z39:=Tryz.sizeOf169
 v39:=Tryz.zeroValue169
 t45:=Tryz.underlying188
 a45:=Tryz.isAgg188
 z45:=Tryz.sizeOf188
 v45:=Tryz.zeroValue188
 t46:=Tryz.underlying189
 a46:=Tryz.isAgg189
 z46:=Tryz.sizeOf189
 v46:=Tryz.zeroValue189
 t50:=Tryz.underlying193
 a50:=Tryz.isAgg193
 z50:=Tryz.sizeOf193
 v50:=Tryz.zeroValue193
 t53:=Tryz.underlying196
 a53:=Tryz.isAgg196
 z53:=Tryz.sizeOf196
 v53:=Tryz.zeroValue196
 t55:=Tryz.underlying198
 a55:=Tryz.isAgg198
 z55:=Tryz.sizeOf198
 v55:=Tryz.zeroValue198
 t66:=Tryz.underlying235
 a66:=Tryz.isAgg235
 z66:=Tryz.sizeOf235
 v66:=Tryz.zeroValue235
 t70:=Tryz.underlying239
 a70:=Tryz.isAgg239
 z70:=Tryz.sizeOf239
 v70:=Tryz.zeroValue239
 t76:=Tryz.underlying279
 a76:=Tryz.isAgg279
 z76:=Tryz.sizeOf279
 v76:=Tryz.zeroValue279
 t77:=Tryz.underlying280
 a77:=Tryz.isAgg280
 z77:=Tryz.sizeOf280
 v77:=Tryz.zeroValue280 }
theorem cmpI_lt (a b:Int):cmpI a b<0↔a<b:=by unfold cmpI;split<;>(try split)<;>omega
theorem cmpI_ne (a b:Int):cmpI a b≠0↔a≠b:=by unfold cmpI;split<;>(try split)<;>omega
theorem orderRc_lt (x y:Rct):ltOf orderRc x y=decide (x.r1<y.r1∨x.r1=y.r1∧(x.c1<y.c1∨x.c1=y.c1∧(x.r2<y.r2∨x.r2=y.r2∧x.c2<y.c2))):=by
 unfold ltOf orderRc orI
 rw [Bool.eq_iff_iff]
 simp only [decide_eq_true_eq]
 have c1:=cmpI_lt x.r1 y.r1
 have c2:=cmpI_lt x.c1 y.c1
 have c3:=cmpI_lt x.r2 y.r2
 have c4:=cmpI_lt x.c2 y.c2
 have d1:=cmpI_ne x.r1 y.r1
 have d2:=cmpI_ne x.c1 y.c1
 have d3:=cmpI_ne x.r2 y.r2
 repeat' split
 all_goals omega
theorem swoRc:SWO (ltOf orderRc):={
 irrefl x:=by rw [orderRc_lt];simp
 trans x y z h1 h2:=by rw [orderRc_lt] at*;simp only [decide_eq_true_eq] at*;omega
 ntrans x y z h1 h2:=by rw [orderRc_lt] at*;simp only [decide_eq_false_iff_not] at*;omega }
theorem totRc (x y:Rct) (h1:ltOf orderRc x y=false) (h2:ltOf orderRc y x=false):x=y:=by
 rw [orderRc_lt] at h1 h2
 obtain ⟨a,b,c,d⟩:=x
 obtain ⟨e,f,g,h⟩:=y
 simp only [decide_eq_false_iff_not] at h1 h2
 simp
 omega
instance:Inhabited Rct:=⟨⟨0,0,0,0⟩⟩
theorem Tryz.sortRf2_calls (blk off cap:Nat) (d:Array Rf) (w:World) (hH:HoldsK encF 2 w blk off d) (hblk:blk<w.heap.size) (hsz:d.size<4611686018427387904):
  Calls Tryz.prog 67 #[.slice (some ⟨blk,off,none⟩) d.size cap,.func (.func 129) #[] #[]] w fun e w' =>
   e= .returned (.tuple #[])∧ ∃ n os,w' =sortWorldK encF 2 w blk off n (d.toList.mergeSort fun x y=> !(ltOf orderF) y x).toArray os:=by
 have eg: ∀ args w,(callFunc 129 args).run Tryz.prog w= .ok (.enter 129 args) w:=enters_of Tryz.func129 (by kernel_rfl) rfl
 exact AnyQ.slices_SortFunc_total Tryz.sortRf 2 (fun w=>by have h:=Tryz.underlying38;show (isAgg 38).run _ w=_;simp [isAgg,run_underlying h]) (fun w=>by obtain ⟨i,h1,h2⟩:=(inferInstance:Size Tryz.prog 38 2).out;show (Go.sizeOf 38).run _ w=_;simp [Go.sizeOf,typeInfo,h1,h2]) encF (fun _=>rfl) (fun x v hv=>by simp [encF] at hv;rcases hv with rfl|rfl<;>rfl) orderF swoRf 129 #[] blk off cap d w eg (fun _ _ _ _ x y=>Tryz.rorderX x y _) hH hblk hsz totRf
theorem Tryz.sortRc_calls (blk off cap:Nat) (d:Array Rct) (w:World) (hH:HoldsK encR 4 w blk off d) (hblk:blk<w.heap.size) (hsz:d.size<4611686018427387904):
  Calls Tryz.prog 93 #[.slice (some ⟨blk,off,none⟩) d.size cap,.func (.func 94) #[] #[]] w fun e w' =>
   e= .returned (.tuple #[])∧ ∃ n os,w' =sortWorldK encR 4 w blk off n (d.toList.mergeSort fun x y=> !(ltOf orderRc) y x).toArray os:=by
 have eg: ∀ args w,(callFunc 94 args).run Tryz.prog w= .ok (.enter 94 args) w:=enters_of Tryz.func94 (by kernel_rfl) rfl
 exact AnyQ.slices_SortFunc_total Tryz.sortRc 4 (fun w=>by have h:=Tryz.underlying24;show (isAgg 24).run _ w=_;simp [isAgg,run_underlying h]) (fun w=>by obtain ⟨i,h1,h2⟩:=(inferInstance:Size Tryz.prog 24 4).out;show (Go.sizeOf 24).run _ w=_;simp [Go.sizeOf,typeInfo,h1,h2]) encR (fun _=>rfl) (fun x v hv=>by simp [encR] at hv;rcases hv with rfl|rfl|rfl|rfl<;>rfl) orderRc swoRc 94 #[] blk off cap d w eg (fun _ _ _ _ x y=>Tryz.leavesX x y _) hH hblk hsz totRc
end Go.Proofs
namespace Go.SL
open Go Go.Proofs Go.Sort Go.Shelf
section
variable {α:Type} [Inhabited α] {enc:α→List Value} {k:Nat}
theorem flatK_get (hk: ∀ x,(enc x).length=k) (h0:0<k) (L:List α) (j:Nat) (h:j<L.length*k):(L.flatMap enc)[j]? =some ((flatK enc k L.toArray)[j]!):=by
 rw [get_flatK _ _ _ _ (by simpa using h)]
 have h1:j / k<L.length:=Nat.div_lt_of_lt_mul (by rw [Nat.mul_comm];exact h)
 have h2:j % k<k:=Nat.mod_lt _ h0
 have h3:=flat_cell hk L (j / k) (j % k) h1 h2
 rw [show j / k*k+j % k=j by rw [Nat.mul_comm];exact Nat.div_add_mod j k] at h3
 rw [h3]
 have h4:L.toArray[j / k]! =L[j / k]:=by simp [h1]
 rw [h4,List.getElem?_eq_getElem (by rw [hk];exact h2)]
 congr 1
 rw [getElem!_pos _ _ (by rw [hk];exact h2)]
theorem sortG_grown (w:World) (g n:Nat) (d:Array α) (os:Array Obj):w.grownBy (sortWorldK enc k w g 0 n d os) (some g):={
 os:=rfl
 tape:=rfl
 output:=rfl
 size:=by
  show w.heap.size≤((w.heap.modify g _)++os).size
  rw [Array.size_append,Array.size_modify]
  omega
 block k hk hne:=by
  show ((w.heap.modify g _)++os)[k]? =_
  rw [Array.getElem?_append_left (by rw [Array.size_modify];exact hk),Array.getElem?_modify,if_neg (fun e=>hne (by rw [e]))] }
theorem sortG_heap (w:World) (g n:Nat) (d:Array α) (os:Array Obj) (c:Array Value) (T:TypeId) (fr:Nat × Nat) (h:w.heap[g]? =some (.cells c T fr)):
  (sortWorldK enc k w g 0 n d os).heap[g]? =some (.cells (putCells id 0 (flatK enc k d) c) T fr):=by
 have hlt:g<w.heap.size:=(Array.getElem?_eq_some_iff.1 h).1
 show ((w.heap.modify g _)++os)[g]? =_
 rw [Array.getElem?_append_left (by rw [Array.size_modify];exact hlt),Array.getElem?_modify,if_pos rfl,h]
 rfl
theorem putG_cells (hk: ∀ x,(enc x).length=k) (h0:0<k) (L:List α) (xs junk:List Value) (hl:xs.length=L.length*k):putCells id 0 (flatK enc k L.toArray) (xs++junk).toArray=(L.flatMap enc++junk).toArray:=by
 have hfl:(L.flatMap enc).length=L.length*k:=flat_length' hk L
 apply Array.ext_getElem?
 intro j
 simp only [putCells,Array.getElem?_mapIdx,List.getElem?_toArray,size_flatK,List.size_toArray,Nat.zero_le,true_and,Nat.zero_add,Nat.sub_zero]
 by_cases hj:j<L.length*k
 ·
  rw [List.getElem?_append_left (by omega),List.getElem?_append_left (by omega),flatK_get hk h0 L j hj,List.getElem?_eq_getElem (by omega)]
  simp [hj]
 ·
  rw [List.getElem?_append_right (by omega),List.getElem?_append_right (by omega),hl,hfl]
  simp [hj]
theorem sortG_in {F fid T:Nat} {P:Program} (srt:List α→List α) (hk: ∀ x,(enc x).length=k) (h0:0<k) (hlen: ∀ L,(srt L).length=L.length)
  (hs: ∀ (blk off cap:Nat) (d:Array α) (w:World),HoldsK enc k w blk off d→blk<w.heap.size→d.size<4611686018427387904→Calls P F #[.slice (some ⟨blk,off,none⟩) d.size cap,.func (.func fid) #[] #[]] w fun e w' =>e= .returned (.tuple #[])∧ ∃ n os,w' =sortWorldK enc k w blk off n (srt d.toList).toArray os)
  (hn: ∀ (p:Option Addr) (cap:Nat) (fv:Value) (w:World),Calls P F #[.slice p 0 cap,fv] w fun e w' =>e= .returned (.tuple #[])∧w' =w)
  (L:List α) (A:Option Nat) (cap:Nat) (hL:L.length≤1000000) (R:List Blk) (w0:World):
  FnIn P F [sl A L.length cap,.func (.func fid) #[] #[]] w0 (.own A T k L.length cap (L.flatMap enc)::R) fun v H=>v= .tuple #[]∧H= .own A T k L.length cap ((srt L).flatMap enc)::R:=by
 cases A with
 |none=>
  intro w hm
  obtain ⟨⟨h1,h2,h3,h4⟩,_⟩:=hm.on _ List.mem_cons_self
  obtain ⟨h5,h6⟩:=h4
  have hnil:L= []:=List.length_eq_zero_iff.1 h5
  subst hnil
  subst h6
  have he:srt []= []:=List.length_eq_zero_iff.1 (hlen [])
  refine Calls.mono (hn none 0 _ w) ?_
  rintro e w' ⟨rfl,rfl⟩
  exact ⟨_,_,rfl,hm,rfl,by rw [he]⟩
 |some g=>
  intro w hm
  obtain ⟨⟨h1,h2,h3,junk,h4,h5⟩,hkk⟩:=hm.on _ List.mem_cons_self
  have hlt:g<w.heap.size:=(Array.getElem?_eq_some_iff.1 h5).1
  have hH:HoldsK enc k w g 0 L.toArray:=by
   intro j hj
   simp only [size_flatK,List.size_toArray] at hj
   have hc:(L.flatMap enc++junk).toArray[j]? =some (flatK enc k L.toArray)[j]! :=by
    rw [List.getElem?_toArray,List.getElem?_append_left (by omega),flatK_get hk h0 L j hj]
   constructor
   ·
    simp only [World.cell?,Nat.zero_add,h5]
    exact hc
   ·
    simp [World.frozen?,h5]
  have hs:=hs g 0 cap L.toArray w hH hlt (by simp;omega)
  have hsz:L.toArray.size=L.length:=by simp
  rw [hsz] at hs
  refine hs.mono ?_
  rintro e w' ⟨rfl,n,os,rfl⟩
  have hl:=hlen L
  refine ⟨_,_,rfl,hm.upd (sortG_grown _ _ _ _ _) (b' := .own (some g) T k L.length cap ((srt L).flatMap enc)) ?_ fun k hk=> .inl hk,rfl,rfl⟩
  have hfl:((srt L).flatMap enc).length=L.length*k:=by rw [flat_length' hk,hl]
  refine ⟨hfl,h2,h3,junk,by rw [List.length_append,hfl,← h1,← List.length_append];exact h4,?_⟩
  rw [sortG_heap _ _ _ _ _ _ _ _ h5,putG_cells hk h0 (srt L) _ _ (by rw [hl];exact h1)]
end
theorem sortNone_calls (p:Option Addr) (cap:Nat) (fv:Value) (w:World):Calls Tryz.prog 67 #[.slice p 0 cap,fv] w fun e w' =>e= .returned (.tuple #[])∧w' =w:=AnyF.slices_SortFunc_none Tryz.sortRf p cap fv w
theorem sortNoneC_calls (p:Option Addr) (cap:Nat) (fv:Value) (w:World):Calls Tryz.prog 93 #[.slice p 0 cap,fv] w fun e w' =>e= .returned (.tuple #[])∧w' =w:=AnyF.slices_SortFunc_none Tryz.sortRc p cap fv w
theorem sortFuncB_in (L:List Rf) (A:Option Nat) (cap:Nat) (hL:L.length≤1000000) (R:List Blk) (w0:World):
  FnIn Tryz.prog 67 [sl A L.length cap,.func (.func 129) #[] #[]] w0 (.own A 38 2 L.length cap (L.flatMap encF)::R) fun v H=>v= .tuple #[]∧H= .own A 38 2 L.length cap ((sortRf L).flatMap encF)::R:=
 sortG_in sortRf encF_len (by decide) (fun L=>by simp [sortRf]) (fun blk off cap d w h1 h2 h3=>by
  have h:=Tryz.sortRf2_calls blk off cap d w h1 h2 h3
  have heq:(d.toList.mergeSort fun x y=> !(ltOf orderF) y x)=sortRf d.toList:=by simp only [sortRf,orderF_lt]
  rw [heq] at h
  exact h) sortNone_calls L A cap hL R w0
def sortRc (L:List Rct):List Rct:=L.mergeSort fun x y=> !(ltOf orderRc y x)
theorem sortFuncC_in (L:List Rct) (A:Option Nat) (cap:Nat) (hL:L.length≤1000000) (R:List Blk) (w0:World):
  FnIn Tryz.prog 93 [sl A L.length cap,.func (.func 94) #[] #[]] w0 (.own A 24 4 L.length cap (L.flatMap encR)::R) fun v H=>v= .tuple #[]∧H= .own A 24 4 L.length cap ((sortRc L).flatMap encR)::R:=
 sortG_in (enc:=encR) (k:=4) sortRc (fun _=>rfl) (by decide) (fun L=>by simp [sortRc]) (fun blk off cap d w h1 h2 h3=>by
  have h:=Tryz.sortRc_calls blk off cap d w h1 h2 h3
  have heq:(d.toList.mergeSort fun x y=> !(ltOf orderRc) y x)=sortRc d.toList:=rfl
  rw [heq] at h
  exact h) sortNoneC_calls L A cap hL R w0
end Go.SL
namespace Go.SL
open Go Go.Proofs
attribute [local irreducible] W WL WQ WG WA WX WLI WR WT WC VOp RW thn blk cutP scp retP retPP endB FnAt FnP ceP
theorem MSub.mid (A B C:List Blk):MSub (A++C) (A++(B++C)):=⟨B,by
 rw [List.append_assoc]
 exact List.Perm.append_left A List.perm_append_comm⟩
theorem rd_any {f:FuncId} {args:List Value} {w0:World} {B H:List Blk} {φ:Value→Option Nat→Nat→Prop} {t sz n:Nat} {cs:List Value}
  (h: ∀ F,FnIn Tryz.prog f args w0 (B++F) fun v H' => ∃ A cap,φ v A cap∧H' = .own A t sz n cap cs::(B++F)) (hs:MSub B H):
  FnIn Tryz.prog f args w0 H fun v H' => ∃ A cap,φ v A cap∧H' = .own A t sz n cap cs::H:=by
 obtain ⟨F,hp⟩:=hs
 refine ((h F).msub (MSub.of_perm hp)).re ?_
 rintro v H' ⟨A,cap,hv,rfl⟩
 exact ⟨_,MSub.of_perm (hp.symm.cons _),A,cap,hv,rfl⟩
section
variable {R:List Blk} {E:List En} {clock:Nat} {G:Gr} (h:GOk R E clock G) (gg gm:Nat) {H:List Blk} (hs:MSub (gB gg gm (E.map En.m) clock++R) H) (w0:World)
include h hs
theorem GOk.uses_any (c:Rf):FnIn Tryz.prog 21 [.pointer (some ⟨gg,0,none⟩),keyF c] w0 H fun v H' => ∃ A cap,v=sl A (usesG G c).length cap∧H' = .own A 45 6 (usesG G c).length cap ((usesG G c).flatMap encU)::H:=by
 refine rd_any (φ:=fun v A cap=>v=sl A (usesG G c).length cap) (fun F=> ?_) hs
 have h1:=Uses_in gg gm clock E c (R++F) w0 (fun e he=>(h.en e he).sub (MSub.appL R F))
 rw [h.uses] at h1
 rw [List.append_assoc]
 exact h1
variable (hl:G.length≤900)
include hl
theorem GOk.formulas_any:FnIn Tryz.prog 17 [.pointer (some ⟨gg,0,none⟩)] w0 H fun v H' => ∃ A cap,v=sl A (keysG G).length cap∧H' = .own A 38 2 (keysG G).length cap ((keysG G).flatMap encF)::H:=by
 refine rd_any (φ:=fun v A cap=>v=sl A (keysG G).length cap) (fun F=> ?_) hs
 have h1:=Formulas_in gg gm clock (E.map En.m) h.ok (by rw [List.length_map,h.len];omega) (R++F) w0
 rw [h.forms,show (E.map En.m).length=(keysG G).length by rw [List.length_map,h.len,keysG,List.length_map]] at h1
 rw [List.append_assoc]
 exact h1
variable (hG:GrOk G)
include hG
theorem GOk.users_any (r:Rct):FnIn Tryz.prog 16 [.pointer (some ⟨gg,0,none⟩),.agg (encR r).toArray] w0 H fun v H' => ∃ A cap,v=sl A (usersG G r).length cap∧H' = .own A 38 2 (usersG G r).length cap ((usersG G r).flatMap encF)::H:=by
 refine rd_any (φ:=fun v A cap=>v=sl A (usersG G r).length cap) (fun F=> ?_) hs
 have h1:=Users_in gg gm clock E r h.ok (by rw [h.len];omega) (Nat.le_trans (h.allLen hG) (by omega)) (R++F) w0 (fun e he=>(h.en e he).sub (MSub.appL R F))
 rw [h.users] at h1
 rw [List.append_assoc]
 exact h1
end
section
variable {R:List Blk} {Q:List En} {G:Gr} (h:RGOk R Q G) (hl:G.length≤900) (gr:Nat) (Ar:Option Nat) (cr:Nat) {H:List Blk} (hs:MSub (rgB gr Ar cr Q++R) H) (w0:World)
include h hl hs
variable (hG:GrOk G)
include hG
end
structure Gp where
 gg:Nat
 gm:Nat
 E:List En
 clock:Nat
 gr:Nat
 A:Option Nat
 cap:Nat
 Q:List En
 R:List Blk
def Gp.a (x:Gp):List Blk:=gB x.gg x.gm (x.E.map En.m) x.clock
def Gp.b (x:Gp):List Blk:=rgB x.gr x.A x.cap x.Q
def Gp.H (x:Gp):List Blk:=x.a++(x.b++x.R)
def Gp.pa (x:Gp):Value:= .pointer (some ⟨x.gg,0,none⟩)
def Gp.pb (x:Gp):Value:= .pointer (some ⟨x.gr,0,none⟩)
structure Gp.ok (x:Gp) (G:Gr):Prop where
 a:GOk x.R x.E x.clock G
 b:RGOk x.R x.Q G
 g:GrOk G
def Gs.p (x:Gs):Gp:=⟨x.gg,x.gm,x.E,x.clock,x.gr,x.A,x.cap,x.Q,x.R1++x.R2⟩
theorem Gs.p_ok {x:Gs} {G:Gr} (h:x.ok G):x.p.ok G:=⟨h.a.sub (MSub.appL _ _),h.b.sub (MSub.appR _ _),h.g⟩
theorem Gp.subA (x:Gp):MSub (gB x.gg x.gm (x.E.map En.m) x.clock++x.R) x.H:=MSub.mid _ _ _
section
variable (x:Gp) (G:Gr) (h:x.ok G) {H:List Blk} (hs:MSub x.H H) (w0:World)
include h hs
theorem Gp.usesA (c:Rf):FnIn Tryz.prog 21 [x.pa,keyF c] w0 H fun v H' => ∃ A cap,v=sl A (usesG G c).length cap∧H' = .own A 45 6 (usesG G c).length cap ((usesG G c).flatMap encU)::H:=h.a.uses_any x.gg x.gm (MSub.trans x.subA hs) w0 c
variable (hl:G.length≤900)
include hl
theorem Gp.formulas:FnIn Tryz.prog 17 [x.pa] w0 H fun v H' => ∃ A cap,v=sl A (keysG G).length cap∧H' = .own A 38 2 (keysG G).length cap ((keysG G).flatMap encF)::H:=h.a.formulas_any x.gg x.gm (MSub.trans x.subA hs) w0 hl
theorem Gp.users (r:Rct):FnIn Tryz.prog 16 [x.pa,.agg (encR r).toArray] w0 H fun v H' => ∃ A cap,v=sl A (usersG G r).length cap∧H' = .own A 38 2 (usersG G r).length cap ((usersG G r).flatMap encF)::H:=h.a.users_any x.gg x.gm (MSub.trans x.subA hs) w0 hl h.g r
end
end Go.SL
namespace Go.SL
open Go
theorem usesG_len {G:Gr} (h:GrOk G) (c:Rf):(usesG G c).length≤256:=by
 unfold usesG
 cases hl:lookG G c with
 |none=>simp
 |some x=>
  have h1:=h.ent _ ((lookG_some h.sort).1 hl)
  simp only [Option.map_some,Option.getD_some]
  rw [h1.uses]
  exact Nat.le_trans (usesFrom_len _ _) h1.len
end Go.SL
namespace Go.SL
open Go Go.Proofs
attribute [local irreducible] W WL WQ WG WA WX WLI WR WT WC VOp RW thn blk cutP scp retP retPP endB FnAt FnIn FnP ceP
theorem EqualRefs_to {L M:List Rf} (h:L=M) {lv mv:Value} {w:World} (hl:Reads w lv L.length (L.flatMap encF)) (hm:Reads w mv M.length (M.flatMap encF)):Pure Tryz.prog 34 [lv,mv] w (.bool true):=by
 have:=EqualRefs_at L M lv mv w hl hm
 rwa [decide_eq_true h] at this
theorem encRs_one (L:List Rct): ∀ u∈L.flatMap encR,u.oneCell' =true:=by
 intro u hu
 obtain ⟨x,_,hx⟩:=List.mem_flatMap.1 hu
 simp only [encR,List.mem_cons,List.not_mem_nil,or_false] at hx
 rcases hx with rfl|rfl|rfl|rfl<;>rfl
theorem GOk.set_to {R:List Blk} {E:List En} {clock:Nat} {G:Gr} (h:GOk R E clock G) (gg gm:Nat) (F:List Blk) {H:List Blk} (hs:MSub (F++(gB gg gm (E.map En.m) clock++R)) H) {w0:World} (hW:Words w0) {c:Rf} {i:ByteArray} {G' :Gr} {e:Int} (he:setG G c i=(G',e)):
  FnIn Tryz.prog 27 [.pointer (some ⟨gg,0,none⟩),keyF c,.string i] w0 H fun v H' =>v= .int .i64 e∧ ∃ E' clock' R',H' =F++(gB gg gm (E'.map En.m) clock' ++R')∧GOk R' E' clock' G' :=by
 have h1:=Set_inF gg gm clock E G c i R F w0 h hW
 rw [he] at h1
 have hp: ∀ (A B:List Blk),(A++(B++F)).Perm (F++(A++B)):=fun A B=>by
  rw [← List.append_assoc]
  exact List.perm_append_comm
 refine (h1.msub (MSub.trans (MSub.of_perm (hp _ _).symm) hs)).re ?_
 rintro v H' ⟨hv,E',clock',R',rfl,_,hG⟩
 exact ⟨_,MSub.of_perm (hp _ _),hv,E',clock',R',rfl,hG⟩
theorem Example_at (w:World):FnAt Tryz.prog 51 [] w fun v H=> ∃ g,v= .slice (some ⟨g,0,none⟩) 4 4∧H= [.own (some g) 142 3 4 4 (exL.flatMap encEt)]:=by
 refine fn_at Tryz.func51 rfl Tryz.ntmps51 rfl ?_
 repeat' (first|refine sT ?_|refine sS ?_|refine sM fun _=> ?_|(refine sC ?_ ?_<;>intro hb<;>try omega)|fail)
 all_goals exact ret1 eIO rfl rfl (MSub.refl _) ⟨_,rfl,rfl⟩
theorem StartP_at (L:List Pu) (tv:Value) (w:World) (ht:Reads w tv L.length (L.flatMap encPu)) (hW:Words w):
  FnAt Tryz.prog 14 [tv] w fun v H=> ∃ x:Gp,v= .tuple #[.agg #[x.pa,x.pb],.bool true]∧H=x.H∧x.ok (startG L):=
 (Start_at L tv w ht hW).mono fun v H ⟨x,h1,h2,h3⟩=>⟨x.p,h1,h2,Gs.p_ok h3⟩
theorem refF {L:List Rf} {k:Nat} (h:k<L.length):((L.flatMap encF).drop (0+k*2)).take 2=encF L[k]:=by
 rw [Nat.zero_add]
 exact flat_elem encF_len L k h
theorem v_neqb_alike {P:Program} {w0:World} {s:Slots} {H:List Blk} {ty t t' :TypeId} [Und P t .bool] {x y:Operand} {b:Bool} (hx:ev s x=some (.bool b)) (hy:ev s y=some (.bool b)):VOp P w0 s H (.binOp .neq t x y t') ty (.bool false):=by
 have h:=v_neqb (P:=P) (w0:=w0) (s:=s) (H:=H) (ty:=ty) (t:=t) (t' :=t') hx hy
 simpa using h
end Go.SL
namespace Go.SL
open Go Go.RowKit
section
variable {P:Program} {ops:Array Oper} {es ps:List Nat} {C:World→Prop}
theorem AnyE_firsti {Q:Act→World→Prop} {i:Nat} {oi:Oper} (hi:ops[i]? =some oi) (hsel: ∀ (j:Nat) (o:Oper) cs b,ops[j]? =some o→o.op≠ .select cs b)
  (hnb: ∀ x∈es,∀ y,y∈es∨y∈ps→x≠y→(x=i∨y=i)→NotBoth ops x y):
  ∀ (f:Nat) (L:Array Bool) (a:Act) (w:World),ClosedL ops L→C w→
   (∀ j oj,ops[j]? =some oj→j≠i→L.getD j true=false→(∀ e∈oj.after,Region.binds .any e=true→e.on≠i)→oi.apart ops oj=true)→
   i∈Region.ready .any ops L→EOp P ops es ps C (AnyE P ops es ps C Q f (L.setIfInBounds i true)) i oi a w→AnyE P ops es ps C Q (f+1) L a w
 |0,L,a,w,hcl,hC,_,hr,hy=>⟨hC,fun h=>(by rw [h] at hr;cases hr),fun j hj=>by
   by_cases hji:j=i
   ·
    subst hji;exact ⟨oi,hi,hy⟩
   ·
    exfalso
    have hne:=ready_mono hj hji
    have hE: ∃ a' w',AnyE P ops es ps C Q 0 (L.setIfInBounds i true) a' w' :=by
     cases hy with
     |pass _ hk=>exact ⟨_,_,hk⟩
     |quiet _ _ _ _ _ hk=>exact ⟨_,_,hk⟩
     |eff _ _ hk=>obtain ⟨v,w',h⟩:=hk.ex;exact ⟨_,_,h⟩
    obtain ⟨a',w',_,h0,_⟩:=hE
    rw [h0] at hne
    cases hne⟩
 |f+1,L,a,w,hcl,hC,hfree,hr,hy=>⟨hC,fun h=>(by rw [h] at hr;cases hr),fun j hj=>by
   by_cases hji:j=i
   ·
    subst hji;exact ⟨oi,hi,hy⟩
   ·
    have hj' :=ready_mono hj hji
    obtain ⟨hjun,oj,hoj,hall⟩:=mem_ready.1 hj
    have hnot: ∀ e∈oj.after,Region.binds .any e=true→e.on≠i:=fun e he hb heq=>by
     have h1:=hall e he hb
     have h0:=(mem_ready.1 hr).1
     rw [heq] at h1
     rcases Nat.lt_or_ge i L.size with h' |h'
     ·
      simp [h'] at h0 h1;rw [h0] at h1;cases h1
     ·
      simp [Array.getElem?_eq_none h'] at h1
    have hap:=hfree j oj hoj hji hjun hnot
    obtain ⟨h1,h2,h3⟩:=Oper.apart_spec hap
    have hsi:=fun cs b=>hsel i oi cs b hi
    have hsj:=fun cs b=>hsel j oj cs b hoj
    have hej: ∀ v,execOp (a.put oi.dst v).eval oj=execOp a.eval oj:=fun v=>execOp_put oj hsj a oi.dst v h1
    have hwj: ∀ v,Region.wanted oj (yielded ops (a.put oi.dst v).tmps)=Region.wanted oj (yielded ops a.tmps):=fun v=>wanted_put oj a oi.dst v h1
    have hcomm: ∀ v u,(a.put oi.dst v).put oj.dst u=(a.put oj.dst u).put oi.dst v:=fun v u=>Act.put_comm a v u h2
    have hset:(L.setIfInBounds i true).setIfInBounds j true=(L.setIfInBounds j true).setIfInBounds i true:=Array.setIfInBounds_comm _ _ (Ne.symm hji)
    have hfree' : ∀ k ok,ops[k]? =some ok→k≠i→(L.setIfInBounds j true).getD k true=false→
      (∀ e∈ok.after,Region.binds .any e=true→e.on≠i)→oi.apart ops ok=true:=fun k ok hk hki hun hno=>by
     refine hfree k ok hk hki ?_ hno
     by_cases hjk:j=k
     ·
      subst hjk;exact hjun
     ·
      rw [getD_set_ne true hjk] at hun;exact hun
    have ih:=AnyE_firsti (Q:=Q) hi hsel hnb f (L.setIfInBounds j true)
    have hcl' :=hcl.set hj
    have hr' :=ready_mono hr (Ne.symm hji)
    -- what comes of j behind an outcome of i
    have hJ: ∀ v w',AnyE P ops es ps C Q (f+1) (L.setIfInBounds i true) (a.put oi.dst v) w' →EOp P ops es ps C (AnyE P ops es ps C Q f ((L.setIfInBounds j true).setIfInBounds i true)) j oj (a.put oi.dst v) w' :=fun v w' h=>by
     obtain ⟨o,ho,hE⟩:=h.2.2 j hj'
     have e:o=oj:=Option.some.inj (ho.symm.trans hoj)
     subst e
     rw [hset] at hE
     exact hE
    refine ⟨oj,hoj,?_⟩
    have hstill:(∃ v,AnyE P ops es ps C Q (f+1) (L.setIfInBounds i true) (a.put oi.dst v) w∧ ∀ (u:Value) (w2:World) (K' :Act→World→Prop),C w2→(i∈ps→w2=w)→K' ((a.put oj.dst u).put oi.dst v) w2→EOp P ops es ps C K' i oi (a.put oj.dst u) w2)∨
      (Region.wanted oi (yielded ops a.tmps)=true∧i∈es∧NormUp P (fun v w' =>AnyE P ops es ps C Q (f+1) (L.setIfInBounds i true) (a.put oi.dst v) w') ((execOp a.eval oi).run P w)):=by
     cases hy with
     |pass hw hk=>exact .inl ⟨undef,hk,fun u w2 K' _ _ hk' => .pass ((wanted_put oi a oj.dst u h3).trans hw) hk'⟩
     |quiet hw hies v hrun hst hk=>
      refine .inl ⟨v,hk,fun u w2 K' hC2 hps hk' => ?_⟩
      have he:=execOp_put oi hsi a oj.dst u h3
      have hrun2:(execOp a.eval oi).run P w2= .ok (.value v) w2:=by
       rcases hst with h|h
       ·
        rw [hps h];exact hrun
       ·
        exact h w2 hC2
      exact .quiet ((wanted_put oi a oj.dst u h3).trans hw) hies v (by rw [he];exact hrun2) (by rw [he];exact hst) hk'
     |eff hw hies hk=>exact .inr ⟨hw,hies,hk⟩
    rcases hstill with ⟨v,hk,hS⟩|⟨hw,hies,hk⟩
    ·
     cases hJ v w hk with
     |pass hwj' hkj=>exact .pass ((hwj v).symm.trans hwj') (ih _ w hcl' hC hfree' hr' (hS undef w _ hC (fun _=>rfl) (by rw [← hcomm];exact hkj)))
     |quiet hwj' hjes u hrun hst hkj=>
      rw [hej] at hrun hst
      exact .quiet ((hwj v).symm.trans hwj') hjes u hrun hst (ih _ w hcl' hC hfree' hr' (hS u w _ hC (fun _=>rfl) (by rw [← hcomm];exact hkj)))
     |eff hwj' hjes hkj=>
      rw [hej] at hkj
      exact .eff ((hwj v).symm.trans hwj') hjes (hkj.mono fun u w2 hk2=>ih _ w2 hcl' hk2.inC hfree' hr' (hS u w2 _ hk2.inC (fun hps=>(hnb j hjes i (.inr hps) hji (.inr rfl) L hcl hj hr).elim) (by rw [← hcomm];exact hk2)))
    ·
     obtain ⟨v0,w1,h0⟩:=hk.ex
     cases hJ v0 w1 h0 with
     |pass hwj' hkj=>
      have hwa:=(hwj v0).symm.trans hwj'
      refine .pass hwa (ih _ w hcl' hC hfree' hr' (EOp.of_put hap hsi (.eff hw hies hk) fun v w' h=> ?_))
      cases hJ v w' h with
      |pass _ h' =>rw [← hcomm];exact h'
      |quiet hw2 _ _ _ _ _=>rw [hwj,hwa] at hw2;cases hw2
      |eff hw2 _ _=>rw [hwj,hwa] at hw2;cases hw2
     |quiet hwj' hjes u hrun hst hkj=>
      have hwa:=(hwj v0).symm.trans hwj'
      have hst2: ∀ w1,C w1→(execOp a.eval oj).run P w1= .ok (.value u) w1:=by
       rcases hst with h|h
       ·
        exact (hnb i hies j (.inr h) (Ne.symm hji) (.inl rfl) L hcl hr hj).elim
       ·
        rw [hej] at h;exact h
      refine .quiet hwa hjes u (hst2 w hC) (.inr hst2) (ih _ w hcl' hC hfree' hr' (EOp.of_put hap hsi (.eff hw hies hk) fun v w' h=> ?_))
      cases hJ v w' h with
      |pass hw2 _=>rw [hwj,hwa] at hw2;cases hw2
      |eff _ hjes2 _=>exact absurd hjes2 hjes
      |quiet _ _ u' hr2 hst' h' =>
       have hst3:(execOp a.eval oj).run P w= .ok (.value u') w:=by
        rcases hst' with h|h
        ·
         exact (hnb i hies j (.inr h) (Ne.symm hji) (.inl rfl) L hcl hr hj).elim
        ·
         have:=h w hC
         rw [hej] at this;exact this
       rw [hst2 w hC] at hst3
       injection hst3 with h4
       injection h4 with h4
       subst h4
       rw [← hcomm];exact h'
     |eff hwj' hjes hkj=>exact (hnb i hies j (.inl hjes) (Ne.symm hji) (.inl rfl) L hcl hr hj).elim⟩
end
section
variable {P:Program} {n:Fr} {w0:World} {Q:Post} {s:Slots} {H S:List Blk} {l:List Oper} {ty:TypeId} {p:String} {af:Array Edge} {es:List Nat} {gu:Option (Nat × Bool)} {f:Nat} {L:Array Bool}
def WE (P:Program) (n:Fr) (w0:World) (l:List Oper) (S:List Blk) (es:List Nat) (Q:Post) (f:Nat) (L:Array Bool) (s:Slots) (H:List Blk):Prop:=
 ∀ a w,St n s a→Mem w0 w H→Mem w0 w S→ClosedL l.toArray L→AnyE P l.toArray es [] (fun w=>Mem w0 w S) (post n w0 Q .normal) f L a w
theorem w_drawE {id:Nat} (es:List Nat) (S:List Blk) (N:Nat) (hN:l.length=N) (hm:P.follows .mixedOrders=true) (hS:MSub S H)
  (h:WE P n w0 l S es Q N (Array.replicate N false) s H):W P n w0 (.region id l.toArray true) Q s H:=by
 intro a w hs hmem
 subst hN
 refine wp_region_any hm (wpAny_of_AnyE (es:=es) (ps:= []) (C:=fun w=>Mem w0 w S) (Q:=post n w0 Q .normal) (fun _ _ h=>h) _ _ _ _ ?_)
 have hcl:ClosedL l.toArray (Array.replicate l.length false):=fun i o _ hi=>by
  rw [Array.getD_eq_getD_getElem?,Array.getElem?_replicate] at hi
  split at hi<;>cases hi
 have:=h a _ hs hmem.drew (hS.use hmem.drew) hcl
 simpa using this
theorem we_done (hr:Region.ready .any l.toArray L= []) (h:Q .normal s H):WE P n w0 l S es Q f L s H:=by
 intro a w hs hm hS hcl
 cases f with
 |zero=>exact ⟨hS,hr,s,H,hs,hm,h⟩
 |succ f=>exact ⟨hS,fun _=>⟨s,H,hs,hm,h⟩,fun i hi=>by rw [hr] at hi;cases hi⟩
theorem we_v {i:Nat} {op:Op} {d:Nat} {v:Value} (hi:l[i]? =some ⟨some d,op,ty,p,af,gu⟩) (hn:Nat.blt d n.sz=true) (hg:gok l s gu=some true) (hk:es.contains i=false) (hsel:Region.noSelect l.toArray=true)
  (hr:(Region.ready .any l.toArray L).contains i=true) (hf:Region.free .any l.toArray L i=true) (hv:VOp P w0 s S op ty v) (h:WE P n w0 l S es Q f (L.setIfInBounds i true) ((d,v)::s) H):WE P n w0 l S es Q (f+1) L s H:=by
 intro a w hs hm hS hcl
 have hi' :l.toArray[i]? =some ⟨some d,op,ty,p,af,gu⟩:=by simpa using hi
 have hr' :i∈Region.ready .any l.toArray L:=by simpa using hr
 have hk' :i∉es:=by simpa using hk
 refine AnyE_firsti hi' (Region.noSelect_spec hsel) (fun x hx y hy _ hxy=> ?_) f L a w hcl hS (Region.free_spec hi' hf) hr'
  (.quiet (gok_wanted rfl hg hs) hk' v (hv a.eval w (some d) p af gu hs.eval hS) (.inr fun w1 h1=>hv a.eval w1 (some d) p af gu hs.eval h1) (h _ _ (hs.put (Nat.blt_eq ▸ hn) v) hm hS (hcl.set hr')))
 rcases hxy with rfl|rfl
 ·
  exact (hk' hx).elim
 ·
  rcases hy with hy|hy
  ·
   exact (hk' hy).elim
  ·
   cases hy
theorem we_step {i:Nat} {op:Op} {dst:Option Tmp} (hi:l[i]? =some ⟨dst,op,ty,p,af,gu⟩) (hg:gok l s gu=some true) (hk:es.contains i=true) (hr:(Region.ready .any l.toArray L).contains i=true)
  (h:WL P n w0 #[] [⟨dst,op,ty,p,af,none⟩] (ceP S (WE P n w0 l S es Q f (L.setIfInBounds i true))) s H) (a:Act) (w:World) (hs:St n s a) (hm:Mem w0 w H) (hcl:ClosedL l.toArray L):
  EOp P l.toArray es [] (fun w=>Mem w0 w S) (AnyE P l.toArray es [] (fun w=>Mem w0 w S) (post n w0 Q .normal) f (L.setIfInBounds i true)) i ⟨dst,op,ty,p,af,gu⟩ a w:=by
 have hr' :i∈Region.ready .any l.toArray L:=by simpa using hr
 refine .eff (gok_wanted rfl hg hs) (by simpa using hk) ?_
 have h1:=h a w hs hm
 unfold wpList at h1
 simp only [Region.wanted,if_true] at h1
 replace h1:=h1.elim id fun ⟨_,a0,w1,s',H'',_,_,he,_⟩=>by cases he
 have hexec:execOp a.eval ⟨dst,op,ty,p,af,gu⟩=execOp a.eval ⟨dst,op,ty,p,af,none⟩:=rfl
 rw [hexec]
 have nxt: ∀ (a' :Act) (w' :World),wpList P #[] (post n w0 (ceP S (WE P n w0 l S es Q f (L.setIfInBounds i true)))) [] a' w' →AnyE P l.toArray es [] (fun w=>Mem w0 w S) (post n w0 Q .normal) f (L.setIfInBounds i true) a' w' :=by
  rintro a' w' ⟨s',H',hs',hm',_,hSub,hK⟩
  exact hK a' w' hs' hm' (hSub.use hm') (hcl.set hr')
 unfold Oper.wp at h1
 generalize (execOp a.eval ⟨dst,op,ty,p,af,none⟩).run P w=r at h1 ⊢
 cases r with
 |ok x w' =>
  cases x<;>simp only [Oper.upon] at h1<;>simp only [NormUp]
  case value u=>exact nxt _ _ h1
  case skip=>exact nxt _ _ h1
  case defer dd=>
   obtain ⟨s',H'',hs',_⟩:=h1
   have h2:=congrArg List.length (hs'.defers.trans hs.defers.symm)
   cases dst<;>simp [Act.put] at h2
  case enter f args=>
   refine h1.mono fun e w'' he=> ?_
   cases e with
   |returned v=>exact ⟨v,rfl,nxt _ _ he⟩
   |panicked c=>
    obtain ⟨s',H'',_,_,he',_⟩:=he
    cases he'
   |outgrown=>
    obtain ⟨a0,w1,s',H'',_,_,he',_⟩:=he
    cases he'
  case row f args=>exact Rows.mono h1 fun u w'' he=>nxt _ _ he
 |halt x w' =>
  cases x<;>simp only [Oper.upon] at h1
  all_goals
   obtain ⟨s',H'',_,_,he',_⟩:=h1
   cases he'
theorem we_one {i:Nat} {op:Op} {dst:Option Tmp} (hi:l[i]? =some ⟨dst,op,ty,p,af,gu⟩) (hg:gok l s gu=some true) (hk:es.contains i=true) (hr:Region.ready .any l.toArray L= [i])
  (h:WL P n w0 #[] [⟨dst,op,ty,p,af,none⟩] (ceP S (WE P n w0 l S es Q f (L.setIfInBounds i true))) s H):WE P n w0 l S es Q (f+1) L s H:=by
 intro a w hs hm hS hcl
 refine ⟨hS,fun h0=>(by rw [hr] at h0;cases h0),fun j hj=> ?_⟩
 rw [hr] at hj
 have e:j=i:=by simpa using hj
 subst e
 exact ⟨_,by simpa using hi,we_step hi hg hk (by rw [hr];simp) h a w hs hm hcl⟩
theorem we_two {i j:Nat} {op op' :Op} {dst dst' :Option Tmp} {ty' :TypeId} {p' :String} {af' :Array Edge} {gu' :Option (Nat × Bool)} (hi:l[i]? =some ⟨dst,op,ty,p,af,gu⟩) (hj:l[j]? =some ⟨dst',op',ty',p',af',gu'⟩) (hg:gok l s gu=some true) (hg' :gok l s gu' =some true)
  (hk:es.contains i=true) (hk' :es.contains j=true) (hr:Region.ready .any l.toArray L= [i,j])
  (h:WL P n w0 #[] [⟨dst,op,ty,p,af,none⟩] (ceP S (WE P n w0 l S es Q f (L.setIfInBounds i true))) s H)
  (h' :WL P n w0 #[] [⟨dst',op',ty',p',af',none⟩] (ceP S (WE P n w0 l S es Q f (L.setIfInBounds j true))) s H):WE P n w0 l S es Q (f+1) L s H:=by
 intro a w hs hm hS hcl
 refine ⟨hS,fun h0=>(by rw [hr] at h0;cases h0),fun k hk0=> ?_⟩
 rw [hr] at hk0
 rcases List.mem_cons.1 hk0 with e|hk0
 ·
  subst e
  exact ⟨_,by simpa using hi,we_step hi hg hk (by rw [hr];simp) h a w hs hm hcl⟩
 ·
  have e:k=j:=by simpa using hk0
  subst e
  exact ⟨_,by simpa using hj,we_step hj hg' hk' (by rw [hr];simp) h' a w hs hm hcl⟩
end
end Go.SL

/-
  Lemmas and walks, put together: S5 S6 D13 G2 Lp K2 Sm L3 La.
-/
import Derived.Deep.RegionHeld3
import Derived.Test.YtlnecnbfmnfigaaGreatDoorKu29
set_option linter.unusedSimpArgs false
set_option linter.unusedVariables false
set_option maxRecDepth 20000
namespace Go.Proofs
open Go Go.Shelf Go.RowKit Go.Lib Go.Sort Go.SL
set_option maxHeartbeats 1000000 in
theorem Tryz.rorderX (a b:Rf) (W:World):Calls Tryz.prog 119 #[.agg #[.int .i64 a.col,.int .i64 a.row],.agg #[.int .i64 b.col,.int .i64 b.row]] W fun e w' =>e= .returned (.int .i64 (gO a b))∧ ∃ q os',w' =grow (W.drewN q) os' :=by
 unfold gO
 have c1: ∀ q os,(grow (((W.alloc (Obj.cells #[Value.int IntKind.i64 a.col,Value.int IntKind.i64 a.row] 24)).alloc (Obj.cells #[Value.int IntKind.i64 b.col,Value.int IntKind.i64 b.row] 24)).drewN q) os).cell? ⟨W.heap.size,0,none⟩=some (.int .i64 a.col):=fun q os=>by
  refine cell_grown (by show W.heap.size<((W.heap.push _).push _).size;rw [PX,PX];omega) ?_ q os
  have e: ∀ o1 o2:Obj,((W.alloc o1).alloc o2).heap[W.heap.size]? =some o1:=fun o1 o2=>by
   show ((W.heap.push o1).push o2)[W.heap.size]? =_
   rw [Qd,if_neg (by rw [PX];omega),Qd,if_pos rfl]
  simp only [World.cell?,e]
  rfl
 have c2: ∀ q os,(grow (((W.alloc (Obj.cells #[Value.int IntKind.i64 a.col,Value.int IntKind.i64 a.row] 24)).alloc (Obj.cells #[Value.int IntKind.i64 b.col,Value.int IntKind.i64 b.row] 24)).drewN q) os).cell? ⟨W.heap.size,1,none⟩=some (.int .i64 a.row):=fun q os=>by
  refine cell_grown (by show W.heap.size<((W.heap.push _).push _).size;rw [PX,PX];omega) ?_ q os
  have e: ∀ o1 o2:Obj,((W.alloc o1).alloc o2).heap[W.heap.size]? =some o1:=fun o1 o2=>by
   show ((W.heap.push o1).push o2)[W.heap.size]? =_
   rw [Qd,if_neg (by rw [PX];omega),Qd,if_pos rfl]
  simp only [World.cell?,e]
  rfl
 have c3: ∀ q os,(grow (((W.alloc (Obj.cells #[Value.int IntKind.i64 a.col,Value.int IntKind.i64 a.row] 24)).alloc (Obj.cells #[Value.int IntKind.i64 b.col,Value.int IntKind.i64 b.row] 24)).drewN q) os).cell? ⟨W.heap.size+1,0,none⟩=some (.int .i64 b.col):=fun q os=>by
  refine cell_grown (by show W.heap.size+1<((W.heap.push _).push _).size;rw [PX,PX];omega) ?_ q os
  have e: ∀ o1 o2:Obj,((W.alloc o1).alloc o2).heap[W.heap.size+1]? =some o2:=fun o1 o2=>by
   show ((W.heap.push o1).push o2)[W.heap.size+1]? =_
   rw [Qd,if_pos (by rw [PX])]
  simp only [World.cell?,e]
  rfl
 have c4: ∀ q os,(grow (((W.alloc (Obj.cells #[Value.int IntKind.i64 a.col,Value.int IntKind.i64 a.row] 24)).alloc (Obj.cells #[Value.int IntKind.i64 b.col,Value.int IntKind.i64 b.row] 24)).drewN q) os).cell? ⟨W.heap.size+1,1,none⟩=some (.int .i64 b.row):=fun q os=>by
  refine cell_grown (by show W.heap.size+1<((W.heap.push _).push _).size;rw [PX,PX];omega) ?_ q os
  have e: ∀ o1 o2:Obj,((W.alloc o1).alloc o2).heap[W.heap.size+1]? =some o2:=fun o1 o2=>by
   show ((W.heap.push o1).push o2)[W.heap.size+1]? =_
   rw [Qd,if_pos (by rw [PX])]
  simp only [World.cell?,e]
  rfl
 go_enter Tryz.func119,Tryz.ntmps119
 go_wp2_with (go_at_call 133;refine (Tryz.lessX _ _ _).mono ?_;rintro e w' ⟨rfl,q,os,rfl⟩)
 all_goals
  go_ret
  exact ⟨rfl,by first|exact (((Lays.refl W).alloc _).alloc _).grow _ _|exact ((((Lays.refl W).alloc _).alloc _).grow _ _).grow _ _⟩
def kV (a b:Int):Int:=if a<b then -1 else if b<a then 1 else 0
set_option maxHeartbeats 1000000 in
theorem Tryz.nanX (a:Int) (W:World):Calls Tryz.prog 124 #[.int .i64 a] W fun e w' =>e= .returned (.bool false)∧w' =W:=by
 go_enter Tryz.func124,Tryz.ntmps124
 go_wp2
 all_goals
  go_ret
  exact ⟨by simp,rfl⟩
set_option maxHeartbeats 1000000 in
theorem Tryz.cmpX (a b:Int) (W:World):Calls Tryz.prog 65 #[.int .i64 a,.int .i64 b] W fun e w' =>e= .returned (.int .i64 (kV a b))∧w' =W:=by
 unfold kV
 go_enter Tryz.func65,Tryz.ntmps65
 go_wp2_with (go_at_call 124;refine (Tryz.nanX _ _).mono ?_;rintro e w' ⟨rfl,rfl⟩)
 all_goals
  go_ret
  exact ⟨by first|rfl|(repeat' split)<;>first|rfl|omega,rfl⟩
def orI (a b c d:Int):Int:=if a≠0 then a else if b≠0 then b else if c≠0 then c else d
set_option maxHeartbeats 1000000 in
theorem Tryz.orX (x0 x1 x2 x3:Int) (g c:Nat) (W:World) (h0:W.cell? ⟨g,0,none⟩=some (.int .i64 x0)) (h1:W.cell? ⟨g,1,none⟩=some (.int .i64 x1)) (h2:W.cell? ⟨g,2,none⟩=some (.int .i64 x2)) (h3:W.cell? ⟨g,3,none⟩=some (.int .i64 x3)):
    Calls Tryz.prog 64 #[.slice (some ⟨g,0,none⟩) 4 c] W fun e w' =>e= .returned (.int .i64 (orI x0 x1 x2 x3))∧w' =W:=by
  unfold orI
  go_enter Tryz.func64,Tryz.ntmps64
  go_wp2
  refine wp_loop_rounds 5 ?_
  rw [rounds_succ]
  go_wp2
  all_goals first
    |(rw [rounds_succ];go_wp2)
    |skip
  all_goals first
    |(rw [rounds_succ];go_wp2)
    |skip
  all_goals first
    |(rw [rounds_succ];go_wp2)
    |skip
  all_goals first
    |(rw [rounds_succ];go_wp2)
    |skip
  all_goals first
    | (go_ret
       exact ⟨by first|rfl|(congr 2;simp_all;done),rfl⟩)
    |trace_state
theorem Lays.drew {W X:World} (h:Lays W X):Lays W X.drew:=by
 obtain ⟨q,os,rfl⟩:=h
 exact ⟨q+1,os,rfl⟩
theorem ub (W:World) (cs:Array Value) (T:TypeId) {g j:Nat} {v:Value} (hg:g=W.heap.size) (hv:cs[j]? =some v):(W.alloc (Obj.cells cs T)).cell? ⟨g,j,none⟩=some v:=by
 subst hg
 have e:(W.alloc (Obj.cells cs T)).heap[W.heap.size]? =some (Obj.cells cs T):=by
  show (W.heap.push _)[W.heap.size]? =_
  rw [Qd,if_pos rfl]
 simp only [World.cell?,e]
 exact hv
def cg (a b:Rct):Int:=orI (kV a.r1 b.r1) (kV a.c1 b.c1) (kV a.r2 b.r2) (kV a.c2 b.c2)
set_option maxHeartbeats 4000000 in
theorem Tryz.leavesX (a b:Rct) (W:World):Calls Tryz.prog 63 #[.agg #[.int .i64 a.c1,.int .i64 a.r1,.int .i64 a.c2,.int .i64 a.r2],.agg #[.int .i64 b.c1,.int .i64 b.r1,.int .i64 b.c2,.int .i64 b.r2]] W fun e w' =>e= .returned (.int .i64 (cg a b))∧ ∃ q os',w' =grow (W.drewN q) os' :=by
 unfold cg
 have hor: ∀ (o1 o2:Obj) (T:TypeId),Calls Tryz.prog 64 #[.slice (some ⟨W.heap.size+1+1,0,none⟩) 4 4] (((W.alloc o1).alloc o2).alloc (Obj.cells #[.int .i64 (kV a.r1 b.r1),.int .i64 (kV a.c1 b.c1),.int .i64 (kV a.r2 b.r2),.int .i64 (kV a.c2 b.c2)] T)).drew fun e w' =>e= .returned (.int .i64 (orI (kV a.r1 b.r1) (kV a.c1 b.c1) (kV a.r2 b.r2) (kV a.c2 b.c2)))∧w' =(((W.alloc o1).alloc o2).alloc (Obj.cells #[.int .i64 (kV a.r1 b.r1),.int .i64 (kV a.c1 b.c1),.int .i64 (kV a.r2 b.r2),.int .i64 (kV a.c2 b.c2)] T)).drew:=fun o1 o2 T=>by
  have hg:W.heap.size+1+1=((W.alloc o1).alloc o2).heap.size:=by
   show _=((W.heap.push o1).push o2).size
   rw [PX,PX]
  exact Tryz.orX _ _ _ _ _ _ _ (ub _ _ _ hg rfl) (ub _ _ _ hg rfl) (ub _ _ _ hg rfl) (ub _ _ _ hg rfl)
 go_enter Tryz.func63,Tryz.ntmps63
 go_wp2
 go_region_held3 (fun w' =>w'.cell? ⟨W.heap.size,0,none⟩=some (.int .i64 a.c1)∧w'.cell? ⟨W.heap.size,1,none⟩=some (.int .i64 a.r1)∧w'.cell? ⟨W.heap.size,2,none⟩=some (.int .i64 a.c2)∧w'.cell? ⟨W.heap.size,3,none⟩=some (.int .i64 a.r2)∧w'.cell? ⟨W.heap.size+1,0,none⟩=some (.int .i64 b.c1)∧w'.cell? ⟨W.heap.size+1,1,none⟩=some (.int .i64 b.r1)∧w'.cell? ⟨W.heap.size+1,2,none⟩=some (.int .i64 b.c2)∧w'.cell? ⟨W.heap.size+1,3,none⟩=some (.int .i64 b.r2)) (go_keep)
  (first|(go_at_call 65;refine (Tryz.cmpX _ _ _).mono ?_;rintro e w' ⟨rfl,rfl⟩)|(go_at_call 64;refine (hor _ _ _).mono ?_;rintro e w' ⟨rfl,rfl⟩))
 all_goals
  go_wp2
 all_goals
  go_ret
  exact ⟨rfl,by first|exact (((((Lays.refl W).alloc _).alloc _).alloc _)).drew|trace_state⟩
end Go.Proofs
namespace Go.Proofs
open Go Go.Shelf Go.RowKit Go.Lib Go.Sort Go.SL
def Tryz.sortRc_ren:Go.Shelf.Ren:=⟨fun|6=>62|15=>123|14=>122|28=>171|29=>172|20=>163|21=>164|22=>165|23=>166|24=>167|25=>168|26=>169|27=>170|46=>220|47=>221|48=>222|49=>223|50=>224|57=>261|n=>n,fun|22=>25|24=>53|25=>133|3=>3|39=>65|0=>0|53=>264|55=>62|4=>4|46=>257|45=>256|50=>261|5=>5|9=>9|66=>305|70=>309|76=>353|77=>354|n=>n,fun|n=>n⟩
theorem Tryz.sortRc:Go.Proofs.SlLaysF0.n6 Tryz.prog Tryz.sortRc_ren:={
 mixed:=by kernel_rfl
 f6:=⟨Tryz.f62.name,by decide,Tryz.func62.trans (congrArg some (by kernel_rfl))⟩
 f14:=⟨Tryz.f122.name,by decide,Tryz.func122.trans (congrArg some (by kernel_rfl))⟩
 f15:=Tryz.func123.trans (congrArg some (by kernel_rfl))
 f20:=⟨Tryz.f163.name,by decide,Tryz.func163.trans (congrArg some (by kernel_rfl))⟩
 f21:=⟨Tryz.f164.name,by decide,Tryz.func164.trans (congrArg some (by kernel_rfl))⟩
 f22:=⟨Tryz.f165.name,by decide,Tryz.func165.trans (congrArg some (by kernel_rfl))⟩
 f23:=⟨Tryz.f166.name,by decide,Tryz.func166.trans (congrArg some (by kernel_rfl))⟩
 f24:=⟨Tryz.f167.name,by decide,Tryz.func167.trans (congrArg some (by kernel_rfl))⟩
 f25:=⟨Tryz.f168.name,by decide,Tryz.func168.trans (congrArg some (by kernel_rfl))⟩
 f26:=⟨Tryz.f169.name,by decide,Tryz.func169.trans (congrArg some (by kernel_rfl))⟩
 f27:=⟨Tryz.f170.name,by decide,Tryz.func170.trans (congrArg some (by kernel_rfl))⟩
 f28:=Tryz.func171.trans (congrArg some (by kernel_rfl))
 f29:=Tryz.func172.trans (congrArg some (by kernel_rfl))
 f46:=⟨Tryz.f220.name,by decide,Tryz.func220.trans (congrArg some (by kernel_rfl))⟩
 f47:=Tryz.func221.trans (congrArg some (by kernel_rfl))
 f48:=Tryz.func222.trans (congrArg some (by kernel_rfl))
 f49:=⟨Tryz.f223.name,by decide,Tryz.func223.trans (congrArg some (by kernel_rfl))⟩
 f50:=⟨Tryz.f224.name,by decide,Tryz.func224.trans (congrArg some (by kernel_rfl))⟩
 f57:=⟨Tryz.f261.name,by decide,Tryz.func261.trans (congrArg some (by kernel_rfl))⟩
 t0:=Tryz.underlying0
 a0:=Tryz.isAgg0
 z0:=Tryz.sizeOf0
 v0:=Tryz.zeroValue0
 t3:=Tryz.underlying3
 a3:=Tryz.isAgg3
 z3:=Tryz.sizeOf3
 v3:=Tryz.zeroValue3
 t4:=Tryz.underlying4
 a4:=Tryz.isAgg4
 z4:=Tryz.sizeOf4
 v4:=Tryz.zeroValue4
 t5:=Tryz.underlying5
 a5:=Tryz.isAgg5
 z5:=Tryz.sizeOf5
 v5:=Tryz.zeroValue5
 t9:=Tryz.underlying9
 a9:=Tryz.isAgg9
 z9:=Tryz.sizeOf9
 v9:=Tryz.zeroValue9
 t22:=Tryz.underlying25
 a22:=Tryz.isAgg25
 z22:=Tryz.sizeOf25
 v22:=Tryz.zeroValue25
 t25:=Tryz.underlying133
 a25:=Tryz.isAgg133
 z25:=Tryz.sizeOf133
 v25:=Tryz.zeroValue133
 t39:=Tryz.underlying65
 a39:=Tryz.isAgg65
 z39:=Tryz.sizeOf65
 v39:=Tryz.zeroValue65
 t45:=Tryz.underlying256
 a45:=Tryz.isAgg256
 z45:=Tryz.sizeOf256
 v45:=Tryz.zeroValue256
 t46:=Tryz.underlying257
 a46:=Tryz.isAgg257
 z46:=Tryz.sizeOf257
 v46:=Tryz.zeroValue257
 t50:=Tryz.underlying261
 a50:=Tryz.isAgg261
 z50:=Tryz.sizeOf261
 v50:=Tryz.zeroValue261
 t53:=Tryz.underlying264
 a53:=Tryz.isAgg264
 z53:=Tryz.sizeOf264
 v53:=Tryz.zeroValue264
 t55:=Tryz.underlying62
 a55:=Tryz.isAgg62
 z55:=Tryz.sizeOf62
 v55:=Tryz.zeroValue62
 t66:=Tryz.underlying305
 a66:=Tryz.isAgg305
 z66:=Tryz.sizeOf305
 v66:=Tryz.zeroValue305
 t70:=Tryz.underlying309
 a70:=Tryz.isAgg309
 z70:=Tryz.sizeOf309
 v70:=Tryz.zeroValue309
 t76:=Tryz.underlying353
 a76:=Tryz.isAgg353
 z76:=Tryz.sizeOf353
 v76:=Tryz.zeroValue353
 t77:=Tryz.underlying354
 a77:=Tryz.isAgg354
 z77:=Tryz.sizeOf354
 v77:=Tryz.zeroValue354 }
theorem uk (a b:Int):kV a b<0↔a<b:=by unfold kV;split<;>(try split)<;>omega
theorem Ad (a b:Int):kV a b≠0↔a≠b:=by unfold kV;split<;>(try split)<;>omega
theorem kE (x y:Rct):ltOf cg x y=decide (x.r1<y.r1∨x.r1=y.r1∧(x.c1<y.c1∨x.c1=y.c1∧(x.r2<y.r2∨x.r2=y.r2∧x.c2<y.c2))):=by
 unfold ltOf cg orI
 rw [PN]
 simp only [decide_eq_true_eq]
 have c1:=uk x.r1 y.r1
 have c2:=uk x.c1 y.c1
 have c3:=uk x.r2 y.r2
 have c4:=uk x.c2 y.c2
 have d1:=Ad x.r1 y.r1
 have d2:=Ad x.c1 y.c1
 have d3:=Ad x.r2 y.r2
 repeat' split
 all_goals omega
theorem sF:SWO (ltOf cg):={
 irrefl x:=by rw [kE];simp
 trans x y z h1 h2:=by rw [kE] at*;simp only [decide_eq_true_eq] at*;omega
 ntrans x y z h1 h2:=by rw [kE] at*;simp only [decide_eq_false_iff_not] at*;omega }
theorem Jo (x y:Rct) (h1:ltOf cg x y=false) (h2:ltOf cg y x=false):x=y:=by
 rw [kE] at h1 h2
 obtain ⟨a,b,c,d⟩:=x
 obtain ⟨e,f,g,h⟩:=y
 simp only [decide_eq_false_iff_not] at h1 h2
 simp
 omega
instance:Inhabited Rct:=⟨⟨0,0,0,0⟩⟩
theorem Tryz.sortRf2_calls (blk off cap:Nat) (d:Array Rf) (w:World) (hH:HoldsK aw 2 w blk off d) (hblk:blk<w.heap.size) (hsz:d.size<4611686018427387904):
  Calls Tryz.prog 90 #[.slice (some ⟨blk,off,none⟩) d.size cap,.func (.func 119) #[] #[]] w fun e w' =>
   e= .returned (.tuple #[])∧ ∃ n os,w' =sortWorldK aw 2 w blk off n (d.toList.mergeSort fun x y=> !(ltOf gO) y x).toArray os:=by
 have eg: ∀ args w,(callFunc 119 args).run Tryz.prog w= .ok (.enter 119 args) w:=enters_of Tryz.func119 (by kernel_rfl) rfl
 exact AnyQ.slices_SortFunc_total Tryz.sortRf 2 (fun w=>by have h:=Tryz.underlying24;show (isAgg 24).run _ w=_;simp [isAgg,run_underlying h]) (fun w=>by obtain ⟨i,h1,h2⟩:=(inferInstance:Size Tryz.prog 24 2).out;show (Go.sizeOf 24).run _ w=_;simp [Go.sizeOf,typeInfo,h1,h2]) aw (fun _=>rfl) (fun x v hv=>by simp [aw] at hv;rcases hv with rfl|rfl<;>rfl) gO MK 119 #[] blk off cap d w eg (fun _ _ _ _ x y=>Tryz.rorderX x y _) hH hblk hsz Jn
theorem Tryz.sortRc_calls (blk off cap:Nat) (d:Array Rct) (w:World) (hH:HoldsK aH 4 w blk off d) (hblk:blk<w.heap.size) (hsz:d.size<4611686018427387904):
  Calls Tryz.prog 62 #[.slice (some ⟨blk,off,none⟩) d.size cap,.func (.func 63) #[] #[]] w fun e w' =>
   e= .returned (.tuple #[])∧ ∃ n os,w' =sortWorldK aH 4 w blk off n (d.toList.mergeSort fun x y=> !(ltOf cg) y x).toArray os:=by
 have eg: ∀ args w,(callFunc 63 args).run Tryz.prog w= .ok (.enter 63 args) w:=enters_of Tryz.func63 (by kernel_rfl) rfl
 exact AnyQ.slices_SortFunc_total Tryz.sortRc 4 (fun w=>by have h:=Tryz.underlying53;show (isAgg 53).run _ w=_;simp [isAgg,run_underlying h]) (fun w=>by obtain ⟨i,h1,h2⟩:=(inferInstance:Size Tryz.prog 53 4).out;show (Go.sizeOf 53).run _ w=_;simp [Go.sizeOf,typeInfo,h1,h2]) aH (fun _=>rfl) (fun x v hv=>by simp [aH] at hv;rcases hv with rfl|rfl|rfl|rfl<;>rfl) cg sF 63 #[] blk off cap d w eg (fun _ _ _ _ x y=>Tryz.leavesX x y _) hH hblk hsz Jo
end Go.Proofs
namespace Go.SL
open Go Go.Proofs Go.Sort Go.Shelf
section
variable {α:Type} [Inhabited α] {enc:α→List Value} {k:Nat}
theorem yx (hk: ∀ x,(enc x).length=k) (h0:0<k) (L:List α) (j:Nat) (h:j<L.length*k):(L.flatMap enc)[j]? =some ((flatK enc k L.toArray)[j]!):=by
 rw [get_flatK _ _ _ _ (by simpa using h)]
 have h1:j / k<L.length:=Nat.div_lt_of_lt_mul (by rw [Nat.mul_comm];exact h)
 have h2:j % k<k:=Nat.mod_lt _ h0
 have h3:=l9 hk L (j / k) (j % k) h1 h2
 rw [show j / k*k+j % k=j by rw [Nat.mul_comm];exact Nat.div_add_mod j k] at h3
 rw [h3]
 have h4:L.toArray[j / k]! =L[j / k]:=by simp [h1]
 rw [h4,O5 (by rw [hk];exact h2)]
 congr 1
 rw [getElem!_pos _ _ (by rw [hk];exact h2)]
theorem Bz (w:World) (g n:Nat) (d:Array α) (os:Array Obj):w.grownBy (sortWorldK enc k w g 0 n d os) (some g):={
 os:=rfl
 tape:=rfl
 output:=rfl
 size:=by
  show w.heap.size≤((w.heap.modify g _)++os).size
  rw [Array.size_append,RQ]
  omega
 block k hk hne:=by
  show ((w.heap.modify g _)++os)[k]? =_
  rw [Qr (by rw [RQ];exact hk),RC,if_neg (fun e=>hne (by rw [e]))] }
theorem Ec (w:World) (g n:Nat) (d:Array α) (os:Array Obj) (c:Array Value) (T:TypeId) (fr:Nat × Nat) (h:w.heap[g]? =some (.cells c T fr)):
  (sortWorldK enc k w g 0 n d os).heap[g]? =some (.cells (putCells id 0 (flatK enc k d) c) T fr):=by
 have hlt:g<w.heap.size:=(PL.1 h).1
 show ((w.heap.modify g _)++os)[g]? =_
 rw [Qr (by rw [RQ];exact hlt),RC,if_pos rfl,h]
 rfl
theorem ED (hk: ∀ x,(enc x).length=k) (h0:0<k) (L:List α) (xs junk:List Value) (hl:xs.length=L.length*k):putCells id 0 (flatK enc k L.toArray) (xs++junk).toArray=(L.flatMap enc++junk).toArray:=by
 have hfl:(L.flatMap enc).length=L.length*k:=aQ hk L
 apply Array.ext_getElem?
 intro j
 simp only [putCells,Array.getElem?_mapIdx,PY,size_flatK,QR,Pb,true_and,Pn,Qz]
 by_cases hj:j<L.length*k
 ·
  rw [PJ (by omega),PJ (by omega),yx hk h0 L j hj,O5 (by omega)]
  simp [hj]
 ·
  rw [PQ (by omega),PQ (by omega),hl,hfl]
  simp [hj]
theorem Bx {F fid T:Nat} {P:Program} (srt:List α→List α) (hk: ∀ x,(enc x).length=k) (h0:0<k) (hlen: ∀ L,(srt L).length=L.length)
  (hs: ∀ (blk off cap:Nat) (d:Array α) (w:World),HoldsK enc k w blk off d→blk<w.heap.size→d.size<4611686018427387904→Calls P F #[.slice (some ⟨blk,off,none⟩) d.size cap,.func (.func fid) #[] #[]] w fun e w' =>e= .returned (.tuple #[])∧ ∃ n os,w' =sortWorldK enc k w blk off n (srt d.toList).toArray os)
  (hn: ∀ (p:Option Addr) (cap:Nat) (fv:Value) (w:World),Calls P F #[.slice p 0 cap,fv] w fun e w' =>e= .returned (.tuple #[])∧w' =w)
  (L:List α) (A:Option Nat) (cap:Nat) (hL:L.length≤1000000) (R:List Blk) (w0:World):
  FnIn P F [sl A L.length cap,.func (.func fid) #[] #[]] w0 (.own A T k L.length cap (L.flatMap enc)::R) fun v H=>v= .tuple #[]∧H= .own A T k L.length cap ((srt L).flatMap enc)::R:=by
 cases A with
 |none=>
  intro w hm
  obtain ⟨⟨h1,h2,h3,h4⟩,_⟩:=hm.on _ O7
  obtain ⟨h5,h6⟩:=h4
  have hnil:L= []:=QM.1 h5
  subst hnil
  subst h6
  have he:srt []= []:=QM.1 (hlen [])
  refine Calls.mono (hn none 0 _ w) ?_
  rintro e w' ⟨rfl,rfl⟩
  exact ⟨_,_,rfl,hm,rfl,by rw [he]⟩
 |some g=>
  intro w hm
  obtain ⟨⟨h1,h2,h3,junk,h4,h5⟩,hkk⟩:=hm.on _ O7
  have hlt:g<w.heap.size:=(PL.1 h5).1
  have hH:HoldsK enc k w g 0 L.toArray:=by
   intro j hj
   simp only [size_flatK,QR] at hj
   have hc:(L.flatMap enc++junk).toArray[j]? =some (flatK enc k L.toArray)[j]! :=by
    rw [PY,PJ (by omega),yx hk h0 L j hj]
   constructor
   ·
    simp only [World.cell?,Pn,h5]
    exact hc
   ·
    simp [World.frozen?,h5]
  have hs:=hs g 0 cap L.toArray w hH hlt (by simp;omega)
  have hsz:L.toArray.size=L.length:=by simp
  rw [hsz] at hs
  refine hs.mono ?_
  rintro e w' ⟨rfl,n,os,rfl⟩
  have hl:=hlen L
  refine ⟨_,_,rfl,hm.upd (Bz _ _ _ _ _) (b' := .own (some g) T k L.length cap ((srt L).flatMap enc)) ?_ fun k hk=> .inl hk,rfl,rfl⟩
  have hfl:((srt L).flatMap enc).length=L.length*k:=by rw [aQ hk,hl]
  refine ⟨hfl,h2,h3,junk,by rw [O2,hfl,← h1,← O2];exact h4,?_⟩
  rw [Ec _ _ _ _ _ _ _ _ h5,ED hk h0 (srt L) _ _ (by rw [hl];exact h1)]
end
theorem uX (p:Option Addr) (cap:Nat) (fv:Value) (w:World):Calls Tryz.prog 90 #[.slice p 0 cap,fv] w fun e w' =>e= .returned (.tuple #[])∧w' =w:=AnyF.slices_SortFunc_none Tryz.sortRf p cap fv w
theorem tE (p:Option Addr) (cap:Nat) (fv:Value) (w:World):Calls Tryz.prog 62 #[.slice p 0 cap,fv] w fun e w' =>e= .returned (.tuple #[])∧w' =w:=AnyF.slices_SortFunc_none Tryz.sortRc p cap fv w
theorem zu (L:List Rf) (A:Option Nat) (cap:Nat) (hL:L.length≤1000000) (R:List Blk) (w0:World):
  FnIn Tryz.prog 90 [sl A L.length cap,.func (.func 119) #[] #[]] w0 (.own A 24 2 L.length cap (L.flatMap aw)::R) fun v H=>v= .tuple #[]∧H= .own A 24 2 L.length cap ((sortRf L).flatMap aw)::R:=
 Bx sortRf dO (by decide) (fun L=>by simp [sortRf]) (fun blk off cap d w h1 h2 h3=>by
  have h:=Tryz.sortRf2_calls blk off cap d w h1 h2 h3
  have heq:(d.toList.mergeSort fun x y=> !(ltOf gO) y x)=sortRf d.toList:=by simp only [sortRf,gV]
  rw [heq] at h
  exact h) uX L A cap hL R w0
def sortRc (L:List Rct):List Rct:=L.mergeSort fun x y=> !(ltOf cg y x)
theorem zt (L:List Rct) (A:Option Nat) (cap:Nat) (hL:L.length≤1000000) (R:List Blk) (w0:World):
  FnIn Tryz.prog 62 [sl A L.length cap,.func (.func 63) #[] #[]] w0 (.own A 53 4 L.length cap (L.flatMap aH)::R) fun v H=>v= .tuple #[]∧H= .own A 53 4 L.length cap ((sortRc L).flatMap aH)::R:=
 Bx (enc:=aH) (k:=4) sortRc (fun _=>rfl) (by decide) (fun L=>by simp [sortRc]) (fun blk off cap d w h1 h2 h3=>by
  have h:=Tryz.sortRc_calls blk off cap d w h1 h2 h3
  have heq:(d.toList.mergeSort fun x y=> !(ltOf cg) y x)=sortRc d.toList:=rfl
  rw [heq] at h
  exact h) tE L A cap hL R w0
end Go.SL
namespace Go.SL
open Go Go.Proofs
attribute [local irreducible] W WL WQ WG WA WX WLI WR WT WC VOp RW thn blk bZ scp bA bV ck FnAt FnP ceP
theorem MSub.mid (A B C:List Blk):MSub (A++C) (A++(B++C)):=⟨B,by
 rw [Pg]
 exact List.Perm.append_left A PI⟩
theorem iV {f:FuncId} {args:List Value} {w0:World} {B H:List Blk} {φ:Value→Option Nat→Nat→Prop} {t sz n:Nat} {cs:List Value}
  (h: ∀ F,FnIn Tryz.prog f args w0 (B++F) fun v H' => ∃ A cap,φ v A cap∧H' = .own A t sz n cap cs::(B++F)) (hs:MSub B H):
  FnIn Tryz.prog f args w0 H fun v H' => ∃ A cap,φ v A cap∧H' = .own A t sz n cap cs::H:=by
 obtain ⟨F,hp⟩:=hs
 refine ((h F).msub (MSub.of_perm hp)).re ?_
 rintro v H' ⟨A,cap,hv,rfl⟩
 exact ⟨_,MSub.of_perm (hp.symm.cons _),A,cap,hv,rfl⟩
section
variable {R:List Blk} {E:List En} {clock:Nat} {G:Gr} (h:GOk R E clock G) (gg gm:Nat) {H:List Blk} (hs:MSub (gB gg gm (E.map En.m) clock++R) H) (w0:World)
include h hs
theorem GOk.uses_any (c:Rf):FnIn Tryz.prog 38 [.pointer (some ⟨gg,0,none⟩),aO c] w0 H fun v H' => ∃ A cap,v=sl A (aD G c).length cap∧H' = .own A 89 6 (aD G c).length cap ((aD G c).flatMap bQ)::H:=by
 refine iV (φ:=fun v A cap=>v=sl A (aD G c).length cap) (fun F=> ?_) hs
 have h1:=Mr gg gm clock E c (R++F) w0 (fun e he=>(h.en e he).sub (MSub.appL R F))
 rw [h.uses] at h1
 rw [Pg]
 exact h1
theorem GOk.tree_any (c:Rf):FnIn Tryz.prog 33 [.pointer (some ⟨gg,0,none⟩),aO c] w0 H fun v H' => ∃ A cap,v= .tuple #[sl A (gy G c).length cap,.bool (isG G c)]∧H' = .own A 157 11 (gy G c).length cap ((gy G c).flatMap bg)::H:=by
 refine iV (φ:=fun v A cap=>v= .tuple #[sl A (gy G c).length cap,.bool (isG G c)]) (fun F=> ?_) hs
 have h1:=Mu gg gm clock E c (R++F) w0 (fun e he=>(h.en e he).sub (MSub.appL R F))
 rw [h.tree,h.is] at h1
 rw [Pg]
 exact h1
variable (hl:G.length≤900)
include hl
theorem GOk.formulas_any:FnIn Tryz.prog 28 [.pointer (some ⟨gg,0,none⟩)] w0 H fun v H' => ∃ A cap,v=sl A (aq G).length cap∧H' = .own A 24 2 (aq G).length cap ((aq G).flatMap aw)::H:=by
 refine iV (φ:=fun v A cap=>v=sl A (aq G).length cap) (fun F=> ?_) hs
 have h1:=oo gg gm clock (E.map En.m) h.ok (by rw [Ps,h.len];omega) (R++F) w0
 rw [h.forms,show (E.map En.m).length=(aq G).length by rw [Ps,h.len,aq,Ps]] at h1
 rw [Pg]
 exact h1
theorem GOk.edges_any:FnIn Tryz.prog 77 [.pointer (some ⟨gg,0,none⟩)] w0 H fun v H' => ∃ A cap,v=sl A (dS G).length cap∧H' = .own A 151 4 (dS G).length cap ((dS G).flatMap dm)::H:=by
 refine iV (φ:=fun v A cap=>v=sl A (dS G).length cap) (fun F=> ?_) hs
 have h1:=KL gg gm clock E h.ok (by rw [h.len];omega) (R++F) w0 (fun e he=>(h.en e he).sub (MSub.appL R F))
 rw [h.edges] at h1
 rw [Pg]
 exact h1
variable (hG:GrOk G)
include hG
theorem GOk.users_any (r:Rct):FnIn Tryz.prog 53 [.pointer (some ⟨gg,0,none⟩),.agg (aH r).toArray] w0 H fun v H' => ∃ A cap,v=sl A (cj G r).length cap∧H' = .own A 24 2 (cj G r).length cap ((cj G r).flatMap aw)::H:=by
 refine iV (φ:=fun v A cap=>v=sl A (cj G r).length cap) (fun F=> ?_) hs
 have h1:=KF gg gm clock E r h.ok (by rw [h.len];omega) (PK (h.allLen hG) (by omega)) (R++F) w0 (fun e he=>(h.en e he).sub (MSub.appL R F))
 rw [h.users] at h1
 rw [Pg]
 exact h1
end
theorem RGOk.look {R:List Blk} {Q:List En} {G:Gr} (h:RGOk R Q G) (c:Rf):(dR Q c).map (fun e=>(e.tree,e.uses))=kI G c:=by
 rw [kI,← h.rel,dR,List.find?_map,RS]
 rfl
theorem RGOk.fuses {R:List Blk} {Q:List En} {G:Gr} (h:RGOk R Q G) (c:Rf):(aY Q c).uses=aD G c:=by
 rw [aD,← h.look c,aY]
 cases dR Q c<;>rfl
theorem RGOk.ftree {R:List Blk} {Q:List En} {G:Gr} (h:RGOk R Q G) (c:Rf):(aY Q c).tree=gy G c:=by
 rw [gy,← h.look c,aY]
 cases dR Q c<;>rfl
theorem RGOk.fis {R:List Blk} {Q:List En} {G:Gr} (h:RGOk R Q G) (c:Rf):(dR Q c).isSome=isG G c:=by
 rw [isG,← h.look c]
 cases dR Q c<;>rfl
section
variable {R:List Blk} {Q:List En} {G:Gr} (h:RGOk R Q G) (hl:G.length≤900) (gr:Nat) (Ar:Option Nat) (cr:Nat) {H:List Blk} (hs:MSub (rgB gr Ar cr Q++R) H) (w0:World)
include h hl hs
theorem RGOk.uses_any (c:Rf):FnIn Tryz.prog 81 [.pointer (some ⟨gr,0,none⟩),aO c] w0 H fun v H' => ∃ A cap,v=sl A (aD G c).length cap∧H' = .own A 89 6 (aD G c).length cap ((aD G c).flatMap bQ)::H:=by
 refine iV (φ:=fun v A cap=>v=sl A (aD G c).length cap) (fun F=> ?_) hs
 have h1:=JD gr Ar cr Q c (R++F) w0 (fun e he=>(h.en e he).sub (MSub.appL R F)) (by rw [h.len];omega)
 rw [h.fuses] at h1
 rw [Pg]
 exact h1
theorem RGOk.tree_any (c:Rf):FnIn Tryz.prog 82 [.pointer (some ⟨gr,0,none⟩),aO c] w0 H fun v H' => ∃ A cap,v= .tuple #[sl A (gy G c).length cap,.bool (isG G c)]∧H' = .own A 157 11 (gy G c).length cap ((gy G c).flatMap bg)::H:=by
 refine iV (φ:=fun v A cap=>v= .tuple #[sl A (gy G c).length cap,.bool (isG G c)]) (fun F=> ?_) hs
 have h1:=JE gr Ar cr Q c (R++F) w0 (fun e he=>(h.en e he).sub (MSub.appL R F)) (by rw [h.len];omega)
 rw [h.ftree,h.fis] at h1
 rw [Pg]
 exact h1
theorem RGOk.formulas_any:FnIn Tryz.prog 78 [.pointer (some ⟨gr,0,none⟩)] w0 H fun v H' => ∃ A cap,v=sl A (aq G).length cap∧H' = .own A 24 2 (aq G).length cap ((aq G).flatMap aw)::H:=by
 refine iV (φ:=fun v A cap=>v=sl A (aq G).length cap) (fun F=> ?_) hs
 have h1:=zD gr Ar cr Q (R++F) w0 (by rw [h.len];omega)
 rw [h.keys] at h1
 rw [Pg]
 exact h1
variable (hG:GrOk G)
include hG
theorem RGOk.edges_any:FnIn Tryz.prog 80 [.pointer (some ⟨gr,0,none⟩)] w0 H fun v H' => ∃ A cap,v=sl A (dS G).length cap∧H' = .own A 151 4 (dS G).length cap ((dS G).flatMap dm)::H:=by
 refine iV (φ:=fun v A cap=>v=sl A (dS G).length cap) (fun F=> ?_) hs
 have h1:=Hu gr Ar cr Q (R++F) w0 (fun e he=>(h.en e he).sub (MSub.appL R F)) (by rw [h.len];omega)
 rw [h.edges hG] at h1
 rw [Pg]
 exact h1
end
structure Gp where
 gg:Nat
 gm:Nat
 E:List En
 clock:Nat
 gr:Nat
 A:Option Nat
 cap:Nat
 Q:List En
 R:List Blk
def Gp.a (x:Gp):List Blk:=gB x.gg x.gm (x.E.map En.m) x.clock
def Gp.b (x:Gp):List Blk:=rgB x.gr x.A x.cap x.Q
def Gp.H (x:Gp):List Blk:=x.a++(x.b++x.R)
def Gp.pa (x:Gp):Value:= .pointer (some ⟨x.gg,0,none⟩)
def Gp.pb (x:Gp):Value:= .pointer (some ⟨x.gr,0,none⟩)
structure Gp.ok (x:Gp) (G:Gr):Prop where
 a:GOk x.R x.E x.clock G
 b:RGOk x.R x.Q G
 g:GrOk G
def Gs.p (x:Gs):Gp:=⟨x.gg,x.gm,x.E,x.clock,x.gr,x.A,x.cap,x.Q,x.R1++x.R2⟩
theorem Gs.p_ok {x:Gs} {G:Gr} (h:x.ok G):x.p.ok G:=⟨h.a.sub (MSub.appL _ _),h.b.sub (MSub.appR _ _),h.g⟩
theorem Gp.subA (x:Gp):MSub (gB x.gg x.gm (x.E.map En.m) x.clock++x.R) x.H:=MSub.mid _ _ _
theorem Gp.subB (x:Gp):MSub (rgB x.gr x.A x.cap x.Q++x.R) x.H:=MSub.appR _ _
section
variable (x:Gp) (G:Gr) (h:x.ok G) {H:List Blk} (hs:MSub x.H H) (w0:World)
include h hs
theorem Gp.usesA (c:Rf):FnIn Tryz.prog 38 [x.pa,aO c] w0 H fun v H' => ∃ A cap,v=sl A (aD G c).length cap∧H' = .own A 89 6 (aD G c).length cap ((aD G c).flatMap bQ)::H:=h.a.uses_any x.gg x.gm (MSub.trans x.subA hs) w0 c
theorem Gp.treeA (c:Rf):FnIn Tryz.prog 33 [x.pa,aO c] w0 H fun v H' => ∃ A cap,v= .tuple #[sl A (gy G c).length cap,.bool (isG G c)]∧H' = .own A 157 11 (gy G c).length cap ((gy G c).flatMap bg)::H:=h.a.tree_any x.gg x.gm (MSub.trans x.subA hs) w0 c
variable (hl:G.length≤900)
include hl
theorem Gp.formulas:FnIn Tryz.prog 28 [x.pa] w0 H fun v H' => ∃ A cap,v=sl A (aq G).length cap∧H' = .own A 24 2 (aq G).length cap ((aq G).flatMap aw)::H:=h.a.formulas_any x.gg x.gm (MSub.trans x.subA hs) w0 hl
theorem Gp.edges:FnIn Tryz.prog 77 [x.pa] w0 H fun v H' => ∃ A cap,v=sl A (dS G).length cap∧H' = .own A 151 4 (dS G).length cap ((dS G).flatMap dm)::H:=h.a.edges_any x.gg x.gm (MSub.trans x.subA hs) w0 hl
theorem Gp.users (r:Rct):FnIn Tryz.prog 53 [x.pa,.agg (aH r).toArray] w0 H fun v H' => ∃ A cap,v=sl A (cj G r).length cap∧H' = .own A 24 2 (cj G r).length cap ((cj G r).flatMap aw)::H:=h.a.users_any x.gg x.gm (MSub.trans x.subA hs) w0 hl h.g r
theorem Gp.usesB (c:Rf):FnIn Tryz.prog 81 [x.pb,aO c] w0 H fun v H' => ∃ A cap,v=sl A (aD G c).length cap∧H' = .own A 89 6 (aD G c).length cap ((aD G c).flatMap bQ)::H:=h.b.uses_any hl x.gr x.A x.cap (MSub.trans x.subB hs) w0 c
theorem Gp.treeB (c:Rf):FnIn Tryz.prog 82 [x.pb,aO c] w0 H fun v H' => ∃ A cap,v= .tuple #[sl A (gy G c).length cap,.bool (isG G c)]∧H' = .own A 157 11 (gy G c).length cap ((gy G c).flatMap bg)::H:=h.b.tree_any hl x.gr x.A x.cap (MSub.trans x.subB hs) w0 c
theorem Gp.formulasB:FnIn Tryz.prog 78 [x.pb] w0 H fun v H' => ∃ A cap,v=sl A (aq G).length cap∧H' = .own A 24 2 (aq G).length cap ((aq G).flatMap aw)::H:=h.b.formulas_any hl x.gr x.A x.cap (MSub.trans x.subB hs) w0
theorem Gp.edgesB:FnIn Tryz.prog 80 [x.pb] w0 H fun v H' => ∃ A cap,v=sl A (dS G).length cap∧H' = .own A 151 4 (dS G).length cap ((dS G).flatMap dm)::H:=h.b.edges_any hl x.gr x.A x.cap (MSub.trans x.subB hs) w0 h.g
end
end Go.SL
namespace Go.SL
open Go
theorem E6 (G:Gr):(dS G).length≤G.length*G.length:=by
 unfold dS
 have: ∀ L:Gr,(L.flatMap fun e=>(G.filter fun f=>ia e.2.2 f.1).map fun f=>(e.1,f.1)).length≤L.length*G.length:=by
  intro L
  induction L with
  |nil=>simp
  |cons a r ih=>
   rw [Pd,O2,Ps,Pe,QH,RK]
   have:=QE (fun f:Rf × List Nd × List Us=>ia a.2.2 f.1) G
   omega
 exact this G
theorem xO {G:Gr} (h:GrOk G) (c:Rf):(aD G c).length≤256:=by
 unfold aD
 cases hl:kI G c with
 |none=>simp
 |some x=>
  have h1:=h.ent _ ((mO h.sort).1 hl)
  simp only [Qb,Option.getD_some]
  rw [h1.uses]
  exact PK (fL _ _) h1.len
theorem GZ {G:Gr} (h:GrOk G) (c:Rf):(gy G c).length≤256:=by
 unfold gy
 cases hl:kI G c with
 |none=>simp
 |some x=>
  have h1:=h.ent _ ((mO h.sort).1 hl)
  simpa using h1.len
end Go.SL
namespace Go.SL
open Go Go.Proofs
attribute [local irreducible] W WL WQ WG WA WX WLI WR WT WC VOp RW thn blk bZ scp bA bV ck FnAt FnIn FnP ceP
theorem AB {L M:List Us} (h:L=M) {lv mv:Value} {w:World} (hl:Reads w lv L.length (L.flatMap bQ)) (hm:Reads w mv M.length (M.flatMap bQ)):aF Tryz.prog 83 [lv,mv] w (.bool true):=by
 have:=AC L M lv mv w hl hm
 rwa [decide_eq_true h] at this
theorem iD {L M:List Rf} (h:L=M) {lv mv:Value} {w:World} (hl:Reads w lv L.length (L.flatMap aw)) (hm:Reads w mv M.length (M.flatMap aw)):aF Tryz.prog 13 [lv,mv] w (.bool true):=by
 have:=AG L M lv mv w hl hm
 rwa [decide_eq_true h] at this
theorem xB {L M:List (Rf × Rf)} (h:L=M) {lv mv:Value} {w:World} (hl:Reads w lv L.length (L.flatMap dm)) (hm:Reads w mv M.length (M.flatMap dm)):aF Tryz.prog 79 [lv,mv] w (.bool true):=by
 have:=xC L M lv mv w hl hm
 rwa [decide_eq_true h] at this
theorem AE {L M:List Nd} (h:L=M) {lv mv:Value} {w:World} (hl:Reads w lv L.length (L.flatMap bg)) (hm:Reads w mv M.length (M.flatMap bg)):aF Tryz.prog 84 [lv,mv] w (.bool true):=by
 have:=AF L M lv mv w hl hm
 rwa [decide_eq_true h] at this
theorem gY (L:List Rct): ∀ u∈L.flatMap aH,u.oneCell' =true:=by
 intro u hu
 obtain ⟨x,_,hx⟩:=RZ.1 hu
 simp only [aH,PF,RI,or_false] at hx
 rcases hx with rfl|rfl|rfl|rfl<;>rfl
theorem AH (L:List Rct) (tv:Value) (w:World) (ht:Reads w tv L.length (L.flatMap aH)) (hlen:L.length≤1000000):
  FnAt Tryz.prog 11 [tv] w fun v H=> ∃ A cap,v=sl A L.length cap∧H= [.own A 53 4 L.length cap (L.flatMap aH)]:=by
 refine aA Tryz.func11 rfl Tryz.ntmps11 rfl ?_
 have hl:(L.flatMap aH).length=L.length*4:=aQ kO L
 refine aK 53 4 ?_
 repeat' (first|(apply cB (n' :=0) (c:=0) (A:=none) (m:=L.length);(iterate 3 exact rfl);exact pK;(intro w hm;exact ht.of_w0 hm);exact hl;exact gY L;omega;(simp only [maxLen];omega);intro A' cap' hA)|refine sT ?_|refine sM fun _=> ?_|(refine sC ?_ ?_<;>intro hb<;>try omega)|fail)
 exact bK (.inl rfl) Tryz.results11 rfl (H' := [.own A' 53 4 (0+L.length) cap' ([]++L.flatMap aH)]) mS ⟨A',cap',by rw [Pn],by rw [Pn];rfl⟩
theorem JN {xs:List Value} {L:List Rf} {i:Nat} (h:i<L.length) (hx:xs.length=i*2):
  ∃ ys:List Value,ys.length=(i+1)*2∧(xs++(L.drop i).flatMap aw).take (0+i*2)++aw ⟨0,0⟩++(xs++(L.drop i).flatMap aw).drop (0+i*2+2)=ys++(L.drop (i+1)).flatMap aw:=by
 refine ⟨xs++aw ⟨0,0⟩,by simp [aw,hx];omega,?_⟩
 rw [Pf h,Pd]
 have e1:(xs++(aw L[i]++(L.drop (i+1)).flatMap aw)).take (0+i*2)=xs:=by
  rw [Pn,← hx,SM]
  rfl
 have e2:(xs++(aw L[i]++(L.drop (i+1)).flatMap aw)).drop (0+i*2+2)=(L.drop (i+1)).flatMap aw:=by
  rw [← Pg,List.drop_left']
  simp [aw,hx]
 rw [e1,e2]
set_option maxHeartbeats 4000000 in
theorem Mx (x:Gp) (G:Gr) (h:x.ok G) (hl:G.length≤900) {H:List Blk} (hH:MSub x.H H) (w0:World):
  FnIn Tryz.prog 24 [.agg #[x.pa,x.pb]] w0 H fun v H' =>v= .bool true∧H' =H:=by
 refine bM Tryz.func24 rfl Tryz.ntmps24 rfl ?_
 have hF:=fun (H:List Blk) (hs:MSub x.H H)=>x.formulas G h hs w0 hl
 have hE:=fun (H:List Blk) (hs:MSub x.H H)=>x.edges G h hs w0 hl
 have hF2:=fun (H:List Blk) (hs:MSub x.H H)=>x.formulasB G h hs w0 hl
 have hE2:=fun (H:List Blk) (hs:MSub x.H H)=>x.edgesB G h hs w0 hl
 have hU:=fun (c:Rf) (H:List Blk) (hs:MSub x.H H)=>x.usesA G h hs w0 c
 have hU2:=fun (c:Rf) (H:List Blk) (hs:MSub x.H H)=>x.usesB G h hs w0 hl c
 have hT:=fun (c:Rf) (H:List Blk) (hs:MSub x.H H)=>x.treeA G h hs w0 c
 have hT2:=fun (c:Rf) (H:List Blk) (hs:MSub x.H H)=>x.treeB G h hs w0 hl c
 have hul:=fun c=>xO h.g c
 have htl:=fun c=>GZ h.g c
 have hkl:(aq G).length≤900:=by rw [aq,Ps];exact hl
 have hel:(dS G).length≤1000000:=by
  refine PK (E6 G) ?_
  exact PK (Nat.mul_le_mul hl hl) (by decide)
 generalize aq G=K at hF hF2 hkl
 generalize dS G=P at hE hE2 hel
 repeat' (first|refine sT ?_|refine sS ?_|refine sM fun _=> ?_|(refine sC ?_ ?_<;>intro hb<;>try omega)|fail)
 rename_i g1
 refine fj (id:=1) [2,5] [] [.box g1 29 [x.pa,x.pb]] (by kernel_rfl) (by kernel_rfl) (by kernel_rfl) (MSub.pick .hd (MSub.nil _)) ?_
 repeat' (first|(apply ak (f:=28);exact rfl;exact rfl;exact hF _ (MSub.trans hH mS);rintro _ _ ⟨A1,c1,rfl,rfl⟩)|(apply ak (f:=77);exact rfl;exact rfl;exact hE _ (MSub.trans hH mS);rintro _ _ ⟨A2,c2,rfl,rfl⟩)|refine sT ?_|refine sS ?_|refine sW ?_|refine sM fun _=> ?_|(refine sC ?_ ?_<;>intro hb<;>try omega)|(refine sCW ?_ ?_<;>intro hb<;>try omega)|fail)
 all_goals try (exfalso;omega)
 repeat' (first|(apply ak (f:=78);exact rfl;exact rfl;exact hF2 _ (MSub.trans hH mS);rintro _ _ ⟨A3,c3,rfl,rfl⟩)|(apply ak (f:=80);exact rfl;exact rfl;exact hE2 _ (MSub.trans hH mS);rintro _ _ ⟨A4,c4,rfl,rfl⟩)|(apply aa (f:=13);exact rfl;exact rfl;(intro w' hm;exact iD rfl (Reads.of_own hm pK) (Reads.of_own hm pK)))|(apply aa (f:=79);exact rfl;exact rfl;(intro w' hm;exact xB rfl (Reads.of_own hm pK) (Reads.of_own hm pK)))|refine sT ?_|refine sS ?_|refine sM fun _=> ?_|(refine sC ?_ ?_<;>intro hb<;>try omega)|fail)
 all_goals try (exfalso;omega)
 refine ax [1,3,4] rfl (fun y:Nat × List Value=> [(5,.int .i64 (y.1:Int))]) (fun y=> .own A2 151 4 P.length c2 y.2:: .own A1 24 2 K.length c1 (K.flatMap aw):: .box g1 29 [x.pa,x.pb]::H) (fun y=>y.1≤P.length∧y.2.length=P.length*4) (fun y=>P.length - y.1) (0,P.flatMap dm) ⟨Pb _,aQ r9 _⟩ sB mS ?_
 rintro ⟨i,xs⟩ ⟨hi,hxs⟩
 dsimp only at hi hxs ⊢
 refine xI (A:=A2) .hd fun q1 q2 q3=> ?_
 by_cases hlt:i<P.length
 ·
  refine bW (A:=A2) .hd (by omega) fun gp hA=> ?_
  subst hA
  repeat' (first|(apply aj;exact rfl;apply ag;exact rfl;exact rfl;exact hlt)|(apply aj;exact rfl;apply xL;(iterate 3 exact rfl))|(apply iO (vs:=aw ⟨0,0⟩);exact rfl;exact rfl;exact pK;exact rfl;exact rfl;decide;omega)|refine sT ?_|refine sS ?_|refine sN ?_|refine sM fun _=> ?_|(refine sC ?_ ?_<;>intro hb<;>try omega)|fail)
  refine ⟨(i+1,xs.take (0+i*4)++aw ⟨0,0⟩++xs.drop (0+i*4+2)),?_,(by first|omega|(dsimp only;omega)),sB,sB,mS⟩
  refine ⟨hlt,?_⟩
  simp only [O2,Pr,Pp,show (aw ⟨0,0⟩).length=2 from rfl]
  omega
 ·
  repeat' (first|refine sT ?_|refine sS ?_|refine sN ?_|refine sM fun _=> ?_|(refine sC ?_ ?_<;>intro hb<;>try omega)|fail)
  refine ax [1,3] rfl (fun y:Nat × List Value=> [(6,.int .i64 (y.1:Int))]) (fun y=> .own A1 24 2 K.length c1 (y.2++(K.drop y.1).flatMap aw):: .box g1 29 [x.pa,x.pb]::H) (fun y=>y.1≤K.length∧y.2.length=y.1*2) (fun y=>K.length - y.1) (0,[]) ⟨Pb _,rfl⟩ sB mS ?_
  rintro ⟨i,xs⟩ ⟨hi,hxs⟩
  dsimp only at hi hxs ⊢
  by_cases hlt:i<K.length
  ·
   refine xI (A:=A1) .hd fun q1 q2 q3=> ?_
   refine bW (A:=A1) .hd (by omega) fun gk hA=> ?_
   subst hA
   obtain ⟨ys,hys,hover⟩:=JN hlt hxs
   have hread:((xs++(K.drop i).flatMap aw).drop (0+i*2)).take 2=aw K[i]:=by
    rw [Pn,← hxs,List.drop_left',Pf hlt,Pd,SM]
    ·
     rfl
    ·
     rfl
   generalize K[i]=c at hread
   have hsz:(xs++(K.drop i).flatMap aw).length=K.length*2:=q1
   repeat' (first|(apply aj;exact rfl;apply ag;exact rfl;exact rfl;exact hlt)|(apply aj;exact rfl;apply az;exact rfl;exact pK;exact hread;exact rfl)|(apply iO (vs:=aw ⟨0,0⟩);exact rfl;exact rfl;exact pK;exact rfl;exact rfl;decide;(rw [hsz];omega))|refine sT ?_|refine sS ?_|refine sN ?_|refine sM fun _=> ?_|(refine sC ?_ ?_<;>intro hb<;>try omega)|fail)
   rename_i g7
   rw [hover]
   have u1:=hU c
   have u2:=hU2 c
   have u3:=hul c
   have t1:=hT c
   have t2:=hT2 c
   have t3:=htl c
   generalize aD G c=U at u1 u2 u3
   generalize gy G c=T at t1 t2 t3
   generalize isG G c=b at t1 t2
   refine fj (id:=13) [3,7] [] [.box g7 24 (aw c),.box g1 29 [x.pa,x.pb]] (by kernel_rfl) (by kernel_rfl) (by kernel_rfl) mS ?_
   repeat' (first|(apply ak (f:=38);exact rfl;exact rfl;exact u1 _ (MSub.trans hH mS);rintro _ _ ⟨A5,c5,rfl,rfl⟩)|(apply ak (f:=81);exact rfl;exact rfl;exact u2 _ (MSub.trans hH mS);rintro _ _ ⟨A6,c6,rfl,rfl⟩)|(apply ak (f:=33);exact rfl;exact rfl;exact t1 _ (MSub.trans hH mS);rintro _ _ ⟨A7,c7,rfl,rfl⟩)|(apply ak (f:=82);exact rfl;exact rfl;exact t2 _ (MSub.trans hH mS);rintro _ _ ⟨A8,c8,rfl,rfl⟩)|(apply aa (f:=83);exact rfl;exact rfl;(intro w' hm;exact AB rfl (Reads.of_own hm pK) (Reads.of_own hm pK)))|(apply aa (f:=84);exact rfl;exact rfl;(intro w' hm;exact AE rfl (Reads.of_own hm pK) (Reads.of_own hm pK)))|(apply aj;exact rfl;apply pJ;exact rfl;exact rfl)|refine sT ?_|refine sS ?_|refine sW ?_|refine sM fun _=> ?_|(refine sC ?_ ?_<;>intro hb<;>try omega)|(refine sCW ?_ ?_<;>intro hb<;>try omega)|fail)
   all_goals first|(exfalso;omega)|(exfalso;simp at hb;done)|skip
   refine ax [1,3,6,8,10] rfl (fun y:Nat × List Value=> [(14,.int .i64 (y.1:Int))]) (fun y=> .own A5 89 6 U.length c5 y.2:: .own A7 157 11 T.length c7 (T.flatMap bg):: .own (some gk) 24 2 K.length c1 (ys++(K.drop (i+1)).flatMap aw):: .box g1 29 [x.pa,x.pb]::H) (fun y=>y.1≤U.length∧y.2.length=U.length*6) (fun y=>U.length - y.1) (0,U.flatMap bQ) ⟨Pb _,aQ gG _⟩ sB mS ?_
   rintro ⟨k,us⟩ ⟨hk,hus⟩
   dsimp only at hk hus ⊢
   by_cases hku:k<U.length
   ·
    refine bW (A:=A5) .hd (by omega) fun gu hA=> ?_
    subst hA
    repeat' (first|(apply aj;exact rfl;apply ag;exact rfl;exact rfl;exact hku)|(apply dW;exact rfl;exact rfl;exact pK;exact rfl;omega)|refine sT ?_|refine sS ?_|refine sN ?_|refine sM fun _=> ?_|(refine sC ?_ ?_<;>intro hb<;>try omega)|fail)
    refine ⟨(k+1,us.set (0+k*6) (.int .i64 0)),?_,(by first|omega|(dsimp only;omega)),sB,sB,mS⟩
    exact ⟨hku,by simpa using hus⟩
   ·
    repeat' (first|refine sT ?_|refine sS ?_|refine sN ?_|refine sM fun _=> ?_|(refine sC ?_ ?_<;>intro hb<;>try omega)|fail)
    refine ax [1,3,6,10] rfl (fun y:Nat × List Value=> [(15,.int .i64 (y.1:Int))]) (fun y=> .own A7 157 11 T.length c7 y.2:: .own (some gk) 24 2 K.length c1 (ys++(K.drop (i+1)).flatMap aw):: .box g1 29 [x.pa,x.pb]::H) (fun y=>y.1≤T.length∧y.2.length=T.length*11) (fun y=>T.length - y.1) (0,T.flatMap bg) ⟨Pb _,aQ cE _⟩ sB mS ?_
    rintro ⟨k,us⟩ ⟨hk,hus⟩
    dsimp only at hk hus ⊢
    by_cases hku:k<T.length
    ·
     refine bW (A:=A7) .hd (by omega) fun gu hA=> ?_
     subst hA
     repeat' (first|(apply aj;exact rfl;apply ag;exact rfl;exact rfl;exact hku)|(apply dW;exact rfl;exact rfl;exact pK;exact rfl;omega)|refine sT ?_|refine sS ?_|refine sN ?_|refine sM fun _=> ?_|(refine sC ?_ ?_<;>intro hb<;>try omega)|fail)
     refine ⟨(k+1,us.set (0+k*11) (.int .u8 0)),?_,(by first|omega|(dsimp only;omega)),sB,sB,mS⟩
     exact ⟨hku,by simpa using hus⟩
    ·
     repeat' (first|refine sT ?_|refine sS ?_|refine sN ?_|refine sM fun _=> ?_|(refine sC ?_ ?_<;>intro hb<;>try omega)|fail)
     refine ⟨(i+1,ys),?_,(by first|omega|(dsimp only;omega)),sB,sB,mS⟩
     exact ⟨hlt,hys⟩
  ·
   repeat' (first|refine sT ?_|refine sS ?_|refine sN ?_|refine sM fun _=> ?_|(refine sC ?_ ?_<;>intro hb<;>try omega)|fail)
   all_goals exact bK eIO rfl rfl (H' :=H) mS ⟨rfl,rfl⟩
theorem Fx (w:World):FnAt Tryz.prog 85 [] w fun v H=> ∃ g,v= .slice (some ⟨g,0,none⟩) 4 4∧H= [.own (some g) 73 3 4 4 (exL.flatMap pu)]:=by
 refine aA Tryz.func85 rfl Tryz.ntmps85 rfl ?_
 repeat' (first|refine sT ?_|refine sS ?_|refine sM fun _=> ?_|(refine sC ?_ ?_<;>intro hb<;>try omega)|fail)
 all_goals exact bK eIO rfl rfl (MSub.refl _) ⟨_,rfl,rfl⟩
theorem Iz (L:List Pu) (tv:Value) (w:World) (ht:Reads w tv L.length (L.flatMap tA)) (hW:Words w):
  FnAt Tryz.prog 9 [tv] w fun v H=> ∃ x:Gp,v= .tuple #[.agg #[x.pa,x.pb],.bool true]∧H=x.H∧x.ok (rG L):=
 (KH L tv w ht hW).mono fun v H ⟨x,h1,h2,h3⟩=>⟨x.p,h1,h2,Gs.p_ok h3⟩
theorem Hq {L:List Rf} {k:Nat} (h:k<L.length):((L.flatMap aw).drop (0+k*2)).take 2=aw L[k]:=by
 rw [Pn]
 exact cK dO L k h
theorem zn {P:Program} {w0:World} {s:aB} {H:List Blk} {ty t t' :TypeId} [Und P t .bool] {x y:Operand} {b:Bool} (hx:ev s x=some (.bool b)) (hy:ev s y=some (.bool b)):VOp P w0 s H (.binOp .neq t x y t') ty (.bool false):=by
 have h:=I8 (P:=P) (w0:=w0) (s:=s) (H:=H) (ty:=ty) (t:=t) (t' :=t') hx hy
 simpa using h
end Go.SL

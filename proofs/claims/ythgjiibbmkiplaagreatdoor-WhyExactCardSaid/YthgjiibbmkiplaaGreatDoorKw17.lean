/-
  Lemmas and walks, put together: S5 S6 Wa.
-/
import Derived.Test.YthgjiibbmkiplaaGreatDoorKw10
import Derived.Test.YthgjiibbmkiplaaGreatDoorKw11
import Derived.Test.YthgjiibbmkiplaaGreatDoorKw16
set_option linter.unusedSimpArgs false
set_option linter.unusedVariables false
set_option maxRecDepth 20000
set_option maxHeartbeats 16000000
namespace Go.Proofs
open Go Go.Shelf Go.RowKit Go.Lib Go.Sort Go.SL
theorem Tryz.nanX (a:Int) (W:World):Calls Tryz.prog 137 #[.int .i64 a] W fun e w' =>e= .returned (.bool false)∧w' =W:=by
 go_enter Tryz.func137,Tryz.ntmps137
 go_wp2
 all_goals
  go_ret
  exact ⟨by simp,rfl⟩
theorem Tryz.cmpX (a b:Int) (W:World):Calls Tryz.prog 101 #[.int .i64 a,.int .i64 b] W fun e w' =>e= .returned (.int .i64 (lD a b))∧w' =W:=by
 unfold lD
 go_enter Tryz.func101,Tryz.ntmps101
 go_wp2_with (go_at_call 137;refine (Tryz.nanX _ _).mono ?_;rintro e w' ⟨rfl,rfl⟩)
 all_goals
  go_ret
  exact ⟨by first|rfl|(repeat' split)<;>first|rfl|omega,rfl⟩
theorem Tryz.orX (x0 x1 x2 x3:Int) (g c:Nat) (W:World) (h0:W.cell? ⟨g,0,none⟩=some (.int .i64 x0)) (h1:W.cell? ⟨g,1,none⟩=some (.int .i64 x1)) (h2:W.cell? ⟨g,2,none⟩=some (.int .i64 x2)) (h3:W.cell? ⟨g,3,none⟩=some (.int .i64 x3)):
 Calls Tryz.prog 100 #[.slice (some ⟨g,0,none⟩) 4 c] W fun e w' =>e= .returned (.int .i64 (orI x0 x1 x2 x3))∧w' =W:=by
 unfold orI
 go_enter Tryz.func100,Tryz.ntmps100
 go_wp2
 refine wp_loop_rounds 5 ?_;rw [rounds_succ]
 go_wp2
 all_goals first
  |rw [rounds_succ];go_wp2
  |skip
 all_goals first
  |rw [rounds_succ];go_wp2
  |skip
 all_goals first
  |rw [rounds_succ];go_wp2
  |skip
 all_goals first
  |rw [rounds_succ];go_wp2
  |skip
 all_goals first
  | (go_ret
     exact ⟨by first|rfl|(congr 2;simp_all;done),rfl⟩)
theorem Lays.drew {W X:World} (h:Lays W X):Lays W X.drew:=by
 obtain ⟨q,os,rfl⟩:=h;exact ⟨q+1,os,rfl⟩
theorem wZ (W:World) (cs:Array Value) (T:TypeId) {g j:Nat} {v:Value} (hg:g=W.heap.size) (hv:cs[j]? =some v):(W.alloc (Obj.cells cs T)).cell? ⟨g,j,none⟩=some v:=by
 subst hg;have e:(W.alloc (Obj.cells cs T)).heap[W.heap.size]? =some (Obj.cells cs T):=by
  show (W.heap.push _)[W.heap.size]? =_;rw [Yz,if_pos rfl]
 simp only [World.cell?,e];exact hv
theorem Tryz.leavesX (a b:Rct) (W:World):Calls Tryz.prog 99 #[.agg #[.int .i64 a.c1,.int .i64 a.r1,.int .i64 a.c2,.int .i64 a.r2],.agg #[.int .i64 b.c1,.int .i64 b.r1,.int .i64 b.c2,.int .i64 b.r2]] W fun e w' =>e= .returned (.int .i64 (cj a b))∧ ∃ q os',w' =grow (W.drewN q) os' :=by
 unfold cj;have hor: ∀ (o1 o2:Obj) (T:TypeId),Calls Tryz.prog 100 #[.slice (some ⟨W.heap.size+1+1,0,none⟩) 4 4] (((W.alloc o1).alloc o2).alloc (Obj.cells #[.int .i64 (lD a.r1 b.r1),.int .i64 (lD a.c1 b.c1),.int .i64 (lD a.r2 b.r2),.int .i64 (lD a.c2 b.c2)] T)).drew fun e w' =>e= .returned (.int .i64 (orI (lD a.r1 b.r1) (lD a.c1 b.c1) (lD a.r2 b.r2) (lD a.c2 b.c2)))∧w' =(((W.alloc o1).alloc o2).alloc (Obj.cells #[.int .i64 (lD a.r1 b.r1),.int .i64 (lD a.c1 b.c1),.int .i64 (lD a.r2 b.r2),.int .i64 (lD a.c2 b.c2)] T)).drew:=fun o1 o2 T=>by
  have hg:W.heap.size+1+1=((W.alloc o1).alloc o2).heap.size:=by
   show _=((W.heap.push o1).push o2).size;rw [X9,X9]
  exact Tryz.orX _ _ _ _ _ _ _ (wZ _ _ _ hg rfl) (wZ _ _ _ hg rfl) (wZ _ _ _ hg rfl) (wZ _ _ _ hg rfl)
 go_enter Tryz.func99,Tryz.ntmps99
 go_wp2
 go_region_held3 (fun w' =>w'.cell? ⟨W.heap.size,0,none⟩=some (.int .i64 a.c1)∧w'.cell? ⟨W.heap.size,1,none⟩=some (.int .i64 a.r1)∧w'.cell? ⟨W.heap.size,2,none⟩=some (.int .i64 a.c2)∧w'.cell? ⟨W.heap.size,3,none⟩=some (.int .i64 a.r2)∧w'.cell? ⟨W.heap.size+1,0,none⟩=some (.int .i64 b.c1)∧w'.cell? ⟨W.heap.size+1,1,none⟩=some (.int .i64 b.r1)∧w'.cell? ⟨W.heap.size+1,2,none⟩=some (.int .i64 b.c2)∧w'.cell? ⟨W.heap.size+1,3,none⟩=some (.int .i64 b.r2)) (go_keep)
  (first|go_at_call 101;refine (Tryz.cmpX _ _ _).mono ?_;rintro e w' ⟨rfl,rfl⟩|go_at_call 100;refine (hor _ _ _).mono ?_;rintro e w' ⟨rfl,rfl⟩)
 all_goals
  go_wp2
 all_goals
  go_ret
  exact ⟨rfl,by first|exact (((((Lays.refl W).alloc _).alloc _).alloc _)).drew⟩
theorem xd (a b:Int):lD a b<0↔a<b:=by unfold lD;split<;>(try split)<;>omega
theorem Dz (a b:Int):lD a b≠0↔a≠b:=by unfold lD;split<;>(try split)<;>omega
theorem nF (x y:Rct):ltOf cj x y=decide (x.r1<y.r1∨x.r1=y.r1∧(x.c1<y.c1∨x.c1=y.c1∧(x.r2<y.r2∨x.r2=y.r2∧x.c2<y.c2))):=by
 unfold ltOf cj orI;rw [XY];simp only [decide_eq_true_eq];have c1:=xd x.r1 y.r1;have c2:=xd x.c1 y.c1;have c3:=xd x.r2 y.r2;have c4:=xd x.c2 y.c2;have d1:=Dz x.r1 y.r1;have d2:=Dz x.c1 y.c1;have d3:=Dz x.r2 y.r2;repeat' split
 all_goals omega
theorem xR:SWO (ltOf cj):={
 irrefl x:=by rw [nF];simp
 trans x y z h1 h2:=by rw [nF] at*;simp only [decide_eq_true_eq] at*;omega
 ntrans x y z h1 h2:=by rw [nF] at*;simp only [decide_eq_false_iff_not] at*;omega }
theorem N0 (x y:Rct) (h1:ltOf cj x y=false) (h2:ltOf cj y x=false):x=y:=by
 rw [nF] at h1 h2;obtain ⟨a,b,c,d⟩:=x;obtain ⟨e,f,g,h⟩:=y;simp only [decide_eq_false_iff_not] at h1 h2;simp;omega
instance iN10:Inhabited Rct:=⟨⟨0,0,0,0⟩⟩
theorem Tryz.sortRc_calls (blk off cap:Nat) (d:Array Rct) (w:World) (hH:HoldsK ay 4 w blk off d) (hblk:blk<w.heap.size) (hsz:d.size<4611686018427387904):
 Calls Tryz.prog 98 #[.slice (some ⟨blk,off,none⟩) d.size cap,.func (.func 99) #[] #[]] w fun e w' =>
  e= .returned (.tuple #[])∧ ∃ n os,w' =sortWorldK ay 4 w blk off n (d.toList.mergeSort fun x y=> !(ltOf cj) y x).toArray os:=by
 have eg: ∀ args w,(callFunc 99 args).run Tryz.prog w= .ok (.enter 99 args) w:=enters_of Tryz.func99 (by kernel_rfl) rfl;exact AnyQ.slices_SortFunc_total Tryz.sortRc 4 (fun w=>by have h:=Tryz.underlying31;show (isAgg 31).run _ w=_;simp [isAgg,run_underlying h]) (fun w=>by obtain ⟨i,h1,h2⟩:=(inferInstance:Size Tryz.prog 31 4).out;show (Go.sizeOf 31).run _ w=_;simp [Go.sizeOf,typeInfo,h1,h2]) ay (fun _=>rfl) (fun x v hv=>by simp [ay] at hv;rcases hv with rfl|rfl|rfl|rfl<;>rfl) cj xR 99 #[] blk off cap d w eg (fun _ _ _ _ x y=>Tryz.leavesX x y _) hH hblk hsz N0
end Go.Proofs
namespace Go.SL
open Go Go.Proofs Go.Sort Go.Shelf
theorem wG (p:Option Addr) (cap:Nat) (fv:Value) (w:World):Calls Tryz.prog 98 #[.slice p 0 cap,fv] w fun e w' =>e= .returned (.tuple #[])∧w' =w:=AnyF.slices_SortFunc_none Tryz.sortRc p cap fv w
theorem CQ (L:List Rct) (A:Option Nat) (cap:Nat) (hL:L.length≤1000000) (R:List Blk) (w0:World):
 FnIn Tryz.prog 98 [sl A L.length cap,.func (.func 99) #[] #[]] w0 (.own A 31 4 L.length cap (L.flatMap ay)::R) fun v H=>v= .tuple #[]∧H= .own A 31 4 L.length cap ((sortRc L).flatMap ay)::R:=
 xV (enc:=ay) (k:=4) sortRc (fun _=>rfl) (by decide) (fun L=>by simp [sortRc]) (fun blk off cap d w h1 h2 h3=>by
  have h:=Tryz.sortRc_calls blk off cap d w h1 h2 h3;have heq:(d.toList.mergeSort fun x y=> !(ltOf cj) y x)=sortRc d.toList:=rfl;rw [heq] at h;exact h) wG L A cap hL R w0
end Go.SL
namespace Go.Proofs
open Go Go.Shelf Go.RowKit Go.Lib Go.Sort Go.SL
def Tryz.sortWr_ren:Go.Shelf.Ren:=⟨fun|6=>106|15=>105|14=>151|28=>149|29=>150|20=>197|21=>198|22=>199|23=>200|24=>201|25=>202|26=>203|27=>204|46=>242|47=>193|48=>194|49=>243|50=>244|57=>274|n=>n,fun|22=>123|24=>127|25=>200|3=>3|39=>60|0=>0|53=>202|55=>57|4=>4|46=>247|45=>246|50=>163|5=>5|9=>9|66=>298|70=>302|76=>345|77=>346|n=>n,fun|n=>n⟩
theorem Tryz.sortWr:Go.Proofs.SlLaysF0.n6 Tryz.prog Tryz.sortWr_ren:={
 mixed:=by kernel_rfl
 f6:=⟨Tryz.f106.name,by decide,Tryz.func106.trans (congrArg some (by kernel_rfl))⟩
 f14:=⟨Tryz.f151.name,by decide,Tryz.func151.trans (congrArg some (by kernel_rfl))⟩
 f15:=Tryz.func105.trans (congrArg some (by kernel_rfl))
 f20:=⟨Tryz.f197.name,by decide,Tryz.func197.trans (congrArg some (by kernel_rfl))⟩
 f21:=⟨Tryz.f198.name,by decide,Tryz.func198.trans (congrArg some (by kernel_rfl))⟩
 f22:=⟨Tryz.f199.name,by decide,Tryz.func199.trans (congrArg some (by kernel_rfl))⟩
 f23:=⟨Tryz.f200.name,by decide,Tryz.func200.trans (congrArg some (by kernel_rfl))⟩
 f24:=⟨Tryz.f201.name,by decide,Tryz.func201.trans (congrArg some (by kernel_rfl))⟩
 f25:=⟨Tryz.f202.name,by decide,Tryz.func202.trans (congrArg some (by kernel_rfl))⟩
 f26:=⟨Tryz.f203.name,by decide,Tryz.func203.trans (congrArg some (by kernel_rfl))⟩
 f27:=⟨Tryz.f204.name,by decide,Tryz.func204.trans (congrArg some (by kernel_rfl))⟩
 f28:=Tryz.func149.trans (congrArg some (by kernel_rfl))
 f29:=Tryz.func150.trans (congrArg some (by kernel_rfl))
 f46:=⟨Tryz.f242.name,by decide,Tryz.func242.trans (congrArg some (by kernel_rfl))⟩
 f47:=Tryz.func193.trans (congrArg some (by kernel_rfl))
 f48:=Tryz.func194.trans (congrArg some (by kernel_rfl))
 f49:=⟨Tryz.f243.name,by decide,Tryz.func243.trans (congrArg some (by kernel_rfl))⟩
 f50:=⟨Tryz.f244.name,by decide,Tryz.func244.trans (congrArg some (by kernel_rfl))⟩
 f57:=⟨Tryz.f274.name,by decide,Tryz.func274.trans (congrArg some (by kernel_rfl))⟩
 t0:=Tryz.underlying0
 a0:=Tryz.isAgg0
 z0:=Tryz.sizeOf0
 v0:=Tryz.zeroValue0
 t3:=Tryz.underlying3
 a3:=Tryz.isAgg3
 z3:=Tryz.sizeOf3
 v3:=Tryz.zeroValue3
 t4:=Tryz.underlying4
 a4:=Tryz.isAgg4
 z4:=Tryz.sizeOf4
 v4:=Tryz.zeroValue4
 t5:=Tryz.underlying5
 a5:=Tryz.isAgg5
 z5:=Tryz.sizeOf5
 v5:=Tryz.zeroValue5
 t9:=Tryz.underlying9
 a9:=Tryz.isAgg9
 z9:=Tryz.sizeOf9
 v9:=Tryz.zeroValue9
 t22:=Tryz.underlying123
 a22:=Tryz.isAgg123
 z22:=Tryz.sizeOf123
 v22:=Tryz.zeroValue123
 t25:=Tryz.underlying200
 a25:=Tryz.isAgg200
 z25:=Tryz.sizeOf200
 v25:=Tryz.zeroValue200
 t39:=Tryz.underlying60
 a39:=Tryz.isAgg60
 z39:=Tryz.sizeOf60
 v39:=Tryz.zeroValue60
 t45:=Tryz.underlying246
 a45:=Tryz.isAgg246
 z45:=Tryz.sizeOf246
 v45:=Tryz.zeroValue246
 t46:=Tryz.underlying247
 a46:=Tryz.isAgg247
 z46:=Tryz.sizeOf247
 v46:=Tryz.zeroValue247
 t50:=Tryz.underlying163
 a50:=Tryz.isAgg163
 z50:=Tryz.sizeOf163
 v50:=Tryz.zeroValue163
 t53:=Tryz.underlying202
 a53:=Tryz.isAgg202
 z53:=Tryz.sizeOf202
 v53:=Tryz.zeroValue202
 t55:=Tryz.underlying57
 a55:=Tryz.isAgg57
 z55:=Tryz.sizeOf57
 v55:=Tryz.zeroValue57
 t66:=Tryz.underlying298
 a66:=Tryz.isAgg298
 z66:=Tryz.sizeOf298
 v66:=Tryz.zeroValue298
 t70:=Tryz.underlying302
 a70:=Tryz.isAgg302
 z70:=Tryz.sizeOf302
 v70:=Tryz.zeroValue302
 t76:=Tryz.underlying345
 a76:=Tryz.isAgg345
 z76:=Tryz.sizeOf345
 v76:=Tryz.zeroValue345
 t77:=Tryz.underlying346
 a77:=Tryz.isAgg346
 z77:=Tryz.sizeOf346
 v77:=Tryz.zeroValue346 }
theorem rp {x:Int} (h: -1000000≤x∧x≤1000000):IntKind.i64.wrap x=x:=by
 rw [IntKind.wrap_i64];omega
abbrev Vf:={a:Rf // a.valid=true}
instance iN17:Inhabited Vf:=⟨⟨⟨1,1⟩,rfl⟩⟩
def BC (a:Vf):List Value:=aq a.1
def pG (a b:Vf):Int:=if a.1.row≠b.1.row then a.1.row - b.1.row else a.1.col - b.1.col
theorem Vf.bd (a:Vf):1≤a.1.col∧a.1.col≤1024∧1≤a.1.row∧a.1.row≤1024:=by
 have h:=a.2;unfold Rf.valid valid at h;simp only [Xo,decide_eq_true_eq] at h;omega
theorem pF (x y:Vf):ltOf pG x y=bE x.1 y.1:=by
 unfold ltOf pG bE;rw [XY];simp only [decide_eq_true_eq,Zn,Xo];split<;>omega
theorem Vy:SWO (ltOf pG):={
 irrefl x:=by rw [pF];simp [bE]
 trans x y z h1 h2:=by rw [pF] at*;simp [bE] at*;omega
 ntrans x y z h1 h2:=by rw [pF] at*;simp [bE] at*;omega }
theorem Vs (x y:Vf) (h1:ltOf pG x y=false) (h2:ltOf pG y x=false):x=y:=by
 rw [pF] at h1 h2;obtain ⟨⟨a,b⟩,_⟩:=x;obtain ⟨⟨c,d⟩,_⟩:=y;simp [bE] at h1 h2;simp;omega
theorem Tryz.beforeX (a b:Vf) (W:World):Calls Tryz.prog 118 #[.agg #[.int .i64 a.1.col,.int .i64 a.1.row],.agg #[.int .i64 b.1.col,.int .i64 b.1.row]] W fun e w' =>e= .returned (.int .i64 (pG a b))∧ ∃ q os',w' =grow (W.drewN q) os' :=by
 have ha:=a.bd;have hb:=b.bd;have h1:IntKind.i64.wrap (a.1.row - b.1.row)=a.1.row - b.1.row:=rp (by omega);have h2:IntKind.i64.wrap (a.1.col - b.1.col)=a.1.col - b.1.col:=rp (by omega);unfold pG
 go_enter Tryz.func118,Tryz.ntmps118
 go_wp2
 all_goals
  go_ret
  refine ⟨?_,0,_,by rw [alloc_eq_grow,alloc_eq_grow,grow_grow];rfl⟩
  first
   |rfl
   |congr 2;simp_all;done
theorem Tryz.sortVf_calls (blk off cap:Nat) (d:Array Vf) (w:World) (hH:HoldsK BC 2 w blk off d) (hblk:blk<w.heap.size) (hsz:d.size<4611686018427387904):
 Calls Tryz.prog 117 #[.slice (some ⟨blk,off,none⟩) d.size cap,.func (.func 118) #[] #[]] w fun e w' =>
  e= .returned (.tuple #[])∧ ∃ n os,w' =sortWorldK BC 2 w blk off n (d.toList.mergeSort fun x y=> !(ltOf pG) y x).toArray os:=by
 have eg: ∀ args w,(callFunc 118 args).run Tryz.prog w= .ok (.enter 118 args) w:=enters_of Tryz.func118 (by kernel_rfl) rfl;exact AnyQ.slices_SortFunc_total Tryz.sortRf 2 (fun w=>by have h:=Tryz.underlying34;show (isAgg 34).run _ w=_;simp [isAgg,run_underlying h]) (fun w=>by obtain ⟨i,h1,h2⟩:=(inferInstance:Size Tryz.prog 34 2).out;show (Go.sizeOf 34).run _ w=_;simp [Go.sizeOf,typeInfo,h1,h2]) BC (fun _=>rfl) (fun x v hv=>by simp [BC,aq] at hv;rcases hv with rfl|rfl<;>rfl) pG Vy 118 #[] blk off cap d w eg (fun _ _ _ _ x y=>Tryz.beforeX x y _) hH hblk hsz Vs
abbrev Vr:={x:Rn // 0≤x.1∧x.1≤1024}
instance iN18:Inhabited Vr:=⟨⟨(0,0),by decide⟩⟩
def cO (x:Rn):List Value:= [.int .i64 x.1,.int .i64 x.2]
theorem kE (x:Rn):(cO x).length=2:=rfl
def BA (x:Vr):List Value:=cO x.1
def y6 (a b:Vr):Int:=a.1.1 - b.1.1
theorem tP (x y:Vr):ltOf y6 x y=decide (x.1.1<y.1.1):=by
 unfold ltOf y6;rw [XY];simp only [decide_eq_true_eq];omega
theorem Vx:SWO (ltOf y6):={
 irrefl x:=by rw [tP];simp
 trans x y z h1 h2:=by rw [tP] at*;simp only [decide_eq_true_eq] at*;omega
 ntrans x y z h1 h2:=by rw [tP] at*;simp only [decide_eq_false_iff_not] at*;omega }
theorem Tryz.columnsX (a b:Vr) (W:World):Calls Tryz.prog 107 #[.agg #[.int .i64 a.1.1,.int .i64 a.1.2],.agg #[.int .i64 b.1.1,.int .i64 b.1.2]] W fun e w' =>e= .returned (.int .i64 (y6 a b))∧ ∃ q os',w' =grow (W.drewN q) os' :=by
 have ha:=a.2;have hb:=b.2;have h1:IntKind.i64.wrap (a.1.1 - b.1.1)=a.1.1 - b.1.1:=rp (by omega);unfold y6
 go_enter Tryz.func107,Tryz.ntmps107
 go_wp2
 all_goals
  go_ret
  refine ⟨?_,0,_,by rw [alloc_eq_grow,alloc_eq_grow,grow_grow];rfl⟩
  first
   |rfl
   |congr 2;simp_all;done
theorem Tryz.sortVr_calls (blk off cap:Nat) (d:Array Vr) (w:World) (hH:HoldsK BA 2 w blk off d) (hblk:blk<w.heap.size) (hsz:d.size<4611686018427387904):
 Calls Tryz.prog 106 #[.slice (some ⟨blk,off,none⟩) d.size cap,.func (.func 107) #[] #[]] w fun e w' =>
  e= .returned (.tuple #[])∧ ∃ d' n os,PermIn 0 d.size d d' ∧SortedIn (ltOf y6) 0 d.size d' ∧w' =sortWorldK BA 2 w blk off n d' os:=by
 have eg: ∀ args w,(callFunc 107 args).run Tryz.prog w= .ok (.enter 107 args) w:=enters_of Tryz.func107 (by kernel_rfl) rfl;exact AnyQ.slices_SortFunc Tryz.sortWr 2 (fun w=>by have h:=Tryz.underlying127;show (isAgg 127).run _ w=_;simp [isAgg,run_underlying h]) (fun w=>by obtain ⟨i,h1,h2⟩:=(inferInstance:Size Tryz.prog 127 2).out;show (Go.sizeOf 127).run _ w=_;simp [Go.sizeOf,typeInfo,h1,h2]) BA (fun _=>rfl) (fun x v hv=>by simp [BA,cO] at hv;rcases hv with rfl|rfl<;>rfl) y6 Vx 107 #[] blk off cap d w eg (fun _ _ _ _ x y=>Tryz.columnsX x y _) hH hblk hsz
end Go.Proofs
namespace Go.SL
open Go Go.Proofs Go.Sort Go.Shelf
section
variable {α:Type} [Inhabited α] {enc:α→List Value} {k:Nat}
theorem Ob {F fid T:Nat} {P:Program} (S:List α→List α→Prop) (hk: ∀ x,(enc x).length=k) (h0:0<k) (hlen: ∀ L M,S L M→M.length=L.length) (hnil:S [] [])
 (hs: ∀ (blk off cap:Nat) (d:Array α) (w:World),HoldsK enc k w blk off d→blk<w.heap.size→d.size<4611686018427387904→Calls P F #[.slice (some ⟨blk,off,none⟩) d.size cap,.func (.func fid) #[] #[]] w fun e w' =>e= .returned (.tuple #[])∧ ∃ d' n os,S d.toList d'.toList∧w' =sortWorldK enc k w blk off n d' os)
 (hn: ∀ (p:Option Addr) (cap:Nat) (fv:Value) (w:World),Calls P F #[.slice p 0 cap,fv] w fun e w' =>e= .returned (.tuple #[])∧w' =w)
 (L:List α) (A:Option Nat) (cap:Nat) (hL:L.length≤4000000000000) (R:List Blk) (w0:World):
 FnIn P F [sl A L.length cap,.func (.func fid) #[] #[]] w0 (.own A T k L.length cap (L.flatMap enc)::R) fun v H=>v= .tuple #[]∧ ∃ M,S L M∧H= .own A T k L.length cap (M.flatMap enc)::R:=by
 cases A with
 |none=>
  intro w hm;obtain ⟨⟨h1,h2,h3,h4⟩,_⟩:=hm.on _ Xb;obtain ⟨h5,h6⟩:=h4;have hnl:L= []:=YB.1 h5;subst hnl;subst h6;refine Calls.mono (hn none 0 _ w) ?_;rintro e w' ⟨rfl,rfl⟩;exact ⟨_,_,rfl,hm,rfl,[],hnil,rfl⟩
 |some g=>
  intro w hm;obtain ⟨⟨h1,h2,h3,junk,h4,h5⟩,hkk⟩:=hm.on _ Xb;have hlt:g<w.heap.size:=(XK.1 h5).1;have hH:HoldsK enc k w g 0 L.toArray:=by
   intro j hj;simp only [size_flatK,YR] at hj;have hc:(L.flatMap enc++junk).toArray[j]? =some (flatK enc k L.toArray)[j]! :=by
    rw [X4,XW (by omega),uS hk h0 L j hj]
   constructor
   ·simp only [World.cell?,Xv,h5];exact hc
   ·simp [World.frozen?,h5]
  have hs:=hs g 0 cap L.toArray w hH hlt (by simp;omega);have hsz:L.toArray.size=L.length:=by simp
  rw [hsz] at hs;refine hs.mono ?_;rintro e w' ⟨rfl,d',n,os,hS,rfl⟩;obtain ⟨M⟩:=d';have hl:M.length=L.length:=hlen _ _ hS;refine ⟨_,_,rfl,hm.upd (vn _ _ _ _ _) (b' := .own (some g) T k L.length cap (M.flatMap enc)) ?_ fun k hk=> .inl hk,rfl,M,hS,rfl⟩;have hfl:(M.flatMap enc).length=L.length*k:=by rw [aR hk,hl]
  refine ⟨hfl,h2,h3,junk,by rw [Xa,hfl,← h1,← Xa];exact h4,?_⟩;rw [xW _ _ _ _ _ _ _ _ h5,ym hk h0 M _ _ (by rw [hl];exact h1)]
end
theorem xU {α:Type} {p:α→Prop}: ∀ {L:List α},(∀ x∈L,p x)→ ∃ L' :List {x:α // p x},L'.map (fun x=>x.1)=L
 | [],_=>⟨[],rfl⟩
 |a::L,h=>by
  obtain ⟨L',e⟩:=xU (L:=L) fun x hx=>h x (Xp _ hx);exact ⟨⟨a,h a Xb⟩::L',by rw [XD,e]⟩
theorem LA (L:List Rf) (hv: ∀ a∈L,a.valid=true) (A:Option Nat) (cap:Nat) (hL:L.length≤1000000) (R:List Blk) (w0:World):
 FnIn Tryz.prog 117 [sl A L.length cap,.func (.func 118) #[] #[]] w0 (.own A 34 2 L.length cap (L.flatMap aq)::R) fun v H=>v= .tuple #[]∧H= .own A 34 2 L.length cap ((sortRf L).flatMap aq)::R:=by
 obtain ⟨L',rfl⟩:=xU hv;have h1:=xV (enc:=BC) (k:=2) (T:=34) (fun L:List Vf=>L.mergeSort fun x y=> !(ltOf pG) y x) (fun _=>rfl) (by decide) (fun L=>by simp) (fun blk off cap d w h1 h2 h3=>Tryz.sortVf_calls blk off cap d w h1 h2 h3) oJ L' A cap (by simpa using hL) R w0;have e1: ∀ M:List Vf,M.flatMap BC=(M.map fun x=>x.1).flatMap aq:=fun M=>by rw [List.flatMap_map];rfl
 have e2:((L'.mergeSort fun x y=> !(ltOf pG) y x).map fun x=>x.1)=sortRf (L'.map fun x=>x.1):=by
  unfold sortRf;exact List.map_mergeSort fun a _ b _=>by rw [pF]
 rw [e1,e1,e2] at h1;rw [Xq];exact h1
theorem wF (p:Option Addr) (cap:Nat) (fv:Value) (w:World):Calls Tryz.prog 106 #[.slice p 0 cap,fv] w fun e w' =>e= .returned (.tuple #[])∧w' =w:=AnyF.slices_SortFunc_none Tryz.sortWr p cap fv w
theorem Lz (L:List Rn) (hv: ∀ x∈L,0≤x.1∧x.1≤1024) (A:Option Nat) (cap:Nat) (hL:L.length≤4000000000000) (R:List Blk) (w0:World):
 FnIn Tryz.prog 106 [sl A L.length cap,.func (.func 107) #[] #[]] w0 (.own A 127 2 L.length cap (L.flatMap cO)::R) fun v H=>v= .tuple #[]∧ ∃ M:List Rn,M.Perm L∧M.Pairwise (fun x y=>x.1≤y.1)∧H= .own A 127 2 L.length cap (M.flatMap cO)::R:=by
 obtain ⟨L',rfl⟩:=xU hv
 have h1:=Ob (enc:=BA) (k:=2) (T:=127) (fun L M:List Vr=>M.Perm L∧M.Pairwise fun x y=>x.1.1≤y.1.1) (fun _=>rfl) (by decide) (fun L M h=>h.1.length_eq) ⟨.refl _,List.Pairwise.nil⟩ (fun blk off cap d w h1 h2 h3=>by
  refine (Tryz.sortVr_calls blk off cap d w h1 h2 h3).mono ?_;rintro e w' ⟨he,d',n,os,⟨hp1,_,hp3⟩,hs,hw⟩;refine ⟨he,d',n,os,⟨?_,?_⟩,hw⟩
  ·have k1:d'.extract 0 d.size=d' :=by rw [← hp1];simp
   have k2:d.extract 0 d.size=d:=by simp
   rw [k1,k2] at hp3;exact hp3
  ·rw [aaf];intro i j hi hj hij;have hj' :j<d'.size:=by simpa using hj
   have hi' :i<d'.size:=by omega
   have h4:=hs i j (Xn _) hij (by rw [← hp1];exact hj');rw [tP,getElem!_pos d' j hj',getElem!_pos d' i hi',decide_eq_false_iff_not] at h4;rw [Array.getElem_toList,Array.getElem_toList];omega) wF L' A cap (by simpa using hL) R w0
 have e1: ∀ M:List Vr,M.flatMap BA=(M.map fun x=>x.1).flatMap cO:=fun M=>by rw [List.flatMap_map];rfl
 rw [e1] at h1;rw [Xq];refine h1.mono ?_;rintro v H ⟨hv,M,⟨hp,hs⟩,hH⟩;refine ⟨hv,M.map fun x=>x.1,hp.map _,ZV.2 hs,?_⟩;rw [e1] at hH;exact hH
end Go.SL

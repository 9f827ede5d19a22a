/-
  Lemmas and walks, put together: D2 D3 S1 S2 S3 S4 D4 W28 W29 W30 Gp D5 D6 D7.
-/
import Derived.Shelf.SlSortCmp.NoneTotal
import Derived.Test.YtljeomidcjpfmaaGreatDoorKf14
set_option linter.unusedSimpArgs false
set_option linter.unusedVariables false
set_option maxRecDepth 20000
namespace Go.SL
open Go Go.Proofs
attribute [local irreducible] W WL WQ WG WA WX WLI WR WT VOp RW thn blk cutP scp retP retPP endB FnAt FnIn FnP
theorem glyph1 {a:ByteArray} {i:Nat} (h:i<a.size):glyphE (sub a i (i+1))=if plainC (bat a i) then 0 else 4:=by
 have h1:ints (sub a i (i+1))= [bat a i]:=by
  rw [ints_sub,bat_drop h,Nat.add_sub_cancel_left]
  rfl
 have h2:(sub a i (i+1)).size=1:=by rw [sub_size a (by omega)];omega
 simp only [glyphE,h2,plainB_ints,h1]
 cases h:plainC (bat a i)<;>simp [h]
structure Mn where
 formula:Bool
 v:Vl
 tree:List Nd
def eqB:ByteArray:=⟨#[61]⟩
def zeroMn:Mn:=⟨false,zeroV,[]⟩
def ofP (b:ByteArray):Mn × Int × Int:=
 if 256<b.size then (zeroMn,0,5)
 else match (ints b).findIdx? (fun c=> !plainC c) with
  |some i=>(zeroMn,(i:Int),4)
  |none=>
   if (cutB b eqB).2=false then (⟨false,constP b,[]⟩,0,0)
   else match formulaV (tokensV tokenP (ints (cutB b eqB).1)) ((cutB b eqB).1.size:Int) with
    |(t,at_,e)=>if e≠0 then (zeroMn,IntKind.i64.wrap (at_+1),e) else (⟨true,zeroV,t⟩,0,0)
def encM (m:Mn) (tv:Value):List Value:= [.bool m.formula,.int .u8 m.v.kind,.int .i64 m.v.num,.string m.v.text,tv]
def ofV (A:Option Nat) (cap:Nat) (r:Mn × Int × Int):Value:= .tuple #[.agg (encM r.1 (sl A r.1.tree.length cap)).toArray,.int .i64 r.2.1,.int .i64 r.2.2]
set_option maxHeartbeats 2000000 in
theorem Of_at (b:ByteArray) (w:World) (hW:Words w):FnAt Tryz.prog 108 [.string b] w fun v H=> ∃ A cap,v=ofV A cap (ofP b)∧H= [.own A 368 11 (ofP b).1.tree.length cap ((ofP b).1.tree.flatMap encN)]:=by
 refine fn_at Tryz.func108 rfl Tryz.ntmps108 rfl ?_
 refine w_nilrow 368 11 ?_
 unfold ofP
 by_cases hlen:256<b.size
 ·
  rw [if_pos hlen]
  repeat' (first|refine sT ?_|refine sS ?_|refine sT2 ?_|refine sM fun _=> ?_|(refine sC ?_ ?_<;>intro hb<;>try omega)|fail)
  all_goals first
   |(exfalso;omega)
   |exact retctt (.inl rfl) rfl rfl pK rfl rfl rfl (H' := [.own none 368 11 0 0 []]) mS ⟨none,0,rfl,rfl⟩
 rw [if_neg hlen]
 repeat' (first|refine sT ?_|refine sS ?_|refine sT2 ?_|refine sM fun _=> ?_|(refine sC ?_ ?_<;>intro hb<;>try omega)|fail)
 all_goals first|(exfalso;omega)|skip
 rename_i g2
 refine w_loopK [0,2,14] rfl (fun i:Nat=> [(15,.int .i64 (i:Int))]) (fun _=> [.box g2 176 [.bool false,.int .u8 0,.int .i64 0,.string emptyB,.slice none 0 0],.own none 368 11 0 0 []]) (fun i=>i≤b.size∧ ∀ j,j<i→plainC (bat b j)=true) (fun i=>b.size - i) 0 ⟨by omega,fun j h=>by omega⟩ sB mS ?_
 rintro i ⟨hi,hpl⟩
 by_cases hlt:i<b.size
 ·
  have hg:=glyph1 hlt
  have hG:=fun w=>glyph_at (sub b i (i+1)) w
  rw [hg] at hG
  by_cases hc:plainC (bat b i)=true
  ·
   rw [if_pos hc] at hG
   repeat' (first|((with_reducible apply wl_v);exact rfl;(with_reducible apply v_sub2);(iterate 3 exact rfl);exact ⟨by omega,by omega⟩)|((with_reducible apply wl_callp);exact rfl;exact rfl;(intro w hm;exact hG w))|refine sT ?_|refine sS ?_|refine sT2 ?_|refine sN ?_|refine sM fun _=> ?_|(refine sC ?_ ?_<;>intro hb<;>try omega)|fail)
   all_goals first|(exfalso;omega)|skip
   refine ⟨i+1,?_,(by first|omega|(dsimp only;omega)),sB,sB,mS⟩
   refine ⟨hlt,fun j hj=> ?_⟩
   rcases (by omega:j<i∨j=i) with h|rfl
   ·
    exact hpl j h
   ·
    exact hc
  ·
   rw [if_neg hc] at hG
   repeat' (first|((with_reducible apply wl_v);exact rfl;(with_reducible apply v_sub2);(iterate 3 exact rfl);exact ⟨by omega,by omega⟩)|((with_reducible apply wl_callp);exact rfl;exact rfl;(intro w hm;exact hG w))|refine sT ?_|refine sS ?_|refine sT2 ?_|refine sN ?_|refine sM fun _=> ?_|(refine sC ?_ ?_<;>intro hb<;>try omega)|fail)
   all_goals first|(exfalso;omega)|skip
   have hf:(ints b).findIdx? (fun c=> !plainC c)=some i:=find_bat hlt (by simp [hc]) fun j hj=>by rw [hpl j hj];rfl
   rw [hf]
   exact retctt (.inl rfl) rfl rfl pK rfl rfl rfl (H' := [.own none 368 11 0 0 []]) mS ⟨none,0,rfl,rfl⟩
 ·
  have e:i=b.size:=by omega
  subst e
  have hf:(ints b).findIdx? (fun c=> !plainC c)=none:=nofind_bat fun j hj=>by rw [hpl j hj];rfl
  rw [hf]
  dsimp only
  have hcut:=fun w=>cut_at b eqB (by omega) w
  obtain ⟨⟨rest,is⟩,hx⟩: ∃ x,cutB b eqB=x:=⟨_,rfl⟩
  rw [hx] at hcut ⊢
  cases is with
  |false=>
   rw [if_pos rfl]
   repeat' (first|((with_reducible apply wl_callp);exact rfl;exact rfl;(intro w hm;exact hcut w))|((with_reducible apply wl_callp (f:=178));exact rfl;exact rfl;(intro w' hm';exact constant_at b (by omega) w' (hW.next hm')))|refine sT ?_|refine sS ?_|refine sT2 ?_|refine sN ?_|refine sM fun _=> ?_|(refine sC ?_ ?_<;>intro hb<;>try omega)|fail)
   all_goals first|(exfalso;omega)|skip
   exact retctt (.inl rfl) rfl rfl pK rfl rfl rfl (H' := [.own none 368 11 0 0 []]) mS ⟨none,0,rfl,rfl⟩
  |true=>
   rw [if_neg (by simp)]
   dsimp only
   have hF:=fun (w' :World) (h:Words w')=>Formula_at rest w' h _ rfl
   obtain ⟨⟨t,at0,e0⟩,hr⟩: ∃ x,formulaV (tokensV tokenP (ints rest)) (rest.size:Int)=x:=⟨_,rfl⟩
   simp only [hr,treeV] at hF
   rw [hr]
   dsimp only
   by_cases he:e0≠0
   ·
    rw [if_pos he]
    repeat' (first|((with_reducible apply wl_callp);exact rfl;exact rfl;(intro w hm;exact hcut w))|((with_reducible apply wl_call (f:=179));exact rfl;exact rfl;(intro w' hm';exact hF w' (hW.next hm'));rintro _ _ ⟨A,cap,rfl,rfl⟩)|((with_reducible apply wl_v);exact rfl;(with_reducible apply v_addw);exact rfl;exact rfl)|refine sT ?_|refine sS ?_|refine sT2 ?_|refine sN ?_|refine sM fun _=> ?_|(refine sC ?_ ?_<;>intro hb<;>try omega)|fail)
    all_goals first|(exfalso;omega)|skip
    exact retctt (.inl rfl) rfl rfl pK rfl rfl rfl (H' := [.own none 368 11 0 0 []]) mS ⟨none,0,rfl,rfl⟩
   ·
    rw [if_neg he]
    repeat' (first|((with_reducible apply wl_callp);exact rfl;exact rfl;(intro w hm;exact hcut w))|((with_reducible apply wl_call (f:=179));exact rfl;exact rfl;(intro w' hm';exact hF w' (hW.next hm'));rintro _ _ ⟨A,cap,rfl,rfl⟩)|((with_reducible apply wl_v);exact rfl;(with_reducible apply v_addw);exact rfl;exact rfl)|refine sT ?_|refine sS ?_|refine sT2 ?_|refine sN ?_|refine sM fun _=> ?_|(refine sC ?_ ?_<;>intro hb<;>try omega)|fail)
    all_goals first|(exfalso;omega)|skip
    exact retctt (.inl rfl) rfl rfl pK rfl rfl rfl (H' := [.own A 368 11 t.length cap (t.flatMap encN)]) mS ⟨A,cap,rfl,rfl⟩
def orderF (a b:Rf):Int:=if lessF a b then -1 else if lessF b a then 1 else 0
end Go.SL
namespace Go.Proofs
open Go Go.Shelf Go.RowKit Go.Lib Go.Sort Go.SL
set_option maxHeartbeats 1000000 in
theorem Tryz.lessX (a b:Rf) (W:World):Calls Tryz.prog 81 #[.agg #[.int .i64 a.col,.int .i64 a.row],.agg #[.int .i64 b.col,.int .i64 b.row]] W fun e w' =>e= .returned (.bool (lessF a b))∧ ∃ q os',w' =grow (W.drewN q) os' :=by
 go_enter Tryz.func81,Tryz.ntmps81
 go_wp2
 all_goals
  rename_i h
  go_ret
  refine ⟨?_,0,_,by rw [alloc_eq_grow,alloc_eq_grow,grow_grow];rfl⟩
  first
   |(congr 2;simp_all [lessF];done)
   |(congr 2;simp only [lessF];simp;omega)
   |trace_state
def Lays (W w' :World):Prop:= ∃ q os',w' =grow (W.drewN q) os'
theorem Lays.refl (W:World):Lays W W:=⟨0,#[],by simp [grow,World.drewN]⟩
theorem Lays.alloc {W X:World} (h:Lays W X) (o:Obj):Lays W (X.alloc o):=by
 obtain ⟨q,os,rfl⟩:=h
 refine ⟨q,os.push o,?_⟩
 show ({ W with heap:=(W.heap++os).push o,drawn:=W.drawn+q }:World)={ W with heap:=W.heap++os.push o,drawn:=W.drawn+q }
 rw [Array.append_push]
theorem Lays.grow {W X:World} (h:Lays W X) (q2:Nat) (os2:Array Obj):Lays W (Go.Sort.grow (X.drewN q2) os2):=by
 obtain ⟨q,os,rfl⟩:=h
 refine ⟨q+q2,os++os2,?_⟩
 show ({ W with heap:=(W.heap++os)++os2,drawn:=W.drawn+q+q2 }:World)={ W with heap:=W.heap++(os++os2),drawn:=W.drawn+(q+q2) }
 rw [Array.append_assoc,Nat.add_assoc]
set_option maxHeartbeats 1000000 in
theorem Tryz.orderX (a b:Rf) (W:World):Calls Tryz.prog 220 #[.agg #[.int .i64 a.col,.int .i64 a.row],.agg #[.int .i64 b.col,.int .i64 b.row]] W fun e w' =>e= .returned (.int .i64 (orderF a b))∧ ∃ q os',w' =grow (W.drewN q) os' :=by
 unfold orderF
 have c1: ∀ q os,(grow (((W.alloc (Obj.cells #[Value.int IntKind.i64 a.col,Value.int IntKind.i64 a.row] 51)).alloc (Obj.cells #[Value.int IntKind.i64 b.col,Value.int IntKind.i64 b.row] 51)).drewN q) os).cell? ⟨W.heap.size,0,none⟩=some (.int .i64 a.col):=fun q os=>by
  refine cell_grown (by show W.heap.size<((W.heap.push _).push _).size;rw [Array.size_push,Array.size_push];omega) ?_ q os
  have e: ∀ o1 o2:Obj,((W.alloc o1).alloc o2).heap[W.heap.size]? =some o1:=fun o1 o2=>by
   show ((W.heap.push o1).push o2)[W.heap.size]? =_
   rw [Array.getElem?_push,if_neg (by rw [Array.size_push];omega),Array.getElem?_push,if_pos rfl]
  simp only [World.cell?,e]
  rfl
 have c2: ∀ q os,(grow (((W.alloc (Obj.cells #[Value.int IntKind.i64 a.col,Value.int IntKind.i64 a.row] 51)).alloc (Obj.cells #[Value.int IntKind.i64 b.col,Value.int IntKind.i64 b.row] 51)).drewN q) os).cell? ⟨W.heap.size,1,none⟩=some (.int .i64 a.row):=fun q os=>by
  refine cell_grown (by show W.heap.size<((W.heap.push _).push _).size;rw [Array.size_push,Array.size_push];omega) ?_ q os
  have e: ∀ o1 o2:Obj,((W.alloc o1).alloc o2).heap[W.heap.size]? =some o1:=fun o1 o2=>by
   show ((W.heap.push o1).push o2)[W.heap.size]? =_
   rw [Array.getElem?_push,if_neg (by rw [Array.size_push];omega),Array.getElem?_push,if_pos rfl]
  simp only [World.cell?,e]
  rfl
 have c3: ∀ q os,(grow (((W.alloc (Obj.cells #[Value.int IntKind.i64 a.col,Value.int IntKind.i64 a.row] 51)).alloc (Obj.cells #[Value.int IntKind.i64 b.col,Value.int IntKind.i64 b.row] 51)).drewN q) os).cell? ⟨W.heap.size+1,0,none⟩=some (.int .i64 b.col):=fun q os=>by
  refine cell_grown (by show W.heap.size+1<((W.heap.push _).push _).size;rw [Array.size_push,Array.size_push];omega) ?_ q os
  have e: ∀ o1 o2:Obj,((W.alloc o1).alloc o2).heap[W.heap.size+1]? =some o2:=fun o1 o2=>by
   show ((W.heap.push o1).push o2)[W.heap.size+1]? =_
   rw [Array.getElem?_push,if_pos (by rw [Array.size_push])]
  simp only [World.cell?,e]
  rfl
 have c4: ∀ q os,(grow (((W.alloc (Obj.cells #[Value.int IntKind.i64 a.col,Value.int IntKind.i64 a.row] 51)).alloc (Obj.cells #[Value.int IntKind.i64 b.col,Value.int IntKind.i64 b.row] 51)).drewN q) os).cell? ⟨W.heap.size+1,1,none⟩=some (.int .i64 b.row):=fun q os=>by
  refine cell_grown (by show W.heap.size+1<((W.heap.push _).push _).size;rw [Array.size_push,Array.size_push];omega) ?_ q os
  have e: ∀ o1 o2:Obj,((W.alloc o1).alloc o2).heap[W.heap.size+1]? =some o2:=fun o1 o2=>by
   show ((W.heap.push o1).push o2)[W.heap.size+1]? =_
   rw [Array.getElem?_push,if_pos (by rw [Array.size_push])]
  simp only [World.cell?,e]
  rfl
 go_enter Tryz.func220,Tryz.ntmps220
 go_wp2_with (go_at_call 81;refine (Tryz.lessX _ _ _).mono ?_;rintro e w' ⟨rfl,q,os,rfl⟩)
 all_goals
  go_ret
  exact ⟨rfl,by first|exact (((Lays.refl W).alloc _).alloc _).grow _ _|exact ((((Lays.refl W).alloc _).alloc _).grow _ _).grow _ _⟩
end Go.Proofs
namespace Go.Proofs
open Go Go.Shelf Go.RowKit Go.Lib Go.Sort Go.SL
def Tryz.sortRf_ren:Go.Shelf.Ren:=⟨fun|6=>219|15=>175|14=>285|28=>239|29=>240|20=>337|21=>338|22=>339|23=>340|24=>341|25=>342|26=>343|27=>344|46=>385|47=>289|48=>290|49=>386|50=>387|57=>404|n=>n,fun|22=>68|24=>51|25=>321|3=>3|39=>119|0=>0|53=>343|55=>34|4=>4|46=>336|45=>335|50=>165|5=>5|9=>9|66=>395|70=>399|76=>451|77=>452|n=>n,fun|n=>n⟩
theorem Tryz.sortRf:Go.Proofs.SlLaysF0.n6 Tryz.prog Tryz.sortRf_ren:={
 mixed:=by kernel_rfl
 f6:=⟨Tryz.f219.name,by decide,Tryz.func219.trans (congrArg some (by kernel_rfl))⟩
 f14:=⟨Tryz.f285.name,by decide,Tryz.func285.trans (congrArg some (by kernel_rfl))⟩
 f15:=Tryz.func175.trans (congrArg some (by kernel_rfl))
 f20:=⟨Tryz.f337.name,by decide,Tryz.func337.trans (congrArg some (by kernel_rfl))⟩
 f21:=⟨Tryz.f338.name,by decide,Tryz.func338.trans (congrArg some (by kernel_rfl))⟩
 f22:=⟨Tryz.f339.name,by decide,Tryz.func339.trans (congrArg some (by kernel_rfl))⟩
 f23:=⟨Tryz.f340.name,by decide,Tryz.func340.trans (congrArg some (by kernel_rfl))⟩
 f24:=⟨Tryz.f341.name,by decide,Tryz.func341.trans (congrArg some (by kernel_rfl))⟩
 f25:=⟨Tryz.f342.name,by decide,Tryz.func342.trans (congrArg some (by kernel_rfl))⟩
 f26:=⟨Tryz.f343.name,by decide,Tryz.func343.trans (congrArg some (by kernel_rfl))⟩
 f27:=⟨Tryz.f344.name,by decide,Tryz.func344.trans (congrArg some (by kernel_rfl))⟩
 f28:=Tryz.func239.trans (congrArg some (by kernel_rfl))
 f29:=Tryz.func240.trans (congrArg some (by kernel_rfl))
 f46:=⟨Tryz.f385.name,by decide,Tryz.func385.trans (congrArg some (by kernel_rfl))⟩
 f47:=Tryz.func289.trans (congrArg some (by kernel_rfl))
 f48:=Tryz.func290.trans (congrArg some (by kernel_rfl))
 f49:=⟨Tryz.f386.name,by decide,Tryz.func386.trans (congrArg some (by kernel_rfl))⟩
 f50:=⟨Tryz.f387.name,by decide,Tryz.func387.trans (congrArg some (by kernel_rfl))⟩
 f57:=⟨Tryz.f404.name,by decide,Tryz.func404.trans (congrArg some (by kernel_rfl))⟩
 t0:=Tryz.underlying0
 a0:=Tryz.isAgg0
 z0:=Tryz.sizeOf0
 v0:=Tryz.zeroValue0
 t3:=Tryz.underlying3
 a3:=Tryz.isAgg3
 z3:=Tryz.sizeOf3
 v3:=Tryz.zeroValue3
 t4:=Tryz.underlying4
 a4:=Tryz.isAgg4
 z4:=Tryz.sizeOf4
 v4:=Tryz.zeroValue4
 t5:=Tryz.underlying5
 a5:=Tryz.isAgg5
 z5:=Tryz.sizeOf5
 v5:=Tryz.zeroValue5
 t9:=Tryz.underlying9
 a9:=Tryz.isAgg9
 z9:=Tryz.sizeOf9
 v9:=Tryz.zeroValue9
 t22:=Tryz.underlying68
 a22:=Tryz.isAgg68
 z22:=Tryz.sizeOf68
 v22:=Tryz.zeroValue68
 t25:=Tryz.underlying321
 a25:=Tryz.isAgg321
 z25:=Tryz.sizeOf321
 v25:=Tryz.zeroValue321
 t39:=Tryz.underlying119
 a39:=Tryz.isAgg119
 z39:=Tryz.sizeOf119
 v39:=Tryz.zeroValue119
 t45:=Tryz.underlying335
 a45:=Tryz.isAgg335
 z45:=Tryz.sizeOf335
 v45:=Tryz.zeroValue335
 t46:=Tryz.underlying336
 a46:=Tryz.isAgg336
 z46:=Tryz.sizeOf336
 v46:=Tryz.zeroValue336
 t50:=Tryz.underlying165
 a50:=Tryz.isAgg165
 z50:=Tryz.sizeOf165
 v50:=Tryz.zeroValue165
 t53:=Tryz.underlying343
 a53:=Tryz.isAgg343
 z53:=Tryz.sizeOf343
 v53:=Tryz.zeroValue343
 t55:=Tryz.underlying34
 a55:=Tryz.isAgg34
 z55:=Tryz.sizeOf34
 v55:=Tryz.zeroValue34
 t66:=Tryz.underlying395
 a66:=Tryz.isAgg395
 z66:=Tryz.sizeOf395
 v66:=Tryz.zeroValue395
 t70:=Tryz.underlying399
 a70:=Tryz.isAgg399
 z70:=Tryz.sizeOf399
 v70:=Tryz.zeroValue399
 t76:=Tryz.underlying451
 a76:=Tryz.isAgg451
 z76:=Tryz.sizeOf451
 v76:=Tryz.zeroValue451
 t77:=Tryz.underlying452
 a77:=Tryz.isAgg452
 z77:=Tryz.sizeOf452
 v77:=Tryz.zeroValue452 }
theorem orderF_lt (x y:Rf):ltOf orderF x y=lessF x y:=by
 unfold ltOf orderF
 cases h1:lessF x y<;>cases h2:lessF y x<;>simp
theorem swoRf:SWO (ltOf orderF):={
 irrefl x:=by rw [orderF_lt];simp [lessF]
 trans x y z h1 h2:=by rw [orderF_lt] at*;simp [lessF] at*;omega
 ntrans x y z h1 h2:=by rw [orderF_lt] at*;simp [lessF] at*;omega }
theorem totRf (x y:Rf) (h1:ltOf orderF x y=false) (h2:ltOf orderF y x=false):x=y:=by
 rw [orderF_lt] at h1 h2
 obtain ⟨a,b⟩:=x
 obtain ⟨c,d⟩:=y
 simp [lessF] at h1 h2
 simp
 omega
instance:Inhabited Rf:=⟨⟨0,0⟩⟩
theorem Tryz.sortRf_calls (blk off cap:Nat) (d:Array Rf) (w:World) (hH:HoldsK encF 2 w blk off d) (hblk:blk<w.heap.size) (hsz:d.size<4611686018427387904):
  Calls Tryz.prog 219 #[.slice (some ⟨blk,off,none⟩) d.size cap,.func (.func 220) #[] #[]] w fun e w' =>
   e= .returned (.tuple #[])∧ ∃ n os,w' =sortWorldK encF 2 w blk off n (d.toList.mergeSort fun x y=> !(ltOf orderF) y x).toArray os:=by
 have eg: ∀ args w,(callFunc 220 args).run Tryz.prog w= .ok (.enter 220 args) w:=enters_of Tryz.func220 (by kernel_rfl) rfl
 exact AnyQ.slices_SortFunc_total Tryz.sortRf 2 (fun w=>by have h:=Tryz.underlying51;show (isAgg 51).run _ w=_;simp [isAgg,run_underlying h]) (fun w=>by obtain ⟨i,h1,h2⟩:=(inferInstance:Size Tryz.prog 51 2).out;show (Go.sizeOf 51).run _ w=_;simp [Go.sizeOf,typeInfo,h1,h2]) encF (fun _=>rfl) (fun x v hv=>by simp [encF] at hv;rcases hv with rfl|rfl<;>rfl) orderF swoRf 220 #[] blk off cap d w eg (fun _ _ _ _ x y=>Tryz.orderX x y _) hH hblk hsz totRf
end Go.Proofs
namespace Go.SL
open Go Go.Proofs Go.Sort Go.Shelf
def sortRf (L:List Rf):List Rf:=L.mergeSort fun x y=> !(lessF y x)
theorem flat_get (L:List Rf) (j:Nat) (h:j<L.length*2):(L.flatMap encF)[j]? =some ((flatK encF 2 L.toArray)[j]!):=by
 rw [get_flatK _ _ _ _ (by simpa using h)]
 have h1:j / 2<L.length:=by omega
 have h2:j % 2<2:=Nat.mod_lt _ (by omega)
 have h3:=flat_cell encF_len L (j / 2) (j % 2) h1 h2
 rw [show j / 2*2+j % 2=j by omega] at h3
 rw [h3]
 have h4:L.toArray[j / 2]! =L[j / 2]:=by simp [h1]
 rw [h4,List.getElem?_eq_getElem (by rw [encF_len];exact h2)]
 congr 1
 rw [getElem!_pos _ _ (by rw [encF_len];exact h2)]
theorem sort_grown (w:World) (g n:Nat) (d:Array Rf) (os:Array Obj):w.grownBy (sortWorldK encF 2 w g 0 n d os) (some g):={
 os:=rfl
 tape:=rfl
 output:=rfl
 size:=by
  show w.heap.size≤((w.heap.modify g _)++os).size
  rw [Array.size_append,Array.size_modify]
  omega
 block k hk hne:=by
  show ((w.heap.modify g _)++os)[k]? =_
  rw [Array.getElem?_append_left (by rw [Array.size_modify];exact hk),Array.getElem?_modify,if_neg (fun e=>hne (by rw [e]))] }
theorem sort_heap (w:World) (g n:Nat) (d:Array Rf) (os:Array Obj) (c:Array Value) (T:TypeId) (fr:Nat × Nat) (h:w.heap[g]? =some (.cells c T fr)):
  (sortWorldK encF 2 w g 0 n d os).heap[g]? =some (.cells (putCells id 0 (flatK encF 2 d) c) T fr):=by
 have hlt:g<w.heap.size:=(Array.getElem?_eq_some_iff.1 h).1
 show ((w.heap.modify g _)++os)[g]? =_
 rw [Array.getElem?_append_left (by rw [Array.size_modify];exact hlt),Array.getElem?_modify,if_pos rfl,h]
 rfl
theorem put_cells (L:List Rf) (xs junk:List Value) (hl:xs.length=L.length*2):putCells id 0 (flatK encF 2 L.toArray) (xs++junk).toArray=(L.flatMap encF++junk).toArray:=by
 have hfl:(L.flatMap encF).length=L.length*2:=flat_length' encF_len L
 apply Array.ext_getElem?
 intro j
 simp only [putCells,Array.getElem?_mapIdx,List.getElem?_toArray,size_flatK,List.size_toArray,Nat.zero_le,true_and,Nat.zero_add,Nat.sub_zero]
 by_cases hj:j<L.length*2
 ·
  rw [List.getElem?_append_left (by omega),List.getElem?_append_left (by omega),flat_get L j hj,List.getElem?_eq_getElem (by omega)]
  simp [hj]
 ·
  rw [List.getElem?_append_right (by omega),List.getElem?_append_right (by omega),hl,hfl]
  simp [hj]
theorem sortFunc_in (L:List Rf) (g cap:Nat) (hL:L.length≤1000000) (R:List Blk) (w0:World):
  FnIn Tryz.prog 219 [sl (some g) L.length cap,.func (.func 220) #[] #[]] w0 (.own (some g) 51 2 L.length cap (L.flatMap encF)::R) fun v H=>v= .tuple #[]∧H= .own (some g) 51 2 L.length cap ((sortRf L).flatMap encF)::R:=by
 intro w hm
 obtain ⟨⟨h1,h2,h3,junk,h4,h5⟩,hk⟩:=hm.on _ List.mem_cons_self
 have hlt:g<w.heap.size:=(Array.getElem?_eq_some_iff.1 h5).1
 have hH:HoldsK encF 2 w g 0 L.toArray:=by
  intro j hj
  simp only [size_flatK,List.size_toArray] at hj
  have hc:(L.flatMap encF++junk).toArray[j]? =some (flatK encF 2 L.toArray)[j]! :=by
   rw [List.getElem?_toArray,List.getElem?_append_left (by omega),flat_get L j hj]
  constructor
  ·
   simp only [World.cell?,Nat.zero_add,h5]
   exact hc
  ·
   simp [World.frozen?,h5]
 have hs:=Tryz.sortRf_calls g 0 cap L.toArray w hH hlt (by simp;omega)
 have hsz:L.toArray.size=L.length:=by simp
 rw [hsz] at hs
 refine hs.mono ?_
 rintro e w' ⟨rfl,n,os,rfl⟩
 have hlen:(sortRf L).length=L.length:=by simp [sortRf]
 have heq:(L.toArray.toList.mergeSort fun x y=> !(ltOf orderF) y x)=sortRf L:=by
  simp only [sortRf,orderF_lt]
 rw [heq]
 refine ⟨_,_,rfl,hm.upd (sort_grown _ _ _ _ _) (b' := .own (some g) 51 2 L.length cap ((sortRf L).flatMap encF)) ?_ fun k hk=> .inl hk,rfl,rfl⟩
 have hfl:((sortRf L).flatMap encF).length=L.length*2:=by rw [flat_length' encF_len,hlen]
 refine ⟨hfl,h2,h3,junk,by rw [List.length_append,hfl,← h1,← List.length_append];exact h4,?_⟩
 rw [sort_heap _ _ _ _ _ _ _ _ h5,put_cells (sortRf L) _ _ (by rw [hlen];exact h1)]
theorem sortFuncA_in (L:List Rf) (A:Option Nat) (cap:Nat) (hL:L.length≤1000000) (R:List Blk) (w0:World):
  FnIn Tryz.prog 219 [sl A L.length cap,.func (.func 220) #[] #[]] w0 (.own A 51 2 L.length cap (L.flatMap encF)::R) fun v H=>v= .tuple #[]∧H= .own A 51 2 L.length cap ((sortRf L).flatMap encF)::R:=by
 cases A with
 |some g=>exact sortFunc_in L g cap hL R w0
 |none=>
  intro w hm
  obtain ⟨⟨h1,h2,h3,h4⟩,_⟩:=hm.on _ List.mem_cons_self
  obtain ⟨h5,h6⟩:=h4
  have hnil:L= []:=List.length_eq_zero_iff.1 h5
  subst hnil
  subst h6
  refine Calls.mono (AnyF.slices_SortFunc_none Tryz.sortRf none 0 _ w) ?_
  rintro e w' ⟨rfl,rfl⟩
  exact ⟨_,_,rfl,hm,rfl,by simp [sortRf]⟩
end Go.SL
namespace Go.SL
open Go Go.Proofs
attribute [local irreducible] W WL WQ WG WA WX WLI WR WT VOp RW thn blk cutP scp retP retPP endB FnAt FnIn FnP
def keyF (a:Rf):Value:= .agg (encF a).toArray
def gB (gg gm:Nat) (es:List (Rf × Value × Nat)) (clock:Nat):List Blk:= [.box gg 171 [.map (some gm)],.obj gm (mobj keyF es clock)]
def formsF (es:List (Rf × Value × Nat)):List Rf:=sortRf (es.map fun e=>e.1)
theorem sortRf_perm {L M:List Rf} (h:L.Perm M):sortRf L=sortRf M:=by
 have hp: ∀ L:List Rf,(sortRf L).Pairwise fun x y=>(!(lessF y x))=true:=fun L=>
  List.pairwise_mergeSort (le:=fun x y=> !(lessF y x)) (fun a b c h1 h2=>by simp [lessF] at*;omega) (fun a b=>by simp [lessF];omega) L
 refine List.Perm.eq_of_pairwise (fun a b _ _ h1 h2=> ?_) (hp L) (hp M) (((List.mergeSort_perm L _).trans h).trans (List.mergeSort_perm M _).symm)
 exact totRf a b (by rw [orderF_lt];simpa using h2) (by rw [orderF_lt];simpa using h1)
set_option maxHeartbeats 1000000 in
theorem Formulas_in (gg gm clock:Nat) (es:List (Rf × Value × Nat)) (hok:MapOk es clock) (hlen:es.length≤1000000) (R:List Blk) (w0:World):
  FnIn Tryz.prog 165 [.pointer (some ⟨gg,0,none⟩)] w0 (gB gg gm es clock++R) fun v H=> ∃ A cap,v=sl A es.length cap∧H= .own A 51 2 es.length cap ((formsF es).flatMap encF)::(gB gg gm es clock++R):=by
 refine fn_in Tryz.func165 rfl Tryz.ntmps165 rfl ?_
 refine w_nilrow 51 2 ?_
 repeat' (first|((with_reducible apply wl_v);exact rfl;(with_reducible apply v_nilCheck);exact rfl)|((with_reducible apply wl_range_map (enc:=keyF));exact rfl;exact rfl;exact pK;intro gi)|refine sT ?_|refine sS ?_|refine sM fun _=> ?_|(refine sC ?_ ?_<;>intro hb<;>try omega)|fail)
 refine w_loopK [11] rfl (fun x:List (Rf × Value × Nat) × Option Nat × Nat=> [(3,sl x.2.1 x.1.length x.2.2)]) (fun x=> .obj gi (mIter gm clock (x.1.map fun e=>e.2.2)):: .own x.2.1 51 2 x.1.length x.2.2 ((x.1.map fun e=>e.1).flatMap encF)::(gB gg gm es clock++R)) (fun x=>Vis es x.1) (fun x=>es.length - x.1.length) ([],none,0) (Vis.nil es) sB (.refl _) ?_
 rintro ⟨vis,A,cap⟩ hv
 dsimp only at hv ⊢
 have hvl:=hv.len
 have hml:(vis.map fun e=>e.1).length=vis.length:=List.length_map _
 have hS:=fun R' =>sortFuncA_in (vis.map fun e=>e.1) A cap (by omega) R' w0
 rw [hml] at hS
 repeat' (first|((with_reducible apply wl_next_map (enc:=keyF));exact rfl;exact rfl;exact pK;exact pK;exact hok;intro e he hne)|(intro hall)|((with_reducible apply wl_v);exact rfl;(with_reducible apply v_entry (enc:=keyF));exact rfl;exact pK;exact pK;exact he;exact hok)|((with_reducible apply wl_append);(iterate 3 exact rfl);(repeat first|exact .hd|apply Sel.tl|apply In.tl);(intro w hm;exact hm.cells_own (by (repeat first|exact .hd|apply Sel.tl|apply In.tl)));exact rfl;(simp [Value.oneCell',sl]);omega;(simp only [maxLen];omega);(intro A2 cap2 hA2))|((with_reducible apply wl_callin (f:=219));exact rfl;exact rfl;exact FnIn.msub (hS _) (MSub.pick pK (MSub.refl _));rintro _ _ ⟨rfl,rfl⟩)|refine sT ?_|refine sS ?_|refine sM fun _=> ?_|(refine sC ?_ ?_<;>intro hb<;>try omega)|fail)
 ·
  refine ⟨(vis++ [e],A2,cap2),hv.step he hne,?_,?_,sB,?_⟩
  ·
   have:=hv.lt he hne
   simp only [List.length_append,List.length_singleton]
   omega
  ·
   simp only [List.length_append,List.length_singleton]
   exact sB
  ·
   simp only [List.map_append,List.map_cons,List.map_nil,List.length_append,List.length_singleton,List.flatMap_append,List.flatMap_cons,List.flatMap_nil,List.append_nil]
   exact mS
 ·
  have hperm:=hv.perm hok hall
  have hl:vis.length=es.length:=hperm.length_eq
  have hf:formsF es=sortRf (vis.map fun e=>e.1):=sortRf_perm (hperm.symm.map _)
  refine ret1 eIO rfl rfl (H' := .own A 51 2 es.length cap ((formsF es).flatMap encF)::(gB gg gm es clock++R)) ?_ ⟨A,cap,by rw [hl],rfl⟩
  rw [hf,← hl]
  exact mS
end Go.SL
namespace Go.SL
open Go Go.Proofs
attribute [local irreducible] W WL WQ WG WA VOp thn blk cutP retP FnAt FnIn WLI
def useOf (n:Nd) (i:Nat) (r:List Nd):Us:=match r with
 |m::_=>if m.kind=7∧46≤m.fn then ⟨n.rect,((i+1:Nat):Int),m.fn⟩ else ⟨n.rect, -1,0⟩
 | []=>⟨n.rect, -1,0⟩
def usesFrom:List Nd→Nat→List Us
 | [],_=> []
 |n::r,i=>bif rangesF n then useOf n i r::usesFrom r (i+1) else usesFrom r (i+1)
def usesF (L:List Nd):List Us:=usesFrom L 0
set_option maxHeartbeats 4000000 in
theorem uses_seq (L:List Nd) (tv:Value) (w0:World) (ht:Reads w0 tv L.length (L.flatMap encN)) (hlen:L.length≤1000000) (g:Nat):
  Seqs Tryz.prog 260 [.pointer (some ⟨g,0,none⟩)] w0 [.box g 174 [tv]] (usesF L) (fun u=> [.agg (encU u).toArray]):=by
 obtain ⟨Al,cl,rfl,hl1,hl2,hl3⟩:=ht
 intro l I J H0 hy h0
 refine FnIn.msub (H' := .box g 174 [.slice Al L.length cl]::H0) ?_ (MSub.rot (MSub.refl _))
 refine fn_in Tryz.func260 rfl Tryz.ntmps260 rfl ?_
 repeat' (first|refine sT ?_|refine sM fun _=> ?_|(refine sC ?_ ?_<;>intro hb<;>try omega)|fail)
 refine w_loop (fun y:Nat × List Us × List Blk=> [(0,.func (.yield l) #[] #[]),(1,.pointer (some ⟨g,0,none⟩)),(6,.slice Al L.length cl),(7,.int .i64 (L.length:Int)),(8,.int .i64 (y.1:Int))])
  (fun y=> .box g 174 [.slice Al L.length cl]::y.2.2)
  (fun y=>y.1≤L.length∧usesF L=y.2.1++usesFrom (L.drop y.1) y.1∧I y.2.1 y.2.2) (fun y=>L.length - y.1) (0,[],H0) ⟨by omega,rfl,h0⟩ ?_ ?_ ?_
 ·
  exact sB
 ·
  exact MSub.refl _
 rintro ⟨i,pre,H1⟩ ⟨hi,hus,hI⟩
 dsimp only at hi hus hI ⊢
 by_cases hlt:i<L.length
 ·
  obtain ⟨gl,ol,rfl,hrl⟩:=hl3 (by omega)
  have he:=hrl.elem encN_len i hlt
  rw [List.drop_eq_getElem_cons hlt,usesFrom] at hus
  generalize hn:L[i]=n at hus he
  have hran:=fun w=>ranges_at n w
  have next: ∀ (us:List Us) (HU:List Blk),usesF L=us++usesFrom (L.drop (i+1)) (i+1)→I us HU→i+1≤L.length∧usesF L=us++usesFrom (L.drop (i+1)) (i+1)∧I us HU:=fun us HU h1 h2=>⟨hlt,h1,h2⟩
  generalize rangesF n=q at hus hran
  cases q
  ·
   rw [cond_false] at hus
   repeat' (first|((with_reducible apply wl_callp);exact rfl;exact rfl;(intro w hm;exact hran w))|refine sT ?_|refine sN ?_|refine sO ?_|refine sM fun _=> ?_|(refine sC ?_ ?_<;>intro hb<;>try omega)|fail)
   refine ⟨(i+1,pre,H1),next _ _ hus hI,(by dsimp only;omega),?_,?_⟩
   ·
    exact sB
   ·
    exact mS
  rw [cond_true] at hus
  by_cases hn1:i+1<L.length
  ·
   have he1:=hrl.elem encN_len (i+1) hn1
   have hd:=List.drop_eq_getElem_cons hn1
   generalize L[i+1]=m at he1 hd
   by_cases hrel:m.kind=7∧46≤m.fn
   ·
    have hu:useOf n i (L.drop (i+1))=⟨n.rect,((i+1:Nat):Int),m.fn⟩:=by rw [hd];simp only [useOf,if_pos hrel]
    rw [hu] at hus
    repeat' (first|((with_reducible apply wl_callp);exact rfl;exact rfl;(intro w hm;exact hran w))|((with_reducible apply w_regionI (id:=7)))|((with_reducible apply w_drawB (id:=6) (T:=200) (fun D=> [.int .i64 n.rect.c1,.int .i64 n.rect.r1,.int .i64 n.rect.c2,.int .i64 n.rect.r2,.int .i64 (bif D 9 then ((i+1:Nat):Int) else -1),.int .u8 (bif D 11 then m.fn else 0)]) (xs' := [.int .i64 n.rect.c1,.int .i64 n.rect.r1,.int .i64 n.rect.c2,.int .i64 n.rect.r2,.int .i64 ((i+1:Nat):Int),.int .u8 m.fn]));kernel_rfl;kernel_rfl;exact .hd;exact rfl;(intro D hD;simp only [hD 9 (by decide),hD 11 (by decide),cond_true]))|((with_reducible apply wg_v);exact rfl;(intro D ht;first|((with_reducible apply v_succN);exact rfl;exact rfl;(simp only [maxLen] at*;omega))|((with_reducible apply v_indexAddr);exact rfl;exact rfl;(first|assumption|omega))|((with_reducible apply v_loadf_ro);exact rfl;assumption;exact rfl));exact fun _=>rfl)|refine sT ?_|refine sI ?_|refine sN ?_|refine sO ?_|refine sG ?_|refine sM fun _=> ?_|(refine sC ?_ ?_<;>intro hb<;>try omega)|fail)
    (with_reducible apply wli_yieldB)
    ·
     exact rfl
    ·
     exact rfl
    ·
     exact rfl
    ·
     exact MSub.app3
    ·
     exact fun w hm=>hy pre ⟨n.rect,((i+1:Nat):Int),m.fn⟩ _ hus H1 _ hI w hm
    intro bb H2 hq
    cases bb
    ·
     repeat' (first|refine sT ?_|refine sI ?_|refine sM fun _=> ?_|(refine sC ?_ ?_<;>intro hb<;>try omega)|fail)
     exact ret0 eIO Tryz.results260 (H' :=H2++ [.box g 174 [.slice (some ⟨gl,ol,none⟩) L.length cl]]) MSub.app3r ⟨H2,.inr ⟨_,hq⟩,MSub.refl _⟩
    ·
     repeat' (first|refine sT ?_|refine sI ?_|refine sN ?_|refine sM fun _=> ?_|(refine sC ?_ ?_<;>intro hb<;>try omega)|fail)
     refine ⟨(i+1,_,H2),next _ _ (hus.trans (by rw [List.append_assoc];rfl)) hq,(by dsimp only;omega),?_,?_⟩
     ·
      exact sB
     ·
      exact MSub.app3'
   ·
    have hu:useOf n i (L.drop (i+1))=⟨n.rect, -1,0⟩:=by rw [hd];simp only [useOf,if_neg hrel]
    rw [hu] at hus
    repeat' (first|((with_reducible apply wl_callp);exact rfl;exact rfl;(intro w hm;exact hran w))|((with_reducible apply w_regionI (id:=7)))|refine sT ?_|refine sI ?_|refine sN ?_|refine sO ?_|refine sM fun _=> ?_|(refine sC ?_ ?_<;>intro hb<;>try omega)|fail)
    all_goals
     (with_reducible apply wli_yieldB)
     ·
      exact rfl
     ·
      exact rfl
     ·
      exact rfl
     ·
      exact MSub.app3
     ·
      exact fun w hm=>hy pre ⟨n.rect, -1,0⟩ _ hus H1 _ hI w hm
     intro bb H2 hq
     cases bb
     ·
      repeat' (first|refine sT ?_|refine sI ?_|refine sM fun _=> ?_|(refine sC ?_ ?_<;>intro hb<;>try omega)|fail)
      exact ret0 eIO Tryz.results260 (H' :=H2++ [.box g 174 [.slice (some ⟨gl,ol,none⟩) L.length cl]]) MSub.app3r ⟨H2,.inr ⟨_,hq⟩,MSub.refl _⟩
     ·
      repeat' (first|refine sT ?_|refine sI ?_|refine sN ?_|refine sM fun _=> ?_|(refine sC ?_ ?_<;>intro hb<;>try omega)|fail)
      refine ⟨(i+1,_,H2),next _ _ (hus.trans (by rw [List.append_assoc];rfl)) hq,(by dsimp only;omega),?_,?_⟩
      ·
       exact sB
      ·
       exact MSub.app3'
  ·
   have hu:useOf n i (L.drop (i+1))=⟨n.rect, -1,0⟩:=by rw [List.drop_of_length_le (by omega)];rfl
   rw [hu] at hus
   repeat' (first|((with_reducible apply wl_callp);exact rfl;exact rfl;(intro w hm;exact hran w))|((with_reducible apply w_regionI (id:=7)))|refine sT ?_|refine sI ?_|refine sN ?_|refine sO ?_|refine sM fun _=> ?_|(refine sC ?_ ?_<;>intro hb<;>try omega)|fail)
   (with_reducible apply wli_yieldB)
   ·
    exact rfl
   ·
    exact rfl
   ·
    exact rfl
   ·
    exact MSub.app3
   ·
    exact fun w hm=>hy pre ⟨n.rect, -1,0⟩ _ hus H1 _ hI w hm
   intro bb H2 hq
   cases bb
   ·
    repeat' (first|refine sT ?_|refine sI ?_|refine sM fun _=> ?_|(refine sC ?_ ?_<;>intro hb<;>try omega)|fail)
    exact ret0 eIO Tryz.results260 (H' :=H2++ [.box g 174 [.slice (some ⟨gl,ol,none⟩) L.length cl]]) MSub.app3r ⟨H2,.inr ⟨_,hq⟩,MSub.refl _⟩
   ·
    repeat' (first|refine sT ?_|refine sI ?_|refine sN ?_|refine sM fun _=> ?_|(refine sC ?_ ?_<;>intro hb<;>try omega)|fail)
    refine ⟨(i+1,_,H2),next _ _ (hus.trans (by rw [List.append_assoc];rfl)) hq,(by dsimp only;omega),?_,?_⟩
    ·
     exact sB
    ·
     exact MSub.app3'
 ·
  have e:i=L.length:=by omega
  subst e
  rw [List.drop_length,usesFrom,List.append_nil] at hus
  repeat' (first|refine sT ?_|refine sM fun _=> ?_|(refine sC ?_ ?_<;>intro hb<;>try omega)|fail)
  refine ret0 (.inr rfl) Tryz.results260 (H' := .box g 174 [.slice Al L.length cl]::H1) mS ⟨H1,.inl (hus ▸ hI),?_⟩
  exact MSub.snoc .hd (MSub.refl _)
end Go.SL
namespace Go.SL
open Go Go.Proofs
attribute [local irreducible] W WL WQ WG WA VOp thn blk cutP retP FnAt FnIn WLI WR WT endB bodyB assignQ roundQ
theorem usesV_at (A:Option Addr) (m c:Nat) (w:World):FnAt Tryz.prog 181 [.slice A m c] w fun v H=> ∃ g,v= .func (.func 260) #[] #[.pointer (some ⟨g,0,none⟩)]∧H= [.box g 174 [.slice A m c]]:=by
 refine fn_at Tryz.func181 rfl Tryz.ntmps181 rfl ?_
 repeat' (first|refine sT ?_|refine sM fun _=> ?_|(refine sC ?_ ?_<;>intro hb<;>try omega)|fail)
 refine ret1 (.inl rfl) Tryz.results181 rfl (MSub.refl _) ?_
 exact ⟨_,rfl,rfl⟩
def usesE (L:List Nd):List Us × Int:=if checkE L≠0 then ([],checkE L) else (usesF L,0)
theorem usesFrom_len: ∀ (L:List Nd) (i:Nat),(usesFrom L i).length≤L.length
 | [],_=>Nat.le_refl _
 |n::r,i=>by
  have:=usesFrom_len r (i+1)
  unfold usesFrom
  cases rangesF n<;>simp<;>omega
theorem usesF_len (L:List Nd):(usesF L).length≤L.length:=usesFrom_len L 0
theorem flat_snoc {α:Type} (f:α→List Value) (xs:List α) (x:α):(xs++ [x]).flatMap f=xs.flatMap f++f x:=by simp
set_option maxHeartbeats 4000000 in
theorem Uses_at (L:List Nd) (tv:Value) (w:World) (ht:Reads w tv L.length (L.flatMap encN)) (hlen:L.length≤1000000):
  FnAt Tryz.prog 109 [tv] w fun v H=> ∃ A cap,v= .tuple #[sl A (usesE L).1.length cap,.int .i64 (usesE L).2]∧H= [.own A 200 6 (usesE L).1.length cap ((usesE L).1.flatMap encU)]:=by
 have ht' :=ht
 obtain ⟨Al,cl,rfl,hl1,hl2,hl3⟩:=ht
 refine fn_range_at Tryz.func109 rfl Tryz.ntmps109 (by rfl) ?_
 have hck:=fun w0 (hm:Reads w0 (.slice Al L.length cl) L.length (L.flatMap encN))=>Check_at L _ w0 hm
 unfold usesE
 generalize checkE L=e at hck
 refine wt_seq_r ?_
 refine w_nilrow 200 6 ?_
 repeat' (first|((with_reducible apply wl_callp);exact rfl;exact rfl;(intro w' hm;exact hck w' (ht'.of_w0 hm)))|((with_reducible apply wl_call);exact rfl;exact rfl;(intro w' hm;exact usesV_at _ _ _ w');(rintro v H' ⟨gu,rfl,rfl⟩))|refine sT ?_|refine sR ?_|refine sM fun _=> ?_|(refine sC ?_ ?_<;>intro hb<;>try omega)|(refine sCR ?_ ?_<;>intro hb<;>try omega)|fail)
 ·
  refine end_ret ?_
  refine ret2 (.inl rfl) Tryz.results109 rfl rfl (H' := [.own none 200 6 0 0 []]) mS ⟨none,0,?_⟩
  rw [if_pos hb]
  exact ⟨rfl,rfl⟩
 rename_i gb
 rw [if_neg hb]
 have hul:=usesF_len L
 refine wt_range (ps:= [14]) (us:=usesF L) (encs:=fun u=> [.agg (encU u).toArray]) (Hc:= [.box gu 174 [.slice Al L.length cl]]) (HU0:= [.box gb 179 [.slice none 0 0],.own none 200 6 0 0 []]) rfl (fun _=>rfl) rfl (uses_seq L _ w ht' hlen gu)
  (fun pre HU=> ∃ A cap,HU= [.box gb 179 [sl A pre.length cap],.own A 200 6 pre.length cap (pre.flatMap encU)]) (fun _=>False) ?_ ⟨none,0,rfl⟩ ?_ ?_ ?_
 ·
  exact mS
 ·
  rintro l pre u post hus _ ⟨A,cap,rfl⟩ F F'
  have hlu:=congrArg List.length hus
  simp only [List.length_append,List.length_cons] at hlu
  change WR _ _ _ l _ _ ((14,Value.agg (encU u).toArray)::_) (.box gb 179 [sl A pre.length cap]:: .own A 200 6 pre.length cap (pre.flatMap encU)::F)
  repeat' (first|refine sT ?_|refine sR ?_|refine sM fun _=> ?_|(refine sC ?_ ?_<;>intro hb<;>try omega)|(refine sCR ?_ ?_<;>intro hb<;>try omega)|fail)
  rename_i g6
  refine assign_n ⟨[.box g6 200 (encU u),.box gb 179 [sl A pre.length cap],.own A 200 6 pre.length cap (pre.flatMap encU)],MSub.refl _,?_⟩
  change WR _ _ _ l _ _ _ (.box g6 200 (encU u):: .box gb 179 [sl A pre.length cap]:: .own A 200 6 pre.length cap (pre.flatMap encU)::F')
  repeat' (first|((with_reducible apply wl_append);(iterate 3 exact rfl);(repeat first|exact .hd|apply Sel.tl|apply In.tl);(intro w hm;exact hm.cells_own (by (repeat first|exact .hd|apply Sel.tl|apply In.tl)));exact rfl;(simp [Value.oneCell',sl]);omega;(simp only [maxLen];omega);(intro A' cap' hA'))|refine sT ?_|refine sR ?_|refine sM fun _=> ?_|(refine sC ?_ ?_<;>intro hb<;>try omega)|(refine sCR ?_ ?_<;>intro hb<;>try omega)|fail)
  refine round_n [.box gb 179 [sl A' (pre.length+1) cap'],.own A' 200 6 (pre.length+1) cap' (pre.flatMap encU++encU u)] ?_ ⟨A',cap',?_⟩
  ·
   change MSub (_::_::F') _
   exact mS
  ·
   rw [flat_snoc,List.length_append]
   rfl
 ·
  rintro D _ ⟨A,cap,rfl⟩
  change endB _ _ _ _ _ (dObj D:: .box gb 179 [sl A (usesF L).length cap]:: .own A 200 6 (usesF L).length cap ((usesF L).flatMap encU)::_)
  repeat' (first|refine sT ?_|refine sR ?_|refine sM fun _=> ?_|(refine sC ?_ ?_<;>intro hb<;>try omega)|(refine sCR ?_ ?_<;>intro hb<;>try omega)|fail)
  refine end_mark .hd ?_
  refine ret2 (.inl rfl) Tryz.results109 rfl rfl (H' := [.own A 200 6 (usesF L).length cap ((usesF L).flatMap encU)]) mS ⟨A,cap,rfl,rfl⟩
 ·
  rintro D HU h
  exact h.elim
def rel (u:Us):Bool:=decide (0≤u.node)
def touch (r:Rct) (u:Us):Bool:=(meetR u.rect r).2
end Go.SL
namespace Go.SL
open Go
abbrev Gr:=List (Rf × List Nd × List Us)
def keysG (G:Gr):List Rf:=G.map fun e=>e.1
def SortG (G:Gr):Prop:=G.Pairwise fun x y=>lessF x.1 y.1=true
def lookG (G:Gr) (a:Rf):Option (List Nd × List Us):=(G.find? fun e=>decide (e.1=a)).map fun e=>e.2
def delG (G:Gr) (a:Rf):Gr:=G.filter fun e=>decide (e.1≠a)
def insG (G:Gr) (a:Rf) (x:List Nd × List Us):Gr:=G.filter (fun e=>lessF e.1 a)++(a,x)::G.filter fun e=>lessF a e.1
def usesG (G:Gr) (a:Rf):List Us:=((lookG G a).map fun x=>x.2).getD []
def touchesU (us:List Us) (r:Rct):Bool:=us.any (touch r)
def usersG (G:Gr) (r:Rct):List Rf:=if rectE r≠0 then [] else (G.filter fun e=>touchesU e.2.2 r).map fun e=>e.1
def setG (G:Gr) (a:Rf) (b:ByteArray):Gr × Int:=
 if a.valid=false then (G,3)
 else if (ofP b).2.2≠0 then (G,(ofP b).2.2)
 else if (ofP b).1.formula=false then (delG G a,0)
 else (insG G a ((ofP b).1.tree,usesF (ofP b).1.tree),0)
theorem lessF_iff {a b:Rf}:lessF a b=true↔a.row<b.row∨(a.row=b.row∧a.col<b.col):=by simp [lessF]
theorem lessF_irr (a:Rf):lessF a a=false:=by simp [lessF]
theorem lessF_trans {a b c:Rf} (h:lessF a b=true) (k:lessF b c=true):lessF a c=true:=by
 rw [lessF_iff] at*
 omega
theorem lessF_asymm {a b:Rf} (h:lessF a b=true):lessF b a=false:=by
 rw [← Bool.not_eq_true,lessF_iff]
 rw [lessF_iff] at h
 omega
theorem lessF_or {a b:Rf} (h:a≠b):lessF a b=true∨lessF b a=true:=by
 rw [lessF_iff,lessF_iff]
 rcases Int.lt_trichotomy a.row b.row with h1|h1|h1
 ·
  exact .inl (.inl h1)
 ·
  rcases Int.lt_trichotomy a.col b.col with h2|h2|h2
  ·
   exact .inl (.inr ⟨h1,h2⟩)
  ·
   refine absurd ?_ h
   obtain ⟨a1,a2⟩:=a
   obtain ⟨b1,b2⟩:=b
   simp only at h1 h2
   subst h1 h2;rfl
  ·
   exact .inr (.inr ⟨h1.symm,h2⟩)
 ·
  exact .inr (.inl h1)
theorem lessF_ne {a b:Rf} (h:lessF a b=true):a≠b:=by
 rintro rfl
 rw [lessF_irr] at h
 cases h
theorem SortG.nodup {G:Gr} (h:SortG G):(keysG G).Nodup:=by
 rw [keysG,List.Nodup,List.pairwise_map]
 exact h.imp fun h=>lessF_ne h
theorem sortG_nil:SortG []:=List.Pairwise.nil
theorem sortG_del {G:Gr} (h:SortG G) (a:Rf):SortG (delG G a):=h.filter _
theorem sortG_ins {G:Gr} (h:SortG G) (a:Rf) (x:List Nd × List Us):SortG (insG G a x):=by
 refine List.pairwise_append.2 ⟨h.filter _,List.pairwise_cons.2 ⟨fun e he=> ?_,h.filter _⟩,fun e he f hf=> ?_⟩
 ·
  exact (List.mem_filter.1 he).2
 ·
  have h1:=(List.mem_filter.1 he).2
  rcases List.mem_cons.1 hf with rfl|hf
  ·
   exact h1
  ·
   exact lessF_trans h1 (List.mem_filter.1 hf).2
theorem sortG_set {G:Gr} (h:SortG G) (a:Rf) (b:ByteArray):SortG (setG G a b).1:=by
 unfold setG
 split
 ·
  exact h
 ·
  split
  ·
   exact h
  ·
   split
   ·
    exact sortG_del h a
   ·
    exact sortG_ins h a _
theorem mem_insG {G:Gr} {a:Rf} {x:List Nd × List Us} {e:Rf × List Nd × List Us}:e∈insG G a x↔e=(a,x)∨(e∈G∧e.1≠a):=by
 simp only [insG,List.mem_append,List.mem_cons,List.mem_filter]
 constructor
 ·
  rintro (⟨h1,h2⟩|rfl|⟨h1,h2⟩)
  ·
   exact .inr ⟨h1,lessF_ne h2⟩
  ·
   exact .inl rfl
  ·
   exact .inr ⟨h1,(lessF_ne h2).symm⟩
 ·
  rintro (rfl|⟨h1,h2⟩)
  ·
   exact .inr (.inl rfl)
  ·
   rcases lessF_or h2 with h|h
   ·
    exact .inl ⟨h1,h⟩
   ·
    exact .inr (.inr ⟨h1,h⟩)
theorem mem_delG {G:Gr} {a:Rf} {e:Rf × List Nd × List Us}:e∈delG G a↔e∈G∧e.1≠a:=by simp [delG]
theorem lookG_some {G:Gr} (h:SortG G) {a:Rf} {x:List Nd × List Us}:lookG G a=some x↔(a,x)∈G:=by
 constructor
 ·
  intro hl
  obtain ⟨e,he,rfl⟩:=Option.map_eq_some_iff.1 hl
  have h1:=List.find?_some he
  have h2:=List.mem_of_find?_eq_some he
  simp only [decide_eq_true_eq] at h1
  subst h1
  exact h2
 ·
  intro hm
  have hn:=h.nodup
  cases hf:G.find? fun e=>decide (e.1=a) with
  |none=>
   rw [List.find?_eq_none] at hf
   exact absurd (hf _ hm) (by simp)
  |some e=>
   have h1:=List.find?_some hf
   have h2:=List.mem_of_find?_eq_some hf
   simp only [decide_eq_true_eq] at h1
   have:=inj_of_map (fun e:Rf × List Nd × List Us=>e.1) hn h2 hm h1
   rw [lookG,hf,this];rfl
theorem lookG_none {G:Gr} {a:Rf}:lookG G a=none↔ ∀ e∈G,e.1≠a:=by
 rw [lookG,Option.map_eq_none_iff,List.find?_eq_none]
 simp
theorem keys_sorted {G:Gr} (h:SortG G):(keysG G).Pairwise fun x y=>lessF x y=true:=by
 rw [keysG,List.pairwise_map];exact h
theorem sortRf_sorted {L:List Rf} (h:L.Pairwise fun x y=>lessF x y=true):sortRf L=L:=by
 refine List.mergeSort_of_pairwise ?_
 exact h.imp fun h=>by rw [lessF_asymm h];rfl
end Go.SL
namespace Go.SL
open Go Go.Proofs
attribute [local irreducible] W WL WQ WG WA WX WLI WR WT WC VOp RW thn blk cutP scp retP retPP endB FnAt FnIn FnP ceP
theorem w_drawC0 {P:Program} {n:Fr} {w0:World} {Q:Post} {s:Slots} {H:List Blk} {l:List Oper} {id:Nat} (es ps:List Nat) (hm:P.follows .mixedOrders=true) (hB:Region.lexB .any l.toArray=true) (hch:chainB l es ps=true)
  (h:WC P n w0 l H es ps Q l 0 s H):W P n w0 (.region id l.toArray true) Q s H:=w_drawC es ps H hm hB hch (MSub.refl H) h
theorem encUs_one (L:List Us): ∀ u∈L.flatMap encU,u.oneCell' =true:=by
 intro u hu
 obtain ⟨n,_,h⟩:=List.mem_flatMap.1 hu
 simp only [encU,List.mem_cons,List.not_mem_nil,or_false] at h
 rcases h with rfl|rfl|rfl|rfl|rfl|rfl<;>rfl
theorem CloneU_at (L:List Us) (tv:Value) (w:World) (ht:Reads w tv L.length (L.flatMap encU)) (hlen:L.length≤1000000):
  FnAt Tryz.prog 187 [tv] w fun v H=> ∃ A cap,v=sl A L.length cap∧H= [.own A 200 6 L.length cap (L.flatMap encU)]:=by
 have ht' :=ht
 obtain ⟨At,ct,rfl,ht1,ht2,ht3⟩:=ht
 refine fn_at Tryz.func187 rfl Tryz.ntmps187 rfl ?_
 have hl:(L.flatMap encU).length=L.length*6:=flat_length' encU_len L
 refine w_nilrow 200 6 ?_
 repeat' (first|((with_reducible apply wl_v);exact rfl;(with_reducible apply v_eqlnil);exact rfl)|((with_reducible apply wl_buildSlice0);exact rfl;intro gb)|((with_reducible apply wl_appendR (n' :=0) (c:=0) (A:=some _) (m:=L.length));(iterate 3 exact rfl);exact pK;(intro w hm;exact ht'.of_w0 hm);exact hl;exact encUs_one L;omega;(simp only [maxLen];omega);intro A' cap' hA)|refine sT ?_|refine sM fun _=> ?_|(refine sC ?_ ?_<;>intro hb<;>try omega)|fail)
 ·
  have e:L.length=0:=by
   rcases Nat.eq_zero_or_pos L.length with h|h
   ·
    exact h
   ·
    obtain ⟨g,o,rfl,_⟩:=ht3 h
    cases hb
  have e' :L= []:=List.eq_nil_of_length_eq_zero e
  subst e'
  exact ret1 (.inl rfl) Tryz.results187 rfl (.refl _) ⟨none,0,rfl,rfl⟩
 ·
  exact ret1 (.inl rfl) Tryz.results187 rfl (H' := [.own A' 200 6 (0+L.length) cap' ([]++L.flatMap encU)]) mS ⟨A',cap',by rw [Nat.zero_add],by rw [Nat.zero_add];rfl⟩
structure En where
 at_:Rf
 ta:Option Addr
 tc:Nat
 ua:Option Addr
 uc:Nat
 tree:List Nd
 uses:List Us
 born:Nat
def En.tv (e:En):Value:= .slice e.ta e.tree.length e.tc
def En.uv (e:En):Value:= .slice e.ua e.uses.length e.uc
def En.m (e:En):Rf × Value × Nat:=(e.at_,.agg #[e.tv,e.uv],e.born)
abbrev zeroFm:Value:= .agg [Value.slice none 0 0,.slice none 0 0].toArray
def rdIn (R:List Blk) (v:Value) (m:Nat) (xs:List Value):Prop:= ∀ w0 w,Mem w0 w R→Reads w v m xs
theorem rdIn.sub {R R' :List Blk} {v:Value} {m:Nat} {xs:List Value} (h:rdIn R v m xs) (hs:MSub R R'):rdIn R' v m xs:=fun w0 w hm=>h w0 w (hs.use hm)
theorem rdIn.nil (R:List Blk):rdIn R (.slice none 0 0) 0 []:=fun _ _ _=>⟨none,0,rfl,Nat.le_refl _,Nat.zero_le _,fun h=>by cases h⟩
theorem rdIn.own {R:List Blk} {A:Option Nat} {t sz m c:Nat} {xs:List Value} (hi:In (.own A t sz m c xs) R):rdIn R (sl A m c) m xs:=fun _ _ hm=>Reads.of_own hm hi
structure EnOk (R:List Blk) (e:En):Prop where
 tree:rdIn R e.tv e.tree.length (e.tree.flatMap encN)
 uses:rdIn R e.uv e.uses.length (e.uses.flatMap encU)
 tl:e.tree.length≤1000000
 ul:e.uses.length≤1000000
theorem EnOk.sub {R R' :List Blk} {e:En} (h:EnOk R e) (hs:MSub R R'):EnOk R' e:=⟨h.tree.sub hs,h.uses.sub hs,h.tl,h.ul⟩
def zeroEn (a:Rf):En:=⟨a,none,0,none,0,[],[],0⟩
theorem zeroEn_ok (R:List Blk) (a:Rf):EnOk R (zeroEn a):=⟨rdIn.nil _,rdIn.nil _,by simp [zeroEn],by simp [zeroEn]⟩
def findE (E:List En) (a:Rf):Option En:=E.find? fun e=>decide (e.at_=a)
def foundE (E:List En) (a:Rf):En:=(findE E a).getD (zeroEn a)
theorem findE_mem {E:List En} {a:Rf} {e:En} (h:findE E a=some e):e∈E:=List.mem_of_find?_eq_some h
theorem foundE_ok {R:List Blk} {E:List En} (h: ∀ e∈E,EnOk R e) (a:Rf):EnOk R (foundE E a):=by
 unfold foundE
 cases hf:findE E a with
 |none=>exact zeroEn_ok _ _
 |some e=>exact h e (findE_mem hf)
theorem kfind_E (E:List En) (a:Rf): ∀ i:Nat,(kfind a (E.map En.m) i).map (fun x=>x.2)=(findE E a).map fun e=>e.m.2.1:=by
 induction E with
 |nil=>intro i;rfl
 |cons e r ih=>
  intro i
  simp only [List.map_cons,kfind,findE,List.find?_cons]
  by_cases h:a=e.at_
  ·
   simp [En.m,h]
  ·
   have h' : ¬ e.at_=a:=fun x=>h x.symm
   simp only [En.m,h,if_false,h',decide_false]
   exact ih (i+1)
theorem look_E (E:List En) (a:Rf):(match kfind a (E.map En.m) 0 with|some (_,v)=>v|none=>zeroFm)= .agg #[(foundE E a).tv,(foundE E a).uv]:=by
 have h:=kfind_E E a 0
 unfold foundE
 cases hk:kfind a (E.map En.m) 0 with
 |none=>rw [hk] at h;cases hf:findE E a with
  |none=>rfl
  |some e=>rw [hf] at h;cases h
 |some x=>rw [hk] at h;cases hf:findE E a with
  |none=>rw [hf] at h;cases h
  |some e=>rw [hf] at h;exact Option.some.inj h
instance klaw_key:KLaw Tryz.prog 51 keyF:=klaw_F
instance:FldT Tryz.prog 183 1 179 1:=⟨_,_,Tryz.underlying183,rfl,rfl,rfl⟩
set_option maxHeartbeats 1000000 in
theorem Uses_in (gg gm clock:Nat) (E:List En) (a:Rf) (R:List Blk) (w0:World) (hE: ∀ e∈E,EnOk R e):
  FnIn Tryz.prog 117 [.pointer (some ⟨gg,0,none⟩),keyF a] w0 (gB gg gm (E.map En.m) clock++R) fun v H=> ∃ A cap,v=sl A (foundE E a).uses.length cap∧H= .own A 200 6 (foundE E a).uses.length cap ((foundE E a).uses.flatMap encU)::(gB gg gm (E.map En.m) clock++R):=by
 refine fn_in Tryz.func117 rfl Tryz.ntmps117 rfl ?_
 have hl:=look_E E a
 have hok:=foundE_ok hE a
 generalize foundE E a=e at hl hok
 have hcl:=fun (w' :World) (H' :List Blk) (hs:MSub R H') (hm:Mem w0 w' H')=>CloneU_at e.uses e.uv w' (hok.uses _ w' (hs.use hm)) hok.ul
 unfold gB
 repeat' (first|((with_reducible apply wl_v);exact rfl;(with_reducible apply v_nilCheck);exact rfl)|((with_reducible apply w_drawC0 (id:=3) [7] []);kernel_rfl;kernel_rfl;kernel_rfl)|((with_reducible apply wc_v);(iterate 3 exact rfl);(with_reducible apply v_lookup (enc:=keyF) (z:=zeroFm));exact rfl;exact rfl;exact pK;exact hl)|((with_reducible apply wc_v);(iterate 3 exact rfl);(with_reducible apply v_field);exact rfl;exact rfl)|((with_reducible apply wl_call (f:=187));exact rfl;exact rfl;(intro w' hm;exact hcl w' _ mS hm);rintro _ _ ⟨A,cap,rfl,rfl⟩)|refine sT ?_|refine sS ?_|refine sW ?_|refine sM fun _=> ?_|(refine sC ?_ ?_<;>intro hb<;>try omega)|(refine sCW ?_ ?_<;>intro hb<;>try omega)|fail)
 all_goals exact ret1 eIO rfl rfl mS ⟨A,cap,rfl,rfl⟩
theorem formsF_len (es:List (Rf × Value × Nat)):(formsF es).length=es.length:=by
 have:=(List.mergeSort_perm (es.map fun e=>e.1) (fun x y=> !(lessF y x))).length_eq
 simp [formsF,sortRf]
end Go.SL

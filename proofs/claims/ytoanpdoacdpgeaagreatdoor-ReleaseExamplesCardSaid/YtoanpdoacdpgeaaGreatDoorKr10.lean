/-
  Lemmas and walks, put together: S1 A2p S2 W5 S3 S4 W6 W7 W8 D4 W29.
-/
import Derived.Test.YtoanpdoacdpgeaaGreatDoorKr08
set_option linter.unusedSimpArgs false
set_option linter.unusedVariables false
set_option maxRecDepth 20000
namespace Go.Proofs
open Go Go.Shelf Go.RowKit Go.Lib Go.Sort Go.SL
set_option maxHeartbeats 1000000 in
theorem Tryz.lessX (a b:Rf) (W:World):Calls Tryz.prog 46 #[.agg #[.int .i64 a.col,.int .i64 a.row],.agg #[.int .i64 b.col,.int .i64 b.row]] W fun e w' =>e= .returned (.bool (aW a b))∧ ∃ q os',w' =grow (W.drewN q) os' :=by
 go_enter Tryz.func46,Tryz.ntmps46
 go_wp2
 all_goals
  rename_i h
  go_ret
  refine ⟨?_,0,_,by rw [alloc_eq_grow,alloc_eq_grow,grow_grow];rfl⟩
  first
   |(congr 2;simp_all [aW];done)
   |(congr 2;simp only [aW];simp;omega)
def Lays (W w' :World):Prop:= ∃ q os',w' =grow (W.drewN q) os'
theorem Lays.refl (W:World):Lays W W:=⟨0,#[],by simp [grow,World.drewN]⟩
theorem Lays.alloc {W X:World} (h:Lays W X) (o:Obj):Lays W (X.alloc o):=by
 obtain ⟨q,os,rfl⟩:=h
 refine ⟨q,os.push o,?_⟩
 show ({ W with heap:=(W.heap++os).push o,drawn:=W.drawn+q }:World)={ W with heap:=W.heap++os.push o,drawn:=W.drawn+q }
 rw [Array.append_push]
theorem Lays.grow {W X:World} (h:Lays W X) (q2:Nat) (os2:Array Obj):Lays W (Go.Sort.grow (X.drewN q2) os2):=by
 obtain ⟨q,os,rfl⟩:=h
 refine ⟨q+q2,os++os2,?_⟩
 show ({ W with heap:=(W.heap++os)++os2,drawn:=W.drawn+q+q2 }:World)={ W with heap:=W.heap++(os++os2),drawn:=W.drawn+(q+q2) }
 rw [Array.append_assoc,Jy]
set_option maxHeartbeats 1000000 in
theorem Tryz.orderX (a b:Rf) (W:World):Calls Tryz.prog 155 #[.agg #[.int .i64 a.col,.int .i64 a.row],.agg #[.int .i64 b.col,.int .i64 b.row]] W fun e w' =>e= .returned (.int .i64 (gI a b))∧ ∃ q os',w' =grow (W.drewN q) os' :=by
 unfold gI
 have c1: ∀ q os,(grow (((W.alloc (Obj.cells #[Value.int IntKind.i64 a.col,Value.int IntKind.i64 a.row] 50)).alloc (Obj.cells #[Value.int IntKind.i64 b.col,Value.int IntKind.i64 b.row] 50)).drewN q) os).cell? ⟨W.heap.size,0,none⟩=some (.int .i64 a.col):=fun q os=>by
  refine cell_grown (by show W.heap.size<((W.heap.push _).push _).size;rw [Jh,Jh];omega) ?_ q os
  have e: ∀ o1 o2:Obj,((W.alloc o1).alloc o2).heap[W.heap.size]? =some o1:=fun o1 o2=>by
   show ((W.heap.push o1).push o2)[W.heap.size]? =_
   rw [Js,if_neg (by rw [Jh];omega),Js,if_pos rfl]
  simp only [World.cell?,e]
  rfl
 have c2: ∀ q os,(grow (((W.alloc (Obj.cells #[Value.int IntKind.i64 a.col,Value.int IntKind.i64 a.row] 50)).alloc (Obj.cells #[Value.int IntKind.i64 b.col,Value.int IntKind.i64 b.row] 50)).drewN q) os).cell? ⟨W.heap.size,1,none⟩=some (.int .i64 a.row):=fun q os=>by
  refine cell_grown (by show W.heap.size<((W.heap.push _).push _).size;rw [Jh,Jh];omega) ?_ q os
  have e: ∀ o1 o2:Obj,((W.alloc o1).alloc o2).heap[W.heap.size]? =some o1:=fun o1 o2=>by
   show ((W.heap.push o1).push o2)[W.heap.size]? =_
   rw [Js,if_neg (by rw [Jh];omega),Js,if_pos rfl]
  simp only [World.cell?,e]
  rfl
 have c3: ∀ q os,(grow (((W.alloc (Obj.cells #[Value.int IntKind.i64 a.col,Value.int IntKind.i64 a.row] 50)).alloc (Obj.cells #[Value.int IntKind.i64 b.col,Value.int IntKind.i64 b.row] 50)).drewN q) os).cell? ⟨W.heap.size+1,0,none⟩=some (.int .i64 b.col):=fun q os=>by
  refine cell_grown (by show W.heap.size+1<((W.heap.push _).push _).size;rw [Jh,Jh];omega) ?_ q os
  have e: ∀ o1 o2:Obj,((W.alloc o1).alloc o2).heap[W.heap.size+1]? =some o2:=fun o1 o2=>by
   show ((W.heap.push o1).push o2)[W.heap.size+1]? =_
   rw [Js,if_pos (by rw [Jh])]
  simp only [World.cell?,e]
  rfl
 have c4: ∀ q os,(grow (((W.alloc (Obj.cells #[Value.int IntKind.i64 a.col,Value.int IntKind.i64 a.row] 50)).alloc (Obj.cells #[Value.int IntKind.i64 b.col,Value.int IntKind.i64 b.row] 50)).drewN q) os).cell? ⟨W.heap.size+1,1,none⟩=some (.int .i64 b.row):=fun q os=>by
  refine cell_grown (by show W.heap.size+1<((W.heap.push _).push _).size;rw [Jh,Jh];omega) ?_ q os
  have e: ∀ o1 o2:Obj,((W.alloc o1).alloc o2).heap[W.heap.size+1]? =some o2:=fun o1 o2=>by
   show ((W.heap.push o1).push o2)[W.heap.size+1]? =_
   rw [Js,if_pos (by rw [Jh])]
  simp only [World.cell?,e]
  rfl
 go_enter Tryz.func155,Tryz.ntmps155
 go_wp2_with (go_at_call 46;refine (Tryz.lessX _ _ _).mono ?_;rintro e w' ⟨rfl,q,os,rfl⟩)
 all_goals
  go_ret
  exact ⟨rfl,by first|exact (((Lays.refl W).alloc _).alloc _).grow _ _|exact ((((Lays.refl W).alloc _).alloc _).grow _ _).grow _ _⟩
end Go.Proofs
namespace Go.SL
open Go
theorem oT {p:Pc} {c:Int} (h:fw c=true):aY p c=gh p (upC c):=by
 simp only [fw,Ke,IB,decide_eq_true_eq] at h
 rw [aY,if_pos]
 unfold upC
 split<;>omega
theorem dN {p:Pc} {c:Int} (h:aS c=true):aY p c=dC p c:=by
 simp only [aS,IB,decide_eq_true_eq] at h
 exact oU h.1 h.2
theorem iN {p:Pc} {c:Int} (h:fw c=false) (h2:aS c=false):(aY p c).ok=false:=by
 simp only [fw,aS,Bool.or_eq_false_iff,JO,decide_eq_false_iff_not] at h h2
 rw [qX (by omega) (by omega) (by omega)]
theorem wV {p:Pc} (h:p.ok=false) (c:Int):(aY p c).ok=false:=by
 unfold aY
 split
 ·
  simp [gh,h]
 ·
  split
  ·
   simp [dC,h]
  ·
   rfl
theorem jt: ∀ (l:List Int) {p:Pc},p.ok=false→(l.foldl aY p).ok=false
 | [],_,h=>h
 |c::r,_,h=>jt r (wV h c)
theorem u9: ∀ (l:List Int) (p:Pc),(∀ c∈l,fw c=true)→p.m1=0→l.foldl aY p=⟨p.m0+l.length,0,bN l p.v0,p.v1,p.ok⟩
 | [],p,_,h=>by obtain ⟨a,b,c,d,e⟩:=p;simp only at h;subst h;simp [bN]
 |c::r,p,hl,h=>by
  rw [JI,oT (hl c H4),u9 r _ (fun d hd=>hl d (H9 _ hd)) (by simp [gh,h])]
  simp only [gh,h,bN,decide_true,IV,IA,Pc.mk.injEq,true_and,and_true]
  refine ⟨by push_cast;omega,?_⟩
  rw [show 26*p.v0+(upC c - 65)+1=26*p.v0+(upC c - 64) by omega]
theorem pF: ∀ (l:List Int) (p:Pc),(∀ c∈l,aS c=true)→0<p.m1→l.foldl aY p=⟨p.m0,p.m1+l.length,p.v0,nB l p.v1,p.ok⟩
 | [],p,_,_=>by obtain ⟨a,b,c,d,e⟩:=p;simp [nB]
 |c::r,p,hl,h=>by
  rw [JI,dN (hl c H4),pF r _ (fun d hd=>hl d (H9 _ hd)) (by simp [dC];omega)]
  simp only [dC,h,nB,decide_true,Bool.or_true,IV,IA,Pc.mk.injEq,true_and,and_true]
  push_cast;omega
theorem kL: ∀ (l:List Int) (p:Pc),(l.all aS=false)→0<p.m1→(l.foldl aY p).ok=false
 | [],_,h,_=>by simp at h
 |c::r,p,h,hm=>by
  rw [JI]
  cases hd:aS c
  ·
   apply jt
   cases hl:fw c
   ·
    exact iN hl hd
   ·
    rw [oT hl]
    simp only [gh]
    rw [decide_eq_false (by omega)]
    simp
  ·
   rw [List.all_cons,hd,IR] at h
   apply kL r _ h
   rw [dN hd]
   simp only [dC];omega
theorem lz: ∀ (l:List Int) {v:Int},(∀ c∈l,fw c=true)→0≤v→(l≠ []∨1≤v)→1≤bN l v
 | [],v,_,_,h=>by rcases h with h|h;exact absurd rfl h;exact h
 |c::r,v,hl,h0,_=>by
  have hc:=hl c H4
  simp only [fw,Ke,IB,decide_eq_true_eq] at hc
  have hu:65≤upC c:=by unfold upC;split<;>omega
  simp only [bN]
  exact lz r (fun d hd=>hl d (H9 _ hd)) (by omega) (.inr (by omega))
theorem uB: ∀ (l:List Int) {v:Int},(∀ c∈l,aS c=true)→1≤v→1≤nB l v
 | [],_,_,h=>h
 |c::r,v,hl,h=>by
  have hc:=hl c H4
  simp only [aS,IB,decide_eq_true_eq] at hc
  simp only [nB]
  exact uB r (fun d hd=>hl d (H9 _ hd)) (by omega)
theorem jZ {p:Int→Bool}: ∀ {l:List Int} {c:Int},c∈l.takeWhile p→p c=true
 |d::r,c,h=>by
  rw [List.takeWhile_cons] at h
  split at h
  ·
   rename_i hp
   rcases Ie.1 h with rfl|h
   ·
    exact hp
   ·
    exact jZ h
  ·
   cases h
theorem CV (l:List Int):rD l=cY l:=by
 unfold rD cY
 dsimp only
 generalize ha:l.takeWhile fw=a
 generalize hd:l.dropWhile fw=d
 have hl:l=a++d:=by rw [← ha,← hd,List.takeWhile_append_dropWhile]
 have hal: ∀ c∈a,fw c=true:=fun c hc=>jZ (ha ▸ hc)
 have hp:nC l=d.foldl aY ⟨a.length,0,bN a 0,0,true⟩:=by
  rw [nC,hl,J1,u9 a pc0 hal rfl]
  simp [pc0]
 rw [hp]
 cases d with
 |nil=>simp
 |cons c r=>
  have hcl:fw c=false:=by
   cases hq:fw c
   ·
    rfl
   ·
    exfalso
    have hne:l.dropWhile fw≠ []:=by rw [hd];simp
    have:=List.head_dropWhile_not fw hne
    simp only [hd,List.head_cons] at this
    rw [hq] at this;cases this
  rw [JI]
  by_cases ha0:a= []
  ·
   subst ha0
   have:(List.foldl aY (aY ⟨(([]:List Int).length:Int),0,bN [] 0,0,true⟩ c) r).ok=false∨(List.foldl aY (aY ⟨(([]:List Int).length:Int),0,bN [] 0,0,true⟩ c) r).m0=0∨(List.foldl aY (aY ⟨(([]:List Int).length:Int),0,bN [] 0,0,true⟩ c) r).m1=0:=by
    cases hdc:aS c
    ·
     exact .inl (jt r (iN hcl hdc))
    ·
     cases hr:r.all aS
     ·
      left
      apply kL r _ hr
      rw [dN hdc];simp [dC]
     ·
      right;left
      rw [pF r _ (by simpa using hr) (by rw [dN hdc];simp [dC])]
      rw [dN hdc];simp [dC]
   rw [if_pos this,if_pos (show (([]:List Int)= []∨_) from .inl rfl)]
  ·
   have hlen:0<(a.length:Int):=by
    have:=Jc.2 ha0
    omega
   cases hdc:aS c
   ·
    rw [if_pos (.inl (jt r (iN hcl hdc))),if_pos (.inr (.inr (.inr (by simp [hdc]))))]
   ·
    rw [dN hdc]
    by_cases h48:c=48
    ·
     rw [if_pos (.inl (jt r (by simp [dC,h48]))),if_pos (.inr (.inr (.inl (by simp [h48]))))]
    ·
     cases hr:r.all aS
     ·
      rw [if_pos (.inl (kL r _ hr (by simp [dC]))),if_pos (.inr (.inr (.inr (by simp [hr]))))]
     ·
      have hr' : ∀ x∈r,aS x=true:=by simpa using hr
      have hp2:List.foldl aY (dC ⟨a.length,0,bN a 0,0,true⟩ c) r=⟨a.length,1+r.length,bN a 0,nB (c::r) 0,true⟩:=by
       rw [pF r _ hr' (by simp [dC])]
       simp [dC,h48,nB]
      rw [hp2,if_neg (c:=(a= []∨_)) (by simp [ha0,h48,hdc,hr])]
      have hd2:=hdc
      simp only [aS,IB,decide_eq_true_eq] at hd2
      have h1:=lz a hal (Kd 0) (.inl ha0)
      have h3:1≤nB (c::r) 0:=uB r (v:=min (10*0+(c - 48)) 1025) hr' (by omega)
      generalize nB (c::r) 0=u at h3 ⊢
      split
      ·
       rename_i h
       exfalso
       rcases h with h|h|h
       ·
        cases h
       ·
        exact absurd h (by show ¬ ((a.length:Int)=0);omega)
       ·
        exact absurd h (by show ¬ (1+(r.length:Int)=0);omega)
      ·
       by_cases hb:1024<bN a 0∨1024<u
       ·
        rw [if_pos hb,if_neg]
        simp only [valid,IB,decide_eq_true_eq]
        omega
       ·
        rw [if_neg hb,if_pos]
        simp only [valid,IB,decide_eq_true_eq]
        omega
end Go.SL
namespace Go.Proofs
open Go Go.Shelf Go.RowKit Go.Lib Go.Sort Go.SL
def Tryz.sortRf_ren:Go.Shelf.Ren:=⟨fun|6=>154|15=>202|14=>201|28=>252|29=>253|20=>244|21=>245|22=>246|23=>247|24=>248|25=>249|26=>250|27=>251|46=>292|47=>293|48=>294|49=>295|50=>296|57=>329|n=>n,fun|22=>45|24=>50|25=>202|3=>3|39=>196|0=>0|53=>310|55=>33|4=>4|46=>303|45=>302|50=>307|5=>5|9=>9|66=>340|70=>344|76=>370|77=>367|n=>n,fun|n=>n⟩
theorem Tryz.sortRf:Go.Proofs.SlLaysF0.n6 Tryz.prog Tryz.sortRf_ren:={
 mixed:=by kernel_rfl
 f6:=⟨Tryz.f154.name,by decide,Tryz.func154.trans (congrArg some (by kernel_rfl))⟩
 f14:=⟨Tryz.f201.name,by decide,Tryz.func201.trans (congrArg some (by kernel_rfl))⟩
 f15:=Tryz.func202.trans (congrArg some (by kernel_rfl))
 f20:=⟨Tryz.f244.name,by decide,Tryz.func244.trans (congrArg some (by kernel_rfl))⟩
 f21:=⟨Tryz.f245.name,by decide,Tryz.func245.trans (congrArg some (by kernel_rfl))⟩
 f22:=⟨Tryz.f246.name,by decide,Tryz.func246.trans (congrArg some (by kernel_rfl))⟩
 f23:=⟨Tryz.f247.name,by decide,Tryz.func247.trans (congrArg some (by kernel_rfl))⟩
 f24:=⟨Tryz.f248.name,by decide,Tryz.func248.trans (congrArg some (by kernel_rfl))⟩
 f25:=⟨Tryz.f249.name,by decide,Tryz.func249.trans (congrArg some (by kernel_rfl))⟩
 f26:=⟨Tryz.f250.name,by decide,Tryz.func250.trans (congrArg some (by kernel_rfl))⟩
 f27:=⟨Tryz.f251.name,by decide,Tryz.func251.trans (congrArg some (by kernel_rfl))⟩
 f28:=Tryz.func252.trans (congrArg some (by kernel_rfl))
 f29:=Tryz.func253.trans (congrArg some (by kernel_rfl))
 f46:=⟨Tryz.f292.name,by decide,Tryz.func292.trans (congrArg some (by kernel_rfl))⟩
 f47:=Tryz.func293.trans (congrArg some (by kernel_rfl))
 f48:=Tryz.func294.trans (congrArg some (by kernel_rfl))
 f49:=⟨Tryz.f295.name,by decide,Tryz.func295.trans (congrArg some (by kernel_rfl))⟩
 f50:=⟨Tryz.f296.name,by decide,Tryz.func296.trans (congrArg some (by kernel_rfl))⟩
 f57:=⟨Tryz.f329.name,by decide,Tryz.func329.trans (congrArg some (by kernel_rfl))⟩
 t0:=Tryz.underlying0
 a0:=Tryz.isAgg0
 z0:=Tryz.sizeOf0
 v0:=Tryz.zeroValue0
 t3:=Tryz.underlying3
 a3:=Tryz.isAgg3
 z3:=Tryz.sizeOf3
 v3:=Tryz.zeroValue3
 t4:=Tryz.underlying4
 a4:=Tryz.isAgg4
 z4:=Tryz.sizeOf4
 v4:=Tryz.zeroValue4
 t5:=Tryz.underlying5
 a5:=Tryz.isAgg5
 z5:=Tryz.sizeOf5
 v5:=Tryz.zeroValue5
 t9:=Tryz.underlying9
 a9:=Tryz.isAgg9
 z9:=Tryz.sizeOf9
 v9:=Tryz.zeroValue9
 t22:=Tryz.underlying45
 a22:=Tryz.isAgg45
 z22:=Tryz.sizeOf45
 v22:=Tryz.zeroValue45
 t25:=Tryz.underlying202
 a25:=Tryz.isAgg202
 z25:=Tryz.sizeOf202
 v25:=Tryz.zeroValue202
 t39:=Tryz.underlying196
 a39:=Tryz.isAgg196
 z39:=Tryz.sizeOf196
 v39:=Tryz.zeroValue196
 t45:=Tryz.underlying302
 a45:=Tryz.isAgg302
 z45:=Tryz.sizeOf302
 v45:=Tryz.zeroValue302
 t46:=Tryz.underlying303
 a46:=Tryz.isAgg303
 z46:=Tryz.sizeOf303
 v46:=Tryz.zeroValue303
 t50:=Tryz.underlying307
 a50:=Tryz.isAgg307
 z50:=Tryz.sizeOf307
 v50:=Tryz.zeroValue307
 t53:=Tryz.underlying310
 a53:=Tryz.isAgg310
 z53:=Tryz.sizeOf310
 v53:=Tryz.zeroValue310
 t55:=Tryz.underlying33
 a55:=Tryz.isAgg33
 z55:=Tryz.sizeOf33
 v55:=Tryz.zeroValue33
 t66:=Tryz.underlying340
 a66:=Tryz.isAgg340
 z66:=Tryz.sizeOf340
 v66:=Tryz.zeroValue340
 t70:=Tryz.underlying344
 a70:=Tryz.isAgg344
 z70:=Tryz.sizeOf344
 v70:=Tryz.zeroValue344
 t76:=Tryz.underlying370
 a76:=Tryz.isAgg370
 z76:=Tryz.sizeOf370
 v76:=Tryz.zeroValue370
 t77:=Tryz.underlying367
 a77:=Tryz.isAgg367
 z77:=Tryz.sizeOf367
 v77:=Tryz.zeroValue367 }
theorem eF (x y:Rf):ltOf gI x y=aW x y:=by
 unfold ltOf gI
 cases h1:aW x y<;>cases h2:aW y x<;>simp
theorem GV:SWO (ltOf gI):={
 irrefl x:=by rw [eF];simp [aW]
 trans x y z h1 h2:=by rw [eF] at*;simp [aW] at*;omega
 ntrans x y z h1 h2:=by rw [eF] at*;simp [aW] at*;omega }
theorem E2 (x y:Rf) (h1:ltOf gI x y=false) (h2:ltOf gI y x=false):x=y:=by
 rw [eF] at h1 h2
 obtain ⟨a,b⟩:=x
 obtain ⟨c,d⟩:=y
 simp [aW] at h1 h2
 simp
 omega
instance:Inhabited Rf:=⟨⟨0,0⟩⟩
theorem Tryz.sortRf_calls (blk off cap:Nat) (d:Array Rf) (w:World) (hH:HoldsK aQ 2 w blk off d) (hblk:blk<w.heap.size) (hsz:d.size<4611686018427387904):
  Calls Tryz.prog 154 #[.slice (some ⟨blk,off,none⟩) d.size cap,.func (.func 155) #[] #[]] w fun e w' =>
   e= .returned (.tuple #[])∧ ∃ n os,w' =sortWorldK aQ 2 w blk off n (d.toList.mergeSort fun x y=> !(ltOf gI) y x).toArray os:=by
 have eg: ∀ args w,(callFunc 155 args).run Tryz.prog w= .ok (.enter 155 args) w:=enters_of Tryz.func155 (by kernel_rfl) rfl
 exact AnyQ.slices_SortFunc_total Tryz.sortRf 2 (fun w=>by have h:=Tryz.underlying50;show (isAgg 50).run _ w=_;simp [isAgg,run_underlying h]) (fun w=>by obtain ⟨i,h1,h2⟩:=(inferInstance:Size Tryz.prog 50 2).out;show (Go.sizeOf 50).run _ w=_;simp [Go.sizeOf,typeInfo,h1,h2]) aQ (fun _=>rfl) (fun x v hv=>by simp [aQ] at hv;rcases hv with rfl|rfl<;>rfl) gI GV 155 #[] blk off cap d w eg (fun _ _ _ _ x y=>Tryz.orderX x y _) hH hblk hsz E2
end Go.Proofs
namespace Go.SL
open Go Go.Proofs
attribute [local irreducible] W WL WQ WG WA VOp thn blk aN aF FnIn
def xC (N:Nat) (w0:World) (f:FuncId) (caps:List Value) (Inv:List lR→List Blk→Prop):Prop:=
 ∀ (vs:List lR) (kids:List Nat) (d:Nat) (A:Option Nat) (cap:Nat) (H F:List Blk),Inv vs H→kids.length≤1000→vs.length<N→(∀ k∈kids,k<vs.length)→
  FnIn Tryz.prog f ([.int .i64 (vs.length:Int),sl A kids.length cap,.int .i64 (d:Int)]++caps) w0 (.own A 3 1 kids.length cap (kids.map fun (k:Nat)=> .int .i64 (k:Int))::(H++F))
   fun _ H' => ∃ H1,Inv (vs++ [(kids,d)]) H1∧MSub (H1++F) H'
theorem zM {n:Nd} (h:dZ n=0):0≤below n∧below n≤16:=by
 unfold dZ at h
 split at h
 ·
  cases h
 ·
  rename_i hk
  split at h
  ·
   rename_i h7
   unfold below
   split
   ·
    omega
   ·
    split
    ·
     omega
    ·
     omega
  ·
   rename_i h7
   have h7' :n.kind=7:=by omega
   have hb:below n=n.n:=by simp [below,h7']
   have hk1:pw n=true:=by
    cases hh:pw n
    ·
     exact absurd (Or.inl hh) hk
    ·
     rfl
   simp [pw,h7'] at hk1
   split at h
   ·
    rename_i ha;omega
   ·
    split at h
    ·
     omega
    ·
     rename_i hc
     have hm:(dP n.fn).2.1≤16:=by
      unfold dP
      (repeat' split)<;>simp
     omega
theorem iH (st:List Pt) (k:Nat) (h:k≤st.length):(bk st k).length=k:=by simp [bk];omega
theorem jI {st:List Pt} {k:Nat} {p:Pt} (h:p∈bk st k):p∈st:=J7 h
theorem za {w0 w:World} {H:List Blk} {A:Option Nat} {st:List Pt} {cap k:Nat} (hm:Mem w0 w H) (hi:In (.own A 356 3 st.length cap (st.flatMap mF)) H) (h:k≤st.length):
  Reads w (.slice (if cap=st.length - k then A.map fun g=>⟨g,0,none⟩ else (A.map fun g=>(⟨g,0,none⟩:Addr)).map (·.add ((st.length - k)*3))) (st.length - (st.length - k)) (cap - (st.length - k))) (bk st k).length ((bk st k).flatMap mF):=by
 have h1:=(Reads.of_own hm hi).cut (lo:=st.length - k) (hi:=st.length) (sz:=3) (by omega) (Ih _)
 have e1:st.length - (st.length - k)=(bk st k).length:=by rw [iH st k h];omega
 rw [jO jw,e1] at h1
 have e2:((st.drop (st.length - k)).flatMap mF).take ((bk st k).length*3)=(bk st k).flatMap mF:=by
  rw [Jg (by rw [aC jw];exact Ih _)];rfl
 rw [e2] at h1
 rw [e1]
 exact h1
theorem tq (top:List Pt) (j:Nat) (h:j<top.length):bS (top.take (j+1))=max (bS (top.take j)) (top[j].depth+1):=by
 unfold bS
 rw [H7 h,J1]
 rfl
theorem qo (top:List Pt) (h: ∀ p∈top,p.depth≤32):bS top≤33:=by
 have: ∀ (l:List Pt) (d:Nat),d≤33→(∀ p∈l,p.depth≤32)→l.foldl (fun d p=>max d (p.depth+1)) d≤33:=by
  intro l
  induction l with
  |nil=>intro d hd _;simpa using hd
  |cons p r ih=>
   intro d hd hp
   have:=hp p H4
   exact ih _ (by show max d (p.depth+1)≤33;omega) fun q hq=>hp q (H9 _ hq)
 exact this top 1 (by omega) h
structure WalkSt (L:List Nd) (Inv:List lR→List Blk→Prop) (i:Nat) (st:List Pt) (vs:List lR) (Hv:List Blk):Prop where
 le:i≤L.length
 len:vs.length=i
 inv:Inv vs Hv
 rest:iT L L 0 [] []=iT L (L.drop i) i st vs
 ok: ∀ p∈st,p.root<i∧p.depth≤32
 small:st.length≤i
set_option maxHeartbeats 2000000 in
theorem yV (L:List Nd) (hne:0<L.length) (hlen:L.length≤256) (tv:Value) (w0:World) (ht:Reads w0 tv L.length (L.flatMap dD)) (f:FuncId) [hf:Callable Tryz.prog f] (caps:List Value) (Inv:List lR→List Blk→Prop) (hV:xC L.length w0 f caps Inv)
  (H:List Blk) (hI:Inv [] H):FnIn Tryz.prog 277 [tv,.func (.func f) #[] caps.toArray] w0 H fun v H' =>v= .int .i64 (iT L L 0 [] []).1∧Inv (iT L L 0 [] []).2 H' :=by
 have ht' :=ht
 obtain ⟨At,ct,rfl,ht1,ht2,ht3⟩:=ht
 obtain ⟨gt,ot,rfl,hrt⟩:=ht3 hne
 refine fc Tryz.func277 rfl Tryz.ntmps277 rfl ?_
 repeat' (first|refine sT ?_|refine sM fun _=> ?_|(refine sC ?_ ?_<;>intro hb<;>try omega)|fail)
 refine aw 356 3 ?_
 refine xV (fun (i:Nat) s H=> ∃ st vs A cap Hv,s= [(0,.slice (some ⟨gt,ot,none⟩) L.length ct),(1,.func (.func f) #[] caps.toArray),(5,sl A st.length cap),(14,.slice (some ⟨gt,ot,none⟩) L.length ct),(15,.int .i64 (L.length:Int)),(16,.int .i64 (i:Int))]∧
   H= .own A 356 3 st.length cap (st.flatMap mF)::Hv∧WalkSt L Inv i st vs Hv) (fun i=>L.length - i) 0 ?_ ?_
 ·
  refine ⟨_,_,?_,?_,⟨[],[],none,0,H,rfl,rfl,⟨H5 _,rfl,hI,rfl,by simp,Ih _⟩⟩⟩
  ·
   exact sB
  ·
   exact mS
 ·
  rintro i _ _ ⟨st,vs,A,cap,Hv,rfl,rfl,hst⟩
  obtain ⟨hle,hvl,hinv,hrest,hok,hsmall⟩:=hst
  by_cases hlt:i<L.length
  ·
   have hrn:=hrt.elem fU i hlt
   rw [H6 hlt,iT,E4] at hrest
   generalize hn:L[i]=n at hrest hrn
   by_cases hfe:dZ n=0
   ·
    obtain ⟨hb0,hb16⟩:=zM hfe
    obtain ⟨k,hk⟩:=Int.eq_ofNat_of_zero_le hb0
    rw [if_neg (by simp [hfe]),hk,Int.toNat_natCast] at hrest
    have hbel: ∀ w,ay Tryz.prog 306 [.agg (dD n).toArray] w (.int .i64 (k:Int)):=fun w=>hk ▸ CU n w
    have hfie: ∀ w,ay Tryz.prog 305 [.agg (dD n).toArray] w (.int .i64 0):=fun w=>hfe ▸ rq n w
    refine Gy .hd fun hr1 hr2 hr3=> ?_
    repeat' (first|(apply aj;exact rfl;apply ai;exact rfl;exact rfl;exact hlt)|(apply aj;exact rfl;apply aA;exact rfl;exact hrn;exact rfl)|(apply aj;exact rfl;apply iG;exact rfl;exact rfl;(simp only [maxLen];omega))|(apply ah;exact rfl;exact rfl;(intro w hm;exact hfie w))|(apply ah;exact rfl;exact rfl;(intro w hm;exact hbel w))|(apply gH (id:=9);kernel_rfl;kernel_rfl)|(apply aK;exact rfl;apply iA;exact rfl;exact rfl;omega;omega)|(apply aj;exact rfl;apply iA;exact rfl;exact rfl;omega;omega)|(apply aK;exact rfl;apply kY (hi:=st.length);exact rfl;exact ⟨_,rfl⟩;exact rfl;omega;omega)|(apply dQ;exact rfl;exact rfl;(intro w hm;exact El L n (bk st k) _ _ w (ht'.of_w0 hm) (za hm pK (by omega)) (fun p hp=>Nat.lt_trans (hok p (jI hp)).1 hlt) (by rw [iH st k (by omega)];omega)))|refine sT ?_|refine sQ ?_|refine sM fun _=> ?_|(refine sC ?_ ?_<;>intro hb<;>try omega)|(refine sCQ ?_ ?_<;>intro hb<;>try omega)|fail)
    ·
     refine bI (.inl rfl) Tryz.results277 rfl (.drop .hd (.drop .hd (.refl _))) ?_
     rw [hrest,if_pos (Or.inl (by omega))]
     exact ⟨rfl,hinv⟩
    ·
     refine bI (.inl rfl) Tryz.results277 rfl (.drop .hd (.drop .hd (.refl _))) ?_
     rw [hrest,if_pos (Or.inr hb)]
     exact ⟨rfl,hinv⟩
    have hkl:k≤st.length:=by omega
    rw [if_neg (by intro h;rcases h with h|h;(· omega);(· rw [hb] at h;cases h))] at hrest
    repeat' (first|(apply aj;exact rfl;apply iA;exact rfl;exact rfl;omega;omega)|(apply AG (hi:=st.length);exact rfl;exact rfl;exact ⟨_,rfl⟩;exact rfl;omega;omega;(intro B hB))|refine sT ?_|refine sM fun _=> ?_|(refine sC ?_ ?_<;>intro hb<;>try omega)|fail)
    rename_i gn gp
    refine aw 3 1 ?_
    have htl:=iH st k hkl
    refine xV (fun (j:Nat) s H=> ∃ A2 cap2,s= [(0,.slice (some ⟨gt,ot,none⟩) L.length ct),(1,.func (.func f) #[] caps.toArray),(5,sl A st.length cap),(6,.int .i64 (i:Int)),(9,.int .i64 (k:Int)),(10,.pointer (some ⟨gp,0,none⟩)),(11,sl A2 j cap2),
      (14,.slice (some ⟨gt,ot,none⟩) L.length ct),(15,.int .i64 (L.length:Int)),(16,.int .i64 (i:Int)),(54,.slice B (st.length - (st.length - k)) (cap - (st.length - k))),(55,.int .i64 ((st.length - (st.length - k):Nat):Int)),(56,.int .i64 (j:Int))]∧
      H= .own A2 3 1 j cap2 (((bk st k).take j).map fun p=> .int .i64 (p.root:Int)):: .box gp 356 [.int .i64 (i:Int),.int .i64 (bS ((bk st k).take j):Int),.bool (decide (n.kind=3))]:: .own A 356 3 st.length cap (st.flatMap mF)::Hv∧j≤k) (fun j=>k - j) 0 ?_ ?_
    ·
     refine ⟨_,_,?_,?_,⟨none,0,rfl,rfl,by omega⟩⟩
     ·
      exact sB
     ·
      exact mS
    ·
     rintro j _ _ ⟨A2,cap2,rfl,rfl,hjk⟩
     by_cases hj:j<k
     ·
      refine ez (.tl (.tl .hd)) (by omega) fun gs hA=> ?_
      subst hA
      obtain rfl:B=some ⟨gs,0+(st.length - k)*3,none⟩:=by rw [hB,if_neg (by omega)];simp [dF]
      have hjt:j<(bk st k).length:=by omega
      have he:((st.flatMap mF).drop (0+(st.length - k)*3+j*3)).take 3=mF (bk st k)[j]:=by
       rw [show 0+(st.length - k)*3+j*3=(st.length - k+j)*3 by rw [J9];omega,cd jw st _ (by omega)]
       simp [bk]
      have hd32:(bk st k)[j].depth≤32:=(hok _ (jI (I7 hjt))).2
      repeat' (first|(apply aj;exact rfl;apply ai;exact rfl;exact rfl;omega)|(apply aj;exact rfl;apply tZ;exact rfl;exact pK;exact he;exact rfl)|(apply aj;exact rfl;apply jF;exact rfl;exact rfl;(simp only [maxLen];omega))|(apply aj;exact rfl;apply Bi;exact rfl;exact rfl)|(apply aV;(iterate 3 exact rfl);(repeat first|exact .hd|apply Sel.tl|apply In.tl);(intro w hm;exact hm.cells_own (by (repeat first|exact .hd|apply Sel.tl|apply In.tl)));exact rfl;(simp [Value.oneCell',sl]);omega;(simp only [maxLen];omega);(intro A' cap' hA'))|refine sT ?_|refine sM fun _=> ?_|(refine sC ?_ ?_<;>intro hb<;>try omega)|fail)
      have hk1:((bk st k).take (j+1)).map (fun p=>Value.int .i64 (p.root:Int))=((bk st k).take j).map (fun p=>Value.int .i64 (p.root:Int))++ [.int .i64 ((bk st k)[j].root:Int)]:=by
       rw [H7 hjt,IQ];rfl
      refine ⟨j+1,_,_,?_,?_,?_,⟨A',cap',rfl,rfl,hj⟩⟩
      ·
       omega
      ·
       exact sB
      ·
       rw [hk1,tq _ _ hjt]
       exact mS
     ·
      have e:j=k:=by omega
      subst e
      have htk:(bk st j).take j=bk st j:=Jg (by omega)
      rw [htk]
      have hd33:=qo (bk st j) fun p hp=>(hok p (jI hp)).2
      repeat' (first|refine sT ?_|refine sM fun _=> ?_|(refine sC ?_ ?_<;>intro hb<;>try omega)|fail)
      ·
       refine bI (.inl rfl) Tryz.results277 rfl (.drop .hd (.drop .hd (.drop .hd (.refl _)))) ?_
       rw [hrest,if_pos (by omega)]
       exact ⟨rfl,hinv⟩
      rw [if_neg (by omega)] at hrest
      refine AW (.tl (.tl .hd)) (st.length - j) (by omega) ?_
      refine rS 10 rfl (by kernel_rfl) ?_
      ((with_reducible apply bU (i:=0));exact rfl;exact rfl;decide+kernel;decide+kernel;decide+kernel;exact nP;(intro _ _;exact vP))
      ((with_reducible apply bU (i:=1));exact rfl;exact rfl;decide+kernel;decide+kernel;decide+kernel;exact nP;(intro _ _;exact vP))
      ((with_reducible apply bU (i:=2));exact rfl;exact rfl;decide+kernel;decide+kernel;decide+kernel;exact nP;(intro _ _;exact vP))
      ((with_reducible apply bU (i:=3));exact rfl;exact rfl;decide+kernel;decide+kernel;decide+kernel;exact nP;(intro _ _;exact vP))
      ((with_reducible apply bU (i:=4));exact rfl;exact rfl;decide+kernel;decide+kernel;decide+kernel;exact nP;(intro _ _;exact vP))
      ((with_reducible apply bU (i:=5));exact rfl;exact rfl;decide+kernel;decide+kernel;decide+kernel;exact nP;(intro _ _;exact vP))
      repeat' (first|(apply dJ (i:=6);exact rfl;decide+kernel)|(apply dJ (i:=7);exact rfl;decide+kernel)|(apply dJ (i:=8);exact rfl;decide+kernel)|(apply dJ (i:=9);exact rfl;decide+kernel)|(apply rQ;decide+kernel)|(apply aV;(iterate 3 exact rfl);(repeat first|exact .hd|apply Sel.tl|apply In.tl);(intro w hm;exact hm.cells_own (by (repeat first|exact .hd|apply Sel.tl|apply In.tl)));exact rfl;(simp [Value.oneCell',sl]);omega;(simp only [maxLen];omega);(intro A' cap' hA'))|refine sT ?_|refine sM fun _=> ?_|(refine sC ?_ ?_<;>intro hb<;>try omega)|fail)
      have hcont:(st.flatMap mF).take ((st.length - j)*3)++ [.int .i64 (i:Int),.int .i64 (bS (bk st j):Int),.bool (decide (n.kind=3))]=(st.take (st.length - j)++ [(⟨i,bS (bk st j),decide (n.kind=3)⟩:Pt)]).flatMap mF:=by
       rw [mD jw,I2];rfl
      have hvis:=hV vs ((bk st j).map Pt.root) (bS (bk st j)) A2 cap2 Hv [.own A' 356 3 (st.length - j+1) cap' ((st.take (st.length - j)++ [(⟨i,bS (bk st j),decide (n.kind=3)⟩:Pt)]).flatMap mF)] hinv (by rw [IJ];omega) (by omega) (by intro q hq;obtain ⟨p,hp,rfl⟩:=Iu.1 hq;rw [hvl];exact (hok p (jI hp)).1)
      simp only [IJ,htl,hvl,JJ] at hvis
      rw [hcont]
      (with_reducible apply i9)
      ·
       exact rfl
      ·
       exact rfl
      ·
       infer_instance
      ·
       exact rfl
      ·
       refine hvis.msub ?_
       refine MSub.pick (T:=_) pK (MSub.snoc pK ?_)
       exact mS
      rintro v H' ⟨H1,hI1,hM1⟩
      repeat' (first|(apply aj;exact rfl;apply jF;exact rfl;exact rfl;(simp only [maxLen];omega))|refine sT ?_|refine sM fun _=> ?_|(refine sC ?_ ?_<;>intro hb<;>try omega)|fail)
      refine ⟨i+1,_,_,?_,?_,?_,⟨st.take (st.length - j)++ [(⟨i,bS (bk st j),decide (n.kind=3)⟩:Pt)],vs++ [((bk st j).map Pt.root,bS (bk st j))],A',cap',H1,rfl,rfl,⟨?_,?_,?_,?_,?_,?_⟩⟩⟩
      ·
       omega
      ·
       have e1:(st.take (st.length - j)++ [(⟨i,bS (bk st j),decide (n.kind=3)⟩:Pt)]).length=st.length - j+1:=by simp
       rw [e1]
       exact sB
      ·
       have e1:(st.take (st.length - j)++ [(⟨i,bS (bk st j),decide (n.kind=3)⟩:Pt)]).length=st.length - j+1:=by simp
       rw [e1]
       exact hM1.rot
      ·
       omega
      ·
       simp [hvl]
      ·
       exact hI1
      ·
       exact hrest
      ·
       intro p hp
       rcases ID.1 hp with hp|hp
       ·
        exact ⟨Nat.lt_succ_of_lt (hok p (Jw hp)).1,(hok p (Jw hp)).2⟩
       ·
        have e:p=⟨i,bS (bk st j),decide (n.kind=3)⟩:=by simpa using hp
        subst e
        exact ⟨Kl i,by show bS (bk st j)≤32;omega⟩
      ·
       simp;omega
   ·
    have hfie: ∀ w,ay Tryz.prog 305 [.agg (dD n).toArray] w (.int .i64 (dZ n)):=fun w=>rq n w
    rw [if_pos hfe] at hrest
    repeat' (first|(apply aj;exact rfl;apply ai;exact rfl;exact rfl;exact hlt)|(apply aj;exact rfl;apply aA;exact rfl;exact hrn;exact rfl)|(apply ah;exact rfl;exact rfl;(intro w hm;exact hfie w))|refine sT ?_|refine sM fun _=> ?_|(refine sC ?_ ?_<;>intro hb<;>try omega)|fail)
    refine bI (.inl rfl) Tryz.results277 rfl (.drop .hd (.drop .hd (.refl _))) ?_
    rw [hrest]
    exact ⟨rfl,hinv⟩
  ·
   have e:i=L.length:=by omega
   subst e
   rw [I3,iT] at hrest
   repeat' (first|refine sT ?_|refine sM fun _=> ?_|(refine sC ?_ ?_<;>intro hb<;>try omega)|fail)
   ·
    refine bI (.inl rfl) Tryz.results277 rfl (.drop .hd (.refl _)) ?_
    rw [hrest,if_neg (by omega)]
    exact ⟨rfl,hinv⟩
   ·
    refine bI (.inl rfl) Tryz.results277 rfl (.drop .hd (.refl _)) ?_
    rw [hrest,if_pos (by omega)]
    exact ⟨rfl,hinv⟩
end Go.SL
namespace Go.SL
open Go Go.Proofs Go.Sort Go.Shelf
def sortRf (L:List Rf):List Rf:=L.mergeSort fun x y=> !(aW y x)
theorem vg (L:List Rf) (j:Nat) (h:j<L.length*2):(L.flatMap aQ)[j]? =some ((flatK aQ 2 L.toArray)[j]!):=by
 rw [get_flatK _ _ _ _ (by simpa using h)]
 have h1:j / 2<L.length:=by omega
 have h2:j % 2<2:=Nat.mod_lt _ (by omega)
 have h3:=mE iq L (j / 2) (j % 2) h1 h2
 rw [show j / 2*2+j % 2=j by omega] at h3
 rw [h3]
 have h4:L.toArray[j / 2]! =L[j / 2]:=by simp [h1]
 rw [h4,HY (by rw [iq];exact h2)]
 congr 1
 rw [getElem!_pos _ _ (by rw [iq];exact h2)]
theorem wH (w:World) (g n:Nat) (d:Array Rf) (os:Array Obj):w.grownBy (sortWorldK aQ 2 w g 0 n d os) (some g):={
 os:=rfl
 tape:=rfl
 output:=rfl
 size:=by
  show w.heap.size≤((w.heap.modify g _)++os).size
  rw [Array.size_append,JQ]
  omega
 block k hk hne:=by
  show ((w.heap.modify g _)++os)[k]? =_
  rw [I1 (by rw [JQ];exact hk),JF,if_neg (fun e=>hne (by rw [e]))] }
theorem ze (w:World) (g n:Nat) (d:Array Rf) (os:Array Obj) (c:Array Value) (T:TypeId) (fr:Nat × Nat) (h:w.heap[g]? =some (.cells c T fr)):
  (sortWorldK aQ 2 w g 0 n d os).heap[g]? =some (.cells (putCells id 0 (flatK aQ 2 d) c) T fr):=by
 have hlt:g<w.heap.size:=(Io.1 h).1
 show ((w.heap.modify g _)++os)[g]? =_
 rw [I1 (by rw [JQ];exact hlt),JF,if_pos rfl,h]
 rfl
theorem zm (L:List Rf) (xs junk:List Value) (hl:xs.length=L.length*2):putCells id 0 (flatK aQ 2 L.toArray) (xs++junk).toArray=(L.flatMap aQ++junk).toArray:=by
 have hfl:(L.flatMap aQ).length=L.length*2:=aC iq L
 apply Array.ext_getElem?
 intro j
 simp only [putCells,Array.getElem?_mapIdx,IE,size_flatK,JH,H5,true_and,H8,Jo]
 by_cases hj:j<L.length*2
 ·
  rw [I9 (by omega),I9 (by omega),vg L j hj,HY (by omega)]
  simp [hj]
 ·
  rw [Jp (by omega),Jp (by omega),hl,hfl]
  simp [hj]
theorem uq (L:List Rf) (g cap:Nat) (hL:L.length≤1000000) (R:List Blk) (w0:World):
  FnIn Tryz.prog 154 [sl (some g) L.length cap,.func (.func 155) #[] #[]] w0 (.own (some g) 50 2 L.length cap (L.flatMap aQ)::R) fun v H=>v= .tuple #[]∧H= .own (some g) 50 2 L.length cap ((sortRf L).flatMap aQ)::R:=by
 intro w hm
 obtain ⟨⟨h1,h2,h3,junk,h4,h5⟩,hk⟩:=hm.on _ H4
 have hlt:g<w.heap.size:=(Io.1 h5).1
 have hH:HoldsK aQ 2 w g 0 L.toArray:=by
  intro j hj
  simp only [size_flatK,JH] at hj
  have hc:(L.flatMap aQ++junk).toArray[j]? =some (flatK aQ 2 L.toArray)[j]! :=by
   rw [IE,I9 (by omega),vg L j hj]
  constructor
  ·
   simp only [World.cell?,H8,h5]
   exact hc
  ·
   simp [World.frozen?,h5]
 have hs:=Tryz.sortRf_calls g 0 cap L.toArray w hH hlt (by simp;omega)
 have hsz:L.toArray.size=L.length:=by simp
 rw [hsz] at hs
 refine hs.mono ?_
 rintro e w' ⟨rfl,n,os,rfl⟩
 have hlen:(sortRf L).length=L.length:=by simp [sortRf]
 have heq:(L.toArray.toList.mergeSort fun x y=> !(ltOf gI) y x)=sortRf L:=by
  simp only [sortRf,eF]
 rw [heq]
 refine ⟨_,_,rfl,hm.upd (wH _ _ _ _ _) (b' := .own (some g) 50 2 L.length cap ((sortRf L).flatMap aQ)) ?_ fun k hk=> .inl hk,rfl,rfl⟩
 have hfl:((sortRf L).flatMap aQ).length=L.length*2:=by rw [aC iq,hlen]
 refine ⟨hfl,h2,h3,junk,by rw [HV,hfl,← h1,← HV];exact h4,?_⟩
 rw [ze _ _ _ _ _ _ _ _ h5,zm (sortRf L) _ _ (by rw [hlen];exact h1)]
theorem r9 (L:List Rf) (A:Option Nat) (cap:Nat) (hL:L.length≤1000000) (R:List Blk) (w0:World):
  FnIn Tryz.prog 154 [sl A L.length cap,.func (.func 155) #[] #[]] w0 (.own A 50 2 L.length cap (L.flatMap aQ)::R) fun v H=>v= .tuple #[]∧H= .own A 50 2 L.length cap ((sortRf L).flatMap aQ)::R:=by
 cases A with
 |some g=>exact uq L g cap hL R w0
 |none=>
  intro w hm
  obtain ⟨⟨h1,h2,h3,h4⟩,_⟩:=hm.on _ H4
  obtain ⟨h5,h6⟩:=h4
  have hnil:L= []:=Jz.1 h5
  subst hnil
  subst h6
  refine Calls.mono (AnyF.slices_SortFunc_none Tryz.sortRf none 0 _ w) ?_
  rintro e w' ⟨rfl,rfl⟩
  exact ⟨_,_,rfl,hm,rfl,by simp [sortRf]⟩
end Go.SL
namespace Go.SL
open Go Go.Proofs
attribute [local irreducible] W WL WQ WG WA VOp thn blk aN aF FnIn
def mI (L:List Nd) (wide:Bool):Int × List lR:=
 if 256<L.length then (5,[]) else if L.length=0 then (4,[])
 else if (iT L L 0 [] []).1≠0 then iT L L 0 [] []
 else if wide=false∧mq L (L.length - 1)=3 then (4,(iT L L 0 [] []).2) else (0,(iT L L 0 [] []).2)
set_option maxHeartbeats 2000000 in
theorem CQ (L:List Nd) (wide:Bool) (tv:Value) (w0:World) (ht:Reads w0 tv L.length (L.flatMap dD)) (f:FuncId) [hf:Callable Tryz.prog f] (caps:List Value) (Inv:List lR→List Blk→Prop) (hV:xC L.length w0 f caps Inv)
  (H:List Blk) (hI:Inv [] H):FnIn Tryz.prog 227 [tv,.bool wide,.func (.func f) #[] caps.toArray] w0 H fun v H' =>v= .int .i64 (mI L wide).1∧Inv (mI L wide).2 H' :=by
 have ht' :=ht
 obtain ⟨At,ct,rfl,ht1,ht2,ht3⟩:=ht
 refine fc Tryz.func227 rfl Tryz.ntmps227 rfl ?_
 by_cases h256:256<L.length
 ·
  repeat' (first|refine sT ?_|refine sM fun _=> ?_|(refine sC ?_ ?_<;>intro hb<;>try omega)|fail)
  refine bI (.inl rfl) Tryz.results227 rfl (.refl _) ?_
  rw [mI,if_pos h256]
  exact ⟨rfl,hI⟩
 by_cases h0:L.length=0
 ·
  repeat' (first|refine sT ?_|refine sM fun _=> ?_|(refine sC ?_ ?_<;>intro hb<;>try omega)|fail)
  refine bI (.inl rfl) Tryz.results227 rfl (.refl _) ?_
  rw [mI,if_neg h256,if_pos h0]
  exact ⟨rfl,hI⟩
 obtain ⟨gt,ot,rfl,hrt⟩:=ht3 (by omega)
 have hw:=yV L (by omega) (by omega) _ w0 ht' f caps Inv hV H hI
 have hrl:=hrt.elem fU (L.length - 1) (by omega)
 have hk:mq L (L.length - 1)=(L[L.length - 1]'(by omega)).kind:=px _
 simp only [mI,if_neg h256,if_neg h0,hk]
 generalize iT L L 0 [] []=r at hw
 generalize (L[L.length - 1]'(by omega))=nl at hrl
 repeat' (first|(apply aB;exact rfl;exact rfl;exact hw;(rintro v H' ⟨rfl,hI'⟩))|(apply aj;exact rfl;apply da;exact rfl;exact rfl;omega;omega)|(apply aj;exact rfl;apply ai;exact rfl;exact rfl;omega)|(apply aj;exact rfl;apply iD (off:=0);exact rfl;exact hrl;exact rfl)|refine sT ?_|refine sM fun _=> ?_|(refine sC ?_ ?_<;>intro hb<;>try omega)|fail)
 all_goals refine bI (.inl rfl) Tryz.results227 rfl (.refl _) ?_
 all_goals simp_all
theorem oq (N:Nat) (w0:World) (H0:List Blk):xC N w0 228 [] fun _ H=>H=H0:=by
 rintro vs kids d A cap _ F rfl _ _ _
 refine fc Tryz.func228 rfl Tryz.ntmps228 rfl ?_
 repeat' (first|refine sT ?_|refine sM fun _=> ?_|(refine sC ?_ ?_<;>intro hb<;>try omega)|fail)
 refine eT (.inr rfl) Tryz.results228 (.drop .hd (.refl _)) ⟨_,rfl,.refl _⟩
def gL (L:List Nd):Int:=(mI L false).1
theorem v7 (L:List Nd) (tv:Value) (w:World) (ht:Reads w tv L.length (L.flatMap dD)):ay Tryz.prog 179 [tv] w (.int .i64 (gL L)):=by
 have ht' :=ht
 obtain ⟨At,ct,rfl,ht1,ht2,ht3⟩:=ht
 refine aq Tryz.func179 rfl Tryz.ntmps179 rfl ?_
 have hw:=CQ L false _ w ht' 228 [] (fun _ H=>H= []) (oq _ w []) [] rfl
 repeat' (first|(apply aB;exact rfl;exact rfl;exact hw;(rintro v H' ⟨rfl,rfl⟩))|refine sT ?_|refine sM fun _=> ?_|(refine sC ?_ ?_<;>intro hb<;>try omega)|fail)
 (refine rT1 ?_)
 rfl
def dY (ks:List Nat):List Value:=ks.map fun (k:Nat)=> .int .i64 (k:Int)
theorem zF {ks:List Nat} {i:Nat} (h:i<ks.length):(dY ks)[i]? =some (.int .i64 (ks[i]:Int)):=by simp [dY,h]
end Go.SL
namespace Go.SL
open Go Go.Proofs
attribute [local irreducible] W WL WQ WG WA WX WLI WR WT VOp RW thn blk bo scp aN bf bi aF FnIn FnP
def kI (a:Rf):Value:= .agg (aQ a).toArray
def gB (gg gm:Nat) (es:List (Rf × Value × Nat)) (clock:Nat):List Blk:= [.box gg 199 [.map (some gm)],.obj gm (cU kI es clock)]
def pE (es:List (Rf × Value × Nat)):List Rf:=sortRf (es.map fun e=>e.1)
theorem mQ {L M:List Rf} (h:L.Perm M):sortRf L=sortRf M:=by
 have hp: ∀ L:List Rf,(sortRf L).Pairwise fun x y=>(!(aW y x))=true:=fun L=>
  List.pairwise_mergeSort (le:=fun x y=> !(aW y x)) (fun a b c h1 h2=>by simp [aW] at*;omega) (fun a b=>by simp [aW];omega) L
 refine List.Perm.eq_of_pairwise (fun a b _ _ h1 h2=> ?_) (hp L) (hp M) (((List.mergeSort_perm L _).trans h).trans (List.mergeSort_perm M _).symm)
 exact E2 a b (by rw [eF];simpa using h2) (by rw [eF];simpa using h1)
set_option maxHeartbeats 1000000 in
theorem vY (gg gm clock:Nat) (es:List (Rf × Value × Nat)) (hok:MapOk es clock) (hlen:es.length≤1000000) (R:List Blk) (w0:World):
  FnIn Tryz.prog 123 [.pointer (some ⟨gg,0,none⟩)] w0 (gB gg gm es clock++R) fun v H=> ∃ A cap,v=sl A es.length cap∧H= .own A 50 2 es.length cap ((pE es).flatMap aQ)::(gB gg gm es clock++R):=by
 refine fc Tryz.func123 rfl Tryz.ntmps123 rfl ?_
 refine aw 50 2 ?_
 repeat' (first|(apply aj;exact rfl;apply eB;exact rfl)|(apply rK (enc:=kI);exact rfl;exact rfl;exact pK;intro gi)|refine sT ?_|refine sS ?_|refine sM fun _=> ?_|(refine sC ?_ ?_<;>intro hb<;>try omega)|fail)
 refine ax [11] rfl (fun x:List (Rf × Value × Nat) × Option Nat × Nat=> [(3,sl x.2.1 x.1.length x.2.2)]) (fun x=> .obj gi (j0 gm clock (x.1.map fun e=>e.2.2)):: .own x.2.1 50 2 x.1.length x.2.2 ((x.1.map fun e=>e.1).flatMap aQ)::(gB gg gm es clock++R)) (fun x=>Vis es x.1) (fun x=>es.length - x.1.length) ([],none,0) (Vis.nil es) sB (.refl _) ?_
 rintro ⟨vis,A,cap⟩ hv
 dsimp only at hv ⊢
 have hvl:=hv.len
 have hml:(vis.map fun e=>e.1).length=vis.length:=IJ _
 have hS:=fun R' =>r9 (vis.map fun e=>e.1) A cap (by omega) R' w0
 rw [hml] at hS
 repeat' (first|(apply tP (enc:=kI);exact rfl;exact rfl;exact pK;exact pK;exact hok;intro e he hne)|(intro hall)|(apply aj;exact rfl;apply DB (enc:=kI);exact rfl;exact pK;exact pK;exact he;exact hok)|(apply aV;(iterate 3 exact rfl);(repeat first|exact .hd|apply Sel.tl|apply In.tl);(intro w hm;exact hm.cells_own (by (repeat first|exact .hd|apply Sel.tl|apply In.tl)));exact rfl;(simp [Value.oneCell',sl]);omega;(simp only [maxLen];omega);(intro A2 cap2 hA2))|(apply aB (f:=154);exact rfl;exact rfl;exact FnIn.msub (hS _) (MSub.pick pK (MSub.refl _));rintro _ _ ⟨rfl,rfl⟩)|refine sT ?_|refine sS ?_|refine sM fun _=> ?_|(refine sC ?_ ?_<;>intro hb<;>try omega)|fail)
 ·
  refine ⟨(vis++ [e],A2,cap2),hv.step he hne,?_,?_,sB,?_⟩
  ·
   have:=hv.lt he hne
   simp only [HV,Ii]
   omega
  ·
   simp only [HV,Ii]
   exact sB
  ·
   simp only [IQ,Iv,I5,HV,Ii,I2,IP,Jd,Ig]
   exact mS
 ·
  have hperm:=hv.perm hok hall
  have hl:vis.length=es.length:=hperm.length_eq
  have hf:pE es=sortRf (vis.map fun e=>e.1):=mQ (hperm.symm.map _)
  refine bI eIO rfl rfl (H' := .own A 50 2 es.length cap ((pE es).flatMap aQ)::(gB gg gm es clock++R)) ?_ ⟨A,cap,by rw [hl],rfl⟩
  rw [hf,← hl]
  exact mS
end Go.SL
namespace Go.SL
open Go Go.Proofs
attribute [local irreducible] W WL WQ WG WA VOp thn blk bo aN aF FnIn WLI WR WT bi lO gA je
theorem Bp (A:Option Addr) (m c:Nat) (w:World):aF Tryz.prog 243 [.slice A m c] w fun v H=> ∃ g,v= .func (.func 290) #[] #[.pointer (some ⟨g,0,none⟩)]∧H= [.box g 128 [.slice A m c]]:=by
 refine aq Tryz.func243 rfl Tryz.ntmps243 rfl ?_
 repeat' (first|refine sT ?_|refine sM fun _=> ?_|(refine sC ?_ ?_<;>intro hb<;>try omega)|fail)
 refine bI (.inl rfl) Tryz.results243 rfl (MSub.refl _) ?_
 exact ⟨_,rfl,rfl⟩
def oH (L:List Nd):List Us × Int:=if gL L≠0 then ([],gL L) else (cQ L,0)
theorem fg: ∀ (L:List Nd) (i:Nat),(dA L i).length≤L.length
 | [],_=>Ih _
 |n::r,i=>by
  have:=fg r (i+1)
  unfold dA
  cases lj n<;>simp<;>omega
theorem y8 (L:List Nd):(cQ L).length≤L.length:=fg L 0
theorem zJ {α:Type} (f:α→List Value) (xs:List α) (x:α):(xs++ [x]).flatMap f=xs.flatMap f++f x:=by simp
set_option maxHeartbeats 4000000 in
theorem EJ (L:List Nd) (tv:Value) (w:World) (ht:Reads w tv L.length (L.flatMap dD)) (hlen:L.length≤1000000):
  aF Tryz.prog 200 [tv] w fun v H=> ∃ A cap,v= .tuple #[sl A (oH L).1.length cap,.int .i64 (oH L).2]∧H= [.own A 159 6 (oH L).1.length cap ((oH L).1.flatMap dh)]:=by
 have ht' :=ht
 obtain ⟨Al,cl,rfl,hl1,hl2,hl3⟩:=ht
 refine ju Tryz.func200 rfl Tryz.ntmps200 (by rfl) ?_
 have hck:=fun w0 (hm:Reads w0 (.slice Al L.length cl) L.length (L.flatMap dD))=>v7 L _ w0 hm
 unfold oH
 generalize gL L=e at hck
 refine kT ?_
 refine aw 159 6 ?_
 repeat' (first|(apply ah;exact rfl;exact rfl;(intro w' hm;exact hck w' (ht'.of_w0 hm)))|(apply av;exact rfl;exact rfl;(intro w' hm;exact Bp _ _ _ w');(rintro v H' ⟨gu,rfl,rfl⟩))|refine sT ?_|refine sR ?_|refine sM fun _=> ?_|(refine sC ?_ ?_<;>intro hb<;>try omega)|(refine sCR ?_ ?_<;>intro hb<;>try omega)|fail)
 ·
  refine yA ?_
  refine gU (.inl rfl) Tryz.results200 rfl rfl (H' := [.own none 159 6 0 0 []]) mS ⟨none,0,?_⟩
  rw [if_pos hb]
  exact ⟨rfl,rfl⟩
 rename_i gb
 rw [if_neg hb]
 have hul:=y8 L
 refine nX (ps:= [14]) (us:=cQ L) (encs:=fun u=> [.agg (dh u).toArray]) (Hc:= [.box gu 128 [.slice Al L.length cl]]) (HU0:= [.box gb 156 [.slice none 0 0],.own none 159 6 0 0 []]) rfl (fun _=>rfl) rfl (Bn L _ w ht' hlen gu)
  (fun pre HU=> ∃ A cap,HU= [.box gb 156 [sl A pre.length cap],.own A 159 6 pre.length cap (pre.flatMap dh)]) (fun _=>False) ?_ ⟨none,0,rfl⟩ ?_ ?_ ?_
 ·
  exact mS
 ·
  rintro l pre u post hus _ ⟨A,cap,rfl⟩ F F'
  have hlu:=congrArg List.length hus
  simp only [HV,IA] at hlu
  change WR _ _ _ l _ _ ((14,Value.agg (dh u).toArray)::_) (.box gb 156 [sl A pre.length cap]:: .own A 159 6 pre.length cap (pre.flatMap dh)::F)
  repeat' (first|refine sT ?_|refine sR ?_|refine sM fun _=> ?_|(refine sC ?_ ?_<;>intro hb<;>try omega)|(refine sCR ?_ ?_<;>intro hb<;>try omega)|fail)
  rename_i g6
  refine pZ ⟨[.box g6 159 (dh u),.box gb 156 [sl A pre.length cap],.own A 159 6 pre.length cap (pre.flatMap dh)],MSub.refl _,?_⟩
  change WR _ _ _ l _ _ _ (.box g6 159 (dh u):: .box gb 156 [sl A pre.length cap]:: .own A 159 6 pre.length cap (pre.flatMap dh)::F')
  repeat' (first|(apply aV;(iterate 3 exact rfl);(repeat first|exact .hd|apply Sel.tl|apply In.tl);(intro w hm;exact hm.cells_own (by (repeat first|exact .hd|apply Sel.tl|apply In.tl)));exact rfl;(simp [Value.oneCell',sl]);omega;(simp only [maxLen];omega);(intro A' cap' hA'))|refine sT ?_|refine sR ?_|refine sM fun _=> ?_|(refine sC ?_ ?_<;>intro hb<;>try omega)|(refine sCR ?_ ?_<;>intro hb<;>try omega)|fail)
  refine sn [.box gb 156 [sl A' (pre.length+1) cap'],.own A' 159 6 (pre.length+1) cap' (pre.flatMap dh++dh u)] ?_ ⟨A',cap',?_⟩
  ·
   change MSub (_::_::F') _
   exact mS
  ·
   rw [zJ,HV]
   rfl
 ·
  rintro D _ ⟨A,cap,rfl⟩
  change bi _ _ _ _ _ (eQ D:: .box gb 156 [sl A (cQ L).length cap]:: .own A 159 6 (cQ L).length cap ((cQ L).flatMap dh)::_)
  repeat' (first|refine sT ?_|refine sR ?_|refine sM fun _=> ?_|(refine sC ?_ ?_<;>intro hb<;>try omega)|(refine sCR ?_ ?_<;>intro hb<;>try omega)|fail)
  refine pQ .hd ?_
  refine gU (.inl rfl) Tryz.results200 rfl rfl (H' := [.own A 159 6 (cQ L).length cap ((cQ L).flatMap dh)]) mS ⟨A,cap,rfl,rfl⟩
 ·
  rintro D HU h
  exact h.elim
def rel (u:Us):Bool:=decide (0≤u.node)
end Go.SL

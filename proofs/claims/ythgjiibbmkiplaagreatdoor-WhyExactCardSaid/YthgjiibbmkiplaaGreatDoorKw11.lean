/-
  Lemmas and walks, put together: S1 A2p S5 S2 S3 S4 D4 D7 S6.
-/
import Derived.Deep.RegionHeld3
import Derived.Test.YthgjiibbmkiplaaGreatDoorKw08
set_option linter.unusedSimpArgs false
set_option linter.unusedVariables false
set_option maxRecDepth 20000
set_option maxHeartbeats 16000000
namespace Go.Proofs
open Go Go.Shelf Go.RowKit Go.Lib Go.Sort Go.SL
theorem Tryz.lessX (a b:Rf) (W:World):Calls Tryz.prog 89 #[.agg #[.int .i64 a.col,.int .i64 a.row],.agg #[.int .i64 b.col,.int .i64 b.row]] W fun e w' =>e= .returned (.bool (bE a b))∧ ∃ q os',w' =grow (W.drewN q) os' :=by
 go_enter Tryz.func89,Tryz.ntmps89
 go_wp2
 all_goals
  rename_i h
  go_ret
  refine ⟨?_,0,_,by rw [alloc_eq_grow,alloc_eq_grow,grow_grow];rfl⟩
  first
   |congr 2;simp_all [bE];done
   |congr 2;simp only [bE];simp;omega
def Lays (W w' :World):Prop:= ∃ q os',w' =grow (W.drewN q) os'
theorem Lays.refl (W:World):Lays W W:=⟨0,#[],by simp [grow,World.drewN]⟩
theorem Lays.alloc {W X:World} (h:Lays W X) (o:Obj):Lays W (X.alloc o):=by
 obtain ⟨q,os,rfl⟩:=h;refine ⟨q,os.push o,?_⟩;show ({ W with heap:=(W.heap++os).push o,drawn:=W.drawn+q }:World)={ W with heap:=W.heap++os.push o,drawn:=W.drawn+q };rw [Array.append_push]
theorem Lays.grow {W X:World} (h:Lays W X) (q2:Nat) (os2:Array Obj):Lays W (Go.Sort.grow (X.drewN q2) os2):=by
 obtain ⟨q,os,rfl⟩:=h;refine ⟨q+q2,os++os2,?_⟩;show ({ W with heap:=(W.heap++os)++os2,drawn:=W.drawn+q+q2 }:World)={ W with heap:=W.heap++(os++os2),drawn:=W.drawn+(q+q2) };rw [Array.append_assoc,Y8]
theorem Tryz.orderX (a b:Rf) (W:World):Calls Tryz.prog 130 #[.agg #[.int .i64 a.col,.int .i64 a.row],.agg #[.int .i64 b.col,.int .i64 b.row]] W fun e w' =>e= .returned (.int .i64 (iz a b))∧ ∃ q os',w' =grow (W.drewN q) os' :=by
 unfold iz;have c1: ∀ q os,(grow (((W.alloc (Obj.cells #[Value.int IntKind.i64 a.col,Value.int IntKind.i64 a.row] 34)).alloc (Obj.cells #[Value.int IntKind.i64 b.col,Value.int IntKind.i64 b.row] 34)).drewN q) os).cell? ⟨W.heap.size,0,none⟩=some (.int .i64 a.col):=fun q os=>by
  refine cell_grown (by show W.heap.size<((W.heap.push _).push _).size;rw [X9,X9];omega) ?_ q os;have e: ∀ o1 o2:Obj,((W.alloc o1).alloc o2).heap[W.heap.size]? =some o1:=fun o1 o2=>by
   show ((W.heap.push o1).push o2)[W.heap.size]? =_;rw [Yz,if_neg (by rw [X9];omega),Yz,if_pos rfl]
  simp only [World.cell?,e]
  rfl
 have c2: ∀ q os,(grow (((W.alloc (Obj.cells #[Value.int IntKind.i64 a.col,Value.int IntKind.i64 a.row] 34)).alloc (Obj.cells #[Value.int IntKind.i64 b.col,Value.int IntKind.i64 b.row] 34)).drewN q) os).cell? ⟨W.heap.size,1,none⟩=some (.int .i64 a.row):=fun q os=>by
  refine cell_grown (by show W.heap.size<((W.heap.push _).push _).size;rw [X9,X9];omega) ?_ q os;have e: ∀ o1 o2:Obj,((W.alloc o1).alloc o2).heap[W.heap.size]? =some o1:=fun o1 o2=>by
   show ((W.heap.push o1).push o2)[W.heap.size]? =_;rw [Yz,if_neg (by rw [X9];omega),Yz,if_pos rfl]
  simp only [World.cell?,e]
  rfl
 have c3: ∀ q os,(grow (((W.alloc (Obj.cells #[Value.int IntKind.i64 a.col,Value.int IntKind.i64 a.row] 34)).alloc (Obj.cells #[Value.int IntKind.i64 b.col,Value.int IntKind.i64 b.row] 34)).drewN q) os).cell? ⟨W.heap.size+1,0,none⟩=some (.int .i64 b.col):=fun q os=>by
  refine cell_grown (by show W.heap.size+1<((W.heap.push _).push _).size;rw [X9,X9];omega) ?_ q os;have e: ∀ o1 o2:Obj,((W.alloc o1).alloc o2).heap[W.heap.size+1]? =some o2:=fun o1 o2=>by
   show ((W.heap.push o1).push o2)[W.heap.size+1]? =_;rw [Yz,if_pos (by rw [X9])]
  simp only [World.cell?,e]
  rfl
 have c4: ∀ q os,(grow (((W.alloc (Obj.cells #[Value.int IntKind.i64 a.col,Value.int IntKind.i64 a.row] 34)).alloc (Obj.cells #[Value.int IntKind.i64 b.col,Value.int IntKind.i64 b.row] 34)).drewN q) os).cell? ⟨W.heap.size+1,1,none⟩=some (.int .i64 b.row):=fun q os=>by
  refine cell_grown (by show W.heap.size+1<((W.heap.push _).push _).size;rw [X9,X9];omega) ?_ q os;have e: ∀ o1 o2:Obj,((W.alloc o1).alloc o2).heap[W.heap.size+1]? =some o2:=fun o1 o2=>by
   show ((W.heap.push o1).push o2)[W.heap.size+1]? =_;rw [Yz,if_pos (by rw [X9])]
  simp only [World.cell?,e]
  rfl
 go_enter Tryz.func130,Tryz.ntmps130
 go_wp2_with (go_at_call 89;refine (Tryz.lessX _ _ _).mono ?_;rintro e w' ⟨rfl,q,os,rfl⟩)
 all_goals
  go_ret
  exact ⟨rfl,by first|exact (((Lays.refl W).alloc _).alloc _).grow _ _|exact ((((Lays.refl W).alloc _).alloc _).grow _ _).grow _ _⟩
end Go.Proofs
namespace Go.SL
open Go
theorem yo {p:Pc} {c:Int} (h:j8 c=true):cA p c=lJ p (upC c):=by
 simp only [j8,Zn,Xo,decide_eq_true_eq] at h;rw [cA,if_pos];unfold upC;split<;>omega
theorem iF {p:Pc} {c:Int} (h:bX c=true):cA p c=gU p c:=by
 simp only [bX,Xo,decide_eq_true_eq] at h;exact yp h.1 h.2
theorem nC {p:Pc} {c:Int} (h:j8 c=false) (h2:bX c=false):(cA p c).ok=false:=by
 simp only [j8,bX,Bool.or_eq_false_iff,ZH,decide_eq_false_iff_not] at h h2;rw [AZ (by omega) (by omega) (by omega)]
theorem IR {p:Pc} (h:p.ok=false) (c:Int):(cA p c).ok=false:=by
 unfold cA;split
 ·simp [lJ,h]
 ·split
  ·simp [gU,h]
  ·rfl
theorem o8: ∀ (l:List Int) {p:Pc},p.ok=false→(l.foldl cA p).ok=false
 | [],_,h=>h
 |c::r,_,h=>o8 r (IR h c)
theorem Gg: ∀ (l:List Int) (p:Pc),(∀ c∈l,j8 c=true)→p.m1=0→l.foldl cA p=⟨p.m0+l.length,0,dB l p.v0,p.v1,p.ok⟩
 | [],p,_,h=>by obtain ⟨a,b,c,d,e⟩:=p;simp only at h;subst h;simp [dB]
 |c::r,p,hl,h=>by
  rw [YV,yo (hl c Xb),Gg r _ (fun d hd=>hl d (Xp _ hd)) (by simp [lJ,h])];simp only [lJ,h,dB,decide_true,X8,Xs,Pc.mk.injEq,true_and,and_true];refine ⟨by push_cast;omega,?_⟩;rw [show 26*p.v0+(upC c - 65)+1=26*p.v0+(upC c - 64) by omega]
theorem yP: ∀ (l:List Int) (p:Pc),(∀ c∈l,bX c=true)→0<p.m1→l.foldl cA p=⟨p.m0,p.m1+l.length,p.v0,wI l p.v1,p.ok⟩
 | [],p,_,_=>by obtain ⟨a,b,c,d,e⟩:=p;simp [wI]
 |c::r,p,hl,h=>by
  rw [YV,iF (hl c Xb),yP r _ (fun d hd=>hl d (Xp _ hd)) (by simp [gU];omega)];simp only [gU,h,wI,decide_true,Bool.or_true,X8,Xs,Pc.mk.injEq,true_and,and_true]
  push_cast;omega
theorem rR: ∀ (l:List Int) (p:Pc),(l.all bX=false)→0<p.m1→(l.foldl cA p).ok=false
 | [],_,h,_=>by simp at h
 |c::r,p,h,hm=>by
  rw [YV];cases hd:bX c
  ·apply o8;cases hl:j8 c
   ·exact nC hl hd
   ·rw [yo hl];simp only [lJ];rw [decide_eq_false (by omega)];simp
  ·rw [Zv,hd,XT] at h;apply rR r _ h;rw [iF hd];simp only [gU];omega
theorem tA: ∀ (l:List Int) {v:Int},(∀ c∈l,j8 c=true)→0≤v→(l≠ []∨1≤v)→1≤dB l v
 | [],v,_,_,h=>by rcases h with h|h;exact absurd rfl h;exact h
 |c::r,v,hl,h0,_=>by
  have hc:=hl c Xb;simp only [j8,Zn,Xo,decide_eq_true_eq] at hc;have hu:65≤upC c:=by unfold upC;split<;>omega
  simp only [dB];exact tA r (fun d hd=>hl d (Xp _ hd)) (by omega) (.inr (by omega))
theorem Ft: ∀ (l:List Int) {v:Int},(∀ c∈l,bX c=true)→1≤v→1≤wI l v
 | [],_,_,h=>h
 |c::r,v,hl,h=>by
  have hc:=hl c Xb;simp only [bX,Xo,decide_eq_true_eq] at hc;simp only [wI];exact Ft r (fun d hd=>hl d (Xp _ hd)) (by omega)
theorem qM {p:Int→Bool}: ∀ {l:List Int} {c:Int},c∈l.takeWhile p→p c=true
 |d::r,c,h=>by
  rw [List.takeWhile_cons] at h;split at h
  ·rename_i hp;rcases Xt.1 h with rfl|h
   ·exact hp
   ·exact qM h
  ·cases h
theorem Qh (l:List Int):BT l=fV l:=by
 unfold BT fV;dsimp only;generalize ha:l.takeWhile j8=a;generalize hd:l.dropWhile j8=d;have hl:l=a++d:=by rw [← ha,← hd,List.takeWhile_append_dropWhile]
 have hal: ∀ c∈a,j8 c=true:=fun c hc=>qM (ha ▸ hc);have hp:wJ l=d.foldl cA ⟨a.length,0,dB a 0,0,true⟩:=by
  rw [wJ,hl,YG,Gg a pc0 hal rfl];simp [pc0]
 rw [hp]
 cases d with
 |nil=>simp
 |cons c r=>
  have hcl:j8 c=false:=by
   cases hq:j8 c
   ·rfl
   ·exfalso;have hne:l.dropWhile j8≠ []:=by rw [hd];simp
    have:=List.head_dropWhile_not j8 hne;simp only [hd,List.head_cons] at this;rw [hq] at this;cases this
  rw [YV];by_cases ha0:a= []
  ·subst ha0;have:(List.foldl cA (cA ⟨(([]:List Int).length:Int),0,dB [] 0,0,true⟩ c) r).ok=false∨(List.foldl cA (cA ⟨(([]:List Int).length:Int),0,dB [] 0,0,true⟩ c) r).m0=0∨(List.foldl cA (cA ⟨(([]:List Int).length:Int),0,dB [] 0,0,true⟩ c) r).m1=0:=by
    cases hdc:bX c
    ·exact .inl (o8 r (nC hcl hdc))
    ·cases hr:r.all bX
     ·left
      apply rR r _ hr;rw [iF hdc];simp [gU]
     ·right;left
      rw [yP r _ (by simpa using hr) (by rw [iF hdc];simp [gU])];rw [iF hdc];simp [gU]
   rw [if_pos this,if_pos (show (([]:List Int)= []∨_) from .inl rfl)]
  ·have hlen:0<(a.length:Int):=by
    have:=Yr.2 ha0;omega
   cases hdc:bX c
   ·rw [if_pos (.inl (o8 r (nC hcl hdc))),if_pos (.inr (.inr (.inr (by simp [hdc]))))]
   ·rw [iF hdc];by_cases h48:c=48
    ·rw [if_pos (.inl (o8 r (by simp [gU,h48]))),if_pos (.inr (.inr (.inl (by simp [h48]))))]
    ·cases hr:r.all bX
     ·rw [if_pos (.inl (rR r _ hr (by simp [gU]))),if_pos (.inr (.inr (.inr (by simp [hr]))))]
     ·have hr' : ∀ x∈r,bX x=true:=by simpa using hr
      have hp2:List.foldl cA (gU ⟨a.length,0,dB a 0,0,true⟩ c) r=⟨a.length,1+r.length,dB a 0,wI (c::r) 0,true⟩:=by
       rw [yP r _ hr' (by simp [gU])];simp [gU,h48,wI]
      rw [hp2,if_neg (c:=(a= []∨_)) (by simp [ha0,h48,hdc,hr])];have hd2:=hdc;simp only [bX,Xo,decide_eq_true_eq] at hd2;have h1:=tA a hal (Zb 0) (.inl ha0);have h3:1≤wI (c::r) 0:=Ft r (v:=min (10*0+(c - 48)) 1025) hr' (by omega);generalize wI (c::r) 0=u at h3 ⊢;split
      ·rename_i h;exfalso;rcases h with h|h|h
       ·cases h
       ·exact absurd h (by show ¬ ((a.length:Int)=0);omega)
       ·exact absurd h (by show ¬ (1+(r.length:Int)=0);omega)
      ·by_cases hb:1024<dB a 0∨1024<u
       ·rw [if_pos hb,if_neg];simp only [valid,Xo,decide_eq_true_eq];omega
       ·rw [if_neg hb,if_pos];simp only [valid,Xo,decide_eq_true_eq];omega
end Go.SL
namespace Go.Proofs
open Go Go.Shelf Go.RowKit Go.Lib Go.Sort Go.SL
theorem Tryz.rorderX (a b:Rf) (W:World):Calls Tryz.prog 152 #[.agg #[.int .i64 a.col,.int .i64 a.row],.agg #[.int .i64 b.col,.int .i64 b.row]] W fun e w' =>e= .returned (.int .i64 (iz a b))∧ ∃ q os',w' =grow (W.drewN q) os' :=by
 unfold iz;have c1: ∀ q os,(grow (((W.alloc (Obj.cells #[Value.int IntKind.i64 a.col,Value.int IntKind.i64 a.row] 34)).alloc (Obj.cells #[Value.int IntKind.i64 b.col,Value.int IntKind.i64 b.row] 34)).drewN q) os).cell? ⟨W.heap.size,0,none⟩=some (.int .i64 a.col):=fun q os=>by
  refine cell_grown (by show W.heap.size<((W.heap.push _).push _).size;rw [X9,X9];omega) ?_ q os;have e: ∀ o1 o2:Obj,((W.alloc o1).alloc o2).heap[W.heap.size]? =some o1:=fun o1 o2=>by
   show ((W.heap.push o1).push o2)[W.heap.size]? =_;rw [Yz,if_neg (by rw [X9];omega),Yz,if_pos rfl]
  simp only [World.cell?,e]
  rfl
 have c2: ∀ q os,(grow (((W.alloc (Obj.cells #[Value.int IntKind.i64 a.col,Value.int IntKind.i64 a.row] 34)).alloc (Obj.cells #[Value.int IntKind.i64 b.col,Value.int IntKind.i64 b.row] 34)).drewN q) os).cell? ⟨W.heap.size,1,none⟩=some (.int .i64 a.row):=fun q os=>by
  refine cell_grown (by show W.heap.size<((W.heap.push _).push _).size;rw [X9,X9];omega) ?_ q os;have e: ∀ o1 o2:Obj,((W.alloc o1).alloc o2).heap[W.heap.size]? =some o1:=fun o1 o2=>by
   show ((W.heap.push o1).push o2)[W.heap.size]? =_;rw [Yz,if_neg (by rw [X9];omega),Yz,if_pos rfl]
  simp only [World.cell?,e]
  rfl
 have c3: ∀ q os,(grow (((W.alloc (Obj.cells #[Value.int IntKind.i64 a.col,Value.int IntKind.i64 a.row] 34)).alloc (Obj.cells #[Value.int IntKind.i64 b.col,Value.int IntKind.i64 b.row] 34)).drewN q) os).cell? ⟨W.heap.size+1,0,none⟩=some (.int .i64 b.col):=fun q os=>by
  refine cell_grown (by show W.heap.size+1<((W.heap.push _).push _).size;rw [X9,X9];omega) ?_ q os;have e: ∀ o1 o2:Obj,((W.alloc o1).alloc o2).heap[W.heap.size+1]? =some o2:=fun o1 o2=>by
   show ((W.heap.push o1).push o2)[W.heap.size+1]? =_;rw [Yz,if_pos (by rw [X9])]
  simp only [World.cell?,e]
  rfl
 have c4: ∀ q os,(grow (((W.alloc (Obj.cells #[Value.int IntKind.i64 a.col,Value.int IntKind.i64 a.row] 34)).alloc (Obj.cells #[Value.int IntKind.i64 b.col,Value.int IntKind.i64 b.row] 34)).drewN q) os).cell? ⟨W.heap.size+1,1,none⟩=some (.int .i64 b.row):=fun q os=>by
  refine cell_grown (by show W.heap.size+1<((W.heap.push _).push _).size;rw [X9,X9];omega) ?_ q os;have e: ∀ o1 o2:Obj,((W.alloc o1).alloc o2).heap[W.heap.size+1]? =some o2:=fun o1 o2=>by
   show ((W.heap.push o1).push o2)[W.heap.size+1]? =_;rw [Yz,if_pos (by rw [X9])]
  simp only [World.cell?,e]
  rfl
 go_enter Tryz.func152,Tryz.ntmps152
 go_wp2_with (go_at_call 89;refine (Tryz.lessX _ _ _).mono ?_;rintro e w' ⟨rfl,q,os,rfl⟩)
 all_goals
  go_ret
  exact ⟨rfl,by first|exact (((Lays.refl W).alloc _).alloc _).grow _ _|exact ((((Lays.refl W).alloc _).alloc _).grow _ _).grow _ _⟩
def lD (a b:Int):Int:=if a<b then -1 else if b<a then 1 else 0
def orI (a b c d:Int):Int:=if a≠0 then a else if b≠0 then b else if c≠0 then c else d
def cj (a b:Rct):Int:=orI (lD a.r1 b.r1) (lD a.c1 b.c1) (lD a.r2 b.r2) (lD a.c2 b.c2)
def Tryz.sortRf_ren:Go.Shelf.Ren:=⟨fun|6=>117|15=>105|14=>153|28=>149|29=>150|20=>205|21=>206|22=>207|23=>208|24=>209|25=>210|26=>211|27=>212|46=>245|47=>193|48=>194|49=>246|50=>247|57=>275|n=>n,fun|22=>36|24=>34|25=>214|3=>3|39=>60|0=>0|53=>202|55=>57|4=>4|46=>247|45=>246|50=>163|5=>5|9=>9|66=>298|70=>302|76=>345|77=>346|n=>n,fun|n=>n⟩
theorem Tryz.sortRf:Go.Proofs.SlLaysF0.n6 Tryz.prog Tryz.sortRf_ren:={
 mixed:=by kernel_rfl
 f6:=⟨Tryz.f117.name,by decide,Tryz.func117.trans (congrArg some (by kernel_rfl))⟩
 f14:=⟨Tryz.f153.name,by decide,Tryz.func153.trans (congrArg some (by kernel_rfl))⟩
 f15:=Tryz.func105.trans (congrArg some (by kernel_rfl))
 f20:=⟨Tryz.f205.name,by decide,Tryz.func205.trans (congrArg some (by kernel_rfl))⟩
 f21:=⟨Tryz.f206.name,by decide,Tryz.func206.trans (congrArg some (by kernel_rfl))⟩
 f22:=⟨Tryz.f207.name,by decide,Tryz.func207.trans (congrArg some (by kernel_rfl))⟩
 f23:=⟨Tryz.f208.name,by decide,Tryz.func208.trans (congrArg some (by kernel_rfl))⟩
 f24:=⟨Tryz.f209.name,by decide,Tryz.func209.trans (congrArg some (by kernel_rfl))⟩
 f25:=⟨Tryz.f210.name,by decide,Tryz.func210.trans (congrArg some (by kernel_rfl))⟩
 f26:=⟨Tryz.f211.name,by decide,Tryz.func211.trans (congrArg some (by kernel_rfl))⟩
 f27:=⟨Tryz.f212.name,by decide,Tryz.func212.trans (congrArg some (by kernel_rfl))⟩
 f28:=Tryz.func149.trans (congrArg some (by kernel_rfl))
 f29:=Tryz.func150.trans (congrArg some (by kernel_rfl))
 f46:=⟨Tryz.f245.name,by decide,Tryz.func245.trans (congrArg some (by kernel_rfl))⟩
 f47:=Tryz.func193.trans (congrArg some (by kernel_rfl))
 f48:=Tryz.func194.trans (congrArg some (by kernel_rfl))
 f49:=⟨Tryz.f246.name,by decide,Tryz.func246.trans (congrArg some (by kernel_rfl))⟩
 f50:=⟨Tryz.f247.name,by decide,Tryz.func247.trans (congrArg some (by kernel_rfl))⟩
 f57:=⟨Tryz.f275.name,by decide,Tryz.func275.trans (congrArg some (by kernel_rfl))⟩
 t0:=Tryz.underlying0
 a0:=Tryz.isAgg0
 z0:=Tryz.sizeOf0
 v0:=Tryz.zeroValue0
 t3:=Tryz.underlying3
 a3:=Tryz.isAgg3
 z3:=Tryz.sizeOf3
 v3:=Tryz.zeroValue3
 t4:=Tryz.underlying4
 a4:=Tryz.isAgg4
 z4:=Tryz.sizeOf4
 v4:=Tryz.zeroValue4
 t5:=Tryz.underlying5
 a5:=Tryz.isAgg5
 z5:=Tryz.sizeOf5
 v5:=Tryz.zeroValue5
 t9:=Tryz.underlying9
 a9:=Tryz.isAgg9
 z9:=Tryz.sizeOf9
 v9:=Tryz.zeroValue9
 t22:=Tryz.underlying36
 a22:=Tryz.isAgg36
 z22:=Tryz.sizeOf36
 v22:=Tryz.zeroValue36
 t25:=Tryz.underlying214
 a25:=Tryz.isAgg214
 z25:=Tryz.sizeOf214
 v25:=Tryz.zeroValue214
 t39:=Tryz.underlying60
 a39:=Tryz.isAgg60
 z39:=Tryz.sizeOf60
 v39:=Tryz.zeroValue60
 t45:=Tryz.underlying246
 a45:=Tryz.isAgg246
 z45:=Tryz.sizeOf246
 v45:=Tryz.zeroValue246
 t46:=Tryz.underlying247
 a46:=Tryz.isAgg247
 z46:=Tryz.sizeOf247
 v46:=Tryz.zeroValue247
 t50:=Tryz.underlying163
 a50:=Tryz.isAgg163
 z50:=Tryz.sizeOf163
 v50:=Tryz.zeroValue163
 t53:=Tryz.underlying202
 a53:=Tryz.isAgg202
 z53:=Tryz.sizeOf202
 v53:=Tryz.zeroValue202
 t55:=Tryz.underlying57
 a55:=Tryz.isAgg57
 z55:=Tryz.sizeOf57
 v55:=Tryz.zeroValue57
 t66:=Tryz.underlying298
 a66:=Tryz.isAgg298
 z66:=Tryz.sizeOf298
 v66:=Tryz.zeroValue298
 t70:=Tryz.underlying302
 a70:=Tryz.isAgg302
 z70:=Tryz.sizeOf302
 v70:=Tryz.zeroValue302
 t76:=Tryz.underlying345
 a76:=Tryz.isAgg345
 z76:=Tryz.sizeOf345
 v76:=Tryz.zeroValue345
 t77:=Tryz.underlying346
 a77:=Tryz.isAgg346
 z77:=Tryz.sizeOf346
 v77:=Tryz.zeroValue346 }
theorem iG (x y:Rf):ltOf iz x y=bE x y:=by
 unfold ltOf iz;cases h1:bE x y<;>cases h2:bE y x<;>simp
theorem Tq:SWO (ltOf iz):={
 irrefl x:=by rw [iG];simp [bE]
 trans x y z h1 h2:=by rw [iG] at*;simp [bE] at*;omega
 ntrans x y z h1 h2:=by rw [iG] at*;simp [bE] at*;omega }
theorem NZ (x y:Rf) (h1:ltOf iz x y=false) (h2:ltOf iz y x=false):x=y:=by
 rw [iG] at h1 h2;obtain ⟨a,b⟩:=x;obtain ⟨c,d⟩:=y;simp [bE] at h1 h2;simp;omega
instance iN7:Inhabited Rf:=⟨⟨0,0⟩⟩
theorem Tryz.sortRf_calls (blk off cap:Nat) (d:Array Rf) (w:World) (hH:HoldsK aq 2 w blk off d) (hblk:blk<w.heap.size) (hsz:d.size<4611686018427387904):
 Calls Tryz.prog 117 #[.slice (some ⟨blk,off,none⟩) d.size cap,.func (.func 130) #[] #[]] w fun e w' =>
  e= .returned (.tuple #[])∧ ∃ n os,w' =sortWorldK aq 2 w blk off n (d.toList.mergeSort fun x y=> !(ltOf iz) y x).toArray os:=by
 have eg: ∀ args w,(callFunc 130 args).run Tryz.prog w= .ok (.enter 130 args) w:=enters_of Tryz.func130 (by kernel_rfl) rfl;exact AnyQ.slices_SortFunc_total Tryz.sortRf 2 (fun w=>by have h:=Tryz.underlying34;show (isAgg 34).run _ w=_;simp [isAgg,run_underlying h]) (fun w=>by obtain ⟨i,h1,h2⟩:=(inferInstance:Size Tryz.prog 34 2).out;show (Go.sizeOf 34).run _ w=_;simp [Go.sizeOf,typeInfo,h1,h2]) aq (fun _=>rfl) (fun x v hv=>by simp [aq] at hv;rcases hv with rfl|rfl<;>rfl) iz Tq 130 #[] blk off cap d w eg (fun _ _ _ _ x y=>Tryz.orderX x y _) hH hblk hsz NZ
end Go.Proofs
namespace Go.SL
open Go Go.Proofs Go.Sort Go.Shelf
def sortRf (L:List Rf):List Rf:=L.mergeSort fun x y=> !(bE y x)
theorem Gj (L:List Rf) (j:Nat) (h:j<L.length*2):(L.flatMap aq)[j]? =some ((flatK aq 2 L.toArray)[j]!):=by
 rw [get_flatK _ _ _ _ (by simpa using h)];have h1:j / 2<L.length:=by omega
 have h2:j % 2<2:=Nat.mod_lt _ (by omega);have h3:=jw bD L (j / 2) (j % 2) h1 h2;rw [show j / 2*2+j % 2=j by omega] at h3;rw [h3];have h4:L.toArray[j / 2]! =L[j / 2]:=by simp [h1]
 rw [h4,Xf (by rw [bD];exact h2)];congr 1;rw [getElem!_pos _ _ (by rw [bD];exact h2)]
theorem Iw (w:World) (g n:Nat) (d:Array Rf) (os:Array Obj):w.grownBy (sortWorldK aq 2 w g 0 n d os) (some g):={
 os:=rfl
 tape:=rfl
 output:=rfl
 size:=by
  show w.heap.size≤((w.heap.modify g _)++os).size;rw [aah,Zi];omega
 block k hk hne:=by
  show ((w.heap.modify g _)++os)[k]? =_;rw [Yy (by rw [Zi];exact hk),Y5,if_neg (fun e=>hne (by rw [e]))] }
theorem Ly (w:World) (g n:Nat) (d:Array Rf) (os:Array Obj) (c:Array Value) (T:TypeId) (fr:Nat × Nat) (h:w.heap[g]? =some (.cells c T fr)):
 (sortWorldK aq 2 w g 0 n d os).heap[g]? =some (.cells (putCells id 0 (flatK aq 2 d) c) T fr):=by
 have hlt:g<w.heap.size:=(XK.1 h).1;show ((w.heap.modify g _)++os)[g]? =_;rw [Yy (by rw [Zi];exact hlt),Y5,if_pos rfl,h]
 rfl
theorem LQ (L:List Rf) (xs junk:List Value) (hl:xs.length=L.length*2):putCells id 0 (flatK aq 2 L.toArray) (xs++junk).toArray=(L.flatMap aq++junk).toArray:=by
 have hfl:(L.flatMap aq).length=L.length*2:=aR bD L;apply aae;intro j;simp only [putCells,aao,X4,size_flatK,YR,Xn,true_and,Xv,YC];by_cases hj:j<L.length*2
 ·rw [XW (by omega),XW (by omega),Gj L j hj,Xf (by omega)];simp [hj]
 ·rw [Yd (by omega),Yd (by omega),hl,hfl];simp [hj]
theorem E7 (L:List Rf) (g cap:Nat) (hL:L.length≤1000000) (R:List Blk) (w0:World):
 FnIn Tryz.prog 117 [sl (some g) L.length cap,.func (.func 130) #[] #[]] w0 (.own (some g) 34 2 L.length cap (L.flatMap aq)::R) fun v H=>v= .tuple #[]∧H= .own (some g) 34 2 L.length cap ((sortRf L).flatMap aq)::R:=by
 intro w hm;obtain ⟨⟨h1,h2,h3,junk,h4,h5⟩,hk⟩:=hm.on _ Xb;have hlt:g<w.heap.size:=(XK.1 h5).1;have hH:HoldsK aq 2 w g 0 L.toArray:=by
  intro j hj;simp only [size_flatK,YR] at hj;have hc:(L.flatMap aq++junk).toArray[j]? =some (flatK aq 2 L.toArray)[j]! :=by
   rw [X4,XW (by omega),Gj L j hj]
  constructor
  ·simp only [World.cell?,Xv,h5];exact hc
  ·simp [World.frozen?,h5]
 have hs:=Tryz.sortRf_calls g 0 cap L.toArray w hH hlt (by simp;omega);have hsz:L.toArray.size=L.length:=by simp
 rw [hsz] at hs;refine hs.mono ?_;rintro e w' ⟨rfl,n,os,rfl⟩;have hlen:(sortRf L).length=L.length:=by simp [sortRf]
 have heq:(L.toArray.toList.mergeSort fun x y=> !(ltOf iz) y x)=sortRf L:=by
  simp only [sortRf,iG]
 rw [heq];refine ⟨_,_,rfl,hm.upd (Iw _ _ _ _ _) (b' := .own (some g) 34 2 L.length cap ((sortRf L).flatMap aq)) ?_ fun k hk=> .inl hk,rfl,rfl⟩;have hfl:((sortRf L).flatMap aq).length=L.length*2:=by rw [aR bD,hlen]
 refine ⟨hfl,h2,h3,junk,by rw [Xa,hfl,← h1,← Xa];exact h4,?_⟩;rw [Ly _ _ _ _ _ _ _ _ h5,LQ (sortRf L) _ _ (by rw [hlen];exact h1)]
theorem CS (L:List Rf) (A:Option Nat) (cap:Nat) (hL:L.length≤1000000) (R:List Blk) (w0:World):
 FnIn Tryz.prog 117 [sl A L.length cap,.func (.func 130) #[] #[]] w0 (.own A 34 2 L.length cap (L.flatMap aq)::R) fun v H=>v= .tuple #[]∧H= .own A 34 2 L.length cap ((sortRf L).flatMap aq)::R:=by
 cases A with
 |some g=>exact E7 L g cap hL R w0
 |none=>
  intro w hm;obtain ⟨⟨h1,h2,h3,h4⟩,_⟩:=hm.on _ Xb;obtain ⟨h5,h6⟩:=h4;have hnil:L= []:=YB.1 h5;subst hnil;subst h6;refine Calls.mono (AnyF.slices_SortFunc_none Tryz.sortRf none 0 _ w) ?_;rintro e w' ⟨rfl,rfl⟩;exact ⟨_,_,rfl,hm,rfl,by simp [sortRf]⟩
attribute [local irreducible] FnAt FnIn FnP RW VOp W WA WG WL WLI WQ WR WT WX aX aY bA blk bw scp thn
def aC (a:Rf):Value:= .agg (aq a).toArray
def gB (gg gm:Nat) (es:List (Rf × Value × Nat)) (clock:Nat):List Blk:= [.box gg 104 [.map (some gm)],.obj gm (aK aC es clock)]
def kZ (es:List (Rf × Value × Nat)):List Rf:=sortRf (es.map fun e=>e.1)
theorem jI {L M:List Rf} (h:L.Perm M):sortRf L=sortRf M:=by
 have hp: ∀ L:List Rf,(sortRf L).Pairwise fun x y=>(!(bE y x))=true:=fun L=>
  aai (le:=fun x y=> !(bE y x)) (fun a b c h1 h2=>by simp [bE] at*;omega) (fun a b=>by simp [bE];omega) L
 refine List.Perm.eq_of_pairwise (fun a b _ _ h1 h2=> ?_) (hp L) (hp M) (((Zg L _).trans h).trans (Zg M _).symm);exact NZ a b (by rw [iG];simpa using h2) (by rw [iG];simpa using h1)
theorem v8 (gg gm clock:Nat) (es:List (Rf × Value × Nat)) (hok:MapOk es clock) (hlen:es.length≤1000000) (R:List Blk) (w0:World):
 FnIn Tryz.prog 92 [.pointer (some ⟨gg,0,none⟩)] w0 (gB gg gm es clock++R) fun v H=> ∃ A cap,v=sl A es.length cap∧H= .own A 34 2 es.length cap ((kZ es).flatMap aq)::(gB gg gm es clock++R):=by
 refine bI Tryz.func92 rfl Tryz.ntmps92 rfl ?_;refine aF 34 2 ?_;repeat' (first|apply ak;exact rfl;apply ij;exact rfl|apply dN (enc:=aC);exact rfl;exact rfl;exact pK;intro gi|refine zZB ?_|refine sM fun _=>?_|refine sC ?_ ?_<;>intro hb<;>try omega|fail)
 refine ax [11] rfl (fun x:List (Rf × Value × Nat) × Option Nat × Nat=> [(3,sl x.2.1 x.1.length x.2.2)]) (fun x=> .obj gi (je gm clock (x.1.map fun e=>e.2.2)):: .own x.2.1 34 2 x.1.length x.2.2 ((x.1.map fun e=>e.1).flatMap aq)::(gB gg gm es clock++R)) (fun x=>Vis es x.1) (fun x=>es.length - x.1.length) ([],none,0) (Vis.nil es) sB (.refl _) ?_;rintro ⟨vis,A,cap⟩ hv;dsimp only at hv ⊢;have hvl:=hv.len;have hml:(vis.map fun e=>e.1).length=vis.length:=Xq _;have hS:=fun R' =>CS (vis.map fun e=>e.1) A cap (by omega) R' w0;rw [hml] at hS;repeat' (first|apply eC (enc:=aC);exact rfl;exact rfl;exact pK;exact pK;exact hok;intro e he hne|intro hall|apply ak;exact rfl;apply lH (enc:=aC);exact rfl;exact pK;exact pK;exact he;exact hok|apply aN;(iterate 3 exact rfl);(repeat first|exact .hd|apply Sel.tl|apply In.tl);intro w hm;exact hm.cells_own (by (repeat first|exact .hd|apply Sel.tl|apply In.tl));exact rfl;simp [Value.oneCell',sl];omega;simp only [maxLen];omega;intro A2 cap2 hA2|apply aj (f:=117);exact rfl;exact rfl;exact FnIn.msub (hS _) (MSub.pick pK (MSub.refl _));rintro _ _ ⟨rfl,rfl⟩|refine zZB ?_|refine sM fun _=>?_|refine sC ?_ ?_<;>intro hb<;>try omega|fail)
 ·refine ⟨(vis++ [e],A2,cap2),hv.step he hne,?_,?_,sB,?_⟩
  ·have:=hv.lt he hne;simp only [Xa,Xe];omega
  ·simp only [Xa,Xe];exact sB
  ·simp only [XI,XD,XR,Xa,Xe,Xz,Xx,XP,Xm];exact mS
 ·have hperm:=hv.perm hok hall;have hl:vis.length=es.length:=hperm.length_eq;have hf:kZ es=sortRf (vis.map fun e=>e.1):=jI (hperm.symm.map _);refine bo eIO rfl rfl (H' := .own A 34 2 es.length cap ((kZ es).flatMap aq)::(gB gg gm es clock++R)) ?_ ⟨A,cap,by rw [hl],rfl⟩;rw [hf,← hl];exact mS
attribute [local irreducible] WC ceP
theorem yO (es:List (Rf × Value × Nat)):(kZ es).length=es.length:=by
 have:=(Zg (es.map fun e=>e.1) (fun x y=> !(bE y x))).length_eq;simp [kZ,sortRf]
end Go.SL
namespace Go.Proofs
open Go Go.Shelf Go.RowKit Go.Lib Go.Sort Go.SL
def Tryz.sortRc_ren:Go.Shelf.Ren:=⟨fun|6=>98|15=>105|14=>136|28=>149|29=>150|20=>179|21=>180|22=>181|23=>182|24=>183|25=>184|26=>185|27=>186|46=>236|47=>193|48=>194|49=>237|50=>238|57=>271|n=>n,fun|22=>62|24=>31|25=>193|3=>3|39=>60|0=>0|53=>202|55=>57|4=>4|46=>247|45=>246|50=>163|5=>5|9=>9|66=>298|70=>302|76=>345|77=>346|n=>n,fun|n=>n⟩
theorem Tryz.sortRc:Go.Proofs.SlLaysF0.n6 Tryz.prog Tryz.sortRc_ren:={
 mixed:=by kernel_rfl
 f6:=⟨Tryz.f98.name,by decide,Tryz.func98.trans (congrArg some (by kernel_rfl))⟩
 f14:=⟨Tryz.f136.name,by decide,Tryz.func136.trans (congrArg some (by kernel_rfl))⟩
 f15:=Tryz.func105.trans (congrArg some (by kernel_rfl))
 f20:=⟨Tryz.f179.name,by decide,Tryz.func179.trans (congrArg some (by kernel_rfl))⟩
 f21:=⟨Tryz.f180.name,by decide,Tryz.func180.trans (congrArg some (by kernel_rfl))⟩
 f22:=⟨Tryz.f181.name,by decide,Tryz.func181.trans (congrArg some (by kernel_rfl))⟩
 f23:=⟨Tryz.f182.name,by decide,Tryz.func182.trans (congrArg some (by kernel_rfl))⟩
 f24:=⟨Tryz.f183.name,by decide,Tryz.func183.trans (congrArg some (by kernel_rfl))⟩
 f25:=⟨Tryz.f184.name,by decide,Tryz.func184.trans (congrArg some (by kernel_rfl))⟩
 f26:=⟨Tryz.f185.name,by decide,Tryz.func185.trans (congrArg some (by kernel_rfl))⟩
 f27:=⟨Tryz.f186.name,by decide,Tryz.func186.trans (congrArg some (by kernel_rfl))⟩
 f28:=Tryz.func149.trans (congrArg some (by kernel_rfl))
 f29:=Tryz.func150.trans (congrArg some (by kernel_rfl))
 f46:=⟨Tryz.f236.name,by decide,Tryz.func236.trans (congrArg some (by kernel_rfl))⟩
 f47:=Tryz.func193.trans (congrArg some (by kernel_rfl))
 f48:=Tryz.func194.trans (congrArg some (by kernel_rfl))
 f49:=⟨Tryz.f237.name,by decide,Tryz.func237.trans (congrArg some (by kernel_rfl))⟩
 f50:=⟨Tryz.f238.name,by decide,Tryz.func238.trans (congrArg some (by kernel_rfl))⟩
 f57:=⟨Tryz.f271.name,by decide,Tryz.func271.trans (congrArg some (by kernel_rfl))⟩
 t0:=Tryz.underlying0
 a0:=Tryz.isAgg0
 z0:=Tryz.sizeOf0
 v0:=Tryz.zeroValue0
 t3:=Tryz.underlying3
 a3:=Tryz.isAgg3
 z3:=Tryz.sizeOf3
 v3:=Tryz.zeroValue3
 t4:=Tryz.underlying4
 a4:=Tryz.isAgg4
 z4:=Tryz.sizeOf4
 v4:=Tryz.zeroValue4
 t5:=Tryz.underlying5
 a5:=Tryz.isAgg5
 z5:=Tryz.sizeOf5
 v5:=Tryz.zeroValue5
 t9:=Tryz.underlying9
 a9:=Tryz.isAgg9
 z9:=Tryz.sizeOf9
 v9:=Tryz.zeroValue9
 t22:=Tryz.underlying62
 a22:=Tryz.isAgg62
 z22:=Tryz.sizeOf62
 v22:=Tryz.zeroValue62
 t25:=Tryz.underlying193
 a25:=Tryz.isAgg193
 z25:=Tryz.sizeOf193
 v25:=Tryz.zeroValue193
 t39:=Tryz.underlying60
 a39:=Tryz.isAgg60
 z39:=Tryz.sizeOf60
 v39:=Tryz.zeroValue60
 t45:=Tryz.underlying246
 a45:=Tryz.isAgg246
 z45:=Tryz.sizeOf246
 v45:=Tryz.zeroValue246
 t46:=Tryz.underlying247
 a46:=Tryz.isAgg247
 z46:=Tryz.sizeOf247
 v46:=Tryz.zeroValue247
 t50:=Tryz.underlying163
 a50:=Tryz.isAgg163
 z50:=Tryz.sizeOf163
 v50:=Tryz.zeroValue163
 t53:=Tryz.underlying202
 a53:=Tryz.isAgg202
 z53:=Tryz.sizeOf202
 v53:=Tryz.zeroValue202
 t55:=Tryz.underlying57
 a55:=Tryz.isAgg57
 z55:=Tryz.sizeOf57
 v55:=Tryz.zeroValue57
 t66:=Tryz.underlying298
 a66:=Tryz.isAgg298
 z66:=Tryz.sizeOf298
 v66:=Tryz.zeroValue298
 t70:=Tryz.underlying302
 a70:=Tryz.isAgg302
 z70:=Tryz.sizeOf302
 v70:=Tryz.zeroValue302
 t76:=Tryz.underlying345
 a76:=Tryz.isAgg345
 z76:=Tryz.sizeOf345
 v76:=Tryz.zeroValue345
 t77:=Tryz.underlying346
 a77:=Tryz.isAgg346
 z77:=Tryz.sizeOf346
 v77:=Tryz.zeroValue346 }
end Go.Proofs
namespace Go.SL
open Go Go.Proofs Go.Sort Go.Shelf
section
variable {α:Type} [Inhabited α] {enc:α→List Value} {k:Nat}
theorem uS (hk: ∀ x,(enc x).length=k) (h0:0<k) (L:List α) (j:Nat) (h:j<L.length*k):(L.flatMap enc)[j]? =some ((flatK enc k L.toArray)[j]!):=by
 rw [get_flatK _ _ _ _ (by simpa using h)];have h1:j / k<L.length:=Nat.div_lt_of_lt_mul (by rw [Nat.mul_comm];exact h);have h2:j % k<k:=Nat.mod_lt _ h0;have h3:=jw hk L (j / k) (j % k) h1 h2;rw [show j / k*k+j % k=j by rw [Nat.mul_comm];exact Nat.div_add_mod j k] at h3;rw [h3];have h4:L.toArray[j / k]! =L[j / k]:=by simp [h1]
 rw [h4,Xf (by rw [hk];exact h2)];congr 1;rw [getElem!_pos _ _ (by rw [hk];exact h2)]
theorem vn (w:World) (g n:Nat) (d:Array α) (os:Array Obj):w.grownBy (sortWorldK enc k w g 0 n d os) (some g):={
 os:=rfl
 tape:=rfl
 output:=rfl
 size:=by
  show w.heap.size≤((w.heap.modify g _)++os).size;rw [aah,Zi];omega
 block k hk hne:=by
  show ((w.heap.modify g _)++os)[k]? =_;rw [Yy (by rw [Zi];exact hk),Y5,if_neg (fun e=>hne (by rw [e]))] }
theorem xW (w:World) (g n:Nat) (d:Array α) (os:Array Obj) (c:Array Value) (T:TypeId) (fr:Nat × Nat) (h:w.heap[g]? =some (.cells c T fr)):
 (sortWorldK enc k w g 0 n d os).heap[g]? =some (.cells (putCells id 0 (flatK enc k d) c) T fr):=by
 have hlt:g<w.heap.size:=(XK.1 h).1;show ((w.heap.modify g _)++os)[g]? =_;rw [Yy (by rw [Zi];exact hlt),Y5,if_pos rfl,h]
 rfl
theorem ym (hk: ∀ x,(enc x).length=k) (h0:0<k) (L:List α) (xs junk:List Value) (hl:xs.length=L.length*k):putCells id 0 (flatK enc k L.toArray) (xs++junk).toArray=(L.flatMap enc++junk).toArray:=by
 have hfl:(L.flatMap enc).length=L.length*k:=aR hk L;apply aae;intro j;simp only [putCells,aao,X4,size_flatK,YR,Xn,true_and,Xv,YC];by_cases hj:j<L.length*k
 ·rw [XW (by omega),XW (by omega),uS hk h0 L j hj,Xf (by omega)];simp [hj]
 ·rw [Yd (by omega),Yd (by omega),hl,hfl];simp [hj]
theorem xV {F fid T:Nat} {P:Program} (srt:List α→List α) (hk: ∀ x,(enc x).length=k) (h0:0<k) (hlen: ∀ L,(srt L).length=L.length)
 (hs: ∀ (blk off cap:Nat) (d:Array α) (w:World),HoldsK enc k w blk off d→blk<w.heap.size→d.size<4611686018427387904→Calls P F #[.slice (some ⟨blk,off,none⟩) d.size cap,.func (.func fid) #[] #[]] w fun e w' =>e= .returned (.tuple #[])∧ ∃ n os,w' =sortWorldK enc k w blk off n (srt d.toList).toArray os)
 (hn: ∀ (p:Option Addr) (cap:Nat) (fv:Value) (w:World),Calls P F #[.slice p 0 cap,fv] w fun e w' =>e= .returned (.tuple #[])∧w' =w)
 (L:List α) (A:Option Nat) (cap:Nat) (hL:L.length≤1000000) (R:List Blk) (w0:World):
 FnIn P F [sl A L.length cap,.func (.func fid) #[] #[]] w0 (.own A T k L.length cap (L.flatMap enc)::R) fun v H=>v= .tuple #[]∧H= .own A T k L.length cap ((srt L).flatMap enc)::R:=by
 cases A with
 |none=>
  intro w hm;obtain ⟨⟨h1,h2,h3,h4⟩,_⟩:=hm.on _ Xb;obtain ⟨h5,h6⟩:=h4;have hnil:L= []:=YB.1 h5;subst hnil;subst h6;have he:srt []= []:=YB.1 (hlen []);refine Calls.mono (hn none 0 _ w) ?_;rintro e w' ⟨rfl,rfl⟩;exact ⟨_,_,rfl,hm,rfl,by rw [he]⟩
 |some g=>
  intro w hm;obtain ⟨⟨h1,h2,h3,junk,h4,h5⟩,hkk⟩:=hm.on _ Xb;have hlt:g<w.heap.size:=(XK.1 h5).1;have hH:HoldsK enc k w g 0 L.toArray:=by
   intro j hj;simp only [size_flatK,YR] at hj;have hc:(L.flatMap enc++junk).toArray[j]? =some (flatK enc k L.toArray)[j]! :=by
    rw [X4,XW (by omega),uS hk h0 L j hj]
   constructor
   ·simp only [World.cell?,Xv,h5];exact hc
   ·simp [World.frozen?,h5]
  have hs:=hs g 0 cap L.toArray w hH hlt (by simp;omega);have hsz:L.toArray.size=L.length:=by simp
  rw [hsz] at hs;refine hs.mono ?_;rintro e w' ⟨rfl,n,os,rfl⟩;have hl:=hlen L;refine ⟨_,_,rfl,hm.upd (vn _ _ _ _ _) (b' := .own (some g) T k L.length cap ((srt L).flatMap enc)) ?_ fun k hk=> .inl hk,rfl,rfl⟩;have hfl:((srt L).flatMap enc).length=L.length*k:=by rw [aR hk,hl]
  refine ⟨hfl,h2,h3,junk,by rw [Xa,hfl,← h1,← Xa];exact h4,?_⟩;rw [xW _ _ _ _ _ _ _ _ h5,ym hk h0 (srt L) _ _ (by rw [hl];exact h1)]
end
theorem oJ (p:Option Addr) (cap:Nat) (fv:Value) (w:World):Calls Tryz.prog 117 #[.slice p 0 cap,fv] w fun e w' =>e= .returned (.tuple #[])∧w' =w:=AnyF.slices_SortFunc_none Tryz.sortRf p cap fv w
def sortRc (L:List Rct):List Rct:=L.mergeSort fun x y=> !(ltOf cj y x)
end Go.SL

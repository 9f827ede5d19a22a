/-
  Lemmas and walks, put together: Ty Pg S5 S6 Ra Pl Rb Re Rf Pl2 Rg Rh.
-/
import Derived.Test.YthefeclkaaocnaaGreatDoorKi00
set_option linter.unusedSimpArgs false
set_option linter.unusedVariables false
set_option maxRecDepth 20000
namespace Go.SL
open Go Go.Proofs
instance:Zero Tryz.prog 33 (Value.agg #[Value.int IntKind.i64 0,Value.int IntKind.i64 0,Value.int IntKind.i64 0,Value.int IntKind.i64 0]):=⟨_,ai Tryz.type33,rfl⟩
instance:Und Tryz.prog 92 (TypeDesc.slice 109):=⟨Tryz.underlying92⟩
instance:Size Tryz.prog 109 3:=⟨_,ai Tryz.type109,rfl⟩
instance:Elem Tryz.prog 109 3 24:=⟨_,_,ai Tryz.type109,rfl,rfl,rfl,rfl,by decide⟩
instance:Struct Tryz.prog 109 [(0,2),(2,1)] ([Value.int IntKind.i64 0,Value.int IntKind.i64 0,Value.int IntKind.u64 0]):=⟨_,_,_,ai Tryz.type109,Tryz.underlying109,rfl,by simp only [Uu,Uw,ai Tryz.type34,ai Tryz.type51];rfl,rfl⟩
instance:Fld Tryz.prog 109 0 0:=⟨_,_,_,Tryz.underlying109,rfl,rfl,ai Tryz.type51,by decide⟩
instance:Fld Tryz.prog 109 1 2:=⟨_,_,_,Tryz.underlying109,rfl,rfl,ai Tryz.type34,by decide⟩
instance:Size Tryz.prog 166 1:=⟨_,ai Tryz.type166,rfl⟩
instance:One Tryz.prog 166:=⟨_,Tryz.underlying166,rfl⟩
instance:ZeroC Tryz.prog 166 ([Value.map none]):=⟨_,_,ai Tryz.type166,rfl,rfl⟩
instance:Callable Tryz.prog 40:=⟨fun args w=>Tryz.call40 args w⟩
instance:Callable Tryz.prog 46:=⟨fun args w=>Tryz.call46 args w⟩
instance:Callable Tryz.prog 47:=⟨fun args w=>Tryz.call47 args w⟩
instance:Callable Tryz.prog 48:=⟨fun args w=>Tryz.call48 args w⟩
instance:Callable Tryz.prog 98:=⟨fun args w=>Tryz.call98 args w⟩
instance:Callable Tryz.prog 99:=⟨fun args w=>Tryz.call99 args w⟩
instance:Callable Tryz.prog 100:=⟨fun args w=>Tryz.call100 args w⟩
instance:Callable Tryz.prog 104:=⟨fun args w=>Tryz.call104 args w⟩
instance:Callable Tryz.prog 147:=⟨fun args w=>Tryz.call147 args w⟩
end Go.SL
namespace Go.SL
open Go
theorem vo: ∀ {l:List Int} {h v:Int},(∃ x∈l,x≤v)→v≤h→ ∃ p∈eL l h,p.1≤v∧v≤p.2
 | [],h,v,⟨x,hx,_⟩,_=>by cases hx
 | [a],h,v,⟨x,hx,h1⟩,h2=>by rw [TX.1 hx] at h1;exact ⟨(a,h),TX.2 rfl,h1,h2⟩
 |a::b::l,h,v,⟨x,hx,h1⟩,h2=>by
  by_cases hb: ∃ x∈b::l,x≤v
  ·
   obtain ⟨p,hp,h3⟩:=vo (h:=h) hb h2
   exact ⟨p,TM _ hp,h3⟩
  ·
   rcases TS.1 hx with rfl|hx
   ·
    refine ⟨(x,b - 1),TI,h1,?_⟩
    have: ¬ b≤v:=fun e=>hb ⟨b,TI,e⟩
    simp only;omega
   ·
    exact absurd ⟨x,hx,h1⟩ hb
theorem vQ {lo hi v:Int} {ps:List (Int × Int)} (h1:lo≤v) (h2:v≤hi): ∃ p∈cX lo hi ps,p.1≤v∧v≤p.2:=
 vo ⟨lo,iF.2 ⟨.inl rfl,Vw _,by omega⟩,h1⟩ h2
theorem Bi {lo hi:Int} {ps:List (Int × Int)} {p q:Int × Int} (hp:p∈cX lo hi ps) (hq:q∈ps) (h1:q.1≤p.2) (h2:p.1≤q.2):q.1≤p.1∧p.2≤q.2:=by
 obtain ⟨k1,k2,k3,k4⟩:=qe (nY lo hi ps) (fun x hx=>(iF.1 hx).2.2) hp
 have k5:=(iF.1 k1).2.1
 constructor
 ·
  refine Int.not_lt.1 fun hlt=>k4 q.1 (iF.2 ⟨.inr ⟨q,hq,.inl rfl⟩,by omega,by omega⟩) ⟨hlt,h1⟩
 ·
  refine Int.not_lt.1 fun hlt=>k4 (q.2+1) (iF.2 ⟨.inr ⟨q,hq,.inr rfl⟩,by omega,by omega⟩) ⟨by omega,by omega⟩
end Go.SL
namespace Go.Proofs
open Go Go.Shelf Go.RowKit Go.Lib Go.Sort Go.SL
set_option maxHeartbeats 1000000 in
theorem Tryz.nanX (a:Int) (W:World):Calls Tryz.prog 149 #[.int .i64 a] W fun e w' =>e= .returned (.bool false)∧w' =W:=by
 go_enter Tryz.func149,Tryz.ntmps149
 go_wp2
 all_goals
  go_ret
  exact ⟨by simp,rfl⟩
set_option maxHeartbeats 1000000 in
theorem Tryz.cmpX (a b:Int) (W:World):Calls Tryz.prog 103 #[.int .i64 a,.int .i64 b] W fun e w' =>e= .returned (.int .i64 (lh a b))∧w' =W:=by
 unfold lh
 go_enter Tryz.func103,Tryz.ntmps103
 go_wp2_with (go_at_call 149;refine (Tryz.nanX _ _).mono ?_;rintro e w' ⟨rfl,rfl⟩)
 all_goals
  go_ret
  exact ⟨by first|rfl|(repeat' split)<;>first|rfl|omega,rfl⟩
set_option maxHeartbeats 1000000 in
theorem Tryz.orX (x0 x1 x2 x3:Int) (g c:Nat) (W:World) (h0:W.cell? ⟨g,0,none⟩=some (.int .i64 x0)) (h1:W.cell? ⟨g,1,none⟩=some (.int .i64 x1)) (h2:W.cell? ⟨g,2,none⟩=some (.int .i64 x2)) (h3:W.cell? ⟨g,3,none⟩=some (.int .i64 x3)):
    Calls Tryz.prog 102 #[.slice (some ⟨g,0,none⟩) 4 c] W fun e w' =>e= .returned (.int .i64 (orI x0 x1 x2 x3))∧w' =W:=by
  unfold orI
  go_enter Tryz.func102,Tryz.ntmps102
  go_wp2
  refine wp_loop_rounds 5 ?_
  rw [rounds_succ]
  go_wp2
  all_goals first
    |(rw [rounds_succ];go_wp2)
    |skip
  all_goals first
    |(rw [rounds_succ];go_wp2)
    |skip
  all_goals first
    |(rw [rounds_succ];go_wp2)
    |skip
  all_goals first
    |(rw [rounds_succ];go_wp2)
    |skip
  all_goals first
    | (go_ret
       exact ⟨by first|rfl|(congr 2;simp_all;done),rfl⟩)
    |trace_state
theorem Lays.drew {W X:World} (h:Lays W X):Lays W X.drew:=by
 obtain ⟨q,os,rfl⟩:=h
 exact ⟨q+1,os,rfl⟩
theorem wE (W:World) (cs:Array Value) (T:TypeId) {g j:Nat} {v:Value} (hg:g=W.heap.size) (hv:cs[j]? =some v):(W.alloc (Obj.cells cs T)).cell? ⟨g,j,none⟩=some v:=by
 subst hg
 have e:(W.alloc (Obj.cells cs T)).heap[W.heap.size]? =some (Obj.cells cs T):=by
  show (W.heap.push _)[W.heap.size]? =_
  rw [Vh,if_pos rfl]
 simp only [World.cell?,e]
 exact hv
set_option maxHeartbeats 4000000 in
theorem Tryz.leavesX (a b:Rct) (W:World):Calls Tryz.prog 101 #[.agg #[.int .i64 a.c1,.int .i64 a.r1,.int .i64 a.c2,.int .i64 a.r2],.agg #[.int .i64 b.c1,.int .i64 b.r1,.int .i64 b.c2,.int .i64 b.r2]] W fun e w' =>e= .returned (.int .i64 (cK a b))∧ ∃ q os',w' =grow (W.drewN q) os' :=by
 unfold cK
 have hor: ∀ (o1 o2:Obj) (T:TypeId),Calls Tryz.prog 102 #[.slice (some ⟨W.heap.size+1+1,0,none⟩) 4 4] (((W.alloc o1).alloc o2).alloc (Obj.cells #[.int .i64 (lh a.r1 b.r1),.int .i64 (lh a.c1 b.c1),.int .i64 (lh a.r2 b.r2),.int .i64 (lh a.c2 b.c2)] T)).drew fun e w' =>e= .returned (.int .i64 (orI (lh a.r1 b.r1) (lh a.c1 b.c1) (lh a.r2 b.r2) (lh a.c2 b.c2)))∧w' =(((W.alloc o1).alloc o2).alloc (Obj.cells #[.int .i64 (lh a.r1 b.r1),.int .i64 (lh a.c1 b.c1),.int .i64 (lh a.r2 b.r2),.int .i64 (lh a.c2 b.c2)] T)).drew:=fun o1 o2 T=>by
  have hg:W.heap.size+1+1=((W.alloc o1).alloc o2).heap.size:=by
   show _=((W.heap.push o1).push o2).size
   rw [U6,U6]
  exact Tryz.orX _ _ _ _ _ _ _ (wE _ _ _ hg rfl) (wE _ _ _ hg rfl) (wE _ _ _ hg rfl) (wE _ _ _ hg rfl)
 go_enter Tryz.func101,Tryz.ntmps101
 go_wp2
 go_region_held3 (fun w' =>w'.cell? ⟨W.heap.size,0,none⟩=some (.int .i64 a.c1)∧w'.cell? ⟨W.heap.size,1,none⟩=some (.int .i64 a.r1)∧w'.cell? ⟨W.heap.size,2,none⟩=some (.int .i64 a.c2)∧w'.cell? ⟨W.heap.size,3,none⟩=some (.int .i64 a.r2)∧w'.cell? ⟨W.heap.size+1,0,none⟩=some (.int .i64 b.c1)∧w'.cell? ⟨W.heap.size+1,1,none⟩=some (.int .i64 b.r1)∧w'.cell? ⟨W.heap.size+1,2,none⟩=some (.int .i64 b.c2)∧w'.cell? ⟨W.heap.size+1,3,none⟩=some (.int .i64 b.r2)) (go_keep)
  (first|(go_at_call 103;refine (Tryz.cmpX _ _ _).mono ?_;rintro e w' ⟨rfl,rfl⟩)|(go_at_call 102;refine (hor _ _ _).mono ?_;rintro e w' ⟨rfl,rfl⟩))
 all_goals
  go_wp2
 all_goals
  go_ret
  exact ⟨rfl,by first|exact (((((Lays.refl W).alloc _).alloc _).alloc _)).drew|trace_state⟩
end Go.Proofs
namespace Go.Proofs
open Go Go.Shelf Go.RowKit Go.Lib Go.Sort Go.SL
theorem wJ (a b:Int):lh a b<0↔a<b:=by unfold lh;split<;>(try split)<;>omega
theorem CL (a b:Int):lh a b≠0↔a≠b:=by unfold lh;split<;>(try split)<;>omega
theorem nG (x y:Rct):ltOf cK x y=decide (x.r1<y.r1∨x.r1=y.r1∧(x.c1<y.c1∨x.c1=y.c1∧(x.r2<y.r2∨x.r2=y.r2∧x.c2<y.c2))):=by
 unfold ltOf cK orI
 rw [Uy]
 simp only [decide_eq_true_eq]
 have c1:=wJ x.r1 y.r1
 have c2:=wJ x.c1 y.c1
 have c3:=wJ x.r2 y.r2
 have c4:=wJ x.c2 y.c2
 have d1:=CL x.r1 y.r1
 have d2:=CL x.c1 y.c1
 have d3:=CL x.r2 y.r2
 repeat' split
 all_goals omega
theorem xu:SWO (ltOf cK):={
 irrefl x:=by rw [nG];simp
 trans x y z h1 h2:=by rw [nG] at*;simp only [decide_eq_true_eq] at*;omega
 ntrans x y z h1 h2:=by rw [nG] at*;simp only [decide_eq_false_iff_not] at*;omega }
theorem ME (x y:Rct) (h1:ltOf cK x y=false) (h2:ltOf cK y x=false):x=y:=by
 rw [nG] at h1 h2
 obtain ⟨a,b,c,d⟩:=x
 obtain ⟨e,f,g,h⟩:=y
 simp only [decide_eq_false_iff_not] at h1 h2
 simp
 omega
instance:Inhabited Rct:=⟨⟨0,0,0,0⟩⟩
theorem Tryz.sortRc_calls (blk off cap:Nat) (d:Array Rct) (w:World) (hH:HoldsK aN 4 w blk off d) (hblk:blk<w.heap.size) (hsz:d.size<4611686018427387904):
  Calls Tryz.prog 100 #[.slice (some ⟨blk,off,none⟩) d.size cap,.func (.func 101) #[] #[]] w fun e w' =>
   e= .returned (.tuple #[])∧ ∃ n os,w' =sortWorldK aN 4 w blk off n (d.toList.mergeSort fun x y=> !(ltOf cK) y x).toArray os:=by
 have eg: ∀ args w,(callFunc 101 args).run Tryz.prog w= .ok (.enter 101 args) w:=enters_of Tryz.func101 (by kernel_rfl) rfl
 exact AnyQ.slices_SortFunc_total Tryz.sortRc 4 (fun w=>by have h:=Tryz.underlying33;show (isAgg 33).run _ w=_;simp [isAgg,run_underlying h]) (fun w=>by obtain ⟨i,h1,h2⟩:=(inferInstance:Size Tryz.prog 33 4).out;show (Go.sizeOf 33).run _ w=_;simp [Go.sizeOf,typeInfo,h1,h2]) aN (fun _=>rfl) (fun x v hv=>by simp [aN] at hv;rcases hv with rfl|rfl|rfl|rfl<;>rfl) cK xu 101 #[] blk off cap d w eg (fun _ _ _ _ x y=>Tryz.leavesX x y _) hH hblk hsz ME
end Go.Proofs
namespace Go.SL
open Go Go.Proofs Go.Sort Go.Shelf
section
variable {α:Type} [Inhabited α] {enc:α→List Value} {k:Nat}
theorem AV (hk: ∀ x,(enc x).length=k) (h0:0<k) (L:List α) (j:Nat) (h:j<L.length*k):(L.flatMap enc)[j]? =some ((flatK enc k L.toArray)[j]!):=by
 rw [get_flatK _ _ _ _ (by simpa using h)]
 have h1:j / k<L.length:=Nat.div_lt_of_lt_mul (by rw [Nat.mul_comm];exact h)
 have h2:j % k<k:=WU _ h0
 have h3:=kG hk L (j / k) (j % k) h1 h2
 rw [show j / k*k+j % k=j by rw [Nat.mul_comm];exact Nat.div_add_mod j k] at h3
 rw [h3]
 have h4:L.toArray[j / k]! =L[j / k]:=by simp [h1]
 rw [h4,TJ (by rw [hk];exact h2)]
 congr 1
 rw [getElem!_pos _ _ (by rw [hk];exact h2)]
theorem DT (w:World) (g n:Nat) (d:Array α) (os:Array Obj):w.grownBy (sortWorldK enc k w g 0 n d os) (some g):={
 os:=rfl
 tape:=rfl
 output:=rfl
 size:=by
  show w.heap.size≤((w.heap.modify g _)++os).size
  rw [WF,Vx]
  omega
 block k hk hne:=by
  show ((w.heap.modify g _)++os)[k]? =_
  rw [UO (by rw [Vx];exact hk),Vk,if_neg (fun e=>hne (by rw [e]))] }
theorem GP (w:World) (g n:Nat) (d:Array α) (os:Array Obj) (c:Array Value) (T:TypeId) (fr:Nat × Nat) (h:w.heap[g]? =some (.cells c T fr)):
  (sortWorldK enc k w g 0 n d os).heap[g]? =some (.cells (putCells id 0 (flatK enc k d) c) T fr):=by
 have hlt:g<w.heap.size:=(Um.1 h).1
 show ((w.heap.modify g _)++os)[g]? =_
 rw [UO (by rw [Vx];exact hlt),Vk,if_pos rfl,h]
 rfl
theorem HJ (hk: ∀ x,(enc x).length=k) (h0:0<k) (L:List α) (xs junk:List Value) (hl:xs.length=L.length*k):putCells id 0 (flatK enc k L.toArray) (xs++junk).toArray=(L.flatMap enc++junk).toArray:=by
 have hfl:(L.flatMap enc).length=L.length*k:=aR hk L
 apply Wx
 intro j
 simp only [putCells,WS,UD,size_flatK,Vc,TW,true_and,Uc,U9]
 by_cases hj:j<L.length*k
 ·
  rw [Uh (by omega),Uh (by omega),AV hk h0 L j hj,TJ (by omega)]
  simp [hj]
 ·
  rw [Uj (by omega),Uj (by omega),hl,hfl]
  simp [hj]
theorem MJ {F fid T:Nat} {P:Program} (srt:List α→List α) (hk: ∀ x,(enc x).length=k) (h0:0<k) (hlen: ∀ L,(srt L).length=L.length)
  (hs: ∀ (blk off cap:Nat) (d:Array α) (w:World),HoldsK enc k w blk off d→blk<w.heap.size→d.size<4611686018427387904→Calls P F #[.slice (some ⟨blk,off,none⟩) d.size cap,.func (.func fid) #[] #[]] w fun e w' =>e= .returned (.tuple #[])∧ ∃ n os,w' =sortWorldK enc k w blk off n (srt d.toList).toArray os)
  (hn: ∀ (p:Option Addr) (cap:Nat) (fv:Value) (w:World),Calls P F #[.slice p 0 cap,fv] w fun e w' =>e= .returned (.tuple #[])∧w' =w)
  (L:List α) (A:Option Nat) (cap:Nat) (hL:L.length≤1000000) (R:List Blk) (w0:World):
  FnIn P F [sl A L.length cap,.func (.func fid) #[] #[]] w0 (.own A T k L.length cap (L.flatMap enc)::R) fun v H=>v= .tuple #[]∧H= .own A T k L.length cap ((srt L).flatMap enc)::R:=by
 cases A with
 |none=>
  intro w hm
  obtain ⟨⟨h1,h2,h3,h4⟩,_⟩:=hm.on _ TI
  obtain ⟨h5,h6⟩:=h4
  have hnil:L= []:=UW.1 h5
  subst hnil
  subst h6
  have he:srt []= []:=UW.1 (hlen [])
  refine Calls.mono (hn none 0 _ w) ?_
  rintro e w' ⟨rfl,rfl⟩
  exact ⟨_,_,rfl,hm,rfl,by rw [he]⟩
 |some g=>
  intro w hm
  obtain ⟨⟨h1,h2,h3,junk,h4,h5⟩,hkk⟩:=hm.on _ TI
  have hlt:g<w.heap.size:=(Um.1 h5).1
  have hH:HoldsK enc k w g 0 L.toArray:=by
   intro j hj
   simp only [size_flatK,Vc] at hj
   have hc:(L.flatMap enc++junk).toArray[j]? =some (flatK enc k L.toArray)[j]! :=by
    rw [UD,Uh (by omega),AV hk h0 L j hj]
   constructor
   ·
    simp only [World.cell?,Uc,h5]
    exact hc
   ·
    simp [World.frozen?,h5]
  have hs:=hs g 0 cap L.toArray w hH hlt (by simp;omega)
  have hsz:L.toArray.size=L.length:=by simp
  rw [hsz] at hs
  refine hs.mono ?_
  rintro e w' ⟨rfl,n,os,rfl⟩
  have hl:=hlen L
  refine ⟨_,_,rfl,hm.upd (DT _ _ _ _ _) (b' := .own (some g) T k L.length cap ((srt L).flatMap enc)) ?_ fun k hk=> .inl hk,rfl,rfl⟩
  have hfl:((srt L).flatMap enc).length=L.length*k:=by rw [aR hk,hl]
  refine ⟨hfl,h2,h3,junk,by rw [TG,hfl,← h1,← TG];exact h4,?_⟩
  rw [GP _ _ _ _ _ _ _ _ h5,HJ hk h0 (srt L) _ _ (by rw [hl];exact h1)]
end
theorem vV (p:Option Addr) (cap:Nat) (fv:Value) (w:World):Calls Tryz.prog 100 #[.slice p 0 cap,fv] w fun e w' =>e= .returned (.tuple #[])∧w' =w:=AnyF.slices_SortFunc_none Tryz.sortRc p cap fv w
theorem BM (L:List Rct) (A:Option Nat) (cap:Nat) (hL:L.length≤1000000) (R:List Blk) (w0:World):
  FnIn Tryz.prog 100 [sl A L.length cap,.func (.func 101) #[] #[]] w0 (.own A 33 4 L.length cap (L.flatMap aN)::R) fun v H=>v= .tuple #[]∧H= .own A 33 4 L.length cap ((sortRc L).flatMap aN)::R:=
 MJ (enc:=aN) (k:=4) sortRc (fun _=>rfl) (by decide) (fun L=>by simp [sortRc]) (fun blk off cap d w h1 h2 h3=>by
  have h:=Tryz.sortRc_calls blk off cap d w h1 h2 h3
  have heq:(d.toList.mergeSort fun x y=> !(ltOf cK) y x)=sortRc d.toList:=rfl
  rw [heq] at h
  exact h) vV L A cap hL R w0
end Go.SL
namespace Go.SL
open Go Go.Proofs
attribute [local irreducible] W WL WQ WG WA WX WLI WR WT WC WE VOp RW thn blk bF scp ba aZ bC FnAt FnIn FnP ceP
def l5 (at_:List Rf) (l:List Rct):Int:=if at_.all (fun a=>a.valid) && l.all aH then 0 else 3
theorem rectE_zero (r:Rct):dY r=0↔aH r=true:=by
 have:=xM (r:=r)
 cases h:aH r
 ·
  rw [h] at this
  simp only [iff_true,Ur,iff_false] at this ⊢
  exact this
 ·
  rw [h] at this
  simpa using this
set_option maxHeartbeats 1000000 in
theorem LH (g:Nat) (A:List Rf) (L:List Rct) (av lv:Value) (w:World) (ha:Reads w av A.length (A.flatMap aC)) (hl:Reads w lv L.length (L.flatMap aN)) (hA:A.length≤1000000) (hL:L.length≤1000000):
  aD Tryz.prog 98 [.pointer (some ⟨g,0,none⟩),av,lv] w (.int .i64 (l5 A L)):=by
 obtain ⟨Aa,ca,rfl,ha1,ha2,ha3⟩:=ha
 obtain ⟨Al,cl,rfl,hl1,hl2,hl3⟩:=hl
 refine ax Tryz.func98 rfl Tryz.ntmps98 rfl ?_
 repeat' (first|refine sT ?_|refine sS ?_|refine sM fun _=> ?_|(refine sC ?_ ?_<;>intro hb<;>try omega)|fail)
 refine ay [2,13,14] rfl (fun i:Nat=> [(15,.int .i64 (i:Int))]) (fun _=> []) (fun i=>i≤A.length∧A.all (fun a=>a.valid)=(A.drop i).all (fun a=>a.valid)) (fun i=>A.length - i) 0 ⟨TW _,rfl⟩ sB (MSub.refl _) ?_
 rintro i ⟨hi,hrec⟩
 by_cases hlt:i<A.length
 ·
  obtain ⟨gl,ol,rfl,hrl⟩:=ha3 (by omega)
  have he:=hrl.elem fj i hlt
  rw [TN hlt,VA] at hrec
  generalize A[i]=a at he hrec
  have hV: ∀ w',aD Tryz.prog 64 [.agg (aC a).toArray] w' (.bool a.valid):=fun w' =>iJ a.col a.row w'
  generalize a.valid=b at hV hrec
  repeat' (first|(apply ak;exact rfl;apply aj (j:=i);exact rfl;exact rfl;exact hlt)|(apply ak;exact rfl;apply aP;exact rfl;exact he;exact rfl)|(apply aa;exact rfl;exact rfl;(intro w hm;exact hV w))|refine sT ?_|refine sS ?_|refine sN ?_|refine sM fun _=> ?_|(refine sC ?_ ?_<;>intro hb<;>try omega)|fail)
  all_goals first
   |(exfalso;omega)
   |(refine cA eIO rfl rfl (.nil _) ?_;rw [l5,hrec];simp_all;done)
   |(refine ⟨i+1,⟨hlt,?_⟩,by omega,by exact sB,by exact sB,MSub.nil _⟩;simp_all;done)
 ·
  rw [List.drop_eq_nil_of_le (show A.length≤i by omega)] at hrec
  repeat' (first|refine sT ?_|refine sS ?_|refine sN ?_|refine sM fun _=> ?_|(refine sC ?_ ?_<;>intro hb<;>try omega)|fail)
  all_goals try (exfalso;omega)
  refine ay [23,24] rfl (fun i:Nat=> [(25,.int .i64 (i:Int))]) (fun _=> []) (fun i=>i≤L.length∧L.all aH=(L.drop i).all aH) (fun i=>L.length - i) 0 ⟨TW _,rfl⟩ sB (MSub.nil _) ?_
  rintro i ⟨hi,hrec2⟩
  by_cases hlt:i<L.length
  ·
   obtain ⟨gl,ol,rfl,hrl⟩:=hl3 (by omega)
   have he:=hrl.elem FA i hlt
   rw [TN hlt,VA] at hrec2
   generalize L[i]=r at he hrec2
   have hV:=fun w' =>ko r w'
   have hz:=rectE_zero r
   generalize dY r=re at hV hz
   generalize aH r=b at hz hrec2
   repeat' (first|(apply ak;exact rfl;apply aj (j:=i);exact rfl;exact rfl;exact hlt)|(apply ak;exact rfl;apply aP;exact rfl;exact he;exact rfl)|(apply aa;exact rfl;exact rfl;(intro w hm;exact hV w))|refine sT ?_|refine sS ?_|refine sN ?_|refine sM fun _=> ?_|(refine sC ?_ ?_<;>intro hb<;>try omega)|fail)
   all_goals first
    |(exfalso;omega)
    |(refine cA eIO rfl rfl (.nil _) ?_;rw [l5,hrec,hrec2];simp_all;done)
    |(refine ⟨i+1,⟨hlt,?_⟩,by omega,by exact sB,by exact sB,MSub.nil _⟩;simp_all;done)
  ·
   rw [List.drop_eq_nil_of_le (show L.length≤i by omega)] at hrec2
   repeat' (first|refine sT ?_|refine sS ?_|refine sN ?_|refine sM fun _=> ?_|(refine sC ?_ ?_<;>intro hb<;>try omega)|fail)
   all_goals first
    |(exfalso;omega)
    |(refine cA eIO rfl rfl (.nil _) ?_;rw [l5,hrec,hrec2];rfl)
end Go.SL
namespace Go.SL
open Go
inductive Rc (G:Gr):Rf→Rct→Prop
 |use {c:Rf} {r:Rct} (hc:c∈aq G) (h:cM (aK G c) r=true):Rc G c r
 |via {c d:Rf} {r:Rct} (hc:c∈aq G) (hd:d∈aq G) (h:cM (aK G c) (fR d.col d.row)=true) (k:Rc G d r):Rc G c r
theorem Rc.trans {G:Gr} {c d:Rf} {r:Rct} (h:Rc G c (fR d.col d.row)) (hd:d∈aq G) (k:Rc G d r):Rc G c r:=by
 generalize hq:fR d.col d.row=q at h
 induction h with
 |use hc h=>subst hq;exact .via hc hd h k
 |via hc he h _ ih=>exact .via hc he h (ih hq)
theorem Rc.last {G:Gr} {c:Rf} {r:Rct} (h:Rc G c r):cM (aK G c) r=true∨ ∃ d∈aq G,Rc G c (fR d.col d.row)∧cM (aK G d) r=true:=by
 induction h with
 |use hc h=>exact .inl h
 | @via c d r hc hd h k ih=>
  right
  rcases ih with h1|⟨e,he,h1,h2⟩
  ·
   exact ⟨d,hd,.use hc h,h1⟩
  ·
   exact ⟨e,he,.via hc hd h h1,h2⟩
open Classical in
noncomputable def n8 (G:Gr) (c:Rf):List Rf:=(aq G).filter fun d=>decide (Rc G c (fR d.col d.row))
open Classical in
theorem kE {G:Gr} {c d:Rf}:d∈n8 G c↔d∈aq G∧Rc G c (fR d.col d.row):=by
 unfold n8
 rw [Vb,decide_eq_true_eq]
end Go.SL
namespace Go.SL
open Go Go.Proofs
def setFrom (S:List Rf) (j:Nat):List (Rf × Value × Nat):=(S.zipIdx j).map fun x=>(x.1,.bool true,x.2)
def setM (S:List Rf):List (Rf × Value × Nat):=setFrom S 0
theorem setFrom_cons (a:Rf) (S:List Rf) (j:Nat):setFrom (a::S) j=(a,.bool true,j)::setFrom S (j+1):=by simp [setFrom,Wn]
theorem setFrom_app (a:Rf): ∀ (S:List Rf) (j:Nat),setFrom (S++ [a]) j=setFrom S j++ [(a,.bool true,j+S.length)]
 | [],j=>rfl
 |b::S,j=>by
  rw [TK,setFrom_cons,setFrom_cons,setFrom_app a S (j+1),TK,TZ,show j+1+S.length=j+(S.length+1) by omega]
theorem look_from (a:Rf): ∀ (S:List Rf) (j i:Nat),(match bJ a (setFrom S j) i with|some (_,v)=>v|none=>Value.bool false)= .bool (decide (a∈S))
 | [],_,_=>rfl
 |b::S,j,i=>by
  rw [setFrom_cons,bJ]
  by_cases h:a=b
  ·
   rw [if_pos h]
   simp [h]
  ·
   rw [if_neg h,look_from a S (j+1) (i+1)]
   simp [h]
theorem look_set (S:List Rf) (a:Rf):(match bJ a (setM S) 0 with|some (_,v)=>v|none=>Value.bool false)= .bool (decide (a∈S)):=look_from a S 0 0
theorem kfind_none_from (a:Rf): ∀ (S:List Rf) (j i:Nat),a∉S→bJ a (setFrom S j) i=none
 | [],_,_,_=>rfl
 |b::S,j,i,h=>by
  rw [setFrom_cons,bJ,if_neg (fun e=>h (by rw [e];exact TI))]
  exact kfind_none_from a S _ _ (fun hs=>h (TM _ hs))
theorem put_set {S:List Rf} {a:Rf} (h:a∉S):iA a (.bool true) S.length (setM S)=(setM (S++ [a]),S.length+1):=by
 unfold iA setM
 rw [kfind_none_from a S 0 0 h,setFrom_app,Uc]
theorem su (S:List Rf): ∀ j,(setFrom S j).map (fun e=>e.1)=S:=by
 induction S with
 |nil=>intro j;rfl
 |cons a S ih=>intro j;rw [setFrom_cons,Ud,ih]
theorem nr: ∀ (S:List Rf) (j:Nat),(setFrom S j).map (fun e=>e.2.2)=(List.range S.length).map (fun k=>j+k)
 | [],j=>rfl
 |a::S,j=>by
  rw [setFrom_cons,Ud,nr S (j+1),TZ,List.range_succ_eq_map,Ud,VM]
  congr 1
  exact Vg fun k _=>by simp only [Function.comp];omega
theorem RG {S:List Rf} (h:S.Nodup):MapOk (setM S) S.length:=by
 refine ⟨?_,fun e he=> ?_,?_⟩
 ·
  unfold setM
  rw [nr,List.Nodup,Wz]
  exact (List.nodup_range (n:=S.length)).imp fun h e=>h (by omega)
 ·
  have:e.2.2∈(setM S).map fun e=>e.2.2:=Ul.2 ⟨e,he,rfl⟩
  unfold setM at this
  rw [nr] at this
  obtain ⟨k,hk,hke⟩:=Ul.1 this
  have:=List.mem_range.1 hk
  omega
 ·
  unfold setM
  rw [su];exact h
end Go.SL
namespace Go.SL
open Go Go.Proofs
attribute [local irreducible] W WL WQ WG WA WX WLI WR WT VOp RW thn blk bF scp ba aZ bC FnAt FnIn FnP
theorem Ad (S:List Rf):(setM S).map (fun e=>e.1)=S:=su S 0
theorem MO (S:List Rf):(setM S).length=S.length:=by
 have:=congrArg List.length (Ad S)
 simpa using this
end Go.SL
namespace Go.SL
open Go Go.Proofs
attribute [local irreducible] W WL WQ WG WA WX WLI WR WT WC WE VOp RW thn blk bF scp ba aZ bC FnAt FnIn FnP ceP
theorem kH (r:Rct):(aN r).length=4:=rfl
end Go.SL
namespace Go.SL
open Go
structure DnI (G:Gr) (c:Rf) (seen todo:List Rf):Prop where
 nodup:seen.Nodup
 sound: ∀ d∈seen,d∈aq G∧Rc G c (fR d.col d.row)
 from_: ∀ x∈todo,x=c∨x∈seen
 full: ∀ x,(x=c∨x∈seen)→x∈todo∨ ∀ u∈aK G x,∀ d∈aq G,cj u.rect d=true→d∈seen
theorem DnI.start (G:Gr) (c:Rf):DnI G c [] [c]:=⟨List.nodup_nil,(fun _ h=>by cases h),(fun x h=> .inl (TX.1 h)),fun x h=>by
 rcases h with rfl|h
 ·
  exact .inl TI
 ·
  cases h⟩
theorem DnI.add {G:Gr} (hG:GrOk G) {c:Rf} {seen todo:List Rf} {x d:Rf} {u:Us} (h:DnI G c seen (x::todo)) (hu:u∈aK G x) (hd:d∈aq G) (hh:cj u.rect d=true) (hn:d∉seen):
  DnI G c (seen++ [d]) (x::(todo++ [d])):=by
 have hx:x∈aq G:=by
  obtain ⟨e,he,h1,_⟩:=r9 hu
  exact gH.2 ⟨e,he,h1⟩
 have ht:cM (aK G x) (fR d.col d.row)=true:=VU.2 ⟨u,hu,by rw [oM hG hu hd];exact hh⟩
 refine ⟨Vu.2 ⟨h.nodup,by simp,fun a ha b hb e=>hn (by rw [← TX.1 hb,← e];exact ha)⟩,fun y hy=> ?_,fun y hy=> ?_,fun y hy=> ?_⟩
 ·
  rcases Ub.1 hy with hy|hy
  ·
   exact h.sound y hy
  ·
   rw [TX.1 hy]
   refine ⟨hd,?_⟩
   rcases h.from_ x TI with rfl|hs
   ·
    exact .use hx ht
   ·
    exact Rc.trans (h.sound x hs).2 hx (.use hx ht)
 ·
  rcases TS.1 hy with rfl|hy
  ·
   exact (h.from_ y TI).imp id (Uv _)
  ·
   rcases Ub.1 hy with hy|hy
   ·
    exact (h.from_ y (TM _ hy)).imp id (Uv _)
   ·
    exact .inr (UJ _ hy)
 ·
  have hold:(y=c∨y∈seen)→y∈x::(todo++ [d])∨ ∀ u∈aK G y,∀ e∈aq G,cj u.rect e=true→e∈seen++ [d]:=fun hy=>by
   rcases h.full y hy with h1|h1
   ·
    left
    rcases TS.1 h1 with rfl|h1
    ·
     exact TI
    ·
     exact TM _ (Uv _ h1)
   ·
    exact .inr fun u hu e he hh=>Uv _ (h1 u hu e he hh)
  rcases hy with hy|hy
  ·
   exact hold (.inl hy)
  ·
   rcases Ub.1 hy with hy|hy
   ·
    exact hold (.inr hy)
   ·
    exact .inl (TM _ (UJ _ hy))
theorem DnI.pop {G:Gr} {c:Rf} {seen todo:List Rf} {x:Rf} (h:DnI G c seen (x::todo)) (hall: ∀ u∈aK G x,∀ d∈aq G,cj u.rect d=true→d∈seen):DnI G c seen todo:=by
 refine ⟨h.nodup,h.sound,fun y hy=>h.from_ y (TM _ hy),fun y hy=> ?_⟩
 rcases h.full y hy with h1|h1
 ·
  rcases TS.1 h1 with rfl|h1
  ·
   exact .inr hall
  ·
   exact .inl h1
 ·
  exact .inr h1
theorem DnI.done {G:Gr} (hG:GrOk G) {c:Rf} {seen:List Rf} (h:DnI G c seen []) (d:Rf):d∈seen↔d∈n8 G c:=by
 rw [kE]
 refine ⟨h.sound d,fun ⟨hd,hr⟩=> ?_⟩
 have hstep: ∀ x e,(x=c∨x∈seen)→e∈aq G→cM (aK G x) (fR e.col e.row)=true→e∈seen:=fun x e hx he ht=>by
  obtain ⟨u,hu,h1⟩:=VU.1 ht
  rw [oM hG hu he] at h1
  rcases h.full x hx with h2|h2
  ·
   cases h2
  ·
   exact h2 u hu e he h1
 have hgo: ∀ x r,Rc G x r→(x=c∨x∈seen)→r=fR d.col d.row→d∈seen:=fun x r hx=>by
  induction hx with
  |use hc ht=>intro h1 h2;subst h2;exact hstep _ _ h1 hd ht
  |via hc he ht _ ih=>intro h1 h2;exact ih (.inr (hstep _ _ h1 he ht)) h2
 exact hgo c _ hr (.inl rfl) rfl
theorem DnI.len {G:Gr} (hG:SortG G) {c:Rf} {seen todo:List Rf} (h:DnI G c seen todo):seen.length≤G.length:=by
 have hp:seen.Perm ((aq G).filter fun a=>decide (a∈seen)):=kU h.nodup (hG.nodup.filter _) fun a=>by
  rw [Vb,decide_eq_true_eq]
  exact ⟨fun ha=>⟨(h.sound a ha).1,ha⟩,fun ha=>ha.2⟩
 have h1:=hp.length_eq
 have h2:=VC (fun a=>decide (a∈seen)) (aq G)
 have h3:(aq G).length=G.length:=by rw [aq,Uf]
 omega
end Go.SL
namespace Go.SL
open Go Go.Proofs
attribute [local irreducible] W WL WQ WG WA WX WLI WR WT WC WE VOp RW thn blk bF scp ba aZ bC FnAt FnIn FnP ceP
def dnB (cb:Nat) (Ac:Option Nat) (cc:Nat) (K:List Rf) (sb gm tb:Nat) (S:List Rf) (q:Qu):List Blk:=
 [.box cb 65 [sl Ac K.length cc],.own Ac 51 2 K.length cc (K.flatMap aC),.box sb 166 [.map (some gm)],.obj gm (aU aY (setM S) S.length),.box tb 65 [q.v],.own (some q.g) 51 2 q.n q.c q.ys]
set_option maxHeartbeats 4000000 in
theorem CS (cb:Nat) (Ac:Option Nat) (cc sb gm tb:Nat) (G:Gr) (hG:GrOk G) (hGl:G.length≤900) (c x:Rf) (u:Us) (hu:u∈aK G x) (S0:List Rf) (q0:Qu) (todo0:List Rf) (hI:DnI G c S0 (x::todo0)) (hq:q0.ok aC 2 todo0) (hqn:q0.n≤10000) (F:List Blk) (w0:World):
  FnIn Tryz.prog 147 [.agg (aN u.rect).toArray,.pointer (some ⟨cb,0,none⟩),.pointer (some ⟨sb,0,none⟩),.pointer (some ⟨tb,0,none⟩)] w0 (dnB cb Ac cc (aq G) sb gm tb S0 q0++F) fun v H=>v= .tuple #[]∧ ∃ S q todo,H=dnB cb Ac cc (aq G) sb gm tb S q++F∧q.ok aC 2 todo∧DnI G c S (x::todo)∧S.length+todo0.length=S0.length+todo.length∧q.n+S0.length≤q0.n+S.length∧(∀ d∈S0,d∈S)∧ ∀ d∈aq G,cj u.rect d=true→d∈S:=by
 have hKl:(aq G).length=G.length:=by rw [aq,Uf]
 have hKm: ∀ i (h:i<(aq G).length),(aq G)[i]∈aq G:=fun i h=>UA h
 have hKa: ∀ d∈aq G,∃ i,∃ h:i<(aq G).length,(aq G)[i]=d:=fun d hd=>UY hd
 have hadd:=fun (S todo:List Rf) (d:Rf) (h:DnI G c S (x::todo)) hd hh hn=>DnI.add hG (d:=d) h hu hd hh hn
 generalize hK:aq G=K at hKl hKm hKa hadd ⊢
 refine cF Tryz.func147 rfl Tryz.ntmps147 rfl ?_
 simp only [dnB,TT,TK,TL]
 repeat' (first|refine sT ?_|refine sS ?_|refine sM fun _=> ?_|(refine sC ?_ ?_<;>intro hb<;>try omega)|fail)
 rename_i g4
 refine ay [2,3,4,7,8] rfl (fun y:Nat × List Rf × Qu × List Rf=> [(9,.int .i64 (y.1:Int))]) (fun y=> .box g4 33 (aN u.rect)::(dnB cb Ac cc K sb gm tb y.2.1 y.2.2.1++F)) (fun y=>y.1≤K.length∧DnI G c y.2.1 (x::y.2.2.2)∧y.2.2.1.ok aC 2 y.2.2.2∧(∀ j (h:j<K.length),j<y.1→cj u.rect K[j]=true→K[j]∈y.2.1)∧y.2.1.length+todo0.length=S0.length+y.2.2.2.length∧y.2.2.1.n+S0.length≤q0.n+y.2.1.length∧ ∀ d∈S0,d∈y.2.1) (fun y=>K.length - y.1) (0,S0,q0,todo0) ⟨TW _,hI,hq,(fun j _ h=>absurd h (Wr _)),rfl,TQ _,fun _ h=>h⟩ sB (by simp only [dnB,TT,TK,TL];exact mS) ?_
 clear hI hq
 rintro ⟨i,S,q,todo⟩ ⟨hi,hI,hq,hin,hsum,hqs,hsub⟩
 dsimp only at hi hI hq hin hsum hqs hsub ⊢
 have hSl:=hI.len hG.sort
 by_cases hlt:i<K.length
 ·
  refine bK (A:=Ac) (by simp only [dnB,TT,TK,TL];exact pK) (by omega) fun gk hA=> ?_
  subst hA
  have hread:=xJ hlt
  have hd:=hKm i hlt
  have hstep: ∀ (S' :List Rf),(∀ x∈S,x∈S')→(cj u.rect K[i]=true→K[i]∈S')→ ∀ j (h:j<K.length),j<i+1→cj u.rect K[j]=true→K[j]∈S' :=fun S' h1 h2 j h3 h4 h5=>by
   by_cases e:j=i
   ·
    subst e;exact h2 h5
   ·
    exact h1 _ (hin j h3 (by omega) h5)
  generalize K[i]=a at hread hd hstep
  have hHas:=fun w=>IU u.rect a w
  have hlook:=look_set S a
  simp only [dnB,TT,TK,TL]
  cases hh:cj u.rect a with
  |false=>
   rw [hh] at hHas
   repeat' (first|(apply ak;exact rfl;apply aj (j:=i);exact rfl;exact rfl;exact hlt)|(apply ak;exact rfl;apply aA;exact rfl;exact pK;exact hread;exact rfl)|(apply aa (f:=59);exact rfl;exact rfl;(intro w' _;exact hHas w'))|refine sT ?_|refine sS ?_|refine sN ?_|refine sM fun _=> ?_|(refine sC ?_ ?_<;>intro hb<;>try omega)|fail)
   all_goals first
    |(exfalso;omega)
    |(refine ⟨(i+1,S,q,todo),⟨hlt,hI,hq,hstep S (fun _ h=>h) (fun h=>absurd (h.symm.trans hh) (by decide)),hsum,hqs,hsub⟩,(by dsimp only;omega),sB,sB,(by simp only [dnB,List.append_eq,List.cons_append,List.nil_append];exact mS)⟩)
    |trace_state
  |true=>
   rw [hh] at hHas
   by_cases haS:a∈S
   ·
    rw [decide_eq_true haS] at hlook
    repeat' (first|(apply ak;exact rfl;apply aj (j:=i);exact rfl;exact rfl;exact hlt)|(apply ak;exact rfl;apply aA;exact rfl;exact pK;exact hread;exact rfl)|(apply aa (f:=59);exact rfl;exact rfl;(intro w' _;exact hHas w'))|(apply ak;exact rfl;apply ep (enc:=aY) (k:=a);exact rfl;exact rfl;exact pK;exact hlook)|refine sT ?_|refine sS ?_|refine sN ?_|refine sM fun _=> ?_|(refine sC ?_ ?_<;>intro hb<;>try omega)|fail)
    all_goals first
     |(exfalso;omega)
     |(refine ⟨(i+1,S,q,todo),⟨hlt,hI,hq,hstep S (fun _ h=>h) (fun _=>haS),hsum,hqs,hsub⟩,(by dsimp only;omega),sB,sB,(by simp only [dnB,List.append_eq,List.cons_append,List.nil_append];exact mS)⟩)
     |trace_state
   ·
    rw [decide_eq_false haS] at hlook
    have hput:=put_set haS
    have hI2:=hadd S todo a hI hd hh haS
    obtain ⟨qg,qoff,qk,qn,qc,qys⟩:=q
    obtain ⟨hq1,hq2,hq3,hq4⟩:=hq
    dsimp only at hq1 hq2 hq3 hq4 hqs ⊢
    simp only [Qu.v]
    repeat' (first|(apply ak;exact rfl;apply aj (j:=i);exact rfl;exact rfl;exact hlt)|(apply ak;exact rfl;apply aA;exact rfl;exact pK;exact hread;exact rfl)|(apply aa (f:=59);exact rfl;exact rfl;(intro w' _;exact hHas w'))|(apply ak;exact rfl;apply ep (enc:=aY) (k:=a);exact rfl;exact rfl;exact pK;exact hlook)|(apply eU (enc:=aY) (k:=a);(iterate 3 exact rfl);exact pK;rw [hput])|(apply wT;exact rfl;exact rfl;exact hq1;exact hq2;exact rfl;exact pK;exact pK;exact rfl;(simp [Value.oneCell',aC]);omega;(simp only [maxLen];omega);intro g' off' k' n2 c2 ys hk2 hoff2 hlen2 hn2 hys2)|refine sT ?_|refine sS ?_|refine sN ?_|refine sM fun _=> ?_|(refine sC ?_ ?_<;>intro hb<;>try omega)|fail)
    all_goals first
     |(exfalso;omega)
     |(refine ⟨(i+1,S++ [a],⟨g',off',k',n2,c2,ys⟩,todo++ [a]),⟨hlt,hI2,⟨hk2,hoff2,(by rw [List.length_append];exact hlen2.trans (by rw [hq3];rfl)),(by rw [hys2,hq4,List.flatMap_append];rfl)⟩,hstep (S++ [a]) (fun _ h=>List.mem_append_left _ h) (fun _=>List.mem_append_right _ List.mem_cons_self),(by rw [List.length_append,List.length_append];simp only [List.length_cons,List.length_nil];omega),(by rw [List.length_append];simp only [List.length_cons,List.length_nil];omega),fun y hy=>List.mem_append_left _ (hsub y hy)⟩,(by dsimp only;omega),sB,sB,(by simp only [dnB,Qu.v,List.append_eq,List.cons_append,List.nil_append,List.length_append,List.length_cons,List.length_nil,Nat.zero_add];exact mS)⟩)
     |trace_state
 ·
  have hi2:i=K.length:=by omega
  subst hi2
  simp only [dnB,TT,TK,TL]
  repeat' (first|refine sT ?_|refine sS ?_|refine sN ?_|refine sM fun _=> ?_|(refine sC ?_ ?_<;>intro hb<;>try omega)|fail)
  all_goals first
   |(exfalso;omega)
   |(exact fL eIO rfl mS ⟨rfl,S,q,todo,rfl,hq,hI,hsum,hqs,hsub,fun d hd hh=>by obtain ⟨j,hj,rfl⟩:=hKa d hd;exact hin j hj hj hh⟩)
   |trace_state
set_option maxHeartbeats 4000000 in
theorem Oo (gg:Nat) (G:Gr) (hG:GrOk G) (hGl:G.length≤900) (c:Rf) (B F:List Blk) (hB:MSub B F) (w0:World)
  (hFm: ∀ H,MSub B H→FnIn Tryz.prog 34 [.pointer (some ⟨gg,0,none⟩)] w0 H fun v H' => ∃ A cap,v=sl A (aq G).length cap∧H' = .own A 51 2 (aq G).length cap ((aq G).flatMap aC)::H)
  (hUs: ∀ d H,MSub B H→FnIn Tryz.prog 42 [.pointer (some ⟨gg,0,none⟩),aY d] w0 H fun v H' => ∃ A cap,v=sl A (aK G d).length cap∧H' = .own A 100 6 (aK G d).length cap ((aK G d).flatMap cV)::H)
  (hUl: ∀ d,(aK G d).length≤1000):
  FnIn Tryz.prog 99 [.pointer (some ⟨gg,0,none⟩),aY c] w0 F fun v H' => ∃ gm S,v= .map (some gm)∧H' = .obj gm (aU aY (setM S) S.length)::F∧DnI G c S []:=by
 refine cF Tryz.func99 rfl Tryz.ntmps99 rfl ?_
 repeat' (first|(apply au (f:=34);exact rfl;exact rfl;exact hFm _ (MSub.trans hB mS);rintro _ _ ⟨Ac,cc,rfl,rfl⟩)|(apply fS (enc:=aY);exact rfl;intro gm)|refine sT ?_|refine sS ?_|refine sM fun _=> ?_|(refine sC ?_ ?_<;>intro hb<;>try omega)|fail)
 rename_i xb cb sb qg tb
 refine ay [0,6,7,8] rfl (fun _:List Rf × Qu × List Rf=> []) (fun y=>dnB cb Ac cc (aq G) sb gm tb y.1 y.2.1++F) (fun y=>DnI G c y.1 y.2.2∧y.2.1.ok aC 2 y.2.2∧y.2.1.n≤1+y.1.length) (fun y=>y.2.2.length+(G.length - y.1.length)) ([],⟨qg,0,0,1,1,aC c⟩,[c]) ⟨DnI.start G c,⟨TW _,fun _=>by rw [Wu],rfl,rfl⟩,TQ _⟩ sB (by simp only [dnB,Qu.v,TT,TK,TL];exact mS) ?_
 rintro ⟨S,q,todo⟩ ⟨hI,hq,hqn⟩
 dsimp only at hI hq hqn ⊢
 have hSl:=hI.len hG.sort
 have hql:=hq.len
 simp only [dnB,TT,TK,TL]
 cases todo with
 |nil=>
  rw [U2] at hql
  repeat' (first|refine sT ?_|refine sS ?_|refine sM fun _=> ?_|(refine sC ?_ ?_<;>intro hb<;>try omega)|fail)
  all_goals first
   |(exfalso;omega)
   |(exact cA eIO rfl rfl (H' := .obj gm (aU aY (setM S) S.length)::F) mS ⟨gm,S,rfl,rfl,hI⟩)
   |trace_state
 |cons x todo=>
  rw [TZ] at hql
  refine O1 (A:=some q.g) pK fun hle=> ?_
  have hhd:=hq.head rfl hle
  have hp:=hq.pop rfl hle
  have hU:=hUs x
  have hUx:=hUl x
  have hmem: ∀ i (h:i<(aK G x).length),(aK G x)[i]∈aK G x:=fun i h=>UA h
  have hall: ∀ u∈aK G x,∃ i,∃ h:i<(aK G x).length,(aK G x)[i]=u:=fun u hu=>UY hu
  have hlk:=fun u hu S0 q0 todo0 (h1:DnI G c S0 (x::todo0)) h2 h3 F=>CS cb Ac cc sb gm tb G hG hGl c x u hu S0 q0 todo0 h1 h2 h3 F w0
  have hpop:=fun S todo (h:DnI G c S (x::todo))=>h.pop
  generalize aK G x=U at hU hUx hmem hall hlk hpop
  repeat' (first|(apply ak;exact rfl;apply aj (j:=0);exact rfl;exact rfl;omega)|(apply ak;exact rfl;apply aA;exact rfl;exact pK;exact hhd;exact rfl)|(apply ak;exact rfl;apply Qy q;exact rfl;omega;exact hle)|(apply au (f:=42);exact rfl;exact rfl;exact hU _ (MSub.trans hB mS);rintro _ _ ⟨Au,cu,rfl,rfl⟩)|refine sT ?_|refine sS ?_|refine sM fun _=> ?_|(refine sC ?_ ?_<;>intro hb<;>try omega)|fail)
  refine ay [0,6,7,8,28,29] rfl (fun y:Nat × List Rf × Qu × List Rf=> [(30,.int .i64 (y.1:Int))]) (fun y=> .own Au 100 6 U.length cu (U.flatMap cV)::(dnB cb Ac cc (aq G) sb gm tb y.2.1 y.2.2.1++F)) (fun y=>y.1≤U.length∧DnI G c y.2.1 (x::y.2.2.2)∧y.2.2.1.ok aC 2 y.2.2.2∧(∀ j (h:j<U.length),j<y.1→ ∀ d∈aq G,cj U[j].rect d=true→d∈y.2.1)∧y.2.1.length+todo.length=S.length+y.2.2.2.length∧y.2.2.1.n+S.length≤q.n+y.2.1.length) (fun y=>U.length - y.1) (0,S,q.pop 2,todo) ⟨TW _,hI,hp,(fun j _ h=>absurd h (Wr _)),rfl,TQ _⟩ sB (by simp only [dnB,TT,TK,TL];exact mS) ?_
  rintro ⟨i,S',q',todo'⟩ ⟨hi,hI',hq',hin,hsum,hqs⟩
  dsimp only at hi hI' hq' hin hsum hqs ⊢
  have hSl' :=hI'.len hG.sort
  by_cases hlt:i<U.length
  ·
   refine bK (A:=Au) .hd (by omega) fun gk hA=> ?_
   subst hA
   have hread:=Aq hlt
   have hum:=hmem i hlt
   have hstep: ∀ (S2:List Rf),(∀ y∈S',y∈S2)→(∀ d∈aq G,cj U[i].rect d=true→d∈S2)→ ∀ j (h:j<U.length),j<i+1→ ∀ d∈aq G,cj U[j].rect d=true→d∈S2:=fun S2 h1 h2 j h3 h4 d h5 h6=>by
    by_cases e:j=i
    ·
     subst e;exact h2 d h5 h6
    ·
     exact h1 _ (hin j h3 (by omega) d h5 h6)
   generalize U[i]=u at hread hum hstep
   have hlook:=hlk u hum S' q' todo' hI' hq' (by omega)
   simp only [dnB,TT,TK,TL] at hlook ⊢
   repeat' (first|(apply ak;exact rfl;apply aj (j:=i);exact rfl;exact rfl;exact hlt)|(apply ak;exact rfl;apply aA;exact rfl;exact pK;exact hread;exact rfl)|(apply ma;exact rfl;exact rfl;infer_instance;exact rfl;exact FnIn.msub (hlook (.own (some gk) 100 6 U.length cu (U.flatMap cV)::F)) mS;rintro _ _ ⟨rfl,S2,q2,todo2,rfl,hq2,hI2,hsum2,hqs2,hsub2,hall2⟩)|refine sT ?_|refine sS ?_|refine sN ?_|refine sM fun _=> ?_|(refine sC ?_ ?_<;>intro hb<;>try omega)|fail)
   all_goals first
    |(exfalso;omega)
    |(refine ⟨(i+1,S2,q2,todo2),⟨hlt,hI2,hq2,hstep S2 hsub2 hall2,(by dsimp only;omega),(by dsimp only;omega)⟩,(by dsimp only;omega),sB,sB,(by simp only [dnB,List.append_eq,List.cons_append,List.nil_append];exact mS)⟩)
    |trace_state
  ·
   have hi2:i=U.length:=by omega
   subst hi2
   have hI3:=hpop S' todo' hI' fun u hu d hd hh=>by
    obtain ⟨j,hj,rfl⟩:=hall u hu
    exact hin j hj hj d hd hh
   simp only [dnB,TT,TK,TL]
   repeat' (first|refine sT ?_|refine sS ?_|refine sN ?_|refine sM fun _=> ?_|(refine sC ?_ ?_<;>intro hb<;>try omega)|fail)
   all_goals first
    |(exfalso;omega)
    |(refine ⟨(S',q',todo'),⟨hI3,hq',(by dsimp only;omega)⟩,(by dsimp only;rw [List.length_cons];omega),sB,sB,(by simp only [dnB,List.append_eq,List.cons_append,List.nil_append];exact mS)⟩)
    |trace_state
end Go.SL

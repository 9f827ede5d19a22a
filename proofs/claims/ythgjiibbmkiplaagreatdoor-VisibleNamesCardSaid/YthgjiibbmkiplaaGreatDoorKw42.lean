/-
  Lemmas and walks, put together: Sl7 Sl41 Ty W9 S6 Pl Rb Re.
-/
import Derived.Test.YthgjiibbmkiplaaGreatDoorKw41
set_option linter.unusedSimpArgs false
set_option linter.unusedVariables false
set_option maxRecDepth 20000
set_option maxHeartbeats 16000000
namespace Go.SL
open Go Go.RowKit
section
variable {P:Program} {n:Fr} {w0:World} {Q:bK} {s:az} {H:List Blk} {l rest:List Oper} {ty:TypeId} {p:String} {af:Array Edge} {f:Nat} {L:Array Bool}
theorem Ci {d t e sz by_ c:Nat} {x y:Operand} {kx ky:IntKind} {zs:List Value} {ops:Array Oper} [ht:Und P t (.slice e)] [he:Elem P e sz by_] [hz:ZeroC P e zs] (hn:Nat.blt d n.sz=true) (hx:ev s x=some (.int kx (c:Nat))) (hy:ev s y=some (.int ky (c:Nat))) (hb:by_*c≤281474976710656) (hc:c≤maxLen)
 (k: ∀ g,WL P n w0 ops rest Q ((d,.slice (some ⟨g,0,none⟩) c c)::s) (.own (some g) e sz c c ((List.range (c*sz)).map fun i=>zs[i % zs.length]!)::H)):
 WL P n w0 ops (⟨some d,.makeSlice t x y,ty,p,af,none⟩::rest) Q s H:=by
 refine oq (B:=fun g=> .own (some g) e sz c c ((List.range (c*sz)).map fun i=>zs[i % zs.length]!)) (v:=fun g=> .slice (some ⟨g,0,none⟩) c c) hn (fun a w hs hm=> ?_) k;obtain ⟨i,z,h1,h2,h3,h4,h5,h6⟩:=he.out;obtain ⟨i',z',j1,j2,j3⟩:=hz.out;rw [h1] at j1;injection j1 with j1;subst j1;rw [h4] at j2;injection j2 with j2;subst j2;have hmx:c≤9223372036854775807:=by simp only [maxLen] at hc;omega
 have hb' :(i.bytes:Int)*(c:Int)≤281474976710656:=by
  rw [h3];have h:((by_*c:Nat):Int)≤281474976710656:=by omega
  rwa [aam] at h
 have hr:=run_make (P:=P) w t e i z ht.out h1 h4 kx ky c c (by omega) (Zb _) hb' (by omega);simp only [Zh] at hr;have hmade:madeCells z.cells (c*i.size)=((List.range (c*sz)).map fun i=>zs[i % zs.length]!).toArray:=by
  rw [j3,h2];apply Array.ext';simp [madeCells]
 rw [hmade] at hr;refine ⟨_,?_,World.grownBy_alloc w _ none,Blk.own_of (heap_alloc_new w _) (by simp) rfl hc,rfl⟩;simp [execOp,hs.eval x _ hx,hs.eval y _ hy,hr]
end
section
variable {P:Program} {n:Fr} {w0:World} {Q:bK} {s:az} {H:List Blk} {l rest:List Oper} {ty:TypeId} {p:String} {af:Array Edge}
theorem LO (z:Value) (mm o k:Nat) (h:o+k≤mm) (junk:List Value):(List.replicate mm z++junk).take o++List.replicate k z++(List.replicate mm z++junk).drop (o+k)=List.replicate mm z++junk:=by
 rw [YP (by rw [ZW];omega),ZD (by rw [ZW];exact h),List.take_replicate,List.drop_replicate,YO (by omega),← XE,List.replicate_append_replicate,List.replicate_append_replicate];congr 2;omega
theorem Ed {d t e m m2 mm c c1 c2 by_ g g2 o o2 k:Nat} {x y:Operand} {z:Value} {R:List Blk} {ops:Array Oper} [ht:Und P t (.slice e)] [he:Elem P e 1 by_] (hn:Nat.blt d n.sz=true)
 (hx:ev s x=some (.slice (some ⟨g,o,none⟩) m c1)) (hy:ev s y=some (.slice (some ⟨g2,o2,none⟩) m2 c2)) (hsel:Sel (.own (some g) e 1 mm c (List.replicate mm z)) H R) (hk:Nat.min m2 m=k) (hfit:o+k≤mm)
 (hr: ∀ w,Mem w0 w H→Cells w g2 o2 (List.replicate k z)) (h1:z.oneCell' =true)
 (kk:WL P n w0 ops rest Q ((d,.int .i64 (k:Int))::s) (.own (some g) e 1 mm c (List.replicate mm z)::R)):
 WL P n w0 ops (⟨some d,.call { callee:= .builtin .copy,args:= #[x,y],argTypes:= #[t,t] },ty,p,af,none⟩::rest) Q s H:=by
 intro a w hs hm;have hrw:=hr w hm;have hm' :=hm.sel hsel;obtain ⟨i,z',i1,i2,i3,i4,i5,i6⟩:=he.out;obtain ⟨b1,b2,b3,junk,b4,b5⟩:=(hm'.on _ Xb).1;have hfc:=run_firstCells_some (P:=P) (w:=w) i.size k ⟨g2,o2,none⟩ m2 c2 (List.replicate k z) (by rw [i2,ZW,YT]) (fun j v hv=>by rw [cH];exact hrw j v hv);have hst:=run_storeCells_at P g o e (List.replicate k z) 0 _ w b5 (by simp;omega) (fun u hu=>by rw [List.eq_of_mem_replicate hu];exact h1);have he' :=LO z mm o k hfit junk;simp only [ZP,ZW] at hst;simp only [he'] at hst;have hrun:(Builtin.copy_ #[t,t] ty #[.slice (some ⟨g,o,none⟩) m c1,.slice (some ⟨g2,o2,none⟩) m2 c2]).run P w= .ok (goInt k) (w.setRow g (List.replicate mm z++junk).toArray):=by
  simp [Builtin.copy_,run_underlying ht.out,Builtin.lenOf,sizeOf,typeInfo,i1,hk,hfc,hst]
 refine wpList_plain rfl fun K hK=> ?_;unfold Oper.wp execOp;simp only [resolve,invoke,builtin,Sem.run_bind,Sem.run_pure,Result.andThen_ok,Y0,XD,XR,hs.eval x _ hx,hs.eval y _ hy,hrun,Oper.upon];exact hK _ _ (kk _ _ (hs.put (Yg ▸ hn) _) (hm'.upd (dP _ _ _) (b' := .own (some g) e 1 mm c (List.replicate mm z)) ⟨b1,b2,b3,junk,b4,setRow_heap _ _ _ _ _ _ b5⟩ fun k hk=> .inl hk))
theorem Ug {t e lo m c:Nat} {g:Nat} {x q:Operand} {kq:IntKind} [ht:Und P t (.slice e)] [hz:Size P e 1] (hx:ev s x=some (.slice (some ⟨g,0,none⟩) m c)) (hq:ev s q=some (.int kq (lo:Nat))) (h1:lo≤m) (h2:m≤c) (h3:lo<c):
 VOp P w0 s H (.slice t x (some q) none none) ty (.slice (some ⟨g,lo,none⟩) (m - lo) (c - lo)):=by
 have h:=iR (P:=P) (w0:=w0) (H:=H) (ty:=ty) (t:=t) (xl:=some q) (xh:=none) (lo:=lo) (hi:=m) hx ⟨kq,hq⟩ rfl h1 h2;have e:(if c=lo then some (⟨g,0,none⟩:Addr) else (some (⟨g,0,none⟩:Addr)).map (·.add (lo*1)))=some ⟨g,lo,none⟩:=by
  rw [if_neg (by omega),Ys,cH,YT,Xv]
 rwa [e] at h
theorem Q3 {t e hi m c:Nat} {g:Nat} {x q:Operand} {kq:IntKind} [ht:Und P t (.slice e)] [hz:Size P e 1] (hx:ev s x=some (.slice (some ⟨g,0,none⟩) m c)) (hq:ev s q=some (.int kq (hi:Nat))) (h2:hi≤c):
 VOp P w0 s H (.slice t x none (some q) none) ty (.slice (some ⟨g,0,none⟩) hi c):=by
 have h:=iR (P:=P) (w0:=w0) (H:=H) (ty:=ty) (t:=t) (xl:=none) (xh:=some q) (lo:=0) (hi:=hi) hx rfl ⟨kq,hq⟩ (Xn _) h2;have e:(if c=0 then some (⟨g,0,none⟩:Addr) else (some (⟨g,0,none⟩:Addr)).map (·.add (0*1)))=some ⟨g,0,none⟩:=by
  split
  ·rfl
  ·rw [Ys,cH]
 rwa [e,YC,YC] at h
end
open Go.Proofs
instance:Size Tryz.prog 62 1:=⟨_,ah Tryz.type62,rfl⟩
instance:One Tryz.prog 62:=⟨_,Tryz.underlying62,rfl⟩
instance:ZeroC Tryz.prog 62 ([Value.slice none 0 0]):=⟨_,_,ah Tryz.type62,rfl,rfl⟩
instance:Size Tryz.prog 81 1:=⟨_,ah Tryz.type81,rfl⟩
instance:One Tryz.prog 81:=⟨_,Tryz.underlying81,rfl⟩
instance:Size Tryz.prog 83 7:=⟨_,ah Tryz.type83,rfl⟩
instance:Agg Tryz.prog 83 7:=⟨_,_,Tryz.underlying83,rfl,ah Tryz.type83,rfl⟩
instance:ZeroC Tryz.prog 83 ([Value.pointer none,Value.int IntKind.i64 0,Value.int IntKind.i64 0,Value.int IntKind.i64 0,Value.int IntKind.i64 0,Value.slice none 0 0,Value.slice none 0 0]):=⟨_,_,ah Tryz.type83,rfl,rfl⟩
instance:Struct Tryz.prog 83 [(0,1),(1,4),(5,1),(6,1)] ([Value.pointer none,Value.int IntKind.i64 0,Value.int IntKind.i64 0,Value.int IntKind.i64 0,Value.int IntKind.i64 0,Value.slice none 0 0,Value.slice none 0 0]):=⟨_,_,_,ah Tryz.type83,Tryz.underlying83,rfl,by simp only [XV,X5,ah Tryz.type31,ah Tryz.type36,ah Tryz.type54,ah Tryz.type81];rfl,rfl⟩
instance:Fld Tryz.prog 83 0 0:=⟨_,_,_,Tryz.underlying83,rfl,rfl,ah Tryz.type54,by decide⟩
instance:Fld Tryz.prog 83 1 1:=⟨_,_,_,Tryz.underlying83,rfl,rfl,ah Tryz.type31,by decide⟩
instance:Fld Tryz.prog 83 2 5:=⟨_,_,_,Tryz.underlying83,rfl,rfl,ah Tryz.type36,by decide⟩
instance:Fld Tryz.prog 83 3 6:=⟨_,_,_,Tryz.underlying83,rfl,rfl,ah Tryz.type81,by decide⟩
instance:Callable Tryz.prog 8:=⟨fun args w=>Tryz.call8 args w⟩
instance:Callable Tryz.prog 10:=⟨fun args w=>Tryz.call10 args w⟩
instance:Callable Tryz.prog 11:=⟨fun args w=>Tryz.call11 args w⟩
instance:Callable Tryz.prog 12:=⟨fun args w=>Tryz.call12 args w⟩
instance:Callable Tryz.prog 14:=⟨fun args w=>Tryz.call14 args w⟩
instance:Callable Tryz.prog 15:=⟨fun args w=>Tryz.call15 args w⟩
instance:Callable Tryz.prog 29:=⟨fun args w=>Tryz.call29 args w⟩
instance:Callable Tryz.prog 30:=⟨fun args w=>Tryz.call30 args w⟩
instance:Callable Tryz.prog 31:=⟨fun args w=>Tryz.call31 args w⟩
instance:Callable Tryz.prog 32:=⟨fun args w=>Tryz.call32 args w⟩
instance:Callable Tryz.prog 33:=⟨fun args w=>Tryz.call33 args w⟩
instance:Callable Tryz.prog 34:=⟨fun args w=>Tryz.call34 args w⟩
instance:Callable Tryz.prog 36:=⟨fun args w=>Tryz.call36 args w⟩
instance:Callable Tryz.prog 37:=⟨fun args w=>Tryz.call37 args w⟩
instance:Callable Tryz.prog 63:=⟨fun args w=>Tryz.call63 args w⟩
instance:Callable Tryz.prog 66:=⟨fun args w=>Tryz.call66 args w⟩
instance:Callable Tryz.prog 67:=⟨fun args w=>Tryz.call67 args w⟩
instance:Callable Tryz.prog 71:=⟨fun args w=>Tryz.call71 args w⟩
instance:Callable Tryz.prog 110:=⟨fun args w=>Tryz.call110 args w⟩
instance:Callable Tryz.prog 114:=⟨fun args w=>Tryz.call114 args w⟩
instance:Callable Tryz.prog 115:=⟨fun args w=>Tryz.call115 args w⟩
instance:Callable Tryz.prog 116:=⟨fun args w=>Tryz.call116 args w⟩
attribute [local irreducible] FnAt FnIn VOp W WA WG WL WQ aY blk thn
theorem Ro.cell1 {w:World} {g o:Nat} {L:List Int} (h:Ro w g o (L.map (Value.int .i64))) (i:Nat) (hi:i<L.length):Ro w g (o+i*1) [Value.int .i64 L[i]]:=by
 have h1:=(h.drop (k:=i)).take (k:=1);rw [← List.map_drop,← List.map_take,XC hi] at h1;rw [YT];exact h1
theorem DS (L M:List Int) (lv mv:Value) (w:World) (hl:Reads w lv L.length (L.map (Value.int .i64))) (hm:Reads w mv M.length (M.map (Value.int .i64))):
 aL Tryz.prog 37 [lv,mv] w (.bool (decide (L=M))):=by
 obtain ⟨Al,cl,rfl,hl1,hl2,hl3⟩:=hl;obtain ⟨Am,cm,rfl,hm1,hm2,hm3⟩:=hm;refine aB Tryz.func37 rfl Tryz.ntmps37 rfl ?_;by_cases hlen:L.length=M.length
 ·repeat' first|refine sT ?_|refine sM fun _=>?_|refine sC ?_ ?_<;>intro hb<;>try omega|fail
  refine gI (fun i:Nat=> [(0,.slice Al L.length cl),(1,.slice Am M.length cm),(5,.int .i64 (i:Int))]) (fun _=> []) (fun i=>i≤L.length∧decide (L=M)=decide (L.drop i=M.drop i)) (fun i=>L.length - i) 0 ⟨by omega,rfl⟩ ?_ ?_ ?_
  ·exact sB
  ·exact mS
  ·rintro i ⟨hi,hrec⟩;by_cases hlt:i<L.length
   ·have hlt2:i<M.length:=by omega
    obtain ⟨gl,ol,rfl,hrl⟩:=hl3 (by omega);obtain ⟨gm,om,rfl,hrm⟩:=hm3 (by omega);have he1:=hrl.cell1 i hlt;have he2:=hrm.cell1 i hlt2;rw [qx hlt hlt2] at hrec;repeat' (first|apply aQ;exact rfl;apply ai;exact rfl;exact rfl;(first|exact hlt|exact hlt2)|apply aQ;exact rfl;apply rA;exact rfl;(first|exact he1|exact he2)|apply ak;exact rfl;apply gZ;exact rfl;exact rfl;simp only [maxLen] at*;omega|refine sT ?_|refine sQ ?_|refine sD ?_|refine sM fun _=>?_|refine sC ?_ ?_<;>intro hb<;>try omega|refine sCQ ?_ ?_<;>intro hb<;>try omega|fail)
    ·(refine rT1 ?_);rw [hrec,decide_eq_false hb]
     rfl
    ·refine ⟨i+1,⟨by omega,?_⟩,by omega,?_,?_⟩
     ·rw [hrec,decide_eq_true (Decidable.not_not.1 hb)]
      rfl
     ·exact sB
     ·exact mS
   ·have e:i=L.length:=by omega
    subst e;repeat' (first|refine sT ?_|refine sM fun _=>?_|refine sC ?_ ?_<;>intro hb<;>try omega|fail)
    (refine rT1 ?_);rw [hrec,X0,hlen,X0]
    rfl
 ·repeat' first|refine sT ?_|refine sM fun _=>?_|refine sC ?_ ?_<;>intro hb<;>try omega|fail
  (refine rT1 ?_);rw [decide_eq_false];intro e;exact hlen (congrArg List.length e)
end Go.SL
namespace Go.Proofs
open Go Go.Shelf Go.RowKit Go.Lib Go.Sort Go.SL
theorem Tryz.sortRf2_calls (blk off cap:Nat) (d:Array Rf) (w:World) (hH:HoldsK aq 2 w blk off d) (hblk:blk<w.heap.size) (hsz:d.size<4611686018427387904):
 Calls Tryz.prog 117 #[.slice (some ⟨blk,off,none⟩) d.size cap,.func (.func 152) #[] #[]] w fun e w' =>
  e= .returned (.tuple #[])∧ ∃ n os,w' =sortWorldK aq 2 w blk off n (d.toList.mergeSort fun x y=> !(ltOf iz) y x).toArray os:=by
 have eg: ∀ args w,(callFunc 152 args).run Tryz.prog w= .ok (.enter 152 args) w:=enters_of Tryz.func152 (by kernel_rfl) rfl;exact AnyQ.slices_SortFunc_total Tryz.sortRf 2 (fun w=>by have h:=Tryz.underlying34;show (isAgg 34).run _ w=_;simp [isAgg,run_underlying h]) (fun w=>by obtain ⟨i,h1,h2⟩:=(inferInstance:Size Tryz.prog 34 2).out;show (Go.sizeOf 34).run _ w=_;simp [Go.sizeOf,typeInfo,h1,h2]) aq (fun _=>rfl) (fun x v hv=>by simp [aq] at hv;rcases hv with rfl|rfl<;>rfl) iz Tq 152 #[] blk off cap d w eg (fun _ _ _ _ x y=>Tryz.rorderX x y _) hH hblk hsz NZ
end Go.Proofs
namespace Go.SL
open Go Go.Proofs Go.Sort Go.Shelf
theorem CR (L:List Rf) (A:Option Nat) (cap:Nat) (hL:L.length≤1000000) (R:List Blk) (w0:World):
 FnIn Tryz.prog 117 [sl A L.length cap,.func (.func 152) #[] #[]] w0 (.own A 34 2 L.length cap (L.flatMap aq)::R) fun v H=>v= .tuple #[]∧H= .own A 34 2 L.length cap ((sortRf L).flatMap aq)::R:=
 xV sortRf bD (by decide) (fun L=>by simp [sortRf]) (fun blk off cap d w h1 h2 h3=>by
  have h:=Tryz.sortRf2_calls blk off cap d w h1 h2 h3;have heq:(d.toList.mergeSort fun x y=> !(ltOf iz) y x)=sortRf d.toList:=by simp only [sortRf,iG]
  rw [heq] at h;exact h) oJ L A cap hL R w0
open Classical in
theorem Bg {G:Gr} {l:List Rct} {c:Rf}:c∈eX G l↔ ∃ r∈l,Rc G c r:=by
 unfold eX;rw [XM,decide_eq_true_eq];exact ⟨fun h=>h.2,fun h=>⟨h.choose_spec.2.key,h⟩⟩
open Classical in
theorem nU {G:Gr} (h:SortG G) (l:List Rct):(eX G l).Pairwise fun x y=>bE x y=true:=(vL h).filter _
structure UpI (G:Gr) (l:List Rct) (seen:List Rf) (todo:List Rct):Prop where
 nodup:seen.Nodup
 sound: ∀ c∈seen,∃ r∈l,Rc G c r
 from_: ∀ r∈todo,r∈l∨ ∃ d∈seen,r=cE d.col d.row
 full: ∀ c∈ap G,∀ r,(r∈l∨ ∃ d∈seen,r=cE d.col d.row)→bi (aG G c) r=true→c∈seen∨r∈todo
theorem UpI.start (G:Gr) (l:List Rct):UpI G l [] l:=⟨ZM,(fun _ h=>by cases h),(fun r h=> .inl h),fun c _ r h _=>by
 rcases h with h|⟨d,hd,_⟩
 ·exact .inr h
 ·cases hd⟩
theorem UpI.done {G:Gr} {l:List Rct} {seen:List Rf} (h:UpI G l seen []) (c:Rf):c∈seen↔c∈eX G l:=by
 rw [Bg];refine ⟨h.sound c,?_⟩;rintro ⟨r,hr,hc⟩;have hno: ∀ {c r},c∈ap G→(r∈l∨ ∃ d∈seen,r=cE d.col d.row)→bi (aG G c) r=true→c∈seen:=fun hk hr ht=>by
  rcases h.full _ hk _ hr ht with h1|h1
  ·exact h1
  ·cases h1
 induction hc with
 |use hc ht=>exact hno hc (.inl hr) ht
 | @via c d r hc hd ht _ ih=>exact hno hc (.inr ⟨d,ih hr,rfl⟩) ht
theorem UpI.add {G:Gr} {l:List Rct} {seen:List Rf} {todo:List Rct} {r:Rct} {c:Rf} (h:UpI G l seen (r::todo)) (hc:c∈ap G) (ht:bi (aG G c) r=true) (hn:c∉seen):
 UpI G l (c::seen) (r::(todo++ [cE c.col c.row])):=by
 refine ⟨Y9.2 ⟨hn,h.nodup⟩,fun x hx=> ?_,fun q hq=> ?_,fun x hx q hq hxq=> ?_⟩
 ·rcases Xt.1 hx with rfl|hx
  ·rcases h.from_ r Xb with h1|⟨d,hd,rfl⟩
   ·exact ⟨r,h1,.use hc ht⟩
   ·obtain ⟨q,hq,hdq⟩:=h.sound d hd;exact ⟨q,hq,.via hc hdq.key ht hdq⟩
  ·exact h.sound x hx
 ·rcases Xt.1 hq with rfl|hq
  ·rcases h.from_ q Xb with h1|⟨d,hd,h2⟩
   ·exact .inl h1
   ·exact .inr ⟨d,Xp _ hd,h2⟩
  ·rcases Xr.1 hq with hq|hq
   ·rcases h.from_ q (Xp _ hq) with h1|⟨d,hd,h2⟩
    ·exact .inl h1
    ·exact .inr ⟨d,Xp _ hd,h2⟩
   ·exact .inr ⟨c,Xb,Xl.1 hq⟩
 ·have hold:(q∈l∨ ∃ d∈seen,q=cE d.col d.row)→x∈c::seen∨q∈r::(todo++ [cE c.col c.row]):=fun hq=>by
   rcases h.full x hx q hq hxq with h1|h1
   ·exact .inl (Xp _ h1)
   ·right
    rcases Xt.1 h1 with rfl|h1
    ·exact Xb
    ·exact Xp _ (Xw _ h1)
  rcases hq with h1|⟨d,hd,rfl⟩
  ·exact hold (.inl h1)
  ·rcases Xt.1 hd with rfl|hd
   ·exact .inr (Xp _ (XB _ Xb))
   ·exact hold (.inr ⟨d,hd,rfl⟩)
theorem UpI.pop {G:Gr} {l:List Rct} {seen:List Rf} {todo:List Rct} {r:Rct} (h:UpI G l seen (r::todo)) (hall: ∀ c∈ap G,bi (aG G c) r=true→c∈seen):UpI G l seen todo:=by
 refine ⟨h.nodup,h.sound,fun q hq=>h.from_ q (Xp _ hq),fun c hc q hq ht=> ?_⟩;rcases h.full c hc q hq ht with h1|h1
 ·exact .inl h1
 ·rcases Xt.1 h1 with rfl|h1
  ·exact .inl (hall c hc ht)
  ·exact .inr h1
theorem UpI.len {G:Gr} {l:List Rct} {seen:List Rf} {todo:List Rct} (hG:SortG G) (h:UpI G l seen todo):seen.length≤G.length:=by
 have hs:seen⊆ap G:=fun c hc=>(h.sound c hc).choose_spec.2.key;have hn:(ap G).Nodup→((ap G).filter fun a=>decide (a∈seen)).Nodup:=fun h=>h.filter _;have hp: ∀ hk:(ap G).Nodup,seen.Perm ((ap G).filter fun a=>decide (a∈seen)):=fun hk=>
  jq h.nodup (hn hk) fun a=>by
   rw [XM,decide_eq_true_eq];exact ⟨fun h=>⟨hs h,h⟩,fun h=>h.2⟩
 have h1:=(hp hG.nodup).length_eq;have h2:=XS (fun a=>decide (a∈seen)) (ap G);have h3:(ap G).length=G.length:=by rw [ap,Xq]
 omega
theorem UpI.perm {G:Gr} {l:List Rct} {S S' :List Rf} {todo:List Rct} (h:UpI G l S todo) (hp:S.Perm S'):UpI G l S' todo:=
 ⟨hp.nodup_iff.1 h.nodup,fun c hc=>h.sound c (hp.mem_iff.2 hc),fun r hr=>(h.from_ r hr).imp id fun ⟨d,hd,e⟩=>⟨d,hp.mem_iff.1 hd,e⟩,fun c hc r hr ht=>
  (h.full c hc r (hr.imp id fun ⟨d,hd,e⟩=>⟨d,hp.mem_iff.2 hd,e⟩) ht).imp (fun h=>hp.mem_iff.1 h) id⟩
attribute [local irreducible] FnAt FnIn FnP RW VOp W WA WG WL WLI WQ WR WT WX aX aY bA blk bw scp thn
theorem AL (gm:Nat) (S:List Rf) (hn:S.Nodup) (hlen:S.length≤1000000) (R:List Blk) (w0:World):
 FnIn Tryz.prog 116 [.map (some gm)] w0 (.obj gm (aK aC (dI S) S.length)::R) fun v H=> ∃ A cap,v=sl A S.length cap∧H= .own A 34 2 S.length cap ((sortRf S).flatMap aq):: .obj gm (aK aC (dI S) S.length)::R:=by
 have hok:=IB hn;have hks:=l9 S;have hkl:=Fa S;generalize dI S=es at hok hks hkl;subst hks;rw [Xq] at hlen hkl;rw [Xq] at hok;rw [Xq];refine bI Tryz.func116 rfl Tryz.ntmps116 rfl ?_;refine aF 34 2 ?_;repeat' (first|apply dN (enc:=aC);exact rfl;exact rfl;exact pK;intro gi|refine zZB ?_|refine sM fun _=>?_|refine sC ?_ ?_<;>intro hb<;>try omega|fail)
 refine ax [6] rfl (fun x:List (Rf × Value × Nat) × Option Nat × Nat=> [(3,sl x.2.1 x.1.length x.2.2)]) (fun x=> .obj gi (je gm es.length (x.1.map fun e=>e.2.2)):: .own x.2.1 34 2 x.1.length x.2.2 ((x.1.map fun e=>e.1).flatMap aq):: .obj gm (aK aC es es.length)::R) (fun x=>Vis es x.1) (fun x=>es.length - x.1.length) ([],none,0) (Vis.nil es) sB mS ?_;rintro ⟨vis,A,cap⟩ hv;dsimp only at hv ⊢;have hvl:=hv.len;have hml:(vis.map fun e=>e.1).length=vis.length:=Xq _;have hS:=fun R' =>CR (vis.map fun e=>e.1) A cap (by omega) R' w0;rw [hml] at hS;repeat' (first|apply eC (enc:=aC);exact rfl;exact rfl;exact pK;exact pK;exact hok;intro e he hne|intro hall|apply ak;exact rfl;apply lH (enc:=aC);exact rfl;exact pK;exact pK;exact he;exact hok|apply aN;(iterate 3 exact rfl);(repeat first|exact .hd|apply Sel.tl|apply In.tl);intro w hm;exact hm.cells_own (by (repeat first|exact .hd|apply Sel.tl|apply In.tl));exact rfl;simp [Value.oneCell',sl];omega;simp only [maxLen];omega;intro A2 cap2 hA2|apply aj (f:=117);exact rfl;exact rfl;exact FnIn.msub (hS _) (MSub.pick pK (MSub.refl _));rintro _ _ ⟨rfl,rfl⟩|refine zZB ?_|refine sM fun _=>?_|refine sC ?_ ?_<;>intro hb<;>try omega|fail)
 ·refine ⟨(vis++ [e],A2,cap2),hv.step he hne,?_,?_,sB,?_⟩
  ·have:=hv.lt he hne;simp only [Xa,Xe];omega
  ·simp only [Xa,Xe];exact sB
  ·simp only [XI,XD,XR,Xa,Xe,Xz,Xx,XP,Xm];exact mS
 ·have hperm:=hv.perm hok hall;have hl:vis.length=es.length:=hperm.length_eq;have hf:sortRf (es.map fun e=>e.1)=sortRf (vis.map fun e=>e.1):=jI (hperm.symm.map _);refine bo eIO rfl rfl (H' := .own A 34 2 es.length cap ((sortRf (es.map fun e=>e.1)).flatMap aq):: .obj gm (aK aC es es.length)::R) ?_ ⟨A,cap,by rw [hl],rfl⟩;rw [hf,← hl];exact mS
end Go.SL

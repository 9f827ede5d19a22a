/-
  Lemmas and walks, put together: Sl7 Ca W12 W10 W9 Sl12 Sl10 Sl32 Sl11 W32 Cb Sl9 Ce Sl18 Sl23 Sl24.
-/
import Derived.Test.YtpoafcnhplbkmaaGreatDoorKt02
set_option linter.unusedSimpArgs false
set_option linter.unusedVariables false
set_option maxRecDepth 20000
namespace Go.SL
open Go Go.RowKit
class Tidy (p:Prop) (q:outParam Prop):Prop where
 out:p→q
instance (priority:=10) tidySame {p:Prop}:Tidy p p:=⟨id⟩
instance tidyT {p q:Prop} [Decidable p] [h:Tidy p q]:Tidy (decide p=true) q:=⟨fun k=>h.out (of_decide_eq_true k)⟩
instance tidyF {p q:Prop} [Decidable p] [h:Tidy (¬ p) q]:Tidy (decide p=false) q:=⟨fun k=>h.out (of_decide_eq_false k)⟩
instance tidyNT {b:Bool} {q:Prop} [h:Tidy (b=false) q]:Tidy ((!b)=true) q:=⟨fun k=>h.out (by simpa using k)⟩
instance tidyNF {b:Bool} {q:Prop} [h:Tidy (b=true) q]:Tidy ((!b)=false) q:=⟨fun k=>h.out (by simpa using k)⟩
instance tidyLt {a b:Int}:Tidy (¬ a<b) (b≤a):=⟨Int.not_lt.1⟩
instance tidyLe {a b:Int}:Tidy (¬ a≤b) (b<a):=⟨Int.not_le.1⟩
section
variable {P:Program} {n:Fr} {w0:World} {Q:aO} {s:au} {H:List Blk} {l rest:List Oper} {ty:TypeId} {p:String} {af:Array Edge} {f:Nat} {L:Array Bool}
def WA (P:Program) (n:Fr) (w0:World) (l:List Oper) (Q:aO) (f:Nat) (L:Array Bool) (s:au) (H:List Blk):Prop:=
 ∀ a w,St n s a→Mem w0 w H→wpAny P .any l.toArray (post n w0 Q) f L a w
theorem rT {id:Nat} (N:Nat) (hN:l.length=N) (hm:P.follows .mixedOrders=true) (h:WA P n w0 l Q N (Array.replicate N false) s H):W P n w0 (.region id l.toArray true) Q s H:=by
 intro a w hs hmem;subst hN;refine wp_region_any hm ?_;simpa using h a _ hs hmem.drew
theorem rR (hr:Region.ready .any l.toArray L= []) (h:Q .normal s H):WA P n w0 l Q f L s H:=by
 intro a w hs hm
 cases f with
 |zero=>exact ⟨hr,s,H,hs,hm,h⟩
 |succ f=>exact ⟨fun _=>⟨s,H,hs,hm,h⟩,fun i hi=>by rw [hr] at hi;cases hi⟩
def gJ (Q:aO):Prop:= ∀ c s H,¬ Q (.panic c) s H
theorem Gt {K:au→List Blk→Prop} (h:gJ Q):gJ (thn K Q):=fun c s H hq=>h c s H hq
theorem Gx {id:Nat} (h:gJ Q):gJ (blk id Q):=fun c s H hq=>h c s H hq
theorem Gv {fn:Func} {R:Value→List Blk→Prop}:gJ (aJ P fn n w0 R):=fun c s H hq=>by
 obtain ⟨h|h,_⟩:=hq<;>cases h
theorem bU {i:Nat} {op:Op} {d:Nat} {v:Value} (hi:l[i]? =some ⟨some d,op,ty,p,af,none⟩) (hn:Nat.blt d n.sz=true) (hsel:Region.noSelect l.toArray=true) (hr:(Region.ready .any l.toArray L).contains i=true) (hf:Region.free .any l.toArray L i=true)
 (hnp:gJ Q) (hv: ∀ w0 H,VOp P w0 s H op ty v) (h:WA P n w0 l Q f (L.setIfInBounds i true) ((d,v)::s) H):WA P n w0 l Q (f+1) L s H:=by
 intro a w hs hm;have hi' :l.toArray[i]? =some ⟨some d,op,ty,p,af,none⟩:=by simpa using hi
 refine wpAny_first hi' (Region.noSelect_spec hsel) (v:=v) (fun c a' w' hq=> ?_) f L a w (Region.free_spec hi' hf) (by simpa using hr) (.inl ⟨rfl,fun w' =>hv w' [] a.eval w' _ _ _ _ hs.eval (Mem.refl w')⟩) (h _ _ (hs.put (Jf ▸ hn) v) hm);obtain ⟨s',H',h1,h2,h3⟩:=hq;exact (hnp c s' H' h3).elim
theorem qI {o:Oper} {a:Act} {next next' :Act→World→Prop} {Q1 Q2:Exit→Act→World→Prop} {r:Result Next} (hn: ∀ a w,next a w→next' a w) (hp: ∀ c a w,Q1 (.panic c) a w→Q2 (.panic c) a w) (ho: ∀ a w,Q1 .outgrown a w→Q2 .outgrown a w) (h:o.upon P a next Q1 r):o.upon P a next' Q2 r:=by
 cases r with
 |ok x w' =>
   cases x<;>simp only [Oper.upon] at h ⊢ <;>first
    |exact hn _ _ h
    | (refine Calls.mono h fun e w'' he => ?_
       cases e with
       |returned v=>exact hn _ _ he
       |panicked c=>exact hp _ _ _ he
       |outgrown=>obtain ⟨a0,w0,h0⟩:=he;exact ⟨a0,w0,ho _ _ h0⟩)
    |exact Rows.mono h fun v w'' he=>hn _ _ he
 |halt x w' =>cases x<;>simp only [Oper.upon] at h ⊢ <;>exact hp _ _ _ h
theorem dQ {i:Nat} {o:Oper} (hi:l[i]? =some o) (hr:Region.ready .any l.toArray L= [i]) (h:WL P n w0 l.toArray [o] (thn (WA P n w0 l Q f (L.setIfInBounds i true)) Q) s H):WA P n w0 l Q (f+1) L s H:=by
 intro a w hs hm;refine ⟨fun h0=>(by rw [hr] at h0;cases h0),fun j hj=> ?_⟩;rw [hr] at hj;have e:j=i:=by simpa using hj
 subst e;have h1:=h a w hs hm;have hi' :l.toArray[j]? =some o:=by simpa using hi
 unfold wpOp;simp only [hi'];unfold wpList at h1;have hnext: ∀ a w,wpList P l.toArray (post n w0 (thn (WA P n w0 l Q f (L.setIfInBounds j true)) Q)) [] a w→wpAny P .any l.toArray (post n w0 Q) f (L.setIfInBounds j true) a w:=by
  rintro a w ⟨s',H',h1,h2,h3⟩;exact h3 a w h1 h2
 split
 ·rename_i hw;rw [if_pos hw] at h1;refine h1.imp (fun h2=>qI hnext (fun c a w h=>h) (fun a w h=>h) h2) fun ⟨h2,a0,w0,h3⟩=>⟨h2,a0,w0,h3⟩
 ·rename_i hw;rw [if_neg hw] at h1;exact hnext _ _ h1
theorem jO {t e lo hi m c sz:Nat} {A:Option Addr} {x:Operand} {xl xh:Option Operand} [ht:Und P t (.slice e)] [hz:Size P e sz] (hx:ev s x=some (.slice A m c))
 (hxl:match xl with|none=>lo=0|some q=> ∃ k,ev s q=some (.int k (lo:Nat))) (hxh:match xh with|none=>hi=m|some q=> ∃ k,ev s q=some (.int k (hi:Nat))) (h1:lo≤hi) (h2:hi≤c):
 VOp P w0 s H (.slice t x xl xh none) ty (.slice (if c=lo then A else A.map (·.add (lo*sz))) (hi - lo) (c - lo)):=fun ρ w _ _ _ _ hρ _=>by
 obtain ⟨i,hi1,hi2⟩:=hz.out;have e1:((lo:Nat):Int)≤((hi:Nat):Int):=by omega
 have e2:((hi:Nat):Int)≤((c:Nat):Int):=by omega
 have e3:((0:Nat):Int)≤((hi:Nat):Int):=by omega
 cases xl with
 |none=>
  cases xh with
  |none=>
   simp only at hxl hxh;subst hxl hxh;simp [execOp,hρ x _ hx,Instr.sliceAt,run_underlying ht.out,Instr.slice,Instr.sliceBounds,sizeOf,typeInfo,hi1]
  |some q=>
   simp only at hxl hxh;subst hxl;obtain ⟨kk,hq⟩:=hxh;simp [execOp,hρ x _ hx,hρ q _ hq,Instr.sliceAt,run_underlying ht.out,Instr.slice,Instr.sliceBounds,Instr.sliceBound,asIntOf,sizeOf,typeInfo,hi1,h2]
 |some ql=>
  obtain ⟨kl,hql⟩:=hxl
  cases xh with
  |none=>
   simp only at hxh;subst hxh;simp [execOp,hρ x _ hx,hρ ql _ hql,Instr.sliceAt,run_underlying ht.out,Instr.slice,Instr.sliceBounds,Instr.sliceBound,asIntOf,sizeOf,typeInfo,hi1,hi2,h1]
  |some q=>
   obtain ⟨kk,hq⟩:=hxh;simp [execOp,hρ x _ hx,hρ q _ hq,hρ ql _ hql,Instr.sliceAt,run_underlying ht.out,Instr.slice,Instr.sliceBounds,Instr.sliceBound,asIntOf,sizeOf,typeInfo,hi1,hi2,h1,h2]
def Reads (w:World) (v:Value) (m:Nat) (xs:List Value):Prop:=
 ∃ A cap,v= .slice A m cap∧m≤cap∧cap≤maxLen∧(0<m→ ∃ g o,A=some ⟨g,o,none⟩∧Ro w g o xs)
theorem Ro.of_own {w:World} {g t sz m c:Nat} {xs:List Value} (hm:Mem w0 w H) (hi:In (.own (some g) t sz m c xs) H):Ro w g 0 xs:=by
 have h1:=hm.cells_own hi;refine ⟨?_,h1⟩;obtain ⟨_,_,_,junk,_,h2⟩:=(hm.on _ hi.mem).1;exact (IW.1 h2).1
theorem Ro.of_ro {w:World} {g o:Nat} {xs:List Value} (hm:Mem w0 w H) (h:Ro w0 g o xs):Ro w g o xs:=
 ⟨Nat.lt_of_lt_of_le h.lt hm.below.size,h.later hm⟩
theorem Ro.drop {w:World} {g o k:Nat} {xs:List Value} (h:Ro w g o xs):Ro w g (o+k) (xs.drop k):=⟨h.lt,h.cells.drop⟩
theorem Ro.take {w:World} {g o k:Nat} {xs:List Value} (h:Ro w g o xs):Ro w g o (xs.take k):=⟨h.lt,h.cells.take⟩
theorem Reads.of_own {w:World} {A:Option Nat} {t sz m c:Nat} {xs:List Value} (hm:Mem w0 w H) (hi:In (.own A t sz m c xs) H):Reads w (sl A m c) m xs:=by
 obtain ⟨h1,h2,h3,h4⟩:=(hm.on _ hi.mem).1;refine ⟨_,c,rfl,h2,h3,fun hpos=> ?_⟩
 cases A with
 |none=>obtain ⟨rfl,_⟩:=h4;omega
 |some g=>exact ⟨g,0,rfl,Ro.of_own hm hi⟩
theorem Reads.of_w0 {w:World} {v:Value} {m:Nat} {xs:List Value} (hm:Mem w0 w H) (h:Reads w0 v m xs):Reads w v m xs:=by
 obtain ⟨A,cap,rfl,h1,h2,h3⟩:=h;exact ⟨A,cap,rfl,h1,h2,fun hp=>let ⟨g,o,hA,hr⟩:=h3 hp;⟨g,o,hA,Ro.of_ro hm hr⟩⟩
theorem Reads.cut {w:World} {A:Option Addr} {m cap lo hi sz:Nat} {xs:List Value} (h:Reads w (.slice A m cap) m xs) (h1:lo≤hi) (h2:hi≤m):
 Reads w (.slice (if cap=lo then A else A.map (·.add (lo*sz))) (hi - lo) (cap - lo)) (hi - lo) ((xs.drop (lo*sz)).take ((hi - lo)*sz)):=by
 obtain ⟨A',cap',he,hm,hc,hr⟩:=h;injection he with e1 e2 e3;subst e1;subst e3;refine ⟨_,_,rfl,by omega,by omega,fun hp=> ?_⟩;obtain ⟨g,o,rfl,hro⟩:=hr (by omega);rw [if_neg (by omega)];exact ⟨g,o+lo*sz,by simp [bA],hro.drop.take⟩
theorem bH {c:Code} {A:Option Nat} {t sz m cap:Nat} {xs:List Value} (hi:In (.own A t sz m cap xs) H) (hm:0<m) (h: ∀ g,A=some g→W P n w0 c Q s H):W P n w0 c Q s H:=fun a w hs hmem=>by
 obtain ⟨_,_,_,h4⟩:=(hmem.on _ hi.mem).1
 cases A with
 |none=>obtain ⟨rfl,_⟩:=h4;omega
 |some g=>exact h g rfl a w hs hmem
theorem ym {c:Code} {A:Option Nat} {t sz m cap:Nat} {xs:List Value} (hi:In (.own A t sz m cap xs) H) (h:xs.length=m*sz→m≤cap→cap≤maxLen→W P n w0 c Q s H):W P n w0 c Q s H:=fun a w hs hmem=>by
 obtain ⟨h1,h2,h3,_⟩:=(hmem.on _ hi.mem).1;exact h h1 h2 h3 a w hs hmem
theorem Mem.shrink {w:World} {A:Option Nat} {t sz m cap k:Nat} {xs:List Value} (hm:Mem w0 w (.own A t sz m cap xs::H)) (hk:k≤m):Mem w0 w (.own A t sz k cap (xs.take (k*sz))::H):=by
 have h0:=hm.on _ Iu;obtain ⟨⟨h1,h2,h3,h4⟩,h5⟩:=h0;have hlen:k*sz≤m*sz:=JQ _ hk;refine ⟨hm.below,fun b hb=> ?_,Jv.2 ⟨fun x hx=>(Jv.1 hm.apart).1 x hx,(Jv.1 hm.apart).2⟩⟩;rcases IP.1 hb with rfl|hb
 ·refine ⟨⟨by rw [Jl];omega,by omega,h3,?_⟩,h5⟩
  cases A with
  |none=>obtain ⟨rfl,rfl⟩:=h4;exact ⟨by omega,rfl⟩
  |some g=>
   obtain ⟨junk,j1,j2⟩:=h4;exact ⟨xs.drop (k*sz)++junk,by rw [← I1,Jr];exact j1,by rw [← I1,Jr];exact j2⟩
 ·exact hm.on b (IB _ hb)
theorem tV {c:Code} {A:Option Nat} {t sz m cap:Nat} {xs:List Value} {R:List Blk} (hsel:Sel (.own A t sz m cap xs) H R) (k:Nat) (hk:k≤m) (h:W P n w0 c Q s (.own A t sz k cap (xs.take (k*sz))::R)):W P n w0 c Q s H:=
 fun a w hs hm=>h a w hs ((hm.sel hsel).shrink hk)
theorem yn {ι:Type} {c:Code} (I:ι→au→List Blk→Prop) (μ:ι→Nat) (i0:ι) (h0: ∃ s0 H0,Sub s0 s∧MSub H0 H∧I i0 s0 H0)
 (round: ∀ i s H,I i s H→W P n w0 c (thn (fun s' H' => ∃ i' s1 H1,μ i' <μ i∧Sub s1 s' ∧MSub H1 H' ∧I i' s1 H1) Q) s H):W P n w0 (.loop c) Q s H:=by
 intro a w hs hm;obtain ⟨s0,H0,hs0,hH0,hI⟩:=h0;refine wp_loop_ghost (fun k a' w' => ∃ i s1 H1,I i s1 H1∧μ i=k∧St n s1 a' ∧Mem w0 w' H1) (μ i0) ⟨i0,s0,H0,hI,rfl,hs.sub hs0,hH0.use hm⟩ ?_;rintro k a1 w1 ⟨i,s1,H1,hI1,rfl,hs1,hm1⟩;refine wp_mono (round i s1 H1 hI1 a1 w1 hs1 hm1) ?_;rintro e a' w' ⟨s',H',h1,h2,h3⟩
 cases e with
 |normal=>
  obtain ⟨i',s2,H2,hlt,hsub,hms,hI2⟩:=h3;exact ⟨μ i',hlt,i',s2,H2,hI2,rfl,h1.sub hsub,hms.use h2⟩
 |_=>exact ⟨s',H',h1,h2,h3⟩
theorem BF {t e hi m c sz:Nat} {A:Option Nat} {x q:Operand} {k:IntKind} [ht:Und P t (.slice e)] [hz:Size P e sz] (hx:ev s x=some (sl A m c)) (hq:ev s q=some (.int k (hi:Nat))) (h2:hi≤c):
 VOp P w0 s H (.slice t x none (some q) none) ty (sl A hi c):=by
 have h:=jO (P:=P) (w0:=w0) (H:=H) (ty:=ty) (t:=t) (xl:=none) (xh:=some q) (lo:=0) (hi:=hi) hx rfl ⟨k,hq⟩ (Iw _) h2;have e:(if c=0 then (A.map fun g=>(⟨g,0,none⟩:Addr)) else (A.map fun g=>(⟨g,0,none⟩:Addr)).map (·.add (0*sz)))=A.map fun g=>⟨g,0,none⟩:=by
  split
  ·rfl
  ·cases A<;>simp [bA]
 unfold sl at h ⊢;rw [e,JJ,JJ] at h;exact h
theorem cw {d t e sz by_ c:Nat} {x y:Operand} {kx ky:IntKind} {zs:List Value} {ops:Array Oper} [ht:Und P t (.slice e)] [he:Elem P e sz by_] [hz:ZeroC P e zs] (hn:Nat.blt d n.sz=true) (hx:ev s x=some (.int kx (c:Nat))) (hy:ev s y=some (.int ky (c:Nat))) (hb:by_*c≤281474976710656) (hc:c≤maxLen)
 (k: ∀ g,WL P n w0 ops rest Q ((d,.slice (some ⟨g,0,none⟩) c c)::s) (.own (some g) e sz c c ((List.range (c*sz)).map fun i=>zs[i % zs.length]!)::H)):
 WL P n w0 ops (⟨some d,.makeSlice t x y,ty,p,af,none⟩::rest) Q s H:=by
 refine jo (B:=fun g=> .own (some g) e sz c c ((List.range (c*sz)).map fun i=>zs[i % zs.length]!)) (v:=fun g=> .slice (some ⟨g,0,none⟩) c c) hn (fun a w hs hm=> ?_) k;obtain ⟨i,z,h1,h2,h3,h4,h5,h6⟩:=he.out;obtain ⟨i',z',j1,j2,j3⟩:=hz.out;rw [h1] at j1;injection j1 with j1;subst j1;rw [h4] at j2;injection j2 with j2;subst j2;have hmx:c≤9223372036854775807:=by simp only [maxLen] at hc;omega
 have hb' :(i.bytes:Int)*(c:Int)≤281474976710656:=by
  rw [h3];have h:((by_*c:Nat):Int)≤281474976710656:=by omega
  rwa [Int.natCast_mul] at h
 have hr:=run_make (P:=P) w t e i z ht.out h1 h4 kx ky c c (by omega) (K5 _) hb' (by omega);simp only [KZ] at hr;have hmade:madeCells z.cells (c*i.size)=((List.range (c*sz)).map fun i=>zs[i % zs.length]!).toArray:=by
  rw [j3,h2];apply Array.ext';simp [madeCells]
 rw [hmade] at hr;refine ⟨_,?_,World.grownBy_alloc w _ none,Blk.own_of (heap_alloc_new w _) (by simp) rfl hc,rfl⟩;simp [execOp,hs.eval x _ hx,hs.eval y _ hy,hr]
theorem jp {d t e sz by_:Nat} {ops:Array Oper} [ht:Und P t (.slice e)] [he:Elem P e sz by_] (hn:Nat.blt d n.sz=true)
 (k: ∀ g,WL P n w0 ops rest Q ((d,.slice (some ⟨g,0,none⟩) 0 0)::s) (.own (some g) e sz 0 0 []::H)):WL P n w0 ops (⟨some d,.buildSlice t 0 #[],ty,p,af,none⟩::rest) Q s H:=by
 refine jo (B:=fun g=> .own (some g) e sz 0 0 []) (v:=fun g=> .slice (some ⟨g,0,none⟩) 0 0) hn (fun a w hs hm=> ?_) k;obtain ⟨i,z,h1,h2,h3,h4,h5,h6⟩:=he.out;refine ⟨w.alloc (.cells #[] e),?_,World.grownBy_alloc w _ none,Blk.own_of (xs:= []) (heap_alloc_new w _) (by simp) rfl (Iw _),rfl⟩;have h0:Array.range 0= #[]:=rfl;simp [execOp,Instr.buildSlice,run_underlying ht.out,sizeOf,typeInfo,h1,Instr.fill,newRow,h0]
theorem BM {t e m c:Nat} {A:Option Addr} {x:Operand} {t' :TypeId} [ht:Und P t (.slice e)] (hx:ev s x=some (.slice A m c)):VOp P w0 s H (.binOp .eql t x (.const (.slice none 0 0)) t') ty (.bool A.isNone):=fun ρ w _ _ _ _ hρ _=>by
 have hc:=hρ (.const (.slice none 0 0)) _ rfl;simp [execOp,hρ x _ hx,hc,eqGuard,Lib.run_eql_slice_nil w t e A m c 0 0 ht.out]
theorem MSub.snoc {c:Blk} {K T U:List Blk} (hs:Sel c T U) (h:MSub K U):MSub (K++ [c]) T:=by
 obtain ⟨X,hp⟩:=h;refine ⟨X,hs.perm.trans ((hp.cons c).trans ?_)⟩;rw [I1];exact (Ks (l₁:=K) (a:=c) (l₂:=X)).symm
theorem MSub.rot {c:Blk} {K T:List Blk} (h:MSub (K++ [c]) T):MSub (c::K) T:=by
 obtain ⟨X,hp⟩:=h;exact ⟨X,hp.trans ((I2 (l₁:=K) (l₂:= [c])).append_right X)⟩
theorem lX {x y:Operand} {a b:Nat} {t t' :TypeId} (hx:ev s x=some (.int .i64 (a:Nat))) (hy:ev s y=some (.int .i64 (b:Nat))) (h:b≤a) (ha:a≤maxLen):VOp P w0 s H (.binOp .sub t x y t') ty (.int .i64 ((a - b:Nat):Int)):=by
 have e:((a - b:Nat):Int)=(a:Int) - (b:Int):=by omega
 rw [e];exact tY hx hy ⟨by omega,by simp only [maxLen] at ha;omega⟩
theorem rW {x y:Operand} {a b:Nat} {t t' :TypeId} (hx:ev s x=some (.int .i64 (a:Nat))) (hy:ev s y=some (.int .i64 (b:Nat))) (ha:a+b≤maxLen):VOp P w0 s H (.binOp .add t x y t') ty (.int .i64 ((a+b:Nat):Int)):=by
 rw [Int.natCast_add];exact qH hx hy ⟨by omega,by simp only [maxLen] at ha;omega⟩
theorem jN {x y:Operand} {a:Nat} {t t' :TypeId} (hx:ev s x=some (.int .i64 (a:Nat))) (hy:ev s y=some (.int .i64 1)) (ha:a+1≤maxLen):VOp P w0 s H (.binOp .add t x y t') ty (.int .i64 ((a+1:Nat):Int)):=rW (b:=1) hx hy ha
theorem fp {x y:Operand} {a:Nat} {t t' :TypeId} (hx:ev s x=some (.int .i64 (a:Nat))) (hy:ev s y=some (.int .i64 1)) (h:1≤a) (ha:a≤maxLen):VOp P w0 s H (.binOp .sub t x y t') ty (.int .i64 ((a - 1:Nat):Int)):=lX (b:=1) hx hy h ha
theorem BK {x y:Operand} {a b:Nat} {ts:Array TypeId} (hx:ev s x=some (.int .i64 (a:Nat))) (hy:ev s y=some (.int .i64 (b:Nat))):
 VOp P w0 s H (.call { callee:= .builtin .max,args:= #[x,y],argTypes:=ts }) ty (.int .i64 ((max a b:Nat):Int)):=by
 have h:=yq (P:=P) (w0:=w0) (H:=H) (ty:=ty) (ts:=ts) hx hy;have e:(if (a:Int)<(b:Int) then (b:Int) else (a:Int))=((max a b:Nat):Int):=by split<;>omega
 rw [← e];exact h
theorem FnIn.msub {f:FuncId} {args:List Value} {H' :List Blk} {R:Value→List Blk→Prop} (h:FnIn P f args w0 H' R) (hs:MSub H' H):FnIn P f args w0 H R:=fun w hm=>h w (hs.use hm)
theorem bZ {x:Operand} {t g o m:Nat} {xs:List Value} [Agg P t m] (hx:ev s x=some (.pointer (some ⟨g,o,none⟩))) (hr:Ro w0 g o xs) (hl:Nat.beq xs.length m=true):VOp P w0 s H (.load t x) ty (.agg xs.toArray):=by
 have hm:=I9 hl;exact iQ (off:=0) hr hx (by rw [Ki,← hm,I5]) hm
theorem aG {x:Operand} {t g o:Nat} {v:Value} [One P t] (hx:ev s x=some (.pointer (some ⟨g,o,none⟩))) (hr:Ro w0 g o [v]):VOp P w0 s H (.load t x) ty v:=aD (off:=0) hr hx rfl
theorem iR {x:Operand} {t g o off:Nat} {xs:List Value} {v:Value} [One P t] (hx:ev s x=some (.pointer (some ⟨g,o+off,none⟩))) (hr:Ro w0 g o xs) (hv:xs[off]? =some v):VOp P w0 s H (.load t x) ty v:=aD hr hx hv
theorem ue {x:Operand} {t T g off m n' c sz:Nat} {xs ys:List Value} [Agg P t m] (hx:ev s x=some (.pointer (some ⟨g,off,none⟩))) (hi:In (.own (some g) T sz n' c xs) H) (hv:(xs.drop off).take m=ys) (hl:Nat.beq ys.length m=true):
 VOp P w0 s H (.load t x) ty (.agg ys.toArray):=dh hx hi hv (I9 hl)
end
section
variable {α:Type} {enc:α→List Value} {m:Nat}
theorem mA (h: ∀ a,(enc a).length=m): ∀ (L:List α) (i:Nat),(L.flatMap enc).drop (i*m)=(L.drop i).flatMap enc
 | [],i=>by simp
 |a::L,0=>by simp
 |a::L,i+1=>by
  rw [I8,List.drop_succ_cons,← mA h L i,show (i+1)*m=(enc a).length+i*m by rw [h a,JP,Kk,Kl],List.drop_append];simp
theorem qZ (h: ∀ a,(enc a).length=m): ∀ (L:List α) (i:Nat),(L.flatMap enc).take (i*m)=(L.take i).flatMap enc
 | [],i=>by simp
 |a::L,0=>by simp
 |a::L,i+1=>by
  rw [I8,List.take_succ_cons,I8,← qZ h L i,show (i+1)*m=(enc a).length+i*m by rw [h a,JP,Kk,Kl],List.take_append,JF (Nat.le_add_right _ _)];simp
theorem cE (h: ∀ a,(enc a).length=m) (L:List α):(L.flatMap enc).length=L.length*m:=by
 induction L with
 |nil=>simp
 |cons a L ih=>rw [I8,Iv,h a,ih,IU,JP,Kk,Kl]
theorem dW (h: ∀ a,(enc a).length=m) (L:List α) (i:Nat) (hi:i<L.length):((L.flatMap enc).drop (i*m)).take m=enc L[i]:=by
 rw [mA h,IR hi,I8,Ke (by rw [h];exact IK _),← h L[i],I5]
theorem mB (h: ∀ a,(enc a).length=m) (L:List α) (i k:Nat) (hi:i<L.length) (hk:k<m):(L.flatMap enc)[i*m+k]? =(enc L[i])[k]? :=by
 have h1:=dW h L i hi;rw [← h1,KW,if_pos hk,J3]
theorem Ro.elem {w:World} {g o:Nat} (h: ∀ a,(enc a).length=m) {L:List α} (hr:Ro w g o (L.flatMap enc)) (i:Nat) (hi:i<L.length):Ro w g (o+i*m) (enc L[i]):=by
 rw [← dW h L i hi];exact hr.drop.take
end
end Go.SL
namespace Go.SL
open Go
abbrev Nx:=List (List Nat)
def aj (X:Nx) (i:Nat):List Nat:=(X[i]?).getD []
inductive Rch (X:Nx):Nat→Nat→Prop
 |refl (i:Nat):Rch X i i
 |step {i k j:Nat} (h:k∈aj X i) (r:Rch X k j):Rch X i j
theorem Rch.one {X:Nx} {i k:Nat} (h:k∈aj X i):Rch X i k:= .step h (.refl k)
theorem Rch.trans {X:Nx} {i k j:Nat} (h:Rch X i k) (r:Rch X k j):Rch X i j:=by
 induction h with
 |refl _=>exact r
 |step h _ ih=>exact .step h (ih r)
structure Tj where
 num:List Nat
 low:List Nat
 on:List Bool
 stk:List Nat
 out:List (List Nat)
 cnt:Nat
def Tj.n (S:Tj) (i:Nat):Nat:=(S.num[i]?).getD 0
def Tj.l (S:Tj) (i:Nat):Nat:=(S.low[i]?).getD 0
def Tj.o (S:Tj) (i:Nat):Bool:=(S.on[i]?).getD false
theorem fa {α:Type} (L:List α) (i j:Nat) (x d:α):((L.set i x)[j]?).getD d=if i=j∧i<L.length then x else (L[j]?).getD d:=by
 rw [KF];by_cases h:i=j
 ·subst h;by_cases h2:i<L.length
  ·simp [h2]
  ·simp [h2]
 ·simp [h]
structure TjOk (X:Nx) (S:Tj):Prop where
 ln:S.num.length=X.length
 ll:S.low.length=X.length
 lo:S.on.length=X.length
 le: ∀ i,S.n i≤S.cnt
 stk:S.stk.Pairwise fun a b=>S.n a<S.n b
 lt: ∀ v∈S.stk,v<X.length
 vis: ∀ v∈S.stk,S.n v≠0
 on: ∀ v,v<X.length→(S.o v=true↔v∈S.stk)
 cls: ∀ v,S.n v≠0→v∉S.stk→ ∀ u∈aj X v,S.n u≠0∧u∉S.stk
 prt: ∀ v,(∃ p∈S.out,v∈p)↔(S.n v≠0∧v∉S.stk)
 scc: ∀ p∈S.out,p≠ []∧p.Pairwise (· < ·)∧ ∀ v∈p,∀ u,u∈p↔(Rch X v u∧Rch X u v)
 dis:S.out.Pairwise fun p q=> ∀ v∈p,v∉q
theorem TjOk.nlt {X:Nx} {S:Tj} (h:TjOk X S) {v:Nat} (hv:S.n v≠0):v<X.length:=by
 by_cases hl:v<S.num.length
 ·rw [← h.ln];exact hl
 ·exact absurd (by unfold Tj.n;rw [IC (Nat.le_of_not_lt hl)];rfl) hv
structure Entd (X:Nx) (S:Tj) (i:Nat) (S' :Tj) (ex:List Nat):Prop where
 ok:TjOk X S'
 stk:S'.stk=S.stk++ex
 n_old: ∀ v,S.n v≠0→S'.n v=S.n v
 l_old: ∀ v,S.n v≠0→S'.l v=S.l v
 cnt:S.cnt≤S'.cnt
 new:S'.n i≠0
 newer: ∀ v,S.n v=0→S'.n v≠0→S.cnt<S'.n v
 fresh: ∀ v∈ex,S.n v=0
 rc: ∀ v∈ex,Rch X i v
 lw: ∀ v∈ex,S'.l v<S'.n v∧S'.l i≤S'.l v∧ ∃ u∈S'.stk,S'.n u=S'.l v∧Rch X v u
 sc: ∀ v∈ex,∀ u∈aj X v,S'.n u≠0∧(u∈S'.stk→S'.l i≤S'.n u)
 alt:i∈ex∨(ex= []∧S'.l i=S'.n i)
structure Lp (X:Nx) (S0:Tj) (i:Nat) (S:Tj) (ex dn:List Nat):Prop where
 ok:TjOk X S
 stk:S.stk=S0.stk++i::ex
 n_old: ∀ v,S0.n v≠0→S.n v=S0.n v
 l_old: ∀ v,S0.n v≠0→S.l v=S0.l v
 cnt:S0.cnt≤S.cnt
 newer: ∀ v,S0.n v=0→S.n v≠0→S0.cnt<S.n v
 fresh: ∀ v∈i::ex,S0.n v=0
 rc: ∀ v∈ex,Rch X i v
 lw: ∀ v∈ex,S.l v<S.n v∧S.l i≤S.l v∧ ∃ u∈S.stk,S.n u=S.l v∧Rch X v u
 sc: ∀ v∈ex,∀ u∈aj X v,S.n u≠0∧(u∈S.stk→S.l i≤S.n u)
 li:S.l i≤S.n i∧ ∃ u∈S.stk,S.n u=S.l i∧Rch X i u
 dn: ∀ u∈dn,S.n u≠0∧(u∈S.stk→S.l i≤S.n u)
section
variable {X:Nx} {S0 S:Tj} {i:Nat} {ex dn:List Nat}
theorem Lp.mem (h:Lp X S0 i S ex dn):i∈S.stk:=by rw [h.stk];simp
theorem Lp.ni (h:Lp X S0 i S ex dn):S.n i≠0:=h.ok.vis _ h.mem
theorem Lp.ilt (h:Lp X S0 i S ex dn):i<X.length:=h.ok.lt _ h.mem
theorem Lp.ex_ne (h:Lp X S0 i S ex dn) {v:Nat} (hv:v∈ex):S.n i<S.n v:=by
 have h1:=h.ok.stk;rw [h.stk,Jw] at h1;exact (Jv.1 h1.2.1).1 v hv
theorem Lp.old_lt (h:Lp X S0 i S ex dn) {v:Nat} (hv:v∈S0.stk):S.n v<S.n i:=by
 have h1:=h.ok.stk;rw [h.stk,Jw] at h1;exact h1.2.2 v hv i (Iu ..)
def Tj.start (S:Tj) (i:Nat):Tj:=⟨S.num.set i (S.cnt+1),S.low.set i (S.cnt+1),S.on.set i true,S.stk++ [i],S.out,S.cnt+1⟩
def Tj.setLow (S:Tj) (i x:Nat):Tj:=⟨S.num,S.low.set i x,S.on,S.stk,S.out,S.cnt⟩
theorem DZ (hk:i<S.num.length) (v:Nat):(S.start i).n v=if i=v then S.cnt+1 else S.n v:=by
 unfold Tj.n Tj.start;dsimp only;rw [fa];simp [hk]
theorem D0 (hk:i<S.low.length) (v:Nat):(S.start i).l v=if i=v then S.cnt+1 else S.l v:=by
 unfold Tj.l Tj.start;dsimp only;rw [fa];simp [hk]
theorem yx (hk:i<S.on.length) (v:Nat):(S.start i).o v=if i=v then true else S.o v:=by
 unfold Tj.o Tj.start;dsimp only;rw [fa];simp [hk]
theorem bV (x v:Nat):(S.setLow i x).n v=S.n v:=rfl
theorem uF (hk:i<S.low.length) (x v:Nat):(S.setLow i x).l v=if i=v then x else S.l v:=by
 unfold Tj.l Tj.setLow;dsimp only;rw [fa];simp [hk]
theorem TjOk.setLow (h:TjOk X S) (x:Nat):TjOk X (S.setLow i x):=
 ⟨h.ln,by rw [← h.ll];exact Jo,h.lo,h.le,h.stk,h.lt,h.vis,h.on,h.cls,h.prt,h.scc,h.dis⟩
theorem CD (h:TjOk X S) (hi:i<X.length) (h0:S.n i=0):Lp X S i (S.start i) [] []:=by
 have hn:=DZ (S:=S) (i:=i) (by rw [h.ln];exact hi);have hl:=D0 (S:=S) (i:=i) (by rw [h.ll];exact hi);have ho:=yx (S:=S) (i:=i) (by rw [h.lo];exact hi);have hns:i∉S.stk:=fun hm=>h.vis i hm h0;have hmem: ∀ v,v∈(S.start i).stk↔v∈S.stk∨v=i:=fun v=>by
  show v∈S.stk++ [i]↔_;rw [IL,Iz]
 refine ⟨⟨?_,?_,?_,?_,?_,?_,?_,?_,?_,?_,h.scc,h.dis⟩,rfl,?_,?_,Nat.le_succ _,?_,?_,?_,?_,?_,?_,?_⟩
 ·show (S.num.set i _).length=_;rw [Jo,h.ln]
 ·show (S.low.set i _).length=_;rw [Jo,h.ll]
 ·show (S.on.set i _).length=_;rw [Jo,h.lo]
 ·intro v;rw [hn];split
  ·exact IK _
  ·exact Nat.le_succ_of_le (h.le v)
 ·show (S.stk++ [i]).Pairwise _;rw [Jw];refine ⟨h.stk.imp_of_mem fun ha hb hab=> ?_,List.pairwise_singleton _ _,fun a ha b hb=> ?_⟩
  ·rename_i a b;rw [hn,hn,if_neg (fun (e:i=a)=>hns (e ▸ ha)),if_neg (fun (e:i=b)=>hns (e ▸ hb))];exact hab
  ·rw [Iz.1 hb,hn,hn,if_neg (fun (e:i=a)=>hns (e ▸ ha)),if_pos rfl];exact Nat.lt_succ_of_le (h.le a)
 ·intro v hv;rcases (hmem v).1 hv with hv|rfl
  ·exact h.lt v hv
  ·exact hi
 ·intro v hv;rw [hn];rcases (hmem v).1 hv with hv|rfl
  ·split
   ·exact Nat.succ_ne_zero _
   ·exact h.vis v hv
  ·rw [if_pos rfl];exact Nat.succ_ne_zero _
 ·intro v hv;rw [ho,hmem];by_cases e:i=v
  ·rw [if_pos e];exact ⟨fun _=> .inr e.symm,fun _=>rfl⟩
  ·rw [if_neg e,h.on v hv];exact ⟨.inl,fun hh=>hh.resolve_right fun e' =>e e'.symm⟩
 ·intro v hv hs u hu;rw [hmem] at hs;have hne: ¬ i=v:=fun e=>hs (.inr e.symm);rw [hn,if_neg hne] at hv;obtain ⟨h1,h2⟩:=h.cls v hv (fun hh=>hs (.inl hh)) u hu;have hui: ¬ i=u:=fun e=>h1 (e ▸ h0);rw [hn,if_neg hui,hmem];exact ⟨h1,fun hh=>hh.elim h2 fun e=>hui e.symm⟩
 ·intro v;show (∃ p∈S.out,v∈p)↔_;rw [h.prt,hn,hmem];by_cases e:i=v
  ·subst e;rw [if_pos rfl];exact ⟨fun hh=>absurd h0 hh.1,fun hh=>absurd (.inr rfl) hh.2⟩
  ·rw [if_neg e];exact ⟨fun hh=>⟨hh.1,fun hm=>hm.elim hh.2 fun e' =>e e'.symm⟩,fun hh=>⟨hh.1,fun hm=>hh.2 (.inl hm)⟩⟩
 ·intro v hv;rw [hn,if_neg (fun (e:i=v)=>hv (e ▸ h0))]
 ·intro v hv;rw [hl,if_neg (fun (e:i=v)=>hv (e ▸ h0))]
 ·intro v hv hv2;rw [hn] at hv2 ⊢;by_cases e:i=v
  ·rw [if_pos e];exact Kd _
  ·rw [if_neg e] at hv2;exact absurd hv hv2
 ·intro v hv;rw [Iz.1 hv];exact h0
 ·intro v hv;cases hv
 ·intro v hv;cases hv
 ·intro v hv;cases hv
 ·rw [hl,hn,if_pos rfl,if_pos rfl];exact ⟨IK _,i,(hmem i).2 (.inr rfl),by rw [hn,if_pos rfl],.refl i⟩
 ·intro v hv;cases hv
theorem CE {k:Nat} {S1:Tj} {ex1:List Nat} (h:Lp X S0 i S ex dn) (hk:k∈aj X i) (h0:S.n k=0) (e:Entd X S k S1 ex1):
 Lp X S0 i (S1.setLow i (min (S1.l i) (S1.l k))) (ex++ex1) (dn++ [k]):=by
 have hni:=h.ni;have hil:=h.ilt;have hl:=uF (S:=S1) (i:=i) (by rw [e.ok.ll];exact hil) (min (S1.l i) (S1.l k));have hmin1:min (S1.l i) (S1.l k)≤S.l i:=by rw [e.l_old i hni];exact Nat.min_le_left _ _
 have hmin2:min (S1.l i) (S1.l k)≤S1.l k:=Nat.min_le_right _ _;have hne: ∀ v,S.n v≠0→v∉ex1:=fun v hv hm=>hv (e.fresh v hm);have hstk: ∀ u,u∈S1.stk↔u∈S.stk∨u∈ex1:=fun u=>by rw [e.stk,IL]
 have n0: ∀ v,S0.n v≠0→S.n v≠0:=fun v hv=>by rw [h.n_old v hv];exact hv
 have hexi: ∀ v∈ex,¬ i=v:=fun v hv e' =>by
  have:=h.ex_ne hv;rw [e'] at this;exact JO _ this
 have hex1i: ∀ v∈ex1,¬ i=v:=fun v hv e' =>hni (e' ▸ e.fresh v hv);have hexn: ∀ v∈ex,S.n v≠0:=fun v hv=>h.ok.vis v (by rw [h.stk];simp [hv]);refine ⟨e.ok.setLow _,?_,?_,?_,Je h.cnt e.cnt,?_,?_,?_,?_,?_,?_,?_⟩
 ·show S1.stk=_;rw [e.stk,h.stk];simp
 ·intro v hv;rw [bV,e.n_old v (n0 v hv),h.n_old v hv]
 ·intro v hv;rw [hl,if_neg,e.l_old v (n0 v hv),h.l_old v hv];intro e';exact hv (e' ▸ h.fresh i (Iu ..))
 ·intro v hv hv1;rw [bV] at hv1 ⊢;by_cases hs:S.n v=0
  ·exact Nat.lt_of_le_of_lt h.cnt (e.newer v hs hv1)
  ·rw [e.n_old v hs];exact h.newer v hv hs
 ·intro v hv;rcases IP.1 hv with rfl|hv
  ·exact h.fresh _ (Iu ..)
  ·rcases IL.1 hv with hv|hv
   ·exact h.fresh v (IB _ hv)
   ·have:=e.fresh v hv;by_cases hz:S0.n v=0
    ·exact hz
    ·exact absurd this (n0 v hz)
 ·intro v hv;rcases IL.1 hv with hv|hv
  ·exact h.rc v hv
  ·exact .step hk (e.rc v hv)
 ·intro v hv;rw [bV,hl,hl,if_pos rfl];rcases IL.1 hv with hv|hv
  ·rw [if_neg (hexi v hv),e.l_old v (hexn v hv),e.n_old v (hexn v hv)];obtain ⟨h1,h2,u,h3,h4,h5⟩:=h.lw v hv;exact ⟨h1,Je hmin1 h2,u,(hstk u).2 (.inl h3),by rw [bV,e.n_old u (h.ok.vis u h3)];exact h4,h5⟩
  ·rw [if_neg (hex1i v hv)];obtain ⟨h1,h2,u,h3,h4,h5⟩:=e.lw v hv;exact ⟨h1,Je hmin2 h2,u,h3,h4,h5⟩
 ·intro v hv u hu;rw [bV,hl,if_pos rfl];rcases IL.1 hv with hv|hv
  ·obtain ⟨h1,h2⟩:=h.sc v hv u hu;rw [e.n_old u h1];exact ⟨h1,fun hm=>Je hmin1 (h2 (((hstk u).1 hm).resolve_right (hne u h1)))⟩
  ·obtain ⟨h1,h2⟩:=e.sc v hv u hu;exact ⟨h1,fun hm=>Je hmin2 (h2 hm)⟩
 ·rw [hl,if_pos rfl,bV,e.n_old i hni];refine ⟨Je hmin1 h.li.1,?_⟩;obtain ⟨u,h3,h4,h5⟩:=h.li.2;by_cases hm:min (S1.l i) (S1.l k)=S.l i
  ·exact ⟨u,(hstk u).2 (.inl h3),by rw [bV,e.n_old u (h.ok.vis u h3),h4,hm],h5⟩
  ·have hm' :min (S1.l i) (S1.l k)=S1.l k:=by
    rw [e.l_old i hni] at hm ⊢;omega
   rcases e.alt with ha|⟨ha1,ha2⟩
   ·obtain ⟨_,_,u,h3,h4,h5⟩:=e.lw k ha;exact ⟨u,h3,by rw [hm'];exact h4,.step hk h5⟩
   ·have h6:=e.newer k h0 e.new;have h7:=h.li.1;have h8:=h.ok.le i;rw [e.l_old i hni,ha2] at hm;omega
 ·intro u hu;rw [bV,hl,if_pos rfl];rcases IL.1 hu with hu|hu
  ·obtain ⟨h1,h2⟩:=h.dn u hu;rw [e.n_old u h1];exact ⟨h1,fun hm=>Je hmin1 (h2 (((hstk u).1 hm).resolve_right (hne u h1)))⟩
  ·rw [Iz.1 hu];refine ⟨e.new,fun hm=> ?_⟩;rcases e.alt with ha|⟨ha1,ha2⟩
   ·have:=(e.lw k ha).1;omega
   ·omega
theorem HQ {k:Nat} (h:Lp X S0 i S ex dn) (hk:k∈aj X i) (hs:k∈S.stk):
 Lp X S0 i (S.setLow i (min (S.l i) (S.n k))) ex (dn++ [k]):=by
 have hni:=h.ni;have hil:=h.ilt;have hl:=uF (S:=S) (i:=i) (by rw [h.ok.ll];exact hil) (min (S.l i) (S.n k));have hmin1:min (S.l i) (S.n k)≤S.l i:=Nat.min_le_left _ _;have hexi: ∀ v∈ex,¬ i=v:=fun v hv e' =>by
  have:=h.ex_ne hv;rw [e'] at this;exact JO _ this
 refine ⟨h.ok.setLow _,h.stk,h.n_old,?_,h.cnt,h.newer,h.fresh,h.rc,?_,?_,?_,?_⟩
 ·intro v hv;rw [hl,if_neg,h.l_old v hv];intro e';exact hv (e' ▸ h.fresh i (Iu ..))
 ·intro v hv;rw [bV,hl,hl,if_pos rfl,if_neg (hexi v hv)];obtain ⟨h1,h2,u,h3,h4,h5⟩:=h.lw v hv;exact ⟨h1,Je hmin1 h2,u,h3,h4,h5⟩
 ·intro v hv u hu;rw [bV,hl,if_pos rfl];obtain ⟨h1,h2⟩:=h.sc v hv u hu;exact ⟨h1,fun hm=>Je hmin1 (h2 hm)⟩
 ·rw [hl,if_pos rfl,bV];refine ⟨Je hmin1 h.li.1,?_⟩;by_cases hm:min (S.l i) (S.n k)=S.l i
  ·obtain ⟨u,h3,h4,h5⟩:=h.li.2;exact ⟨u,h3,by rw [bV,h4,hm],h5⟩
  ·exact ⟨k,hs,by rw [bV];omega,.one hk⟩
 ·intro u hu;rw [bV,hl,if_pos rfl];rcases IL.1 hu with hu|hu
  ·obtain ⟨h1,h2⟩:=h.dn u hu;exact ⟨h1,fun hm=>Je hmin1 (h2 hm)⟩
  ·rw [Iz.1 hu];exact ⟨h.ok.vis k hs,fun _=>Nat.min_le_right _ _⟩
theorem GF {k:Nat} (h:Lp X S0 i S ex dn) (hv:S.n k≠0) (hs:k∉S.stk):Lp X S0 i S ex (dn++ [k]):=
 ⟨h.ok,h.stk,h.n_old,h.l_old,h.cnt,h.newer,h.fresh,h.rc,h.lw,h.sc,h.li,fun u hu=>by
  rcases IL.1 hu with hu|hu
  ·exact h.dn u hu
  ·rw [Iz.1 hu];exact ⟨hv,fun hm=>absurd hm hs⟩⟩
theorem Eu (h:Lp X S0 i S ex (aj X i)) (hne:S.l i≠S.n i):Entd X S0 i S (i::ex):=by
 refine ⟨h.ok,h.stk,h.n_old,h.l_old,h.cnt,h.ni,h.newer,h.fresh,?_,?_,?_,.inl (Iu ..)⟩
 ·intro v hv;rcases IP.1 hv with rfl|hv
  ·exact .refl _
  ·exact h.rc v hv
 ·intro v hv;rcases IP.1 hv with rfl|hv
  ·obtain ⟨h1,u,h2,h3,h4⟩:=h.li;exact ⟨by omega,IK _,u,h2,h3,h4⟩
  ·exact h.lw v hv
 ·intro v hv u hu;rcases IP.1 hv with rfl|hv
  ·exact h.dn u hu
  ·exact h.sc v hv u hu
theorem yL (h:Lp X S0 i S ex dn) (he:S.l i=S.n i): ∀ (m v:Nat),S.n v≤m→v∈i::ex→Rch X v i
 |m,v,hm,hv=>by
  rcases IP.1 hv with rfl|hv
  ·exact .refl _
  ·obtain ⟨h1,h2,u,h3,h4,h5⟩:=h.lw v hv;have hu:u∈i::ex:=by
    rw [h.stk] at h3;rcases IL.1 h3 with h6|h6
    ·have:=h.old_lt h6;omega
    ·exact h6
   match m,hm with
   |0,hm=>omega
   |m+1,hm=>exact h5.trans (yL h he m u (by omega) hu)
theorem Rch.closed {C:Nat→Prop} (hc: ∀ v,C v→ ∀ u∈aj X v,C u) {v u:Nat} (r:Rch X v u) (hv:C v):C u:=by
 induction r with
 |refl _=>exact hv
 |step h _ ih=>exact ih (hc _ hv _ h)
def Tj.pop (S S0:Tj) (on' :List Bool) (part:List Nat):Tj:=⟨S.num,S.low,on',S0.stk,S.out++ [part],S.cnt⟩
theorem GD (h:Lp X S0 i S ex (aj X i)) (he:S.l i=S.n i) {on' :List Bool} {part:List Nat} (hol:on'.length=X.length) (ho: ∀ v,v<X.length→((on'[v]?).getD false=true↔(S.o v=true∧v∉i::ex)))
 (hp:part.Perm (i::ex)) (hps:part.Pairwise (· ≤ ·)):Entd X S0 i (S.pop S0 on' part) []:=by
 have hmp: ∀ v,v∈part↔v∈i::ex:=fun v=>hp.mem_iff;have hst: ∀ v,v∈S.stk↔v∈S0.stk∨v∈i::ex:=fun v=>by rw [h.stk,IL]
 have hdj: ∀ v∈S0.stk,v∉i::ex:=fun v hv hm=>by
  have h1:=h.old_lt hv;rcases IP.1 hm with rfl|hm
  ·exact JO _ h1
  ·have:=h.ex_ne hm;omega
 have hsuc: ∀ v∈i::ex,∀ u∈aj X v,S.n u≠0∧u∉S0.stk:=fun v hv u hu=>by
  have h1:S.n u≠0∧(u∈S.stk→S.l i≤S.n u):=by
   rcases IP.1 hv with rfl|hv
   ·exact h.dn u hu
   ·exact h.sc v hv u hu
  refine ⟨h1.1,fun hm=> ?_⟩;have h2:=h1.2 ((hst u).2 (.inl hm));have h3:=h.old_lt hm;omega
 have hcl: ∀ v,(S.n v≠0∧v∉S0.stk)→ ∀ u∈aj X v,S.n u≠0∧u∉S0.stk:=fun v hv u hu=>by
  by_cases hm:v∈i::ex
  ·exact hsuc v hm u hu
  ·obtain ⟨h1,h2⟩:=h.ok.cls v hv.1 (fun hh=>((hst v).1 hh).elim hv.2 hm) u hu;exact ⟨h1,fun hh=>h2 ((hst u).2 (.inl hh))⟩
 have hcs: ∀ v,(S.n v≠0∧v∉S.stk)→ ∀ u∈aj X v,S.n u≠0∧u∉S.stk:=fun v hv=>h.ok.cls v hv.1 hv.2;have hvis: ∀ v∈i::ex,S.n v≠0:=fun v hv=>h.ok.vis v ((hst v).2 (.inr hv));have hnd:part.Pairwise (· < ·):=by
  have h1:(i::ex).Nodup:=by
   have h2:=h.ok.stk;rw [h.stk,Jw] at h2;exact h2.2.1.imp fun hab e=>by rw [e] at hab;exact JO _ hab
  have h3:part.Nodup:=hp.nodup_iff.2 h1;exact (KH.2 ⟨hps,h3⟩).imp fun ⟨h4,h5⟩=>KT h4 h5
 refine ⟨⟨h.ok.ln,h.ok.ll,hol,h.ok.le,?_,?_,?_,?_,?_,?_,?_,?_⟩,(I3 _).symm,h.n_old,h.l_old,h.cnt,h.ni,h.newer,?_,?_,?_,?_,.inr ⟨rfl,he⟩⟩
 ·have h2:=h.ok.stk;rw [h.stk,Jw] at h2;exact h2.1
 ·exact fun v hv=>h.ok.lt v ((hst v).2 (.inl hv))
 ·exact fun v hv=>h.ok.vis v ((hst v).2 (.inl hv))
 ·intro v hv;show (on'[v]?).getD false=true↔v∈S0.stk;rw [ho v hv,h.ok.on v hv,hst];exact ⟨fun hh=>hh.1.resolve_right hh.2,fun hh=>⟨.inl hh,hdj v hh⟩⟩
 ·exact fun v hv hs u hu=>hcl v ⟨hv,hs⟩ u hu
 ·intro v;show (∃ p∈S.out++ [part],v∈p)↔(S.n v≠0∧v∉S0.stk);constructor
  ·rintro ⟨p,hpm,hv⟩;rcases IL.1 hpm with hpm|hpm
   ·obtain ⟨h1,h2⟩:=(h.ok.prt v).1 ⟨p,hpm,hv⟩;exact ⟨h1,fun hh=>h2 ((hst v).2 (.inl hh))⟩
   ·rw [Iz.1 hpm] at hv;have hv:=(hmp v).1 hv;exact ⟨hvis v hv,fun hh=>hdj v hh hv⟩
  ·rintro ⟨h1,h2⟩;by_cases hm:v∈i::ex
   ·exact ⟨part,JL _ (Iz.2 rfl),(hmp v).2 hm⟩
   ·obtain ⟨p,hpm,hv⟩:=(h.ok.prt v).2 ⟨h1,fun hh=>((hst v).1 hh).elim h2 hm⟩;exact ⟨p,Jy _ hpm,hv⟩
 ·intro p hpm;rcases IL.1 hpm with hpm|hpm
  ·exact h.ok.scc p hpm
  ·rw [Iz.1 hpm];refine ⟨fun e=> ?_,hnd,fun v hv u=> ?_⟩
   ·have:=(hmp i).2 (Iu ..);rw [e] at this;cases this
   ·have hv:=(hmp v).1 hv;have hfrom: ∀ x∈i::ex,Rch X i x:=fun x hx=>by
     rcases IP.1 hx with rfl|hx
     ·exact .refl _
     ·exact h.rc x hx
    have hback: ∀ x∈i::ex,Rch X x i:=fun x hx=>yL h he _ x (IK _) hx;rw [hmp];constructor
    ·exact fun hu=>⟨(hback v hv).trans (hfrom u hu),(hback u hu).trans (hfrom v hv)⟩
    ·rintro ⟨h1,h2⟩;have h3:=h1.closed hcl ⟨hvis v hv,fun hh=>hdj v hh hv⟩;by_cases hm:u∈i::ex
     ·exact hm
     ·have h4:=h2.closed hcs ⟨h3.1,fun hh=>((hst u).1 hh).elim h3.2 hm⟩;exact absurd ((hst v).2 (.inr hv)) h4.2
 ·show (S.out++ [part]).Pairwise _;rw [Jw];refine ⟨h.ok.dis,List.pairwise_singleton _ _,fun p hpm q hq v hv hvq=> ?_⟩;rw [Iz.1 hq] at hvq;have h1:=(h.ok.prt v).1 ⟨p,hpm,hv⟩;exact h1.2 ((hst v).2 (.inr ((hmp v).1 hvq)))
 ·intro v hv;cases hv
 ·intro v hv;cases hv
 ·intro v hv;cases hv
 ·intro v hv;cases hv
theorem xI {S1:Tj} (h:Entd X S i S1 ex) (h0:S.stk= []):ex= []:=by
 have hs:S1.stk=ex:=by rw [h.stk,h0];rfl
 have hno: ∀ (m v:Nat),S1.n v≤m→v∉ex:=by
  intro m
  induction m with
  |zero=>exact fun v hm hv=>by have:=(h.lw v hv).1;omega
  |succ m ih=>
   intro v hm hv;obtain ⟨h1,_,u,h3,h4,_⟩:=h.lw v hv;exact ih u (by omega) (hs ▸ h3)
 rcases h.alt with ha|ha
 ·exact absurd ha (hno _ i (IK _))
 ·exact ha.1
end
end Go.SL
namespace Go.SL
open Go Go.Proofs
attribute [local irreducible] W WL WQ WG WA VOp thn blk aJ FnAt FnIn
theorem wrap_i64 {a:Int} (h1:0≤a) (h2:a≤255):IntKind.i64.wrap a=a:=I64.wrap ⟨by omega,by omega⟩
def k1:Nd:=⟨1,⟨1,50000,aA⟩,bp,0,0,0⟩
def k2:Nd:=⟨2,bD,⟨1,1,1,1⟩,0,0,0⟩
def k3:Nd:=⟨3,bD,⟨1,1,2,2⟩,0,0,0⟩
def k6:Nd:=⟨6,bD,bp,1,0,0⟩
def j7:Nd:=⟨7,bD,bp,0,46,1⟩
theorem EO {α:Type} [DecidableEq α] {L M:List α} {i:Nat} (h1:i<L.length) (h2:i<M.length):decide (L.drop i=M.drop i)=(decide (L[i]=M[i]) && decide (L.drop (i+1)=M.drop (i+1))):=by
 rw [IR h1,IR h2];simp only [List.cons.injEq,Bool.decide_and]
end Go.SL
namespace Go.SL
open Go Go.RowKit
section
variable {α:Type} {enc:α→List Value} {w0:World}
def GV (enc:α→List Value) (w0:World) (F:List Blk) (vals:List Value) (Ts:List (List α)):Prop:=
 vals.length=Ts.length∧ ∀ (j:Nat) (x:Value) (T:List α),vals[j]? =some x→Ts[j]? =some T→ ∀ w,Mem w0 w F→Reads w x T.length (T.flatMap enc)
end
theorem mR {α:Type} {enc:α→List Value} {m:Nat} {P:Program} {w0:World} {s:au} {H:List Blk} {ty:TypeId} {x:Operand} {t T g n' c sz i k:Nat} {L:List α} {a:α} {v:Value} [One P t] (henc: ∀ a,(enc a).length=m) (hx:ev s x=some (.pointer (some ⟨g,0+i*m+k,none⟩))) (hi:In (.own (some g) T sz n' c (L.flatMap enc)) H) (hk:k<m) (ha:L[i]? =some a) (hv:(enc a)[k]? =some v):
 VOp P w0 s H (.load t x) ty v:=by
 obtain ⟨hlt,rfl⟩:=IQ.1 ha;rw [IG] at hx;exact ak hx hi (by rw [mB henc L i k hlt hk];exact hv)
section
variable {P:Program} {n:Fr} {w0:World} {Q:aO} {s:au} {H:List Blk} {l:List Oper} {f:Nat} {L:Array Bool}
theorem yl {i:Nat} {o:Oper} (hi:l[i]? =some o) (h:WL P n w0 l.toArray [o] (thn (WA P n w0 l Q f (L.setIfInBounds i true)) Q) s H) (a:Act) (w:World) (hs:St n s a) (hm:Mem w0 w H):
 wpOp P l.toArray (post n w0 Q) i (wpAny P .any l.toArray (post n w0 Q) f (L.setIfInBounds i true)) a w:=by
 have h1:=h a w hs hm;have hi' :l.toArray[i]? =some o:=by simpa using hi
 unfold wpOp;simp only [hi'];unfold wpList at h1;have hnext: ∀ a w,wpList P l.toArray (post n w0 (thn (WA P n w0 l Q f (L.setIfInBounds i true)) Q)) [] a w→wpAny P .any l.toArray (post n w0 Q) f (L.setIfInBounds i true) a w:=by
  rintro a w ⟨s',H',h1,h2,h3⟩;exact h3 a w h1 h2
 split
 ·rename_i hw;rw [if_pos hw] at h1;refine h1.imp (fun h2=>qI hnext (fun c a w h=>h) (fun a w h=>h) h2) fun ⟨h2,a0,w0,h3⟩=>⟨h2,a0,w0,h3⟩
 ·rename_i hw;rw [if_neg hw] at h1;exact hnext _ _ h1
theorem rQ {i j:Nat} {oi oj:Oper} (hi:l[i]? =some oi) (hj:l[j]? =some oj) (hr:Region.ready .any l.toArray L= [i,j]) (h1:WL P n w0 l.toArray [oi] (thn (WA P n w0 l Q f (L.setIfInBounds i true)) Q) s H)
 (h2:WL P n w0 l.toArray [oj] (thn (WA P n w0 l Q f (L.setIfInBounds j true)) Q) s H):WA P n w0 l Q (f+1) L s H:=by
 intro a w hs hm;refine ⟨fun h0=>(by rw [hr] at h0;cases h0),fun k hk=> ?_⟩;rw [hr] at hk;rcases IP.1 hk with e|hk
 ·subst e;exact yl hi h1 a w hs hm
 ·have e:k=j:=by simpa using hk
  subst e;exact yl hj h2 a w hs hm
end
theorem fQ {P:Program} {w0:World} {s:au} {H:List Blk} {ty:TypeId} {x:Operand} {t g o off m:Nat} {xs ys:List Value} [Agg P t m] (hc: ∀ w,Mem w0 w H→Cells w g o xs) (hx:ev s x=some (.pointer (some ⟨g,o+off,none⟩))) (hv:(xs.drop off).take m=ys) (hl:ys.length=m):
 VOp P w0 s H (.load t x) ty (.agg ys.toArray):=fun ρ w _ _ _ _ hρ hm=>by
 subst hv;have hc:Cells w g (o+off) ((xs.drop off).take m):=((hc w hm).drop (k:=off)).take (k:=m);simp [execOp,hρ x _ hx,Instr.loadAt,Instr.sureAddr,ee (P:=P) hl hc]
theorem Bx {P:Program} {n:Fr} {w0:World} {Q:aO} {s:au} {H:List Blk} {c:Code} {lv:Value} {m:Nat} {xs:List Value} (hr: ∀ w,Mem w0 w H→Reads w lv m xs) (h0:0<m) (h: ∀ g o cp,lv= .slice (some ⟨g,o,none⟩) m cp→W P n w0 c Q s H):W P n w0 c Q s H:=fun a w hs hm=>by
 obtain ⟨A,cp,e,_,_,h3⟩:=hr w hm;obtain ⟨g,o,e2,_⟩:=h3 h0;exact h g o cp (by rw [e,e2]) a w hs hm
theorem Fq {P:Program} {n:Fr} {w0:World} {Q:aO} {s:au} {H:List Blk} {c:Code} {lv:Value} {m:Nat} {xs:List Value} (hr: ∀ w,Mem w0 w H→Reads w lv m xs) (h: ∀ A cp,lv= .slice A m cp→W P n w0 c Q s H):W P n w0 c Q s H:=fun a w hs hm=>by
 obtain ⟨A,cp,e,_⟩:=hr w hm;exact h A cp e a w hs hm
theorem pT {w:World} {g o m cp:Nat} {xs:List Value} (h:Reads w (.slice (some ⟨g,o,none⟩) m cp) m xs) (h0:0<m):Cells w g o xs:=by
 obtain ⟨A,c,e,_,_,h3⟩:=h;obtain ⟨g',o',rfl,h4⟩:=h3 h0;cases e;exact h4.cells
def xC (s:au):List Nat→Option au
 | []=>some []
 |t::r=>match look s t,xC s r with
  |some v,some s' =>some ((t,v)::s')
  |_,_=>none
theorem vq {s:au}: ∀ {ts:List Nat} {s' :au},xC s ts=some s' →Sub s' s
 | [],s',h=>by simp only [xC,Option.some.injEq] at h;subst h;exact Sub.nil s
 |t::r,s',h=>by
  simp only [xC] at h;split at h
  ·rename_i v s1 hv hs;simp only [Option.some.injEq] at h;subst h;exact Sub.cons hv (vq hs)
  ·cases h
theorem vh (r b:au) (u:Nat):look (r++b) u=(match look r u with|some v=>some v|none=>look b u):=by
 induction r with
 |nil=>rfl
 |cons y r ih=>
  obtain ⟨p,q⟩:=y;rw [IE,eM,eM,ih];split<;>rfl
theorem Sub.append {a b s:au} (ha:Sub a s) (hb:Sub b s):Sub (a++b) s:=by
 intro u z hu;rw [vh] at hu;split at hu
 ·rename_i v hv;rw [← hu];exact ha u v hv
 ·exact hb u z hu
def aW {ι:Type} (sI:ι→au) (HI:ι→List Blk) (ok:ι→Prop) (Q:aO):aO
 | .normal,s,H=> ∃ i,ok i∧Sub (sI i) s∧MSub (HI i) H
 |e,s,H=>Q e s H
section
variable {P:Program} {n:Fr} {w0:World} {Q:aO} {s sb:au} {H:List Blk} {ι:Type} {sI:ι→au} {HI:ι→List Blk} {ok:ι→Prop} {id:Nat}
theorem dr (i:ι) (ho:ok i) (hs:Sub (sI i) s) (hH:MSub (HI i) H):aW sI HI ok Q .normal s H:=⟨i,ho,hs,hH⟩
theorem og {x z:Code} (sI:ι→au) (HI:ι→List Blk) (ok:ι→Prop) (h:W P n w0 x (aW sI HI ok Q) s H) (k: ∀ i,ok i→W P n w0 z Q (sI i) (HI i)):
 W P n w0 x (thn (W P n w0 z Q) Q) s H:=by
 refine Bz (fun e s' H' hq=> ?_) h
 cases e with
 |normal=>
  obtain ⟨i,ho,h1,h2⟩:=hq;exact G0 h1 (FM h2 (k i ho))
 |_=>exact hq
theorem aB {c:Code} (ts:List Nat) (hk:xC s ts=some sb) (sI:ι→au) (HI:ι→List Blk) (ok:ι→Prop) (μ:ι→Nat) (i0:ι) (h0:ok i0) (hs0:Sub (sI i0) s) (hH0:MSub (HI i0) H)
 (round: ∀ i,ok i→W P n w0 c (thn (fun s' H' => ∃ i',ok i' ∧μ i' <μ i∧Sub (sI i') s' ∧Sub sb s' ∧MSub (HI i') H') Q) (sI i++sb) (HI i)):W P n w0 (.loop c) Q s H:=by
 refine fc (fun i=>sI i++sb) HI ok μ i0 h0 (hs0.append (vq hk)) hH0 fun i hi=>Bz (fun e s' H' hq=> ?_) (round i hi)
 cases e with
 |normal=>
  obtain ⟨i',h1,h2,h3,h4,h5⟩:=hq;exact ⟨i',h1,h2,h3.append h4,h5⟩
 |_=>exact hq
end
theorem Ro.cellV {w:World} {g o:Nat} {xs:List Value} (h:Ro w g o xs) (i:Nat) {v:Value} (hi:xs[i]? =some v):Ro w g (o+i*1) [v]:=by
 obtain ⟨hlt,he⟩:=IQ.1 hi;have h1:=(h.drop (k:=i)).take (k:=1);rw [IR hlt,he] at h1;rw [Jd];exact h1
theorem wQ {P:Program} {w0:World} {s:au} {H:List Blk} {ty t t' :TypeId} {x y:Operand} {k:IntKind} {a:Int} (hx:ev s x=some (.int k a)) (hy:ev s y=some (.int k a)):VOp P w0 s H (.binOp .neq t x y t') ty (.bool false):=by
 have h:=Ft (P:=P) (w0:=w0) (H:=H) (ty:=ty) (t:=t) (t' :=t') hx hy;rwa [decide_eq_false (by simp)] at h
end Go.SL
namespace Go.SL
open Go Go.Proofs
attribute [local irreducible] W WL WQ WG WA VOp thn blk aW aJ FnAt FnIn GV
def aT:List Nd:= [k2,k3,j7,k6]
end Go.SL
namespace Go.SL
open Go
def onC (X:Nx) (v:Nat):Prop:= ∃ k∈aj X v,Rch X k v
def cu (X:Nx) (p:List Nat):List Nat:=if 1<p.length∨(p[0]?).getD 0∈aj X ((p[0]?).getD 0) then p else []
theorem xn: ∀ {p:List Nat} {v:Nat},¬ 1<p.length→v∈p→p= [v]
 | [],_,_,hv=>by cases hv
 | [a],_,_,hv=>by rw [Iz.1 hv]
 |a::b::l,_,hl,_=>absurd (by simp only [IU];omega) hl
structure TjEnd (X:Nx) (O:List (List Nat)):Prop where
 prt: ∀ v,v<X.length→ ∃ p∈O,v∈p
 lt: ∀ p∈O,∀ v∈p,v<X.length
 scc: ∀ p∈O,p≠ []∧p.Pairwise (· < ·)∧ ∀ v∈p,∀ u,u∈p↔(Rch X v u∧Rch X u v)
 dis:O.Pairwise fun p q=> ∀ v∈p,v∉q
theorem TjOk.fin {X:Nx} {S:Tj} (h:TjOk X S) (h0:S.stk= []) (hv: ∀ v,v<X.length→S.n v≠0):TjEnd X S.out:=
 ⟨fun v hl=>(h.prt v).2 ⟨hv v hl,by rw [h0];exact K6⟩,fun p hp v hm=>h.nlt ((h.prt v).1 ⟨p,hp,hm⟩).1,h.scc,h.dis⟩
theorem Df {p q:List Nat} (h: ∀ v∈p,v∉q): ∀ v∈q,v∉p:=fun v hq hp=>h v hp hq
theorem TjEnd.perm {X:Nx} {O P:List (List Nat)} (h:TjEnd X O) (hp:P.Perm O):TjEnd X P:=
 ⟨fun v hl=>by obtain ⟨p,h1,h2⟩:=h.prt v hl;exact ⟨p,hp.mem_iff.2 h1,h2⟩,fun p hm=>h.lt p (hp.mem_iff.1 hm),fun p hm=>h.scc p (hp.mem_iff.1 hm),(hp.pairwise_iff fun h=>Df h).2 h.dis⟩
theorem TjEnd.loop {X:Nx} {O:List (List Nat)} (h:TjEnd X O) {v:Nat}:v∈O.flatMap (cu X)↔v<X.length∧onC X v:=by
 rw [KK];constructor
 ·rintro ⟨p,hp,hv⟩;unfold cu at hv;split at hv
  ·rename_i hc;obtain ⟨hne,hs,hm⟩:=h.scc p hp;refine ⟨h.lt p hp v hv,?_⟩;have h2:1<p.length∨((p[0]?).getD 0=v∧v∈aj X v):=by
    by_cases hl:1<p.length
    ·exact .inl hl
    ·have hc:=hc.resolve_left hl;have h1:p= [v]:=xn hl hv;rw [h1] at hc;exact .inr ⟨by rw [h1];rfl,hc⟩
   rcases h2 with hl|⟨_,h2⟩
   ·obtain ⟨u,hu,hne⟩: ∃ u∈p,u≠v:=by
     match p,hl,hs with
     |a::b::_,_,hs=>
      have hab:a<b:=(Jv.1 hs).1 b (Iu ..);by_cases e:a=v
      ·exact ⟨b,by simp,by omega⟩
      ·exact ⟨a,by simp,e⟩
    obtain ⟨h1,h2⟩:=(hm v hv u).1 hu
    cases h1 with
    |refl _=>exact absurd rfl hne
    |step hk r=>exact ⟨_,hk,r.trans h2⟩
   ·exact ⟨v,h2,.refl v⟩
  ·cases hv
 ·rintro ⟨hl,k,hk,r⟩;obtain ⟨p,hp,hv⟩:=h.prt v hl;obtain ⟨hne,hs,hm⟩:=h.scc p hp;have hkp:k∈p:=(hm v hv k).2 ⟨.one hk,r⟩;refine ⟨p,hp,?_⟩;unfold cu;rw [if_pos]
  ·exact hv
  by_cases hl:1<p.length
  ·exact .inl hl
  ·have h1:p= [v]:=xn hl hv;rw [h1] at hkp ⊢;rw [Iz.1 hkp] at hk;exact .inr hk
theorem qW {X:Nx} {p:List Nat} {v:Nat} (h:v∈cu X p):v∈p:=by
 unfold cu at h;split at h
 ·exact h
 ·cases h
theorem TjEnd.nodup {X:Nx} {O:List (List Nat)} (h:TjEnd X O):(O.flatMap (cu X)).Nodup:=by
 have hs: ∀ p∈O,p.Nodup:=fun p hp=>(h.scc p hp).2.1.imp fun hab e=>by rw [e] at hab;exact JO _ hab
 have hd:=h.dis;clear h
 induction O with
 |nil=>exact Kh
 |cons p O ih=>
  rw [I8];rw [Jv] at hd;refine J8.2 ⟨?_,ih (fun q hq=>hs q (IB _ hq)) hd.2,fun a ha b hb e=> ?_⟩
  ·unfold cu;split
   ·exact hs p (Iu ..)
   ·exact Kh
  ·obtain ⟨q,hq,hbq⟩:=KK.1 hb;rw [← e] at hbq;exact hd.1 q hq a (qW ha) (qW hbq)
end Go.SL
namespace Go.SL
open Go Go.RowKit
section
variable {P:Program} {n:Fr} {w0:World} {Q:aO} {s:au} {H:List Blk} {rest:List Oper} {ty:TypeId} {p:String} {af:Array Edge}
theorem jr {x ix:Operand} {t e m j:Nat} {xs:List Value} {v:Value} {k:IntKind} [ht:Und P t (.array m e)] [he:One P e] [hz:Size P e 1] (hx:ev s x=some (.agg xs.toArray)) (hi:ev s ix=some (.int k (j:Nat))) (hj:j<m) (hv:xs[j]? =some v):
 VOp P w0 s H (.index t x ix) ty v:=fun ρ w _ _ _ _ hρ _=>by
 obtain ⟨i,h1,h2⟩:=hz.out;obtain ⟨d,h3,h4⟩:=he.out;have h0:(0:Int)≤(j:Int):=by omega
 have hj' :((j:Nat):Int)<((m:Nat):Int):=by omega
 simp only [execOp,hρ x _ hx,hρ ix _ hi,Instr.index,asIntOf,run_underlying ht.out,sizeOf,typeInfo,part,isAgg,run_underlying h3,Sem.run_bind,Sem.run_pure,Result.andThen_ok,h0,hj',and_self,if_true,h1,h2,KZ,Jd,I0,hv];cases d<;>simp_all
theorem tZ {x:Operand} {t e m g o sz:Nat} [ht:Und P t (.array m e)] [hz:Size P e sz] (hx:ev s x=some (.pointer (some ⟨g,o,none⟩))):
 VOp P w0 s H (.slice t x none none none) ty (.slice (some ⟨g,o,none⟩) m m):=fun ρ w _ _ _ _ hρ _=>by
 obtain ⟨i,h1,h2⟩:=hz.out;have ha:(⟨g,o,none⟩:Addr).add 0=⟨g,o,none⟩:=by rw [bA];simp
 simp [execOp,hρ x _ hx,Instr.sliceAt,run_underlying ht.out,Instr.sliceBounds,Instr.sureAddr,sizeOf,typeInfo,h1,ha]
theorem tT {d t e m:Nat} {ps:List (Nat × Operand)} {vs xs zs:List Value} {ops:Array Oper} [ht:Und P t (.array m e)] [he:Size P e 1] [hz:ZeroC P t zs] (hn:Nat.blt d n.sz=true) (hps:evd s ps 0=some vs)
 (hl:Nat.beq vs.length zs.length=true) (h1:vs.all (fun v=>Nat.beq v.cells.size 1)=true) (hx:o4 (nD vs)=some xs) (k:WL P n w0 ops rest Q ((d,.agg xs.toArray)::s) H):
 WL P n w0 ops (⟨some d,.build t ps.toArray,ty,p,af,none⟩::rest) Q s H:=by
 refine nG rfl d rfl hn (fun a w hs hm=> ?_) k;obtain ⟨it,z,i1,i2,i3⟩:=hz.out;obtain ⟨ie,j1,j2⟩:=he.out;have hall: ∀ v∈vs,v.cells.size=1:=by
  intro v hv;exact I9 (JR.1 h1 v hv)
 have hlen:=I9 hl;have hfill:=Great.fill_whole (s:=1) (by omega) vs z.cells hall (by rw [i3];simp [hlen]);rw [← nO hs hps] at hfill;have hb:P.built t (ps.map fun (x:Nat × Operand)=>(x.1,a.eval x.2))=some (nD vs).toArray:=by
  unfold Program.built;simp only [i1,ht.out,i2,j1,j2];exact hfill
 have hr:=run_build (P:=P) w t (ps.map fun (x:Nat × Operand)=>(x.1,a.eval x.2)).toArray (nD vs).toArray (by simpa using hb);rw [fB hx];simp only [execOp,JU];simp only [Sem.run_bind,hr,Result.andThen_ok,Sem.run_pure]
theorem zq {x:Operand} {t t' :TypeId} {k k' :IntKind} {a c:Int} {d:TypeDesc} [hs:Und P t d] [hd:Und P t' (.int k')] (hx:ev s x=some (.int k a)) (hw:k'.wrap a=c):VOp P w0 s H (.convert t t' x) ty (.int k' c):=by
 have h:=BO (P:=P) (w0:=w0) (H:=H) (ty:=ty) (t:=t) (t' :=t') hx;rwa [hw] at h
theorem eJ {x y:Operand} {k:IntKind} {a b c:Int} {t t' :TypeId} (hx:ev s x=some (.int k a)) (hy:ev s y=some (.int k b)) (hw:k.wrap (a+b)=c):VOp P w0 s H (.binOp .add t x y t') ty (.int k c):=by
 have h:=wS (P:=P) (w0:=w0) (H:=H) (ty:=ty) (t:=t) (t' :=t') hx hy;rwa [hw] at h
theorem gT {x y:Operand} {k:IntKind} {a b c:Int} {t t' :TypeId} (hx:ev s x=some (.int k a)) (hy:ev s y=some (.int k b)) (hw:k.wrap (a - b)=c):VOp P w0 s H (.binOp .sub t x y t') ty (.int k c):=by
 have h:=FR (P:=P) (w0:=w0) (H:=H) (ty:=ty) (t:=t) (t' :=t') hx hy;rwa [hw] at h
theorem jK {a:Int} (h1:0≤a) (h2:a≤255):IntKind.u8.wrap a=a:=by
 simp [IntKind.wrap,IntKind.bits,IntKind.signed]<;>omega
theorem Reads.of_box {w:World} {g t:Nat} {xs:List Value} (hm:Mem w0 w H) (hi:In (.box g t xs) H) (hl:Nat.ble xs.length maxLen=true):Reads w (.slice (some ⟨g,0,none⟩) xs.length xs.length) xs.length xs:=by
 have h1:=hm.cells_box hi;refine ⟨_,xs.length,rfl,IK _,by simpa using hl,fun _=>⟨g,0,rfl,?_,h1⟩⟩;have h2:=(hm.on _ hi.mem).1;simp only [Blk.on] at h2;exact (IW.1 h2).1
end
end Go.SL
namespace Go.SL
open Go
def gY (f:Nat→Nat) (i j k:Nat):Nat:=if k=i then f j else if k=j then f i else f k
def HpF (f:Nat→Nat) (n:Nat):Prop:= ∀ i,0<i→i<n→f ((i - 1) / 2)≤f i
structure UpH (f:Nat→Nat) (n j:Nat):Prop where
 a: ∀ i,0<i→i<n→i≠j→f ((i - 1) / 2)≤f i
 b:0<j→ ∀ i,0<i→i<n→(i - 1) / 2=j→f ((j - 1) / 2)≤f i
structure DnH (f:Nat→Nat) (n i:Nat):Prop where
 a: ∀ c,0<c→c<n→(c - 1) / 2≠i→f ((c - 1) / 2)≤f c
 b:0<i→ ∀ c,0<c→c<n→(c - 1) / 2=i→f ((i - 1) / 2)≤f c
theorem UpH.done {f:Nat→Nat} {n j:Nat} (h:UpH f n j) (he:j=0∨f ((j - 1) / 2)≤f j):HpF f n:=fun i h0 hn=>by
 by_cases hij:i=j
 ·subst hij;omega
 ·exact h.a i h0 hn hij
theorem UpH.step {f:Nat→Nat} {n j:Nat} (h:UpH f n j) (hj:0<j) (hjn:j<n) (hl:f j<f ((j - 1) / 2)):UpH (gY f ((j - 1) / 2) j) n ((j - 1) / 2):=by
 have hp:(j - 1) / 2<j:=by omega
 generalize hpe:(j - 1) / 2=p at*;refine ⟨fun i h0 hn hip=> ?_,fun h0p i h0 hn hi=> ?_⟩
 ·have ha:=h.a i h0 hn;have hb:=h.b hj i h0 hn;have hq:(i - 1) / 2<i:=by omega
  unfold gY;by_cases hij:i=j
  ·subst hij;rw [hpe,if_pos rfl,if_neg (by omega),if_pos rfl];omega
  ·have ha' :=ha hij;rw [if_neg hip,if_neg hij];by_cases hqp:(i - 1) / 2=p
   ·rw [if_pos hqp];rw [hqp] at ha';omega
   ·rw [if_neg hqp];by_cases hqj:(i - 1) / 2=j
    ·rw [if_pos hqj];rw [hpe] at hb;exact hb hqj
    ·rw [if_neg hqj];exact ha'
 ·have hap:=h.a p h0p (by omega) (by omega);unfold gY;rw [if_neg (by omega),if_neg (by omega),if_neg (by omega)];by_cases hij:i=j
  ·rw [if_pos hij];exact hap
  ·rw [if_neg hij];have:=h.a i h0 hn hij;rw [hi] at this;omega
theorem DnH.done {f:Nat→Nat} {n i:Nat} (h:DnH f n i) (he: ∀ c,0<c→c<n→(c - 1) / 2=i→f i≤f c):HpF f n:=fun c h0 hn=>by
 by_cases hc:(c - 1) / 2=i
 ·rw [hc];exact he c h0 hn hc
 ·exact h.a c h0 hn hc
theorem DnH.step {f:Nat→Nat} {n i j:Nat} (h:DnH f n i) (hj:0<j) (hjn:j<n) (hp:(j - 1) / 2=i) (hmin: ∀ c,0<c→c<n→(c - 1) / 2=i→f j≤f c) (hl:f j<f i):DnH (gY f i j) n j:=by
 have hij:i<j:=by omega
 refine ⟨fun c h0 hn hcj=> ?_,fun _ c h0 hn hc=> ?_⟩
 ·have hq:(c - 1) / 2<c:=by omega
  unfold gY;by_cases hc:c=j
  ·subst hc;rw [hp,if_pos rfl,if_neg (by omega),if_pos rfl];omega
  ·by_cases hqi:(c - 1) / 2=i
   ·rw [if_pos hqi,if_neg (by omega),if_neg hc];exact hmin c h0 hn hqi
   ·rw [if_neg hqi,if_neg hcj];by_cases hci:c=i
    ·rw [if_pos hci];subst hci;exact h.b h0 j hj hjn hp
    ·rw [if_neg hci,if_neg hc];exact h.a c h0 hn hqi
 ·unfold gY;rw [hp,if_pos rfl,if_neg (by omega),if_neg (by omega)];have:=h.a c h0 hn (by omega);rwa [hc] at this
theorem HpF.min {f:Nat→Nat} {n:Nat} (h:HpF f n): ∀ i,i<n→f 0≤f i:=by
 intro i
 induction i using Nat.strongRecOn with
 |_ i ih=>
  intro hn;by_cases h0:i=0
  ·subst h0;exact IK _
  ·exact Je (ih ((i - 1) / 2) (by omega) (by omega)) (h i (by omega) hn)
theorem HpF.push {f g:Nat→Nat} {n:Nat} (h:HpF f n) (hg: ∀ i,i<n→g i=f i):UpH g (n+1) n:=
 ⟨fun i h0 hn hne=>by rw [hg _ (by omega),hg _ (by omega)];exact h i h0 (by omega),fun _ i h0 hn hi=>by omega⟩
theorem HpF.pop {f g:Nat→Nat} {n:Nat} (h:HpF f (n+1)) (hg: ∀ i,0<i→i<n→g i=f i):DnH g n 0:=
 ⟨fun c h0 hn hne=>by rw [hg _ (by omega) (by omega),hg _ (by omega) hn];exact h c h0 (by omega),fun h0=>absurd h0 (JO 0)⟩
def atN (L:List Nat) (i:Nat):Nat:=(L[i]?).getD 0
def swapN (L:List Nat) (i j:Nat):List Nat:=(L.set i (atN L j)).set j (atN L i)
theorem l4 (L:List Nat) (i j:Nat):(swapN L i j).length=L.length:=by simp [swapN]
theorem oI {L:List Nat} {i j:Nat} (hi:i<L.length) (hj:j<L.length) (k:Nat):atN (swapN L i j) k=gY (atN L) i j k:=by
 unfold swapN gY;unfold atN;rw [fa,fa,Jo];by_cases h1:j=k
 ·subst h1;by_cases h2:j=i
  ·subst h2;simp [hj]
  ·rw [if_pos ⟨rfl,hj⟩,if_neg h2,if_pos rfl]
 ·rw [if_neg (fun h=>h1 h.1)];by_cases h2:i=k
  ·subst h2;rw [if_pos ⟨rfl,hi⟩,if_pos rfl]
  ·rw [if_neg (fun h=>h2 h.1),if_neg (fun h=>h2 h.symm),if_neg (fun h=>h1 h.symm)]
theorem rk {L:List Nat} {i:Nat} (h:i<L.length) (x a:Nat):(L.set i x).count a+(if atN L i=a then 1 else 0)=L.count a+(if x=a then 1 else 0):=by
 induction L generalizing i with
 |nil=>cases h
 |cons b l ih=>
  cases i with
  |zero=>
   simp only [List.set_cons_zero,atN,K4,KI,List.count_cons];by_cases h1:b=a<;>by_cases h2:x=a<;>simp [h1,h2]
  |succ i=>
   have:=ih (i:=i) (by simpa using h);simp only [KV,List.count_cons];simp only [atN,Kz] at this ⊢;by_cases h3:(l[i]?).getD 0=a<;>by_cases h4:x=a<;>by_cases h1:b=a<;>simp [h1,h3,h4] at this ⊢ <;>omega
theorem kH {L:List Nat} {i j:Nat} (hi:i<L.length) (hj:j<L.length):(swapN L i j).Perm L:=by
 rw [List.perm_iff_count];intro a;have h1:=rk hi (atN L j) a;have h2:=rk (L:=L.set i (atN L j)) (i:=j) (by simpa using hj) (atN L i) a;have h3:atN (L.set i (atN L j)) j=atN L j:=by
  unfold atN;rw [fa];split<;>rfl
 rw [h3] at h2;unfold swapN;omega
end Go.SL
namespace Go.SL
open Go Go.RowKit
def fk (v:Value):List PanicEntry:= [{ v,recovered:=false }]
def FnP (P:Program) (f:FuncId) (args:List Value) (w0:World) (H:List Blk) (R D:Value→List Blk→Prop):Prop:=
 ∀ w,Mem w0 w H→Calls P f args.toArray w fun e w' =>(∃ v H',e= .returned v∧Mem w0 w' H' ∧R v H')∨(∃ v H',e= .panicked (fk v)∧Mem w0 w' H' ∧D v H')
theorem FnP.msub {P:Program} {f:FuncId} {args:List Value} {w0:World} {H H' :List Blk} {R D:Value→List Blk→Prop} (h:FnP P f args w0 H' R D) (hs:MSub H' H):FnP P f args w0 H R D:=fun w hm=>h w (hs.use hm)
def aS (P:Program) (fn:Func) (n:Fr) (w0:World) (R D:Value→List Blk→Prop):aO:=fun e s H=>
 aJ P fn n w0 R e s H∨ ∃ v H',e= .panic (fk v)∧MSub H' H∧D v H'
section
variable {P:Program} {n:Fr} {w0:World} {Q:aO} {s:au} {H:List Blk} {l rest:List Oper} {ty:TypeId} {p:String} {af:Array Edge}
theorem aK {d:Nat} {ops:Array Oper} {f:FuncId} {xs:List Operand} {vs:List Value} {ts:Array TypeId} {R D:Value→List Blk→Prop} [Callable P f] (hn:Nat.blt d n.sz=true) (hx:evs s xs=some vs)
 (hF:FnP P f vs w0 H R D) (k: ∀ v H',R v H' →WL P n w0 ops rest Q ((d,v)::s) H') (kd: ∀ v H',D v H' →Q (.panic (fk v)) s H'):
 WL P n w0 ops (⟨some d,.call { callee:= .value (.func f),args:=xs.toArray,argTypes:=ts },ty,p,af,none⟩::rest) Q s H:=by
 intro a w hs hm;refine wpList_plain rfl fun K hK=> ?_;have hr:=ju (P:=P) (w:=w) (ρ:=a.eval) (d:=some d) (ty:=ty) (p:=p) (af:=af) (g:=none) (f:=f) (c:= .func f) (xs:=xs) (caps:= []) (ts:=ts) rfl (ez hs hx);rw [I3] at hr;simp only [Oper.wp,hr,Oper.upon];refine (hF w hm).mono ?_;rintro e w' (⟨v,H',rfl,hm',hR⟩|⟨v,H',rfl,hm',hD⟩)
 ·exact hK _ _ (k v H' hR _ _ (hs.put (Jf ▸ hn) _) hm')
 ·exact ⟨s,H',hs,hm',kd v H' hD⟩
theorem Bm {d:Option Tmp} {ops:Array Oper} {x:Operand} {t:TypeId} {v:Value} (hx:ev s x=some (.iface t v)) (h:Q (.panic (fk (.iface t v))) s H):
 WL P n w0 ops (⟨d,.panic x,ty,p,af,none⟩::rest) Q s H:=by
 intro a w hs hm;refine wpList_plain rfl fun K hK=> ?_;have hr:(execOp a.eval ⟨d,.panic x,ty,p,af,none⟩).run P w= .halt (.panic (.iface t v)) w:=by
  simp only [execOp,hs.eval x _ hx]
  rfl
 simp only [Oper.wp,hr,Oper.upon];exact ⟨s,H,hs,hm,h⟩
theorem Hq {K:au→List Blk→Prop} {c:List PanicEntry} (h:Q (.panic c) s H):thn K Q (.panic c) s H:=h
theorem HZ {id:Nat} {c:List PanicEntry} (h:Q (.panic c) s H):blk id Q (.panic c) s H:=h
theorem HW {ι:Type} {sI:ι→au} {HI:ι→List Blk} {ok:ι→Prop} {c:List PanicEntry} (h:Q (.panic c) s H):aW sI HI ok Q (.panic c) s H:=h
theorem HN {fn:Func} {R D:Value→List Blk→Prop} {e:Exit} (h:aJ P fn n w0 R e s H):aS P fn n w0 R D e s H:= .inl h
theorem Fz {fn:Func} {R D:Value→List Blk→Prop} {v:Value} {H' :List Blk} (hs:MSub H' H) (h:D v H'):aS P fn n w0 R D (.panic (fk v)) s H:= .inr ⟨v,H',rfl,hs,h⟩
theorem pN {m:Nat} {f:FuncId} {fn:Func} {c:Code} {args:List Value} {R D:Value→List Blk→Prop} (hf:P.funcs[f]? =some fn) (hb:fn.body=some c) (hn:fn.ntmps=m) (hle:Nat.ble args.length m=true)
 (h:W P ⟨m,[]⟩ w0 c (aS P fn ⟨m,[]⟩ w0 R D) (mf args 0) H):FnP P f args w0 H R D:=by
 intro w hm;have hle' :args.length≤m:=by simpa using hle
 refine calls_of_wp hf hb (wp_mono (h { tmps:=args.toArray++Array.replicate (fn.ntmps - args.toArray.size) undef,defers:= [] } w ⟨?_,rfl,?_⟩ hm) ?_)
 ·simp [hn];omega
 ·intro t v ht;rw [ij] at ht;simp only [Iw,if_true,JJ] at ht;have hlt:t<args.length:=(IQ.1 ht).1;rw [Ju (by simpa using hlt)];simpa using ht
 ·rintro e a w' ⟨s',H',hs,hm',hq⟩;rcases hq with ⟨he,v,H'',hsub,hr,hR⟩|⟨v,H'',rfl,hsub,hD⟩
  ·have hp:a.defers= []∧ ∃ v,(results fn a.tmps).run P w' = .ok v w' ∧((∃ v1 H1,Ending.returned v= .returned v1∧Mem w0 w' H1∧R v1 H1)∨(∃ v1 H1,Ending.returned v= .panicked (fk v1)∧Mem w0 w' H1∧D v1 H1)):=
    ⟨hs.defers,v,hr a w' hs hm',.inl ⟨v,H'',rfl,hsub.use hm',hR⟩⟩
   rcases he with rfl|rfl<;>exact hp
  ·exact ⟨hs.defers,.inr ⟨v,H'',rfl,hsub.use hm',hD⟩⟩
end
section
variable {P:Program} {n:Fr} {w0:World} {Q:aO} {K:au→Prop} {s:au} {H:List Blk} {l rest:List Oper} {ty:TypeId} {p:String} {af:Array Edge}
theorem Ro.of_box {w:World} {g t:Nat} {xs:List Value} (hm:Mem w0 w H) (hi:In (.box g t xs) H):Ro w g 0 xs:=⟨Blk.key_lt (hm.on _ hi.mem).1 rfl,hm.cells_box hi⟩
theorem Ro.next {w w' :World} {H' :List Blk} {g o:Nat} {xs:List Value} (h:Ro w g o xs) (hm:Mem w w' H'):Ro w' g o xs:=Ro.of_ro hm h
theorem iP {f:FuncId} {bs:List Operand} {vs:List Value} (hc:evs s bs=some vs):VOp P w0 s H (.makeFunc (.func f) bs.toArray #[]) ty (.func (.func f) vs.toArray #[]):=fun ρ w _ _ _ _ hρ _=>by
 have h: ∀ {xs:List Operand} {vs:List Value},evs s xs=some vs→xs.map ρ=vs:=by
  intro xs
  induction xs with
  |nil=>intro vs h;simp only [evs,Option.some.injEq] at h;simp [← h]
  |cons x r ih=>
   intro vs h;simp only [evs] at h;split at h
   ·rename_i v us hv hr;simp only [Option.some.injEq] at h;subst h;simp [hρ x v hv,ih hr]
   ·cases h
 simp [execOp,Instr.makeFunc,← h hc]
theorem qM {ρ:Operand→Value} {w:World} {d:Option Tmp} {g:Option (Nat × Bool)} {f:FuncId} {c:Operand} {xs:List Operand} {vs bs:List Value} {ts:Array TypeId} [hf:Callable P f] (hc:ρ c= .func (.func f) bs.toArray #[]) (hx:xs.map ρ=vs):
 (execOp ρ ⟨d,.call { callee:= .value c,args:=xs.toArray,argTypes:=ts },ty,p,af,g⟩).run P w= .ok (.enter f (bs++vs).toArray) w:=by
 simp [execOp,resolve,hc,Deferred.ofValue,invoke,← hx,hf.out]
theorem Bs {d:Nat} {ops:Array Oper} {f:FuncId} {c:Operand} {xs:List Operand} {vs bs:List Value} {ts:Array TypeId} {R:Value→List Blk→Prop} (hn:Nat.blt d n.sz=true) (hc:ev s c=some (.func (.func f) bs.toArray #[])) (hfc:Callable P f) (hx:evs s xs=some vs)
 (hF:FnIn P f (bs++vs) w0 H R) (k: ∀ v H',R v H' →WL P n w0 ops rest Q ((d,v)::s) H'):
 WL P n w0 ops (⟨some d,.call { callee:= .value c,args:=xs.toArray,argTypes:=ts },ty,p,af,none⟩::rest) Q s H:=by
 intro a w hs hm;refine wpList_plain rfl fun K hK=> ?_;have hr:=qM (P:=P) (w:=w) (ρ:=a.eval) (d:=some d) (ty:=ty) (p:=p) (af:=af) (g:=none) (f:=f) (c:=c) (xs:=xs) (bs:=bs) (ts:=ts) (hs.eval c _ hc) (ez hs hx);simp only [Oper.wp,hr,Oper.upon];refine (hF w hm).mono ?_;rintro e w' ⟨v,H',rfl,hm',hR⟩;exact hK _ _ (k v H' hR _ _ (hs.put (Jf ▸ hn) _) hm')
theorem lW {d:Nat} {ops:Array Oper} {f:FuncId} {c:Operand} {xs:List Operand} {vs bs:List Value} {v:Value} {ts:Array TypeId} (hn:Nat.blt d n.sz=true) (hc:ev s c=some (.func (.func f) bs.toArray #[])) (hfc:Callable P f) (hx:evs s xs=some vs)
 (hF: ∀ w,Mem w0 w H→aC P f (bs++vs) w v) (k:WL P n w0 ops rest Q ((d,v)::s) H):
 WL P n w0 ops (⟨some d,.call { callee:= .value c,args:=xs.toArray,argTypes:=ts },ty,p,af,none⟩::rest) Q s H:=
 Bs hn hc hfc hx (FnIn.of_at hF) fun u H' ⟨H1,h1,h2⟩=>by
  subst h1;subst h2;exact rK ⟨H1,I2⟩ k
theorem wP {x:Operand} {t u e T m c:Nat} {A:Option Nat} {ns:List Int} [hs:Und P t (.slice e)] [he:Und P e (.int .u8)] [hd:Und P u .string] (hx:ev s x=some (sl A m c)) (hi:In (.own A T 1 m c (ns.map (Value.int .u8))) H) (hl:ns.length=m):
 VOp P w0 s H (.convert t u x) ty (.string (mkB ns)):=fun ρ w _ _ _ _ hρ hm=>by
 have h3:ns.foldl (fun r n=>r.push (UInt8.ofNat n.toNat)) ByteArray.empty=mkB ns:=by
  have h4:=qQ ns ByteArray.empty;generalize ns.foldl (fun r n=>r.push (UInt8.ofNat n.toNat)) ByteArray.empty=b at h4 ⊢;obtain ⟨⟨l⟩⟩:=b;simp only at h4;simp [h4,mkB]
 have h2:(Conv.bytesToString (.slice (A.map fun g=>(⟨g,0,none⟩:Addr)) m c)).run P w= .ok (.string (mkB ns)) w:=by
  cases A with
  |none=>
   obtain ⟨_,_,_,h4,_⟩:=(hm.on _ hi.mem).1;subst h4;have:ns= []:=JX.1 hl;subst this
   rfl
  |some g=>
   have hc:=hm.cells_own hi;have h1:=run_loadCells_list (P:=P) w ⟨g,0,none⟩ (ns.map (Value.int .u8)) (fun j v hv=>by rw [bA];exact hc j v hv);rw [II,hl] at h1;have h2:=run_bytesToString (P:=P) w ⟨g,0,none⟩ m c ns h1;rw [h3] at h2;exact h2
 simp only [execOp,hρ x _ hx,sl,Sem.run_bind,run_convert_bytes_string w t u e _ _ _ hs.out he.out hd.out,h2,Result.andThen_ok,Sem.run_pure]
theorem Gw {ι:Type} {sI:ι→au} {HI:ι→List Blk} {ok:ι→Prop} (h:gJ Q):gJ (aW sI HI ok Q):=fun c s H hq=>h c s H hq
theorem qB {K:au→Prop} {d:Nat} {ops:Array Oper} {f:FuncId} {c:Operand} {xs:List Operand} {vs caps:List Value} {v:Value} {ts:Array TypeId} (hn:Nat.blt d n.sz=true) (hc:ev s c=some (.func (.func f) #[] caps.toArray)) (hfc:Callable P f) (hx:evs s xs=some vs)
 (hF: ∀ w,Mem w0 w H→aC P f (vs++caps) w v) (k:WQ P n w0 ops rest K ((d,v)::s) H):
 WQ P n w0 ops (⟨some d,.call { callee:= .value c,args:=xs.toArray,argTypes:=ts },ty,p,af,none⟩::rest) K s H:=by
 intro a hs;unfold wpQuiet;simp only [Region.wanted,if_true];refine ⟨v,fun w hm=> ?_,k _ (hs.put (Jf ▸ hn) v)⟩;unfold Oper.quietAt;have hr:=ju (P:=P) (w:=w) (ρ:=a.eval) (d:=some d) (ty:=ty) (p:=p) (af:=af) (g:=none) (f:=f) (c:=c) (xs:=xs) (caps:=caps) (ts:=ts) (hs.eval c _ hc) (ez hs hx);rw [hr];refine ⟨rfl,Calls.mono (hF w hm) ?_⟩;rintro e w' ⟨u,H',rfl,hm',rfl⟩;exact ⟨rfl,(hm.call hm').right⟩
theorem MSub.swap {H1 C:List Blk}:MSub (H1++C) (C++H1):=⟨[],by simpa using I2⟩
theorem MSub.swapN {H1 C:List Blk}:MSub (H1++(C++ [])) (C++H1):=⟨[],by simpa using I2⟩
theorem MSub.swapN' {H1 C:List Blk}:MSub (C++H1) (H1++(C++ [])):=⟨[],by simpa using I2⟩
theorem yo {ι:Type} {sb:au} {id:Nat} {ops:Array Oper} {d:Bool} {y z:Code} (ts:List Nat) (hk:xC s ts=some sb) (sI:ι→au) (ok:ι→Prop) (h:W P n w0 (.seq (.region id ops d) y) (aW (fun i=>sI i++sb) (fun _=>H) ok Q) s H) (k: ∀ i,ok i→W P n w0 z Q (sI i++sb) H):
 W P n w0 (.seq (.region id ops d) y) (thn (W P n w0 z Q) Q) s H:=
 og _ _ _ h k
theorem lY {x:Operand} {a:ByteArray} {m t:Nat} [ht:Und P t .string] (hx:ev s x=some (.string a)) (h:a.size=m):VOp P w0 s H (.call { callee:= .builtin .len,args:= #[x],argTypes:= #[t] }) ty (.int .i64 (m:Int)):=h ▸ BL hx
def scp (Q:aO):aO
 | .goto _,_,_=>False
 |e,s,H=>Q e s H
theorem DI {c:Code} (h:W P n w0 c (scp Q) s H):W P n w0 (.scope c) Q s H:=by
 intro a w hs hm;refine wp_scope_straight (wp_mono (h a w hs hm) ?_);rintro e a' w' ⟨s',H',h1,h2,h3⟩
 cases e with
 |goto l=>exact h3.elim
 |_=>exact ⟨s',H',h1,h2,h3⟩
theorem DJ {i:Nat} (h:Q .normal s H):W P n w0 (.label i) Q s H:=fun _ _ hs hm=>wp_label ⟨s,H,hs,hm,h⟩
theorem HK (h:Q .ret s H):scp Q .ret s H:=h
end
section
variable {P:Program} {n:Fr} {w0:World} {Q:aO} {s:au} {H:List Blk} {l rest:List Oper} {ty:TypeId} {p:String} {af:Array Edge}
theorem zh {d:Nat} {ops:Array Oper} {f:FuncId} {c:Operand} {xs:List Operand} {vs bs:List Value} {ts:Array TypeId} {R D:Value→List Blk→Prop} (hn:Nat.blt d n.sz=true) (hc:ev s c=some (.func (.func f) bs.toArray #[])) (hfc:Callable P f) (hx:evs s xs=some vs)
 (hF:FnP P f (bs++vs) w0 H R D) (k: ∀ v H',R v H' →WL P n w0 ops rest Q ((d,v)::s) H') (kd: ∀ v H',D v H' →Q (.panic (fk v)) s H'):
 WL P n w0 ops (⟨some d,.call { callee:= .value c,args:=xs.toArray,argTypes:=ts },ty,p,af,none⟩::rest) Q s H:=by
 intro a w hs hm;refine wpList_plain rfl fun K hK=> ?_;have hr:=qM (P:=P) (w:=w) (ρ:=a.eval) (d:=some d) (ty:=ty) (p:=p) (af:=af) (g:=none) (f:=f) (c:=c) (xs:=xs) (bs:=bs) (ts:=ts) (hs.eval c _ hc) (ez hs hx);simp only [Oper.wp,hr,Oper.upon];refine (hF w hm).mono ?_;rintro e w' (⟨v,H',rfl,hm',hR⟩|⟨v,H',rfl,hm',hD⟩)
 ·exact hK _ _ (k v H' hR _ _ (hs.put (Jf ▸ hn) _) hm')
 ·exact ⟨s,H',hs,hm',kd v H' hD⟩
theorem zH {ρ:Operand→Value} {w:World} {d:Option Tmp} {g:Option (Nat × Bool)} {f:FuncId} {c:Operand} {xs:List Operand} {vs bs caps:List Value} {ts:Array TypeId} (hf:Callable P f) (hc:ρ c= .func (.func f) bs.toArray caps.toArray) (hx:xs.map ρ=vs):
 (execOp ρ ⟨d,.call { callee:= .value c,args:=xs.toArray,argTypes:=ts },ty,p,af,g⟩).run P w= .ok (.enter f (bs++(vs++caps)).toArray) w:=by
 simp [execOp,resolve,hc,Deferred.ofValue,invoke,← hx,hf.out]
theorem qC {d:Nat} {ops:Array Oper} {f:FuncId} {c:Operand} {xs:List Operand} {vs bs caps:List Value} {ts:Array TypeId} {R D:Value→List Blk→Prop} (hn:Nat.blt d n.sz=true) (hc:ev s c=some (.func (.func f) bs.toArray caps.toArray)) (hfc:Callable P f) (hx:evs s xs=some vs)
 (hF:FnP P f (bs++(vs++caps)) w0 H R D) (k: ∀ v H',R v H' →WL P n w0 ops rest Q ((d,v)::s) H') (kd: ∀ v H',D v H' →Q (.panic (fk v)) s H'):
 WL P n w0 ops (⟨some d,.call { callee:= .value c,args:=xs.toArray,argTypes:=ts },ty,p,af,none⟩::rest) Q s H:=by
 intro a w hs hm;refine wpList_plain rfl fun K hK=> ?_;have hr:=zH (P:=P) (w:=w) (ρ:=a.eval) (d:=some d) (ty:=ty) (p:=p) (af:=af) (g:=none) (f:=f) (c:=c) (xs:=xs) (bs:=bs) (caps:=caps) (ts:=ts) hfc (hs.eval c _ hc) (ez hs hx);simp only [Oper.wp,hr,Oper.upon];refine (hF w hm).mono ?_;rintro e w' (⟨v,H',rfl,hm',hR⟩|⟨v,H',rfl,hm',hD⟩)
 ·exact hK _ _ (k v H' hR _ _ (hs.put (Jf ▸ hn) _) hm')
 ·exact ⟨s,H',hs,hm',kd v H' hD⟩
class FldT (P:Program) (t f:Nat) (ft:outParam TypeId) (o:outParam Nat):Prop where
 out: ∃ fs fl,P.underlying t=some (.struct fs)∧fs[f]? =some fl∧fl.offset=o∧fl.type=ft
theorem gy {x:Operand} {t f o:Nat} {ft:TypeId} {cs:List Value} {v:Value} [hf:FldT P t f ft o] [ho:One P ft] (hx:ev s x=some (.agg cs.toArray)) (hi:cs[o]? =some v):
 VOp P w0 s H (.field t x f) ty v:=fun ρ w _ _ _ _ hρ _=>by
 obtain ⟨fs,fl,h1,h2,rfl,rfl⟩:=hf.out;obtain ⟨d,h5,h6⟩:=ho.out;have hp:(part fl.type cs.toArray fl.offset).run P w= .ok v w:=by
  cases d<;>simp_all [part,isAgg,run_underlying h5]
 simp [execOp,hρ x _ hx,Instr.field,run_underlying h1,h2,asAgg,hp]
end
end Go.SL

/-
  Lemmas and walks, put together: Sl7 W9 W10 Sl12 Sl10 Sl16 Sl37 Sl11 W32 Sl9 Sl18 Sl8 Sl23 Sl17 Sl22.
-/
import Derived.Test.YtoanpdoacdpgeaaGreatDoorKq02
set_option linter.unusedSimpArgs false
set_option linter.unusedVariables false
set_option maxRecDepth 20000
namespace Go.SL
open Go Go.RowKit
class Tidy (p:Prop) (q:outParam Prop):Prop where
 out:p→q
instance (priority:=10) tidySame {p:Prop}:Tidy p p:=⟨id⟩
instance tidyT {p q:Prop} [Decidable p] [h:Tidy p q]:Tidy (decide p=true) q:=⟨fun k=>h.out (of_decide_eq_true k)⟩
instance tidyF {p q:Prop} [Decidable p] [h:Tidy (¬ p) q]:Tidy (decide p=false) q:=⟨fun k=>h.out (of_decide_eq_false k)⟩
instance tidyNT {b:Bool} {q:Prop} [h:Tidy (b=false) q]:Tidy ((!b)=true) q:=⟨fun k=>h.out (by simpa using k)⟩
instance tidyNF {b:Bool} {q:Prop} [h:Tidy (b=true) q]:Tidy ((!b)=false) q:=⟨fun k=>h.out (by simpa using k)⟩
instance tidyLt {a b:Int}:Tidy (¬ a<b) (b≤a):=⟨Int.not_lt.1⟩
instance tidyLe {a b:Int}:Tidy (¬ a≤b) (b<a):=⟨Int.not_le.1⟩
section
variable {P:Program} {n:Fr} {w0:World} {Q:bU} {s:az} {H:List Blk} {l rest:List Oper} {ty:TypeId} {p:String} {af:Array Edge} {f:Nat} {L:Array Bool}
def WA (P:Program) (n:Fr) (w0:World) (l:List Oper) (Q:bU) (f:Nat) (L:Array Bool) (s:az) (H:List Blk):Prop:=
 ∀ a w,St n s a→Mem w0 w H→wpAny P .any l.toArray (post n w0 Q) f L a w
theorem jl {id:Nat} (N:Nat) (hN:l.length=N) (hm:P.follows .mixedOrders=true) (h:WA P n w0 l Q N (Array.replicate N false) s H):W P n w0 (.region id l.toArray true) Q s H:=by
 intro a w hs hmem
 subst hN
 refine wp_region_any hm ?_
 simpa using h a _ hs hmem.drew
theorem jk (hr:Region.ready .any l.toArray L= []) (h:Q .normal s H):WA P n w0 l Q f L s H:=by
 intro a w hs hm
 cases f with
 |zero=>exact ⟨hr,s,H,hs,hm,h⟩
 |succ f=>exact ⟨fun _=>⟨s,H,hs,hm,h⟩,fun i hi=>by rw [hr] at hi;cases hi⟩
def kA (Q:bU):Prop:= ∀ c s H,¬ Q (.panic c) s H
theorem Pq {K:az→List Blk→Prop} (h:kA Q):kA (thn K Q):=fun c s H hq=>h c s H hq
theorem Pu {id:Nat} (h:kA Q):kA (blk id Q):=fun c s H hq=>h c s H hq
theorem Pr {fn:Func} {R:Value→List Blk→Prop}:kA (aV P fn n w0 R):=fun c s H hq=>by
 obtain ⟨h|h,_⟩:=hq<;>cases h
theorem aR {i:Nat} {op:Op} {d:Nat} {v:Value} (hi:l[i]? =some ⟨some d,op,ty,p,af,none⟩) (hn:Nat.blt d n.sz=true) (hsel:Region.noSelect l.toArray=true) (hr:(Region.ready .any l.toArray L).contains i=true) (hf:Region.free .any l.toArray L i=true)
  (hnp:kA Q) (hv: ∀ w0 H,VOp P w0 s H op ty v) (h:WA P n w0 l Q f (L.setIfInBounds i true) ((d,v)::s) H):WA P n w0 l Q (f+1) L s H:=by
 intro a w hs hm
 have hi' :l.toArray[i]? =some ⟨some d,op,ty,p,af,none⟩:=by simpa using hi
 refine wpAny_first hi' (Region.noSelect_spec hsel) (v:=v) (fun c a' w' hq=> ?_) f L a w (Region.free_spec hi' hf) (by simpa using hr) (.inl ⟨rfl,fun w' =>hv w' [] a.eval w' _ _ _ _ hs.eval (Mem.refl w')⟩) (h _ _ (hs.put (Sd ▸ hn) v) hm)
 obtain ⟨s',H',h1,h2,h3⟩:=hq
 exact (hnp c s' H' h3).elim
theorem xo {o:Oper} {a:Act} {next next' :Act→World→Prop} {Q1 Q2:Exit→Act→World→Prop} {r:Result Next} (hn: ∀ a w,next a w→next' a w) (hp: ∀ c a w,Q1 (.panic c) a w→Q2 (.panic c) a w) (ho: ∀ a w,Q1 .outgrown a w→Q2 .outgrown a w) (h:o.upon P a next Q1 r):o.upon P a next' Q2 r:=by
  cases r with
  |ok x w' =>
    cases x<;>simp only [Oper.upon] at h ⊢ <;>first
      |exact hn _ _ h
      | (refine Calls.mono h fun e w'' he => ?_
         cases e with
         |returned v=>exact hn _ _ he
         |panicked c=>exact hp _ _ _ he
         |outgrown=>obtain ⟨a0,w0,h0⟩:=he;exact ⟨a0,w0,ho _ _ h0⟩)
      |exact Rows.mono h fun v w'' he=>hn _ _ he
  |halt x w' =>cases x<;>simp only [Oper.upon] at h ⊢ <;>exact hp _ _ _ h
theorem aG {i:Nat} {o:Oper} (hi:l[i]? =some o) (hr:Region.ready .any l.toArray L= [i]) (h:WL P n w0 l.toArray [o] (thn (WA P n w0 l Q f (L.setIfInBounds i true)) Q) s H):WA P n w0 l Q (f+1) L s H:=by
 intro a w hs hm
 refine ⟨fun h0=>(by rw [hr] at h0;cases h0),fun j hj=> ?_⟩
 rw [hr] at hj
 have e:j=i:=by simpa using hj
 subst e
 have h1:=h a w hs hm
 have hi' :l.toArray[j]? =some o:=by simpa using hi
 unfold wpOp
 simp only [hi']
 unfold wpList at h1
 have hnext: ∀ a w,wpList P l.toArray (post n w0 (thn (WA P n w0 l Q f (L.setIfInBounds j true)) Q)) [] a w→wpAny P .any l.toArray (post n w0 Q) f (L.setIfInBounds j true) a w:=by
  rintro a w ⟨s',H',h1,h2,h3⟩
  exact h3 a w h1 h2
 split
 ·
  rename_i hw
  rw [if_pos hw] at h1
  refine h1.imp (fun h2=>xo hnext (fun c a w h=>h) (fun a w h=>h) h2) fun ⟨h2,a0,w0,h3⟩=>⟨h2,a0,w0,h3⟩
 ·
  rename_i hw
  rw [if_neg hw] at h1
  exact hnext _ _ h1
theorem lJ {t e lo hi m c sz:Nat} {A:Option Addr} {x:Operand} {xl xh:Option Operand} [ht:Und P t (.slice e)] [hz:Size P e sz] (hx:ev s x=some (.slice A m c))
  (hxl:match xl with|none=>lo=0|some q=> ∃ k,ev s q=some (.int k (lo:Nat))) (hxh:match xh with|none=>hi=m|some q=> ∃ k,ev s q=some (.int k (hi:Nat))) (h1:lo≤hi) (h2:hi≤c):
  VOp P w0 s H (.slice t x xl xh none) ty (.slice (if c=lo then A else A.map (·.add (lo*sz))) (hi - lo) (c - lo)):=fun ρ w _ _ _ _ hρ _=>by
 obtain ⟨i,hi1,hi2⟩:=hz.out
 have e1:((lo:Nat):Int)≤((hi:Nat):Int):=by omega
 have e2:((hi:Nat):Int)≤((c:Nat):Int):=by omega
 have e3:((0:Nat):Int)≤((hi:Nat):Int):=by omega
 cases xl with
 |none=>
  cases xh with
  |none=>
   simp only at hxl hxh
   subst hxl hxh
   simp [execOp,hρ x _ hx,Instr.sliceAt,run_underlying ht.out,Instr.slice,Instr.sliceBounds,sizeOf,typeInfo,hi1]
  |some q=>
   simp only at hxl hxh
   subst hxl
   obtain ⟨kk,hq⟩:=hxh
   simp [execOp,hρ x _ hx,hρ q _ hq,Instr.sliceAt,run_underlying ht.out,Instr.slice,Instr.sliceBounds,Instr.sliceBound,asIntOf,sizeOf,typeInfo,hi1,h2]
 |some ql=>
  obtain ⟨kl,hql⟩:=hxl
  cases xh with
  |none=>
   simp only at hxh
   subst hxh
   simp [execOp,hρ x _ hx,hρ ql _ hql,Instr.sliceAt,run_underlying ht.out,Instr.slice,Instr.sliceBounds,Instr.sliceBound,asIntOf,sizeOf,typeInfo,hi1,hi2,h1]
  |some q=>
   obtain ⟨kk,hq⟩:=hxh
   simp [execOp,hρ x _ hx,hρ q _ hq,hρ ql _ hql,Instr.sliceAt,run_underlying ht.out,Instr.slice,Instr.sliceBounds,Instr.sliceBound,asIntOf,sizeOf,typeInfo,hi1,hi2,h1,h2]
def Reads (w:World) (v:Value) (m:Nat) (xs:List Value):Prop:=
 ∃ A cap,v= .slice A m cap∧m≤cap∧cap≤maxLen∧(0<m→ ∃ g o,A=some ⟨g,o,none⟩∧Ro w g o xs)
theorem Ro.of_own {w:World} {g t sz m c:Nat} {xs:List Value} (hm:Mem w0 w H) (hi:In (.own (some g) t sz m c xs) H):Ro w g 0 xs:=by
 have h1:=hm.cells_own hi
 refine ⟨?_,h1⟩
 obtain ⟨_,_,_,junk,_,h2⟩:=(hm.on _ hi.mem).1
 exact (RI.1 h2).1
theorem Ro.of_ro {w:World} {g o:Nat} {xs:List Value} (hm:Mem w0 w H) (h:Ro w0 g o xs):Ro w g o xs:=
 ⟨Nat.lt_of_lt_of_le h.lt hm.below.size,h.later hm⟩
theorem Ro.drop {w:World} {g o k:Nat} {xs:List Value} (h:Ro w g o xs):Ro w g (o+k) (xs.drop k):=⟨h.lt,h.cells.drop⟩
theorem Ro.take {w:World} {g o k:Nat} {xs:List Value} (h:Ro w g o xs):Ro w g o (xs.take k):=⟨h.lt,h.cells.take⟩
theorem Reads.of_own {w:World} {A:Option Nat} {t sz m c:Nat} {xs:List Value} (hm:Mem w0 w H) (hi:In (.own A t sz m c xs) H):Reads w (sl A m c) m xs:=by
 obtain ⟨h1,h2,h3,h4⟩:=(hm.on _ hi.mem).1
 refine ⟨_,c,rfl,h2,h3,fun hpos=> ?_⟩
 cases A with
 |none=>obtain ⟨rfl,_⟩:=h4;omega
 |some g=>exact ⟨g,0,rfl,Ro.of_own hm hi⟩
theorem Reads.of_w0 {w:World} {v:Value} {m:Nat} {xs:List Value} (hm:Mem w0 w H) (h:Reads w0 v m xs):Reads w v m xs:=by
 obtain ⟨A,cap,rfl,h1,h2,h3⟩:=h
 exact ⟨A,cap,rfl,h1,h2,fun hp=>let ⟨g,o,hA,hr⟩:=h3 hp;⟨g,o,hA,Ro.of_ro hm hr⟩⟩
theorem Reads.cut {w:World} {A:Option Addr} {m cap lo hi sz:Nat} {xs:List Value} (h:Reads w (.slice A m cap) m xs) (h1:lo≤hi) (h2:hi≤m):
  Reads w (.slice (if cap=lo then A else A.map (·.add (lo*sz))) (hi - lo) (cap - lo)) (hi - lo) ((xs.drop (lo*sz)).take ((hi - lo)*sz)):=by
 obtain ⟨A',cap',he,hm,hc,hr⟩:=h
 injection he with e1 e2 e3
 subst e1;subst e3
 refine ⟨_,_,rfl,by omega,by omega,fun hp=> ?_⟩
 obtain ⟨g,o,rfl,hro⟩:=hr (by omega)
 rw [if_neg (by omega)]
 exact ⟨g,o+lo*sz,by simp [cK],hro.drop.take⟩
theorem eH {c:Code} {A:Option Nat} {t sz m cap:Nat} {xs:List Value} (hi:In (.own A t sz m cap xs) H) (hm:0<m) (h: ∀ g,A=some g→W P n w0 c Q s H):W P n w0 c Q s H:=fun a w hs hmem=>by
 obtain ⟨_,_,_,h4⟩:=(hmem.on _ hi.mem).1
 cases A with
 |none=>obtain ⟨rfl,_⟩:=h4;omega
 |some g=>exact h g rfl a w hs hmem
theorem PX {c:Code} {A:Option Nat} {t sz m cap:Nat} {xs:List Value} (hi:In (.own A t sz m cap xs) H) (h:xs.length=m*sz→m≤cap→cap≤maxLen→W P n w0 c Q s H):W P n w0 c Q s H:=fun a w hs hmem=>by
 obtain ⟨h1,h2,h3,_⟩:=(hmem.on _ hi.mem).1
 exact h h1 h2 h3 a w hs hmem
theorem Mem.shrink {w:World} {A:Option Nat} {t sz m cap k:Nat} {xs:List Value} (hm:Mem w0 w (.own A t sz m cap xs::H)) (hk:k≤m):Mem w0 w (.own A t sz k cap (xs.take (k*sz))::H):=by
 have h0:=hm.on _ QT
 obtain ⟨⟨h1,h2,h3,h4⟩,h5⟩:=h0
 have hlen:k*sz≤m*sz:=SE _ hk
 refine ⟨hm.below,fun b hb=> ?_,RH.2 ⟨fun x hx=>(RH.1 hm.apart).1 x hx,(RH.1 hm.apart).2⟩⟩
 rcases Rd.1 hb with rfl|hb
 ·
  refine ⟨⟨by rw [Rq];omega,by omega,h3,?_⟩,h5⟩
  cases A with
  |none=>obtain ⟨rfl,rfl⟩:=h4;exact ⟨by omega,rfl⟩
  |some g=>
   obtain ⟨junk,j1,j2⟩:=h4
   exact ⟨xs.drop (k*sz)++junk,by rw [← Rx,Si];exact j1,by rw [← Rx,Si];exact j2⟩
 ·
  exact hm.on b (Rc _ hb)
theorem JB {c:Code} {A:Option Nat} {t sz m cap:Nat} {xs:List Value} {R:List Blk} (hsel:Sel (.own A t sz m cap xs) H R) (k:Nat) (hk:k≤m) (h:W P n w0 c Q s (.own A t sz k cap (xs.take (k*sz))::R)):W P n w0 c Q s H:=
 fun a w hs hm=>h a w hs ((hm.sel hsel).shrink hk)
theorem FC {ι:Type} {c:Code} (I:ι→az→List Blk→Prop) (μ:ι→Nat) (i0:ι) (h0: ∃ s0 H0,Sub s0 s∧MSub H0 H∧I i0 s0 H0)
  (round: ∀ i s H,I i s H→W P n w0 c (thn (fun s' H' => ∃ i' s1 H1,μ i' <μ i∧Sub s1 s' ∧MSub H1 H' ∧I i' s1 H1) Q) s H):W P n w0 (.loop c) Q s H:=by
 intro a w hs hm
 obtain ⟨s0,H0,hs0,hH0,hI⟩:=h0
 refine wp_loop_ghost (fun k a' w' => ∃ i s1 H1,I i s1 H1∧μ i=k∧St n s1 a' ∧Mem w0 w' H1) (μ i0) ⟨i0,s0,H0,hI,rfl,hs.sub hs0,hH0.use hm⟩ ?_
 rintro k a1 w1 ⟨i,s1,H1,hI1,rfl,hs1,hm1⟩
 refine wp_mono (round i s1 H1 hI1 a1 w1 hs1 hm1) ?_
 rintro e a' w' ⟨s',H',h1,h2,h3⟩
 cases e with
 |normal=>
  obtain ⟨i',s2,H2,hlt,hsub,hms,hI2⟩:=h3
  exact ⟨μ i',hlt,i',s2,H2,hI2,rfl,h1.sub hsub,hms.use h2⟩
 |_=>exact ⟨s',H',h1,h2,h3⟩
theorem JF {t e hi m c sz:Nat} {A:Option Nat} {x q:Operand} {k:IntKind} [ht:Und P t (.slice e)] [hz:Size P e sz] (hx:ev s x=some (sl A m c)) (hq:ev s q=some (.int k (hi:Nat))) (h2:hi≤c):
  VOp P w0 s H (.slice t x none (some q) none) ty (sl A hi c):=by
 have h:=lJ (P:=P) (w0:=w0) (H:=H) (ty:=ty) (t:=t) (xl:=none) (xh:=some q) (lo:=0) (hi:=hi) hx rfl ⟨k,hq⟩ (QX _) h2
 have e:(if c=0 then (A.map fun g=>(⟨g,0,none⟩:Addr)) else (A.map fun g=>(⟨g,0,none⟩:Addr)).map (·.add (0*sz)))=A.map fun g=>⟨g,0,none⟩:=by
  split
  ·
   rfl
  ·
   cases A<;>simp [cK]
 unfold sl at h ⊢
 rw [e,SK,SK] at h
 exact h
theorem dq {d t e sz by_:Nat} {ops:Array Oper} [ht:Und P t (.slice e)] [he:Elem P e sz by_] (hn:Nat.blt d n.sz=true)
  (k: ∀ g,WL P n w0 ops rest Q ((d,.slice (some ⟨g,0,none⟩) 0 0)::s) (.own (some g) e sz 0 0 []::H)):WL P n w0 ops (⟨some d,.buildSlice t 0 #[],ty,p,af,none⟩::rest) Q s H:=by
 refine o4 (B:=fun g=> .own (some g) e sz 0 0 []) (v:=fun g=> .slice (some ⟨g,0,none⟩) 0 0) hn (fun a w hs hm=> ?_) k
 obtain ⟨i,z,h1,h2,h3,h4,h5,h6⟩:=he.out
 refine ⟨w.alloc (.cells #[] e),?_,World.grownBy_alloc w _ none,Blk.own_of (xs:= []) (heap_alloc_new w _) (by simp) rfl (QX _),rfl⟩
 have h0:Array.range 0= #[]:=rfl
 simp [execOp,Instr.buildSlice,run_underlying ht.out,sizeOf,typeInfo,h1,Instr.fill,newRow,h0]
theorem kT {t e m c:Nat} {A:Option Addr} {x:Operand} {t' :TypeId} [ht:Und P t (.slice e)] (hx:ev s x=some (.slice A m c)):VOp P w0 s H (.binOp .eql t x (.const (.slice none 0 0)) t') ty (.bool A.isNone):=fun ρ w _ _ _ _ hρ _=>by
 have hc:=hρ (.const (.slice none 0 0)) _ rfl
 simp [execOp,hρ x _ hx,hc,eqGuard,Lib.run_eql_slice_nil w t e A m c 0 0 ht.out]
theorem MSub.snoc {c:Blk} {K T U:List Blk} (hs:Sel c T U) (h:MSub K U):MSub (K++ [c]) T:=by
 obtain ⟨X,hp⟩:=h
 refine ⟨X,hs.perm.trans ((hp.cons c).trans ?_)⟩
 rw [Rx]
 exact (TG (l₁:=K) (a:=c) (l₂:=X)).symm
theorem MSub.rot {c:Blk} {K T:List Blk} (h:MSub (K++ [c]) T):MSub (c::K) T:=by
 obtain ⟨X,hp⟩:=h
 exact ⟨X,hp.trans ((R0 (l₁:=K) (l₂:= [c])).append_right X)⟩
theorem kB {x y:Operand} {a b:Nat} {t t' :TypeId} (hx:ev s x=some (.int .i64 (a:Nat))) (hy:ev s y=some (.int .i64 (b:Nat))) (h:b≤a) (ha:a≤maxLen):VOp P w0 s H (.binOp .sub t x y t') ty (.int .i64 ((a - b:Nat):Int)):=by
 have e:((a - b:Nat):Int)=(a:Int) - (b:Int):=by omega
 rw [e]
 exact JE hx hy ⟨by omega,by simp only [maxLen] at ha;omega⟩
theorem dE {x y:Operand} {a b:Nat} {t t' :TypeId} (hx:ev s x=some (.int .i64 (a:Nat))) (hy:ev s y=some (.int .i64 (b:Nat))) (ha:a+b≤maxLen):VOp P w0 s H (.binOp .add t x y t') ty (.int .i64 ((a+b:Nat):Int)):=by
 rw [Int.natCast_add]
 exact eV hx hy ⟨by omega,by simp only [maxLen] at ha;omega⟩
theorem fq {x y:Operand} {a:Nat} {t t' :TypeId} (hx:ev s x=some (.int .i64 (a:Nat))) (hy:ev s y=some (.int .i64 1)) (ha:a+1≤maxLen):VOp P w0 s H (.binOp .add t x y t') ty (.int .i64 ((a+1:Nat):Int)):=dE (b:=1) hx hy ha
theorem dM {x y:Operand} {a:Nat} {t t' :TypeId} (hx:ev s x=some (.int .i64 (a:Nat))) (hy:ev s y=some (.int .i64 1)) (h:1≤a) (ha:a≤maxLen):VOp P w0 s H (.binOp .sub t x y t') ty (.int .i64 ((a - 1:Nat):Int)):=kB (b:=1) hx hy h ha
theorem Dl {x y:Operand} {a b:Nat} {ts:Array TypeId} (hx:ev s x=some (.int .i64 (a:Nat))) (hy:ev s y=some (.int .i64 (b:Nat))):
  VOp P w0 s H (.call { callee:= .builtin .max,args:= #[x,y],argTypes:=ts }) ty (.int .i64 ((max a b:Nat):Int)):=by
 have h:=gT (P:=P) (w0:=w0) (H:=H) (ty:=ty) (ts:=ts) hx hy
 have e:(if (a:Int)<(b:Int) then (b:Int) else (a:Int))=((max a b:Nat):Int):=by split<;>omega
 rw [← e]
 exact h
theorem FnIn.msub {f:FuncId} {args:List Value} {H' :List Blk} {R:Value→List Blk→Prop} (h:FnIn P f args w0 H' R) (hs:MSub H' H):FnIn P f args w0 H R:=fun w hm=>h w (hs.use hm)
theorem aB {x:Operand} {t g o m:Nat} {xs:List Value} [Agg P t m] (hx:ev s x=some (.pointer (some ⟨g,o,none⟩))) (hr:Ro w0 g o xs) (hl:Nat.beq xs.length m=true):VOp P w0 s H (.load t x) ty (.agg xs.toArray):=by
 have hm:=RL hl
 exact eR (off:=0) hr hx (by rw [SA,← hm,Sc]) hm
theorem eU {x:Operand} {t g o:Nat} {v:Value} [One P t] (hx:ev s x=some (.pointer (some ⟨g,o,none⟩))) (hr:Ro w0 g o [v]):VOp P w0 s H (.load t x) ty v:=aI (off:=0) hr hx rfl
theorem dx {x:Operand} {t g o off:Nat} {xs:List Value} {v:Value} [One P t] (hx:ev s x=some (.pointer (some ⟨g,o+off,none⟩))) (hr:Ro w0 g o xs) (hv:xs[off]? =some v):VOp P w0 s H (.load t x) ty v:=aI hr hx hv
theorem Ae {x:Operand} {t T g off m n' c sz:Nat} {xs ys:List Value} [Agg P t m] (hx:ev s x=some (.pointer (some ⟨g,off,none⟩))) (hi:In (.own (some g) T sz n' c xs) H) (hv:(xs.drop off).take m=ys) (hl:Nat.beq ys.length m=true):
  VOp P w0 s H (.load t x) ty (.agg ys.toArray):=aM hx hi hv (RL hl)
end
section
variable {α:Type} {enc:α→List Value} {m:Nat}
theorem lD (h: ∀ a,(enc a).length=m): ∀ (L:List α) (i:Nat),(L.flatMap enc).drop (i*m)=(L.drop i).flatMap enc
 | [],i=>by simp
 |a::L,0=>by simp
 |a::L,i+1=>by
  rw [Rj,TK,← lD h L i,show (i+1)*m=(enc a).length+i*m by rw [h a,TI,Uj,Tb],List.drop_append]
  simp
theorem jC (h: ∀ a,(enc a).length=m): ∀ (L:List α) (i:Nat),(L.flatMap enc).take (i*m)=(L.take i).flatMap enc
 | [],i=>by simp
 |a::L,0=>by simp
 |a::L,i+1=>by
  rw [Rj,Sg,Rj,← jC h L i,show (i+1)*m=(enc a).length+i*m by rw [h a,TI,Uj,Tb],List.take_append,RS (Nat.le_add_right _ _)]
  simp
theorem aP (h: ∀ a,(enc a).length=m) (L:List α):(L.flatMap enc).length=L.length*m:=by
 induction L with
 |nil=>simp
 |cons a L ih=>rw [Rj,QP,h a,ih,Rp,TI,Uj,Tb]
theorem dG (h: ∀ a,(enc a).length=m) (L:List α) (i:Nat) (hi:i<L.length):((L.flatMap enc).drop (i*m)).take m=enc L[i]:=by
 rw [lD h,QY hi,Rj,Tw (by rw [h];exact QV _),← h L[i],Sc]
theorem oo (h: ∀ a,(enc a).length=m) (L:List α) (i k:Nat) (hi:i<L.length) (hk:k<m):(L.flatMap enc)[i*m+k]? =(enc L[i])[k]? :=by
 have h1:=dG h L i hi
 rw [← h1,List.getElem?_take,if_pos hk,SB]
theorem Cd (h: ∀ a,(enc a).length=m) (L:List α) (i:Nat) (hi:i<L.length) (a:α):(L.flatMap enc).take (i*m)++enc a++(L.flatMap enc).drop (i*m+m)=(L.set i a).flatMap enc:=by
 rw [show i*m+m=(i+1)*m by rw [TI,Uj],jC h,lD h,List.set_eq_take_append_cons_drop,if_pos hi]
 simp
theorem Ro.elem {w:World} {g o:Nat} (h: ∀ a,(enc a).length=m) {L:List α} (hr:Ro w g o (L.flatMap enc)) (i:Nat) (hi:i<L.length):Ro w g (o+i*m) (enc L[i]):=by
 rw [← dG h L i hi]
 exact hr.drop.take
end
end Go.SL
namespace Go.SL
open Go Go.Proofs
attribute [local irreducible] W WL WQ WG WA VOp thn blk aV aK FnIn
theorem ou {α:Type} [DecidableEq α] {L M:List α} {i:Nat} (h1:i<L.length) (h2:i<M.length):decide (L.drop i=M.drop i)=(decide (L[i]=M[i]) && decide (L.drop (i+1)=M.drop (i+1))):=by
 rw [QY h1,QY h2]
 simp only [List.cons.injEq,Bool.decide_and]
def k1:Nd:=⟨1,⟨1,50000,av⟩,aL,0,0,0⟩
def k2:Nd:=⟨2,bD,⟨1,1,1,1⟩,0,0,0⟩
def k3:Nd:=⟨3,bD,⟨1,1,2,2⟩,0,0,0⟩
def k6:Nd:=⟨6,bD,aL,1,0,0⟩
def k7:Nd:=⟨7,bD,aL,0,9,2⟩
def j7:Nd:=⟨7,bD,aL,0,46,1⟩
theorem Reads.of_row {w0 w:World} {H:List Blk} {g t sz m c:Nat} {xs:List Value} (hm:Mem w0 w H) (hi:In (.own (some g) t sz m c xs) H):Reads w (.slice (some ⟨g,0,none⟩) m c) m xs:=Reads.of_own hm hi
end Go.SL
namespace Go.SL
open Go Go.RowKit
section
variable {α:Type} {enc:α→List Value} {w0:World}
def QD (enc:α→List Value) (w0:World) (F:List Blk) (vals:List Value) (Ts:List (List α)):Prop:=
 vals.length=Ts.length∧ ∀ (j:Nat) (x:Value) (T:List α),vals[j]? =some x→Ts[j]? =some T→ ∀ w,Mem w0 w F→Reads w x T.length (T.flatMap enc)
end
theorem jY {α:Type} {enc:α→List Value} {m:Nat} {P:Program} {w0:World} {s:az} {H:List Blk} {ty:TypeId} {x:Operand} {t T g n' c sz i k:Nat} {L:List α} {a:α} {v:Value} [One P t] (henc: ∀ a,(enc a).length=m) (hx:ev s x=some (.pointer (some ⟨g,0+i*m+k,none⟩))) (hi:In (.own (some g) T sz n' c (L.flatMap enc)) H) (hk:k<m) (ha:L[i]? =some a) (hv:(enc a)[k]? =some v):
  VOp P w0 s H (.load t x) ty v:=by
 obtain ⟨hlt,rfl⟩:=Rn.1 ha
 rw [RB] at hx
 exact bQ hx hi (by rw [oo henc L i k hlt hk];exact hv)
section
variable {P:Program} {n:Fr} {w0:World} {Q:bU} {s:az} {H:List Blk} {l:List Oper} {f:Nat} {L:Array Bool}
theorem FB {i:Nat} {o:Oper} (hi:l[i]? =some o) (h:WL P n w0 l.toArray [o] (thn (WA P n w0 l Q f (L.setIfInBounds i true)) Q) s H) (a:Act) (w:World) (hs:St n s a) (hm:Mem w0 w H):
  wpOp P l.toArray (post n w0 Q) i (wpAny P .any l.toArray (post n w0 Q) f (L.setIfInBounds i true)) a w:=by
 have h1:=h a w hs hm
 have hi' :l.toArray[i]? =some o:=by simpa using hi
 unfold wpOp
 simp only [hi']
 unfold wpList at h1
 have hnext: ∀ a w,wpList P l.toArray (post n w0 (thn (WA P n w0 l Q f (L.setIfInBounds i true)) Q)) [] a w→wpAny P .any l.toArray (post n w0 Q) f (L.setIfInBounds i true) a w:=by
  rintro a w ⟨s',H',h1,h2,h3⟩
  exact h3 a w h1 h2
 split
 ·
  rename_i hw
  rw [if_pos hw] at h1
  refine h1.imp (fun h2=>xo hnext (fun c a w h=>h) (fun a w h=>h) h2) fun ⟨h2,a0,w0,h3⟩=>⟨h2,a0,w0,h3⟩
 ·
  rename_i hw
  rw [if_neg hw] at h1
  exact hnext _ _ h1
theorem cQ {i j:Nat} {oi oj:Oper} (hi:l[i]? =some oi) (hj:l[j]? =some oj) (hr:Region.ready .any l.toArray L= [i,j]) (h1:WL P n w0 l.toArray [oi] (thn (WA P n w0 l Q f (L.setIfInBounds i true)) Q) s H)
  (h2:WL P n w0 l.toArray [oj] (thn (WA P n w0 l Q f (L.setIfInBounds j true)) Q) s H):WA P n w0 l Q (f+1) L s H:=by
 intro a w hs hm
 refine ⟨fun h0=>(by rw [hr] at h0;cases h0),fun k hk=> ?_⟩
 rw [hr] at hk
 rcases Rd.1 hk with e|hk
 ·
  subst e
  exact FB hi h1 a w hs hm
 ·
  have e:k=j:=by simpa using hk
  subst e
  exact FB hj h2 a w hs hm
end
section
variable {P:Program} {n:Fr} {w0:World} {Q:bU} {s:az} {H:List Blk} {ty:TypeId}
theorem uA {x ix:Operand} {t e g off m j sz:Nat} {k:IntKind} [ht:Und P t (.array m e)] [hs:Size P e sz] (hx:ev s x=some (.pointer (some ⟨g,off,none⟩))) (hi:ev s ix=some (.int k (j:Nat)))
  (hj:j<m):VOp P w0 s H (.indexAddr t x ix) ty (.pointer (some ⟨g,off+j*sz,none⟩)):=fun ρ w _ _ _ _ hρ _=>by
 obtain ⟨i,h1,h2⟩:=hs.out
 have hj' :(j:Int)<(m:Int):=by omega
 have h0:(0:Int)≤(j:Int):=by omega
 have hadd:(⟨g,off,none⟩:Addr).add (j*sz)=⟨g,off+j*sz,none⟩:=by
  unfold Addr.add;split<;>simp_all
 simp [execOp,hρ x _ hx,hρ ix _ hi,Instr.indexAt,run_underlying ht.out,asIntOf,sizeOf,typeInfo,h1,h2,hadd,Instr.sureAddr]
 try omega
theorem GQ {x ix:Operand} {t e g off m sz:Nat} {k:IntKind} [ht:Und P t (.array m e)] [hs:Size P e sz] (hx:ev s x=some (.pointer (some ⟨g,off,none⟩))) (hi:ev s ix=some (.int k 0)) (hj:Nat.blt 0 m=true):
  VOp P w0 s H (.indexAddr t x ix) ty (.pointer (some ⟨g,off,none⟩)):=by
 have h:=uA (P:=P) (w0:=w0) (H:=H) (ty:=ty) (t:=t) (j:=0) hx hi (by simpa using hj)
 rwa [Nat.zero_mul,Ta] at h
theorem GP {x ix:Operand} {t e g off m sz:Nat} {k:IntKind} [ht:Und P t (.array m e)] [hs:Size P e sz] (hx:ev s x=some (.pointer (some ⟨g,off,none⟩))) (hi:ev s ix=some (.int k 1)) (hj:Nat.blt 1 m=true):
  VOp P w0 s H (.indexAddr t x ix) ty (.pointer (some ⟨g,off+sz,none⟩)):=by
 have h:=uA (P:=P) (w0:=w0) (H:=H) (ty:=ty) (t:=t) (j:=1) hx hi (by simpa using hj)
 rwa [Uj] at h
theorem Iz {α:Type} {enc:α→List Value} {m:Nat} (h: ∀ a,(enc a).length=m) (L:List α) (i k:Nat) (hi:i<L.length) (hk:k<m) (v:Value) (a:α) (ha:(enc L[i]).set k v=enc a):
  (L.flatMap enc).set (i*m+k) v=(L.set i a).flatMap enc:=by
 rw [← Cd h L i hi a]
 have hl:((L.flatMap enc).take (i*m)).length=i*m:=by
  have h1:=aP h L
  have h2:i*m≤L.length*m:=SE _ (by omega)
  rw [Rq];omega
 have h1:L.flatMap enc=(L.flatMap enc).take (i*m)++(enc L[i]++(L.flatMap enc).drop (i*m+m)):=by
  rw [← dG h L i hi]
  conv=>lhs;rw [← Si (i*m) (L.flatMap enc)]
  congr 1
  conv=>lhs;rw [← Si m ((L.flatMap enc).drop (i*m))]
  rw [Sw]
 generalize (L.flatMap enc).take (i*m)=X at h1 hl
 generalize (L.flatMap enc).drop (i*m+m)=S at h1
 rw [h1,TA _ _ (by omega),hl,Nat.add_sub_cancel_left,List.set_append_left _ _ (by rw [h];exact hk),ha]
 simp
end
section
variable {P:Program} {n:Fr} {w0:World} {Q:bU} {s:az} {H:List Blk} {rest:List Oper} {ty:TypeId} {p:String} {af:Array Edge}
theorem Dd {d t e n' m c' g2 o2 sz by_:Nat} {B:Option Addr} {x y:Operand} {xs news:List Value} {ops:Array Oper} [ht:Und P t (.slice e)] [he:Elem P e sz by_] (hn:Nat.blt d n.sz=true)
  (hx:ev s x=some (.slice B n' n')) (hy:ev s y=some (.slice (some ⟨g2,o2,none⟩) m c')) (hread: ∀ w,Mem w0 w H→Reads w (.slice B n' n') n' xs) (hxl:xs.length=n' *sz)
  (hnews: ∀ w,Mem w0 w H→Cells w g2 o2 news) (hl:news.length=m*sz) (h1: ∀ u∈news,u.oneCell' =true) (hm0:0<m) (hby:(n' +m)*by_≤140737488355328) (h63:n' +m≤maxLen)
  (k: ∀ g' cap',WL P n w0 ops rest Q ((d,sl (some g') (n' +m) cap')::s) (.own (some g') e sz (n' +m) cap' (xs++news)::H)):
  WL P n w0 ops (⟨some d,.call { callee:= .builtin .append,args:= #[x,y],argTypes:= #[t,t] },ty,p,af,none⟩::rest) Q s H:=by
 intro a w hs hm
 obtain ⟨i,z,i1,i2,i3,i4,i5,i6⟩:=he.out
 subst i2
 subst i3
 have hsrc:Src P i.size t (.slice (some ⟨g2,o2,none⟩) m c') m news w:=Src.ofSlice w ht.out ⟨g2,o2,none⟩ m c' news hl (fun j u hu=>by rw [cK];exact hnews w hm j u hu) h1
 obtain ⟨B',c2,hB,_,_,hrd⟩:=hread w hm
 cases hB
 have hold:(Builtin.firstCells i.size n' (.slice B n' n')).run P w.drew= .ok xs.toArray w.drew:=by
  rcases Sf n' with rfl|hpos
  ·
   have e0:xs= []:=RK (by rw [hxl,Nat.zero_mul])
   subst e0
   cases B with
   |none=>exact run_firstCells_none w.drew i.size 0 0 0
   |some b=>exact run_firstCells_some w.drew i.size 0 b 0 0 [] (by simp) (fun j u hu=>by simp at hu)
  ·
   obtain ⟨g,o,rfl,hro⟩:=hrd hpos
   refine run_firstCells_some w.drew i.size n' ⟨g,o,none⟩ n' n' _ hxl fun j u hu=> ?_
   rw [cK]
   exact hro.cells j u hu
 have hfits:Builtin.nextslicecap (n' +m) n' *i.bytes≤281474976710656:=growslice_fits (by omega) hby
 have hr:=run_append_grow_src (P:=P) w t t ty e i z ht.out i1 i4 B n' n' xs hold (.slice (some ⟨g2,o2,none⟩) m c') m news hsrc (by omega) (by simp only [maxLen] at h63;omega) hfits
 have hge:=grownCap_ge w (n' +m) n' e
 have hcm2:grownCap w (n' +m) n' e≤maxLen:=grownCap_le_maxLen w (n' +m) n' e (by omega)
 have hlen2:(xs++news).length=(n' +m)*i.size:=by rw [QP,hxl,hl,TI]
 refine wpList_plain rfl fun K hK=> ?_
 unfold Oper.wp execOp
 simp only [resolve,invoke,builtin,Sem.run_bind,Sem.run_pure,Result.andThen_ok,SS,Rz,Sl,hs.eval x _ hx,hs.eval y _ hy,hr,Oper.upon]
 refine hK _ _ (k w.heap.size _ _ _ (hs.put (Sd ▸ hn) _) ?_)
 refine hm.new ⟨rfl,rfl,rfl,by simp,fun k hk _=>heap_alloc_old w.drew _ hk⟩ ⟨hlen2,hge,hcm2,(Builtin.zeroCells z.cells (grownCap w (n' +m) n' e - (n' +m))).toList,?_,?_⟩ fun k hk=> ?_
 ·
  rw [QP,hlen2,Array.length_toList,size_zeroCells,i5,← TI]
  congr 1
  omega
 ·
  rw [show (xs++news++(Builtin.zeroCells z.cells (grownCap w (n' +m) n' e - (n' +m))).toList).toArray=(xs++news).toArray++Builtin.zeroCells z.cells (grownCap w (n' +m) n' e - (n' +m)) by apply Array.ext';simp]
  exact heap_alloc_new w.drew _
 ·
  cases hk
  exact QV _
end
def BX (s:az):List Nat→Option az
 | []=>some []
 |t::r=>match look s t,BX s r with
  |some v,some s' =>some ((t,v)::s')
  |_,_=>none
theorem BW {s:az}: ∀ {ts:List Nat} {s' :az},BX s ts=some s' →Sub s' s
 | [],s',h=>by simp only [BX,Option.some.injEq] at h;subst h;exact Sub.nil s
 |t::r,s',h=>by
  simp only [BX] at h
  split at h
  ·
   rename_i v s1 hv hs
   simp only [Option.some.injEq] at h
   subst h
   exact Sub.cons hv (BW hs)
  ·
   cases h
theorem BL (r b:az) (u:Nat):look (r++b) u=(match look r u with|some v=>some v|none=>look b u):=by
 induction r with
 |nil=>rfl
 |cons y r ih=>
  obtain ⟨p,q⟩:=y
  rw [QR,iA,iA,ih]
  split<;>rfl
theorem Sub.append {a b s:az} (ha:Sub a s) (hb:Sub b s):Sub (a++b) s:=by
 intro u z hu
 rw [BL] at hu
 split at hu
 ·
  rename_i v hv
  rw [← hu]
  exact ha u v hv
 ·
  exact hb u z hu
def bE {ι:Type} (sI:ι→az) (HI:ι→List Blk) (ok:ι→Prop) (Q:bU):bU
 | .normal,s,H=> ∃ i,ok i∧Sub (sI i) s∧MSub (HI i) H
 |e,s,H=>Q e s H
section
variable {P:Program} {n:Fr} {w0:World} {Q:bU} {s sb:az} {H:List Blk} {ι:Type} {sI:ι→az} {HI:ι→List Blk} {ok:ι→Prop} {id:Nat}
theorem cC (i:ι) (ho:ok i) (hs:Sub (sI i) s) (hH:MSub (HI i) H):bE sI HI ok Q .normal s H:=⟨i,ho,hs,hH⟩
theorem o7 {x z:Code} (sI:ι→az) (HI:ι→List Blk) (ok:ι→Prop) (h:W P n w0 x (bE sI HI ok Q) s H) (k: ∀ i,ok i→W P n w0 z Q (sI i) (HI i)):
  W P n w0 x (thn (W P n w0 z Q) Q) s H:=by
 refine JD (fun e s' H' hq=> ?_) h
 cases e with
 |normal=>
  obtain ⟨i,ho,h1,h2⟩:=hq
  exact PV h1 (OH h2 (k i ho))
 |_=>exact hq
theorem OJ {c:Operand} {x y z:Code} (ts:List Nat) (hk:BX s ts=some sb) (h:W P n w0 (.cond c x y) (bE (fun _:Unit=>sb) (fun _=>H) (fun _=>True) Q) s H) (k:W P n w0 z Q sb H):
  W P n w0 (.cond c x y) (thn (W P n w0 z Q) Q) s H:=
 o7 _ _ _ h fun _ _=>k
theorem ax {c:Code} (ts:List Nat) (hk:BX s ts=some sb) (sI:ι→az) (HI:ι→List Blk) (ok:ι→Prop) (μ:ι→Nat) (i0:ι) (h0:ok i0) (hs0:Sub (sI i0) s) (hH0:MSub (HI i0) H)
  (round: ∀ i,ok i→W P n w0 c (thn (fun s' H' => ∃ i',ok i' ∧μ i' <μ i∧Sub (sI i') s' ∧Sub sb s' ∧MSub (HI i') H') Q) (sI i++sb) (HI i)):W P n w0 (.loop c) Q s H:=by
 refine ia (fun i=>sI i++sb) HI ok μ i0 h0 (hs0.append (BW hk)) hH0 fun i hi=>JD (fun e s' H' hq=> ?_) (round i hi)
 cases e with
 |normal=>
  obtain ⟨i',h1,h2,h3,h4,h5⟩:=hq
  exact ⟨i',h1,h2,h3.append h4,h5⟩
 |_=>exact hq
theorem yA {ops:Array Oper} {rest:List Oper} {A:Option Nat} {t sz m cap:Nat} {xs:List Value} (hi:In (.own A t sz m cap xs) H) (hm:0<m) (h: ∀ g,A=some g→WL P n w0 ops rest Q s H):WL P n w0 ops rest Q s H:=fun a w hs hmem=>by
 obtain ⟨_,_,_,h4⟩:=(hmem.on _ hi.mem).1
 cases A with
 |none=>obtain ⟨rfl,_⟩:=h4;omega
 |some g=>exact h g rfl a w hs hmem
end
theorem Ro.cellV {w:World} {g o:Nat} {xs:List Value} (h:Ro w g o xs) (i:Nat) {v:Value} (hi:xs[i]? =some v):Ro w g (o+i*1) [v]:=by
 obtain ⟨hlt,he⟩:=Rn.1 hi
 have h1:=(h.drop (k:=i)).take (k:=1)
 rw [QY hlt,he] at h1
 rw [SZ]
 exact h1
end Go.SL
namespace Go.SL
open Go Go.Proofs
attribute [local irreducible] W WL WQ WG WA VOp thn blk bE aV aK FnIn QD
def aT:List Nd:= [k2,k3,j7,k6]
end Go.SL
namespace Go.SL
open Go Go.RowKit
section
variable {P:Program} {n:Fr} {w0:World} {Q:bU} {s:az} {H:List Blk} {rest:List Oper} {ty:TypeId} {p:String} {af:Array Edge}
theorem mF {x ix:Operand} {t e m j:Nat} {xs:List Value} {v:Value} {k:IntKind} [ht:Und P t (.array m e)] [he:One P e] [hz:Size P e 1] (hx:ev s x=some (.agg xs.toArray)) (hi:ev s ix=some (.int k (j:Nat))) (hj:j<m) (hv:xs[j]? =some v):
  VOp P w0 s H (.index t x ix) ty v:=fun ρ w _ _ _ _ hρ _=>by
 obtain ⟨i,h1,h2⟩:=hz.out
 obtain ⟨d,h3,h4⟩:=he.out
 have h0:(0:Int)≤(j:Int):=by omega
 have hj' :((j:Nat):Int)<((m:Nat):Int):=by omega
 simp only [execOp,hρ x _ hx,hρ ix _ hi,Instr.index,asIntOf,run_underlying ht.out,sizeOf,typeInfo,part,isAgg,run_underlying h3,Sem.run_bind,Sem.run_pure,Result.andThen_ok,h0,hj',and_self,if_true,h1,h2,SD,SZ,RV,hv]
 cases d<;>simp_all
theorem z6 {x:Operand} {t e m g o sz:Nat} [ht:Und P t (.array m e)] [hz:Size P e sz] (hx:ev s x=some (.pointer (some ⟨g,o,none⟩))):
  VOp P w0 s H (.slice t x none none none) ty (.slice (some ⟨g,o,none⟩) m m):=fun ρ w _ _ _ _ hρ _=>by
 obtain ⟨i,h1,h2⟩:=hz.out
 have ha:(⟨g,o,none⟩:Addr).add 0=⟨g,o,none⟩:=by rw [cK];simp
 simp [execOp,hρ x _ hx,Instr.sliceAt,run_underlying ht.out,Instr.sliceBounds,Instr.sureAddr,sizeOf,typeInfo,h1,ha]
theorem zU {d t e m:Nat} {ps:List (Nat × Operand)} {vs xs zs:List Value} {ops:Array Oper} [ht:Und P t (.array m e)] [he:Size P e 1] [hz:ZeroC P t zs] (hn:Nat.blt d n.sz=true) (hps:evd s ps 0=some vs)
  (hl:Nat.beq vs.length zs.length=true) (h1:vs.all (fun v=>Nat.beq v.cells.size 1)=true) (hx:rI (pI vs)=some xs) (k:WL P n w0 ops rest Q ((d,.agg xs.toArray)::s) H):
  WL P n w0 ops (⟨some d,.build t ps.toArray,ty,p,af,none⟩::rest) Q s H:=by
 refine tM rfl d rfl hn (fun a w hs hm=> ?_) k
 obtain ⟨it,z,i1,i2,i3⟩:=hz.out
 obtain ⟨ie,j1,j2⟩:=he.out
 have hall: ∀ v∈vs,v.cells.size=1:=by
  intro v hv
  exact RL (Sr.1 h1 v hv)
 have hlen:=RL hl
 have hfill:=Great.fill_whole (s:=1) (by omega) vs z.cells hall (by rw [i3];simp [hlen])
 rw [← tX hs hps] at hfill
 have hb:P.built t (ps.map fun (x:Nat × Operand)=>(x.1,a.eval x.2))=some (pI vs).toArray:=by
  unfold Program.built
  simp only [i1,ht.out,i2,j1,j2]
  exact hfill
 have hr:=run_build (P:=P) w t (ps.map fun (x:Nat × Operand)=>(x.1,a.eval x.2)).toArray (pI vs).toArray (by simpa using hb)
 rw [gN hx]
 simp only [execOp,SS]
 simp only [Sem.run_bind,hr,Result.andThen_ok,Sem.run_pure]
theorem xm {x:Operand} {t t' :TypeId} {k k' :IntKind} {a c:Int} {d:TypeDesc} [hs:Und P t d] [hd:Und P t' (.int k')] (hx:ev s x=some (.int k a)) (hw:k'.wrap a=c):VOp P w0 s H (.convert t t' x) ty (.int k' c):=by
 have h:=Dt (P:=P) (w0:=w0) (H:=H) (ty:=ty) (t:=t) (t' :=t') hx
 rwa [hw] at h
theorem dQ {x y:Operand} {k:IntKind} {a b c:Int} {t t' :TypeId} (hx:ev s x=some (.int k a)) (hy:ev s y=some (.int k b)) (hw:k.wrap (a+b)=c):VOp P w0 s H (.binOp .add t x y t') ty (.int k c):=by
 have h:=uC (P:=P) (w0:=w0) (H:=H) (ty:=ty) (t:=t) (t' :=t') hx hy
 rwa [hw] at h
theorem dF {x y:Operand} {k:IntKind} {a b c:Int} {t t' :TypeId} (hx:ev s x=some (.int k a)) (hy:ev s y=some (.int k b)) (hw:k.wrap (a - b)=c):VOp P w0 s H (.binOp .sub t x y t') ty (.int k c):=by
 have h:=OO (P:=P) (w0:=w0) (H:=H) (ty:=ty) (t:=t) (t' :=t') hx hy
 rwa [hw] at h
theorem mG {x y:Operand} {a b:ByteArray} {t t' :TypeId} (hx:ev s x=some (.string a)) (hy:ev s y=some (.string b)) (h:a=b):VOp P w0 s H (.binOp .eql t x y t') ty (.bool true):=by
 have h1:=Dn (P:=P) (w0:=w0) (H:=H) (ty:=ty) (t:=t) (t' :=t') hx hy
 rwa [decide_eq_true h] at h1
theorem dP {x y:Operand} {a b:ByteArray} {t t' :TypeId} (hx:ev s x=some (.string a)) (hy:ev s y=some (.string b)) (h:a≠b):VOp P w0 s H (.binOp .eql t x y t') ty (.bool false):=by
 have h1:=Dn (P:=P) (w0:=w0) (H:=H) (ty:=ty) (t:=t) (t' :=t') hx hy
 rwa [decide_eq_false h] at h1
theorem wrap_u8 {a:Int} (h1:0≤a) (h2:a≤255):IntKind.u8.wrap a=a:=by
 simp [IntKind.wrap,IntKind.bits,IntKind.signed]<;>omega
theorem Reads.of_box {w:World} {g t:Nat} {xs:List Value} (hm:Mem w0 w H) (hi:In (.box g t xs) H) (hl:Nat.ble xs.length maxLen=true):Reads w (.slice (some ⟨g,0,none⟩) xs.length xs.length) xs.length xs:=by
 have h1:=hm.cells_box hi
 refine ⟨_,xs.length,rfl,QV _,by simpa using hl,fun _=>⟨g,0,rfl,?_,h1⟩⟩
 have h2:=(hm.on _ hi.mem).1
 simp only [Blk.on] at h2
 exact (RI.1 h2).1
end
def jf (v:Value):List PanicEntry:= [{ v,recovered:=false }]
def FnP (P:Program) (f:FuncId) (args:List Value) (w0:World) (H:List Blk) (R D:Value→List Blk→Prop):Prop:=
 ∀ w,Mem w0 w H→Calls P f args.toArray w fun e w' =>(∃ v H',e= .returned v∧Mem w0 w' H' ∧R v H')∨(∃ v H',e= .panicked (jf v)∧Mem w0 w' H' ∧D v H')
theorem FnP.msub {P:Program} {f:FuncId} {args:List Value} {w0:World} {H H' :List Blk} {R D:Value→List Blk→Prop} (h:FnP P f args w0 H' R D) (hs:MSub H' H):FnP P f args w0 H R D:=fun w hm=>h w (hs.use hm)
def bo (P:Program) (fn:Func) (n:Fr) (w0:World) (R D:Value→List Blk→Prop):bU:=fun e s H=>
 aV P fn n w0 R e s H∨ ∃ v H',e= .panic (jf v)∧MSub H' H∧D v H'
section
variable {P:Program} {n:Fr} {w0:World} {Q:bU} {s:az} {H:List Blk} {l rest:List Oper} {ty:TypeId} {p:String} {af:Array Edge}
theorem bF {d:Nat} {ops:Array Oper} {f:FuncId} {xs:List Operand} {vs:List Value} {ts:Array TypeId} {R D:Value→List Blk→Prop} [Callable P f] (hn:Nat.blt d n.sz=true) (hx:evs s xs=some vs)
  (hF:FnP P f vs w0 H R D) (k: ∀ v H',R v H' →WL P n w0 ops rest Q ((d,v)::s) H') (kd: ∀ v H',D v H' →Q (.panic (jf v)) s H'):
  WL P n w0 ops (⟨some d,.call { callee:= .value (.func f),args:=xs.toArray,argTypes:=ts },ty,p,af,none⟩::rest) Q s H:=by
 intro a w hs hm
 refine wpList_plain rfl fun K hK=> ?_
 have hr:=kV (P:=P) (w:=w) (ρ:=a.eval) (d:=some d) (ty:=ty) (p:=p) (af:=af) (g:=none) (f:=f) (c:= .func f) (xs:=xs) (caps:= []) (ts:=ts) rfl (gQ hs hx)
 rw [QW] at hr
 simp only [Oper.wp,hr,Oper.upon]
 refine (hF w hm).mono ?_
 rintro e w' (⟨v,H',rfl,hm',hR⟩|⟨v,H',rfl,hm',hD⟩)
 ·
  exact hK _ _ (k v H' hR _ _ (hs.put (Sd ▸ hn) _) hm')
 ·
  exact ⟨s,H',hs,hm',kd v H' hD⟩
theorem Js {d:Option Tmp} {ops:Array Oper} {x:Operand} {t:TypeId} {v:Value} (hx:ev s x=some (.iface t v)) (h:Q (.panic (jf (.iface t v))) s H):
  WL P n w0 ops (⟨d,.panic x,ty,p,af,none⟩::rest) Q s H:=by
 intro a w hs hm
 refine wpList_plain rfl fun K hK=> ?_
 have hr:(execOp a.eval ⟨d,.panic x,ty,p,af,none⟩).run P w= .halt (.panic (.iface t v)) w:=by
  simp only [execOp,hs.eval x _ hx]
  rfl
 simp only [Oper.wp,hr,Oper.upon]
 exact ⟨s,H,hs,hm,h⟩
theorem Qe {K:az→List Blk→Prop} {c:List PanicEntry} (h:Q (.panic c) s H):thn K Q (.panic c) s H:=h
theorem Qx {id:Nat} {c:List PanicEntry} (h:Q (.panic c) s H):blk id Q (.panic c) s H:=h
theorem Qu {ι:Type} {sI:ι→az} {HI:ι→List Blk} {ok:ι→Prop} {c:List PanicEntry} (h:Q (.panic c) s H):bE sI HI ok Q (.panic c) s H:=h
theorem Ql {fn:Func} {R D:Value→List Blk→Prop} {e:Exit} (h:aV P fn n w0 R e s H):bo P fn n w0 R D e s H:= .inl h
theorem Ot {fn:Func} {R D:Value→List Blk→Prop} {v:Value} {H' :List Blk} (hs:MSub H' H) (h:D v H'):bo P fn n w0 R D (.panic (jf v)) s H:= .inr ⟨v,H',rfl,hs,h⟩
theorem vY {m:Nat} {f:FuncId} {fn:Func} {c:Code} {args:List Value} {R D:Value→List Blk→Prop} (hf:P.funcs[f]? =some fn) (hb:fn.body=some c) (hn:fn.ntmps=m) (hle:Nat.ble args.length m=true)
  (h:W P ⟨m,[]⟩ w0 c (bo P fn ⟨m,[]⟩ w0 R D) (rH args 0) H):FnP P f args w0 H R D:=by
 intro w hm
 have hle' :args.length≤m:=by simpa using hle
 refine calls_of_wp hf hb (wp_mono (h { tmps:=args.toArray++Array.replicate (fn.ntmps - args.toArray.size) undef,defers:= [] } w ⟨?_,rfl,?_⟩ hm) ?_)
 ·
  simp [hn];omega
 ·
  intro t v ht
  rw [lp] at ht
  simp only [QX,if_true,SK] at ht
  have hlt:t<args.length:=(Rn.1 ht).1
  rw [Sm (by simpa using hlt)]
  simpa using ht
 ·
  rintro e a w' ⟨s',H',hs,hm',hq⟩
  rcases hq with ⟨he,v,H'',hsub,hr,hR⟩|⟨v,H'',rfl,hsub,hD⟩
  ·
   have hp:a.defers= []∧ ∃ v,(results fn a.tmps).run P w' = .ok v w' ∧((∃ v1 H1,Ending.returned v= .returned v1∧Mem w0 w' H1∧R v1 H1)∨(∃ v1 H1,Ending.returned v= .panicked (jf v1)∧Mem w0 w' H1∧D v1 H1)):=
    ⟨hs.defers,v,hr a w' hs hm',.inl ⟨v,H'',rfl,hsub.use hm',hR⟩⟩
   rcases he with rfl|rfl<;>exact hp
  ·
   exact ⟨hs.defers,.inr ⟨v,H'',rfl,hsub.use hm',hD⟩⟩
end
def kn (l:List Oper):Nat→Nat→Nat→Bool
 |0,j,k=>Nat.beq j k
 |f+1,j,k=>Nat.beq j k||match l[j]? with
  |none=>false
  |some x=>(pU x).any fun i=>kn l f i k
theorem lT {l:List Oper} {D:kP} (hc: ∀ i x,l[i]? =some x→D i=true→ ∀ j∈pU x,D j=true): ∀ (f j k:Nat),kn l f j k=true→D j=true→D k=true
 |0,j,k,h,hj=>by
  have:=RL h
  subst this
  exact hj
 |f+1,j,k,h,hj=>by
  simp only [kn,SH] at h
  rcases h with h|h
  ·
   have:=RL h
   subst this
   exact hj
  ·
   cases hx:l[j]? with
   |none=>rw [hx] at h;cases h
   |some x=>
    rw [hx] at h
    obtain ⟨i,hi,hr⟩:=List.any_eq_true.1 h
    exact lT hc f i k hr (hc j x hx hj i hi)
section
variable {P:Program} {n:Fr} {w0:World} {Q:bU} {K:az→Prop} {s:az} {H H1:List Blk} {l rest:List Oper} {k j f:Nat} {ty:TypeId} {p:String} {af:Array Edge}
theorem Turn.late {o:Oper} {D:kP} (ht:Turn l k o D) (h:kn l f j k=true):D j=false:=by
 cases hD:D j
 ·
  rfl
 ·
  have:=lT ht.closed f j k h hD
  rw [ht.not] at this
  cases this
theorem nW {id:Nat} (j:Nat) (H1:List Blk) (hm:P.follows .mixedOrders=true) (hB:Region.lexB .any l.toArray=true) (hj:Nat.blt j l.length=true)
  (h:WG P n w0 l (fun D=>if D j then H1 else H) (fun s' =>Q .normal s' H1) l 0 s):W P n w0 (.region id l.toArray true) Q s H:=by
 refine tO (fun D=>if D j then H1 else H) hm hB (by simp only [RT,if_false];exact .refl _) fun a hs hl=> ?_
 have mono: ∀ (r:List Oper) (k:Nat) (a:Act) (K K' :Act→Prop),(∀ a,K a→K' a)→wpG P .any l.toArray (Cls w0 l fun D=>if D j then H1 else H) K r k a→wpG P .any l.toArray (Cls w0 l fun D=>if D j then H1 else H) K' r k a:=by
  intro r
  induction r with
  |nil=>intro k a K K' hk h;exact hk _ h
  |cons o r ih=>
   rintro k a K K' hk ⟨v,h1,h2⟩
   exact ⟨v,h1,ih _ _ K K' hk h2⟩
 refine mono _ _ _ _ _ ?_ (h a hs hl)
 rintro a' ⟨s',h2,h3⟩
 refine ⟨s',h2,fun D hD=> ?_⟩
 rw [if_pos (hD j (Sd ▸ hj))]
 exact h3
theorem zY {op:Op} {d:Nat} {v:Value} (hn:Nat.blt d n.sz=true) (hr:kn l f j k=true) (hne:Nat.beq j k=false) (hv:VOp P w0 s H op ty v) (h:WG P n w0 l (fun D=>if D j then H1 else H) K rest (k+1) ((d,v)::s)):
  WG P n w0 l (fun D=>if D j then H1 else H) K (⟨some d,op,ty,p,af,none⟩::rest) k s:=by
 refine De hn (fun D ht=> ?_) (fun D=> ?_) h
 ·
  rw [ht.late hr]
  exact hv
 ·
  have:put D k j=D j:=by
   unfold put
   rw [if_neg]
   intro e
   subst e
   rw [Nat.beq_refl] at hne
   cases hne
  simp only [this]
theorem ui {d t e n' c m c' sz by_:Nat} {a2:Addr} {A:Option Nat} {x y:Operand} {xs news:List Value} {R:List Blk} {ops:Array Oper} [ht:Und P t (.slice e)] [he:Elem P e sz by_] (hn:Nat.blt d n.sz=true)
  (hx:ev s x=some (sl A n' c)) (hy:ev s y=some (.slice (some a2) m c')) (hsel:Sel (.own A e sz n' c xs) H R)
  (hnews: ∀ w,Mem w0 w H→ ∀ j u,news[j]? =some u→w.cell? (a2.add j)=some u) (hl:news.length=m*sz) (h1: ∀ u∈news,u.oneCell' =true) (hby:(n' +m)*by_≤140737488355328) (h63:n' +m≤maxLen)
  (k: ∀ A' cap',(0<n' +m→ ∃ g,A' =some g)→WL P n w0 ops rest Q ((d,sl A' (n' +m) cap')::s) (.own A' e sz (n' +m) cap' (xs++news)::R)):
  WL P n w0 ops (⟨some d,.call { callee:= .builtin .append,args:= #[x,y],argTypes:= #[t,t] },ty,p,af,none⟩::rest) Q s H:=by
 intro a w hs hm
 have hm' :=hm.sel hsel
 obtain ⟨i,z,i1,i2,i3,i4,i5,i6⟩:=he.out
 have hb:=(hm'.on _ QT)
 have hown:w.ownsRow w0.heap.size e sz (sl A n' c) n' xs:=by
  obtain ⟨⟨b1,b2,b3,b4⟩,b5⟩:=hb
  refine ⟨b1,?_⟩
  cases A with
  |none=>obtain ⟨rfl,rfl⟩:=b4;exact .inl ⟨rfl,rfl⟩
  |some g=>
   obtain ⟨junk,j1,j2⟩:=b4
   refine .inr ⟨g,c,_,rfl,b5 g rfl,j2,b2,b3,by simpa using j1,?_⟩
   simp only [TJ]
   rw [← b1,List.take_left]
 obtain ⟨v',w',hr,h2,h3,h4,h5⟩:=run_append_own_at (P:=P) w w0.heap.size t ty e i z sz by_ ht.out i1 i4 i2 i3 i5 i6 (sl A n' c) n' xs hown a2 m c' news hl
  (hnews w hm) h1 h63 hby hm.below.size
 have hsh: ∃ A' cap',v' =sl A' (n' +m) cap' ∧(Blk.own A' e sz (n' +m) cap' (xs++news)).on w' ∧(0<n' +m→ ∃ g,A' =some g):=by
  obtain ⟨q1,q2⟩:=h2
  rcases q2 with ⟨rfl,q3⟩|⟨g,cap,cur,rfl,_,q4,q5,q6,q7,q8⟩
  ·
   refine ⟨none,0,by rw [q3];rfl,⟨q1,by omega,QX _,q3,rfl⟩,fun h=>by omega⟩
  ·
   refine ⟨some g,cap,rfl,⟨q1,q5,q6,cur.toList.drop ((n' +m)*sz),?_,?_⟩,fun _=>⟨g,rfl⟩⟩
   ·
    rw [← q8,Si];simpa using q7
   ·
    rw [← q8,Si];simpa using q4
 obtain ⟨A',cap',rfl,hon,hsome⟩:=hsh
 refine wpList_plain rfl fun K hK=> ?_
 unfold Oper.wp execOp
 simp only [resolve,invoke,builtin,Sem.run_bind,Sem.run_pure,Result.andThen_ok,SS,Rz,Sl,hs.eval x _ hx,hs.eval y _ hy,hr,Oper.upon]
 have hkey: ∀ (B:Option Nat) (q r:Nat),(sl B q r).ownBlock=B:=fun B q r=>by cases B<;>rfl
 rw [hkey] at h3
 refine hK _ _ (k A' cap' hsome _ _ (hs.put (Sd ▸ hn) _) (hm'.upd h3 hon fun j hj=> ?_))
 rw [hkey,hkey] at h5
 simp only [Blk.key] at hj ⊢
 rcases h5 with h5|h5
 ·
  left;rw [← h5];exact hj
 ·
  right;rw [h5] at hj;injection hj with hj;omega
theorem tD (w:World) (t ty e:TypeId) (i:TypeInfo) (ht:P.underlying t=some (.slice e)) (hi:P.info? e=some i) (B:Option Addr) (m c c' :Nat) (h:m≤c):
  (Builtin.append_ #[t,t] ty #[.slice B m c,.slice none 0 c']).run P w= .ok (.slice B m c) w:=by
 cases B<;>simp [Builtin.append_,run_underlying ht,sizeOf,typeInfo,hi,Builtin.lenOf,Builtin.firstCells,h,storeCells]
theorem dr {d t e n' c m sz by_:Nat} {A:Option Nat} {x y:Operand} {yv:Value} {xs news:List Value} {R:List Blk} {ops:Array Oper} [ht:Und P t (.slice e)] [he:Elem P e sz by_] (hn:Nat.blt d n.sz=true)
  (hx:ev s x=some (sl A n' c)) (hy:ev s y=some yv) (hsel:Sel (.own A e sz n' c xs) H R)
  (hnews: ∀ w,Mem w0 w H→Reads w yv m news) (hl:news.length=m*sz) (h1: ∀ u∈news,u.oneCell' =true) (hby:(n' +m)*by_≤140737488355328) (h63:n' +m≤maxLen)
  (k: ∀ A' cap',(0<m→ ∃ g,A' =some g)→WL P n w0 ops rest Q ((d,sl A' (n' +m) cap')::s) (.own A' e sz (n' +m) cap' (xs++news)::R)):
  WL P n w0 ops (⟨some d,.call { callee:= .builtin .append,args:= #[x,y],argTypes:= #[t,t] },ty,p,af,none⟩::rest) Q s H:=by
 intro a w hs hm
 have hm' :=hm.sel hsel
 have hb:=(hm'.on _ QT).1
 obtain ⟨B,c',rfl,h2,h3,h4⟩:=hnews w hm
 by_cases h0:m=0
 ·
  subst h0
  have hnil:news= []:=RK (by simpa using hl)
  subst hnil
  cases B with
  |some a2=>exact ui hn hx hy hsel (fun w hm j u hu=>by simp at hu) hl h1 hby h63 (fun A' cap' hA=>k A' cap' (fun h=>by omega)) a w hs hm
  |none=>
   obtain ⟨i,z,i1,i2,i3,i4,i5,i6⟩:=he.out
   have hr:=tD (P:=P) w t ty e i ht.out i1 (A.map fun g=>⟨g,0,none⟩) n' c c' hb.2.1
   refine wpList_plain rfl fun K hK=> ?_
   unfold Oper.wp execOp
   simp only [resolve,invoke,builtin,Sem.run_bind,Sem.run_pure,Result.andThen_ok,SS,Rz,Sl,hs.eval x _ hx,hs.eval y _ hy,sl,hr,Oper.upon]
   refine hK _ _ (k A c (fun h=>by omega) _ _ (hs.put (Sd ▸ hn) _) ?_)
   simpa using hm'
 ·
  obtain ⟨g,o,rfl,hro⟩:=h4 (by omega)
  exact bR hn hx hy hsel (fun w' hm2=>by
   obtain ⟨B,c'',e1,e2,e3,e4⟩:=hnews w' hm2
   obtain ⟨g',o',e5,hro'⟩:=e4 (by omega)
   injection e1 with e1 e1' e1''
   subst e1
   injection e5 with e5
   injection e5 with e5 e6
   subst e5;subst e6
   exact hro'.cells) hl h1 hby h63 (fun A' cap' hA=>k A' cap' (fun h=>hA (by omega))) a w hs hm
end
theorem GU {P:Program} {w0:World} {s:az} {H:List Blk} {ty t hi:Nat} {a:ByteArray} {x q:Operand} {k:IntKind} [ht:Und P t .string] (hx:ev s x=some (.string a)) (hq:ev s q=some (.int k (hi:Nat))) (h2:hi≤a.size):
  VOp P w0 s H (.slice t x none (some q) none) ty (.string (a.extract 0 hi)):=fun ρ w _ _ _ _ hρ _=>by
 have e2:((hi:Nat):Int)≤((a.size:Nat):Int):=by omega
 simp [execOp,hρ x _ hx,hρ q _ hq,Instr.sliceAt,run_underlying ht.out,Instr.slice,Instr.sliceBounds,Instr.sliceBound,asIntOf,h2]
section
variable {P:Program} {n:Fr} {w0:World} {Q:bU} {K:az→Prop} {s:az} {H:List Blk} {l rest:List Oper} {ty:TypeId} {p:String} {af:Array Edge}
theorem Ro.of_box {w:World} {g t:Nat} {xs:List Value} (hm:Mem w0 w H) (hi:In (.box g t xs) H):Ro w g 0 xs:=⟨Blk.key_lt (hm.on _ hi.mem).1 rfl,hm.cells_box hi⟩
theorem Ro.next {w w' :World} {H' :List Blk} {g o:Nat} {xs:List Value} (h:Ro w g o xs) (hm:Mem w w' H'):Ro w' g o xs:=Ro.of_ro hm h
theorem lK {f:FuncId} {bs:List Operand} {vs:List Value} (hc:evs s bs=some vs):VOp P w0 s H (.makeFunc (.func f) bs.toArray #[]) ty (.func (.func f) vs.toArray #[]):=fun ρ w _ _ _ _ hρ _=>by
 have h: ∀ {xs:List Operand} {vs:List Value},evs s xs=some vs→xs.map ρ=vs:=by
  intro xs
  induction xs with
  |nil=>intro vs h;simp only [evs,Option.some.injEq] at h;simp [← h]
  |cons x r ih=>
   intro vs h
   simp only [evs] at h
   split at h
   ·
    rename_i v us hv hr
    simp only [Option.some.injEq] at h
    subst h
    simp [hρ x v hv,ih hr]
   ·
    cases h
 simp [execOp,Instr.makeFunc,← h hc]
theorem xy {ρ:Operand→Value} {w:World} {d:Option Tmp} {g:Option (Nat × Bool)} {f:FuncId} {c:Operand} {xs:List Operand} {vs bs:List Value} {ts:Array TypeId} [hf:Callable P f] (hc:ρ c= .func (.func f) bs.toArray #[]) (hx:xs.map ρ=vs):
  (execOp ρ ⟨d,.call { callee:= .value c,args:=xs.toArray,argTypes:=ts },ty,p,af,g⟩).run P w= .ok (.enter f (bs++vs).toArray) w:=by
 simp [execOp,resolve,hc,Deferred.ofValue,invoke,← hx,hf.out]
theorem Jw {d:Nat} {ops:Array Oper} {f:FuncId} {c:Operand} {xs:List Operand} {vs bs:List Value} {ts:Array TypeId} {R:Value→List Blk→Prop} (hn:Nat.blt d n.sz=true) (hc:ev s c=some (.func (.func f) bs.toArray #[])) (hfc:Callable P f) (hx:evs s xs=some vs)
  (hF:FnIn P f (bs++vs) w0 H R) (k: ∀ v H',R v H' →WL P n w0 ops rest Q ((d,v)::s) H'):
  WL P n w0 ops (⟨some d,.call { callee:= .value c,args:=xs.toArray,argTypes:=ts },ty,p,af,none⟩::rest) Q s H:=by
 intro a w hs hm
 refine wpList_plain rfl fun K hK=> ?_
 have hr:=xy (P:=P) (w:=w) (ρ:=a.eval) (d:=some d) (ty:=ty) (p:=p) (af:=af) (g:=none) (f:=f) (c:=c) (xs:=xs) (bs:=bs) (ts:=ts) (hs.eval c _ hc) (gQ hs hx)
 simp only [Oper.wp,hr,Oper.upon]
 refine (hF w hm).mono ?_
 rintro e w' ⟨v,H',rfl,hm',hR⟩
 exact hK _ _ (k v H' hR _ _ (hs.put (Sd ▸ hn) _) hm')
theorem qW {d:Nat} {ops:Array Oper} {f:FuncId} {c:Operand} {xs:List Operand} {vs bs:List Value} {v:Value} {ts:Array TypeId} (hn:Nat.blt d n.sz=true) (hc:ev s c=some (.func (.func f) bs.toArray #[])) (hfc:Callable P f) (hx:evs s xs=some vs)
  (hF: ∀ w,Mem w0 w H→ay P f (bs++vs) w v) (k:WL P n w0 ops rest Q ((d,v)::s) H):
  WL P n w0 ops (⟨some d,.call { callee:= .value c,args:=xs.toArray,argTypes:=ts },ty,p,af,none⟩::rest) Q s H:=
 Jw hn hc hfc hx (FnIn.of_at hF) fun u H' ⟨H1,h1,h2⟩=>by
  subst h1
  subst h2
  exact yE ⟨H1,R0⟩ k
theorem Dj {x:Operand} {t u e T m c:Nat} {A:Option Nat} {ns:List Int} [hs:Und P t (.slice e)] [he:Und P e (.int .u8)] [hd:Und P u .string] (hx:ev s x=some (sl A m c)) (hi:In (.own A T 1 m c (ns.map (Value.int .u8))) H) (hl:ns.length=m):
  VOp P w0 s H (.convert t u x) ty (.string (mkB ns)):=fun ρ w _ _ _ _ hρ hm=>by
 have h3:ns.foldl (fun r n=>r.push (UInt8.ofNat n.toNat)) ByteArray.empty=mkB ns:=by
  have h4:=xG ns ByteArray.empty
  generalize ns.foldl (fun r n=>r.push (UInt8.ofNat n.toNat)) ByteArray.empty=b at h4 ⊢
  obtain ⟨⟨l⟩⟩:=b
  simp only at h4
  simp [h4,mkB]
 have h2:(Conv.bytesToString (.slice (A.map fun g=>(⟨g,0,none⟩:Addr)) m c)).run P w= .ok (.string (mkB ns)) w:=by
  cases A with
  |none=>
   obtain ⟨_,_,_,h4,_⟩:=(hm.on _ hi.mem).1
   subst h4
   have:ns= []:=SC.1 hl
   subst this
   rfl
  |some g=>
   have hc:=hm.cells_own hi
   have h1:=run_loadCells_list (P:=P) w ⟨g,0,none⟩ (ns.map (Value.int .u8)) (fun j v hv=>by rw [cK];exact hc j v hv)
   rw [RN,hl] at h1
   have h2:=run_bytesToString (P:=P) w ⟨g,0,none⟩ m c ns h1
   rw [h3] at h2
   exact h2
 simp only [execOp,hρ x _ hx,sl,Sem.run_bind,run_convert_bytes_string w t u e _ _ _ hs.out he.out hd.out,h2,Result.andThen_ok,Sem.run_pure]
theorem Ps {ι:Type} {sI:ι→az} {HI:ι→List Blk} {ok:ι→Prop} (h:kA Q):kA (bE sI HI ok Q):=fun c s H hq=>h c s H hq
theorem gX {K:az→Prop} {d:Nat} {ops:Array Oper} {f:FuncId} {c:Operand} {xs:List Operand} {vs caps:List Value} {v:Value} {ts:Array TypeId} (hn:Nat.blt d n.sz=true) (hc:ev s c=some (.func (.func f) #[] caps.toArray)) (hfc:Callable P f) (hx:evs s xs=some vs)
  (hF: ∀ w,Mem w0 w H→ay P f (vs++caps) w v) (k:WQ P n w0 ops rest K ((d,v)::s) H):
  WQ P n w0 ops (⟨some d,.call { callee:= .value c,args:=xs.toArray,argTypes:=ts },ty,p,af,none⟩::rest) K s H:=by
 intro a hs
 unfold wpQuiet
 simp only [Region.wanted,if_true]
 refine ⟨v,fun w hm=> ?_,k _ (hs.put (Sd ▸ hn) v)⟩
 unfold Oper.quietAt
 have hr:=kV (P:=P) (w:=w) (ρ:=a.eval) (d:=some d) (ty:=ty) (p:=p) (af:=af) (g:=none) (f:=f) (c:=c) (xs:=xs) (caps:=caps) (ts:=ts) (hs.eval c _ hc) (gQ hs hx)
 rw [hr]
 refine ⟨rfl,Calls.mono (hF w hm) ?_⟩
 rintro e w' ⟨u,H',rfl,hm',rfl⟩
 exact ⟨rfl,(hm.call hm').right⟩
theorem MSub.swap {H1 C:List Blk}:MSub (H1++C) (C++H1):=⟨[],by simpa using R0⟩
theorem MSub.swapN {H1 C:List Blk}:MSub (H1++(C++ [])) (C++H1):=⟨[],by simpa using R0⟩
theorem MSub.swapN' {H1 C:List Blk}:MSub (C++H1) (H1++(C++ [])):=⟨[],by simpa using R0⟩
theorem FE {ι:Type} {sb:az} {id:Nat} {ops:Array Oper} {d:Bool} {y z:Code} (ts:List Nat) (hk:BX s ts=some sb) (sI:ι→az) (ok:ι→Prop) (h:W P n w0 (.seq (.region id ops d) y) (bE (fun i=>sI i++sb) (fun _=>H) ok Q) s H) (k: ∀ i,ok i→W P n w0 z Q (sI i++sb) H):
  W P n w0 (.seq (.region id ops d) y) (thn (W P n w0 z Q) Q) s H:=
 o7 _ _ _ h k
theorem ra {x:Operand} {a:ByteArray} {m t:Nat} [ht:Und P t .string] (hx:ev s x=some (.string a)) (h:a.size=m):VOp P w0 s H (.call { callee:= .builtin .len,args:= #[x],argTypes:= #[t] }) ty (.int .i64 (m:Int)):=h ▸ JJ hx
def scp (Q:bU):bU
 | .goto _,_,_=>False
 |e,s,H=>Q e s H
theorem Mq {c:Code} (h:W P n w0 c (scp Q) s H):W P n w0 (.scope c) Q s H:=by
 intro a w hs hm
 refine wp_scope_straight (wp_mono (h a w hs hm) ?_)
 rintro e a' w' ⟨s',H',h1,h2,h3⟩
 cases e with
 |goto l=>exact h3.elim
 |_=>exact ⟨s',H',h1,h2,h3⟩
theorem Mr {i:Nat} (h:Q .normal s H):W P n w0 (.label i) Q s H:=fun _ _ hs hm=>wp_label ⟨s,H,hs,hm,h⟩
theorem Qj (h:Q .ret s H):scp Q .ret s H:=h
end
section
variable {P:Program} {n:Fr} {w0:World} {Q:bU} {s:az} {H:List Blk} {rest:List Oper} {ty:TypeId} {p:String} {af:Array Edge}
theorem Dc {d t e m sz:Nat} {ps:List (Nat × Operand)} {vs xs zs:List Value} {ops:Array Oper} [ht:Und P t (.array m e)] [he:Size P e sz] [hz:ZeroC P t zs] (hn:Nat.blt d n.sz=true) (hps:evd s ps 0=some vs)
  (hs0:Nat.blt 0 sz=true) (hl:Nat.beq (vs.length*sz) zs.length=true) (h1:xv sz vs=true) (hx:rI (pI vs)=some xs) (k:WL P n w0 ops rest Q ((d,.agg xs.toArray)::s) H):
  WL P n w0 ops (⟨some d,.build t ps.toArray,ty,p,af,none⟩::rest) Q s H:=by
 refine tM rfl d rfl hn (fun a w hs hm=> ?_) k
 obtain ⟨it,z,i1,i2,i3⟩:=hz.out
 obtain ⟨ie,j1,j2⟩:=he.out
 have hall:=nZ h1
 have hlen:=RL hl
 have hfill:=Great.fill_whole (s:=sz) (by simpa using hs0) vs z.cells hall (by rw [i3];simp [hlen])
 rw [← tX hs hps] at hfill
 have hb:P.built t (ps.map fun (x:Nat × Operand)=>(x.1,a.eval x.2))=some (pI vs).toArray:=by
  unfold Program.built
  simp only [i1,ht.out,i2,j1,j2]
  exact hfill
 have hr:=run_build (P:=P) w t (ps.map fun (x:Nat × Operand)=>(x.1,a.eval x.2)).toArray (pI vs).toArray (by simpa using hb)
 rw [gN hx]
 simp only [execOp,SS]
 simp only [Sem.run_bind,hr,Result.andThen_ok,Sem.run_pure]
theorem aQ {d t e n' c g sz by_:Nat} {A:Option Nat} {x y:Operand} {xs news:List Value} {R:List Blk} {ops:Array Oper} [ht:Und P t (.slice e)] [he:Elem P e sz by_] (hn:Nat.blt d n.sz=true)
  (hx:ev s x=some (sl A n' c)) (hy:ev s y=some (.slice (some ⟨g,0,none⟩) 1 1)) (hsel:Sel (.own A e sz n' c xs) H R)
  (hi:In (.own (some g) e sz 1 1 news) H) (hl:news.length=sz) (h1: ∀ u∈news,u.oneCell' =true) (hby:(n' +1)*by_≤140737488355328) (h63:n' +1≤maxLen)
  (k: ∀ g' cap',WL P n w0 ops rest Q ((d,sl (some g') (n' +1) cap')::s) (.own (some g') e sz (n' +1) cap' (xs++news)::R)):
  WL P n w0 ops (⟨some d,.call { callee:= .builtin .append,args:= #[x,y],argTypes:= #[t,t] },ty,p,af,none⟩::rest) Q s H:=
 dr (m:=1) hn hx hy hsel (fun w hm=>Reads.of_own (A:=some g) hm hi) (by omega) h1 hby h63 fun A' cap' hA=>by
  obtain ⟨g',rfl⟩:=hA (by omega)
  exact k g' cap'
end
section
variable {P:Program} {n:Fr} {w0:World} {Q:bU} {K:az→Prop} {s:az} {H H1:List Blk} {l rest:List Oper} {k j f:Nat} {ty:TypeId} {p:String} {af:Array Edge}
theorem mD {t T g off m:Nat} {x a:Operand} {v:Value} {vs xs:List Value} {R:List Blk} [Size P t m] (ha:ev s a=some (.pointer (some ⟨g,off,none⟩))) (hx:ev s x=some v)
  (hsel:Sel (.box g T xs) H R) (hv:v.cells=vs.toArray) (hl:vs.length=m) (h1:vs.all Value.oneCell' =true) (hfit:off+m≤xs.length)
  (hnew:MSub H1 (.box g T (xs.take off++vs++xs.drop (off+m))::R)) (h:WG P n w0 l (fun D=>if D k then H1 else H) K rest (k+1) s):
  WG P n w0 l (fun D=>if D k then H1 else H) K (⟨none,.store t a x,ty,p,af,none⟩::rest) k s:=by
 refine Fz (fun D ht a' w hs hm=> ?_) h
 have e1:D k=false:=ht.not
 have e2:put D k k=true:=by simp [put]
 simp only [e1,RT,if_false] at hm
 simp only [e2,if_true]
 have hm' :=hm.sel hsel
 have hb:=(hm'.on _ QT).1
 simp only [Blk.on] at hb
 have h1' : ∀ u∈vs,u.oneCell' =true:=by simpa using h1
 have hr:=jp (P:=P) (t:=t) (off:=off) hv hl h1' hb (by simpa using hfit)
 simp only at hr
 refine ⟨_,?_,hnew.use (hm'.upd (gK _ _ _) (b' := .box g T (xs.take off++vs++xs.drop (off+m))) (setRow_heap _ _ _ _ _ _ hb) fun k hk=> .inl hk)⟩
 simp [execOp,hs.eval a _ ha,hs.eval x _ hx,Instr.storeAt,Instr.sureAddr,hr]
theorem rZ {t T g off:Nat} {x a:Operand} {v:Value} {xs:List Value} {R:List Blk} [Size P t 1] (ha:ev s a=some (.pointer (some ⟨g,off,none⟩))) (hx:ev s x=some v)
  (hsel:Sel (.box g T xs) H R) (hv:v.oneCell' =true) (hfit:Nat.blt off xs.length=true)
  (hnew:MSub H1 (.box g T (xs.set off v)::R)) (h:WG P n w0 l (fun D=>if D k then H1 else H) K rest (k+1) s):
  WG P n w0 l (fun D=>if D k then H1 else H) K (⟨none,.store t a x,ty,p,af,none⟩::rest) k s:=by
 refine mD (m:=1) ha hx hsel (vs:= [v]) (by cases v<;>first|rfl|cases hv) rfl (by simpa using hv) (by have:=Sd ▸ hfit;omega) ?_ h
 rw [p7 _ _ _ (Sd ▸ hfit)]
 exact hnew
theorem GL {d:Nat} {f' :FuncId} {xs:List Operand} {vs:List Value} {v:Value} {ts:Array TypeId} [Callable P f'] (hn:Nat.blt d n.sz=true) (hr:kn l f j k=true) (hne:Nat.beq j k=false) (hx:evs s xs=some vs)
  (hF: ∀ w,Mem w0 w H→ay P f' vs w v) (h:WG P n w0 l (fun D=>if D j then H1 else H) K rest (k+1) ((d,v)::s)):
  WG P n w0 l (fun D=>if D j then H1 else H) K (⟨some d,.call { callee:= .value (.func f'),args:=xs.toArray,argTypes:=ts },ty,p,af,none⟩::rest) k s:=by
 refine JA hn hx (fun D ht w hm=> ?_) (fun D=> ?_) h
 ·
  rw [ht.late hr] at hm
  exact hF w hm
 ·
  have:put D k j=D j:=by
   unfold put
   rw [if_neg]
   intro e
   subst e
   rw [Nat.beq_refl] at hne
   cases hne
  simp only [this]
end
end Go.SL

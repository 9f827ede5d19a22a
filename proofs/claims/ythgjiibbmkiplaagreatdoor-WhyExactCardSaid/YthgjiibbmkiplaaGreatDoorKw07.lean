/-
  Lemmas and walks, put together: Sl14 Sl35 Sl34 Sl36 Sl25 Sl26 La G1a.
-/
import Derived.ChangeKeysEq
import Derived.Laws.Bits64
import Derived.Shelf.SlSortCmp.NoneTotal
import Derived.Test.YthgjiibbmkiplaaGreatDoorKw03
import Derived.Test.YthgjiibbmkiplaaGreatDoorKw04
set_option linter.unusedSimpArgs false
set_option linter.unusedVariables false
set_option maxRecDepth 20000
namespace Go.SL
open Go Go.RowKit
def fen (r:Option Nat):Fence:={ Fence.wide with round:=r }
theorem uY {r:Option Nat} {P:Program} {f:FuncId} {args:Array Value} {w:World} {R:Ending→World→Prop} (h:Calls P f args w R):CallsIn (fen r) 0 P f args w R:=
 (callsIn_wide (n:=0)).2 h
theorem Oy {r:Option Nat} {P:Program} {row:String} {args:Array Value} {w:World} {R:Value→World→Prop} (h:Rows P row args w R):RowsIn (fen r) 0 P row args w R:=
 fun c cs _=>let ⟨v,w',h1,h2⟩:=h c cs;⟨v,w',h1,stepsIn_wide.2 h2⟩
theorem mK (r:Option Nat):(fen r).depth.isSome=true→1≤0:=fun h=>by simp [fen,Fence.wide] at h
theorem mX {r:Option Nat} {P:Program} {o:Oper} {a:Act} {w:World} {next next' :Act→World→Prop} {Q1 Q2:Exit→Act→World→Prop} (hnd: ∀ c,o.op≠ .defer c) (hn: ∀ a w,next a w→next' a w) (hp: ∀ c a w,Q1 (.panic c) a w→Q2 (.panic c) a w) (ho:LetsOut Q1→LetsOut Q2)
 (h:o.wp P a w next Q1):o.wpIn (fen r) 0 P a w next' Q2:=by
 refine ⟨fun _ _=>trivial,?_⟩;have hsem:o.semAt (fen r).round a.eval=execOp a.eval o:=Oper.semAt_eq _ _ _ hnd;rw [hsem];unfold Oper.wp at h;generalize (execOp a.eval o).run P w=x at h ⊢
 cases x with
 |ok x w' =>
  cases x<;>simp only [Oper.upon] at h<;>simp only [Oper.uponIn]
  case value v=>exact hn _ _ h
  case skip=>exact hn _ _ h
  case defer d=>exact hn _ _ h
  case enter f args=>
   refine ⟨mK r,uY (Calls.mono h fun e w'' he=> ?_)⟩
   cases e with
   |returned v=>exact hn _ _ he
   |panicked c=>exact hp _ _ _ he
   |outgrown=>exact ho he
  case row k args=>exact ⟨mK r,Oy (Rows.mono h fun v w'' he=>hn _ _ he)⟩
 |halt x w' =>cases x<;>simp only [Oper.upon] at h<;>simp only [Oper.uponIn]<;>exact hp _ _ _ h
def qj (l:List Oper):Bool:=l.all fun o=>match o.op with| .defer _=>false|_=>true
theorem rH {l:List Oper} (h:qj l=true): ∀ o∈l,∀ c,o.op≠ .defer c:=fun o ho c e=>by
 have:=Yt.1 h o ho;rw [e] at this;cases this
theorem ib {r:Option Nat} {P:Program} {ops:Array Oper} {Q:Exit→Act→World→Prop} (hno: ¬ LetsOut Q): ∀ (l:List Oper) (a:Act) (w:World),(∀ o∈l,∀ c,o.op≠ .defer c)→wpList P ops Q l a w→wpListIn (fen r) 0 P ops Q l a w
 | [],_,_,_,h=>h
 |o::l,a,w,hnd,h=>by
  unfold wpList at h;unfold wpListIn;split
  ·rename_i hw;rw [if_pos hw] at h;rcases h with h|⟨_,h⟩
   ·exact mX (hnd o Xb) (fun a w h=>ib hno l a w (fun o ho=>hnd o (Xp _ ho)) h) (fun _ _ _ h=>h) (fun h=>h) h
   ·exact absurd h hno
  ·rename_i hw;rw [if_neg hw] at h;exact ⟨fun _ _=>trivial,ib hno l _ w (fun o ho=>hnd o (Xp _ ho)) h⟩
section
variable {P:Program} {n:Fr} {w0:World} {Q:bK} {s sb:az} {H:List Blk} {l:Nat}
def WR (P:Program) (n:Fr) (w0:World) (l:Nat) (c:Code) (Q:bK) (s:az) (H:List Blk):Prop:=
 ∀ a w,St n s a→Mem w0 w H→c.wpIn (fen (some l)) 0 P (post n w0 Q) a w
def NoOut (Q:bK):Prop:= ∀ s H,¬ Q .outgrown s H
theorem NoOut.post (h:NoOut Q): ¬ LetsOut (post n w0 Q):=fun ⟨_,_,s,H,_,_,hq⟩=>h s H hq
theorem UD {K:az→List Blk→Prop} (h:NoOut Q):NoOut (thn K Q):=fun s H hq=>h s H hq
theorem UE {id:Nat} (h:NoOut Q):NoOut (blk id Q):=fun s H hq=>h s H hq
theorem TM {x y:Code} (h:WR P n w0 l x (thn (WR P n w0 l y Q) Q) s H):WR P n w0 l (.seq x y) Q s H:=by
 intro a w hs hm;refine wpIn_seq (wpIn_mono (h a w hs hm) ?_);rintro e a' w' ⟨s',H',h1,h2,h3⟩
 cases e with
 |normal=>exact h3 a' w' h1 h2
 |_=>exact ⟨s',H',h1,h2,h3⟩
theorem QF (h:Q .normal s H):WR P n w0 l .skip Q s H:=fun _ _ hs hm=>wpIn_skip ⟨s,H,hs,hm,h⟩
theorem DY {id:Nat} {c:Code} (h:WR P n w0 l c (blk id Q) s H):WR P n w0 l (.block id c) Q s H:=by
 intro a w hs hm;refine wpIn_block (wpIn_mono (h a w hs hm) ?_);rintro e a' w' ⟨s',H',h1,h2,h3⟩
 cases e with
 |exit id' =>
  simp only [Exit.inBlock,blk] at h3 ⊢;split
  ·rename_i hid;rw [if_pos hid] at h3;exact ⟨s',H',h1,h2,h3⟩
  ·rename_i hid;rw [if_neg hid] at h3;exact ⟨s',H',h1,h2,h3⟩
 |_=>exact ⟨s',H',h1,h2,h3⟩
theorem B0 {c:Operand} {x y:Code} (hc:ev s c=some (.bool true)) (h:WR P n w0 l x Q s H):WR P n w0 l (.cond c x y) Q s H:=
 fun a w hs hm=>wpIn_cond_true (hs.eval c _ hc) (h a w hs hm)
theorem zC {c:Operand} {x y:Code} (hc:ev s c=some (.bool false)) (h:WR P n w0 l y Q s H):WR P n w0 l (.cond c x y) Q s H:=
 fun a w hs hm=>wpIn_cond_false (hs.eval c _ hc) (h a w hs hm)
theorem QG {c:Operand} {x y:Code} {b:Bool} (hc:ev s c=some (.bool b)) (ht:b=true→WR P n w0 l x Q s H) (hf:b=false→WR P n w0 l y Q s H):WR P n w0 l (.cond c x y) Q s H:=
 fun a w hs hm=>wpIn_cond (t:=b) (hs.eval c _ hc) (by cases b with|true=>exact ht rfl a w hs hm|false=>exact hf rfl a w hs hm)
theorem KU {id:Nat} {ops:List Oper} (hnd:qj ops=true) (hno:NoOut Q) (h:WL P n w0 ops.toArray ops Q s H):WR P n w0 l (.region id ops.toArray false) Q s H:=
 fun a w hs hm=>wpIn_region_lit (ib hno.post ops a w (rH hnd) (h a w hs hm))
def WLI (P:Program) (n:Fr) (w0:World) (ops:Array Oper) (rest:List Oper) (Q:bK) (s:az) (H:List Blk):Prop:=
 ∀ a w,St n s a→Mem w0 w H→wpListIn (fen none) 0 P ops (post n w0 Q) rest a w
theorem ji {id:Nat} {ops:List Oper} (h:WLI P n w0 ops.toArray ops Q s H):W P n w0 (.region id ops.toArray false) Q s H:=
 fun a w hs hm=>(wpIn_wide (n:=0)).1 (wpIn_region_lit (h a w hs hm))
variable {ops:Array Oper} {rest:List Oper} {ty:TypeId} {p:String} {af:Array Edge}
theorem QJ (h:Q .normal s H):WLI P n w0 ops [] Q s H:=fun _ _ hs hm=>⟨s,H,hs,hm,h⟩
theorem Nk {o:Oper} (hnd:qj [o]=true) (h:WL P n w0 ops [o] (fun e s' H' =>e= .normal∧WLI P n w0 ops rest Q s' H') s H):WLI P n w0 ops (o::rest) Q s H:=by
 intro a w hs hm;have h1:=h a w hs hm;have hnext: ∀ a w,wpList P ops (post n w0 fun e s' H' =>e= .normal∧WLI P n w0 ops rest Q s' H') [] a w→wpListIn (fen none) 0 P ops (post n w0 Q) rest a w:=by
  rintro a w ⟨s',H',h1,h2,_,h3⟩;exact h3 a w h1 h2
 unfold wpList at h1;unfold wpListIn;split
 ·rename_i hw;rw [if_pos hw] at h1;rcases h1 with h1|⟨_,a0,w1,s',H'',_,_,he,_⟩
  ·refine mX (rH hnd o Xb) hnext ?_ ?_ h1
   ·rintro c a w ⟨s',H'',_,_,he,_⟩;cases he
   ·rintro ⟨a0,w1,s',H'',_,_,he,_⟩;cases he
  ·cases he
 ·rename_i hw;rw [if_neg hw] at h1;exact ⟨fun _ _=>trivial,hnext _ _ h1⟩
theorem KX {d k:Nat} {c:Operand} {xs:List Operand} {vs:List Value} {ts:Array TypeId} {R:Value→List Blk→Prop} (hn:Nat.blt d n.sz=true) (hc:ev s c=some (.func (.yield k) #[] #[])) (hx:evs s xs=some vs)
 (hF: ∀ w,Mem w0 w H→YieldAt (fen none) 0 P k vs.toArray w fun e w' => ∃ v H',e= .returned v∧Mem w0 w' H' ∧R v H') (h: ∀ v H',R v H' →WLI P n w0 ops rest Q ((d,v)::s) H'):
 WLI P n w0 ops (⟨some d,.call { callee:= .value c,args:=xs.toArray,argTypes:=ts },ty,p,af,none⟩::rest) Q s H:=by
 intro a w hs hm;unfold wpListIn;simp only [Region.wanted,if_true];obtain ⟨fn,tmps,assign,body,hy,hR⟩:=hF w hm;have hrun:(execOp a.eval ⟨some d,.call { callee:= .value c,args:=xs.toArray,argTypes:=ts },ty,p,af,none⟩).run P w= .ok (.round k fn tmps assign body) w:=by
  have hmap:=iX hs hx;simp [execOp,resolve,hs.eval c _ hc,Deferred.ofValue,invoke,hmap,hy]
 refine ⟨fun _ _=>trivial,?_⟩;have hsem:Oper.semAt (fen none).round a.eval ⟨some d,.call { callee:= .value c,args:=xs.toArray,argTypes:=ts },ty,p,af,none⟩=execOp a.eval ⟨some d,.call { callee:= .value c,args:=xs.toArray,argTypes:=ts },ty,p,af,none⟩:=rfl;rw [hsem,hrun];refine ⟨mK none,RoundIn.mono hR ?_⟩;rintro e w' ⟨v,H',rfl,hm',hv⟩;exact h v H' hv _ _ (hs.put (Yg ▸ hn) _) hm'
theorem JX {d:Nat} {op:Op} {v:Value} (hnd:qj [⟨some d,op,ty,p,af,none⟩]=true) (hn:Nat.blt d n.sz=true) (hv:VOp P w0 s H op ty v) (h:WLI P n w0 ops rest Q ((d,v)::s) H):WLI P n w0 ops (⟨some d,op,ty,p,af,none⟩::rest) Q s H:=
 Nk hnd (ak hn hv (oo ⟨rfl,h⟩))
theorem ic {d k:Nat} {c:Operand} {xs:List Operand} {vs:List Value} {ts:Array TypeId} {H' T:List Blk} {A A' :List Blk→Prop} (hn:Nat.blt d n.sz=true) (hc:ev s c=some (.func (.yield k) #[] #[])) (hx:evs s xs=some vs)
 (hM:MSub H' H) (hF: ∀ w,Mem w0 w H' →YieldAt (fen none) 0 P k vs.toArray w fun e w' => ∃ b H2,e= .returned (.bool b)∧Mem w0 w' (H2++T)∧(if b then A H2 else A' H2)) (h: ∀ b H2,(if b then A H2 else A' H2)→WLI P n w0 ops rest Q ((d,.bool b)::s) (H2++T)):
 WLI P n w0 ops (⟨some d,.call { callee:= .value c,args:=xs.toArray,argTypes:=ts },ty,p,af,none⟩::rest) Q s H:=by
 refine KX (R:=fun v H' => ∃ b H2,v= .bool b∧H' =H2++T∧(if b then A H2 else A' H2)) hn hc hx (fun w hm=> ?_) ?_
 ·obtain ⟨fn,tmps,assign,body,hy,hR⟩:=hF w (hM.use hm);refine ⟨fn,tmps,assign,body,hy,RoundIn.mono hR ?_⟩;rintro e w' ⟨b,H2,rfl,hm',hq⟩;exact ⟨_,_,rfl,hm',b,H2,rfl,rfl,hq⟩
 ·rintro v H' ⟨b,H2,rfl,rfl,hq⟩;exact h b H2 hq
theorem MSub.app3 {H1:List Blk} {a b c:Blk}:MSub (H1++([a]++ [b,c])) (b::c::a::H1):=
 ⟨[],by
  rw [Xm];exact (ZO (l₁:= [b,c]) (l₂:=H1)).trans (X6 (l₁:= [a,b,c]) (l₂:=H1))⟩
theorem MSub.app3' {H1:List Blk} {a b c:Blk}:MSub (a::H1) (H1++([a]++ [b,c])):=⟨[b,c],ZO⟩
theorem MSub.app3r {H1:List Blk} {a b c:Blk}:MSub (H1++ [a]) (H1++([a]++ [b,c])):=⟨[b,c],by simp⟩
def Seqs {α:Type} (P:Program) (f:FuncId) (caps:List Value) (w0:World) (Hc:List Blk) (us:List α) (encs:α→List Value):Prop:=
 ∀ (l:Nat) (I J:List α→List Blk→Prop) (H0:List Blk),
  (∀ pre u post,us=pre++u::post→ ∀ H1 F,I pre H1→ ∀ w,Mem w0 w (H1++(Hc++F))→YieldAt (fen none) 0 P l (encs u).toArray w fun e w' => ∃ b H2,e= .returned (.bool b)∧Mem w0 w' (H2++(Hc++F))∧(if b then I (pre++ [u]) H2 else J (pre++ [u]) H2))→
  I [] H0→FnIn P f (.func (.yield l) #[] #[]::caps) w0 (H0++Hc) fun _ H' => ∃ H1,(I us H1∨ ∃ pre,J pre H1)∧MSub (H1++Hc) H'
def wL (D:Nat):Deferred:={ target:= .collected D,args:= #[] }
def dm (D:Nat):Blk:= .obj D (.deferred (some []))
theorem kA {w:World} {t T T' g:Nat} {v:Value} {a:Act} [One P T] (hs:St n s a) (hm:Mem w0 w H) (ht:look s t=some (.pointer (some ⟨g,0,none⟩))) (hi:In (.box g T' [v]) H):
 (do let b ← asAddr (a.tmps.getD t undef);loadVar T b).run P w= .ok v w:=by
 have h1:=hs.has t _ ht;have hc:=hm.cells_box hi 0 v rfl;have h2:=gj (P:=P) (t:=T) hc;simp [XZ,h1,asAddr,h2]
def WT (P:Program) (n:Fr) (w0:World) (c:Code) (B:Exit→Act→World→Prop) (s:az) (H:List Blk):Prop:=
 ∀ a w,St n s a→Mem w0 w H→c.wpIn (fen none) 0 P B a w
def bw (n:Fr) (w0:World) (B:Exit→Act→World→Prop):bK:=fun e s H=> ∀ a w,St n s a→Mem w0 w H→B e a w
def mU (P:Program) (fn:Func) (w0:World) (R:Value→List Blk→Prop):Exit→Act→World→Prop:=
 bodyPostM (fen none) 0 P fn fun e w' => ∃ v H',e= .returned v∧Mem w0 w' H' ∧R v H'
variable {B:Exit→Act→World→Prop}
theorem yQ {m:Nat} {f:FuncId} {fn:Func} {c:Code} {args:List Value} {R:Value→List Blk→Prop} (hf:P.funcs[f]? =some fn) (hb:fn.body=some c) (hn:fn.ntmps=m) (hle:Nat.ble args.length m=true)
 (h:WT P ⟨m,[]⟩ w0 c (mU P fn w0 R) (uD args 0) H):FnIn P f args w0 H R:=by
 intro w hm;have hle' :args.length≤m:=by simpa using hle
 refine (callsIn_wide (n:=0)).1 (callsIn_of_wp_marks hf hb trivial (h { tmps:=args.toArray++Array.replicate (fn.ntmps - args.toArray.size) undef,defers:= [] } w ⟨?_,rfl,?_⟩ hm))
 ·simp [hn];omega
 ·intro t v ht;rw [mE] at ht;simp only [Xn,if_true,YC] at ht;have hlt:t<args.length:=(XJ.1 ht).1;rw [Yy (by simpa using hlt)];simpa using ht
theorem o9 {m:Nat} {f:FuncId} {fn:Func} {c:Code} {args:List Value} {w:World} {R:Value→List Blk→Prop} (hf:P.funcs[f]? =some fn) (hb:fn.body=some c) (hn:fn.ntmps=m) (hle:Nat.ble args.length m=true)
 (h:WT P ⟨m,[]⟩ w c (mU P fn w R) (uD args 0) []):FnAt P f args w R:=yQ hf hb hn hle h w (Mem.refl w)
theorem TL {x y:Code} (h:W P n w0 x (thn (WT P n w0 y B) (bw n w0 B)) s H):WT P n w0 (.seq x y) B s H:=by
 intro a w hs hm;refine wpIn_seq (wpIn_mono ((wpIn_wide (n:=0)).2 (h a w hs hm)) ?_);rintro e a' w' ⟨s',H',h1,h2,h3⟩
 cases e with
 |normal=>exact h3 a' w' h1 h2
 |_=>exact h3 a' w' h1 h2
theorem JW {c:Code} (h:W P n w0 c (bw n w0 B) s H):WT P n w0 c B s H:=
 fun a w hs hm=>wpIn_mono ((wpIn_wide (n:=0)).2 (h a w hs hm)) fun _ _ _ ⟨_,_,h1,h2,h3⟩=>h3 _ _ h1 h2
def Ul (P:Program) (z:Code) (B:Exit→Act→World→Prop):Exit→Act→World→Prop:=Exit.then (z.wpIn (fen none) 0 P B) B
theorem Nh {x y z:Code} (h:WT P n w0 (.seq x y) (Ul P z B) s H):WT P n w0 (.seq (.seq x y) z) B s H:=fun a w hs hm=>wpIn_seq (h a w hs hm)
theorem Mz {z:Code} (h:WT P n w0 z B s H):bw n w0 (Ul P z B) .normal s H:=fun a w hs hm=>h a w hs hm
theorem My {z:Code} (h:bw n w0 B .ret s H):bw n w0 (Ul P z B) .ret s H:=fun a w hs hm=>h a w hs hm
theorem KT {c:Operand} {a b:Code} (h:W P n w0 (.cond c a b) (bw n w0 B) s H):WT P n w0 (.cond c a b) B s H:=JW h
theorem oh {id:Nat} {l:Array Oper} {d:Bool} {y:Code} (h:W P n w0 (.region id l d) (thn (WT P n w0 y B) (bw n w0 B)) s H):WT P n w0 (.seq (.region id l d) y) B s H:=TL h
theorem DX (h:W P n w0 .ret (bw n w0 B) s H):WT P n w0 .ret B s H:=JW h
theorem Dr {m:Nat} {fn:Func} {R:Value→List Blk→Prop} {e:Exit} (h:aY P fn ⟨m,[]⟩ w0 R e s H):bw ⟨m,[]⟩ w0 (mU P fn w0 R) e s H:=by
 obtain ⟨he,v,H',hsub,hr,hR⟩:=h;intro a w hs hm;have hp:LeavesInM (fen none) 0 P fn a.tmps (fun e w' => ∃ v H',e= .returned v∧Mem w0 w' H' ∧R v H') a.defers .returning w:=by
  rw [hs.defers];exact ⟨v,hr a w hs hm,v,H',rfl,hsub.use hm,hR⟩
 rcases he with rfl|rfl<;>exact hp
theorem ph {m D:Nat} {fn:Func} {R:Value→List Blk→Prop} {e:Exit} {H2:List Blk} (hsel:Sel (dm D) H H2) (h:aY P fn ⟨m,[wL D]⟩ w0 R e s H2):bw ⟨m,[wL D]⟩ w0 (mU P fn w0 R) e s H:=by
 obtain ⟨he,v,H',hsub,hr,hR⟩:=h;intro a w hs hm;have hm1:=hm.sel hsel;have hD:w.heap[D]? =some (.deferred (some [])):=(hm1.on _ Xb).1;have hm2:Mem w0 (w.putObj D (.deferred none)) H2:=by
  have hlt:D<w.heap.size:=(XK.1 hD).1;exact (hm1.upd (b' := .obj D (.deferred none)) (grownBy_putObj' w D _) (World.putObj_heap_same hlt) fun k hk=> .inl hk).tail
 have hp:LeavesInM (fen none) 0 P fn a.tmps (fun e w' => ∃ v H',e= .returned v∧Mem w0 w' H' ∧R v H') a.defers .returning w:=by
  rw [hs.defers];refine ⟨by simp,.inl ⟨D,_,rfl,run_takeDeferred hD,?_⟩⟩;exact ⟨v,hr a _ hs hm2,v,H',rfl,hsub.use hm2,hR⟩
 rcases he with rfl|rfl<;>exact hp
def gF (K:az→List Blk→Prop):bK:=fun e s H=>e= .normal∧K s H
theorem JD {K:az→List Blk→Prop}:NoOut (gF K):=fun _ _ h=>by cases h.1
def jl {α:Type} (U:List α→List Blk→Prop) (X:List Blk→Prop) (xs:List α) (F:List Blk):bK
 | .normal,_,H=> ∃ HU,MSub (HU++F) H∧U xs HU
 | .ret,_,H=> ∃ HU,MSub (HU++F) H∧X HU
 |_,_,_=>False
theorem lI {α:Type} {U:List α→List Blk→Prop} {X:List Blk→Prop} {xs:List α} {F:List Blk} (HU:List Blk) (h1:MSub (HU++F) H) (h2:U xs HU):jl U X xs F .normal s H:=⟨HU,h1,h2⟩
theorem pN {K:az→List Blk→Prop} (h:K s H):gF K .normal s H:=⟨rfl,h⟩
theorem LN {α:Type} {U:List α→List Blk→Prop} {X:List Blk→Prop} {xs:List α} {F:List Blk}:NoOut (jl U X xs F):=fun _ _ h=>h
theorem nJ (m:Nat): ∀ (ps:List Tmp) (vs:List Value) (tm:Array Value) (s:az),tm.size=m→(∀ t v,look s t=some v→tm[t]? =some v)→ps.all (fun t=>Nat.blt t m)=true→
 ((ps.zip vs).foldl (fun (tmps:Array Value) (x:Tmp × Value)=>tmps.setIfInBounds x.1 x.2) tm).size=m∧ ∀ t v,look ((ps.zip vs).reverse++s) t=some v→((ps.zip vs).foldl (fun (tmps:Array Value) (x:Tmp × Value)=>tmps.setIfInBounds x.1 x.2) tm)[t]? =some v
 | [],vs,tm,s,h1,h2,_=>by simpa using ⟨h1,h2⟩
 |q::ps,[],tm,s,h1,h2,_=>by simpa using ⟨h1,h2⟩
 |q::ps,u::vs,tm,s,h1,h2,h3=>by
  simp only [Zv,Xo] at h3;have hq:q<m:=by simpa using h3.1
  have h:=nJ m ps vs (tm.setIfInBounds q u) ((q,u)::s) (by simpa using h1) (fun t v ht=>by
   rw [js] at ht;by_cases e:q=t
   ·subst e;rw [if_pos rfl] at ht;injection ht with ht;subst ht;simp [h1,hq]
   ·rw [if_neg e] at ht;rw [Zj e];exact h2 t v ht) h3.2
  rw [List.zip_cons_cons,YV,List.reverse_cons,XE];exact h
theorem rZ {α:Type} {id:Nat} {g:Operand} {ps:List Tmp} {assign body:Code} {m:Nat} {f:FuncId} [hcf:Callable P f] {caps:List Value} {us:List α} {encs:α→List Value} {Hc HU0:List Blk} (hg:ev s g=some (.func (.func f) #[] caps.toArray))
 (hps: ∀ u,(encs u).length=ps.length) (hpn:ps.all (fun t=>Nat.blt t m)=true) (hseq:Seqs P f caps w0 Hc us encs) (U:List α→List Blk→Prop) (X:List Blk→Prop) (hH:MSub (HU0++Hc) H) (h0:U [] HU0)
 (hround: ∀ l pre u post,us=pre++u::post→ ∀ HU,U pre HU→ ∀ F F',WR P ⟨m,[]⟩ w0 l assign (gF fun s1 H1=> ∃ HU1,MSub (HU1++F) H1∧WR P ⟨m,[]⟩ w0 l body (jl U X (pre++ [u]) F') s1 (HU1++F')) ((ps.zip (encs u)).reverse++s) (HU++F))
 (hdone: ∀ D HU,U us HU→bw ⟨m,[wL D]⟩ w0 B .normal s (dm D::(HU++Hc)))
 (hexit: ∀ D HU,X HU→bw ⟨m,[wL D]⟩ w0 B .ret s (dm D::(HU++Hc))):
 WT P ⟨m,[]⟩ w0 (.block id (.rangeFunc g ps.toArray assign body)) B s H:=by
 intro a w hs hm;have hm0:Mem w0 w (HU0++Hc):=hH.use hm;refine wpIn_block (wpIn_rangeFunc fun fn _=> ?_);obtain ⟨rec,hrec⟩: ∃ rec:LoopState→Option Code→Loop,rec=fun st pe=>{ state:=st,pending:=pe,fn,tmps:=a.tmps,params:=ps.toArray,assign,body,defers:=w.heap.size }:=⟨_,rfl⟩;obtain ⟨W1,hW1⟩: ∃ W1,(w.alloc (.deferred (some []))).alloc (.loop (rec .ready none))=W1:=⟨_,rfl⟩;have hm1:Mem w0 W1 (.obj (w.heap.size+1) (.loop (rec .ready none))::dm w.heap.size::(HU0++Hc)):=by
  have h1:Mem w0 (w.alloc (.deferred (some []))) (dm w.heap.size::(HU0++Hc)):=hm0.new (World.grownBy_alloc w _ none) (World.alloc_heap_new w _) fun k hk=>by
   simp only [dm,Blk.key,Option.some.injEq] at hk;omega
  rw [← hW1];refine h1.new (World.grownBy_alloc _ _ none) ?_ fun k hk=> ?_
  ·have:=World.alloc_heap_new (w.alloc (.deferred (some []))) (.loop (rec .ready none));rwa [World.size_alloc] at this
  ·simp only [Blk.key,Option.some.injEq] at hk;rw [World.size_alloc];omega
 have hcall:=hseq (w.heap.size+1) (fun pre H1=> ∃ HU,U pre HU∧H1= .obj (w.heap.size+1) (.loop (rec .ready none))::dm w.heap.size::HU)
  (fun _ H1=> ∃ HU,X HU∧H1= .obj (w.heap.size+1) (.loop (rec .done (some .ret)))::dm w.heap.size::HU)
  (.obj (w.heap.size+1) (.loop (rec .ready none))::dm w.heap.size::HU0) ?_ ⟨HU0,h0,rfl⟩ W1 (by simpa using hm1)
 rotate_left
 ·-- one round
  rintro pre u post hus H1 F ⟨HU,hU,rfl⟩ w1 hmr;have hl:w1.heap[w.heap.size+1]? =some (.loop (rec .ready none)):=(hmr.on _ Xb).1;have hy:=run_yield (P:=P) (args:=(encs u).toArray) hl (by rw [hrec];simp [hps u]);rw [hrec] at hy;have hzip:(ps.toArray.zip (encs u).toArray).foldl (fun (tmps:Array Value) (x:Tmp × Value)=>tmps.setIfInBounds x.1 x.2) a.tmps=(ps.zip (encs u)).foldl (fun (tmps:Array Value) (x:Tmp × Value)=>tmps.setIfInBounds x.1 x.2) a.tmps:=by
   rw [← Array.foldl_toList];simp
  have hpar:=nJ m ps (encs u) a.tmps s hs.size hs.has hpn;refine ⟨fn,_,assign,body,hy,roundIn_of_wpIn trivial ?_⟩;have hin:(fen none).inRound (w.heap.size+1)=fen (some (w.heap.size+1)):=rfl;rw [hin];have hperm: ∀ (o:Blk) (HU:List Blk),((o::dm w.heap.size::HU)++(Hc++F)).Perm (HU++(o::dm w.heap.size::(Hc++F))):=fun o HU=>by
   have h1:((o::dm w.heap.size::HU)++(Hc++F))= [o,dm w.heap.size]++(HU++(Hc++F)):=by simp
   have h2:(HU++(o::dm w.heap.size::(Hc++F)))=HU++([o,dm w.heap.size]++(Hc++F)):=by simp
   have h3:=(X6 (l₁:= [o,dm w.heap.size]) (l₂:=HU)).append_right (Hc++F);rw [XE,XE] at h3;rw [h1,h2];exact h3
  have hst:St ⟨m,[]⟩ ((ps.zip (encs u)).reverse++s) { tmps:=(ps.toArray.zip (encs u).toArray).foldl (fun (tmps:Array Value) (x:Tmp × Value)=>tmps.setIfInBounds x.1 x.2) a.tmps,defers:= [] }:=by
   rw [hzip];exact ⟨hpar.1,rfl,hpar.2⟩
  refine wpIn_mono (hround (w.heap.size+1) pre u post hus HU hU (.obj (w.heap.size+1) (.loop (rec .ready none))::dm w.heap.size::(Hc++F)) (.obj (w.heap.size+1) (.loop (rec .busy none))::dm w.heap.size::(Hc++F)) _ w1 hst (hmr.perm (hperm _ _))) ?_;rintro e a1 w2 ⟨s1,H1,hs1,hm2,rfl,HU1,hsub,hbody⟩;have hm3:=(hsub.use hm2).perm (hperm _ _).symm;have hl2:w2.heap[w.heap.size+1]? =some (.loop (rec .ready none)):=(hm3.on _ Xb).1;have turn: ∀ (w2:World) (st:LoopState) (pe:Option Code) (HU1:List Blk) (o' :Obj),Mem w0 w2 ((.obj (w.heap.size+1) (.loop (rec st pe))::dm w.heap.size::HU1)++(Hc++F))→Mem w0 (w2.putObj (w.heap.size+1) o') ((.obj (w.heap.size+1) o' ::dm w.heap.size::HU1)++(Hc++F)):=by
   intro w2 st pe HU1 o' hm3;have hl2:w2.heap[w.heap.size+1]? =some (.loop (rec st pe)):=(hm3.on _ Xb).1;exact Mem.upd (b:= .obj (w.heap.size+1) (.loop (rec st pe))) (b' := .obj (w.heap.size+1) o') hm3 (grownBy_putObj' w2 _ _) (World.putObj_heap_same (XK.1 hl2).1) fun k hk=> .inl hk
  refine ⟨_,run_beginRound hl2 (by rw [hrec]),?_⟩;have hb:=turn w2 _ _ HU1 (.loop { rec .ready none with state:= .busy }) hm3;have hbusy:({ rec .ready none with state:= .busy }:Loop)=rec .busy none:=by rw [hrec]
  rw [hbusy] at hb ⊢;refine wpIn_mono (hbody a1 _ hs1 (hb.perm (hperm _ _))) ?_;rintro e a3 w3 ⟨s3,H3,hs3,hm4,hq⟩
  cases e with
  |normal=>
   obtain ⟨HU2,hsub2,hU2⟩:=hq;have hm5:=(hsub2.use hm4).perm (hperm _ _).symm;have hl5:w3.heap[w.heap.size+1]? =some (.loop (rec .busy none)):=(hm5.on _ Xb).1;refine ⟨_,_,run_endRound none hl5,true,_,rfl,turn w3 _ _ HU2 _ hm5,?_⟩;refine ⟨HU2,hU2,?_⟩;rw [hrec]
   rfl
  |ret=>
   obtain ⟨HU2,hsub2,hX⟩:=hq;have hm5:=(hsub2.use hm4).perm (hperm _ _).symm;have hl5:w3.heap[w.heap.size+1]? =some (.loop (rec .busy none)):=(hm5.on _ Xb).1;refine ⟨_,_,run_endRound (some .ret) hl5,false,_,rfl,turn w3 _ _ HU2 _ hm5,?_⟩;refine ⟨HU2,hX,?_⟩;rw [hrec]
   rfl
  |exit id=>exact hq.elim
  |goto t=>exact hq.elim
  |panic c=>exact hq.elim
  |outgrown=>exact hq.elim
 have hev:=hs.eval g _ hg;refine ⟨w.heap.size+1,[wL w.heap.size],W1,{ target:= .fn (.func f) caps.toArray,args:= #[.func (.yield (w.heap.size+1)) #[] #[]] },W1,f,#[.func (.yield (w.heap.size+1)) #[] #[]]++caps.toArray,W1,?_,?_,fun _ _=>trivial,?_,mK none,?_⟩
 ·rw [← hW1,hrec];exact run_enterLoop_outer _ _ _ _ _
 ·simp only [resolve,hev];simp [go_sem]
 ·simp [invoke,hcf.out]
 ·have harr:(#[.func (.yield (w.heap.size+1)) #[] #[]]++caps.toArray:Array Value)=(.func (.yield (w.heap.size+1)) #[] #[]::caps).toArray:=by simp
  rw [harr];refine CallsIn.mono (uY (r:=none) hcall) ?_;rintro e w2 ⟨v,H',rfl,hm2,H1,hI,hsub⟩;have hm3:=hsub.use hm2
  have fin: ∀ (st:LoopState) (pe:Option Code) (HU:List Blk),st≠ .busy→Mem w0 w2 ((.obj (w.heap.size+1) (.loop (rec st pe))::dm w.heap.size::HU)++Hc)→
   ∃ w4,(Instr.endLoop (w.heap.size+1)).run P w2= .ok pe w4∧Mem w0 w4 (dm w.heap.size::(HU++Hc)):=by
   intro st pe HU hst hm4;have hl:w2.heap[w.heap.size+1]? =some (.loop (rec st pe)):=(hm4.on _ Xb).1;have hr:=run_endLoop (P:=P) hl (by rw [hrec];exact hst);have hp:(rec st pe).pending=pe:=by rw [hrec]
   rw [hp] at hr;refine ⟨_,hr,?_⟩;exact (Mem.upd (b:= .obj (w.heap.size+1) (.loop (rec st pe))) (b' := .obj (w.heap.size+1) (.loop { rec st pe with state:= .exhausted,pending:=pe })) hm4 (grownBy_putObj' w2 _ _) (World.putObj_heap_same (XK.1 hl).1) fun k hk=> .inl hk).tail
  have hst:St ⟨m,[wL w.heap.size]⟩ s { a with defers:= [wL w.heap.size]++a.defers }:=⟨hs.size,by rw [hs.defers];rfl,hs.has⟩;rcases hI with ⟨HU,hU,rfl⟩|⟨pre,HU,hX,rfl⟩
  ·obtain ⟨w4,hr,hm4⟩:=fin _ _ HU (by decide) hm3;exact ⟨none,w4,hr,hdone _ HU hU _ w4 hst hm4⟩
  ·obtain ⟨w4,hr,hm4⟩:=fin _ _ HU (by decide) hm3;exact ⟨some .ret,w4,hr,wpIn_ret (hexit _ HU hX _ w4 hst hm4)⟩
end
section
variable {P:Program} {n:Fr} {w0:World} {s:az} {H:List Blk}
theorem OA {fn:Func} {R:Value→List Blk→Prop} {e:Exit} {t u q T U T' U' g h:Nat} {v x y:Value} (he:e= .ret∨e= .normal) (hr:fn.results= #[.cell t T,.cell u U,.tmp q]) [One P T] [One P U] (ht:look s t=some (.pointer (some ⟨g,0,none⟩))) (hi:In (.box g T' [v]) H)
 (hu:look s u=some (.pointer (some ⟨h,0,none⟩))) (hi' :In (.box h U' [x]) H) (hq:look s q=some y) {H' :List Blk} (hs:MSub H' H) (hR:R (.tuple #[v,x,y]) H'):aY P fn n w0 R e s H:=
 ⟨he,_,H',hs,fun a w hst hm=>by
  have h1:=kA (P:=P) (T:=T) hst hm ht hi;have h2:=kA (P:=P) (T:=U) hst hm hu hi';have h3:=hst.has q _ hq;simp only [results,hr];simp only [Zz,XV,X5,Sem.run_bind,Sem.run_map] at h1 h2 ⊢;simp only [h1,h2,Result.andThen_ok,Sem.run_pure];simp only [XZ,h3,Ze]
  rfl,hR⟩
end
section
variable {P:Program} {n:Fr} {w0:World} {Q:bK} {s:az} {H:List Blk} {l rest:List Oper} {ty:TypeId} {p:String} {af:Array Edge}
theorem lX {op:Op} {dst:Option Tmp} {j d:Nat} {dg:Bool} (hj:gd l j=some d) (hv:look s d=some (.bool dg))
 (k:WLI P n w0 l.toArray (⟨dst,op,ty,p,af,none⟩::rest) Q s H):WLI P n w0 l.toArray (⟨dst,op,ty,p,af,some (j,dg)⟩::rest) Q s H:=by
 intro a w hs hm;have h:=k a w hs hm;have hy:=ia hs hj hv;unfold wpListIn at h ⊢;simp only [Region.wanted,if_true] at h;simp only [Region.wanted,hy,lz,beq_self_eq_true,if_true];exact h
theorem pR {op:Op} {dst j d:Nat} {dg b:Bool} (hj:gd l j=some d) (hv:look s d=some (.bool b)) (hw:(b==dg)=false) (hn:Nat.blt dst n.sz=true)
 (k:WLI P n w0 l.toArray rest Q ((dst,undef)::s) H):WLI P n w0 l.toArray (⟨some dst,op,ty,p,af,some (j,dg)⟩::rest) Q s H:=by
 intro a w hs hm;have hy:=ia hs hj hv;have:(yielded l.toArray a.tmps j==some dg)=false:=by rw [hy];simpa [lz] using hw
 unfold wpListIn;simp only [Region.wanted,this];exact ⟨fun _ _=>trivial,k _ _ (hs.put (Yg ▸ hn) _) hm⟩
theorem xn {op:Op} {dst:Option Tmp} {j d:Nat} {dg b:Bool} (_hj:gd l j=some d) (hv:look s d=some (.bool b))
 (k1:b=true→WLI P n w0 l.toArray (⟨dst,op,ty,p,af,some (j,dg)⟩::rest) Q ((d,.bool true)::s) H)
 (k2:b=false→WLI P n w0 l.toArray (⟨dst,op,ty,p,af,some (j,dg)⟩::rest) Q ((d,.bool false)::s) H):
 WLI P n w0 l.toArray (⟨dst,op,ty,p,af,some (j,dg)⟩::rest) Q s H:=by
 intro a w hs hm
 cases b with
 |true=>exact k1 rfl a w (hs.shadow hv) hm
 |false=>exact k2 rfl a w (hs.shadow hv) hm
theorem ub {d:Nat} {f:FuncId} {xs:List Operand} {vs:List Value} {v:Value} {ts:Array TypeId} {ops:Array Oper} [Callable P f] (hnd:qj [⟨some d,.call { callee:= .value (.func f),args:=xs.toArray,argTypes:=ts },ty,p,af,none⟩]=true) (hn:Nat.blt d n.sz=true) (hx:evs s xs=some vs)
 (hF: ∀ w,Mem w0 w H→aL P f vs w v) (k:WLI P n w0 ops rest Q ((d,v)::s) H):
 WLI P n w0 ops (⟨some d,.call { callee:= .value (.func f),args:=xs.toArray,argTypes:=ts },ty,p,af,none⟩::rest) Q s H:=
 Nk hnd (aa hn hx hF (oo ⟨rfl,k⟩))
end
section
variable {P:Program} {n:Fr} {w0:World} {Q:bK} {s sb:az} {H:List Blk} {l:Nat}
variable {B:Exit→Act→World→Prop}
theorem KS {α:Type} {id:Nat} {g:Operand} {ps:List Tmp} {assign body:Code} {m:Nat} {f:FuncId} [hcf:Callable P f] {caps:List Value} {us:List α} {encs:α→List Value} {Hc HU0:List Blk} (hg:ev s g=some (.func (.func f) #[] caps.toArray))
 (hps: ∀ u,(encs u).length=ps.length) (hpn:ps.all (fun t=>Nat.blt t m)=true) (hseq:Seqs P f caps w0 Hc us encs) (U:List α→List Blk→Prop) (X:List Blk→Prop) (hH:MSub (HU0++Hc) H) (h0:U [] HU0)
 (hround: ∀ l pre u post,us=pre++u::post→ ∀ HU,U pre HU→ ∀ F F',WR P ⟨m,[]⟩ w0 l assign (gF fun s1 H1=> ∃ HU1,MSub (HU1++(Hc++F)) H1∧WR P ⟨m,[]⟩ w0 l body (jl U X (pre++ [u]) (Hc++F')) s1 (HU1++(Hc++F'))) ((ps.zip (encs u)).reverse++s) (HU++(Hc++F)))
 (hdone: ∀ D HU,U us HU→bw ⟨m,[wL D]⟩ w0 B .normal s (dm D::(HU++Hc)))
 (hexit: ∀ D HU,X HU→bw ⟨m,[wL D]⟩ w0 B .ret s (dm D::(HU++Hc))):
 WT P ⟨m,[]⟩ w0 (.block id (.rangeFunc g ps.toArray assign body)) B s H:=by
 intro a w hs hm;have hm0:Mem w0 w (HU0++Hc):=hH.use hm;refine wpIn_block (wpIn_rangeFunc fun fn _=> ?_);obtain ⟨rec,hrec⟩: ∃ rec:LoopState→Option Code→Loop,rec=fun st pe=>{ state:=st,pending:=pe,fn,tmps:=a.tmps,params:=ps.toArray,assign,body,defers:=w.heap.size }:=⟨_,rfl⟩;obtain ⟨W1,hW1⟩: ∃ W1,(w.alloc (.deferred (some []))).alloc (.loop (rec .ready none))=W1:=⟨_,rfl⟩;have hm1:Mem w0 W1 (.obj (w.heap.size+1) (.loop (rec .ready none))::dm w.heap.size::(HU0++Hc)):=by
  have h1:Mem w0 (w.alloc (.deferred (some []))) (dm w.heap.size::(HU0++Hc)):=hm0.new (World.grownBy_alloc w _ none) (World.alloc_heap_new w _) fun k hk=>by
   simp only [dm,Blk.key,Option.some.injEq] at hk;omega
  rw [← hW1];refine h1.new (World.grownBy_alloc _ _ none) ?_ fun k hk=> ?_
  ·have:=World.alloc_heap_new (w.alloc (.deferred (some []))) (.loop (rec .ready none));rwa [World.size_alloc] at this
  ·simp only [Blk.key,Option.some.injEq] at hk;rw [World.size_alloc];omega
 have hcall:=hseq (w.heap.size+1) (fun pre H1=> ∃ HU,U pre HU∧H1= .obj (w.heap.size+1) (.loop (rec .ready none))::dm w.heap.size::HU)
  (fun _ H1=> ∃ HU,X HU∧H1= .obj (w.heap.size+1) (.loop (rec .done (some .ret)))::dm w.heap.size::HU)
  (.obj (w.heap.size+1) (.loop (rec .ready none))::dm w.heap.size::HU0) ?_ ⟨HU0,h0,rfl⟩ W1 (by simpa using hm1)
 rotate_left
 ·-- one round
  rintro pre u post hus H1 F ⟨HU,hU,rfl⟩ w1 hmr;have hl:w1.heap[w.heap.size+1]? =some (.loop (rec .ready none)):=(hmr.on _ Xb).1;have hy:=run_yield (P:=P) (args:=(encs u).toArray) hl (by rw [hrec];simp [hps u]);rw [hrec] at hy;have hzip:(ps.toArray.zip (encs u).toArray).foldl (fun (tmps:Array Value) (x:Tmp × Value)=>tmps.setIfInBounds x.1 x.2) a.tmps=(ps.zip (encs u)).foldl (fun (tmps:Array Value) (x:Tmp × Value)=>tmps.setIfInBounds x.1 x.2) a.tmps:=by
   rw [← Array.foldl_toList];simp
  have hpar:=nJ m ps (encs u) a.tmps s hs.size hs.has hpn;refine ⟨fn,_,assign,body,hy,roundIn_of_wpIn trivial ?_⟩;have hin:(fen none).inRound (w.heap.size+1)=fen (some (w.heap.size+1)):=rfl;rw [hin];have hperm: ∀ (o:Blk) (HU:List Blk),((o::dm w.heap.size::HU)++(Hc++F)).Perm (HU++(Hc++(o::dm w.heap.size::F))):=fun o HU=>by
   have h1:((o::dm w.heap.size::HU)++(Hc++F))= [o,dm w.heap.size]++((HU++Hc)++F):=by simp
   have h2:(HU++(Hc++(o::dm w.heap.size::F)))=(HU++Hc)++([o,dm w.heap.size]++F):=by simp
   have h3:=(X6 (l₁:= [o,dm w.heap.size]) (l₂:=HU++Hc)).append_right F;rw [XE,XE (HU++Hc)] at h3;rw [h1,h2];exact h3
  have hst:St ⟨m,[]⟩ ((ps.zip (encs u)).reverse++s) { tmps:=(ps.toArray.zip (encs u).toArray).foldl (fun (tmps:Array Value) (x:Tmp × Value)=>tmps.setIfInBounds x.1 x.2) a.tmps,defers:= [] }:=by
   rw [hzip];exact ⟨hpar.1,rfl,hpar.2⟩
  refine wpIn_mono (hround (w.heap.size+1) pre u post hus HU hU (.obj (w.heap.size+1) (.loop (rec .ready none))::dm w.heap.size::F) (.obj (w.heap.size+1) (.loop (rec .busy none))::dm w.heap.size::F) _ w1 hst (hmr.perm (hperm _ _))) ?_;rintro e a1 w2 ⟨s1,H1,hs1,hm2,rfl,HU1,hsub,hbody⟩;have hm3:=(hsub.use hm2).perm (hperm _ _).symm;have hl2:w2.heap[w.heap.size+1]? =some (.loop (rec .ready none)):=(hm3.on _ Xb).1;have turn: ∀ (w2:World) (st:LoopState) (pe:Option Code) (HU1:List Blk) (o' :Obj),Mem w0 w2 ((.obj (w.heap.size+1) (.loop (rec st pe))::dm w.heap.size::HU1)++(Hc++F))→Mem w0 (w2.putObj (w.heap.size+1) o') ((.obj (w.heap.size+1) o' ::dm w.heap.size::HU1)++(Hc++F)):=by
   intro w2 st pe HU1 o' hm3;have hl2:w2.heap[w.heap.size+1]? =some (.loop (rec st pe)):=(hm3.on _ Xb).1;exact Mem.upd (b:= .obj (w.heap.size+1) (.loop (rec st pe))) (b' := .obj (w.heap.size+1) o') hm3 (grownBy_putObj' w2 _ _) (World.putObj_heap_same (XK.1 hl2).1) fun k hk=> .inl hk
  refine ⟨_,run_beginRound hl2 (by rw [hrec]),?_⟩;have hb:=turn w2 _ _ HU1 (.loop { rec .ready none with state:= .busy }) hm3;have hbusy:({ rec .ready none with state:= .busy }:Loop)=rec .busy none:=by rw [hrec]
  rw [hbusy] at hb ⊢;refine wpIn_mono (hbody a1 _ hs1 (hb.perm (hperm _ _))) ?_;rintro e a3 w3 ⟨s3,H3,hs3,hm4,hq⟩
  cases e with
  |normal=>
   obtain ⟨HU2,hsub2,hU2⟩:=hq;have hm5:=(hsub2.use hm4).perm (hperm _ _).symm;have hl5:w3.heap[w.heap.size+1]? =some (.loop (rec .busy none)):=(hm5.on _ Xb).1;refine ⟨_,_,run_endRound none hl5,true,_,rfl,turn w3 _ _ HU2 _ hm5,?_⟩;refine ⟨HU2,hU2,?_⟩;rw [hrec]
   rfl
  |ret=>
   obtain ⟨HU2,hsub2,hX⟩:=hq;have hm5:=(hsub2.use hm4).perm (hperm _ _).symm;have hl5:w3.heap[w.heap.size+1]? =some (.loop (rec .busy none)):=(hm5.on _ Xb).1;refine ⟨_,_,run_endRound (some .ret) hl5,false,_,rfl,turn w3 _ _ HU2 _ hm5,?_⟩;refine ⟨HU2,hX,?_⟩;rw [hrec]
   rfl
  |exit id=>exact hq.elim
  |goto t=>exact hq.elim
  |panic c=>exact hq.elim
  |outgrown=>exact hq.elim
 have hev:=hs.eval g _ hg;refine ⟨w.heap.size+1,[wL w.heap.size],W1,{ target:= .fn (.func f) caps.toArray,args:= #[.func (.yield (w.heap.size+1)) #[] #[]] },W1,f,#[.func (.yield (w.heap.size+1)) #[] #[]]++caps.toArray,W1,?_,?_,fun _ _=>trivial,?_,mK none,?_⟩
 ·rw [← hW1,hrec];exact run_enterLoop_outer _ _ _ _ _
 ·simp only [resolve,hev];simp [go_sem]
 ·simp [invoke,hcf.out]
 ·have harr:(#[.func (.yield (w.heap.size+1)) #[] #[]]++caps.toArray:Array Value)=(.func (.yield (w.heap.size+1)) #[] #[]::caps).toArray:=by simp
  rw [harr];refine CallsIn.mono (uY (r:=none) hcall) ?_;rintro e w2 ⟨v,H',rfl,hm2,H1,hI,hsub⟩;have hm3:=hsub.use hm2
  have fin: ∀ (st:LoopState) (pe:Option Code) (HU:List Blk),st≠ .busy→Mem w0 w2 ((.obj (w.heap.size+1) (.loop (rec st pe))::dm w.heap.size::HU)++Hc)→
   ∃ w4,(Instr.endLoop (w.heap.size+1)).run P w2= .ok pe w4∧Mem w0 w4 (dm w.heap.size::(HU++Hc)):=by
   intro st pe HU hst hm4;have hl:w2.heap[w.heap.size+1]? =some (.loop (rec st pe)):=(hm4.on _ Xb).1;have hr:=run_endLoop (P:=P) hl (by rw [hrec];exact hst);have hp:(rec st pe).pending=pe:=by rw [hrec]
   rw [hp] at hr;refine ⟨_,hr,?_⟩;exact (Mem.upd (b:= .obj (w.heap.size+1) (.loop (rec st pe))) (b' := .obj (w.heap.size+1) (.loop { rec st pe with state:= .exhausted,pending:=pe })) hm4 (grownBy_putObj' w2 _ _) (World.putObj_heap_same (XK.1 hl).1) fun k hk=> .inl hk).tail
  have hst:St ⟨m,[wL w.heap.size]⟩ s { a with defers:= [wL w.heap.size]++a.defers }:=⟨hs.size,by rw [hs.defers];rfl,hs.has⟩;rcases hI with ⟨HU,hU,rfl⟩|⟨pre,HU,hX,rfl⟩
  ·obtain ⟨w4,hr,hm4⟩:=fin _ _ HU (by decide) hm3;exact ⟨none,w4,hr,hdone _ HU hU _ w4 hst hm4⟩
  ·obtain ⟨w4,hr,hm4⟩:=fin _ _ HU (by decide) hm3;exact ⟨some .ret,w4,hr,wpIn_ret (hexit _ HU hX _ w4 hst hm4)⟩
theorem MSub.perm36 {H H' :List Blk} (h:H'.Perm H):MSub H H' :=⟨[],by simpa using h⟩
theorem CV (A X C:List Blk):(A++(C++X)).Perm ((A++X)++C):=by
 rw [XE];exact List.Perm.append_left A X6
theorem Seqs.frame {α:Type} {f:FuncId} {caps:List Value} {us:List α} {encs:α→List Value} {Hc:List Blk} (h:Seqs P f caps w0 Hc us encs) (X:List Blk):Seqs P f caps w0 (Hc++X) us encs:=by
 intro l I J H0 hy h0
 have h1:=h l (fun pre H1=> ∃ H2,H1=H2++X∧I pre H2) (fun pre H1=> ∃ H2,H1=H2++X∧J pre H2) (H0++X) (by
  rintro pre u post hus H1 F ⟨H2,rfl,hI⟩ w hm;have hp: ∀ A:List Blk,((A++X)++(Hc++F)).Perm (A++((Hc++X)++F)):=fun A=>by
   have:=(CV A X Hc).symm.append_right F;simpa using this
  obtain ⟨fn,tmps,assign,body,hy1,hy2⟩:=hy pre u post hus H2 F hI w (hm.perm (hp H2));refine ⟨fn,tmps,assign,body,hy1,hy2.mono ?_⟩;rintro e w' ⟨b,H3,he,hm3,hb⟩;refine ⟨b,H3++X,he,hm3.perm (hp H3).symm,?_⟩;cases b
  ·exact ⟨H3,rfl,hb⟩
  ·exact ⟨H3,rfl,hb⟩) ⟨H0,rfl,h0⟩
 refine (FnIn.msub h1 (MSub.perm36 (CV H0 X Hc))).mono ?_;rintro v H' ⟨H1,hI,hsub⟩;have hq: ∀ H2:List Blk,H1=H2++X→MSub (H2++(Hc++X)) H' :=fun H2 e=>by
  subst e;exact MSub.trans (MSub.perm36 (CV H2 X Hc).symm) hsub
 rcases hI with ⟨H2,e,hI⟩|⟨pre,H2,e,hJ⟩
 ·exact ⟨H2,.inl hI,hq H2 e⟩
 ·exact ⟨H2,.inr ⟨pre,hJ⟩,hq H2 e⟩
end
section
variable {P:Program} {n:Fr} {w0:World} {Q:bK} {s:az} {H:List Blk} {l rest:List Oper} {ty:TypeId} {p:String} {af:Array Edge} {Φ:Exit→Act→World→Prop}
def RW (P:Program) (n:Fr) (w0:World) (c:Code) (Φ:Exit→Act→World→Prop) (s:az) (H:List Blk):Prop:= ∀ a w,St n s a→Mem w0 w H→c.wp P Φ a w
theorem Ok {x y:Code} {Q0:bK} (hQ: ∀ e a w,e≠ .normal→post n w0 Q0 e a w→Φ e a w) (h:W P n w0 x (thn (RW P n w0 y Φ) Q0) s H):RW P n w0 (.seq x y) Φ s H:=by
 intro a w hs hm;refine wp_seq (wp_mono (h a w hs hm) ?_);rintro e a' w' ⟨s',H',h1,h2,h3⟩
 cases e with
 |normal=>exact h3 a' w' h1 h2
 |_=>exact hQ _ _ _ (fun h=>by cases h) ⟨s',H',h1,h2,h3⟩
theorem Un {c:Code} {Q0:bK} (hQ: ∀ e a w,post n w0 Q0 e a w→Φ e a w) (h:W P n w0 c Q0 s H):RW P n w0 c Φ s H:=
 fun a w hs hm=>wp_mono (h a w hs hm) hQ
def dfr (f:FuncId) (caps:List Value):Deferred:=⟨.fn (.func f) caps.toArray,#[]⟩
theorem Ol {m d:Nat} {id:Nat} {z:Code} {f:FuncId} {cs:List Operand} {caps:List Value} {ds:List Deferred} {t1 t2:TypeId} {p1 p2:String} {af1 af2:Array Edge} (hc:evs s cs=some caps) (hn:Nat.blt d m=true)
 (h:RW P ⟨m,dfr f caps::ds⟩ w0 z Φ ((d,.func (.func f) #[] caps.toArray)::s) H):
 RW P ⟨m,ds⟩ w0 (.seq (.region id #[⟨some d,.makeFunc (.func f) #[] cs.toArray,t1,p1,af1,none⟩,⟨none,.defer { callee:= .value (.tmp d),args:= #[],argTypes:= #[] },t2,p2,af2,none⟩] false) z) Φ s H:=by
 intro a w hs hm;refine wp_seq (wp_region_lit (l:= [⟨some d,.makeFunc (.func f) #[] cs.toArray,t1,p1,af1,none⟩,⟨none,.defer { callee:= .value (.tmp d),args:= #[],argTypes:= #[] },t2,p2,af2,none⟩]) ?_);have hs2:St ⟨m,ds⟩ ((d,.func (.func f) #[] caps.toArray)::s) (a.put (some d) (.func (.func f) #[] caps.toArray)):=hs.put (by exact Yg ▸ hn) _;refine wpList_plain rfl fun K hK=> ?_;have hv:=xJ (P:=P) (w0:=w0) (H:=H) (ty:=t1) (f:=f) hc a.eval w (some d) p1 af1 none hs.eval hm;simp only [Oper.wp,hv,Oper.upon];refine hK _ _ ?_;refine wpList_plain rfl fun K hK=> ?_;have he:(a.put (some d) (.func (.func f) #[] caps.toArray)).eval (.tmp d)= .func (.func f) #[] caps.toArray:=hs2.eval _ _ (by simp [ev,look]);simp only [Oper.wp,execOp,resolve,he,Deferred.ofValue,Oper.upon];simp only [Array.map_empty,Array.append_empty,Array.empty_append,Sem.run_pure,Sem.run_bind,Result.andThen_ok,bind_pure_comp,map_pure];refine hK _ _ ?_;exact h _ w ⟨hs2.size,by simp [Act.put,dfr,hs.defers],hs2.has⟩ hm
def Sq (P:Program) (fn:Func) (w0:World) (R:Value→List Blk→Prop):Exit→Act→World→Prop:=bodyPostD P fn fun e w' => ∃ v H',e= .returned v∧Mem w0 w' H' ∧R v H'
theorem Sc {m:Nat} {f:FuncId} {fn:Func} {c:Code} {args:List Value} {R:Value→List Blk→Prop} (hf:P.funcs[f]? =some fn) (hb:fn.body=some c) (hn:fn.ntmps=m) (hle:Nat.ble args.length m=true)
 (h:RW P ⟨m,[]⟩ w0 c (Sq P fn w0 R) (uD args 0) H):FnIn P f args w0 H R:=by
 intro w hm;have hle' :args.length≤m:=by simpa using hle
 refine calls_of_wp_defers hf hb (h { tmps:=args.toArray++Array.replicate (fn.ntmps - args.toArray.size) undef,defers:= [] } w ⟨?_,rfl,?_⟩ hm)
 ·simp [hn];omega
 ·intro t v ht;rw [mE] at ht;simp only [Xn,if_true,YC] at ht;have hlt:t<args.length:=(XJ.1 ht).1;rw [Yy (by simpa using hlt)];simpa using ht
theorem Sd {m:Nat} {f:FuncId} {fn:Func} {c:Code} {args:List Value} {w:World} {R:Value→List Blk→Prop} (hf:P.funcs[f]? =some fn) (hb:fn.body=some c) (hn:fn.ntmps=m) (hle:Nat.ble args.length m=true)
 (h:RW P ⟨m,[]⟩ w c (Sq P fn w R) (uD args 0) []):FnAt P f args w R:=Sc hf hb hn hle h w (Mem.refl w)
theorem PQ {m:Nat} {fn:Func} {R:Value→List Blk→Prop} {e:Exit} {a:Act} {w:World} (h:post ⟨m,[]⟩ w0 (aY P fn ⟨m,[]⟩ w0 R) e a w):Sq P fn w0 R e a w:=by
 obtain ⟨s,H,hs,hm,he,v,H',hsub,hr,hR⟩:=h;have hl:Leaves P fn a.tmps (fun e w' => ∃ v H',e= .returned v∧Mem w0 w' H' ∧R v H') a.defers .returning w:=by
  rw [hs.defers];exact ⟨v,hr a w hs hm,v,H',rfl,hsub.use hm,hR⟩
 rcases he with rfl|rfl<;>exact hl
def FnD (P:Program) (f:FuncId) (caps:List Value) (u:FrameMode) (w0:World) (H H' :List Blk):Prop:=
 ∀ w,Mem w0 w H→CallsD P f caps.toArray u w fun e u' w' =>(∃ v,e= .returned v)∧settle u' = .returning∧Mem w0 w' H'
def IX:Exit→Option FrameMode
 | .normal=>some .returning
 | .ret=>some .returning
 | .panic c=>some (.panicking c)
 |_=>none
def WY (P:Program) (fn:Func) (n:Fr) (w0:World) (f:FuncId) (caps:List Value) (R:Value→List Blk→Prop):bK:=fun e s H=>
 ∃ u Hb H',IX e=some u∧MSub Hb H∧FnD P f caps u w0 Hb H' ∧aY P fn n w0 R .ret s H'
theorem UO {m:Nat} {fn:Func} {f:FuncId} [hc:Callable P f] {caps:List Value} {R:Value→List Blk→Prop} {e:Exit} {a:Act} {w:World} (h:post ⟨m,[dfr f caps]⟩ w0 (WY P fn ⟨m,[dfr f caps]⟩ w0 f caps R) e a w):Sq P fn w0 R e a w:=by
 obtain ⟨s,H,hs,hm,u,Hb,H',he,hsub,hD,_,v,H2,h2,hr,hR⟩:=h;have hu:u≠ .run:=by rintro rfl;cases e<;>simp [IX] at he
 have hl:Leaves P fn a.tmps (fun e w' => ∃ v H',e= .returned v∧Mem w0 w' H' ∧R v H') a.defers u w:=by
  rw [hs.defers];refine leaves_cons hu (f:=f) (args:=caps.toArray) (by simp [invoke,hc.out]) ((hD w (hsub.use hm)).mono ?_);rintro e u' w' ⟨⟨v',rfl⟩,hset,hm'⟩;show Leaves P fn a.tmps _ [] (settle u') w';rw [hset];exact ⟨v,hr a w' hs hm',v,H2,rfl,h2.use hm',hR⟩
 cases e<;>simp only [IX,Option.some.injEq,reduceCtorEq] at he<;>subst he<;>exact hl
def WK (H' :List Blk):bK:=fun e _ H=>(e= .ret∨e= .normal)∧MSub H' H
theorem VS {m d:Nat} {f:FuncId} {fn:Func} {id:Nat} {z:Code} {caps:List Value} {u:FrameMode} {v:Value} {H' :List Blk} (hf:P.funcs[f]? =some fn)
 (hb:fn.body=some (.seq (.region id #[⟨some d,.call { callee:= .builtin .recover,args:= #[],argTypes:= #[] },ty,p,af,none⟩] false) z)) (hres:fn.results= #[]) (hn:fn.ntmps=m) (hle:Nat.ble caps.length m=true) (hd:Nat.blt d m=true)
 (hu:(u= .returning∧v= .nilIface)∨u= .panicking (jV v))
 (h:W P ⟨m,[]⟩ w0 z (WK H') ((d,v)::uD caps 0) H):FnD P f caps u w0 H H' :=by
 intro w hm;have hle' :caps.length≤m:=by simpa using hle
 refine callsD_of_wpS hf hb fun c₀ cs hc=> ?_;have hst:St ⟨m,[]⟩ (uD caps 0) { tmps:=caps.toArray++Array.replicate (fn.ntmps - caps.toArray.size) undef,defers:= [] }:=by
  refine ⟨?_,rfl,?_⟩
  ·simp [hn];omega
  ·intro t v ht;rw [mE] at ht;simp only [Xn,if_true,YC] at ht;have hlt:t<caps.length:=(XJ.1 ht).1;rw [Yy (by simpa using hlt)];simpa using ht
 refine wpS_seq (wpS_region ?_);have hgo: ∀ cs',(∃ u',cs' ={ c₀ with mode:=u' }::cs∧settle u' = .returning)→Exit.thenS (z.wpS P (bodyPostS P fn c₀ cs fun e u' w' =>(∃ v,e= .returned v)∧settle u' = .returning∧Mem w0 w' H')) (bodyPostS P fn c₀ cs fun e u' w' =>(∃ v,e= .returned v)∧settle u' = .returning∧Mem w0 w' H') .normal ({ tmps:=caps.toArray++Array.replicate (fn.ntmps - caps.toArray.size) undef,defers:= []:Act }.put (some d) v) cs' w:=by
  rintro cs' ⟨u',rfl,hset⟩;refine wpS_of_wp (wp_mono (h _ w (hst.put (Yg ▸ hd) v) hm) ?_);rintro e a' w' ⟨s',H2,hs2,hm2,he,hsub⟩;have:a'.defers= []∧ ∃ u2,({ c₀ with mode:=u' }::cs:List Frame)={ c₀ with mode:=u2 }::cs∧ ∃ v,(results fn a'.tmps).run P w' = .ok v w' ∧((∃ v2,Ending.returned v= .returned v2)∧settle u2= .returning∧Mem w0 w' H'):=
   ⟨hs2.defers,u',rfl,.tuple #[],by simp [results,hres],⟨_,rfl⟩,hset,hsub.use hm2⟩
  rcases he with rfl|rfl<;>exact this
 have hrun: ∀ ρ:Operand→Value,(execOp ρ ⟨some d,.call { callee:= .builtin .recover,args:= #[],argTypes:= #[] },ty,p,af,none⟩).run P w= .ok .recover w:=fun ρ=>by
  simp [execOp,resolve,invoke,builtin]
 rcases hu with ⟨rfl,rfl⟩|rfl
 ·have:recoverD (c₀::cs)=none:=by simp [recoverD,hc]
  simp only [YR,Xe,List.range_succ,List.range_zero,Xd,wpOpsS,X4,aaj,Region.wanted,if_true,hrun,this];exact hgo _ ⟨.returning,by rw [← hc],rfl⟩
 ·have:recoverD (c₀::cs)=some (v,{ c₀ with mode:= .panicking [{ v,recovered:=true }] }::cs):=by simp [recoverD,hc,jV]
  simp only [YR,Xe,List.range_succ,List.range_zero,Xd,wpOpsS,X4,aaj,Region.wanted,if_true,hrun,this];exact hgo _ ⟨_,rfl,rfl⟩
theorem CE {x:Operand} {t T:TypeId} {v:Value} {d:TypeDesc} [hd:Und P T d] (hni:(match d with| .interface _=>false|_=>true)=true) (hx:ev s x=some (.iface T v)):VOp P w0 s H (.typeAssert x t T true) ty (.tuple #[v,.bool true]):=fun ρ w _ _ _ _ hρ _=>by
 cases d<;>simp_all [execOp,hρ x _ hx,Instr.typeAssert,run_underlying hd.out]
theorem RB {t:TypeId} {ms:Array (String × TypeId)} (hd:P.underlying t=some (.interface ms)) (m:Nat) (w:World):(Op.equalIn (m+1) t .nilIface .nilIface).run P w= .ok true w:=by
 simp [Op.equalIn,run_underlying hd]
theorem RA {t T:TypeId} {v:Value} {ms:Array (String × TypeId)} (hd:P.underlying t=some (.interface ms)) (m:Nat) (w:World):(Op.equalIn (m+1) t (.iface T v) .nilIface).run P w= .ok false w:=by
 simp [Op.equalIn,run_underlying hd]
theorem Q6 {x:Operand} {t t' :TypeId} {ms:Array (String × TypeId)} [hd:Und P t (.interface ms)] (hx:ev s x=some .nilIface):VOp P w0 s H (.binOp .eql t x (.const .nilIface) t') ty (.bool true):=fun ρ w _ _ _ _ hρ _=>by
 have h2:=hρ (.const .nilIface) .nilIface rfl;have h3:(Op.equalIn Op.maxDepth t .nilIface .nilIface).run P w= .ok true w:=RB hd.out 9999 w;simp [execOp,hρ x _ hx,h2,eqGuard,binOp,Op.equal,h3]
theorem Q5 {x:Operand} {t t' T:TypeId} {v:Value} {ms:Array (String × TypeId)} [hd:Und P t (.interface ms)] (hx:ev s x=some (.iface T v)):VOp P w0 s H (.binOp .eql t x (.const .nilIface) t') ty (.bool false):=fun ρ w _ _ _ _ hρ _=>by
 have h2:=hρ (.const .nilIface) .nilIface rfl;have h3:(Op.equalIn Op.maxDepth t (.iface T v) .nilIface).run P w= .ok false w:=RA hd.out 9999 w;simp [execOp,hρ x _ hx,h2,eqGuard,binOp,Op.equal,h3]
theorem sV {fn:Func} {R:Value→List Blk→Prop} {e:Exit} {t u q T U Y T' U' Y' g h k:Nat} {v v' v'' :Value} (he:e= .ret∨e= .normal) (hr:fn.results= #[.cell t T,.cell u U,.cell q Y]) [One P T] [One P U] [One P Y] (ht:look s t=some (.pointer (some ⟨g,0,none⟩))) (hi:In (.box g T' [v]) H)
 (hu:look s u=some (.pointer (some ⟨h,0,none⟩))) (hi' :In (.box h U' [v']) H) (hq:look s q=some (.pointer (some ⟨k,0,none⟩))) (hi'' :In (.box k Y' [v'']) H) {H' :List Blk} (hs:MSub H' H) (hR:R (.tuple #[v,v',v'']) H'):aY P fn n w0 R e s H:=
 ⟨he,_,H',hs,fun a w hst hm=>by
  have h1:=kA (P:=P) (T:=T) hst hm ht hi;have h2:=kA (P:=P) (T:=U) hst hm hu hi';have h3:=kA (P:=P) (T:=Y) hst hm hq hi'';simp only [results,hr];simp only [Zz,XV,X5,Sem.run_bind,Sem.run_map] at h1 h2 h3 ⊢;simp only [h1,h2,h3,Result.andThen_ok,Sem.run_pure]
  rfl,hR⟩
theorem FnP.own {f:FuncId} {args:List Value} {R D:Value→List Blk→Prop} {A:Option Nat} {T sz m cap:Nat} {xs:List Value} (hi:In (.own A T sz m cap xs) H) (h:m≤cap→FnP P f args w0 H R D):FnP P f args w0 H R D:=fun w hm=>h ((hm.on _ hi.mem).1.2.1) w hm
theorem AR {c:Code} (e sz:Nat) (k:RW P n w0 c Φ s (.own none e sz 0 0 []::H)):RW P n w0 c Φ s H:=fun a w hs hm=>
 k a w hs (hm.new (b:= .own none e sz 0 0 []) ⟨rfl,rfl,rfl,Xy _,fun _ _ _=>rfl⟩ ⟨by simp,Xy _,Xn _,rfl,rfl⟩ (fun k hk=>by cases hk))
theorem rE {fn:Func} {R:Value→List Blk→Prop} {e:Exit} {t u q T T' g m:Nat} {xs:List Value} {v v' :Value} (he:e= .ret∨e= .normal) (hr:fn.results= #[.cell t T,.tmp u,.tmp q]) [Agg P T m] (ht:look s t=some (.pointer (some ⟨g,0,none⟩))) (hi:In (.box g T' xs) H) (hl:Nat.beq xs.length m=true) (hu:look s u=some v) (hq:look s q=some v') {H' :List Blk} (hs:MSub H' H) (hR:R (.tuple #[.agg xs.toArray,v,v']) H'):aY P fn n w0 R e s H:=
 ⟨he,_,H',hs,fun a w hst hm=>by
  have h1:=mg (P:=P) (T:=T) hst hm ht hi hl;have h2:a.tmps.getD u undef=v:=by simp [XZ,hst.has u _ hu]
  have h3:a.tmps.getD q undef=v' :=by simp [XZ,hst.has q _ hq]
  simp only [results,hr];simp only [Zz,XV,X5,Sem.run_bind,Sem.run_map] at h1 ⊢;simp only [h1,Result.andThen_ok,Sem.run_pure,h2,h3]
  rfl,hR⟩
structure BoxT where
 j:Nat
 g:Nat
 T:Nat
 v:Value
 u:Value
def BoxT.at (D:gX) (b:BoxT):Blk:= .box b.g b.T [if D b.j then b.u else b.v]
def BoxT.pre (b:BoxT):Blk:= .box b.g b.T [b.v]
def BoxT.post (b:BoxT):Blk:= .box b.g b.T [b.u]
theorem xE {id:Nat} (bs:List BoxT) (R:List Blk) (hm:P.follows .mixedOrders=true) (hB:Region.lexB .any l.toArray=true) (hj:(bs.all fun b=>Nat.blt b.j l.length)=true) (hsub:MSub (bs.map BoxT.pre++R) H)
 (h:WG P n w0 l (fun D=>bs.map (BoxT.at D)++R) (fun s' =>Q .normal s' (bs.map BoxT.post++R)) l 0 s):W P n w0 (.region id l.toArray true) Q s H:=by
 refine wT (fun D=>bs.map (BoxT.at D)++R) hm hB ?_ fun a hs hl=> ?_
 ·have:bs.map (BoxT.at fun _=>false)=bs.map BoxT.pre:=YU fun b _=>by simp [BoxT.at,BoxT.pre]
  rw [this];exact hsub
 have mono: ∀ (r:List Oper) (k:Nat) (a:Act) (K K' :Act→Prop),(∀ a,K a→K' a)→wpG P .any l.toArray (Cls w0 l fun D=>bs.map (BoxT.at D)++R) K r k a→wpG P .any l.toArray (Cls w0 l fun D=>bs.map (BoxT.at D)++R) K' r k a:=by
  intro r
  induction r with
  |nil=>intro k a K K' hk h;exact hk _ h
  |cons o r ih=>
   rintro k a K K' hk ⟨v,h1,h2⟩;exact ⟨v,h1,ih _ _ K K' hk h2⟩
 refine mono _ _ _ _ _ ?_ (h a hs hl);rintro a' ⟨s',h2,h3⟩;refine ⟨s',h2,fun D hD=> ?_⟩;have:bs.map (BoxT.at D)=bs.map BoxT.post:=YU fun b hb=>by
  have:=Yt.1 hj b hb;simp [BoxT.at,BoxT.post,hD b.j (by simpa using this)]
 rw [this];exact h3
variable {K:az→Prop} {k:Nat}
theorem lF {t:TypeId} {x a:Operand} [Size P t 1] {bs:List BoxT} {R:List Blk} (pre suf:List BoxT) (b:BoxT) (hbs:bs=pre++b::suf) (hk:b.j=k) (hno:((pre++suf).all fun b=> !(b.j==k))=true)
 (ha:ev s a=some (.pointer (some ⟨b.g,0,none⟩))) (hx:ev s x=some b.u) (h1:b.u.oneCell' =true) (h:WG P n w0 l (fun D=>bs.map (BoxT.at D)++R) K rest (k+1) s):
 WG P n w0 l (fun D=>bs.map (BoxT.at D)++R) K (⟨none,.store t a x,ty,p,af,none⟩::rest) k s:=by
 subst hbs hk;have hsame: ∀ D (c:BoxT),c∈pre++suf→BoxT.at (put D b.j) c=BoxT.at D c:=fun D c hc=>by
  have:=Yt.1 hno c hc;have hne:c.j≠b.j:=by simpa using this
  simp [BoxT.at,put,hne]
 refine HZ (T:=b.T) (fun D=> [if D b.j then b.u else b.v]) (fun D=>pre.map (BoxT.at D)++(suf.map (BoxT.at D)++R)) ha hx (fun D=> ?_) (vs:= [b.u]) (by cases hu:b.u<;>first|rfl|(rw [hu] at h1;cases h1)) rfl (by simpa using h1) (fun _=>Xy _) (fun D ht=> ?_) h
 ·simp only [XI,XD,XE,Xc];have: ∀ (L M:List Blk) (c:Blk),Sel c (L++c::M) (L++M):=fun L M c=>by
   induction L with
   |nil=>exact .hd
   |cons y L ih=>exact .tl ih
  exact this _ _ _
 ·refine ⟨[],?_⟩;simp only [XI,XD,XE,Xc,Xm,YF,Xd,Xe,Xv,aaa,Zl];have e1:pre.map (BoxT.at (put D b.j))=pre.map (BoxT.at D):=YU fun c hc=>hsame D c (Xw _ hc);have e2:suf.map (BoxT.at (put D b.j))=suf.map (BoxT.at D):=YU fun c hc=>hsame D c (XB _ hc);have e3:BoxT.at (put D b.j) b= .box b.g b.T [b.u]:=by simp [BoxT.at,put]
  rw [e1,e2,e3];exact (ZO.symm)
theorem wR {t:TypeId} {d:Nat} {x:Operand} [One P t] {bs:List BoxT} {R:List Blk} (b:BoxT) (hb:b∈bs) {f j:Nat} (hj:b.j=j) (hr:reaches l f j k=true) (hno:(bs.all fun b=> !(b.j==k))=true) (hn:Nat.blt d n.sz=true)
 (ha:ev s x=some (.pointer (some ⟨b.g,0,none⟩))) (h:WG P n w0 l (fun D=>bs.map (BoxT.at D)++R) K rest (k+1) ((d,b.v)::s)):
 WG P n w0 l (fun D=>bs.map (BoxT.at D)++R) K (⟨some d,.load t x,ty,p,af,none⟩::rest) k s:=by
 refine HY hn (fun D ht=> ?_) (fun D=> ?_) h
 ·have e:=ht.late (hj ▸ hr);have hi:In (.box b.g b.T [b.v]) (bs.map (BoxT.at D)++R):=by
   have:BoxT.at D b= .box b.g b.T [b.v]:=by simp [BoxT.at,e]
   rw [← this];have hmem: ∀ (L:List BoxT),b∈L→In (BoxT.at D b) (L.map (BoxT.at D)++R):=fun L h=>by
    induction L with
    |nil=>cases h
    |cons c L ih=>
     rcases Xt.1 h with rfl|h
     ·exact .hd
     ·exact .tl (ih h)
   exact hmem bs hb
  exact ik ha hi rfl
 ·have:bs.map (BoxT.at (put D k))=bs.map (BoxT.at D):=YU fun c hc=>by
   have:=Yt.1 hno c hc;have hne:c.j≠k:=by simpa using this
   simp [BoxT.at,put,hne]
  simp only [this]
theorem JZ {op:Op} {d:Nat} {v:Value} {bs:List BoxT} {R:List Blk} (hno:(bs.all fun b=> !(b.j==k))=true) (hn:Nat.blt d n.sz=true) (hv:VOp P w0 s R op ty v) (h:WG P n w0 l (fun D=>bs.map (BoxT.at D)++R) K rest (k+1) ((d,v)::s)):
 WG P n w0 l (fun D=>bs.map (BoxT.at D)++R) K (⟨some d,op,ty,p,af,none⟩::rest) k s:=by
 refine HY hn (fun D ht=> ?_) (fun D=> ?_) h
 ·intro ρ w d p af g hρ hm;exact hv ρ w d p af g hρ (MSub.use ⟨bs.map (BoxT.at D),X6⟩ hm)
 ·have:bs.map (BoxT.at (put D k))=bs.map (BoxT.at D):=YU fun c hc=>by
   have:=Yt.1 hno c hc;have hne:c.j≠k:=by simpa using this
   simp [BoxT.at,put,hne]
  simp only [this]
end
section
variable {P:Program} {ops:Array Oper} {es ps:List Nat} {C:World→Prop}
def NormUp (P:Program) (K:Value→World→Prop):Result Next→Prop
 | .ok (.value v) w' =>K v w'
 | .ok .skip w' =>K undef w'
 | .ok (.enter f args) w' =>Calls P f args w' fun e w'' => ∃ v,e= .returned v∧K v w''
 | .ok (.row row args) w' =>Rows P row args w' fun v w'' =>K v w''
 |_=>False
theorem NormUp.mono {K K' :Value→World→Prop} {r:Result Next} (h:NormUp P K r) (hk: ∀ v w,K v w→K' v w):NormUp P K' r:=by
 cases r with
 |ok x w' =>
  cases x<;>simp only [NormUp] at h ⊢
  case value v=>exact hk _ _ h
  case skip=>exact hk _ _ h
  case enter f args=>exact h.mono fun e w'' ⟨v,he,h1⟩=>⟨v,he,hk _ _ h1⟩
  case row f args=>exact Rows.mono h fun v w'' h1=>hk _ _ h1
 |halt x w' =>exact h
theorem NormUp.ex {K:Value→World→Prop} {r:Result Next} (h:NormUp P K r): ∃ v w',K v w' :=by
 cases r with
 |ok x w' =>
  cases x<;>simp only [NormUp] at h
  case value v=>exact ⟨_,_,h⟩
  case skip=>exact ⟨_,_,h⟩
  case enter f args=>
   obtain ⟨e,w1,fr,⟨v,_,h1⟩,_⟩:=h [];exact ⟨_,_,h1⟩
  case row f args=>
   obtain ⟨v,w1,h1,_⟩:=h (Frame.enter P 0 #[] .normal) [];exact ⟨_,_,h1⟩
 |halt x w' =>exact h.elim
theorem NormUp.upon {K:Act→World→Prop} {Q:Exit→Act→World→Prop} {o:Oper} {a:Act} {r:Result Next} (h:NormUp P (fun v w' =>K (a.put o.dst v) w') r):o.upon P a K Q r:=by
 cases r with
 |ok x w' =>
  cases x<;>simp only [NormUp] at h<;>simp only [Oper.upon]
  case value v=>exact h
  case skip=>exact h
  case enter f args=>
   refine h.mono fun e w'' ⟨v,he,h1⟩=> ?_;subst he;exact h1
  case row f args=>exact h
 |halt x w' =>exact h.elim
inductive EOp (P:Program) (ops:Array Oper) (es ps:List Nat) (C:World→Prop) (K:Act→World→Prop) (i:Nat) (o:Oper) (a:Act) (w:World):Prop
 |pass (hw:Region.wanted o (yielded ops a.tmps)=false) (hk:K (a.put o.dst undef) w)
 |quiet (hw:Region.wanted o (yielded ops a.tmps)=true) (hi:i∉es) (v:Value) (hr:(execOp a.eval o).run P w= .ok (.value v) w) (hst:i∈ps∨ ∀ w1,C w1→(execOp a.eval o).run P w1= .ok (.value v) w1) (hk:K (a.put o.dst v) w)
 |eff (hw:Region.wanted o (yielded ops a.tmps)=true) (hi:i∈es) (hk:NormUp P (fun v w' =>K (a.put o.dst v) w') ((execOp a.eval o).run P w))
def AnyE (P:Program) (ops:Array Oper) (es ps:List Nat) (C:World→Prop) (Q:Act→World→Prop):Nat→Array Bool→Act→World→Prop
 |0,L,a,w=>C w∧Region.ready .any ops L= []∧Q a w
 |f+1,L,a,w=>C w∧(Region.ready .any ops L= []→Q a w)∧ ∀ i∈Region.ready .any ops L,∃ o,ops[i]? =some o∧EOp P ops es ps C (AnyE P ops es ps C Q f (L.setIfInBounds i true)) i o a w
theorem AnyE.inC {Q:Act→World→Prop} {f:Nat} {L:Array Bool} {a:Act} {w:World} (h:AnyE P ops es ps C Q f L a w):C w:=by
 cases f with
 |zero=>exact h.1
 |succ f=>exact h.1
theorem gP {Q:Act→World→Prop} {Q' :Exit→Act→World→Prop} (hQ: ∀ a w,Q a w→Q' .normal a w): ∀ (f:Nat) (L:Array Bool) (a:Act) (w:World),AnyE P ops es ps C Q f L a w→wpAny P .any ops Q' f L a w
 |0,L,a,w,h=>⟨h.2.1,hQ _ _ h.2.2⟩
 |f+1,L,a,w,h=>⟨fun h0=>hQ _ _ (h.2.1 h0),fun i hi=>by
   obtain ⟨o,ho,hg⟩:=h.2.2 i hi;unfold wpOp;simp only [ho]
   cases hg with
   |pass hw hk=>
    simp only [hw,X3,if_false];exact gP hQ f _ _ _ hk
   |quiet hw _ v hr _ hk=>
    simp only [hw,if_true];refine .inl ?_;unfold Oper.wp;rw [hr];exact gP hQ f _ _ _ hk
   |eff hw _ hk=>
    simp only [hw,if_true];refine .inl ?_;unfold Oper.wp;exact NormUp.upon (hk.mono fun v w' h1=>gP hQ f _ _ _ h1)⟩
def ClosedL (ops:Array Oper) (L:Array Bool):Prop:= ∀ i o,ops[i]? =some o→L.getD i false=true→ ∀ e∈o.after,Region.binds .any e=true→L.getD e.on false=true
theorem ClosedL.set {L:Array Bool} (h:ClosedL ops L) {i:Nat} (hi:i∈Region.ready .any ops L):ClosedL ops (L.setIfInBounds i true):=by
 obtain ⟨_,oi,hoi,hall⟩:=mem_ready.1 hi;have up: ∀ j,L.getD j false=true→(L.setIfInBounds i true).getD j false=true:=fun j hj=>by
  by_cases e:i=j
  ·subst e;have:i<L.size:=by
    rcases Y1 i L.size with h1|h1
    ·exact h1
    ·rw [XZ,Zr h1] at hj;cases hj
   simp [this]
  ·rw [getD_set_ne false e];exact hj
 intro j o ho hj e he hb;by_cases hij:i=j
 ·subst hij;rw [hoi] at ho;injection ho with ho;subst ho;exact up _ (hall e he hb)
 ·rw [getD_set_ne false hij] at hj;exact up _ (h j o ho hj e he hb)
def xe (ops:Array Oper) (i j:Nat):Prop:= ∀ L,ClosedL ops L→i∈Region.ready .any ops L→j∈Region.ready .any ops L→False
theorem EOp.of_put {K K' :Act→World→Prop} {i:Nat} {oi oj:Oper} {a:Act} {w:World} {u:Value} (hap:oi.apart ops oj=true) (hsi: ∀ cs b,oi.op≠ .select cs b)
 (h:EOp P ops es ps C K i oi a w) (hk: ∀ v w',K (a.put oi.dst v) w' →K' ((a.put oj.dst u).put oi.dst v) w'):EOp P ops es ps C K' i oi (a.put oj.dst u) w:=by
 obtain ⟨h1,h2,h3⟩:=Oper.apart_spec hap;have he:=execOp_put oi hsi a oj.dst u h3;have hw:=wanted_put oi a oj.dst u h3
 cases h with
 |pass hw' hk' =>exact .pass (hw.trans hw') (hk _ _ hk')
 |quiet hw' hi v hr hst hk' =>exact .quiet (hw.trans hw') hi v (by rw [he];exact hr) (by rw [he];exact hst) (hk _ _ hk')
 |eff hw' hi hk' =>exact .eff (hw.trans hw') hi (by rw [he];exact hk'.mono fun v w' h=>hk _ _ h)
theorem zA {Q:Act→World→Prop} {i:Nat} {oi:Oper} (hi:ops[i]? =some oi) (hsel: ∀ (j:Nat) (o:Oper) cs b,ops[j]? =some o→o.op≠ .select cs b)
 (hnb: ∀ x∈es,∀ y,y∈es∨y∈ps→x≠y→xe ops x y):
 ∀ (f:Nat) (L:Array Bool) (a:Act) (w:World),ClosedL ops L→C w→
  (∀ j oj,ops[j]? =some oj→j≠i→L.getD j true=false→(∀ e∈oj.after,Region.binds .any e=true→e.on≠i)→oi.apart ops oj=true)→
  i∈Region.ready .any ops L→EOp P ops es ps C (AnyE P ops es ps C Q f (L.setIfInBounds i true)) i oi a w→AnyE P ops es ps C Q (f+1) L a w
 |0,L,a,w,hcl,hC,_,hr,hy=>⟨hC,fun h=>(by rw [h] at hr;cases hr),fun j hj=>by
   by_cases hji:j=i
   ·subst hji;exact ⟨oi,hi,hy⟩
   ·exfalso;have hne:=ready_mono hj hji;have hE: ∃ a' w',AnyE P ops es ps C Q 0 (L.setIfInBounds i true) a' w' :=by
     cases hy with
     |pass _ hk=>exact ⟨_,_,hk⟩
     |quiet _ _ _ _ _ hk=>exact ⟨_,_,hk⟩
     |eff _ _ hk=>obtain ⟨v,w',h⟩:=hk.ex;exact ⟨_,_,h⟩
    obtain ⟨a',w',_,h0,_⟩:=hE;rw [h0] at hne;cases hne⟩
 |f+1,L,a,w,hcl,hC,hfree,hr,hy=>⟨hC,fun h=>(by rw [h] at hr;cases hr),fun j hj=>by
   by_cases hji:j=i
   ·subst hji;exact ⟨oi,hi,hy⟩
   ·have hj' :=ready_mono hj hji;obtain ⟨hjun,oj,hoj,hall⟩:=mem_ready.1 hj;have hnot: ∀ e∈oj.after,Region.binds .any e=true→e.on≠i:=fun e he hb heq=>by
     have h1:=hall e he hb;have h0:=(mem_ready.1 hr).1;rw [heq] at h1;rcases Y1 i L.size with h' |h'
     ·simp [h'] at h0 h1;rw [h0] at h1;cases h1
     ·simp [Zr h'] at h1
    have hap:=hfree j oj hoj hji hjun hnot;obtain ⟨h1,h2,h3⟩:=Oper.apart_spec hap;have hsi:=fun cs b=>hsel i oi cs b hi;have hsj:=fun cs b=>hsel j oj cs b hoj;have hej: ∀ v,execOp (a.put oi.dst v).eval oj=execOp a.eval oj:=fun v=>execOp_put oj hsj a oi.dst v h1;have hwj: ∀ v,Region.wanted oj (yielded ops (a.put oi.dst v).tmps)=Region.wanted oj (yielded ops a.tmps):=fun v=>wanted_put oj a oi.dst v h1;have hcomm: ∀ v u,(a.put oi.dst v).put oj.dst u=(a.put oj.dst u).put oi.dst v:=fun v u=>Act.put_comm a v u h2;have hset:(L.setIfInBounds i true).setIfInBounds j true=(L.setIfInBounds j true).setIfInBounds i true:=ZR _ _ (Ne.symm hji)
    have hfree' : ∀ k ok,ops[k]? =some ok→k≠i→(L.setIfInBounds j true).getD k true=false→
     (∀ e∈ok.after,Region.binds .any e=true→e.on≠i)→oi.apart ops ok=true:=fun k ok hk hki hun hno=>by
     refine hfree k ok hk hki ?_ hno;by_cases hjk:j=k
     ·subst hjk;exact hjun
     ·rw [getD_set_ne true hjk] at hun;exact hun
    have ih:=zA (Q:=Q) hi hsel hnb f (L.setIfInBounds j true);have hcl' :=hcl.set hj;have hr' :=ready_mono hr (Ne.symm hji)
    -- what comes of j behind an outcome of i
    have hJ: ∀ v w',AnyE P ops es ps C Q (f+1) (L.setIfInBounds i true) (a.put oi.dst v) w' →EOp P ops es ps C (AnyE P ops es ps C Q f ((L.setIfInBounds j true).setIfInBounds i true)) j oj (a.put oi.dst v) w' :=fun v w' h=>by
     obtain ⟨o,ho,hE⟩:=h.2.2 j hj';have e:o=oj:=Option.some.inj (ho.symm.trans hoj);subst e;rw [hset] at hE;exact hE
    refine ⟨oj,hoj,?_⟩
    have hstill:(∃ v,AnyE P ops es ps C Q (f+1) (L.setIfInBounds i true) (a.put oi.dst v) w∧ ∀ (u:Value) (w2:World) (K' :Act→World→Prop),C w2→(i∈ps→w2=w)→K' ((a.put oj.dst u).put oi.dst v) w2→EOp P ops es ps C K' i oi (a.put oj.dst u) w2)∨
     (Region.wanted oi (yielded ops a.tmps)=true∧i∈es∧NormUp P (fun v w' =>AnyE P ops es ps C Q (f+1) (L.setIfInBounds i true) (a.put oi.dst v) w') ((execOp a.eval oi).run P w)):=by
     cases hy with
     |pass hw hk=>exact .inl ⟨undef,hk,fun u w2 K' _ _ hk' => .pass ((wanted_put oi a oj.dst u h3).trans hw) hk'⟩
     |quiet hw hies v hrun hst hk=>
      refine .inl ⟨v,hk,fun u w2 K' hC2 hps hk' => ?_⟩;have he:=execOp_put oi hsi a oj.dst u h3;have hrun2:(execOp a.eval oi).run P w2= .ok (.value v) w2:=by
       rcases hst with h|h
       ·rw [hps h];exact hrun
       ·exact h w2 hC2
      exact .quiet ((wanted_put oi a oj.dst u h3).trans hw) hies v (by rw [he];exact hrun2) (by rw [he];exact hst) hk'
     |eff hw hies hk=>exact .inr ⟨hw,hies,hk⟩
    rcases hstill with ⟨v,hk,hS⟩|⟨hw,hies,hk⟩
    ·cases hJ v w hk with
     |pass hwj' hkj=>exact .pass ((hwj v).symm.trans hwj') (ih _ w hcl' hC hfree' hr' (hS undef w _ hC (fun _=>rfl) (by rw [← hcomm];exact hkj)))
     |quiet hwj' hjes u hrun hst hkj=>
      rw [hej] at hrun hst;exact .quiet ((hwj v).symm.trans hwj') hjes u hrun hst (ih _ w hcl' hC hfree' hr' (hS u w _ hC (fun _=>rfl) (by rw [← hcomm];exact hkj)))
     |eff hwj' hjes hkj=>
      rw [hej] at hkj;exact .eff ((hwj v).symm.trans hwj') hjes (hkj.mono fun u w2 hk2=>ih _ w2 hcl' hk2.inC hfree' hr' (hS u w2 _ hk2.inC (fun hps=>(hnb j hjes i (.inr hps) hji L hcl hj hr).elim) (by rw [← hcomm];exact hk2)))
    ·obtain ⟨v0,w1,h0⟩:=hk.ex
     cases hJ v0 w1 h0 with
     |pass hwj' hkj=>
      have hwa:=(hwj v0).symm.trans hwj';refine .pass hwa (ih _ w hcl' hC hfree' hr' (EOp.of_put hap hsi (.eff hw hies hk) fun v w' h=> ?_))
      cases hJ v w' h with
      |pass _ h' =>rw [← hcomm];exact h'
      |quiet hw2 _ _ _ _ _=>rw [hwj,hwa] at hw2;cases hw2
      |eff hw2 _ _=>rw [hwj,hwa] at hw2;cases hw2
     |quiet hwj' hjes u hrun hst hkj=>
      have hwa:=(hwj v0).symm.trans hwj';have hst2: ∀ w1,C w1→(execOp a.eval oj).run P w1= .ok (.value u) w1:=by
       rcases hst with h|h
       ·exact (hnb i hies j (.inr h) (Ne.symm hji) L hcl hr hj).elim
       ·rw [hej] at h;exact h
      refine .quiet hwa hjes u (hst2 w hC) (.inr hst2) (ih _ w hcl' hC hfree' hr' (EOp.of_put hap hsi (.eff hw hies hk) fun v w' h=> ?_))
      cases hJ v w' h with
      |pass hw2 _=>rw [hwj,hwa] at hw2;cases hw2
      |eff _ hjes2 _=>exact absurd hjes2 hjes
      |quiet _ _ u' hr2 hst' h' =>
       have hst3:(execOp a.eval oj).run P w= .ok (.value u') w:=by
        rcases hst' with h|h
        ·exact (hnb i hies j (.inr h) (Ne.symm hji) L hcl hr hj).elim
        ·have:=h w hC;rw [hej] at this;exact this
       rw [hst2 w hC] at hst3;injection hst3 with h4;injection h4 with h4;subst h4;rw [← hcomm];exact h'
     |eff hwj' hjes hkj=>exact (hnb i hies j (.inl hjes) (Ne.symm hji) L hcl hr hj).elim⟩
def wpE (P:Program) (ops:Array Oper) (es ps:List Nat) (C:World→Prop) (Q:Act→World→Prop):List Oper→Nat→Act→World→Prop
 | [],_,a,w=>C w∧Q a w
 |o::r,k,a,w=>C w∧EOp P ops es ps C (wpE P ops es ps C Q r (k+1)) k o a w
theorem EOp.mono {K K' :Act→World→Prop} {i:Nat} {o:Oper} {a:Act} {w:World} (h:EOp P ops es ps C K i o a w) (hk: ∀ a w,K a w→K' a w):EOp P ops es ps C K' i o a w:=by
 cases h with
 |pass h1 h2=>exact .pass h1 (hk _ _ h2)
 |quiet h1 h2 v h3 h4 h5=>exact .quiet h1 h2 v h3 h4 (hk _ _ h5)
 |eff h1 h2 h3=>exact .eff h1 h2 (h3.mono fun _ _ h=>hk _ _ h)
theorem zz {Q:Act→World→Prop} (hs:Region.noSelect ops=true) (hnb: ∀ x∈es,∀ y,y∈es∨y∈ps→x≠y→xe ops x y): ∀ (l:List Oper) (k:Nat) (L:Array Bool) (a:Act) (w:World),(∀ j,l[j]? =ops[k+j]?)→ClosedL ops L→
 Region.lexFrom .any ops l.length k L=true→wpE P ops es ps C Q l k a w→AnyE P ops es ps C Q l.length L a w
 | [],_,_,_,_,_,_,hB,h=>⟨h.1,by simpa [Region.lexFrom] using hB,h.2⟩
 |o::l,k,L,a,w,hl,hcl,hB,h=>by
  have h0:ops[k]? =some o:=by simpa using (hl 0).symm
  simp only [Xs,Region.lexFrom,Xo] at hB;obtain ⟨⟨hr,hf⟩,hB'⟩:=hB;have hr' :k∈Region.ready .any ops L:=by simpa using hr
  exact zA h0 (Region.noSelect_spec hs) hnb l.length L a w hcl h.1 (Region.free_spec h0 hf) hr'
   (h.2.mono fun a' w' h' =>zz hs hnb l (k+1) _ _ _ (fun j=>by have:=hl (j+1);simpa [Y8,Zu 1 j] using this) (hcl.set hr') hB' h')
end
def before (l:List Oper) (i j:Nat):Bool:=match l[j]? with
 |some o=>(oD o).any fun q=>reaches l l.length q i
 |none=>false
def DC (l:List Oper) (es ps:List Nat):Bool:=es.all fun i=>(es++ps).all fun j=>Nat.beq i j||before l i j||before l j i
theorem v6 {l:List Oper} {i j:Nat} {L:Array Bool} (h:before l i j=true) (hcl:ClosedL l.toArray L) (hj:j∈Region.ready .any l.toArray L) (hi:i∈Region.ready .any l.toArray L):False:=by
 unfold before at h;split at h
 ·rename_i o ho;obtain ⟨q,hq,hr⟩:=XQ.1 h;obtain ⟨_,o',ho',hall⟩:=mem_ready.1 hj;rw [X4,ho] at ho';injection ho' with ho';subst ho';obtain ⟨e,he,hb,rfl⟩:=fX.1 hq;have hd:L.getD e.on false=true:=hall e he hb
  have hi' :done L i=true:=j0 (D:=done L) (fun x y hx hy z hz=>by
   obtain ⟨e',he',hb',rfl⟩:=fX.1 hz;exact hcl x y (by simpa using hx) hy e' he' hb') _ _ _ hr hd
  have h0:=(mem_ready.1 hi).1;unfold done at hi';rcases Y1 i L.size with h' |h'
  ·simp [h'] at h0 hi';rw [h0] at hi';cases hi'
  ·simp [Zr h'] at hi'
 ·cases h
theorem ze {l:List Oper} {es ps:List Nat} (h:DC l es ps=true): ∀ x∈es,∀ y,y∈es∨y∈ps→x≠y→xe l.toArray x y:=by
 intro x hx y hy hne L hcl h1 h2;have h3:=Yt.1 (Yt.1 h x hx) y (Xr.2 hy);simp only [Zn] at h3;rcases h3 with (h3|h3)|h3
 ·exact hne (X7 h3)
 ·exact v6 h3 hcl h2 h1
 ·exact v6 h3 hcl h1 h2
section
variable {P:Program} {n:Fr} {w0:World} {Q:bK} {s:az} {H S:List Blk} {l rest:List Oper} {ty:TypeId} {p:String} {af:Array Edge} {es ps:List Nat} {k:Nat} {gu:Option (Nat × Bool)}
def WC (P:Program) (n:Fr) (w0:World) (l:List Oper) (S:List Blk) (es ps:List Nat) (Q:bK) (rest:List Oper) (k:Nat) (s:az) (H:List Blk):Prop:=
 ∀ a w,St n s a→Mem w0 w H→Mem w0 w S→(∀ j,rest[j]? =l[k+j]?)→wpE P l.toArray es ps (fun w=>Mem w0 w S) (post n w0 Q .normal) rest k a w
theorem bT {id:Nat} (es ps:List Nat) (S:List Blk) (hm:P.follows .mixedOrders=true) (hB:Region.lexB .any l.toArray=true) (hch:DC l es ps=true) (hS:MSub S H)
 (h:WC P n w0 l S es ps Q l 0 s H):W P n w0 (.region id l.toArray true) Q s H:=by
 intro a w hs hmem;have hB' :=hB;simp only [Region.lexB,Xo] at hB';refine wp_region_any hm (gP (es:=es) (ps:=ps) (C:=fun w=>Mem w0 w S) (Q:=post n w0 Q .normal) (fun _ _ h=>h) _ _ _ _ ?_);have hcl:ClosedL l.toArray (Array.replicate l.toArray.size false):=fun i o _ hi=>by
  rw [XZ,ZA] at hi;split at hi<;>cases hi
 have:=zz (P:=P) hB'.1 (ze hch) l.toArray.toList 0 (Array.replicate l.toArray.size false) a { w with drawn:=w.drawn+1 } (by simp) hcl (by simpa using hB'.2) (h a _ hs hmem.drew (hS.use hmem.drew) (by simp));simpa using this
theorem TQ (h:Q .normal s H):WC P n w0 l S es ps Q [] k s H:=fun a w hs hm hS _=>⟨hS,s,H,hs,hm,h⟩
theorem fH {op:Op} {d:Nat} {v:Value} (hn:Nat.blt d n.sz=true) (hg:gok l s gu=some true) (hk:es.contains k=false) (hv:VOp P w0 s S op ty v) (h:WC P n w0 l S es ps Q rest (k+1) ((d,v)::s) H):
 WC P n w0 l S es ps Q (⟨some d,op,ty,p,af,gu⟩::rest) k s H:=by
 intro a w hs hm hS hl;obtain ⟨h0,hl'⟩:=mW hl;refine ⟨hS,.quiet (eQ rfl hg hs) (by simpa using hk) v (hv a.eval w (some d) p af gu hs.eval hS) (.inr fun w1 h1=>hv a.eval w1 (some d) p af gu hs.eval h1) (h _ _ (hs.put (Yg ▸ hn) v) hm hS hl')⟩
theorem U5 {op:Op} {d:Nat} {v:Value} (hn:Nat.blt d n.sz=true) (hg:gok l s gu=some true) (hk:es.contains k=false) (hp:ps.contains k=true) (hv:VOp P w0 s H op ty v) (h:WC P n w0 l S es ps Q rest (k+1) ((d,v)::s) H):
 WC P n w0 l S es ps Q (⟨some d,op,ty,p,af,gu⟩::rest) k s H:=by
 intro a w hs hm hS hl;obtain ⟨h0,hl'⟩:=mW hl;exact ⟨hS,.quiet (eQ rfl hg hs) (by simpa using hk) v (hv a.eval w (some d) p af gu hs.eval hm) (.inl (by simpa using hp)) (h _ _ (hs.put (Yg ▸ hn) v) hm hS hl')⟩
theorem TR {op:Op} {dst:Option Tmp} {d:Nat} (hd:dst=some d) (hn:Nat.blt d n.sz=true) (hg:gok l s gu=some false) (h:WC P n w0 l S es ps Q rest (k+1) ((d,undef)::s) H):
 WC P n w0 l S es ps Q (⟨dst,op,ty,p,af,gu⟩::rest) k s H:=by
 subst hd;intro a w hs hm hS hl;obtain ⟨h0,hl'⟩:=mW hl;exact ⟨hS,.pass (eQ rfl hg hs) (h _ _ (hs.put (Yg ▸ hn) undef) hm hS hl')⟩
theorem K5 {op:Op} {dst:Option Tmp} {j d:Nat} {dg b:Bool} (_hj:gd l j=some d) (hv:look s d=some (.bool b))
 (k1:b=true→WC P n w0 l S es ps Q (⟨dst,op,ty,p,af,some (j,dg)⟩::rest) k ((d,.bool true)::s) H)
 (k2:b=false→WC P n w0 l S es ps Q (⟨dst,op,ty,p,af,some (j,dg)⟩::rest) k ((d,.bool false)::s) H):
 WC P n w0 l S es ps Q (⟨dst,op,ty,p,af,some (j,dg)⟩::rest) k s H:=by
 intro a w hs hm hS hl
 cases b with
 |true=>exact k1 rfl a w (hs.shadow hv) hm hS hl
 |false=>exact k2 rfl a w (hs.shadow hv) hm hS hl
def ceP (S:List Blk) (K:az→List Blk→Prop):bK:=fun e s' H' =>e= .normal∧MSub S H' ∧K s' H'
theorem rW {K:az→List Blk→Prop} (hS:MSub S H) (h:K s H):ceP S K .normal s H:=⟨rfl,hS,h⟩
theorem WH {op:Op} {dst:Option Tmp} (hg:gok l s gu=some true) (hk:es.contains k=true) (h:WL P n w0 #[] [⟨dst,op,ty,p,af,none⟩] (ceP S (WC P n w0 l S es ps Q rest (k+1))) s H):
 WC P n w0 l S es ps Q (⟨dst,op,ty,p,af,gu⟩::rest) k s H:=by
 intro a w hs hm hS hl;obtain ⟨h0,hl'⟩:=mW hl;refine ⟨hS,.eff (eQ rfl hg hs) (by simpa using hk) ?_⟩;have h1:=h a w hs hm;unfold wpList at h1;simp only [Region.wanted,if_true] at h1;replace h1:=h1.elim id fun ⟨_,a0,w1,s',H'',_,_,he,_⟩=>by cases he
 have hexec:execOp a.eval ⟨dst,op,ty,p,af,gu⟩=execOp a.eval ⟨dst,op,ty,p,af,none⟩:=rfl;rw [hexec];have nxt: ∀ (a' :Act) (w' :World),wpList P #[] (post n w0 (ceP S (WC P n w0 l S es ps Q rest (k+1)))) [] a' w' →wpE P l.toArray es ps (fun w=>Mem w0 w S) (post n w0 Q .normal) rest (k+1) a' w' :=by
  rintro a' w' ⟨s',H',hs',hm',_,hSub,hK⟩;exact hK a' w' hs' hm' (hSub.use hm') hl'
 unfold Oper.wp at h1;generalize (execOp a.eval ⟨dst,op,ty,p,af,none⟩).run P w=r at h1 ⊢
 cases r with
 |ok x w' =>
  cases x<;>simp only [Oper.upon] at h1<;>simp only [NormUp]
  case value u=>exact nxt _ _ h1
  case skip=>exact nxt _ _ h1
  case defer dd=>
   obtain ⟨s',H'',hs',_⟩:=h1;have h2:=congrArg List.length (hs'.defers.trans hs.defers.symm);cases dst<;>simp [Act.put] at h2
  case enter f args=>
   refine h1.mono fun e w'' he=> ?_
   cases e with
   |returned v=>exact ⟨v,rfl,nxt _ _ he⟩
   |panicked c=>
    obtain ⟨s',H'',_,_,he',_⟩:=he;cases he'
   |outgrown=>
    obtain ⟨a0,w1,s',H'',_,_,he',_⟩:=he;cases he'
  case row f args=>exact Rows.mono h1 fun u w'' he=>nxt _ _ he
 |halt x w' =>
  cases x<;>simp only [Oper.upon] at h1
  all_goals
   obtain ⟨s',H'',_,_,he',_⟩:=h1;cases he'
theorem gY {P:Program} {ops:Array Oper} {es ps:List Nat} {C:World→Prop} {r:Option Nat} {Q:Act→World→Prop} {Q' :Exit→Act→World→Prop} (hnd: ∀ (i:Nat) o,ops[i]? =some o→ ∀ c,o.op≠ .defer c) (hQ: ∀ a w,Q a w→Q' .normal a w): ∀ (f:Nat) (L:Array Bool) (a:Act) (w:World),AnyE P ops es ps C Q f L a w→wpAnyIn (fen r) 0 P .any ops Q' f L a w
 |0,L,a,w,h=>⟨h.2.1,hQ _ _ h.2.2⟩
 |f+1,L,a,w,h=>⟨fun h0=>hQ _ _ (h.2.1 h0),fun i hi=>by
   obtain ⟨o,ho,hg⟩:=h.2.2 i hi;unfold wpOpIn;simp only [ho]
   cases hg with
   |pass hw hk=>
    simp only [hw,X3,if_false];exact ⟨fun _ _=>trivial,gY hnd hQ f _ _ _ hk⟩
   |quiet hw _ v hr _ hk=>
    simp only [hw,if_true];refine mX (hnd i o ho) (next:=wpAnyIn (fen r) 0 P .any ops Q' f (L.setIfInBounds i true)) (fun _ _ h=>h) (fun _ _ _ h=>h) (fun h=>h) ?_;unfold Oper.wp;rw [hr];exact gY hnd hQ f _ _ _ hk
   |eff hw _ hk=>
    simp only [hw,if_true];refine mX (hnd i o ho) (next:=wpAnyIn (fen r) 0 P .any ops Q' f (L.setIfInBounds i true)) (fun _ _ h=>h) (fun _ _ _ h=>h) (fun h=>h) ?_;unfold Oper.wp;exact NormUp.upon (hk.mono fun v w' h1=>gY hnd hQ f _ _ _ h1)⟩
theorem r9 {id r:Nat} (es ps:List Nat) (S:List Blk) (hm:P.follows .mixedOrders=true) (hB:Region.lexB .any l.toArray=true) (hch:DC l es ps=true) (hnd:qj l=true) (hS:MSub S H)
 (h:WC P n w0 l S es ps Q l 0 s H):WR P n w0 r (.region id l.toArray true) Q s H:=by
 intro a w hs hmem;have hB' :=hB;simp only [Region.lexB,Xo] at hB';refine wpIn_region_any hm (gY (es:=es) (ps:=ps) (C:=fun w=>Mem w0 w S) (Q:=post n w0 Q .normal) (fun i o ho=>rH hnd o (YW (by simpa using ho))) (fun _ _ h=>h) _ _ _ _ ?_);have hcl:ClosedL l.toArray (Array.replicate l.toArray.size false):=fun i o _ hi=>by
  rw [XZ,ZA] at hi;split at hi<;>cases hi
 have:=zz (P:=P) hB'.1 (ze hch) l.toArray.toList 0 (Array.replicate l.toArray.size false) a { w with drawn:=w.drawn+1 } (by simp) hcl (by simpa using hB'.2) (h a _ hs hmem.drew (hS.use hmem.drew) (by simp));simpa using this
end
open Go.Proofs
attribute [local irreducible] FnAt FnIn FnP RW VOp W WA WC WG WL WLI WQ WR WT WX aX aY bA blk bw ceP scp thn
theorem uz {L:List Rf} {k:Nat} (h:k<L.length):((L.flatMap aq).drop (0+k*2)).take 2=aq L[k]:=by
 rw [Xv];exact aM bD L k h
end Go.SL
namespace Go.SL
open Go Go.Proofs
attribute [local irreducible] W WL WQ WG WA WX WLI WR WT WC VOp RW thn blk bA scp aY aX bw FnAt FnP ceP
theorem FnIn.re {P:Program} {f:FuncId} {args:List Value} {w0:World} {H:List Blk} {R R' :Value→List Blk→Prop} (h:FnIn P f args w0 H R) (hr: ∀ v H,R v H→ ∃ H',MSub H' H∧R' v H'):FnIn P f args w0 H R' :=
 fun w hm=>Calls.mono (h w hm) fun _ _ ⟨v,H',h1,h2,h3⟩=>let ⟨H2,h4,h5⟩:=hr v H' h3;⟨v,H2,h1,h4.use h2,h5⟩
theorem MSub.of_perm {H H' :List Blk} (h:H'.Perm H):MSub H H' :=⟨[],by simpa using h⟩
end Go.SL

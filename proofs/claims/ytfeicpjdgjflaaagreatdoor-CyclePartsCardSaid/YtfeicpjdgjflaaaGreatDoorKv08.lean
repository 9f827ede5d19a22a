/-
  Lemmas and walks, put together: Sl14 Sl25.
-/
import Derived.Test.YtfeicpjdgjflaaaGreatDoorKv03
set_option linter.unusedSimpArgs false
set_option linter.unusedVariables false
set_option maxRecDepth 20000
namespace Go.SL
open Go Go.RowKit
def fen (r:Option Nat):Fence:={ Fence.wide with round:=r }
theorem CF {r:Option Nat} {P:Program} {f:FuncId} {args:Array Value} {w:World} {R:Ending→World→Prop} (h:Calls P f args w R):CallsIn (fen r) 0 P f args w R:=
 (callsIn_wide (n:=0)).2 h
theorem Ow {r:Option Nat} {P:Program} {row:String} {args:Array Value} {w:World} {R:Value→World→Prop} (h:Rows P row args w R):RowsIn (fen r) 0 P row args w R:=
 fun c cs _=>let ⟨v,w',h1,h2⟩:=h c cs;⟨v,w',h1,stepsIn_wide.2 h2⟩
theorem qX (r:Option Nat):(fen r).depth.isSome=true→1≤0:=fun h=>by simp [fen,Fence.wide] at h
theorem oF {r:Option Nat} {P:Program} {o:Oper} {a:Act} {w:World} {next next' :Act→World→Prop} {Q1 Q2:Exit→Act→World→Prop} (hnd: ∀ c,o.op≠ .defer c) (hn: ∀ a w,next a w→next' a w) (hp: ∀ c a w,Q1 (.panic c) a w→Q2 (.panic c) a w) (ho:LetsOut Q1→LetsOut Q2)
 (h:o.wp P a w next Q1):o.wpIn (fen r) 0 P a w next' Q2:=by
 refine ⟨fun _ _=>trivial,?_⟩;have hsem:o.semAt (fen r).round a.eval=execOp a.eval o:=Oper.semAt_eq _ _ _ hnd;rw [hsem];unfold Oper.wp at h;generalize (execOp a.eval o).run P w=x at h ⊢
 cases x with
 |ok x w' =>
  cases x<;>simp only [Oper.upon] at h<;>simp only [Oper.uponIn]
  case value v=>exact hn _ _ h
  case skip=>exact hn _ _ h
  case defer d=>exact hn _ _ h
  case enter f args=>
   refine ⟨qX r,CF (Calls.mono h fun e w'' he=> ?_)⟩
   cases e with
   |returned v=>exact hn _ _ he
   |panicked c=>exact hp _ _ _ he
   |outgrown=>exact ho he
  case row k args=>exact ⟨qX r,Ow (Rows.mono h fun v w'' he=>hn _ _ he)⟩
 |halt x w' =>cases x<;>simp only [Oper.upon] at h<;>simp only [Oper.uponIn]<;>exact hp _ _ _ h
def tT (l:List Oper):Bool:=l.all fun o=>match o.op with| .defer _=>false|_=>true
theorem su {l:List Oper} (h:tT l=true): ∀ o∈l,∀ c,o.op≠ .defer c:=fun o ho c e=>by
 have:=WK.1 h o ho;rw [e] at this;cases this
theorem jb {r:Option Nat} {P:Program} {ops:Array Oper} {Q:Exit→Act→World→Prop} (hno: ¬ LetsOut Q): ∀ (l:List Oper) (a:Act) (w:World),(∀ o∈l,∀ c,o.op≠ .defer c)→wpList P ops Q l a w→wpListIn (fen r) 0 P ops Q l a w
 | [],_,_,_,h=>h
 |o::l,a,w,hnd,h=>by
  unfold wpList at h;unfold wpListIn;split
  ·rename_i hw;rw [if_pos hw] at h;rcases h with h|⟨_,h⟩
   ·exact oF (hnd o Vr) (fun a w h=>jb hno l a w (fun o ho=>hnd o (Vv _ ho)) h) (fun _ _ _ h=>h) (fun h=>h) h
   ·exact absurd h hno
  ·rename_i hw;rw [if_neg hw] at h;exact ⟨fun _ _=>trivial,jb hno l _ w (fun o ho=>hnd o (Vv _ ho)) h⟩
section
variable {P:Program} {n:Fr} {w0:World} {Q:cd} {s sb:aC} {H:List Blk} {l:Nat}
def WR (P:Program) (n:Fr) (w0:World) (l:Nat) (c:Code) (Q:cd) (s:aC) (H:List Blk):Prop:=
 ∀ a w,St n s a→Mem w0 w H→c.wpIn (fen (some l)) 0 P (post n w0 Q) a w
def NoOut (Q:cd):Prop:= ∀ s H,¬ Q .outgrown s H
theorem NoOut.post (h:NoOut Q): ¬ LetsOut (post n w0 Q):=fun ⟨_,_,s,H,_,_,hq⟩=>h s H hq
theorem TX {id:Nat} (h:NoOut Q):NoOut (blk id Q):=fun s H hq=>h s H hq
theorem Qo (h:Q .normal s H):WR P n w0 l .skip Q s H:=fun _ _ hs hm=>wpIn_skip ⟨s,H,hs,hm,h⟩
theorem Ns {id:Nat} {c:Code} (h:WR P n w0 l c (blk id Q) s H):WR P n w0 l (.block id c) Q s H:=by
 intro a w hs hm;refine wpIn_block (wpIn_mono (h a w hs hm) ?_);rintro e a' w' ⟨s',H',h1,h2,h3⟩
 cases e with
 |exit id' =>
  simp only [Exit.inBlock,blk] at h3 ⊢;split
  ·rename_i hid;rw [if_pos hid] at h3;exact ⟨s',H',h1,h2,h3⟩
  ·rename_i hid;rw [if_neg hid] at h3;exact ⟨s',H',h1,h2,h3⟩
 |_=>exact ⟨s',H',h1,h2,h3⟩
theorem K4 {id:Nat} {ops:List Oper} (hnd:tT ops=true) (hno:NoOut Q) (h:WL P n w0 ops.toArray ops Q s H):WR P n w0 l (.region id ops.toArray false) Q s H:=
 fun a w hs hm=>wpIn_region_lit (jb hno.post ops a w (su hnd) (h a w hs hm))
def WLI (P:Program) (n:Fr) (w0:World) (ops:Array Oper) (rest:List Oper) (Q:cd) (s:aC) (H:List Blk):Prop:=
 ∀ a w,St n s a→Mem w0 w H→wpListIn (fen none) 0 P ops (post n w0 Q) rest a w
theorem nG {id:Nat} {ops:List Oper} (h:WLI P n w0 ops.toArray ops Q s H):W P n w0 (.region id ops.toArray false) Q s H:=
 fun a w hs hm=>(wpIn_wide (n:=0)).1 (wpIn_region_lit (h a w hs hm))
variable {ops:Array Oper} {rest:List Oper} {ty:TypeId} {p:String} {af:Array Edge}
theorem Qs (h:Q .normal s H):WLI P n w0 ops [] Q s H:=fun _ _ hs hm=>⟨s,H,hs,hm,h⟩
theorem Te {o:Oper} (hnd:tT [o]=true) (h:WL P n w0 ops [o] (fun e s' H' =>e= .normal∧WLI P n w0 ops rest Q s' H') s H):WLI P n w0 ops (o::rest) Q s H:=by
 intro a w hs hm;have h1:=h a w hs hm;have hnext: ∀ a w,wpList P ops (post n w0 fun e s' H' =>e= .normal∧WLI P n w0 ops rest Q s' H') [] a w→wpListIn (fen none) 0 P ops (post n w0 Q) rest a w:=by
  rintro a w ⟨s',H',h1,h2,_,h3⟩;exact h3 a w h1 h2
 unfold wpList at h1;unfold wpListIn;split
 ·rename_i hw;rw [if_pos hw] at h1;rcases h1 with h1|⟨_,a0,w1,s',H'',_,_,he,_⟩
  ·refine oF (su hnd o Vr) hnext ?_ ?_ h1
   ·rintro c a w ⟨s',H'',_,_,he,_⟩;cases he
   ·rintro ⟨a0,w1,s',H'',_,_,he,_⟩;cases he
  ·cases he
 ·rename_i hw;rw [if_neg hw] at h1;exact ⟨fun _ _=>trivial,hnext _ _ h1⟩
theorem K7 {d k:Nat} {c:Operand} {xs:List Operand} {vs:List Value} {ts:Array TypeId} {R:Value→List Blk→Prop} (hn:Nat.blt d n.sz=true) (hc:ev s c=some (.func (.yield k) #[] #[])) (hx:evs s xs=some vs)
 (hF: ∀ w,Mem w0 w H→YieldAt (fen none) 0 P k vs.toArray w fun e w' => ∃ v H',e= .returned v∧Mem w0 w' H' ∧R v H') (h: ∀ v H',R v H' →WLI P n w0 ops rest Q ((d,v)::s) H'):
 WLI P n w0 ops (⟨some d,.call { callee:= .value c,args:=xs.toArray,argTypes:=ts },ty,p,af,none⟩::rest) Q s H:=by
 intro a w hs hm;unfold wpListIn;simp only [Region.wanted,if_true];obtain ⟨fn,tmps,assign,body,hy,hR⟩:=hF w hm;have hrun:(execOp a.eval ⟨some d,.call { callee:= .value c,args:=xs.toArray,argTypes:=ts },ty,p,af,none⟩).run P w= .ok (.round k fn tmps assign body) w:=by
  have hmap:=gK hs hx;simp [execOp,resolve,hs.eval c _ hc,Deferred.ofValue,invoke,hmap,hy]
 refine ⟨fun _ _=>trivial,?_⟩;have hsem:Oper.semAt (fen none).round a.eval ⟨some d,.call { callee:= .value c,args:=xs.toArray,argTypes:=ts },ty,p,af,none⟩=execOp a.eval ⟨some d,.call { callee:= .value c,args:=xs.toArray,argTypes:=ts },ty,p,af,none⟩:=rfl;rw [hsem,hrun];refine ⟨qX none,RoundIn.mono hR ?_⟩;rintro e w' ⟨v,H',rfl,hm',hv⟩;exact h v H' hv _ _ (hs.put (Wi ▸ hn) _) hm'
theorem Nv {d:Nat} {op:Op} {v:Value} (hnd:tT [⟨some d,op,ty,p,af,none⟩]=true) (hn:Nat.blt d n.sz=true) (hv:VOp P w0 s H op ty v) (h:WLI P n w0 ops rest Q ((d,v)::s) H):WLI P n w0 ops (⟨some d,op,ty,p,af,none⟩::rest) Q s H:=
 Te hnd (ai hn hv (rQ ⟨rfl,h⟩))
theorem lK {d k:Nat} {c:Operand} {xs:List Operand} {vs:List Value} {ts:Array TypeId} {H' T:List Blk} {A A' :List Blk→Prop} (hn:Nat.blt d n.sz=true) (hc:ev s c=some (.func (.yield k) #[] #[])) (hx:evs s xs=some vs)
 (hM:MSub H' H) (hF: ∀ w,Mem w0 w H' →YieldAt (fen none) 0 P k vs.toArray w fun e w' => ∃ b H2,e= .returned (.bool b)∧Mem w0 w' (H2++T)∧(if b then A H2 else A' H2)) (h: ∀ b H2,(if b then A H2 else A' H2)→WLI P n w0 ops rest Q ((d,.bool b)::s) (H2++T)):
 WLI P n w0 ops (⟨some d,.call { callee:= .value c,args:=xs.toArray,argTypes:=ts },ty,p,af,none⟩::rest) Q s H:=by
 refine K7 (R:=fun v H' => ∃ b H2,v= .bool b∧H' =H2++T∧(if b then A H2 else A' H2)) hn hc hx (fun w hm=> ?_) ?_
 ·obtain ⟨fn,tmps,assign,body,hy,hR⟩:=hF w (hM.use hm);refine ⟨fn,tmps,assign,body,hy,RoundIn.mono hR ?_⟩;rintro e w' ⟨b,H2,rfl,hm',hq⟩;exact ⟨_,_,rfl,hm',b,H2,rfl,rfl,hq⟩
 ·rintro v H' ⟨b,H2,rfl,rfl,hq⟩;exact h b H2 hq
theorem MSub.app3 {H1:List Blk} {a b c:Blk}:MSub (H1++([a]++ [b,c])) (b::c::a::H1):=
 ⟨[],by
  rw [VB];exact (XI (l₁:= [b,c]) (l₂:=H1)).trans (VV (l₁:= [a,b,c]) (l₂:=H1))⟩
theorem MSub.app3' {H1:List Blk} {a b c:Blk}:MSub (a::H1) (H1++([a]++ [b,c])):=⟨[b,c],XI⟩
theorem MSub.app3r {H1:List Blk} {a b c:Blk}:MSub (H1++ [a]) (H1++([a]++ [b,c])):=⟨[b,c],by simp⟩
def SD {α:Type} (P:Program) (f:FuncId) (caps:List Value) (w0:World) (Hc:List Blk) (us:List α) (encs:α→List Value):Prop:=
 ∀ (l:Nat) (I J:List α→List Blk→Prop) (H0:List Blk),
  (∀ pre u post,us=pre++u::post→ ∀ H1 F,I pre H1→ ∀ w,Mem w0 w (H1++(Hc++F))→YieldAt (fen none) 0 P l (encs u).toArray w fun e w' => ∃ b H2,e= .returned (.bool b)∧Mem w0 w' (H2++(Hc++F))∧(if b then I (pre++ [u]) H2 else J (pre++ [u]) H2))→
  I [] H0→FnIn P f (.func (.yield l) #[] #[]::caps) w0 (H0++Hc) fun _ H' => ∃ H1,(I us H1∨ ∃ pre,J pre H1)∧MSub (H1++Hc) H'
def Jg (D:Nat):Deferred:={ target:= .collected D,args:= #[] }
def kM (D:Nat):Blk:= .obj D (.deferred (some []))
theorem u5 {w:World} {t T T' g:Nat} {v:Value} {a:Act} [One P T] (hs:St n s a) (hm:Mem w0 w H) (ht:look s t=some (.pointer (some ⟨g,0,none⟩))) (hi:In (.box g T' [v]) H):
 (do let b ← asAddr (a.tmps.getD t undef);loadVar T b).run P w= .ok v w:=by
 have h1:=hs.has t _ ht;have hc:=hm.cells_box hi 0 v rfl;have h2:=eC (P:=P) (t:=T) hc;simp [Wc,h1,asAddr,h2]
def WT (P:Program) (n:Fr) (w0:World) (c:Code) (B:Exit→Act→World→Prop) (s:aC) (H:List Blk):Prop:=
 ∀ a w,St n s a→Mem w0 w H→c.wpIn (fen none) 0 P B a w
def bi (n:Fr) (w0:World) (B:Exit→Act→World→Prop):cd:=fun e s H=> ∀ a w,St n s a→Mem w0 w H→B e a w
def wK (P:Program) (fn:Func) (w0:World) (R:Value→List Blk→Prop):Exit→Act→World→Prop:=
 bodyPostM (fen none) 0 P fn fun e w' => ∃ v H',e= .returned v∧Mem w0 w' H' ∧R v H'
variable {B:Exit→Act→World→Prop}
theorem GS {m:Nat} {f:FuncId} {fn:Func} {c:Code} {args:List Value} {R:Value→List Blk→Prop} (hf:P.funcs[f]? =some fn) (hb:fn.body=some c) (hn:fn.ntmps=m) (hle:Nat.ble args.length m=true)
 (h:WT P ⟨m,[]⟩ w0 c (wK P fn w0 R) (vg args 0) H):FnIn P f args w0 H R:=by
 intro w hm;have hle' :args.length≤m:=by simpa using hle
 refine (callsIn_wide (n:=0)).1 (callsIn_of_wp_marks hf hb trivial (h { tmps:=args.toArray++Array.replicate (fn.ntmps - args.toArray.size) undef,defers:= [] } w ⟨?_,rfl,?_⟩ hm))
 ·simp [hn];omega
 ·intro t v ht;rw [nX] at ht;simp only [Vt,if_true,WU] at ht;have hlt:t<args.length:=(VI.1 ht).1;rw [Ww (by simpa using hlt)];simpa using ht
theorem wF {m:Nat} {f:FuncId} {fn:Func} {c:Code} {args:List Value} {w:World} {R:Value→List Blk→Prop} (hf:P.funcs[f]? =some fn) (hb:fn.body=some c) (hn:fn.ntmps=m) (hle:Nat.ble args.length m=true)
 (h:WT P ⟨m,[]⟩ w c (wK P fn w R) (vg args 0) []):FnAt P f args w R:=GS hf hb hn hle h w (Mem.refl w)
theorem Ta {x y:Code} (h:W P n w0 x (thn (WT P n w0 y B) (bi n w0 B)) s H):WT P n w0 (.seq x y) B s H:=by
 intro a w hs hm;refine wpIn_seq (wpIn_mono ((wpIn_wide (n:=0)).2 (h a w hs hm)) ?_);rintro e a' w' ⟨s',H',h1,h2,h3⟩
 cases e with
 |normal=>exact h3 a' w' h1 h2
 |_=>exact h3 a' w' h1 h2
theorem J1 {c:Code} (h:W P n w0 c (bi n w0 B) s H):WT P n w0 c B s H:=
 fun a w hs hm=>wpIn_mono ((wpIn_wide (n:=0)).2 (h a w hs hm)) fun _ _ _ ⟨_,_,h1,h2,h3⟩=>h3 _ _ h1 h2
def TE (P:Program) (z:Code) (B:Exit→Act→World→Prop):Exit→Act→World→Prop:=Exit.then (z.wpIn (fen none) 0 P B) B
theorem Nr {x y z:Code} (h:WT P n w0 (.seq x y) (TE P z B) s H):WT P n w0 (.seq (.seq x y) z) B s H:=fun a w hs hm=>wpIn_seq (h a w hs hm)
theorem MQ {z:Code} (h:WT P n w0 z B s H):bi n w0 (TE P z B) .normal s H:=fun a w hs hm=>h a w hs hm
theorem MP {z:Code} (h:bi n w0 B .ret s H):bi n w0 (TE P z B) .ret s H:=fun a w hs hm=>h a w hs hm
theorem K3 {c:Operand} {a b:Code} (h:W P n w0 (.cond c a b) (bi n w0 B) s H):WT P n w0 (.cond c a b) B s H:=J1 h
theorem s6 {id:Nat} {l:Array Oper} {d:Bool} {y:Code} (h:W P n w0 (.region id l d) (thn (WT P n w0 y B) (bi n w0 B)) s H):WT P n w0 (.seq (.region id l d) y) B s H:=Ta h
theorem EF (h:W P n w0 .ret (bi n w0 B) s H):WT P n w0 .ret B s H:=J1 h
theorem KS {m:Nat} {fn:Func} {R:Value→List Blk→Prop} {e:Exit} (h:aS P fn ⟨m,[]⟩ w0 R e s H):bi ⟨m,[]⟩ w0 (wK P fn w0 R) e s H:=by
 obtain ⟨he,v,H',hsub,hr,hR⟩:=h;intro a w hs hm;have hp:LeavesInM (fen none) 0 P fn a.tmps (fun e w' => ∃ v H',e= .returned v∧Mem w0 w' H' ∧R v H') a.defers .returning w:=by
  rw [hs.defers];exact ⟨v,hr a w hs hm,v,H',rfl,hsub.use hm,hR⟩
 rcases he with rfl|rfl<;>exact hp
theorem zw {m D:Nat} {fn:Func} {R:Value→List Blk→Prop} {e:Exit} {H2:List Blk} (hsel:Sel (kM D) H H2) (h:aS P fn ⟨m,[Jg D]⟩ w0 R e s H2):bi ⟨m,[Jg D]⟩ w0 (wK P fn w0 R) e s H:=by
 obtain ⟨he,v,H',hsub,hr,hR⟩:=h;intro a w hs hm;have hm1:=hm.sel hsel;have hD:w.heap[D]? =some (.deferred (some [])):=(hm1.on _ Vr).1;have hm2:Mem w0 (w.putObj D (.deferred none)) H2:=by
  have hlt:D<w.heap.size:=(V0.1 hD).1;exact (hm1.upd (b' := .obj D (.deferred none)) (grownBy_putObj' w D _) (World.putObj_heap_same hlt) fun k hk=> .inl hk).tail
 have hp:LeavesInM (fen none) 0 P fn a.tmps (fun e w' => ∃ v H',e= .returned v∧Mem w0 w' H' ∧R v H') a.defers .returning w:=by
  rw [hs.defers];refine ⟨by simp,.inl ⟨D,_,rfl,run_takeDeferred hD,?_⟩⟩;exact ⟨v,hr a _ hs hm2,v,H',rfl,hsub.use hm2,hR⟩
 rcases he with rfl|rfl<;>exact hp
def py (K:aC→List Blk→Prop):cd:=fun e s H=>e= .normal∧K s H
theorem JI {K:aC→List Blk→Prop}:NoOut (py K):=fun _ _ h=>by cases h.1
def r9 {α:Type} (U:List α→List Blk→Prop) (X:List Blk→Prop) (xs:List α) (F:List Blk):cd
 | .normal,_,H=> ∃ HU,MSub (HU++F) H∧U xs HU
 | .ret,_,H=> ∃ HU,MSub (HU++F) H∧X HU
 |_,_,_=>False
theorem qK {α:Type} {U:List α→List Blk→Prop} {X:List Blk→Prop} {xs:List α} {F:List Blk} (HU:List Blk) (h1:MSub (HU++F) H) (h2:U xs HU):r9 U X xs F .normal s H:=⟨HU,h1,h2⟩
theorem zQ {K:aC→List Blk→Prop} (h:K s H):py K .normal s H:=⟨rfl,h⟩
theorem LV {α:Type} {U:List α→List Blk→Prop} {X:List Blk→Prop} {xs:List α} {F:List Blk}:NoOut (r9 U X xs F):=fun _ _ h=>h
theorem um (m:Nat): ∀ (ps:List Tmp) (vs:List Value) (tm:Array Value) (s:aC),tm.size=m→(∀ t v,look s t=some v→tm[t]? =some v)→ps.all (fun t=>Nat.blt t m)=true→
 ((ps.zip vs).foldl (fun (tmps:Array Value) (x:Tmp × Value)=>tmps.setIfInBounds x.1 x.2) tm).size=m∧ ∀ t v,look ((ps.zip vs).reverse++s) t=some v→((ps.zip vs).foldl (fun (tmps:Array Value) (x:Tmp × Value)=>tmps.setIfInBounds x.1 x.2) tm)[t]? =some v
 | [],vs,tm,s,h1,h2,_=>by simpa using ⟨h1,h2⟩
 |q::ps,[],tm,s,h1,h2,_=>by simpa using ⟨h1,h2⟩
 |q::ps,u::vs,tm,s,h1,h2,h3=>by
  simp only [XM,VP] at h3;have hq:q<m:=by simpa using h3.1
  have h:=um m ps vs (tm.setIfInBounds q u) ((q,u)::s) (by simpa using h1) (fun t v ht=>by
   rw [jP] at ht;by_cases e:q=t
   ·subst e;rw [if_pos rfl] at ht;injection ht with ht;subst ht;simp [h1,hq]
   ·rw [if_neg e] at ht;rw [XE e];exact h2 t v ht) h3.2
  rw [List.zip_cons_cons,Wy,List.reverse_cons,VC];exact h
theorem xz {α:Type} {id:Nat} {g:Operand} {ps:List Tmp} {assign body:Code} {m:Nat} {f:FuncId} [hcf:Callable P f] {caps:List Value} {us:List α} {encs:α→List Value} {Hc HU0:List Blk} (hg:ev s g=some (.func (.func f) #[] caps.toArray))
 (hps: ∀ u,(encs u).length=ps.length) (hpn:ps.all (fun t=>Nat.blt t m)=true) (hseq:SD P f caps w0 Hc us encs) (U:List α→List Blk→Prop) (X:List Blk→Prop) (hH:MSub (HU0++Hc) H) (h0:U [] HU0)
 (hround: ∀ l pre u post,us=pre++u::post→ ∀ HU,U pre HU→ ∀ F F',WR P ⟨m,[]⟩ w0 l assign (py fun s1 H1=> ∃ HU1,MSub (HU1++F) H1∧WR P ⟨m,[]⟩ w0 l body (r9 U X (pre++ [u]) F') s1 (HU1++F')) ((ps.zip (encs u)).reverse++s) (HU++F))
 (hdone: ∀ D HU,U us HU→bi ⟨m,[Jg D]⟩ w0 B .normal s (kM D::(HU++Hc)))
 (hexit: ∀ D HU,X HU→bi ⟨m,[Jg D]⟩ w0 B .ret s (kM D::(HU++Hc))):
 WT P ⟨m,[]⟩ w0 (.block id (.rangeFunc g ps.toArray assign body)) B s H:=by
 intro a w hs hm;have hm0:Mem w0 w (HU0++Hc):=hH.use hm;refine wpIn_block (wpIn_rangeFunc fun fn _=> ?_);obtain ⟨rec,hrec⟩: ∃ rec:LoopState→Option Code→Loop,rec=fun st pe=>{ state:=st,pending:=pe,fn,tmps:=a.tmps,params:=ps.toArray,assign,body,defers:=w.heap.size }:=⟨_,rfl⟩;obtain ⟨W1,hW1⟩: ∃ W1,(w.alloc (.deferred (some []))).alloc (.loop (rec .ready none))=W1:=⟨_,rfl⟩;have hm1:Mem w0 W1 (.obj (w.heap.size+1) (.loop (rec .ready none))::kM w.heap.size::(HU0++Hc)):=by
  have h1:Mem w0 (w.alloc (.deferred (some []))) (kM w.heap.size::(HU0++Hc)):=hm0.new (World.grownBy_alloc w _ none) (World.alloc_heap_new w _) fun k hk=>by
   simp only [kM,Blk.key,Option.some.injEq] at hk;omega
  rw [← hW1];refine h1.new (World.grownBy_alloc _ _ none) ?_ fun k hk=> ?_
  ·have:=World.alloc_heap_new (w.alloc (.deferred (some []))) (.loop (rec .ready none));rwa [World.size_alloc] at this
  ·simp only [Blk.key,Option.some.injEq] at hk;rw [World.size_alloc];omega
 have hcall:=hseq (w.heap.size+1) (fun pre H1=> ∃ HU,U pre HU∧H1= .obj (w.heap.size+1) (.loop (rec .ready none))::kM w.heap.size::HU)
  (fun _ H1=> ∃ HU,X HU∧H1= .obj (w.heap.size+1) (.loop (rec .done (some .ret)))::kM w.heap.size::HU)
  (.obj (w.heap.size+1) (.loop (rec .ready none))::kM w.heap.size::HU0) ?_ ⟨HU0,h0,rfl⟩ W1 (by simpa using hm1)
 rotate_left
 ·-- one round
  rintro pre u post hus H1 F ⟨HU,hU,rfl⟩ w1 hmr;have hl:w1.heap[w.heap.size+1]? =some (.loop (rec .ready none)):=(hmr.on _ Vr).1;have hy:=run_yield (P:=P) (args:=(encs u).toArray) hl (by rw [hrec];simp [hps u]);rw [hrec] at hy;have hzip:(ps.toArray.zip (encs u).toArray).foldl (fun (tmps:Array Value) (x:Tmp × Value)=>tmps.setIfInBounds x.1 x.2) a.tmps=(ps.zip (encs u)).foldl (fun (tmps:Array Value) (x:Tmp × Value)=>tmps.setIfInBounds x.1 x.2) a.tmps:=by
   rw [← Array.foldl_toList];simp
  have hpar:=um m ps (encs u) a.tmps s hs.size hs.has hpn;refine ⟨fn,_,assign,body,hy,roundIn_of_wpIn trivial ?_⟩;have hin:(fen none).inRound (w.heap.size+1)=fen (some (w.heap.size+1)):=rfl;rw [hin];have hperm: ∀ (o:Blk) (HU:List Blk),((o::kM w.heap.size::HU)++(Hc++F)).Perm (HU++(o::kM w.heap.size::(Hc++F))):=fun o HU=>by
   have h1:((o::kM w.heap.size::HU)++(Hc++F))= [o,kM w.heap.size]++(HU++(Hc++F)):=by simp
   have h2:(HU++(o::kM w.heap.size::(Hc++F)))=HU++([o,kM w.heap.size]++(Hc++F)):=by simp
   have h3:=(VV (l₁:= [o,kM w.heap.size]) (l₂:=HU)).append_right (Hc++F);rw [VC,VC] at h3;rw [h1,h2];exact h3
  have hst:St ⟨m,[]⟩ ((ps.zip (encs u)).reverse++s) { tmps:=(ps.toArray.zip (encs u).toArray).foldl (fun (tmps:Array Value) (x:Tmp × Value)=>tmps.setIfInBounds x.1 x.2) a.tmps,defers:= [] }:=by
   rw [hzip];exact ⟨hpar.1,rfl,hpar.2⟩
  refine wpIn_mono (hround (w.heap.size+1) pre u post hus HU hU (.obj (w.heap.size+1) (.loop (rec .ready none))::kM w.heap.size::(Hc++F)) (.obj (w.heap.size+1) (.loop (rec .busy none))::kM w.heap.size::(Hc++F)) _ w1 hst (hmr.perm (hperm _ _))) ?_;rintro e a1 w2 ⟨s1,H1,hs1,hm2,rfl,HU1,hsub,hbody⟩;have hm3:=(hsub.use hm2).perm (hperm _ _).symm;have hl2:w2.heap[w.heap.size+1]? =some (.loop (rec .ready none)):=(hm3.on _ Vr).1;have turn: ∀ (w2:World) (st:LoopState) (pe:Option Code) (HU1:List Blk) (o' :Obj),Mem w0 w2 ((.obj (w.heap.size+1) (.loop (rec st pe))::kM w.heap.size::HU1)++(Hc++F))→Mem w0 (w2.putObj (w.heap.size+1) o') ((.obj (w.heap.size+1) o' ::kM w.heap.size::HU1)++(Hc++F)):=by
   intro w2 st pe HU1 o' hm3;have hl2:w2.heap[w.heap.size+1]? =some (.loop (rec st pe)):=(hm3.on _ Vr).1;exact Mem.upd (b:= .obj (w.heap.size+1) (.loop (rec st pe))) (b' := .obj (w.heap.size+1) o') hm3 (grownBy_putObj' w2 _ _) (World.putObj_heap_same (V0.1 hl2).1) fun k hk=> .inl hk
  refine ⟨_,run_beginRound hl2 (by rw [hrec]),?_⟩;have hb:=turn w2 _ _ HU1 (.loop { rec .ready none with state:= .busy }) hm3;have hbusy:({ rec .ready none with state:= .busy }:Loop)=rec .busy none:=by rw [hrec]
  rw [hbusy] at hb ⊢;refine wpIn_mono (hbody a1 _ hs1 (hb.perm (hperm _ _))) ?_;rintro e a3 w3 ⟨s3,H3,hs3,hm4,hq⟩
  cases e with
  |normal=>
   obtain ⟨HU2,hsub2,hU2⟩:=hq;have hm5:=(hsub2.use hm4).perm (hperm _ _).symm;have hl5:w3.heap[w.heap.size+1]? =some (.loop (rec .busy none)):=(hm5.on _ Vr).1;refine ⟨_,_,run_endRound none hl5,true,_,rfl,turn w3 _ _ HU2 _ hm5,?_⟩;refine ⟨HU2,hU2,?_⟩;rw [hrec]
   rfl
  |ret=>
   obtain ⟨HU2,hsub2,hX⟩:=hq;have hm5:=(hsub2.use hm4).perm (hperm _ _).symm;have hl5:w3.heap[w.heap.size+1]? =some (.loop (rec .busy none)):=(hm5.on _ Vr).1;refine ⟨_,_,run_endRound (some .ret) hl5,false,_,rfl,turn w3 _ _ HU2 _ hm5,?_⟩;refine ⟨HU2,hX,?_⟩;rw [hrec]
   rfl
  |exit id=>exact hq.elim
  |goto t=>exact hq.elim
  |panic c=>exact hq.elim
  |outgrown=>exact hq.elim
 have hev:=hs.eval g _ hg;refine ⟨w.heap.size+1,[Jg w.heap.size],W1,{ target:= .fn (.func f) caps.toArray,args:= #[.func (.yield (w.heap.size+1)) #[] #[]] },W1,f,#[.func (.yield (w.heap.size+1)) #[] #[]]++caps.toArray,W1,?_,?_,fun _ _=>trivial,?_,qX none,?_⟩
 ·rw [← hW1,hrec];exact run_enterLoop_outer _ _ _ _ _
 ·simp only [resolve,hev];simp [go_sem]
 ·simp [invoke,hcf.out]
 ·have harr:(#[.func (.yield (w.heap.size+1)) #[] #[]]++caps.toArray:Array Value)=(.func (.yield (w.heap.size+1)) #[] #[]::caps).toArray:=by simp
  rw [harr];refine CallsIn.mono (CF (r:=none) hcall) ?_;rintro e w2 ⟨v,H',rfl,hm2,H1,hI,hsub⟩;have hm3:=hsub.use hm2
  have fin: ∀ (st:LoopState) (pe:Option Code) (HU:List Blk),st≠ .busy→Mem w0 w2 ((.obj (w.heap.size+1) (.loop (rec st pe))::kM w.heap.size::HU)++Hc)→
   ∃ w4,(Instr.endLoop (w.heap.size+1)).run P w2= .ok pe w4∧Mem w0 w4 (kM w.heap.size::(HU++Hc)):=by
   intro st pe HU hst hm4;have hl:w2.heap[w.heap.size+1]? =some (.loop (rec st pe)):=(hm4.on _ Vr).1;have hr:=run_endLoop (P:=P) hl (by rw [hrec];exact hst);have hp:(rec st pe).pending=pe:=by rw [hrec]
   rw [hp] at hr;refine ⟨_,hr,?_⟩;exact (Mem.upd (b:= .obj (w.heap.size+1) (.loop (rec st pe))) (b' := .obj (w.heap.size+1) (.loop { rec st pe with state:= .exhausted,pending:=pe })) hm4 (grownBy_putObj' w2 _ _) (World.putObj_heap_same (V0.1 hl).1) fun k hk=> .inl hk).tail
  have hst:St ⟨m,[Jg w.heap.size]⟩ s { a with defers:= [Jg w.heap.size]++a.defers }:=⟨hs.size,by rw [hs.defers];rfl,hs.has⟩;rcases hI with ⟨HU,hU,rfl⟩|⟨pre,HU,hX,rfl⟩
  ·obtain ⟨w4,hr,hm4⟩:=fin _ _ HU (by decide) hm3;exact ⟨none,w4,hr,hdone _ HU hU _ w4 hst hm4⟩
  ·obtain ⟨w4,hr,hm4⟩:=fin _ _ HU (by decide) hm3;exact ⟨some .ret,w4,hr,wpIn_ret (hexit _ HU hX _ w4 hst hm4)⟩
end
section
variable {P:Program} {n:Fr} {w0:World} {Q:cd} {s:aC} {H:List Blk} {l rest:List Oper} {ty:TypeId} {p:String} {af:Array Edge} {Φ:Exit→Act→World→Prop}
def RW (P:Program) (n:Fr) (w0:World) (c:Code) (Φ:Exit→Act→World→Prop) (s:aC) (H:List Blk):Prop:= ∀ a w,St n s a→Mem w0 w H→c.wp P Φ a w
theorem Oo {x y:Code} {Q0:cd} (hQ: ∀ e a w,e≠ .normal→post n w0 Q0 e a w→Φ e a w) (h:W P n w0 x (thn (RW P n w0 y Φ) Q0) s H):RW P n w0 (.seq x y) Φ s H:=by
 intro a w hs hm;refine wp_seq (wp_mono (h a w hs hm) ?_);rintro e a' w' ⟨s',H',h1,h2,h3⟩
 cases e with
 |normal=>exact h3 a' w' h1 h2
 |_=>exact hQ _ _ _ (fun h=>by cases h) ⟨s',H',h1,h2,h3⟩
theorem TH {c:Code} {Q0:cd} (hQ: ∀ e a w,post n w0 Q0 e a w→Φ e a w) (h:W P n w0 c Q0 s H):RW P n w0 c Φ s H:=
 fun a w hs hm=>wp_mono (h a w hs hm) hQ
def dfr (f:FuncId) (caps:List Value):Deferred:=⟨.fn (.func f) caps.toArray,#[]⟩
theorem Ot {m d:Nat} {id:Nat} {z:Code} {f:FuncId} {cs:List Operand} {caps:List Value} {ds:List Deferred} {t1 t2:TypeId} {p1 p2:String} {af1 af2:Array Edge} (hc:evs s cs=some caps) (hn:Nat.blt d m=true)
 (h:RW P ⟨m,dfr f caps::ds⟩ w0 z Φ ((d,.func (.func f) #[] caps.toArray)::s) H):
 RW P ⟨m,ds⟩ w0 (.seq (.region id #[⟨some d,.makeFunc (.func f) #[] cs.toArray,t1,p1,af1,none⟩,⟨none,.defer { callee:= .value (.tmp d),args:= #[],argTypes:= #[] },t2,p2,af2,none⟩] false) z) Φ s H:=by
 intro a w hs hm;refine wp_seq (wp_region_lit (l:= [⟨some d,.makeFunc (.func f) #[] cs.toArray,t1,p1,af1,none⟩,⟨none,.defer { callee:= .value (.tmp d),args:= #[],argTypes:= #[] },t2,p2,af2,none⟩]) ?_);have hs2:St ⟨m,ds⟩ ((d,.func (.func f) #[] caps.toArray)::s) (a.put (some d) (.func (.func f) #[] caps.toArray)):=hs.put (by exact Wi ▸ hn) _;refine wpList_plain rfl fun K hK=> ?_;have hv:=xO (P:=P) (w0:=w0) (H:=H) (ty:=t1) (f:=f) hc a.eval w (some d) p1 af1 none hs.eval hm;simp only [Oper.wp,hv,Oper.upon];refine hK _ _ ?_;refine wpList_plain rfl fun K hK=> ?_;have he:(a.put (some d) (.func (.func f) #[] caps.toArray)).eval (.tmp d)= .func (.func f) #[] caps.toArray:=hs2.eval _ _ (by simp [ev,look]);simp only [Oper.wp,execOp,resolve,he,Deferred.ofValue,Oper.upon];simp only [Array.map_empty,Array.append_empty,Array.empty_append,Sem.run_pure,Sem.run_bind,Result.andThen_ok,bind_pure_comp,map_pure];refine hK _ _ ?_;exact h _ w ⟨hs2.size,by simp [Act.put,dfr,hs.defers],hs2.has⟩ hm
def Sg (P:Program) (fn:Func) (w0:World) (R:Value→List Blk→Prop):Exit→Act→World→Prop:=bodyPostD P fn fun e w' => ∃ v H',e= .returned v∧Mem w0 w' H' ∧R v H'
theorem RZ {m:Nat} {f:FuncId} {fn:Func} {c:Code} {args:List Value} {R:Value→List Blk→Prop} (hf:P.funcs[f]? =some fn) (hb:fn.body=some c) (hn:fn.ntmps=m) (hle:Nat.ble args.length m=true)
 (h:RW P ⟨m,[]⟩ w0 c (Sg P fn w0 R) (vg args 0) H):FnIn P f args w0 H R:=by
 intro w hm;have hle' :args.length≤m:=by simpa using hle
 refine calls_of_wp_defers hf hb (h { tmps:=args.toArray++Array.replicate (fn.ntmps - args.toArray.size) undef,defers:= [] } w ⟨?_,rfl,?_⟩ hm)
 ·simp [hn];omega
 ·intro t v ht;rw [nX] at ht;simp only [Vt,if_true,WU] at ht;have hlt:t<args.length:=(VI.1 ht).1;rw [Ww (by simpa using hlt)];simpa using ht
theorem R0 {m:Nat} {f:FuncId} {fn:Func} {c:Code} {args:List Value} {w:World} {R:Value→List Blk→Prop} (hf:P.funcs[f]? =some fn) (hb:fn.body=some c) (hn:fn.ntmps=m) (hle:Nat.ble args.length m=true)
 (h:RW P ⟨m,[]⟩ w c (Sg P fn w R) (vg args 0) []):FnAt P f args w R:=RZ hf hb hn hle h w (Mem.refl w)
theorem PP {m:Nat} {fn:Func} {R:Value→List Blk→Prop} {e:Exit} {a:Act} {w:World} (h:post ⟨m,[]⟩ w0 (aS P fn ⟨m,[]⟩ w0 R) e a w):Sg P fn w0 R e a w:=by
 obtain ⟨s,H,hs,hm,he,v,H',hsub,hr,hR⟩:=h;have hl:Leaves P fn a.tmps (fun e w' => ∃ v H',e= .returned v∧Mem w0 w' H' ∧R v H') a.defers .returning w:=by
  rw [hs.defers];exact ⟨v,hr a w hs hm,v,H',rfl,hsub.use hm,hR⟩
 rcases he with rfl|rfl<;>exact hl
def FnD (P:Program) (f:FuncId) (caps:List Value) (u:FrameMode) (w0:World) (H H' :List Blk):Prop:=
 ∀ w,Mem w0 w H→CallsD P f caps.toArray u w fun e u' w' =>(∃ v,e= .returned v)∧settle u' = .returning∧Mem w0 w' H'
def Jd:Exit→Option FrameMode
 | .normal=>some .returning
 | .ret=>some .returning
 | .panic c=>some (.panicking c)
 |_=>none
def Vh (P:Program) (fn:Func) (n:Fr) (w0:World) (f:FuncId) (caps:List Value) (R:Value→List Blk→Prop):cd:=fun e s H=>
 ∃ u Hb H',Jd e=some u∧MSub Hb H∧FnD P f caps u w0 Hb H' ∧aS P fn n w0 R .ret s H'
theorem Ug {m:Nat} {fn:Func} {f:FuncId} [hc:Callable P f] {caps:List Value} {R:Value→List Blk→Prop} {e:Exit} {a:Act} {w:World} (h:post ⟨m,[dfr f caps]⟩ w0 (Vh P fn ⟨m,[dfr f caps]⟩ w0 f caps R) e a w):Sg P fn w0 R e a w:=by
 obtain ⟨s,H,hs,hm,u,Hb,H',he,hsub,hD,_,v,H2,h2,hr,hR⟩:=h;have hu:u≠ .run:=by rintro rfl;cases e<;>simp [Jd] at he
 have hl:Leaves P fn a.tmps (fun e w' => ∃ v H',e= .returned v∧Mem w0 w' H' ∧R v H') a.defers u w:=by
  rw [hs.defers];refine leaves_cons hu (f:=f) (args:=caps.toArray) (by simp [invoke,hc.out]) ((hD w (hsub.use hm)).mono ?_);rintro e u' w' ⟨⟨v',rfl⟩,hset,hm'⟩;show Leaves P fn a.tmps _ [] (settle u') w';rw [hset];exact ⟨v,hr a w' hs hm',v,H2,rfl,h2.use hm',hR⟩
 cases e<;>simp only [Jd,Option.some.injEq,reduceCtorEq] at he<;>subst he<;>exact hl
def Vf (H' :List Blk):cd:=fun e _ H=>(e= .ret∨e= .normal)∧MSub H' H
theorem U1 {m d:Nat} {f:FuncId} {fn:Func} {id:Nat} {z:Code} {caps:List Value} {u:FrameMode} {v:Value} {H' :List Blk} (hf:P.funcs[f]? =some fn)
 (hb:fn.body=some (.seq (.region id #[⟨some d,.call { callee:= .builtin .recover,args:= #[],argTypes:= #[] },ty,p,af,none⟩] false) z)) (hres:fn.results= #[]) (hn:fn.ntmps=m) (hle:Nat.ble caps.length m=true) (hd:Nat.blt d m=true)
 (hu:(u= .returning∧v= .nilIface)∨u= .panicking (kO v))
 (h:W P ⟨m,[]⟩ w0 z (Vf H') ((d,v)::vg caps 0) H):FnD P f caps u w0 H H' :=by
 intro w hm;have hle' :caps.length≤m:=by simpa using hle
 refine callsD_of_wpS hf hb fun c₀ cs hc=> ?_;have hst:St ⟨m,[]⟩ (vg caps 0) { tmps:=caps.toArray++Array.replicate (fn.ntmps - caps.toArray.size) undef,defers:= [] }:=by
  refine ⟨?_,rfl,?_⟩
  ·simp [hn];omega
  ·intro t v ht;rw [nX] at ht;simp only [Vt,if_true,WU] at ht;have hlt:t<caps.length:=(VI.1 ht).1;rw [Ww (by simpa using hlt)];simpa using ht
 refine wpS_seq (wpS_region ?_);have hgo: ∀ cs',(∃ u',cs' ={ c₀ with mode:=u' }::cs∧settle u' = .returning)→Exit.thenS (z.wpS P (bodyPostS P fn c₀ cs fun e u' w' =>(∃ v,e= .returned v)∧settle u' = .returning∧Mem w0 w' H')) (bodyPostS P fn c₀ cs fun e u' w' =>(∃ v,e= .returned v)∧settle u' = .returning∧Mem w0 w' H') .normal ({ tmps:=caps.toArray++Array.replicate (fn.ntmps - caps.toArray.size) undef,defers:= []:Act }.put (some d) v) cs' w:=by
  rintro cs' ⟨u',rfl,hset⟩;refine wpS_of_wp (wp_mono (h _ w (hst.put (Wi ▸ hd) v) hm) ?_);rintro e a' w' ⟨s',H2,hs2,hm2,he,hsub⟩;have:a'.defers= []∧ ∃ u2,({ c₀ with mode:=u' }::cs:List Frame)={ c₀ with mode:=u2 }::cs∧ ∃ v,(results fn a'.tmps).run P w' = .ok v w' ∧((∃ v2,Ending.returned v= .returned v2)∧settle u2= .returning∧Mem w0 w' H'):=
   ⟨hs2.defers,u',rfl,.tuple #[],by simp [results,hres],⟨_,rfl⟩,hset,hsub.use hm2⟩
  rcases he with rfl|rfl<;>exact this
 have hrun: ∀ ρ:Operand→Value,(execOp ρ ⟨some d,.call { callee:= .builtin .recover,args:= #[],argTypes:= #[] },ty,p,af,none⟩).run P w= .ok .recover w:=fun ρ=>by
  simp [execOp,resolve,invoke,builtin]
 rcases hu with ⟨rfl,rfl⟩|rfl
 ·have:recoverD (c₀::cs)=none:=by simp [recoverD,hc]
  simp only [Xa,Vs,XP,List.range_zero,Vq,wpOpsS,V6,Yp,Region.wanted,if_true,hrun,this];exact hgo _ ⟨.returning,by rw [← hc],rfl⟩
 ·have:recoverD (c₀::cs)=some (v,{ c₀ with mode:= .panicking [{ v,recovered:=true }] }::cs):=by simp [recoverD,hc,kO]
  simp only [Xa,Vs,XP,List.range_zero,Vq,wpOpsS,V6,Yp,Region.wanted,if_true,hrun,this];exact hgo _ ⟨_,rfl,rfl⟩
theorem C8 {x:Operand} {t T:TypeId} {v:Value} {d:TypeDesc} [hd:Und P T d] (hni:(match d with| .interface _=>false|_=>true)=true) (hx:ev s x=some (.iface T v)):VOp P w0 s H (.typeAssert x t T true) ty (.tuple #[v,.bool true]):=fun ρ w _ _ _ _ hρ _=>by
 cases d<;>simp_all [execOp,hρ x _ hx,Instr.typeAssert,run_underlying hd.out]
theorem Rm {t:TypeId} {ms:Array (String × TypeId)} (hd:P.underlying t=some (.interface ms)) (m:Nat) (w:World):(Op.equalIn (m+1) t .nilIface .nilIface).run P w= .ok true w:=by
 simp [Op.equalIn,run_underlying hd]
theorem Rl {t T:TypeId} {v:Value} {ms:Array (String × TypeId)} (hd:P.underlying t=some (.interface ms)) (m:Nat) (w:World):(Op.equalIn (m+1) t (.iface T v) .nilIface).run P w= .ok false w:=by
 simp [Op.equalIn,run_underlying hd]
theorem QK {x:Operand} {t t' :TypeId} {ms:Array (String × TypeId)} [hd:Und P t (.interface ms)] (hx:ev s x=some .nilIface):VOp P w0 s H (.binOp .eql t x (.const .nilIface) t') ty (.bool true):=fun ρ w _ _ _ _ hρ _=>by
 have h2:=hρ (.const .nilIface) .nilIface rfl;have h3:(Op.equalIn Op.maxDepth t .nilIface .nilIface).run P w= .ok true w:=Rm hd.out 9999 w;simp [execOp,hρ x _ hx,h2,eqGuard,binOp,Op.equal,h3]
theorem QJ {x:Operand} {t t' T:TypeId} {v:Value} {ms:Array (String × TypeId)} [hd:Und P t (.interface ms)] (hx:ev s x=some (.iface T v)):VOp P w0 s H (.binOp .eql t x (.const .nilIface) t') ty (.bool false):=fun ρ w _ _ _ _ hρ _=>by
 have h2:=hρ (.const .nilIface) .nilIface rfl;have h3:(Op.equalIn Op.maxDepth t (.iface T v) .nilIface).run P w= .ok false w:=Rl hd.out 9999 w;simp [execOp,hρ x _ hx,h2,eqGuard,binOp,Op.equal,h3]
theorem tI {fn:Func} {R:Value→List Blk→Prop} {e:Exit} {t u q T U Y T' U' Y' g h k:Nat} {v v' v'' :Value} (he:e= .ret∨e= .normal) (hr:fn.results= #[.cell t T,.cell u U,.cell q Y]) [One P T] [One P U] [One P Y] (ht:look s t=some (.pointer (some ⟨g,0,none⟩))) (hi:In (.box g T' [v]) H)
 (hu:look s u=some (.pointer (some ⟨h,0,none⟩))) (hi' :In (.box h U' [v']) H) (hq:look s q=some (.pointer (some ⟨k,0,none⟩))) (hi'' :In (.box k Y' [v'']) H) {H' :List Blk} (hs:MSub H' H) (hR:R (.tuple #[v,v',v'']) H'):aS P fn n w0 R e s H:=
 ⟨he,_,H',hs,fun a w hst hm=>by
  have h1:=u5 (P:=P) (T:=T) hst hm ht hi;have h2:=u5 (P:=P) (T:=U) hst hm hu hi';have h3:=u5 (P:=P) (T:=Y) hst hm hq hi'';simp only [results,hr];simp only [Yx,Wk,Wn,Sem.run_bind,Sem.run_map] at h1 h2 h3 ⊢;simp only [h1,h2,h3,Result.andThen_ok,Sem.run_pure]
  rfl,hR⟩
theorem FnP.own {f:FuncId} {args:List Value} {R D:Value→List Blk→Prop} {A:Option Nat} {T sz m cap:Nat} {xs:List Value} (hi:In (.own A T sz m cap xs) H) (h:m≤cap→FnP P f args w0 H R D):FnP P f args w0 H R D:=fun w hm=>h ((hm.on _ hi.mem).1.2.1) w hm
theorem BF {c:Code} (e sz:Nat) (k:RW P n w0 c Φ s (.own none e sz 0 0 []::H)):RW P n w0 c Φ s H:=fun a w hs hm=>
 k a w hs (hm.new (b:= .own none e sz 0 0 []) ⟨rfl,rfl,rfl,VA _,fun _ _ _=>rfl⟩ ⟨by simp,VA _,Vt _,rfl,rfl⟩ (fun k hk=>by cases hk))
theorem iF {fn:Func} {R:Value→List Blk→Prop} {e:Exit} {t u q T T' g m:Nat} {xs:List Value} {v v' :Value} (he:e= .ret∨e= .normal) (hr:fn.results= #[.cell t T,.tmp u,.tmp q]) [Agg P T m] (ht:look s t=some (.pointer (some ⟨g,0,none⟩))) (hi:In (.box g T' xs) H) (hl:Nat.beq xs.length m=true) (hu:look s u=some v) (hq:look s q=some v') {H' :List Blk} (hs:MSub H' H) (hR:R (.tuple #[.agg xs.toArray,v,v']) H'):aS P fn n w0 R e s H:=
 ⟨he,_,H',hs,fun a w hst hm=>by
  have h1:=p6 (P:=P) (T:=T) hst hm ht hi hl;have h2:a.tmps.getD u undef=v:=by simp [Wc,hst.has u _ hu]
  have h3:a.tmps.getD q undef=v' :=by simp [Wc,hst.has q _ hq]
  simp only [results,hr];simp only [Yx,Wk,Wn,Sem.run_bind,Sem.run_map] at h1 ⊢;simp only [h1,Result.andThen_ok,Sem.run_pure,h2,h3]
  rfl,hR⟩
structure BoxT where
 j:Nat
 g:Nat
 T:Nat
 v:Value
 u:Value
def BoxT.at (D:gN) (b:BoxT):Blk:= .box b.g b.T [if D b.j then b.u else b.v]
def BoxT.pre (b:BoxT):Blk:= .box b.g b.T [b.v]
def BoxT.post (b:BoxT):Blk:= .box b.g b.T [b.u]
theorem ER {id:Nat} (bs:List BoxT) (R:List Blk) (hm:P.follows .mixedOrders=true) (hB:Region.lexB .any l.toArray=true) (hj:(bs.all fun b=>Nat.blt b.j l.length)=true) (hsub:MSub (bs.map BoxT.pre++R) H)
 (h:WG P n w0 l (fun D=>bs.map (BoxT.at D)++R) (fun s' =>Q .normal s' (bs.map BoxT.post++R)) l 0 s):W P n w0 (.region id l.toArray true) Q s H:=by
 refine w8 (fun D=>bs.map (BoxT.at D)++R) hm hB ?_ fun a hs hl=> ?_
 ·have:bs.map (BoxT.at fun _=>false)=bs.map BoxT.pre:=Wu fun b _=>by simp [BoxT.at,BoxT.pre]
  rw [this];exact hsub
 have mono: ∀ (r:List Oper) (k:Nat) (a:Act) (K K' :Act→Prop),(∀ a,K a→K' a)→wpG P .any l.toArray (Cls w0 l fun D=>bs.map (BoxT.at D)++R) K r k a→wpG P .any l.toArray (Cls w0 l fun D=>bs.map (BoxT.at D)++R) K' r k a:=by
  intro r
  induction r with
  |nil=>intro k a K K' hk h;exact hk _ h
  |cons o r ih=>
   rintro k a K K' hk ⟨v,h1,h2⟩;exact ⟨v,h1,ih _ _ K K' hk h2⟩
 refine mono _ _ _ _ _ ?_ (h a hs hl);rintro a' ⟨s',h2,h3⟩;refine ⟨s',h2,fun D hD=> ?_⟩;have:bs.map (BoxT.at D)=bs.map BoxT.post:=Wu fun b hb=>by
  have:=WK.1 hj b hb;simp [BoxT.at,BoxT.post,hD b.j (by simpa using this)]
 rw [this];exact h3
variable {K:aC→Prop} {k:Nat}
theorem qC {t:TypeId} {x a:Operand} [Size P t 1] {bs:List BoxT} {R:List Blk} (pre suf:List BoxT) (b:BoxT) (hbs:bs=pre++b::suf) (hk:b.j=k) (hno:((pre++suf).all fun b=> !(b.j==k))=true)
 (ha:ev s a=some (.pointer (some ⟨b.g,0,none⟩))) (hx:ev s x=some b.u) (h1:b.u.oneCell' =true) (h:WG P n w0 l (fun D=>bs.map (BoxT.at D)++R) K rest (k+1) s):
 WG P n w0 l (fun D=>bs.map (BoxT.at D)++R) K (⟨none,.store t a x,ty,p,af,none⟩::rest) k s:=by
 subst hbs hk;have hsame: ∀ D (c:BoxT),c∈pre++suf→BoxT.at (put D b.j) c=BoxT.at D c:=fun D c hc=>by
  have:=WK.1 hno c hc;have hne:c.j≠b.j:=by simpa using this
  simp [BoxT.at,put,hne]
 refine HQ (T:=b.T) (fun D=> [if D b.j then b.u else b.v]) (fun D=>pre.map (BoxT.at D)++(suf.map (BoxT.at D)++R)) ha hx (fun D=> ?_) (vs:= [b.u]) (by cases hu:b.u<;>first|rfl|(rw [hu] at h1;cases h1)) rfl (by simpa using h1) (fun _=>VA _) (fun D ht=> ?_) h
 ·simp only [Wj,VU,VC,Vp];have: ∀ (L M:List Blk) (c:Blk),Sel c (L++c::M) (L++M):=fun L M c=>by
   induction L with
   |nil=>exact .hd
   |cons y L ih=>exact .tl ih
  exact this _ _ _
 ·refine ⟨[],?_⟩;simp only [Wj,VU,VC,Vp,VB,WP,Vq,Vs,VD,YK,WH];have e1:pre.map (BoxT.at (put D b.j))=pre.map (BoxT.at D):=Wu fun c hc=>hsame D c (V5 _ hc);have e2:suf.map (BoxT.at (put D b.j))=suf.map (BoxT.at D):=Wu fun c hc=>hsame D c (V9 _ hc);have e3:BoxT.at (put D b.j) b= .box b.g b.T [b.u]:=by simp [BoxT.at,put]
  rw [e1,e2,e3];exact (XI.symm)
theorem J3 {t:TypeId} {d:Nat} {x:Operand} [One P t] {bs:List BoxT} {R:List Blk} (b:BoxT) (hb:b∈bs) {f j:Nat} (hj:b.j=j) (hr:reaches l f j k=true) (hno:(bs.all fun b=> !(b.j==k))=true) (hn:Nat.blt d n.sz=true)
 (ha:ev s x=some (.pointer (some ⟨b.g,0,none⟩))) (h:WG P n w0 l (fun D=>bs.map (BoxT.at D)++R) K rest (k+1) ((d,b.v)::s)):
 WG P n w0 l (fun D=>bs.map (BoxT.at D)++R) K (⟨some d,.load t x,ty,p,af,none⟩::rest) k s:=by
 refine EM hn (fun D ht=> ?_) (fun D=> ?_) h
 ·have e:=ht.late (hj ▸ hr);have hi:In (.box b.g b.T [b.v]) (bs.map (BoxT.at D)++R):=by
   have:BoxT.at D b= .box b.g b.T [b.v]:=by simp [BoxT.at,e]
   rw [← this];have hmem: ∀ (L:List BoxT),b∈L→In (BoxT.at D b) (L.map (BoxT.at D)++R):=fun L h=>by
    induction L with
    |nil=>cases h
    |cons c L ih=>
     rcases VN.1 h with rfl|h
     ·exact .hd
     ·exact .tl (ih h)
   exact hmem bs hb
  exact eQ ha hi rfl
 ·have:bs.map (BoxT.at (put D k))=bs.map (BoxT.at D):=Wu fun c hc=>by
   have:=WK.1 hno c hc;have hne:c.j≠k:=by simpa using this
   simp [BoxT.at,put,hne]
  simp only [this]
theorem Qy {op:Op} {d:Nat} {v:Value} {bs:List BoxT} {R:List Blk} (hno:(bs.all fun b=> !(b.j==k))=true) (hn:Nat.blt d n.sz=true) (hv:VOp P w0 s R op ty v) (h:WG P n w0 l (fun D=>bs.map (BoxT.at D)++R) K rest (k+1) ((d,v)::s)):
 WG P n w0 l (fun D=>bs.map (BoxT.at D)++R) K (⟨some d,op,ty,p,af,none⟩::rest) k s:=by
 refine EM hn (fun D ht=> ?_) (fun D=> ?_) h
 ·intro ρ w d p af g hρ hm;exact hv ρ w d p af g hρ (MSub.use ⟨bs.map (BoxT.at D),VV⟩ hm)
 ·have:bs.map (BoxT.at (put D k))=bs.map (BoxT.at D):=Wu fun c hc=>by
   have:=WK.1 hno c hc;have hne:c.j≠k:=by simpa using this
   simp [BoxT.at,put,hne]
  simp only [this]
end
end Go.SL

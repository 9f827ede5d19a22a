/-
  Lemmas and walks, put together: Sl14.
-/
import Derived.Test.YtpoafcnhplbkmaaGreatDoorKt02
set_option linter.unusedSimpArgs false
set_option linter.unusedVariables false
set_option maxRecDepth 20000
namespace Go.SL
open Go Go.RowKit
def fen (r:Option Nat):Fence:={ Fence.wide with round:=r }
theorem rq {r:Option Nat} {P:Program} {f:FuncId} {args:Array Value} {w:World} {R:Ending→World→Prop} (h:Calls P f args w R):CallsIn (fen r) 0 P f args w R:=
 (callsIn_wide (n:=0)).2 h
theorem Ci {r:Option Nat} {P:Program} {row:String} {args:Array Value} {w:World} {R:Value→World→Prop} (h:Rows P row args w R):RowsIn (fen r) 0 P row args w R:=
 fun c cs _=>let ⟨v,w',h1,h2⟩:=h c cs;⟨v,w',h1,stepsIn_wide.2 h2⟩
theorem jZ (r:Option Nat):(fen r).depth.isSome=true→1≤0:=fun h=>by simp [fen,Fence.wide] at h
theorem nU {r:Option Nat} {P:Program} {o:Oper} {a:Act} {w:World} {next next' :Act→World→Prop} {Q1 Q2:Exit→Act→World→Prop} (hnd: ∀ c,o.op≠ .defer c) (hn: ∀ a w,next a w→next' a w) (hp: ∀ c a w,Q1 (.panic c) a w→Q2 (.panic c) a w) (ho:LetsOut Q1→LetsOut Q2)
 (h:o.wp P a w next Q1):o.wpIn (fen r) 0 P a w next' Q2:=by
 refine ⟨fun _ _=>trivial,?_⟩;have hsem:o.semAt (fen r).round a.eval=execOp a.eval o:=Oper.semAt_eq _ _ _ hnd;rw [hsem];unfold Oper.wp at h;generalize (execOp a.eval o).run P w=x at h ⊢
 cases x with
 |ok x w' =>
  cases x<;>simp only [Oper.upon] at h<;>simp only [Oper.uponIn]
  case value v=>exact hn _ _ h
  case skip=>exact hn _ _ h
  case defer d=>exact hn _ _ h
  case enter f args=>
   refine ⟨jZ r,rq (Calls.mono h fun e w'' he=> ?_)⟩
   cases e with
   |returned v=>exact hn _ _ he
   |panicked c=>exact hp _ _ _ he
   |outgrown=>exact ho he
  case row k args=>exact ⟨jZ r,Ci (Rows.mono h fun v w'' he=>hn _ _ he)⟩
 |halt x w' =>cases x<;>simp only [Oper.upon] at h<;>simp only [Oper.uponIn]<;>exact hp _ _ _ h
def nM (l:List Oper):Bool:=l.all fun o=>match o.op with| .defer _=>false|_=>true
theorem o6 {l:List Oper} (h:nM l=true): ∀ o∈l,∀ c,o.op≠ .defer c:=fun o ho c e=>by
 have:=JR.1 h o ho;rw [e] at this;cases this
theorem dP {r:Option Nat} {P:Program} {ops:Array Oper} {Q:Exit→Act→World→Prop} (hno: ¬ LetsOut Q): ∀ (l:List Oper) (a:Act) (w:World),(∀ o∈l,∀ c,o.op≠ .defer c)→wpList P ops Q l a w→wpListIn (fen r) 0 P ops Q l a w
 | [],_,_,_,h=>h
 |o::l,a,w,hnd,h=>by
  unfold wpList at h;unfold wpListIn;split
  ·rename_i hw;rw [if_pos hw] at h;rcases h with h|⟨_,h⟩
   ·exact nU (hnd o Iu) (fun a w h=>dP hno l a w (fun o ho=>hnd o (IB _ ho)) h) (fun _ _ _ h=>h) (fun h=>h) h
   ·exact absurd h hno
  ·rename_i hw;rw [if_neg hw] at h;exact ⟨fun _ _=>trivial,dP hno l _ w (fun o ho=>hnd o (IB _ ho)) h⟩
section
variable {P:Program} {n:Fr} {w0:World} {Q:aO} {s sb:au} {H:List Blk} {l:Nat}
def WR (P:Program) (n:Fr) (w0:World) (l:Nat) (c:Code) (Q:aO) (s:au) (H:List Blk):Prop:=
 ∀ a w,St n s a→Mem w0 w H→c.wpIn (fen (some l)) 0 P (post n w0 Q) a w
def NoOut (Q:aO):Prop:= ∀ s H,¬ Q .outgrown s H
theorem NoOut.post (h:NoOut Q): ¬ LetsOut (post n w0 Q):=fun ⟨_,_,s,H,_,_,hq⟩=>h s H hq
theorem Gy {id:Nat} (h:NoOut Q):NoOut (blk id Q):=fun s H hq=>h s H hq
theorem DA (h:Q .normal s H):WR P n w0 l .skip Q s H:=fun _ _ hs hm=>wpIn_skip ⟨s,H,hs,hm,h⟩
theorem Bi {id:Nat} {c:Code} (h:WR P n w0 l c (blk id Q) s H):WR P n w0 l (.block id c) Q s H:=by
 intro a w hs hm;refine wpIn_block (wpIn_mono (h a w hs hm) ?_);rintro e a' w' ⟨s',H',h1,h2,h3⟩
 cases e with
 |exit id' =>
  simp only [Exit.inBlock,blk] at h3 ⊢;split
  ·rename_i hid;rw [if_pos hid] at h3;exact ⟨s',H',h1,h2,h3⟩
  ·rename_i hid;rw [if_neg hid] at h3;exact ⟨s',H',h1,h2,h3⟩
 |_=>exact ⟨s',H',h1,h2,h3⟩
theorem y8 {id:Nat} {ops:List Oper} (hnd:nM ops=true) (hno:NoOut Q) (h:WL P n w0 ops.toArray ops Q s H):WR P n w0 l (.region id ops.toArray false) Q s H:=
 fun a w hs hm=>wpIn_region_lit (dP hno.post ops a w (o6 hnd) (h a w hs hm))
def WLI (P:Program) (n:Fr) (w0:World) (ops:Array Oper) (rest:List Oper) (Q:aO) (s:au) (H:List Blk):Prop:=
 ∀ a w,St n s a→Mem w0 w H→wpListIn (fen none) 0 P ops (post n w0 Q) rest a w
theorem jM {id:Nat} {ops:List Oper} (h:WLI P n w0 ops.toArray ops Q s H):W P n w0 (.region id ops.toArray false) Q s H:=
 fun a w hs hm=>(wpIn_wide (n:=0)).1 (wpIn_region_lit (h a w hs hm))
variable {ops:Array Oper} {rest:List Oper} {ty:TypeId} {p:String} {af:Array Edge}
theorem DD (h:Q .normal s H):WLI P n w0 ops [] Q s H:=fun _ _ hs hm=>⟨s,H,hs,hm,h⟩
theorem FI {o:Oper} (hnd:nM [o]=true) (h:WL P n w0 ops [o] (fun e s' H' =>e= .normal∧WLI P n w0 ops rest Q s' H') s H):WLI P n w0 ops (o::rest) Q s H:=by
 intro a w hs hm;have h1:=h a w hs hm;have hnext: ∀ a w,wpList P ops (post n w0 fun e s' H' =>e= .normal∧WLI P n w0 ops rest Q s' H') [] a w→wpListIn (fen none) 0 P ops (post n w0 Q) rest a w:=by
  rintro a w ⟨s',H',h1,h2,_,h3⟩;exact h3 a w h1 h2
 unfold wpList at h1;unfold wpListIn;split
 ·rename_i hw;rw [if_pos hw] at h1;rcases h1 with h1|⟨_,a0,w1,s',H'',_,_,he,_⟩
  ·refine nU (o6 hnd o Iu) hnext ?_ ?_ h1
   ·rintro c a w ⟨s',H'',_,_,he,_⟩;cases he
   ·rintro ⟨a0,w1,s',H'',_,_,he,_⟩;cases he
  ·cases he
 ·rename_i hw;rw [if_neg hw] at h1;exact ⟨fun _ _=>trivial,hnext _ _ h1⟩
theorem zb {d k:Nat} {c:Operand} {xs:List Operand} {vs:List Value} {ts:Array TypeId} {R:Value→List Blk→Prop} (hn:Nat.blt d n.sz=true) (hc:ev s c=some (.func (.yield k) #[] #[])) (hx:evs s xs=some vs)
 (hF: ∀ w,Mem w0 w H→YieldAt (fen none) 0 P k vs.toArray w fun e w' => ∃ v H',e= .returned v∧Mem w0 w' H' ∧R v H') (h: ∀ v H',R v H' →WLI P n w0 ops rest Q ((d,v)::s) H'):
 WLI P n w0 ops (⟨some d,.call { callee:= .value c,args:=xs.toArray,argTypes:=ts },ty,p,af,none⟩::rest) Q s H:=by
 intro a w hs hm;unfold wpListIn;simp only [Region.wanted,if_true];obtain ⟨fn,tmps,assign,body,hy,hR⟩:=hF w hm;have hrun:(execOp a.eval ⟨some d,.call { callee:= .value c,args:=xs.toArray,argTypes:=ts },ty,p,af,none⟩).run P w= .ok (.round k fn tmps assign body) w:=by
  have hmap:=ez hs hx;simp [execOp,resolve,hs.eval c _ hc,Deferred.ofValue,invoke,hmap,hy]
 refine ⟨fun _ _=>trivial,?_⟩;have hsem:Oper.semAt (fen none).round a.eval ⟨some d,.call { callee:= .value c,args:=xs.toArray,argTypes:=ts },ty,p,af,none⟩=execOp a.eval ⟨some d,.call { callee:= .value c,args:=xs.toArray,argTypes:=ts },ty,p,af,none⟩:=rfl;rw [hsem,hrun];refine ⟨jZ none,RoundIn.mono hR ?_⟩;rintro e w' ⟨v,H',rfl,hm',hv⟩;exact h v H' hv _ _ (hs.put (Jf ▸ hn) _) hm'
theorem Fm {d:Nat} {op:Op} {v:Value} (hnd:nM [⟨some d,op,ty,p,af,none⟩]=true) (hn:Nat.blt d n.sz=true) (hv:VOp P w0 s H op ty v) (h:WLI P n w0 ops rest Q ((d,v)::s) H):WLI P n w0 ops (⟨some d,op,ty,p,af,none⟩::rest) Q s H:=
 FI hnd (ai hn hv (Bn ⟨rfl,h⟩))
theorem iI {d k:Nat} {c:Operand} {xs:List Operand} {vs:List Value} {ts:Array TypeId} {H' T:List Blk} {A A' :List Blk→Prop} (hn:Nat.blt d n.sz=true) (hc:ev s c=some (.func (.yield k) #[] #[])) (hx:evs s xs=some vs)
 (hM:MSub H' H) (hF: ∀ w,Mem w0 w H' →YieldAt (fen none) 0 P k vs.toArray w fun e w' => ∃ b H2,e= .returned (.bool b)∧Mem w0 w' (H2++T)∧(if b then A H2 else A' H2)) (h: ∀ b H2,(if b then A H2 else A' H2)→WLI P n w0 ops rest Q ((d,.bool b)::s) (H2++T)):
 WLI P n w0 ops (⟨some d,.call { callee:= .value c,args:=xs.toArray,argTypes:=ts },ty,p,af,none⟩::rest) Q s H:=by
 refine zb (R:=fun v H' => ∃ b H2,v= .bool b∧H' =H2++T∧(if b then A H2 else A' H2)) hn hc hx (fun w hm=> ?_) ?_
 ·obtain ⟨fn,tmps,assign,body,hy,hR⟩:=hF w (hM.use hm);refine ⟨fn,tmps,assign,body,hy,RoundIn.mono hR ?_⟩;rintro e w' ⟨b,H2,rfl,hm',hq⟩;exact ⟨_,_,rfl,hm',b,H2,rfl,rfl,hq⟩
 ·rintro v H' ⟨b,H2,rfl,rfl,hq⟩;exact h b H2 hq
theorem MSub.app3 {H1:List Blk} {a b c:Blk}:MSub (H1++([a]++ [b,c])) (b::c::a::H1):=
 ⟨[],by
  rw [I3];exact (Ks (l₁:= [b,c]) (l₂:=H1)).trans (I2 (l₁:= [a,b,c]) (l₂:=H1))⟩
theorem MSub.app3' {H1:List Blk} {a b c:Blk}:MSub (a::H1) (H1++([a]++ [b,c])):=⟨[b,c],Ks⟩
theorem MSub.app3r {H1:List Blk} {a b c:Blk}:MSub (H1++ [a]) (H1++([a]++ [b,c])):=⟨[b,c],by simp⟩
def GR {α:Type} (P:Program) (f:FuncId) (caps:List Value) (w0:World) (Hc:List Blk) (us:List α) (encs:α→List Value):Prop:=
 ∀ (l:Nat) (I J:List α→List Blk→Prop) (H0:List Blk),
  (∀ pre u post,us=pre++u::post→ ∀ H1 F,I pre H1→ ∀ w,Mem w0 w (H1++(Hc++F))→YieldAt (fen none) 0 P l (encs u).toArray w fun e w' => ∃ b H2,e= .returned (.bool b)∧Mem w0 w' (H2++(Hc++F))∧(if b then I (pre++ [u]) H2 else J (pre++ [u]) H2))→
  I [] H0→FnIn P f (.func (.yield l) #[] #[]::caps) w0 (H0++Hc) fun _ H' => ∃ H1,(I us H1∨ ∃ pre,J pre H1)∧MSub (H1++Hc) H'
def xx (D:Nat):Deferred:={ target:= .collected D,args:= #[] }
def fG (D:Nat):Blk:= .obj D (.deferred (some []))
theorem l9 {w:World} {t T T' g:Nat} {v:Value} {a:Act} [One P T] (hs:St n s a) (hm:Mem w0 w H) (ht:look s t=some (.pointer (some ⟨g,0,none⟩))) (hi:In (.box g T' [v]) H):
 (do let b ← asAddr (a.tmps.getD t undef);loadVar T b).run P w= .ok v w:=by
 have h1:=hs.has t _ ht;have hc:=hm.cells_box hi 0 v rfl;have h2:=bI (P:=P) (t:=T) hc;simp [I4,h1,asAddr,h2]
def WT (P:Program) (n:Fr) (w0:World) (c:Code) (B:Exit→Act→World→Prop) (s:au) (H:List Blk):Prop:=
 ∀ a w,St n s a→Mem w0 w H→c.wpIn (fen none) 0 P B a w
def bg (n:Fr) (w0:World) (B:Exit→Act→World→Prop):aO:=fun e s H=> ∀ a w,St n s a→Mem w0 w H→B e a w
def rr (P:Program) (fn:Func) (w0:World) (R:Value→List Blk→Prop):Exit→Act→World→Prop:=
 bodyPostM (fen none) 0 P fn fun e w' => ∃ v H',e= .returned v∧Mem w0 w' H' ∧R v H'
variable {B:Exit→Act→World→Prop}
theorem CX {m:Nat} {f:FuncId} {fn:Func} {c:Code} {args:List Value} {R:Value→List Blk→Prop} (hf:P.funcs[f]? =some fn) (hb:fn.body=some c) (hn:fn.ntmps=m) (hle:Nat.ble args.length m=true)
 (h:WT P ⟨m,[]⟩ w0 c (rr P fn w0 R) (mf args 0) H):FnIn P f args w0 H R:=by
 intro w hm;have hle' :args.length≤m:=by simpa using hle
 refine (callsIn_wide (n:=0)).1 (callsIn_of_wp_marks hf hb trivial (h { tmps:=args.toArray++Array.replicate (fn.ntmps - args.toArray.size) undef,defers:= [] } w ⟨?_,rfl,?_⟩ hm))
 ·simp [hn];omega
 ·intro t v ht;rw [ij] at ht;simp only [Iw,if_true,JJ] at ht;have hlt:t<args.length:=(IQ.1 ht).1;rw [Ju (by simpa using hlt)];simpa using ht
theorem m6 {m:Nat} {f:FuncId} {fn:Func} {c:Code} {args:List Value} {w:World} {R:Value→List Blk→Prop} (hf:P.funcs[f]? =some fn) (hb:fn.body=some c) (hn:fn.ntmps=m) (hle:Nat.ble args.length m=true)
 (h:WT P ⟨m,[]⟩ w c (rr P fn w R) (mf args 0) []):FnAt P f args w R:=CX hf hb hn hle h w (Mem.refl w)
theorem FF {x y:Code} (h:W P n w0 x (thn (WT P n w0 y B) (bg n w0 B)) s H):WT P n w0 (.seq x y) B s H:=by
 intro a w hs hm;refine wpIn_seq (wpIn_mono ((wpIn_wide (n:=0)).2 (h a w hs hm)) ?_);rintro e a' w' ⟨s',H',h1,h2,h3⟩
 cases e with
 |normal=>exact h3 a' w' h1 h2
 |_=>exact h3 a' w' h1 h2
theorem yf {c:Code} (h:W P n w0 c (bg n w0 B) s H):WT P n w0 c B s H:=
 fun a w hs hm=>wpIn_mono ((wpIn_wide (n:=0)).2 (h a w hs hm)) fun _ _ _ ⟨_,_,h1,h2,h3⟩=>h3 _ _ h1 h2
def F7 (P:Program) (z:Code) (B:Exit→Act→World→Prop):Exit→Act→World→Prop:=Exit.then (z.wpIn (fen none) 0 P B) B
theorem Bh {x y z:Code} (h:WT P n w0 (.seq x y) (F7 P z B) s H):WT P n w0 (.seq (.seq x y) z) B s H:=fun a w hs hm=>wpIn_seq (h a w hs hm)
theorem AH {z:Code} (h:WT P n w0 z B s H):bg n w0 (F7 P z B) .normal s H:=fun a w hs hm=>h a w hs hm
theorem AG {z:Code} (h:bg n w0 B .ret s H):bg n w0 (F7 P z B) .ret s H:=fun a w hs hm=>h a w hs hm
theorem y7 {c:Operand} {a b:Code} (h:W P n w0 (.cond c a b) (bg n w0 B) s H):WT P n w0 (.cond c a b) B s H:=yf h
theorem nT {id:Nat} {l:Array Oper} {d:Bool} {y:Code} (h:W P n w0 (.region id l d) (thn (WT P n w0 y B) (bg n w0 B)) s H):WT P n w0 (.seq (.region id l d) y) B s H:=FF h
theorem tM (h:W P n w0 .ret (bg n w0 B) s H):WT P n w0 .ret B s H:=yf h
theorem ET {m:Nat} {fn:Func} {R:Value→List Blk→Prop} {e:Exit} (h:aJ P fn ⟨m,[]⟩ w0 R e s H):bg ⟨m,[]⟩ w0 (rr P fn w0 R) e s H:=by
 obtain ⟨he,v,H',hsub,hr,hR⟩:=h;intro a w hs hm;have hp:LeavesInM (fen none) 0 P fn a.tmps (fun e w' => ∃ v H',e= .returned v∧Mem w0 w' H' ∧R v H') a.defers .returning w:=by
  rw [hs.defers];exact ⟨v,hr a w hs hm,v,H',rfl,hsub.use hm,hR⟩
 rcases he with rfl|rfl<;>exact hp
theorem vT {m D:Nat} {fn:Func} {R:Value→List Blk→Prop} {e:Exit} {H2:List Blk} (hsel:Sel (fG D) H H2) (h:aJ P fn ⟨m,[xx D]⟩ w0 R e s H2):bg ⟨m,[xx D]⟩ w0 (rr P fn w0 R) e s H:=by
 obtain ⟨he,v,H',hsub,hr,hR⟩:=h;intro a w hs hm;have hm1:=hm.sel hsel;have hD:w.heap[D]? =some (.deferred (some [])):=(hm1.on _ Iu).1;have hm2:Mem w0 (w.putObj D (.deferred none)) H2:=by
  have hlt:D<w.heap.size:=(IW.1 hD).1;exact (hm1.upd (b' := .obj D (.deferred none)) (grownBy_putObj' w D _) (World.putObj_heap_same hlt) fun k hk=> .inl hk).tail
 have hp:LeavesInM (fen none) 0 P fn a.tmps (fun e w' => ∃ v H',e= .returned v∧Mem w0 w' H' ∧R v H') a.defers .returning w:=by
  rw [hs.defers];refine ⟨by simp,.inl ⟨D,_,rfl,run_takeDeferred hD,?_⟩⟩;exact ⟨v,hr a _ hs hm2,v,H',rfl,hsub.use hm2,hR⟩
 rcases he with rfl|rfl<;>exact hp
def lR (K:au→List Blk→Prop):aO:=fun e s H=>e= .normal∧K s H
theorem xS {K:au→List Blk→Prop}:NoOut (lR K):=fun _ _ h=>by cases h.1
def oQ {α:Type} (U:List α→List Blk→Prop) (X:List Blk→Prop) (xs:List α) (F:List Blk):aO
 | .normal,_,H=> ∃ HU,MSub (HU++F) H∧U xs HU
 | .ret,_,H=> ∃ HU,MSub (HU++F) H∧X HU
 |_,_,_=>False
theorem yA {α:Type} {U:List α→List Blk→Prop} {X:List Blk→Prop} {xs:List α} {F:List Blk} (HU:List Blk) (h1:MSub (HU++F) H) (h2:U xs HU):oQ U X xs F .normal s H:=⟨HU,h1,h2⟩
theorem wh {K:au→List Blk→Prop} (h:K s H):lR K .normal s H:=⟨rfl,h⟩
theorem zL {α:Type} {U:List α→List Blk→Prop} {X:List Blk→Prop} {xs:List α} {F:List Blk}:NoOut (oQ U X xs F):=fun _ _ h=>h
theorem lL (m:Nat): ∀ (ps:List Tmp) (vs:List Value) (tm:Array Value) (s:au),tm.size=m→(∀ t v,look s t=some v→tm[t]? =some v)→ps.all (fun t=>Nat.blt t m)=true→
 ((ps.zip vs).foldl (fun (tmps:Array Value) (x:Tmp × Value)=>tmps.setIfInBounds x.1 x.2) tm).size=m∧ ∀ t v,look ((ps.zip vs).reverse++s) t=some v→((ps.zip vs).foldl (fun (tmps:Array Value) (x:Tmp × Value)=>tmps.setIfInBounds x.1 x.2) tm)[t]? =some v
 | [],vs,tm,s,h1,h2,_=>by simpa using ⟨h1,h2⟩
 |q::ps,[],tm,s,h1,h2,_=>by simpa using ⟨h1,h2⟩
 |q::ps,u::vs,tm,s,h1,h2,h3=>by
  simp only [List.all_cons,IX] at h3;have hq:q<m:=by simpa using h3.1
  have h:=lL m ps vs (tm.setIfInBounds q u) ((q,u)::s) (by simpa using h1) (fun t v ht=>by
   rw [eM] at ht;by_cases e:q=t
   ·subst e;rw [if_pos rfl] at ht;injection ht with ht;subst ht;simp [h1,hq]
   ·rw [if_neg e] at ht;rw [JS e];exact h2 t v ht) h3.2
  rw [List.zip_cons_cons,J9,List.reverse_cons,I1];exact h
theorem tL {α:Type} {id:Nat} {g:Operand} {ps:List Tmp} {assign body:Code} {m:Nat} {f:FuncId} [hcf:Callable P f] {caps:List Value} {us:List α} {encs:α→List Value} {Hc HU0:List Blk} (hg:ev s g=some (.func (.func f) #[] caps.toArray))
 (hps: ∀ u,(encs u).length=ps.length) (hpn:ps.all (fun t=>Nat.blt t m)=true) (hseq:GR P f caps w0 Hc us encs) (U:List α→List Blk→Prop) (X:List Blk→Prop) (hH:MSub (HU0++Hc) H) (h0:U [] HU0)
 (hround: ∀ l pre u post,us=pre++u::post→ ∀ HU,U pre HU→ ∀ F F',WR P ⟨m,[]⟩ w0 l assign (lR fun s1 H1=> ∃ HU1,MSub (HU1++F) H1∧WR P ⟨m,[]⟩ w0 l body (oQ U X (pre++ [u]) F') s1 (HU1++F')) ((ps.zip (encs u)).reverse++s) (HU++F))
 (hdone: ∀ D HU,U us HU→bg ⟨m,[xx D]⟩ w0 B .normal s (fG D::(HU++Hc)))
 (hexit: ∀ D HU,X HU→bg ⟨m,[xx D]⟩ w0 B .ret s (fG D::(HU++Hc))):
 WT P ⟨m,[]⟩ w0 (.block id (.rangeFunc g ps.toArray assign body)) B s H:=by
 intro a w hs hm;have hm0:Mem w0 w (HU0++Hc):=hH.use hm;refine wpIn_block (wpIn_rangeFunc fun fn _=> ?_);obtain ⟨rec,hrec⟩: ∃ rec:LoopState→Option Code→Loop,rec=fun st pe=>{ state:=st,pending:=pe,fn,tmps:=a.tmps,params:=ps.toArray,assign,body,defers:=w.heap.size }:=⟨_,rfl⟩;obtain ⟨W1,hW1⟩: ∃ W1,(w.alloc (.deferred (some []))).alloc (.loop (rec .ready none))=W1:=⟨_,rfl⟩;have hm1:Mem w0 W1 (.obj (w.heap.size+1) (.loop (rec .ready none))::fG w.heap.size::(HU0++Hc)):=by
  have h1:Mem w0 (w.alloc (.deferred (some []))) (fG w.heap.size::(HU0++Hc)):=hm0.new (World.grownBy_alloc w _ none) (World.alloc_heap_new w _) fun k hk=>by
   simp only [fG,Blk.key,Option.some.injEq] at hk;omega
  rw [← hW1];refine h1.new (World.grownBy_alloc _ _ none) ?_ fun k hk=> ?_
  ·have:=World.alloc_heap_new (w.alloc (.deferred (some []))) (.loop (rec .ready none));rwa [World.size_alloc] at this
  ·simp only [Blk.key,Option.some.injEq] at hk;rw [World.size_alloc];omega
 have hcall:=hseq (w.heap.size+1) (fun pre H1=> ∃ HU,U pre HU∧H1= .obj (w.heap.size+1) (.loop (rec .ready none))::fG w.heap.size::HU)
  (fun _ H1=> ∃ HU,X HU∧H1= .obj (w.heap.size+1) (.loop (rec .done (some .ret)))::fG w.heap.size::HU)
  (.obj (w.heap.size+1) (.loop (rec .ready none))::fG w.heap.size::HU0) ?_ ⟨HU0,h0,rfl⟩ W1 (by simpa using hm1)
 rotate_left
 ·-- one round
  rintro pre u post hus H1 F ⟨HU,hU,rfl⟩ w1 hmr;have hl:w1.heap[w.heap.size+1]? =some (.loop (rec .ready none)):=(hmr.on _ Iu).1;have hy:=run_yield (P:=P) (args:=(encs u).toArray) hl (by rw [hrec];simp [hps u]);rw [hrec] at hy;have hzip:(ps.toArray.zip (encs u).toArray).foldl (fun (tmps:Array Value) (x:Tmp × Value)=>tmps.setIfInBounds x.1 x.2) a.tmps=(ps.zip (encs u)).foldl (fun (tmps:Array Value) (x:Tmp × Value)=>tmps.setIfInBounds x.1 x.2) a.tmps:=by
   rw [← Array.foldl_toList];simp
  have hpar:=lL m ps (encs u) a.tmps s hs.size hs.has hpn;refine ⟨fn,_,assign,body,hy,roundIn_of_wpIn trivial ?_⟩;have hin:(fen none).inRound (w.heap.size+1)=fen (some (w.heap.size+1)):=rfl;rw [hin];have hperm: ∀ (o:Blk) (HU:List Blk),((o::fG w.heap.size::HU)++(Hc++F)).Perm (HU++(o::fG w.heap.size::(Hc++F))):=fun o HU=>by
   have h1:((o::fG w.heap.size::HU)++(Hc++F))= [o,fG w.heap.size]++(HU++(Hc++F)):=by simp
   have h2:(HU++(o::fG w.heap.size::(Hc++F)))=HU++([o,fG w.heap.size]++(Hc++F)):=by simp
   have h3:=(I2 (l₁:= [o,fG w.heap.size]) (l₂:=HU)).append_right (Hc++F);rw [I1,I1] at h3;rw [h1,h2];exact h3
  have hst:St ⟨m,[]⟩ ((ps.zip (encs u)).reverse++s) { tmps:=(ps.toArray.zip (encs u).toArray).foldl (fun (tmps:Array Value) (x:Tmp × Value)=>tmps.setIfInBounds x.1 x.2) a.tmps,defers:= [] }:=by
   rw [hzip];exact ⟨hpar.1,rfl,hpar.2⟩
  refine wpIn_mono (hround (w.heap.size+1) pre u post hus HU hU (.obj (w.heap.size+1) (.loop (rec .ready none))::fG w.heap.size::(Hc++F)) (.obj (w.heap.size+1) (.loop (rec .busy none))::fG w.heap.size::(Hc++F)) _ w1 hst (hmr.perm (hperm _ _))) ?_;rintro e a1 w2 ⟨s1,H1,hs1,hm2,rfl,HU1,hsub,hbody⟩;have hm3:=(hsub.use hm2).perm (hperm _ _).symm;have hl2:w2.heap[w.heap.size+1]? =some (.loop (rec .ready none)):=(hm3.on _ Iu).1;have turn: ∀ (w2:World) (st:LoopState) (pe:Option Code) (HU1:List Blk) (o' :Obj),Mem w0 w2 ((.obj (w.heap.size+1) (.loop (rec st pe))::fG w.heap.size::HU1)++(Hc++F))→Mem w0 (w2.putObj (w.heap.size+1) o') ((.obj (w.heap.size+1) o' ::fG w.heap.size::HU1)++(Hc++F)):=by
   intro w2 st pe HU1 o' hm3;have hl2:w2.heap[w.heap.size+1]? =some (.loop (rec st pe)):=(hm3.on _ Iu).1;exact Mem.upd (b:= .obj (w.heap.size+1) (.loop (rec st pe))) (b' := .obj (w.heap.size+1) o') hm3 (grownBy_putObj' w2 _ _) (World.putObj_heap_same (IW.1 hl2).1) fun k hk=> .inl hk
  refine ⟨_,run_beginRound hl2 (by rw [hrec]),?_⟩;have hb:=turn w2 _ _ HU1 (.loop { rec .ready none with state:= .busy }) hm3;have hbusy:({ rec .ready none with state:= .busy }:Loop)=rec .busy none:=by rw [hrec]
  rw [hbusy] at hb ⊢;refine wpIn_mono (hbody a1 _ hs1 (hb.perm (hperm _ _))) ?_;rintro e a3 w3 ⟨s3,H3,hs3,hm4,hq⟩
  cases e with
  |normal=>
   obtain ⟨HU2,hsub2,hU2⟩:=hq;have hm5:=(hsub2.use hm4).perm (hperm _ _).symm;have hl5:w3.heap[w.heap.size+1]? =some (.loop (rec .busy none)):=(hm5.on _ Iu).1;refine ⟨_,_,run_endRound none hl5,true,_,rfl,turn w3 _ _ HU2 _ hm5,?_⟩;refine ⟨HU2,hU2,?_⟩;rw [hrec]
   rfl
  |ret=>
   obtain ⟨HU2,hsub2,hX⟩:=hq;have hm5:=(hsub2.use hm4).perm (hperm _ _).symm;have hl5:w3.heap[w.heap.size+1]? =some (.loop (rec .busy none)):=(hm5.on _ Iu).1;refine ⟨_,_,run_endRound (some .ret) hl5,false,_,rfl,turn w3 _ _ HU2 _ hm5,?_⟩;refine ⟨HU2,hX,?_⟩;rw [hrec]
   rfl
  |exit id=>exact hq.elim
  |goto t=>exact hq.elim
  |panic c=>exact hq.elim
  |outgrown=>exact hq.elim
 have hev:=hs.eval g _ hg;refine ⟨w.heap.size+1,[xx w.heap.size],W1,{ target:= .fn (.func f) caps.toArray,args:= #[.func (.yield (w.heap.size+1)) #[] #[]] },W1,f,#[.func (.yield (w.heap.size+1)) #[] #[]]++caps.toArray,W1,?_,?_,fun _ _=>trivial,?_,jZ none,?_⟩
 ·rw [← hW1,hrec];exact run_enterLoop_outer _ _ _ _ _
 ·simp only [resolve,hev];simp [go_sem]
 ·simp [invoke,hcf.out]
 ·have harr:(#[.func (.yield (w.heap.size+1)) #[] #[]]++caps.toArray:Array Value)=(.func (.yield (w.heap.size+1)) #[] #[]::caps).toArray:=by simp
  rw [harr];refine CallsIn.mono (rq (r:=none) hcall) ?_;rintro e w2 ⟨v,H',rfl,hm2,H1,hI,hsub⟩;have hm3:=hsub.use hm2
  have fin: ∀ (st:LoopState) (pe:Option Code) (HU:List Blk),st≠ .busy→Mem w0 w2 ((.obj (w.heap.size+1) (.loop (rec st pe))::fG w.heap.size::HU)++Hc)→
   ∃ w4,(Instr.endLoop (w.heap.size+1)).run P w2= .ok pe w4∧Mem w0 w4 (fG w.heap.size::(HU++Hc)):=by
   intro st pe HU hst hm4;have hl:w2.heap[w.heap.size+1]? =some (.loop (rec st pe)):=(hm4.on _ Iu).1;have hr:=run_endLoop (P:=P) hl (by rw [hrec];exact hst);have hp:(rec st pe).pending=pe:=by rw [hrec]
   rw [hp] at hr;refine ⟨_,hr,?_⟩;exact (Mem.upd (b:= .obj (w.heap.size+1) (.loop (rec st pe))) (b' := .obj (w.heap.size+1) (.loop { rec st pe with state:= .exhausted,pending:=pe })) hm4 (grownBy_putObj' w2 _ _) (World.putObj_heap_same (IW.1 hl).1) fun k hk=> .inl hk).tail
  have hst:St ⟨m,[xx w.heap.size]⟩ s { a with defers:= [xx w.heap.size]++a.defers }:=⟨hs.size,by rw [hs.defers];rfl,hs.has⟩;rcases hI with ⟨HU,hU,rfl⟩|⟨pre,HU,hX,rfl⟩
  ·obtain ⟨w4,hr,hm4⟩:=fin _ _ HU (by decide) hm3;exact ⟨none,w4,hr,hdone _ HU hU _ w4 hst hm4⟩
  ·obtain ⟨w4,hr,hm4⟩:=fin _ _ HU (by decide) hm3;exact ⟨some .ret,w4,hr,wpIn_ret (hexit _ HU hX _ w4 hst hm4)⟩
end
end Go.SL

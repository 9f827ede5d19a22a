/-
  Lemmas and walks, put together: Sl14 Sl16 Sl17 Sl18 Sl19 Sl20 Lx2 Sl21.
-/
import Derived.RangeFuncOwn
import Derived.RangeFuncRecord
import Derived.RangeFuncSeq
import Derived.LoopN
import Derived.Recover
import Derived.Laws.IdiomRangeMap
import Derived.Laws.Pointers
import Derived.Test.YthefeclkaaocnaaGreatDoorKl05
import Derived.Test.YthefeclkaaocnaaGreatDoorKl06
set_option linter.unusedSimpArgs false
set_option linter.unusedVariables false
set_option maxRecDepth 20000
namespace Go.SL
open Go Go.RowKit
def fen (r:Option Nat):Fence:={ Fence.wide with round:=r }
theorem uX {r:Option Nat} {P:Program} {f:FuncId} {args:Array Value} {w:World} {R:Ending→World→Prop} (h:Calls P f args w R):CallsIn (fen r) 0 P f args w R:=
 (callsIn_wide (n:=0)).2 h
theorem FI {r:Option Nat} {P:Program} {row:String} {args:Array Value} {w:World} {R:Value→World→Prop} (h:Rows P row args w R):RowsIn (fen r) 0 P row args w R:=
 fun c cs _=>let ⟨v,w',h1,h2⟩:=h c cs;⟨v,w',h1,stepsIn_wide.2 h2⟩
theorem lT (r:Option Nat):(fen r).depth.isSome=true→1≤0:=fun h=>by simp [fen,Fence.wide] at h
theorem qz {r:Option Nat} {P:Program} {o:Oper} {a:Act} {w:World} {next next' :Act→World→Prop} {Q1 Q2:Exit→Act→World→Prop} (hnd: ∀ c,o.op≠ .defer c) (hn: ∀ a w,next a w→next' a w) (hp: ∀ c a w,Q1 (.panic c) a w→Q2 (.panic c) a w) (ho:LetsOut Q1→LetsOut Q2)
  (h:o.wp P a w next Q1):o.wpIn (fen r) 0 P a w next' Q2:=by
 refine ⟨fun _ _=>trivial,?_⟩
 have hsem:o.semAt (fen r).round a.eval=execOp a.eval o:=Oper.semAt_eq _ _ _ hnd
 rw [hsem]
 unfold Oper.wp at h
 generalize (execOp a.eval o).run P w=x at h ⊢
 cases x with
 |ok x w' =>
  cases x<;>simp only [Oper.upon] at h<;>simp only [Oper.uponIn]
  case value v=>exact hn _ _ h
  case skip=>exact hn _ _ h
  case defer d=>exact hn _ _ h
  case enter f args=>
   refine ⟨lT r,uX (Calls.mono h fun e w'' he=> ?_)⟩
   cases e with
   |returned v=>exact hn _ _ he
   |panicked c=>exact hp _ _ _ he
   |outgrown=>exact ho he
  case row k args=>exact ⟨lT r,FI (Rows.mono h fun v w'' he=>hn _ _ he)⟩
 |halt x w' =>cases x<;>simp only [Oper.upon] at h<;>simp only [Oper.uponIn]<;>exact hp _ _ _ h
def qk (l:List Oper):Bool:=l.all fun o=>match o.op with| .defer _=>false|_=>true
theorem rF {l:List Oper} (h:qk l=true): ∀ o∈l,∀ c,o.op≠ .defer c:=fun o ho c e=>by
 have:=MJ.1 h o ho
 rw [e] at this
 cases this
theorem fw {r:Option Nat} {P:Program} {ops:Array Oper} {Q:Exit→Act→World→Prop} (hno: ¬ LetsOut Q): ∀ (l:List Oper) (a:Act) (w:World),(∀ o∈l,∀ c,o.op≠ .defer c)→wpList P ops Q l a w→wpListIn (fen r) 0 P ops Q l a w
 | [],_,_,_,h=>h
 |o::l,a,w,hnd,h=>by
  unfold wpList at h
  unfold wpListIn
  split
  ·
   rename_i hw
   rw [if_pos hw] at h
   rcases h with h|⟨_,h⟩
   ·
    exact qz (hnd o LI) (fun a w h=>fw hno l a w (fun o ho=>hnd o (LX _ ho)) h) (fun _ _ _ h=>h) (fun h=>h) h
   ·
    exact absurd h hno
  ·
   rename_i hw
   rw [if_neg hw] at h
   exact ⟨fun _ _=>trivial,fw hno l _ w (fun o ho=>hnd o (LX _ ho)) h⟩
section
variable {P:Program} {n:Fr} {w0:World} {Q:bI} {s sb:az} {H:List Blk} {l:Nat}
def WR (P:Program) (n:Fr) (w0:World) (l:Nat) (c:Code) (Q:bI) (s:az) (H:List Blk):Prop:=
 ∀ a w,St n s a→Mem w0 w H→c.wpIn (fen (some l)) 0 P (post n w0 Q) a w
def NoOut (Q:bI):Prop:= ∀ s H,¬ Q .outgrown s H
theorem NoOut.post (h:NoOut Q): ¬ LetsOut (post n w0 Q):=fun ⟨_,_,s,H,_,_,hq⟩=>h s H hq
theorem Kj {id:Nat} (h:NoOut Q):NoOut (blk id Q):=fun s H hq=>h s H hq
theorem Hw (h:Q .normal s H):WR P n w0 l .skip Q s H:=fun _ _ hs hm=>wpIn_skip ⟨s,H,hs,hm,h⟩
theorem EM {id:Nat} {c:Code} (h:WR P n w0 l c (blk id Q) s H):WR P n w0 l (.block id c) Q s H:=by
 intro a w hs hm
 refine wpIn_block (wpIn_mono (h a w hs hm) ?_)
 rintro e a' w' ⟨s',H',h1,h2,h3⟩
 cases e with
 |exit id' =>
  simp only [Exit.inBlock,blk] at h3 ⊢
  split
  ·
   rename_i hid;rw [if_pos hid] at h3;exact ⟨s',H',h1,h2,h3⟩
  ·
   rename_i hid;rw [if_neg hid] at h3;exact ⟨s',H',h1,h2,h3⟩
 |_=>exact ⟨s',H',h1,h2,h3⟩
theorem C0 {id:Nat} {ops:List Oper} (hnd:qk ops=true) (hno:NoOut Q) (h:WL P n w0 ops.toArray ops Q s H):WR P n w0 l (.region id ops.toArray false) Q s H:=
 fun a w hs hm=>wpIn_region_lit (fw hno.post ops a w (rF hnd) (h a w hs hm))
def WLI (P:Program) (n:Fr) (w0:World) (ops:Array Oper) (rest:List Oper) (Q:bI) (s:az) (H:List Blk):Prop:=
 ∀ a w,St n s a→Mem w0 w H→wpListIn (fen none) 0 P ops (post n w0 Q) rest a w
theorem Dj {id:Nat} {ops:List Oper} (h:WLI P n w0 ops.toArray ops Q s H):W P n w0 (.region id ops.toArray false) Q s H:=
 fun a w hs hm=>(wpIn_wide (n:=0)).1 (wpIn_region_lit (h a w hs hm))
variable {ops:Array Oper} {rest:List Oper} {ty:TypeId} {p:String} {af:Array Edge}
theorem Hz (h:Q .normal s H):WLI P n w0 ops [] Q s H:=fun _ _ hs hm=>⟨s,H,hs,hm,h⟩
theorem JF {o:Oper} (hnd:qk [o]=true) (h:WL P n w0 ops [o] (fun e s' H' =>e= .normal∧WLI P n w0 ops rest Q s' H') s H):WLI P n w0 ops (o::rest) Q s H:=by
 intro a w hs hm
 have h1:=h a w hs hm
 have hnext: ∀ a w,wpList P ops (post n w0 fun e s' H' =>e= .normal∧WLI P n w0 ops rest Q s' H') [] a w→wpListIn (fen none) 0 P ops (post n w0 Q) rest a w:=by
  rintro a w ⟨s',H',h1,h2,_,h3⟩
  exact h3 a w h1 h2
 unfold wpList at h1
 unfold wpListIn
 split
 ·
  rename_i hw
  rw [if_pos hw] at h1
  rcases h1 with h1|⟨_,a0,w1,s',H'',_,_,he,_⟩
  ·
   refine qz (rF hnd o LI) hnext ?_ ?_ h1
   ·
    rintro c a w ⟨s',H'',_,_,he,_⟩
    cases he
   ·
    rintro ⟨a0,w1,s',H'',_,_,he,_⟩
    cases he
  ·
   cases he
 ·
  rename_i hw
  rw [if_neg hw] at h1
  exact ⟨fun _ _=>trivial,hnext _ _ h1⟩
theorem Da {d k:Nat} {c:Operand} {xs:List Operand} {vs:List Value} {ts:Array TypeId} {R:Value→List Blk→Prop} (hn:Nat.blt d n.sz=true) (hc:ev s c=some (.func (.yield k) #[] #[])) (hx:evs s xs=some vs)
  (hF: ∀ w,Mem w0 w H→YieldAt (fen none) 0 P k vs.toArray w fun e w' => ∃ v H',e= .returned v∧Mem w0 w' H' ∧R v H') (h: ∀ v H',R v H' →WLI P n w0 ops rest Q ((d,v)::s) H'):
  WLI P n w0 ops (⟨some d,.call { callee:= .value c,args:=xs.toArray,argTypes:=ts },ty,p,af,none⟩::rest) Q s H:=by
 intro a w hs hm
 unfold wpListIn
 simp only [Region.wanted,if_true]
 obtain ⟨fn,tmps,assign,body,hy,hR⟩:=hF w hm
 have hrun:(execOp a.eval ⟨some d,.call { callee:= .value c,args:=xs.toArray,argTypes:=ts },ty,p,af,none⟩).run P w= .ok (.round k fn tmps assign body) w:=by
  have hmap:=fW hs hx
  simp [execOp,resolve,hs.eval c _ hc,Deferred.ofValue,invoke,hmap,hy]
 refine ⟨fun _ _=>trivial,?_⟩
 have hsem:Oper.semAt (fen none).round a.eval ⟨some d,.call { callee:= .value c,args:=xs.toArray,argTypes:=ts },ty,p,af,none⟩=execOp a.eval ⟨some d,.call { callee:= .value c,args:=xs.toArray,argTypes:=ts },ty,p,af,none⟩:=rfl
 rw [hsem,hrun]
 refine ⟨lT none,RoundIn.mono hR ?_⟩
 rintro e w' ⟨v,H',rfl,hm',hv⟩
 exact h v H' hv _ _ (hs.put (Mt ▸ hn) _) hm'
theorem Jp {d:Nat} {op:Op} {v:Value} (hnd:qk [⟨some d,op,ty,p,af,none⟩]=true) (hn:Nat.blt d n.sz=true) (hv:VOp P w0 s H op ty v) (h:WLI P n w0 ops rest Q ((d,v)::s) H):WLI P n w0 ops (⟨some d,op,ty,p,af,none⟩::rest) Q s H:=
 JF hnd (ak hn hv (mB ⟨rfl,h⟩))
theorem zL {d k:Nat} {c:Operand} {xs:List Operand} {vs:List Value} {ts:Array TypeId} {H' T:List Blk} {A A' :List Blk→Prop} (hn:Nat.blt d n.sz=true) (hc:ev s c=some (.func (.yield k) #[] #[])) (hx:evs s xs=some vs)
  (hM:MSub H' H) (hF: ∀ w,Mem w0 w H' →YieldAt (fen none) 0 P k vs.toArray w fun e w' => ∃ b H2,e= .returned (.bool b)∧Mem w0 w' (H2++T)∧(if b then A H2 else A' H2)) (h: ∀ b H2,(if b then A H2 else A' H2)→WLI P n w0 ops rest Q ((d,.bool b)::s) (H2++T)):
  WLI P n w0 ops (⟨some d,.call { callee:= .value c,args:=xs.toArray,argTypes:=ts },ty,p,af,none⟩::rest) Q s H:=by
 refine Da (R:=fun v H' => ∃ b H2,v= .bool b∧H' =H2++T∧(if b then A H2 else A' H2)) hn hc hx (fun w hm=> ?_) ?_
 ·
  obtain ⟨fn,tmps,assign,body,hy,hR⟩:=hF w (hM.use hm)
  refine ⟨fn,tmps,assign,body,hy,RoundIn.mono hR ?_⟩
  rintro e w' ⟨b,H2,rfl,hm',hq⟩
  exact ⟨_,_,rfl,hm',b,H2,rfl,rfl,hq⟩
 ·
  rintro v H' ⟨b,H2,rfl,rfl,hq⟩
  exact h b H2 hq
def Lo {α:Type} (P:Program) (f:FuncId) (caps:List Value) (w0:World) (Hc:List Blk) (us:List α) (encs:α→List Value):Prop:=
 ∀ (l:Nat) (I J:List α→List Blk→Prop) (H0:List Blk),
  (∀ pre u post,us=pre++u::post→ ∀ H1 F,I pre H1→ ∀ w,Mem w0 w (H1++(Hc++F))→YieldAt (fen none) 0 P l (encs u).toArray w fun e w' => ∃ b H2,e= .returned (.bool b)∧Mem w0 w' (H2++(Hc++F))∧(if b then I (pre++ [u]) H2 else J (pre++ [u]) H2))→
  I [] H0→FnIn P f (.func (.yield l) #[] #[]::caps) w0 (H0++Hc) fun _ H' => ∃ H1,(I us H1∨ ∃ pre,J pre H1)∧MSub (H1++Hc) H'
def Bd (D:Nat):Deferred:={ target:= .collected D,args:= #[] }
def iY (D:Nat):Blk:= .obj D (.deferred (some []))
theorem oT {w:World} {t T T' g:Nat} {v:Value} {a:Act} [One P T] (hs:St n s a) (hm:Mem w0 w H) (ht:look s t=some (.pointer (some ⟨g,0,none⟩))) (hi:In (.box g T' [v]) H):
  (do let b ← asAddr (a.tmps.getD t undef);loadVar T b).run P w= .ok v w:=by
 have h1:=hs.has t _ ht
 have hc:=hm.cells_box hi 0 v rfl
 have h2:=fQ (P:=P) (t:=T) hc
 simp [L8,h1,asAddr,h2]
def WT (P:Program) (n:Fr) (w0:World) (c:Code) (B:Exit→Act→World→Prop) (s:az) (H:List Blk):Prop:=
 ∀ a w,St n s a→Mem w0 w H→c.wpIn (fen none) 0 P B a w
def cj (n:Fr) (w0:World) (B:Exit→Act→World→Prop):bI:=fun e s H=> ∀ a w,St n s a→Mem w0 w H→B e a w
def uY (P:Program) (fn:Func) (w0:World) (R:Value→List Blk→Prop):Exit→Act→World→Prop:=
 bodyPostM (fen none) 0 P fn fun e w' => ∃ v H',e= .returned v∧Mem w0 w' H' ∧R v H'
variable {B:Exit→Act→World→Prop}
theorem Gm {m:Nat} {f:FuncId} {fn:Func} {c:Code} {args:List Value} {R:Value→List Blk→Prop} (hf:P.funcs[f]? =some fn) (hb:fn.body=some c) (hn:fn.ntmps=m) (hle:Nat.ble args.length m=true)
  (h:WT P ⟨m,[]⟩ w0 c (uY P fn w0 R) (oV args 0) H):FnIn P f args w0 H R:=by
 intro w hm
 have hle' :args.length≤m:=by simpa using hle
 refine (callsIn_wide (n:=0)).1 (callsIn_of_wp_marks hf hb trivial (h { tmps:=args.toArray++Array.replicate (fn.ntmps - args.toArray.size) undef,defers:= [] } w ⟨?_,rfl,?_⟩ hm))
 ·
  simp [hn];omega
 ·
  intro t v ht
  rw [jT] at ht
  simp only [LS,if_true,Np] at ht
  have hlt:t<args.length:=(LV.1 ht).1
  rw [MS (by simpa using hlt)]
  simpa using ht
theorem yL {m:Nat} {f:FuncId} {fn:Func} {c:Code} {args:List Value} {w:World} {R:Value→List Blk→Prop} (hf:P.funcs[f]? =some fn) (hb:fn.body=some c) (hn:fn.ntmps=m) (hle:Nat.ble args.length m=true)
  (h:WT P ⟨m,[]⟩ w c (uY P fn w R) (oV args 0) []):aS P f args w R:=Gm hf hb hn hle h w (Mem.refl w)
theorem JD {x y:Code} (h:W P n w0 x (thn (WT P n w0 y B) (cj n w0 B)) s H):WT P n w0 (.seq x y) B s H:=by
 intro a w hs hm
 refine wpIn_seq (wpIn_mono ((wpIn_wide (n:=0)).2 (h a w hs hm)) ?_)
 rintro e a' w' ⟨s',H',h1,h2,h3⟩
 cases e with
 |normal=>exact h3 a' w' h1 h2
 |_=>exact h3 a' w' h1 h2
theorem Ht {c:Code} (h:W P n w0 c (cj n w0 B) s H):WT P n w0 c B s H:=
 fun a w hs hm=>wpIn_mono ((wpIn_wide (n:=0)).2 (h a w hs hm)) fun _ _ _ ⟨_,_,h1,h2,h3⟩=>h3 _ _ h1 h2
def KX (P:Program) (z:Code) (B:Exit→Act→World→Prop):Exit→Act→World→Prop:=Exit.then (z.wpIn (fen none) 0 P B) B
theorem EK {x y z:Code} (h:WT P n w0 (.seq x y) (KX P z B) s H):WT P n w0 (.seq (.seq x y) z) B s H:=fun a w hs hm=>wpIn_seq (h a w hs hm)
theorem Ef {z:Code} (h:WT P n w0 z B s H):cj n w0 (KX P z B) .normal s H:=fun a w hs hm=>h a w hs hm
theorem wR {id:Nat} {l:Array Oper} {d:Bool} {y:Code} (h:W P n w0 (.region id l d) (thn (WT P n w0 y B) (cj n w0 B)) s H):WT P n w0 (.seq (.region id l d) y) B s H:=JD h
theorem wS (h:W P n w0 .ret (cj n w0 B) s H):WT P n w0 .ret B s H:=Ht h
theorem Gz {m D:Nat} {fn:Func} {R:Value→List Blk→Prop} {e:Exit} {H2:List Blk} (hsel:Sel (iY D) H H2) (h:bq P fn ⟨m,[Bd D]⟩ w0 R e s H2):cj ⟨m,[Bd D]⟩ w0 (uY P fn w0 R) e s H:=by
 obtain ⟨he,v,H',hsub,hr,hR⟩:=h
 intro a w hs hm
 have hm1:=hm.sel hsel
 have hD:w.heap[D]? =some (.deferred (some [])):=(hm1.on _ LI).1
 have hm2:Mem w0 (w.putObj D (.deferred none)) H2:=by
  have hlt:D<w.heap.size:=(Mb.1 hD).1
  exact (hm1.upd (b' := .obj D (.deferred none)) (grownBy_putObj' w D _) (World.putObj_heap_same hlt) fun k hk=> .inl hk).tail
 have hp:LeavesInM (fen none) 0 P fn a.tmps (fun e w' => ∃ v H',e= .returned v∧Mem w0 w' H' ∧R v H') a.defers .returning w:=by
  rw [hs.defers]
  refine ⟨by simp,.inl ⟨D,_,rfl,run_takeDeferred hD,?_⟩⟩
  exact ⟨v,hr a _ hs hm2,v,H',rfl,hsub.use hm2,hR⟩
 rcases he with rfl|rfl<;>exact hp
def ou (K:az→List Blk→Prop):bI:=fun e s H=>e= .normal∧K s H
def oS {α:Type} (U:List α→List Blk→Prop) (X:List Blk→Prop) (xs:List α) (F:List Blk):bI
 | .normal,_,H=> ∃ HU,MSub (HU++F) H∧U xs HU
 | .ret,_,H=> ∃ HU,MSub (HU++F) H∧X HU
 |_,_,_=>False
theorem Iu {α:Type} {U:List α→List Blk→Prop} {X:List Blk→Prop} {xs:List α} {F:List Blk} (HU:List Blk) (h1:MSub (HU++F) H) (h2:U xs HU):oS U X xs F .normal s H:=⟨HU,h1,h2⟩
theorem G0 {K:az→List Blk→Prop} (h:K s H):ou K .normal s H:=⟨rfl,h⟩
theorem DF {α:Type} {U:List α→List Blk→Prop} {X:List Blk→Prop} {xs:List α} {F:List Blk}:NoOut (oS U X xs F):=fun _ _ h=>h
theorem nT (m:Nat): ∀ (ps:List Tmp) (vs:List Value) (tm:Array Value) (s:az),tm.size=m→(∀ t v,look s t=some v→tm[t]? =some v)→ps.all (fun t=>Nat.blt t m)=true→
  ((ps.zip vs).foldl (fun (tmps:Array Value) (x:Tmp × Value)=>tmps.setIfInBounds x.1 x.2) tm).size=m∧ ∀ t v,look ((ps.zip vs).reverse++s) t=some v→((ps.zip vs).foldl (fun (tmps:Array Value) (x:Tmp × Value)=>tmps.setIfInBounds x.1 x.2) tm)[t]? =some v
 | [],vs,tm,s,h1,h2,_=>by simpa using ⟨h1,h2⟩
 |q::ps,[],tm,s,h1,h2,_=>by simpa using ⟨h1,h2⟩
 |q::ps,u::vs,tm,s,h1,h2,h3=>by
  simp only [NA,LM] at h3
  have hq:q<m:=by simpa using h3.1
  have h:=nT m ps vs (tm.setIfInBounds q u) ((q,u)::s) (by simpa using h1) (fun t v ht=>by
   rw [gD] at ht
   by_cases e:q=t
   ·
    subst e
    rw [if_pos rfl] at ht
    injection ht with ht
    subst ht
    simp [h1,hq]
   ·
    rw [if_neg e] at ht
    rw [Nu e]
    exact h2 t v ht) h3.2
  rw [List.zip_cons_cons,Ns,List.reverse_cons,Mk]
  exact h
theorem EL {α:Type} {id:Nat} {g:Operand} {ps:List Tmp} {assign body:Code} {m:Nat} {f:FuncId} [hcf:Callable P f] {caps:List Value} {us:List α} {encs:α→List Value} {Hc HU0:List Blk} (hg:ev s g=some (.func (.func f) #[] caps.toArray))
  (hps: ∀ u,(encs u).length=ps.length) (hpn:ps.all (fun t=>Nat.blt t m)=true) (hseq:Lo P f caps w0 Hc us encs) (U:List α→List Blk→Prop) (X:List Blk→Prop) (hH:MSub (HU0++Hc) H) (h0:U [] HU0)
  (hround: ∀ l pre u post,us=pre++u::post→ ∀ HU,U pre HU→ ∀ F F',WR P ⟨m,[]⟩ w0 l assign (ou fun s1 H1=> ∃ HU1,MSub (HU1++F) H1∧WR P ⟨m,[]⟩ w0 l body (oS U X (pre++ [u]) F') s1 (HU1++F')) ((ps.zip (encs u)).reverse++s) (HU++F))
  (hdone: ∀ D HU,U us HU→cj ⟨m,[Bd D]⟩ w0 B .normal s (iY D::(HU++Hc)))
  (hexit: ∀ D HU,X HU→cj ⟨m,[Bd D]⟩ w0 B .ret s (iY D::(HU++Hc))):
  WT P ⟨m,[]⟩ w0 (.block id (.rangeFunc g ps.toArray assign body)) B s H:=by
 intro a w hs hm
 have hm0:Mem w0 w (HU0++Hc):=hH.use hm
 refine wpIn_block (wpIn_rangeFunc fun fn _=> ?_)
 obtain ⟨rec,hrec⟩: ∃ rec:LoopState→Option Code→Loop,rec=fun st pe=>{ state:=st,pending:=pe,fn,tmps:=a.tmps,params:=ps.toArray,assign,body,defers:=w.heap.size }:=⟨_,rfl⟩
 obtain ⟨W1,hW1⟩: ∃ W1,(w.alloc (.deferred (some []))).alloc (.loop (rec .ready none))=W1:=⟨_,rfl⟩
 have hm1:Mem w0 W1 (.obj (w.heap.size+1) (.loop (rec .ready none))::iY w.heap.size::(HU0++Hc)):=by
  have h1:Mem w0 (w.alloc (.deferred (some []))) (iY w.heap.size::(HU0++Hc)):=hm0.new (World.grownBy_alloc w _ none) (World.alloc_heap_new w _) fun k hk=>by
   simp only [iY,Blk.key,Option.some.injEq] at hk;omega
  rw [← hW1]
  refine h1.new (World.grownBy_alloc _ _ none) ?_ fun k hk=> ?_
  ·
   have:=World.alloc_heap_new (w.alloc (.deferred (some []))) (.loop (rec .ready none))
   rwa [World.size_alloc] at this
  ·
   simp only [Blk.key,Option.some.injEq] at hk
   rw [World.size_alloc]
   omega
 have hcall:=hseq (w.heap.size+1) (fun pre H1=> ∃ HU,U pre HU∧H1= .obj (w.heap.size+1) (.loop (rec .ready none))::iY w.heap.size::HU)
  (fun _ H1=> ∃ HU,X HU∧H1= .obj (w.heap.size+1) (.loop (rec .done (some .ret)))::iY w.heap.size::HU)
  (.obj (w.heap.size+1) (.loop (rec .ready none))::iY w.heap.size::HU0) ?_ ⟨HU0,h0,rfl⟩ W1 (by simpa using hm1)
 rotate_left
 ·
  -- one round
  rintro pre u post hus H1 F ⟨HU,hU,rfl⟩ w1 hmr
  have hl:w1.heap[w.heap.size+1]? =some (.loop (rec .ready none)):=(hmr.on _ LI).1
  have hy:=run_yield (P:=P) (args:=(encs u).toArray) hl (by rw [hrec];simp [hps u])
  rw [hrec] at hy
  have hzip:(ps.toArray.zip (encs u).toArray).foldl (fun (tmps:Array Value) (x:Tmp × Value)=>tmps.setIfInBounds x.1 x.2) a.tmps=(ps.zip (encs u)).foldl (fun (tmps:Array Value) (x:Tmp × Value)=>tmps.setIfInBounds x.1 x.2) a.tmps:=by
   rw [← Array.foldl_toList];simp
  have hpar:=nT m ps (encs u) a.tmps s hs.size hs.has hpn
  refine ⟨fn,_,assign,body,hy,roundIn_of_wpIn trivial ?_⟩
  have hin:(fen none).inRound (w.heap.size+1)=fen (some (w.heap.size+1)):=rfl
  rw [hin]
  have hperm: ∀ (o:Blk) (HU:List Blk),((o::iY w.heap.size::HU)++(Hc++F)).Perm (HU++(o::iY w.heap.size::(Hc++F))):=fun o HU=>by
   have h1:((o::iY w.heap.size::HU)++(Hc++F))= [o,iY w.heap.size]++(HU++(Hc++F)):=by simp
   have h2:(HU++(o::iY w.heap.size::(Hc++F)))=HU++([o,iY w.heap.size]++(Hc++F)):=by simp
   have h3:=(MR (l₁:= [o,iY w.heap.size]) (l₂:=HU)).append_right (Hc++F)
   rw [Mk,Mk] at h3
   rw [h1,h2]
   exact h3
  have hst:St ⟨m,[]⟩ ((ps.zip (encs u)).reverse++s) { tmps:=(ps.toArray.zip (encs u).toArray).foldl (fun (tmps:Array Value) (x:Tmp × Value)=>tmps.setIfInBounds x.1 x.2) a.tmps,defers:= [] }:=by
   rw [hzip]
   exact ⟨hpar.1,rfl,hpar.2⟩
  refine wpIn_mono (hround (w.heap.size+1) pre u post hus HU hU (.obj (w.heap.size+1) (.loop (rec .ready none))::iY w.heap.size::(Hc++F)) (.obj (w.heap.size+1) (.loop (rec .busy none))::iY w.heap.size::(Hc++F)) _ w1 hst (hmr.perm (hperm _ _))) ?_
  rintro e a1 w2 ⟨s1,H1,hs1,hm2,rfl,HU1,hsub,hbody⟩
  have hm3:=(hsub.use hm2).perm (hperm _ _).symm
  have hl2:w2.heap[w.heap.size+1]? =some (.loop (rec .ready none)):=(hm3.on _ LI).1
  have turn: ∀ (w2:World) (st:LoopState) (pe:Option Code) (HU1:List Blk) (o' :Obj),Mem w0 w2 ((.obj (w.heap.size+1) (.loop (rec st pe))::iY w.heap.size::HU1)++(Hc++F))→Mem w0 (w2.putObj (w.heap.size+1) o') ((.obj (w.heap.size+1) o' ::iY w.heap.size::HU1)++(Hc++F)):=by
   intro w2 st pe HU1 o' hm3
   have hl2:w2.heap[w.heap.size+1]? =some (.loop (rec st pe)):=(hm3.on _ LI).1
   exact Mem.upd (b:= .obj (w.heap.size+1) (.loop (rec st pe))) (b' := .obj (w.heap.size+1) o') hm3 (grownBy_putObj' w2 _ _) (World.putObj_heap_same (Mb.1 hl2).1) fun k hk=> .inl hk
  refine ⟨_,run_beginRound hl2 (by rw [hrec]),?_⟩
  have hb:=turn w2 _ _ HU1 (.loop { rec .ready none with state:= .busy }) hm3
  have hbusy:({ rec .ready none with state:= .busy }:Loop)=rec .busy none:=by rw [hrec]
  rw [hbusy] at hb ⊢
  refine wpIn_mono (hbody a1 _ hs1 (hb.perm (hperm _ _))) ?_
  rintro e a3 w3 ⟨s3,H3,hs3,hm4,hq⟩
  cases e with
  |normal=>
   obtain ⟨HU2,hsub2,hU2⟩:=hq
   have hm5:=(hsub2.use hm4).perm (hperm _ _).symm
   have hl5:w3.heap[w.heap.size+1]? =some (.loop (rec .busy none)):=(hm5.on _ LI).1
   refine ⟨_,_,run_endRound none hl5,true,_,rfl,turn w3 _ _ HU2 _ hm5,?_⟩
   refine ⟨HU2,hU2,?_⟩
   rw [hrec]
   rfl
  |ret=>
   obtain ⟨HU2,hsub2,hX⟩:=hq
   have hm5:=(hsub2.use hm4).perm (hperm _ _).symm
   have hl5:w3.heap[w.heap.size+1]? =some (.loop (rec .busy none)):=(hm5.on _ LI).1
   refine ⟨_,_,run_endRound (some .ret) hl5,false,_,rfl,turn w3 _ _ HU2 _ hm5,?_⟩
   refine ⟨HU2,hX,?_⟩
   rw [hrec]
   rfl
  |exit id=>exact hq.elim
  |goto t=>exact hq.elim
  |panic c=>exact hq.elim
  |outgrown=>exact hq.elim
 have hev:=hs.eval g _ hg
 refine ⟨w.heap.size+1,[Bd w.heap.size],W1,{ target:= .fn (.func f) caps.toArray,args:= #[.func (.yield (w.heap.size+1)) #[] #[]] },W1,f,#[.func (.yield (w.heap.size+1)) #[] #[]]++caps.toArray,W1,?_,?_,fun _ _=>trivial,?_,lT none,?_⟩
 ·
  rw [← hW1,hrec]
  exact run_enterLoop_outer _ _ _ _ _
 ·
  simp only [resolve,hev]
  simp [go_sem]
 ·
  simp [invoke,hcf.out]
 ·
  have harr:(#[.func (.yield (w.heap.size+1)) #[] #[]]++caps.toArray:Array Value)=(.func (.yield (w.heap.size+1)) #[] #[]::caps).toArray:=by simp
  rw [harr]
  refine CallsIn.mono (uX (r:=none) hcall) ?_
  rintro e w2 ⟨v,H',rfl,hm2,H1,hI,hsub⟩
  have hm3:=hsub.use hm2
  have fin: ∀ (st:LoopState) (pe:Option Code) (HU:List Blk),st≠ .busy→Mem w0 w2 ((.obj (w.heap.size+1) (.loop (rec st pe))::iY w.heap.size::HU)++Hc)→
    ∃ w4,(Instr.endLoop (w.heap.size+1)).run P w2= .ok pe w4∧Mem w0 w4 (iY w.heap.size::(HU++Hc)):=by
   intro st pe HU hst hm4
   have hl:w2.heap[w.heap.size+1]? =some (.loop (rec st pe)):=(hm4.on _ LI).1
   have hr:=run_endLoop (P:=P) hl (by rw [hrec];exact hst)
   have hp:(rec st pe).pending=pe:=by rw [hrec]
   rw [hp] at hr
   refine ⟨_,hr,?_⟩
   exact (Mem.upd (b:= .obj (w.heap.size+1) (.loop (rec st pe))) (b' := .obj (w.heap.size+1) (.loop { rec st pe with state:= .exhausted,pending:=pe })) hm4 (grownBy_putObj' w2 _ _) (World.putObj_heap_same (Mb.1 hl).1) fun k hk=> .inl hk).tail
  have hst:St ⟨m,[Bd w.heap.size]⟩ s { a with defers:= [Bd w.heap.size]++a.defers }:=⟨hs.size,by rw [hs.defers];rfl,hs.has⟩
  rcases hI with ⟨HU,hU,rfl⟩|⟨pre,HU,hX,rfl⟩
  ·
   obtain ⟨w4,hr,hm4⟩:=fin _ _ HU (by decide) hm3
   exact ⟨none,w4,hr,hdone _ HU hU _ w4 hst hm4⟩
  ·
   obtain ⟨w4,hr,hm4⟩:=fin _ _ HU (by decide) hm3
   exact ⟨some .ret,w4,hr,wpIn_ret (hexit _ HU hX _ w4 hst hm4)⟩
end
section
variable {P:Program} {n:Fr} {w0:World} {Q:bI} {s:az} {H:List Blk} {ty:TypeId}
theorem qM {x ix:Operand} {t e g off m j sz:Nat} {k:IntKind} [ht:Und P t (.array m e)] [hs:Size P e sz] (hx:ev s x=some (.pointer (some ⟨g,off,none⟩))) (hi:ev s ix=some (.int k (j:Nat)))
  (hj:j<m):VOp P w0 s H (.indexAddr t x ix) ty (.pointer (some ⟨g,off+j*sz,none⟩)):=fun ρ w _ _ _ _ hρ _=>by
 obtain ⟨i,h1,h2⟩:=hs.out
 have hj' :(j:Int)<(m:Int):=by omega
 have h0:(0:Int)≤(j:Int):=by omega
 have hadd:(⟨g,off,none⟩:Addr).add (j*sz)=⟨g,off+j*sz,none⟩:=by
  unfold Addr.add;split<;>simp_all
 simp [execOp,hρ x _ hx,hρ ix _ hi,Instr.indexAt,run_underlying ht.out,asIntOf,sizeOf,typeInfo,h1,h2,hadd,Instr.sureAddr]
 try omega
theorem Dm {x ix:Operand} {t e g off m sz:Nat} {k:IntKind} [ht:Und P t (.array m e)] [hs:Size P e sz] (hx:ev s x=some (.pointer (some ⟨g,off,none⟩))) (hi:ev s ix=some (.int k 0)) (hj:Nat.blt 0 m=true):
  VOp P w0 s H (.indexAddr t x ix) ty (.pointer (some ⟨g,off,none⟩)):=by
 have h:=qM (P:=P) (w0:=w0) (H:=H) (ty:=ty) (t:=t) (j:=0) hx hi (by simpa using hj)
 rwa [Nat.zero_mul,Nj] at h
theorem Dl {x ix:Operand} {t e g off m sz:Nat} {k:IntKind} [ht:Und P t (.array m e)] [hs:Size P e sz] (hx:ev s x=some (.pointer (some ⟨g,off,none⟩))) (hi:ev s ix=some (.int k 1)) (hj:Nat.blt 1 m=true):
  VOp P w0 s H (.indexAddr t x ix) ty (.pointer (some ⟨g,off+sz,none⟩)):=by
 have h:=qM (P:=P) (w0:=w0) (H:=H) (ty:=ty) (t:=t) (j:=1) hx hi (by simpa using hj)
 rwa [Oh] at h
theorem Ee {α:Type} {enc:α→List Value} {m:Nat} (h: ∀ a,(enc a).length=m) (L:List α) (i k:Nat) (hi:i<L.length) (hk:k<m) (v:Value) (a:α) (ha:(enc L[i]).set k v=enc a):
  (L.flatMap enc).set (i*m+k) v=(L.set i a).flatMap enc:=by
 rw [← yM h L i hi a]
 have hl:((L.flatMap enc).take (i*m)).length=i*m:=by
  have h1:=aD h L
  have h2:i*m≤L.length*m:=Nat.mul_le_mul_right _ (by omega)
  rw [LP];omega
 have h1:L.flatMap enc=(L.flatMap enc).take (i*m)++(enc L[i]++(L.flatMap enc).drop (i*m+m)):=by
  rw [← eJ h L i hi]
  conv=>lhs;rw [← MA (i*m) (L.flatMap enc)]
  congr 1
  conv=>lhs;rw [← MA m ((L.flatMap enc).drop (i*m))]
  rw [MK]
 generalize (L.flatMap enc).take (i*m)=X at h1 hl
 generalize (L.flatMap enc).drop (i*m+m)=S at h1
 rw [h1,Ny _ _ (by omega),hl,Nat.add_sub_cancel_left,List.set_append_left _ _ (by rw [h];exact hk),ha]
 simp
end
section
variable {P:Program} {n:Fr} {w0:World} {Q:bI} {s:az} {H:List Blk} {rest:List Oper} {ty:TypeId} {p:String} {af:Array Edge}
theorem zN {d t e m sz:Nat} {ps:List (Nat × Operand)} {vs xs zs:List Value} {ops:Array Oper} [ht:Und P t (.array m e)] [he:Size P e sz] [hz:ZeroC P t zs] (hn:Nat.blt d n.sz=true) (hps:evd s ps 0=some vs)
  (hs0:Nat.blt 0 sz=true) (hl:Nat.beq (vs.length*sz) zs.length=true) (h1:uj sz vs=true) (hx:pY (mQ vs)=some xs) (k:WL P n w0 ops rest Q ((d,.agg xs.toArray)::s) H):
  WL P n w0 ops (⟨some d,.build t ps.toArray,ty,p,af,none⟩::rest) Q s H:=by
 refine qd rfl d rfl hn (fun a w hs hm=> ?_) k
 obtain ⟨it,z,i1,i2,i3⟩:=hz.out
 obtain ⟨ie,j1,j2⟩:=he.out
 have hall:=lR h1
 have hlen:=Mf hl
 have hfill:=Great.fill_whole (s:=sz) (by simpa using hs0) vs z.cells hall (by rw [i3];simp [hlen])
 rw [← qt hs hps] at hfill
 have hb:P.built t (ps.map fun (x:Nat × Operand)=>(x.1,a.eval x.2))=some (mQ vs).toArray:=by
  unfold Program.built
  simp only [i1,ht.out,i2,j1,j2]
  exact hfill
 have hr:=run_build (P:=P) w t (ps.map fun (x:Nat × Operand)=>(x.1,a.eval x.2)).toArray (mQ vs).toArray (by simpa using hb)
 rw [gM hx]
 simp only [execOp,M9]
 simp only [Sem.run_bind,hr,Result.andThen_ok,Sem.run_pure]
theorem aN {d t e n' c g sz by_:Nat} {A:Option Nat} {x y:Operand} {xs news:List Value} {R:List Blk} {ops:Array Oper} [ht:Und P t (.slice e)] [he:Elem P e sz by_] (hn:Nat.blt d n.sz=true)
  (hx:ev s x=some (sl A n' c)) (hy:ev s y=some (.slice (some ⟨g,0,none⟩) 1 1)) (hsel:Sel (.own A e sz n' c xs) H R)
  (hi:In (.own (some g) e sz 1 1 news) H) (hl:news.length=sz) (h1: ∀ u∈news,u.oneCell' =true) (hby:(n' +1)*by_≤140737488355328) (h63:n' +1≤maxLen)
  (k: ∀ g' cap',WL P n w0 ops rest Q ((d,sl (some g') (n' +1) cap')::s) (.own (some g') e sz (n' +1) cap' (xs++news)::R)):
  WL P n w0 ops (⟨some d,.call { callee:= .builtin .append,args:= #[x,y],argTypes:= #[t,t] },ty,p,af,none⟩::rest) Q s H:=
 cy (m:=1) hn hx hy hsel (fun w hm=>Reads.of_own (A:=some g) hm hi) (by omega) h1 hby h63 fun A' cap' hA=>by
  obtain ⟨g',rfl⟩:=hA (by omega)
  exact k g' cap'
end
def ij (v:Value):List PanicEntry:= [{ v,recovered:=false }]
def FnP (P:Program) (f:FuncId) (args:List Value) (w0:World) (H:List Blk) (R D:Value→List Blk→Prop):Prop:=
 ∀ w,Mem w0 w H→Calls P f args.toArray w fun e w' =>(∃ v H',e= .returned v∧Mem w0 w' H' ∧R v H')∨(∃ v H',e= .panicked (ij v)∧Mem w0 w' H' ∧D v H')
theorem FnP.msub {P:Program} {f:FuncId} {args:List Value} {w0:World} {H H' :List Blk} {R D:Value→List Blk→Prop} (h:FnP P f args w0 H' R D) (hs:MSub H' H):FnP P f args w0 H R D:=fun w hm=>h w (hs.use hm)
def bF (P:Program) (fn:Func) (n:Fr) (w0:World) (R D:Value→List Blk→Prop):bI:=fun e s H=>
 bq P fn n w0 R e s H∨ ∃ v H',e= .panic (ij v)∧MSub H' H∧D v H'
section
variable {P:Program} {n:Fr} {w0:World} {Q:bI} {s:az} {H:List Blk} {l rest:List Oper} {ty:TypeId} {p:String} {af:Array Edge}
theorem bw {d:Nat} {ops:Array Oper} {f:FuncId} {xs:List Operand} {vs:List Value} {ts:Array TypeId} {R D:Value→List Blk→Prop} [Callable P f] (hn:Nat.blt d n.sz=true) (hx:evs s xs=some vs)
  (hF:FnP P f vs w0 H R D) (k: ∀ v H',R v H' →WL P n w0 ops rest Q ((d,v)::s) H') (kd: ∀ v H',D v H' →Q (.panic (ij v)) s H'):
  WL P n w0 ops (⟨some d,.call { callee:= .value (.func f),args:=xs.toArray,argTypes:=ts },ty,p,af,none⟩::rest) Q s H:=by
 intro a w hs hm
 refine wpList_plain rfl fun K hK=> ?_
 have hr:=jJ (P:=P) (w:=w) (ρ:=a.eval) (d:=some d) (ty:=ty) (p:=p) (af:=af) (g:=none) (f:=f) (c:= .func f) (xs:=xs) (caps:= []) (ts:=ts) rfl (fW hs hx)
 rw [LN] at hr
 simp only [Oper.wp,hr,Oper.upon]
 refine (hF w hm).mono ?_
 rintro e w' (⟨v,H',rfl,hm',hR⟩|⟨v,H',rfl,hm',hD⟩)
 ·
  exact hK _ _ (k v H' hR _ _ (hs.put (Mt ▸ hn) _) hm')
 ·
  exact ⟨s,H',hs,hm',kd v H' hD⟩
theorem ES {d:Option Tmp} {ops:Array Oper} {x:Operand} {t:TypeId} {v:Value} (hx:ev s x=some (.iface t v)) (h:Q (.panic (ij (.iface t v))) s H):
  WL P n w0 ops (⟨d,.panic x,ty,p,af,none⟩::rest) Q s H:=by
 intro a w hs hm
 refine wpList_plain rfl fun K hK=> ?_
 have hr:(execOp a.eval ⟨d,.panic x,ty,p,af,none⟩).run P w= .halt (.panic (.iface t v)) w:=by
  simp only [execOp,hs.eval x _ hx]
  rfl
 simp only [Oper.wp,hr,Oper.upon]
 exact ⟨s,H,hs,hm,h⟩
theorem KU {K:az→List Blk→Prop} {c:List PanicEntry} (h:Q (.panic c) s H):thn K Q (.panic c) s H:=h
theorem Lh {id:Nat} {c:List PanicEntry} (h:Q (.panic c) s H):blk id Q (.panic c) s H:=h
theorem Le {ι:Type} {sI:ι→az} {HI:ι→List Blk} {ok:ι→Prop} {c:List PanicEntry} (h:Q (.panic c) s H):bS sI HI ok Q (.panic c) s H:=h
theorem K3 {fn:Func} {R D:Value→List Blk→Prop} {e:Exit} (h:bq P fn n w0 R e s H):bF P fn n w0 R D e s H:= .inl h
theorem Jv {fn:Func} {R D:Value→List Blk→Prop} {v:Value} {H' :List Blk} (hs:MSub H' H) (h:D v H'):bF P fn n w0 R D (.panic (ij v)) s H:= .inr ⟨v,H',rfl,hs,h⟩
theorem rU {m:Nat} {f:FuncId} {fn:Func} {c:Code} {args:List Value} {R D:Value→List Blk→Prop} (hf:P.funcs[f]? =some fn) (hb:fn.body=some c) (hn:fn.ntmps=m) (hle:Nat.ble args.length m=true)
  (h:W P ⟨m,[]⟩ w0 c (bF P fn ⟨m,[]⟩ w0 R D) (oV args 0) H):FnP P f args w0 H R D:=by
 intro w hm
 have hle' :args.length≤m:=by simpa using hle
 refine calls_of_wp hf hb (wp_mono (h { tmps:=args.toArray++Array.replicate (fn.ntmps - args.toArray.size) undef,defers:= [] } w ⟨?_,rfl,?_⟩ hm) ?_)
 ·
  simp [hn];omega
 ·
  intro t v ht
  rw [jT] at ht
  simp only [LS,if_true,Np] at ht
  have hlt:t<args.length:=(LV.1 ht).1
  rw [MS (by simpa using hlt)]
  simpa using ht
 ·
  rintro e a w' ⟨s',H',hs,hm',hq⟩
  rcases hq with ⟨he,v,H'',hsub,hr,hR⟩|⟨v,H'',rfl,hsub,hD⟩
  ·
   have hp:a.defers= []∧ ∃ v,(results fn a.tmps).run P w' = .ok v w' ∧((∃ v1 H1,Ending.returned v= .returned v1∧Mem w0 w' H1∧R v1 H1)∨(∃ v1 H1,Ending.returned v= .panicked (ij v1)∧Mem w0 w' H1∧D v1 H1)):=
    ⟨hs.defers,v,hr a w' hs hm',.inl ⟨v,H'',rfl,hsub.use hm',hR⟩⟩
   rcases he with rfl|rfl<;>exact hp
  ·
   exact ⟨hs.defers,.inr ⟨v,H'',rfl,hsub.use hm',hD⟩⟩
end
section
variable {P:Program} {n:Fr} {w0:World} {Q:bI} {s:az} {H:List Blk} {l rest:List Oper} {ty:TypeId} {p:String} {af:Array Edge}
theorem zY {t lo hi:Nat} {a:ByteArray} {x q r:Operand} {k k' :IntKind} [ht:Und P t .string] (hx:ev s x=some (.string a)) (hr:ev s r=some (.int k' (lo:Nat))) (hq:ev s q=some (.int k (hi:Nat))) (h1:lo≤hi) (h2:hi≤a.size):
  VOp P w0 s H (.slice t x (some r) (some q) none) ty (.string (a.extract lo hi)):=fun ρ w _ _ _ _ hρ _=>by
 simp [execOp,hρ x _ hx,hρ q _ hq,hρ r _ hr,Instr.sliceAt,run_underlying ht.out,Instr.slice,Instr.sliceBounds,Instr.sliceBound,asIntOf,h2,h1]
theorem qN {t lo:Nat} {a:ByteArray} {x r:Operand} {k' :IntKind} [ht:Und P t .string] (hx:ev s x=some (.string a)) (hr:ev s r=some (.int k' (lo:Nat))) (h1:lo≤a.size):
  VOp P w0 s H (.slice t x (some r) none none) ty (.string (a.extract lo a.size)):=fun ρ w _ _ _ _ hρ _=>by
 simp [execOp,hρ x _ hx,hρ r _ hr,Instr.sliceAt,run_underlying ht.out,Instr.slice,Instr.sliceBounds,Instr.sliceBound,asIntOf,h1]
theorem J0 {x y:Operand} {a b:ByteArray} {t t' :TypeId} (hx:ev s x=some (.string a)) (hy:ev s y=some (.string b)) (h:a.size+b.size≤maxLen):VOp P w0 s H (.binOp .add t x y t') ty (.string (a++b)):=fun ρ w _ _ _ _ hρ _=>by
 simp only [maxLen] at h
 simp [execOp,hρ x _ hx,hρ y _ hy,eqGuard,binOp,Op.stringOp]
 omega
theorem xb {x:Operand} {t:TypeId} {v:Value} {d:TypeDesc} [ht:Und P t d] (hd: ∀ m,d≠ .interface m) (hx:ev s x=some v):VOp P w0 s H (.makeInterface t x) ty (.iface t v):=fun ρ w _ _ _ _ hρ _=>by
 cases d<;>first|(exact absurd rfl (hd _))|simp [execOp,hρ x _ hx,Instr.makeInterface,run_underlying ht.out]
end
def rH {κ:Type} (enc:κ→Value) (e:κ × Value × Nat):MapEntry:={ key:=enc e.1,val:=e.2.1,born:=e.2.2 }
def lY {κ:Type} (enc:κ→Value) (es:List (κ × Value × Nat)) (clock:Nat):Obj:= .map (es.map (rH enc)).toArray clock
structure MapOk {κ:Type} (es:List (κ × Value × Nat)) (clock:Nat):Prop where
 born:(es.map fun e=>e.2.2).Nodup
 old: ∀ e∈es,e.2.2<clock
 keys:(es.map fun e=>e.1).Nodup
def kI {κ:Type} [DecidableEq κ] (k:κ):List (κ × Value × Nat)→Nat→Option (Nat × Value)
 | [],_=>none
 |e::es,i=>if k=e.1 then some (i,e.2.1) else kI k es (i+1)
class KLaw (P:Program) (K:TypeId) {κ:Type} [DecidableEq κ] (enc:κ→Value):Prop where
 check: ∀ e k w,(Instr.checkKey e 10000 K (enc k)).run P w= .ok () w
 find: ∀ k (es:List (κ × Value × Nat)) w,(Instr.findKey K (enc k) (es.map (rH enc))).run P w= .ok (kI k es 0) w
 stays: ∀ k w,(Instr.keyThatStays (enc k) (enc k)).run P w= .ok (enc k) w
def wn {κ:Type} [DecidableEq κ] (k:κ) (v:Value) (clock:Nat) (es:List (κ × Value × Nat)):List (κ × Value × Nat) × Nat:=
 match kI k es 0 with
 |some (i,_)=>(es.modify i fun e=>(k,v,e.2.2),clock)
 |none=>(es++ [(k,v,clock)],clock+1)
theorem uE {κ:Type} [DecidableEq κ] {k:κ}: ∀ {es:List (κ × Value × Nat)} {i j:Nat} {v:Value},kI k es i=some (j,v)→ ∃ b,i≤j∧es[j - i]? =some (k,v,b)
 | [],i,j,v,h=>by cases h
 |e::es,i,j,v,h=>by
  simp only [kI] at h
  split at h
  ·
   rename_i hk
   obtain ⟨rfl,rfl⟩:=Prod.mk.inj (Option.some.inj h)
   exact ⟨e.2.2,LK _,by simp [hk]⟩
  ·
   obtain ⟨b,h1,h2⟩:=uE h
   refine ⟨b,by omega,?_⟩
   rw [show j - i=(j - (i+1))+1 by omega,List.getElem?_cons_succ]
   exact h2
section
variable {P:Program} {n:Fr} {w0:World} {Q:bI} {s:az} {H:List Blk} {l rest:List Oper} {ty:TypeId} {p:String} {af:Array Edge} {κ:Type} [DecidableEq κ] {enc:κ→Value}
theorem zM {κ' :Type} {d t:Nat} {ops:Array Oper} (hn:Nat.blt d n.sz=true) (enc:κ' →Value)
  (k: ∀ g,WL P n w0 ops rest Q ((d,.map (some g))::s) (.obj g (lY enc [] 0)::H)):WL P n w0 ops (⟨some d,.makeMap t none,ty,p,af,none⟩::rest) Q s H:=by
 refine oH (B:=fun g=> .obj g (lY enc [] 0)) (v:=fun g=> .map (some g)) hn (fun st w hs hm=> ?_) k
 exact ⟨w.alloc (.map #[] 0),rfl,World.grownBy_alloc w _ none,heap_alloc_new w _,rfl⟩
theorem Mem.obj_at {w:World} {g:Nat} {o:Obj} (hm:Mem w0 w H) (hi:In (.obj g o) H):w.heap[g]? =some o:=(hm.on _ hi.mem).1
theorem Fz {P:Program} {E:TypeId} {z:Value} [hz:Zero P E z] (w:World):(zeroValue E).run P w= .ok z w:=by
 obtain ⟨i,h1,h2⟩:=hz.out
 simp [zeroValue,typeInfo,h1,h2]
theorem zW {t K E g clock:Nat} {x ix:Operand} {k:κ} {es:List (κ × Value × Nat)} {z u:Value} [ht:Und P t (.map K E)] [hk:KLaw P K enc] [hz:Zero P E z] (hx:ev s x=some (.map (some g))) (hi:ev s ix=some (enc k)) (hin:In (.obj g (lY enc es clock)) H)
  (hu:(match kI k es 0 with|some (_,v)=>Value.tuple #[v,.bool true]|none=> .tuple #[z,.bool false])=u):VOp P w0 s H (.lookup t x ix true) ty u:=fun ρ w _ _ _ _ hρ hm=>by
 have hb:=hm.obj_at hin
 have hf:=hk.find k es w
 have hc:=hk.check (es.map (rH enc)).toArray.isEmpty k w
 subst hu
 simp only [lY] at hb
 have hL:(Instr.lookup t (.map (some g)) (enc k) true).run P w= .ok (match kI k es 0 with|some (_,v)=>Value.tuple #[v,.bool true]|none=> .tuple #[z,.bool false]) w:=by
  simp only [Instr.lookup,Sem.run_bind,run_underlying ht.out,Result.andThen_ok,MapKept.run_getObj_map hb,hc,hf,Sem.run_pure]
  cases h:kI k es 0 with
  |none=>simp only [Sem.run_bind,Fz w,Result.andThen_ok,Sem.run_pure,if_true]
  |some r=>rfl
 simp only [execOp,hρ x _ hx,hρ ix _ hi,Sem.run_bind,hL,Result.andThen_ok,Sem.run_pure]
theorem vN (w:World) (g:Nat) (o:Obj):w.grownBy { w with heap:=w.heap.setIfInBounds g o } (some g):=
 ⟨rfl,rfl,rfl,by simp,fun k _ hk=>by
  have hne:g≠k:=fun e=>hk (by rw [← e])
  simp [Nu hne]⟩
theorem DC {w:World} {g:Nat} {o o' :Obj} (h:w.heap[g]? =some o):(w.heap.setIfInBounds g o')[g]? =some o' :=by
 have:g<w.heap.size:=(Mb.1 h).1
 simp [this]
theorem tA {t K E g clock:Nat} {k:κ} {v:Value} {es:List (κ × Value × Nat)} {w:World} [ht:Und P t (.map K E)] [hk:KLaw P K enc] (hb:w.heap[g]? =some (lY enc es clock)):
  (Instr.mapUpdate t (.map (some g)) (enc k) v).run P w= .ok () { w with heap:=w.heap.setIfInBounds g (lY enc (wn k v clock es).1 (wn k v clock es).2) }:=by
 have hf:=hk.find k es w
 have hc:=hk.check false k w
 simp only [lY] at hb
 cases h:kI k es 0 with
 |none=>
  rw [h] at hf
  simp [Instr.mapUpdate,run_underlying ht.out,getObj,setObj,Sem.run,hb,hc,hf,Result.andThen,wn,h,lY,rH]
 |some r=>
  obtain ⟨i,u⟩:=r
  rw [h] at hf
  obtain ⟨b,_,hi⟩:=uE h
  rw [Np] at hi
  have hkey:(((es.map (rH enc)).toArray[i]?).map (·.key)).getD (enc k)=enc k:=by simp [hi,rH]
  have hst:=hk.stays k w
  have he:((es.map (rH enc)).toArray.modify i fun e=>{ e with key:=enc k,val:=v })=((es.modify i fun e=>(k,v,e.2.2)).map (rH enc)).toArray:=by
   apply Array.ext'
   simp only [Array.toList_modify]
   apply List.ext_getElem?
   intro j
   simp only [List.getElem?_modify,MD]
   cases es[j]? <;>simp [rH]<;>split<;>rfl
  simp only [Instr.mapUpdate,Sem.run_bind,run_underlying ht.out,Result.andThen_ok,getObj,setObj,Sem.run,hb,hc,hf,hkey,hst,he]
  simp [wn,h,lY]
theorem Db {t K E g clock:Nat} {m x kx:Operand} {k:κ} {v:Value} {es:List (κ × Value × Nat)} {R:List Blk} {ops:Array Oper} [ht:Und P t (.map K E)] [hk:KLaw P K enc] (hm:ev s m=some (.map (some g))) (hkx:ev s kx=some (enc k)) (hx:ev s x=some v) (hsel:Sel (.obj g (lY enc es clock)) H R)
  (h:WL P n w0 ops rest Q s (.obj g (lY enc (wn k v clock es).1 (wn k v clock es).2)::R)):WL P n w0 ops (⟨none,.insert t m kx x,ty,p,af,none⟩::rest) Q s H:=by
 refine qc (fun a w hs hmm=> ?_) h
 have hm' :=hmm.sel hsel
 have hb:=(hm'.on _ LI).1
 refine ⟨_,?_,hm'.upd (vN w g _) (b' := .obj g _) (DC hb) fun k hk=> .inl hk⟩
 simp [execOp,hs.eval m _ hm,hs.eval x _ hx,hs.eval kx _ hkx,tA (P:=P) (t:=t) (K:=K) (E:=E) (k:=k) (v:=v) hb]
end
theorem rR {α β:Type} (f:α→β): ∀ {l:List α},(l.map f).Nodup→ ∀ {x y:α},x∈l→y∈l→f x=f y→x=y
 |a::l,h,x,y,hx,hy,e=>by
  have h' :=List.nodup_cons.1 h
  rcases L7.1 hx with hx|hx<;>rcases L7.1 hy with hy|hy
  ·
   rw [hx,hy]
  ·
   exact absurd (Nk.2 ⟨y,hy,by rw [← e,hx]⟩) h'.1
  ·
   exact absurd (Nk.2 ⟨x,hx,by rw [e,hy]⟩) h'.1
  ·
   exact rR f h'.2 hx hy e
theorem Gc {P:Program} {K:TypeId} {q:IntKind} [hK:Und P K (.int q)]:KLaw P K (fun z:Int=>Value.int q z):={
 check:=fun e k w=>by
  have h: ∀ m,(Instr.checkKey e (m+1) K (.int q k)).run P w= .ok () w:=fun m=>by simp only [Instr.checkKey,Sem.run_bind,run_underlying hK.out,Result.andThen_ok,Sem.run_pure]
  exact h 9999
 find:=fun k es w=>by
  have h: ∀ (es:List (Int × Value × Nat)) (i:Nat),Instr.findNow (.int q) (.int q k) (es.map (rH fun z:Int=>Value.int q z)) i=some (kI k es i):=by
   intro es
   induction es with
   |nil=>intro i;rfl
   |cons e es ih=>
    intro i
    have hb:(k==e.1)=decide (k=e.1):=by rw [Mp];simp
    simp only [Mh,Instr.findNow,rH,Instr.sameNow,if_true,kI,hb]
    by_cases hk:k=e.1
    ·
     simp [hk]
    ·
     simp only [decide_eq_false hk,hk,if_false]
     exact ih _
  simp only [Instr.findKey,Sem.run_bind,run_underlying hK.out,Result.andThen_ok,h,Sem.run_pure]
 stays:=fun k w=>by
  have h:Instr.sameBits 10000 (.int q k) (.int q k)=true:=by unfold Instr.sameBits;simp
  simp only [Instr.keyThatStays,h,if_true,Sem.run_pure] }
end Go.SL
namespace Go.SL
open Go
theorem wo (b:ByteArray) (i j:Nat):ap (b.extract i j)=((ap b).drop i).take (j - i):=by
 simp only [ap,ByteArray.data_extract,Array.toList_extract,List.extract_eq_take_drop,List.map_take,List.map_drop]
def fX (l:List Int):Prop:= ∀ c∈l,0≤c∧c<256
theorem kC (b:ByteArray):fX (ap b):=by
 intro c hc
 simp only [ap,Nk] at hc
 obtain ⟨u,_,rfl⟩:=hc
 have:=u.toNat_lt
 omega
theorem ll {l:List Int} (h:fX l):ap (mkB l)=l:=by
 simp only [ap,mkB,Om]
 conv=>rhs;rw [← List.map_id l]
 apply Na
 intro c hc
 have:=h c hc
 simp only [Function.comp,id_eq,UInt8.toNat_ofNat']
 omega
theorem jS (b:ByteArray):mkB (ap b)=b:=by
 apply ByteArray.ext
 apply Array.ext'
 simp only [mkB,ap,Om]
 conv=>rhs;rw [← List.map_id b.data.toList]
 apply Na
 intro c _
 simp [Function.comp]
theorem rP {a b:ByteArray} (h:ap a=ap b):a=b:=by rw [← jS a,← jS b,h]
theorem F4 {b:ByteArray} {l:List Int} (h:ap b=l):b=mkB l:=by rw [← h,jS]
theorem bM (p:Int→Bool): ∀ l,aB p l≤l.length
 | []=>LK _
 |c::r=>by
  simp only [aB]
  split
  ·
   have:=bM p r;simp;omega
  ·
   exact LS _
theorem nn {p:Int→Bool} {l:List Int} {i:Nat} (h:l.length≤i):aB p (l.drop i)=0:=by
 rw [L6 h];rfl
theorem iQ {p:Int→Bool}: ∀ (l:List Int) (i:Nat) (c:Int),i<aB p l→l[i]? =some c→p c=true
 | [],i,c,h,_=>by simp [aB] at h
 |a::r,i,c,h,hc=>by
  simp only [aB] at h
  split at h
  ·
   rename_i ha
   cases i with
   |zero=>simp at hc;subst hc;exact ha
   |succ i=>exact iQ r i c (by omega) (by simpa using hc)
  ·
   omega
end Go.SL
namespace Go.SL
open Go Go.RowKit
def bat (a:ByteArray) (i:Nat):Int:=(ap a).getD i 0
def sub (a:ByteArray) (lo hi:Nat):ByteArray:=a.extract lo hi
theorem dD (a:ByteArray) (lo hi:Nat):ap (sub a lo hi)=((ap a).drop lo).take (hi - lo):=wo a lo hi
theorem bQ (a:ByteArray) {lo hi:Nat} (h:hi≤a.size):(sub a lo hi).size=hi - lo:=by simp [sub];omega
theorem lS (a:ByteArray) (lo:Nat):ap (sub a lo a.size)=(ap a).drop lo:=by
 rw [dD,Mm]
 simp [au]
theorem qm (a:ByteArray) (hi:Nat):ap (sub a 0 hi)=(ap a).take hi:=by
 rw [dD,MP,Np]
theorem fu {a:ByteArray} {i:Nat} (h:i<a.size):(ap a)[i]? =some (bat a i):=by
 have hl:i<(ap a).length:=by rw [au];exact h
 rw [bat,LW,LF hl]
 rfl
theorem pd (a:ByteArray) (i:Nat):0≤bat a i∧bat a i<256:=by
 rw [bat,LW]
 cases h:(ap a)[i]? with
 |none=>simp
 |some c=>exact kC a c (List.mem_of_getElem? h)
theorem ba {a:ByteArray} {i:Nat} (h:i<a.size):(ap a).drop i=bat a i::(ap a).drop (i+1):=by
 have hl:i<(ap a).length:=by rw [au];exact h
 rw [LJ hl]
 have:=fu h
 rw [LF hl] at this
 rw [Option.some.inj this]
theorem rQ:ap av= []:=rfl
theorem Ge {a:ByteArray}:ap a= []↔a=av:=⟨fun h=>rP (h.trans rQ.symm),fun h=>by rw [h];rfl⟩
theorem fH (a b:ByteArray):ap (a++b)=ap a++ap b:=by simp [ap]
section
variable {P:Program} {n:Fr} {w0:World} {Q:bI} {s:az} {H:List Blk} {l rest:List Oper} {ty:TypeId} {p:String} {af:Array Edge}
theorem aU {x ix:Operand} {t j:Nat} {a:ByteArray} {k:IntKind} [ht:Und P t .string] (hx:ev s x=some (.string a)) (hi:ev s ix=some (.int k (j:Nat))) (hj:j<a.size):VOp P w0 s H (.index t x ix) ty (.int .u8 (bat a j)):=by
 have h:=px (P:=P) (w0:=w0) (H:=H) (ty:=ty) (t:=t) hx hi hj
 have e:((a[j]'hj).toNat:Int)=bat a j:=by
  have h1:=fu hj
  have h2:=nO a j hj
  rw [LF (by rw [au];exact hj),h2] at h1
  exact Option.some.inj h1
 rw [← e];exact h
theorem JW {x ix:Operand} {t:Nat} {a:ByteArray} {k:IntKind} [ht:Und P t .string] (hx:ev s x=some (.string a)) (hi:ev s ix=some (.int k 0)) (hj:0<a.size):VOp P w0 s H (.index t x ix) ty (.int .u8 (bat a 0)):=aU (j:=0) hx hi hj
theorem eO {t lo hi:Nat} {a:ByteArray} {x q r:Operand} {k k' :IntKind} [ht:Und P t .string] (hx:ev s x=some (.string a)) (hr:ev s r=some (.int k' (lo:Nat))) (hq:ev s q=some (.int k (hi:Nat))) (h:lo≤hi∧hi≤a.size):
  VOp P w0 s H (.slice t x (some r) (some q) none) ty (.string (sub a lo hi)):=zY hx hr hq h.1 h.2
theorem qG {t lo:Nat} {a:ByteArray} {x r:Operand} {k' :IntKind} [ht:Und P t .string] (hx:ev s x=some (.string a)) (hr:ev s r=some (.int k' (lo:Nat))) (h1:lo≤a.size):
  VOp P w0 s H (.slice t x (some r) none none) ty (.string (sub a lo a.size)):=qN hx hr h1
theorem HM {t:Nat} {a:ByteArray} {x r:Operand} {k' :IntKind} [ht:Und P t .string] (hx:ev s x=some (.string a)) (hr:ev s r=some (.int k' 1)) (h1:1≤a.size):
  VOp P w0 s H (.slice t x (some r) none none) ty (.string (sub a 1 a.size)):=qN (lo:=1) hx hr h1
theorem zS {t hi:Nat} {a:ByteArray} {x q:Operand} {k:IntKind} [ht:Und P t .string] (hx:ev s x=some (.string a)) (hq:ev s q=some (.int k (hi:Nat))) (h2:hi≤a.size):
  VOp P w0 s H (.slice t x none (some q) none) ty (.string (sub a 0 hi)):=Dr hx hq h2
theorem iI {x y:Operand} {a b c:ByteArray} {t t' :TypeId} (hx:ev s x=some (.string a)) (hy:ev s y=some (.string b)) (e:a++b=c) (h:a.size+b.size≤1000000000):VOp P w0 s H (.binOp .add t x y t') ty (.string c):=e ▸ J0 hx hy (by simp only [maxLen];omega)
theorem zU {x y:Operand} {k:IntKind} {a b:Int} {t t' :TypeId} (hx:ev s x=some (.int k a)) (hy:ev s y=some (.int k b)):VOp P w0 s H (.binOp .mul t x y t') ty (.int k (k.wrap (a*b))):=fun ρ w _ _ _ _ hρ _=>by
 simp [execOp,hρ x _ hx,hρ y _ hy,eqGuard,binOp,Op.intArith]
theorem bJ {x:Operand} {k k' :IntKind} {a c:Int} {t t' :TypeId} {d:TypeDesc} [hs:Und P t d] [hd:Und P t' (.int k')] (hx:ev s x=some (.int k a)) (hw:k'.wrap a=c):VOp P w0 s H (.convert t t' x) ty (.int k' c):=hw ▸ zZ hx
theorem qH {x:Operand} {A:Addr} (hx:ev s x=some (.pointer (some A))):VOp P w0 s H (.nilCheck x) ty (.pointer (some A)):=fun ρ w _ _ _ _ hρ _=>by
 simp [execOp,hρ x _ hx]
theorem vB {ι:Type} {id:Nat} {ops:Array Oper} {d:Bool} {y z:Code} (sI:ι→az) (HI:ι→List Blk) (ok:ι→Prop) (h:W P n w0 (.seq (.region id ops d) y) (bS sI HI ok Q) s H) (k: ∀ i,ok i→W P n w0 z Q (sI i) (HI i)):
  W P n w0 (.seq (.region id ops d) y) (thn (W P n w0 z Q) Q) s H:=
 mC _ _ _ h k
theorem qD {ι:Type} {id:Nat} {ops:Array Oper} {d:Bool} {z:Code} (sI:ι→az) (HI:ι→List Blk) (ok:ι→Prop) (h:W P n w0 (.region id ops d) (bS sI HI ok Q) s H) (k: ∀ i,ok i→W P n w0 z Q (sI i) (HI i)):
  W P n w0 (.region id ops d) (thn (W P n w0 z Q) Q) s H:=
 mC _ _ _ h k
theorem Ch {ι:Type} {sb:az} {id:Nat} {ops:Array Oper} {d:Bool} {y z:Code} (ts:List Nat) (hk:yH s ts=some sb) (sI:ι→az) (HI:ι→List Blk) (ok:ι→Prop) (h:W P n w0 (.seq (.region id ops d) y) (bS (fun i=>sI i++sb) HI ok Q) s H) (k: ∀ i,ok i→W P n w0 z Q (sI i++sb) (HI i)):
  W P n w0 (.seq (.region id ops d) y) (thn (W P n w0 z Q) Q) s H:=
 mC _ _ _ h k
end
end Go.SL

/-
  Lemmas and walks, put together: Sl4 Sl5 Sl6 Sv Sl7 W12 W10 Sl12 Sl32 Sl10.
-/
import Derived.Deep.AppendSrc
import Derived.Test.YthgjiibbmkiplaaGreatDoorKw01
set_option linter.unusedSimpArgs false
set_option linter.unusedVariables false
set_option maxRecDepth 20000
namespace Go.SL
open Go Go.RowKit
def FnAt (P:Program) (f:FuncId) (args:List Value) (w:World) (R:Value→List Blk→Prop):Prop:=
 Calls P f args.toArray w fun e w' => ∃ v H',e= .returned v∧Mem w w' H' ∧R v H'
def aL (P:Program) (f:FuncId) (args:List Value) (w:World) (v:Value):Prop:=FnAt P f args w fun u _=>u=v
def FnIn (P:Program) (f:FuncId) (args:List Value) (w0:World) (H:List Blk) (R:Value→List Blk→Prop):Prop:=
 ∀ w,Mem w0 w H→Calls P f args.toArray w fun e w' => ∃ v H',e= .returned v∧Mem w0 w' H' ∧R v H'
theorem FnAt.mono {P:Program} {f:FuncId} {args:List Value} {w:World} {R R' :Value→List Blk→Prop} (h:FnAt P f args w R) (hr: ∀ v H,R v H→R' v H):FnAt P f args w R' :=
 Calls.mono h fun _ _ ⟨v,H',h1,h2,h3⟩=>⟨v,H',h1,h2,hr _ _ h3⟩
theorem FnIn.mono {P:Program} {f:FuncId} {args:List Value} {w0:World} {H:List Blk} {R R' :Value→List Blk→Prop} (h:FnIn P f args w0 H R) (hr: ∀ v H,R v H→R' v H):FnIn P f args w0 H R' :=
 fun w hm=>Calls.mono (h w hm) fun _ _ ⟨v,H',h1,h2,h3⟩=>⟨v,H',h1,h2,hr _ _ h3⟩
theorem FnIn.of_at {P:Program} {f:FuncId} {args:List Value} {w0:World} {H:List Blk} {R:Value→List Blk→Prop} (h: ∀ w,Mem w0 w H→FnAt P f args w R):
 FnIn P f args w0 H fun v H' => ∃ H1,R v H1∧H' =H1++H:=
 fun w hm=>Calls.mono (h w hm) fun _ _ ⟨v,H',h1,h2,h3⟩=>⟨v,H' ++H,h1,hm.call h2,H',h3,rfl⟩
def evs (s:az):List Operand→Option (List Value)
 | []=>some []
 |x::r=>match ev s x,evs s r with
  |some v,some vs=>some (v::vs)
  |_,_=>none
section
variable {P:Program} {n:Fr} {w0:World} {Q:bK} {s:az} {H:List Blk} {l rest:List Oper} {ty:TypeId} {p:String} {af:Array Edge}
theorem iX {a:Act} (hs:St n s a): ∀ {xs:List Operand} {vs:List Value},evs s xs=some vs→xs.map a.eval=vs
 | [],vs,h=>by simp only [evs,Option.some.injEq] at h;simp [← h]
 |x::r,vs,h=>by
  simp only [evs] at h;split at h
  ·rename_i v vs' hv hvs;simp only [Option.some.injEq] at h;rw [← h,XD,iX hs hvs,hs.eval x v hv]
  ·cases h
theorem ma {ρ:Operand→Value} {w:World} {d:Option Tmp} {g:Option (Nat × Bool)} {f:FuncId} {c:Operand} {xs:List Operand} {vs caps:List Value} {ts:Array TypeId} [hf:Callable P f] (hc:ρ c= .func (.func f) #[] caps.toArray) (hx:xs.map ρ=vs):
 (execOp ρ ⟨d,.call { callee:= .value c,args:=xs.toArray,argTypes:=ts },ty,p,af,g⟩).run P w= .ok (.enter f (vs++caps).toArray) w:=by
 simp [execOp,resolve,hc,Deferred.ofValue,invoke,← hx,hf.out]
theorem aj {d:Nat} {ops:Array Oper} {f:FuncId} {xs:List Operand} {vs:List Value} {ts:Array TypeId} {R:Value→List Blk→Prop} [Callable P f] (hn:Nat.blt d n.sz=true) (hx:evs s xs=some vs)
 (hF:FnIn P f vs w0 H R) (k: ∀ v H',R v H' →WL P n w0 ops rest Q ((d,v)::s) H'):
 WL P n w0 ops (⟨some d,.call { callee:= .value (.func f),args:=xs.toArray,argTypes:=ts },ty,p,af,none⟩::rest) Q s H:=by
 intro a w hs hm;refine wpList_plain rfl fun K hK=> ?_;have hr:=ma (P:=P) (w:=w) (ρ:=a.eval) (d:=some d) (ty:=ty) (p:=p) (af:=af) (g:=none) (f:=f) (c:= .func f) (xs:=xs) (caps:= []) (ts:=ts) rfl (iX hs hx);rw [Xm] at hr;simp only [Oper.wp,hr,Oper.upon];refine (hF w hm).mono ?_;rintro e w' ⟨v,H',rfl,hm',hR⟩;exact hK _ _ (k v H' hR _ _ (hs.put (Yg ▸ hn) _) hm')
theorem fK {d:Nat} {ops:Array Oper} {f:FuncId} {c:Operand} {xs:List Operand} {vs caps:List Value} {ts:Array TypeId} {R:Value→List Blk→Prop} (hn:Nat.blt d n.sz=true) (hc:ev s c=some (.func (.func f) #[] caps.toArray)) (hfc:Callable P f) (hx:evs s xs=some vs)
 (hF:FnIn P f (vs++caps) w0 H R) (k: ∀ v H',R v H' →WL P n w0 ops rest Q ((d,v)::s) H'):
 WL P n w0 ops (⟨some d,.call { callee:= .value c,args:=xs.toArray,argTypes:=ts },ty,p,af,none⟩::rest) Q s H:=by
 intro a w hs hm;refine wpList_plain rfl fun K hK=> ?_;have hr:=ma (P:=P) (w:=w) (ρ:=a.eval) (d:=some d) (ty:=ty) (p:=p) (af:=af) (g:=none) (f:=f) (c:=c) (xs:=xs) (caps:=caps) (ts:=ts) (hs.eval c _ hc) (iX hs hx);simp only [Oper.wp,hr,Oper.upon];refine (hF w hm).mono ?_;rintro e w' ⟨v,H',rfl,hm',hR⟩;exact hK _ _ (k v H' hR _ _ (hs.put (Yg ▸ hn) _) hm')
theorem aw {d:Nat} {ops:Array Oper} {f:FuncId} {xs:List Operand} {vs:List Value} {ts:Array TypeId} {R:Value→List Blk→Prop} [Callable P f] (hn:Nat.blt d n.sz=true) (hx:evs s xs=some vs)
 (hF: ∀ w,Mem w0 w H→FnAt P f vs w R) (k: ∀ v H',R v H' →WL P n w0 ops rest Q ((d,v)::s) (H' ++H)):
 WL P n w0 ops (⟨some d,.call { callee:= .value (.func f),args:=xs.toArray,argTypes:=ts },ty,p,af,none⟩::rest) Q s H:=
 aj hn hx (FnIn.of_at hF) fun v _ ⟨H1,h1,h2⟩=>h2 ▸ k v H1 h1
theorem aa {d:Nat} {ops:Array Oper} {f:FuncId} {xs:List Operand} {vs:List Value} {v:Value} {ts:Array TypeId} [Callable P f] (hn:Nat.blt d n.sz=true) (hx:evs s xs=some vs)
 (hF: ∀ w,Mem w0 w H→aL P f vs w v) (k:WL P n w0 ops rest Q ((d,v)::s) H):
 WL P n w0 ops (⟨some d,.call { callee:= .value (.func f),args:=xs.toArray,argTypes:=ts },ty,p,af,none⟩::rest) Q s H:=
 aw hn hx (R:=fun u _=>u=v) hF fun u H' e=>by
  subst e;exact Cg ⟨H',X6⟩ k
def Res (P:Program) (fn:Func) (n:Fr) (w0:World) (s:az) (H:List Blk) (v:Value):Prop:=
 ∀ a w,St n s a→Mem w0 w H→(results fn a.tmps).run P w= .ok v w
def aY (P:Program) (fn:Func) (n:Fr) (w0:World) (R:Value→List Blk→Prop):bK:=fun e s H=>(e= .ret∨e= .normal)∧ ∃ v H',MSub H' H∧Res P fn n w0 s H v∧R v H'
def uD:List Value→Nat→az
 | [],_=> []
 |v::r,k=>(k,v)::uD r (k+1)
theorem mE (args:List Value) (k t:Nat):look (uD args k) t=if k≤t then args[t - k]? else none:=by
 induction args generalizing k with
 |nil=>simp [uD,look]
 |cons v r ih=>
  simp only [uD];rw [js,ih];by_cases h:k=t
  ·subst h;simp
  ·rw [if_neg h];by_cases h2:k≤t
   ·rw [if_pos h2,if_pos (by omega),show t - k=(t - (k+1))+1 by omega,List.getElem?_cons_succ]
   ·rw [if_neg h2,if_neg (by omega)]
theorem bI {m:Nat} {f:FuncId} {fn:Func} {c:Code} {args:List Value} {R:Value→List Blk→Prop} (hf:P.funcs[f]? =some fn) (hb:fn.body=some c) (hn:fn.ntmps=m) (hle:Nat.ble args.length m=true)
 (h:W P ⟨m,[]⟩ w0 c (aY P fn ⟨m,[]⟩ w0 R) (uD args 0) H):FnIn P f args w0 H R:=by
 intro w hm;have hle' :args.length≤m:=by simpa using hle
 refine calls_of_wp hf hb (wp_mono (h { tmps:=args.toArray++Array.replicate (fn.ntmps - args.toArray.size) undef,defers:= [] } w ⟨?_,rfl,?_⟩ hm) ?_)
 ·simp [hn];omega
 ·intro t v ht;rw [mE] at ht;simp only [Xn,if_true,YC] at ht;have hlt:t<args.length:=(XJ.1 ht).1;rw [Yy (by simpa using hlt)];simpa using ht
 ·rintro e a w' ⟨s',H',hs,hm',he,v,H'',hsub,hr,hR⟩;have hp:a.defers= []∧ ∃ v,(results fn a.tmps).run P w' = .ok v w' ∧ ∃ v1 H1,Ending.returned v= .returned v1∧Mem w0 w' H1∧R v1 H1:=
   ⟨hs.defers,v,hr a w' hs hm',v,H'',rfl,hsub.use hm',hR⟩
  rcases he with rfl|rfl<;>exact hp
theorem aB {m:Nat} {f:FuncId} {fn:Func} {c:Code} {args:List Value} {w:World} {R:Value→List Blk→Prop} (hf:P.funcs[f]? =some fn) (hb:fn.body=some c) (hn:fn.ntmps=m) (hle:Nat.ble args.length m=true)
 (h:W P ⟨m,[]⟩ w c (aY P fn ⟨m,[]⟩ w R) (uD args 0) []):FnAt P f args w R:=bI hf hb hn hle h w (Mem.refl w)
section res
variable {fn:Func} {R:Value→List Blk→Prop} {e:Exit}
theorem fJ (he:e= .ret∨e= .normal) (hr:fn.results= #[]) {H' :List Blk} (hs:MSub H' H) (h:R (.tuple #[]) H'):aY P fn n w0 R e s H:=
 ⟨he,_,H',hs,fun a w _ _=>by simp [results,hr],h⟩
theorem bo (he:e= .ret∨e= .normal) {t:Tmp} {v:Value} (hr:fn.results= #[.tmp t]) (hv:look s t=some v) {H' :List Blk} (hs:MSub H' H) (h:R v H'):aY P fn n w0 R e s H:=
 ⟨he,v,H',hs,fun a w hst _=>by
  have:=hst.has t v hv;simp [results,hr,XZ,this],h⟩
theorem di (he:e= .ret∨e= .normal) {t u:Tmp} {v x:Value} (hr:fn.results= #[.tmp t,.tmp u]) (hv:look s t=some v) (hx:look s u=some x) {H' :List Blk} (hs:MSub H' H) (h:R (.tuple #[v,x]) H'):aY P fn n w0 R e s H:=
 ⟨he,_,H',hs,fun a w hst _=>by
  have h1:=hst.has t v hv;have h2:=hst.has u x hx;simp [results,hr,XZ,h1,h2],h⟩
theorem Fu (he:e= .ret∨e= .normal) {t u q:Tmp} {v x y:Value} (hr:fn.results= #[.tmp t,.tmp u,.tmp q]) (hv:look s t=some v) (hx:look s u=some x) (hy:look s q=some y) {H' :List Blk} (hs:MSub H' H) (h:R (.tuple #[v,x,y]) H'):aY P fn n w0 R e s H:=
 ⟨he,_,H',hs,fun a w hst _=>by
  have h1:=hst.has t v hv;have h2:=hst.has u x hx;have h3:=hst.has q y hy;simp [results,hr,XZ,h1,h2,h3],h⟩
end res
def WQ (P:Program) (n:Fr) (w0:World) (ops:Array Oper) (rest:List Oper) (K:az→Prop) (s:az) (H:List Blk):Prop:=
 ∀ a,St n s a→wpQuiet P ops (fun w=>Mem w0 w H) (fun a' => ∃ s',St n s' a' ∧K s') rest a
theorem kM {id:Nat} (hm:P.follows .mixedOrders=true) (hB:Region.lexB .any l.toArray=true) (h:WQ P n w0 l.toArray l (fun s' =>Q .normal s' H) s H):W P n w0 (.region id l.toArray true) Q s H:=by
 intro a w hs hmem;refine wp_region_quiet (C:=fun w=>Mem w0 w H) hm hB hmem.drew ?_;have h1:=h a hs;have mono: ∀ (r:List Oper) (a:Act) (K K' :Act→Prop),(∀ a,K a→K' a)→wpQuiet P l.toArray (fun w=>Mem w0 w H) K r a→wpQuiet P l.toArray (fun w=>Mem w0 w H) K' r a:=by
  intro r
  induction r with
  |nil=>intro a K K' hk h;exact hk _ h
  |cons o r ih=>
   intro a K K' hk h;unfold wpQuiet at h ⊢;split
   ·rename_i hw;rw [if_pos hw] at h;exact Oper.quiet_mono (fun a' h' =>ih a' K K' hk h') h
   ·rename_i hw;rw [if_neg hw] at h;exact ih _ K K' hk h
 simp only [ZB];exact mono _ _ _ _ (fun a' ⟨s',h2,h3⟩ w' hw' =>⟨s',H,h2,hw',h3⟩) h1
variable {K:az→Prop}
theorem TN {ops:Array Oper} (h:K s):WQ P n w0 ops [] K s H:=fun _ hs=>⟨s,hs,h⟩
theorem aQ {ops:Array Oper} {op:Op} {d:Nat} {v:Value} (hn:Nat.blt d n.sz=true) (hv:VOp P w0 s H op ty v) (k:WQ P n w0 ops rest K ((d,v)::s) H):
 WQ P n w0 ops (⟨some d,op,ty,p,af,none⟩::rest) K s H:=by
 intro a hs;unfold wpQuiet;simp only [Region.wanted,if_true];refine ⟨v,fun w hm=> ?_,k _ (hs.put (Yg ▸ hn) v)⟩;unfold Oper.quietAt;rw [hv a.eval w _ _ _ _ hs.eval hm];exact ⟨rfl,rfl⟩
theorem df {d:Nat} {ops:Array Oper} {f:FuncId} {xs:List Operand} {vs:List Value} {v:Value} {ts:Array TypeId} [Callable P f] (hn:Nat.blt d n.sz=true) (hx:evs s xs=some vs)
 (hF: ∀ w,Mem w0 w H→aL P f vs w v) (k:WQ P n w0 ops rest K ((d,v)::s) H):
 WQ P n w0 ops (⟨some d,.call { callee:= .value (.func f),args:=xs.toArray,argTypes:=ts },ty,p,af,none⟩::rest) K s H:=by
 intro a hs;unfold wpQuiet;simp only [Region.wanted,if_true];refine ⟨v,fun w hm=> ?_,k _ (hs.put (Yg ▸ hn) v)⟩;unfold Oper.quietAt;have hr:=ma (P:=P) (w:=w) (ρ:=a.eval) (d:=some d) (ty:=ty) (p:=p) (af:=af) (g:=none) (f:=f) (c:= .func f) (xs:=xs) (caps:= []) (ts:=ts) rfl (iX hs hx);rw [Xm] at hr;rw [hr];refine ⟨rfl,Calls.mono (hF w hm) ?_⟩;rintro e w' ⟨u,H',rfl,hm',rfl⟩;exact ⟨rfl,(hm.call hm').right⟩
theorem QH {op:Op} {dst:Option Tmp} {j d:Nat} {dg:Bool} (hj:gd l j=some d) (hv:look s d=some (.bool dg))
 (k:WQ P n w0 l.toArray (⟨dst,op,ty,p,af,none⟩::rest) K s H):WQ P n w0 l.toArray (⟨dst,op,ty,p,af,some (j,dg)⟩::rest) K s H:=by
 intro a hs;have h:=k a hs;have hy:=ia hs hj hv;unfold wpQuiet at h ⊢;simp only [Region.wanted,if_true] at h;simp only [Region.wanted,hy,lz,beq_self_eq_true,if_true];exact h
theorem TP {op:Op} {dst j d:Nat} {dg:Bool} {v:Value} (hj:gd l j=some d) (hv:look s d=some v) (hw:lz v≠some dg) (hn:Nat.blt dst n.sz=true)
 (k:WQ P n w0 l.toArray rest K ((dst,undef)::s) H):WQ P n w0 l.toArray (⟨some dst,op,ty,p,af,some (j,dg)⟩::rest) K s H:=by
 intro a hs;have hy:=ia hs hj hv;have:(yielded l.toArray a.tmps j==some dg)=false:=by rw [hy];simpa using hw
 unfold wpQuiet;simp only [Region.wanted,this];exact k _ (hs.put (Yg ▸ hn) _)
theorem KV {op:Op} {dst:Option Tmp} {j d:Nat} {dg b:Bool} (_hj:gd l j=some d) (hv:look s d=some (.bool b))
 (k1:b=true→WQ P n w0 l.toArray (⟨dst,op,ty,p,af,some (j,dg)⟩::rest) K ((d,.bool true)::s) H)
 (k2:b=false→WQ P n w0 l.toArray (⟨dst,op,ty,p,af,some (j,dg)⟩::rest) K ((d,.bool false)::s) H):
 WQ P n w0 l.toArray (⟨dst,op,ty,p,af,some (j,dg)⟩::rest) K s H:=by
 intro a hs
 cases b with
 |true=>exact k1 rfl a (hs.shadow hv)
 |false=>exact k2 rfl a (hs.shadow hv)
end
section
variable {P:Program} {n:Fr} {w0:World} {Q:bK} {s:az} {H:List Blk} {l rest:List Oper} {ty:TypeId} {p:String} {af:Array Edge} {K:az→List Blk→Prop} {id id' :Nat}
theorem Vv (h:K s H):thn K Q .normal s H:=h
theorem Vt (h:Q .ret s H):thn K Q .ret s H:=h
theorem Vw (h:Q (.exit id) s H):thn K Q (.exit id) s H:=h
theorem V8 (h:Q .normal s H):blk id Q .normal s H:=h
theorem V6 (h:Q .ret s H):blk id Q .ret s H:=h
theorem V9 (h:Q .normal s H):blk id Q (.exit id) s H:=by simp only [blk,if_true];exact h
theorem V5 (hne:Nat.beq id' id=false) (h:Q (.exit id') s H):blk id Q (.exit id') s H:=by
 have: ¬ id' =id:=Nat.ne_of_beq_eq_false hne;simp only [blk,if_neg this];exact h
theorem Np {op:Op} {dst j d:Nat} {dg b:Bool} (hj:gd l j=some d) (hv:look s d=some (.bool b)) (hw:(b==dg)=false) (hn:Nat.blt dst n.sz=true)
 (k:WL P n w0 l.toArray rest Q ((dst,undef)::s) H):WL P n w0 l.toArray (⟨some dst,op,ty,p,af,some (j,dg)⟩::rest) Q s H:=
 Nq hj hv (by simpa [lz] using hw) hn k
theorem Nn {op:Op} {dst j d:Nat} {dg:Bool} (hj:gd l j=some d) (hv:look s d=some (.tuple #[])) (hn:Nat.blt dst n.sz=true)
 (k:WL P n w0 l.toArray rest Q ((dst,undef)::s) H):WL P n w0 l.toArray (⟨some dst,op,ty,p,af,some (j,dg)⟩::rest) Q s H:=
 Nq hj hv (by simp [lz]) hn k
theorem Ni {KQ:az→Prop} {op:Op} {dst j d:Nat} {dg b:Bool} (hj:gd l j=some d) (hv:look s d=some (.bool b)) (hw:(b==dg)=false) (hn:Nat.blt dst n.sz=true)
 (k:WQ P n w0 l.toArray rest KQ ((dst,undef)::s) H):WQ P n w0 l.toArray (⟨some dst,op,ty,p,af,some (j,dg)⟩::rest) KQ s H:=
 TP hj hv (by simpa [lz] using hw) hn k
theorem u9 {x:Operand} {t T g off m:Nat} {xs ys:List Value} [Agg P t m] (hx:ev s x=some (.pointer (some ⟨g,off,none⟩))) (hi:In (.box g T xs) H) (hv:wK ((xs.drop off).take m)=some ys) (hl:Nat.beq ys.length m=true):
 VOp P w0 s H (.load t x) ty (.agg ys.toArray):=oF hx hi (jD hv).symm (X7 hl)
theorem EM {x:Operand} {t T g m:Nat} {xs:List Value} [Agg P t m] (hx:ev s x=some (.pointer (some ⟨g,0,none⟩))) (hi:In (.box g T xs) H) (hl:Nat.beq xs.length m=true):
 VOp P w0 s H (.load t x) ty (.agg xs.toArray):=by
 have hm:=X7 hl;exact oF hx hi (by rw [Zl,← hm,XF]) hm
theorem zD {ops:Array Oper} {t T g off:Nat} {x a:Operand} {xs ys:List Value} {v:Value} {R:List Blk} [Size P t 1] (ha:ev s a=some (.pointer (some ⟨g,off,none⟩))) (hx:ev s x=some v)
 (hsel:Sel (.box g T xs) H R) (hv:v.oneCell' =true) (hfit:Nat.blt off xs.length=true) (hn:wK (xs.set off v)=some ys)
 (k:WL P n w0 ops rest Q s (.box g T ys::R)):WL P n w0 ops (⟨none,.store t a x,ty,p,af,none⟩::rest) Q s H:=
 B6 ha hx hsel hv hfit (jD hn ▸ k)
theorem Ea {ops:Array Oper} {t T g off m:Nat} {x a:Operand} {xs vs ys:List Value} {R:List Blk} [Size P t m] (ha:ev s a=some (.pointer (some ⟨g,off,none⟩))) (hx:ev s x=some (.agg vs.toArray))
 (hsel:Sel (.box g T xs) H R) (hl:Nat.beq vs.length m=true) (h1:vs.all Value.oneCell' =true) (hfit:Nat.ble (off+m) xs.length=true) (hn:wK (xs.take off++vs++xs.drop (off+m))=some ys)
 (k:WL P n w0 ops rest Q s (.box g T ys::R)):WL P n w0 ops (⟨none,.store t a x,ty,p,af,none⟩::rest) Q s H:=
 xp ha hx hsel rfl (X7 hl) (by simpa using h1) (by simpa using hfit) (jD hn ▸ k)
end
section
variable {P:Program} {n:Fr} {w0:World} {Q:bK} {s:az} {H:List Blk} {l rest:List Oper} {ty:TypeId} {p:String} {af:Array Edge}
theorem EK {x y:Operand} {k k' :IntKind} {a:Int} {m:Nat} {t t' :TypeId} (hx:ev s x=some (.int k a)) (hy:ev s y=some (.int k' (m:Nat))) (hm:Nat.ble m k.bits=true):
 VOp P w0 s H (.binOp .shr t x y t') ty (.int k (a / 2 ^ m)):=fun ρ w _ _ _ _ hρ _=>by
 have hm' :m≤k.bits:=by simpa using hm
 have h0:(0:Int)≤(m:Int):=by omega
 simp [execOp,hρ x _ hx,hρ y _ hy,eqGuard,binOp,shift_shr_any k k' a m h0,YO hm']
theorem xJ {f:FuncId} {caps:List Operand} {vs:List Value} (hc:evs s caps=some vs):VOp P w0 s H (.makeFunc (.func f) #[] caps.toArray) ty (.func (.func f) #[] vs.toArray):=fun ρ w _ _ _ _ hρ _=>by
 have h: ∀ {xs:List Operand} {vs:List Value},evs s xs=some vs→xs.map ρ=vs:=by
  intro xs
  induction xs with
  |nil=>intro vs h;simp only [evs,Option.some.injEq] at h;simp [← h]
  |cons x r ih=>
   intro vs h;simp only [evs] at h;split at h
   ·rename_i v vs' hv hvs;simp only [Option.some.injEq] at h;rw [← h,XD,ih hvs,hρ x v hv]
   ·cases h
 simp [execOp,Instr.makeFunc,h hc]
def PG (s:az):List (Nat × Operand)→Option (List (Nat × Value))
 | []=>some []
 |(i,x)::r=>match ev s x,PG s r with
  |some v,some vs=>some ((i,v)::vs)
  |_,_=>none
class Struct (P:Program) (t:TypeId) (places:outParam (List (Nat × Nat))) (zs:outParam (List Value)):Prop where
 out: ∃ it z fs,P.info? t=some it∧P.underlying t=some (.struct fs)∧it.zero=some z∧fs.toList.mapM (fun f=>(P.info? f.type).map fun i=>(f.offset,i.size))=some places∧z.cells=zs.toArray
def lW:Value→List Value
 | .agg cs=>cs.toList
 |v=> [v]
theorem BP (v:Value):v.cells.toList=lW v:=by cases v<;>rfl
def Gs (places:List (Nat × Nat)):List Value→List (Nat × Value)→Option (List Value)
 |cells,[]=>some cells
 |cells,(i,v)::r=>match places[i]? with
  |none=>none
  |some (off,size)=>bif Nat.beq (lW v).length size && Nat.ble (off+(lW v).length) cells.length then Gs places (cells.take off++lW v++cells.drop (off+(lW v).length)) r else none
theorem Bs (off:Nat): ∀ (cs:List Value) (k:Nat) (cells:List Value),off+k+cs.length≤cells.length→
 (cs.zipIdx k).foldl (fun (a:Array Value) (x:Value × Nat)=>a.setIfInBounds (off+x.2) x.1) cells.toArray=(cells.take (off+k)++cs++cells.drop (off+k+cs.length)).toArray
 | [],k,cells,h=>by simp
 |c::cs,k,cells,h=>by
  simp only [Xs] at h;have h1:off+k<cells.length:=by omega
  rw [ZY,YV];have hset:(cells.toArray.setIfInBounds (off+k) c)=(cells.set (off+k) c).toArray:=by simp
  rw [hset,Bs off cs (k+1) (cells.set (off+k) c) (by simp;omega)];congr 1;have e1:(cells.set (off+k) c).take (off+(k+1))=cells.take (off+k)++ [c]:=by
   rw [← oI cells (off+k) c h1,show off+(k+1)=(off+k)+1 by omega,YP (by simp;omega)];rw [YE (by simp;omega)]
  have e2:(cells.set (off+k) c).drop (off+(k+1)+cs.length)=cells.drop (off+k+(c::cs).length):=by
   rw [List.drop_set_of_lt (by omega)];simp only [Xs];congr 1;omega
  rw [e1,e2];simp
theorem Gm (places:List (Nat × Nat)): ∀ (ps:List (Nat × Value)) (cells out:List Value),Gs places cells ps=some out→Instr.fill (places.toArray[·]?) cells.toArray ps=some out.toArray
 | [],cells,out,h=>by simp only [Gs,Option.some.injEq] at h;simp [Instr.fill,h]
 |(i,v)::r,cells,out,h=>by
  simp only [Gs] at h;simp only [Instr.fill,X4]
  cases hp:places[i]? with
  |none=>rw [hp] at h;cases h
  |some x=>
   obtain ⟨off,size⟩:=x;rw [hp] at h;dsimp only at h ⊢;have hsz:v.cells.size=(lW v).length:=by rw [← BP];simp
   cases hb:(Nat.beq (lW v).length size && Nat.ble (off+(lW v).length) cells.length) with
   |false=>rw [hb] at h;cases h
   |true=>
    rw [hb] at h;simp only [cond_true] at h;simp only [Xo] at hb;have h1:=X7 hb.1;have h2:=Y2 hb.2;rw [if_neg (by simp [hsz,h1];omega)];have hf:=Bs off (lW v) 0 cells (by simpa using h2);have hz:v.cells.zipIdx.toList=(lW v).zipIdx 0:=by rw [← BP];simp
    rw [← Array.foldl_toList,hz];have:=Gm places r _ out h;simp only [ZP] at hf;rw [hf];simpa using this
theorem Q7 {t:TypeId} {places:List (Nat × Nat)} {zs cells ys:List Value} {ps:List (Nat × Operand)} {qs:List (Nat × Value)} [hS:Struct P t places zs] (hq:PG s ps=some qs) (hf:Gs places zs qs=some cells) (hn:wK cells=some ys):
 VOp P w0 s H (.build t ps.toArray) ty (.agg ys.toArray):=fun ρ w _ _ _ _ hρ _=>by
 obtain ⟨it,z,fs,h1,h2,h3,h4,h5⟩:=hS.out;have hmap: ∀ {ps:List (Nat × Operand)} {qs:List (Nat × Value)},PG s ps=some qs→ps.map (fun (x:Nat × Operand)=>(x.1,ρ x.2))=qs:=by
  intro ps
  induction ps with
  |nil=>intro qs h;simp only [PG,Option.some.injEq] at h;simp [← h]
  |cons q r ih=>
   intro qs h;obtain ⟨i,x⟩:=q;simp only [PG] at h;split at h
   ·rename_i v vs hv hvs;simp only [Option.some.injEq] at h;rw [← h,XD,ih hvs,hρ x v hv]
   ·cases h
 have hb:P.built t (ps.map fun (x:Nat × Operand)=>(x.1,ρ x.2))=some cells.toArray:=by
  unfold Program.built;simp only [h1,h2,h3,h4];rw [hmap hq,h5];exact Gm places qs zs cells hf
 have hr:=run_build (P:=P) w t (ps.map fun (x:Nat × Operand)=>(x.1,ρ x.2)).toArray cells.toArray (by simpa using hb);rw [jD hn];simp only [execOp,Y0];simp only [Sem.run_bind,hr,Result.andThen_ok,Sem.run_pure]
theorem EO {x ix:Operand} {t j:Nat} {a:ByteArray} {k:IntKind} [ht:Und P t .string] (hx:ev s x=some (.string a)) (hi:ev s ix=some (.int k (j:Nat))) (hj:j<a.size):
 VOp P w0 s H (.index t x ix) ty (.int .u8 ((a[j]'hj).toNat:Int)):=fun ρ w _ _ _ _ hρ _=>by
 have h0:(0:Int)≤(j:Int):=by omega
 simp [execOp,hρ x _ hx,hρ ix _ hi,Instr.index,run_underlying ht.out,asIntOf,hj]
def pL (b:ByteArray):List Value:=b.data.toList.map fun c=> .int .u8 (c.toNat:Int)
theorem qX (b:ByteArray):(pL b).length=b.size:=by simp [pL]
theorem rq {d t u e:Nat} {x:Operand} {a:ByteArray} {ops:Array Oper} [hs:Und P t .string] [hd:Und P u (.slice e)] [he:Und P e (.int .u8)] (hn:Nat.blt d n.sz=true) (hx:ev s x=some (.string a))
 (k: ∀ g cap,WL P n w0 ops rest Q ((d,.slice (some ⟨g,0,none⟩) a.size cap)::s) (.byt g e a.size cap (pL a)::H)):
 WL P n w0 ops (⟨some d,.convert t u x,ty,p,af,none⟩::rest) Q s H:=by
 intro st w hst hm;refine wpList_plain rfl fun K hK=> ?_;have hq:(Question.appendCap a.size 0 e).forced=false:=rfl;generalize hcap:(Question.appendCap a.size 0 e).cut (w.tape w.drawn (.appendCap a.size 0 e))=cap;have hge:a.size≤cap:=by rw [← hcap];simp [Question.cut]
 have hlen:(a.data.map fun b=>Value.int .u8 (b.toNat:Int)).size+(cap - a.size)=cap:=by
  have:(a.data.map fun b=>Value.int .u8 (b.toNat:Int)).size=a.size:=by simp
  omega
 generalize hcs:((a.data.map fun b=>Value.int .u8 (b.toNat:Int))++Array.replicate (cap - a.size) (Value.int .u8 0))=cs;have hcsz:cs.size=cap:=by rw [← hcs];simpa using hlen
 have hrun:(Conv.stringToBytes e a).run P w= .ok (.slice (some ⟨w.heap.size,0,none⟩) a.size cap) (({ w with drawn:=w.drawn+1 }:World).alloc (.cells cs e (cap,cap+1))):=by
  have hfr:(({ w with drawn:=w.drawn+1 }:World).alloc (.cells cs e)).freeze ⟨w.heap.size,cap,none⟩ 1=(({ w with drawn:=w.drawn+1 }:World).alloc (.cells cs e (cap,cap+1))):=by
   simp only [World.freeze,World.alloc,Nat.one_ne_zero,if_false];congr 1;refine aae fun i=> ?_;rw [Y5,Yz,Yz];by_cases hi:w.heap.size=i
   ·subst hi;simp
   ·rw [if_neg hi,if_neg (fun e=>hi e.symm),if_neg (fun e=>hi e.symm)]
  have hshape:(({ w with drawn:=w.drawn+1 }:World).alloc (.cells cs e)).shape? w.heap.size=some (e,cap):=by
   simp [World.shape?,World.alloc,hcsz]
  simp only [Conv.stringToBytes,Sem.run_bind,run_choose,hq,X3,if_false,Result.andThen_ok,hcap,newRow,run_newObj,Sem.run_pure,markStringish,run_shape,hcs,World.alloc_eq,hshape,run_freeze,hfr]
 have hev:=hst.eval x _ hx;have hconv:(convert t u (.string a)).run P w=(Conv.stringToBytes e a).run P w:=by
  simp [convert,run_underlying hs.out,run_underlying hd.out,run_underlying he.out]
 unfold Oper.wp execOp;simp only [Sem.run_bind,hev,hconv,hrun,Result.andThen_ok,Sem.run_pure,Oper.upon];refine hK _ _ (k w.heap.size cap _ _ (hst.put (Yg ▸ hn) _) (hm.drew.new (World.grownBy_alloc _ _ none) ⟨qX a,hge,List.replicate (cap - a.size) (.int .u8 0),?_,?_⟩ fun k hk=> ?_))
 ·simp [qX];omega
 ·rw [heap_alloc_new ({ w with drawn:=w.drawn+1 }:World) _];congr 2;rw [← hcs];apply Array.ext';simp [pL]
 ·simp only [Blk.key,Option.some.injEq] at hk;subst hk;exact Xy _
theorem Mem.cells_byt {w w0:World} {H:List Blk} {g m c:Nat} {t:TypeId} {xs:List Value} (h:Mem w0 w H) (hi:In (.byt g t m c xs) H):Cells w g 0 xs:=by
 obtain ⟨hl,_,junk,_,h1⟩:=(h.on _ hi.mem).1;intro j v hv;rw [Xv,cell_of_row w g j _ t _ h1];have hlt:=(XJ.1 hv).1;rw [X4,XW hlt];exact hv
theorem m8 {x:Operand} {t T g off m c:Nat} {xs:List Value} {v:Value} [One P t] (hx:ev s x=some (.pointer (some ⟨g,off,none⟩))) (hi:In (.byt g T m c xs) H) (hv:xs[off]? =some v):
 VOp P w0 s H (.load t x) ty v:=fun ρ w _ _ _ _ hρ hm=>by
 have hc:=hm.cells_byt hi off v hv;rw [Xv] at hc;simp [execOp,hρ x _ hx,Instr.loadAt,Instr.sureAddr,gj (P:=P) hc]
theorem AY (ns:List Int) (b:ByteArray):(ns.foldl (fun r n=>r.push (UInt8.ofNat n.toNat)) b).data.toList=b.data.toList++ns.map fun n=>UInt8.ofNat n.toNat:=by
 induction ns generalizing b with
 |nil=>simp
 |cons n r ih=>rw [YV,ih];simp [ByteArray.push]
theorem Ae {x:Operand} {t u e T g m c:Nat} {ns:List Int} [hs:Und P t (.slice e)] [he:Und P e (.int .u8)] [hd:Und P u .string] (hx:ev s x=some (.slice (some ⟨g,0,none⟩) m c)) (hi:In (.byt g T m c (ns.map (Value.int .u8))) H) (hl:ns.length=m):
 VOp P w0 s H (.convert t u x) ty (.string ⟨(ns.map fun n=>UInt8.ofNat n.toNat).toArray⟩):=fun ρ w _ _ _ _ hρ hm=>by
 have hc:=hm.cells_byt hi;have h1:=run_loadCells_list (P:=P) w ⟨g,0,none⟩ (ns.map (Value.int .u8)) (fun j v hv=>by rw [cH];exact hc j v hv);rw [Xq,hl] at h1;have h2:=run_bytesToString (P:=P) w ⟨g,0,none⟩ m c ns h1;have h3:ns.foldl (fun r n=>r.push (UInt8.ofNat n.toNat)) ByteArray.empty=⟨(ns.map fun n=>UInt8.ofNat n.toNat).toArray⟩:=by
  have h4:=AY ns ByteArray.empty;generalize ns.foldl (fun r n=>r.push (UInt8.ofNat n.toNat)) ByteArray.empty=b at h4 ⊢;obtain ⟨⟨l⟩⟩:=b;simp only at h4;simp [h4]
 rw [h3] at h2;simp only [execOp,hρ x _ hx,Sem.run_bind,run_convert_bytes_string w t u e _ _ _ hs.out he.out hd.out,h2,Result.andThen_ok,Sem.run_pure]
theorem si {ops:Array Oper} {t T g off m c:Nat} {x a:Operand} {xs:List Value} {v:Value} {R:List Blk} [Size P t 1] (ha:ev s a=some (.pointer (some ⟨g,off,none⟩))) (hx:ev s x=some v)
 (hsel:Sel (.byt g T m c xs) H R) (hv:v.oneCell' =true) (hfit:off<xs.length)
 (k:WL P n w0 ops rest Q s (.byt g T m c (xs.set off v)::R)):WL P n w0 ops (⟨none,.store t a x,ty,p,af,none⟩::rest) Q s H:=by
 refine sj (fun a' w hs hm=> ?_) k;have hm' :=hm.sel hsel;obtain ⟨h2,h3,junk,h5,hb⟩:=(hm'.on _ Xb).1;obtain ⟨i,hi,hsz⟩:=(inferInstance:Size P t 1).out;have hcv:v.cells= #[v]:=by cases v<;>first|rfl|cases hv
 have hlt:off<(xs++junk).length:=by simp;omega
 have hcell:w.cell? ⟨g,off,none⟩=some (xs++junk)[off]:=by
  rw [cell_of_row w g off _ T _ hb,X4,Xf hlt]
 have hfz:w.frozen? ⟨g,off,none⟩=false:=by
  have:off<c:=by rw [← h5];exact hlt
  simp only [World.frozen?,hb];simp;omega
 have hst:(storeVar t ⟨g,off,none⟩ v).run P w= .ok () (w.setCell ⟨g,off,none⟩ v):=by
  simp [storeVar,sizeOf,typeInfo,hi,hsz,hcv,storeCells,cH,run_store P w _ v .plain hv,hcell,hfz]
 have hg:w.grownBy (w.setCell ⟨g,off,none⟩ v) (some g):=⟨rfl,rfl,rfl,by simp,fun k _ hk=>Below.heap_setCell w _ v k (fun e=>hk (by rw [e]))⟩;have hnew:(w.setCell ⟨g,off,none⟩ v).heap[g]? =some (.cells (xs.set off v++junk).toArray T (c,c+1)):=by
  simp only [World.setCell,Y5,if_true,hb,Ys,Option.isSome_none,X3,if_false];rw [← List.set_append_left _ _ hfit];simp
 refine ⟨_,?_,hm'.upd hg (b' := .byt g T m c (xs.set off v)) ⟨by simpa using h2,h3,junk,by rw [Xa,Z6,← Xa];exact h5,hnew⟩ fun k hk=> .inl hk⟩;simp [execOp,hs.eval a _ ha,hs.eval x _ hx,Instr.storeAt,Instr.sureAddr,hst]
theorem Cc {d t:Nat} {x:Operand} {a:ByteArray} {ops:Array Oper} [ht:Und P t .string] (hn:Nat.blt d n.sz=true) (hx:ev s x=some (.string a))
 (k: ∀ g,WL P n w0 ops rest Q ((d,.pointer (some ⟨g,0,none⟩))::s) (.obj g (.stringIter a 0)::H)):WL P n w0 ops (⟨some d,.range t x,ty,p,af,none⟩::rest) Q s H:=by
 refine oq (B:=fun g=> .obj g (.stringIter a 0)) (v:=fun g=> .pointer (some ⟨g,0,none⟩)) hn (fun st w hs hm=> ?_) k;refine ⟨w.iter a 0,?_,World.grownBy_alloc w _ none,World.iter_heap w a 0,rfl⟩;simp [execOp,hs.eval x _ hx,run_range_string w t a ht.out]
theorem Eb {d g pos:Nat} {x:Operand} {a:ByteArray} {R:List Blk} {ops:Array Oper} (hn:Nat.blt d n.sz=true) (hx:ev s x=some (.pointer (some ⟨g,0,none⟩))) (hsel:Sel (.obj g (.stringIter a pos)) H R)
 (hascii: ∀ h:pos<a.size,(a[pos]'h).toNat<128)
 (k1: ∀ h:pos<a.size,WL P n w0 ops rest Q ((d,.tuple #[.bool true,.int .i64 (pos:Int),.int .i32 ((a[pos]'h).toNat:Int)])::s) (.obj g (.stringIter a (pos+1))::R))
 (k2:a.size≤pos→WL P n w0 ops rest Q ((d,.tuple #[.bool false])::s) (.obj g (.stringIter a pos)::R)):
 WL P n w0 ops (⟨some d,.next x true,ty,p,af,none⟩::rest) Q s H:=by
 intro st w hs hm;have hm' :=hm.sel hsel;have hb:=(hm'.on _ Xb).1;simp only [Blk.on] at hb;refine wpList_plain rfl fun K hK=> ?_;by_cases h:pos<a.size
 ·have hr:(Instr.next (.pointer (some ⟨g,0,none⟩)) true ty).run P w= .ok (.tuple #[.bool true,.int .i64 (pos:Int),.int .i32 ((a[pos]'h).toNat:Int)]) { w with heap:=w.heap.setIfInBounds g (.stringIter a (pos+1)) }:=by
   simp only [Instr.next,getObj,setObj,Sem.run_bind,Sem.run,hb,Result.andThen,h,if_true,decode_ascii a pos h (hascii h)];simp [goInt]
  unfold Oper.wp execOp;simp only [Sem.run_bind,hs.eval x _ hx,hr,Result.andThen_ok,Sem.run_pure,Oper.upon];refine hK _ _ (k1 h _ _ (hs.put (Yg ▸ hn) _) (hm'.upd ⟨rfl,rfl,rfl,by simp,fun k _ hk=> ?_⟩ ?_ fun k hk=> .inl hk))
  ·have hne:g≠k:=fun e=>hk (by rw [← e];rfl);simp [Zj hne]
  ·simp only [Blk.on];have:g<w.heap.size:=(XK.1 hb).1;simp [this]
 ·have hr:(Instr.next (.pointer (some ⟨g,0,none⟩)) true ty).run P w= .ok (.tuple #[.bool false]) w:=by
   simp [Instr.next,getObj,Sem.run,hb,h]
  unfold Oper.wp execOp;simp only [Sem.run_bind,hs.eval x _ hx,hr,Result.andThen_ok,Sem.run_pure,Oper.upon];exact hK _ _ (k2 (by omega) _ _ (hs.put (Yg ▸ hn) _) hm')
end
section
variable {P:Program} {ops:Array Oper} {md:Region.Mode} {C:Array Bool→World→Prop}
def DN (P:Program) (D:World→Prop) (v:Value):Result Next→Prop
 | .ok (.value u) w' =>u=v∧D w'
 | .ok .skip w' =>v=undef∧D w'
 | .ok (.enter f args) w' =>Calls P f args w' fun e w'' =>e= .returned v∧D w''
 |_=>False
def Gives (P:Program) (md:Region.Mode) (ops:Array Oper) (C:Array Bool→World→Prop) (i:Nat) (o:Oper) (v:Value) (a:Act):Prop:=
 (Region.wanted o (yielded ops a.tmps)=true∧ ∀ L w,i∈Region.ready md ops L→C L w→DN P (C (L.setIfInBounds i true)) v ((execOp a.eval o).run P w))∨
 (Region.wanted o (yielded ops a.tmps)=false∧v=undef∧ ∀ L w,i∈Region.ready md ops L→C L w→C (L.setIfInBounds i true) w)
theorem Gives.of_same {i:Nat} {o:Oper} {v:Value} {a a' :Act} (hy:Gives P md ops C i o v a) (he:execOp a'.eval o=execOp a.eval o)
 (hw:Region.wanted o (yielded ops a'.tmps)=Region.wanted o (yielded ops a.tmps)):Gives P md ops C i o v a' :=by
 unfold Gives at*;rw [he,hw];exact hy
def gOp (P:Program) (md:Region.Mode) (ops:Array Oper) (C:Array Bool→World→Prop) (i:Nat) (K:Act→Prop) (a:Act):Prop:=
 ∃ o v,ops[i]? =some o∧Gives P md ops C i o v a∧K (a.put o.dst v)
def QB (P:Program) (md:Region.Mode) (ops:Array Oper) (C:Array Bool→World→Prop) (Q:Array Bool→Act→Prop):Nat→Array Bool→Act→Prop
 |0,L,a=>Region.ready md ops L= []∧Q L a
 |f+1,L,a=>(Region.ready md ops L= []→Q L a)∧ ∀ i∈Region.ready md ops L,gOp P md ops C i (QB P md ops C Q f (L.setIfInBounds i true)) a
theorem gN {Q:Array Bool→Act→Prop} {Q' :Exit→Act→World→Prop} (hQ: ∀ L a w,Region.ready md ops L= []→C L w→Q L a→Q' .normal a w): ∀ (f:Nat) (L:Array Bool) (a:Act) (w:World),C L w→
 QB P md ops C Q f L a→wpAny P md ops Q' f L a w
 |0,L,a,w,hC,h=>⟨h.1,hQ L a w h.1 hC h.2⟩
 |f+1,L,a,w,hC,h=>⟨fun h0=>hQ L a w h0 hC (h.1 h0),fun i hi=>by
   obtain ⟨o,v,ho,hg,hk⟩:=h.2 i hi;unfold wpOp;simp only [ho];rcases hg with ⟨hw,hg⟩|⟨hw,rfl,hg⟩
   ·simp only [hw,if_true];refine .inl ?_;have h1:=hg L w hi hC;unfold Oper.wp;generalize (execOp a.eval o).run P w=r at h1 ⊢
    cases r with
    |ok x w' =>
     cases x<;>simp only [DN] at h1<;>simp only [Oper.upon]
     case value u=>obtain ⟨rfl,h2⟩:=h1;exact gN hQ f _ _ _ h2 hk
     case skip=>obtain ⟨rfl,h2⟩:=h1;exact gN hQ f _ _ _ h2 hk
     case enter g args=>exact h1.mono fun e w'' ⟨he,h2⟩=>by subst he;exact gN hQ f _ _ _ h2 hk
    |halt x w' =>simp only [DN] at h1
   ·simp only [hw,X3,if_false];exact gN hQ f _ _ _ (hg L w hi hC) hk⟩
theorem Pu {i:Nat} {a:Act} {K K' :Act→Prop} (h: ∀ a,K a→K' a) (hh:gOp P md ops C i K a):gOp P md ops C i K' a:=
 let ⟨o,v,h1,h2,h3⟩:=hh
 ⟨o,v,h1,h2,h _ h3⟩
theorem R9 {i j:Nat} {oi oj:Oper} {v:Value} (hj:ops[j]? =some oj) (hap:oi.apart ops oj=true)
 (hsi: ∀ cs b,oi.op≠ .select cs b) (hsj: ∀ cs b,oj.op≠ .select cs b) {K:Act→Prop} {a:Act}
 (hy:Gives P md ops C i oi v a) (h:gOp P md ops C j K (a.put oi.dst v)):
 gOp P md ops C j (fun a' =>Gives P md ops C i oi v a' ∧K (a'.put oi.dst v)) a:=by
 obtain ⟨h1,h2,h3⟩:=Oper.apart_spec hap;obtain ⟨o,u,ho,hg,hk⟩:=h;have e:o=oj:=Option.some.inj (ho.symm.trans hj);subst e;refine ⟨o,u,ho,hg.of_same (execOp_put o hsj a oi.dst v h1).symm (wanted_put o a oi.dst v h1).symm,hy.of_same (execOp_put oi hsi a o.dst u h3) (wanted_put oi a o.dst u h3),?_⟩;rw [← Act.put_comm a v u h2];exact hk
theorem zy {Q:Array Bool→Act→Prop} {i:Nat} {oi:Oper} {v:Value} (hi:ops[i]? =some oi) (hsel: ∀ (j:Nat) (o:Oper) cs b,ops[j]? =some o→o.op≠ .select cs b):
 ∀ (f:Nat) (L:Array Bool) (a:Act),
  (∀ j oj,ops[j]? =some oj→j≠i→L.getD j true=false→(∀ e∈oj.after,Region.binds md e=true→e.on≠i)→oi.apart ops oj=true)→
  i∈Region.ready md ops L→Gives P md ops C i oi v a→QB P md ops C Q f (L.setIfInBounds i true) (a.put oi.dst v)→QB P md ops C Q (f+1) L a
 |0,L,a,_,hr,hy,H=>⟨fun h=>(by rw [h] at hr;cases hr),fun j hj=>by
   by_cases hji:j=i
   ·subst hji;exact ⟨oi,v,hi,hy,H⟩
   ·have:=ready_mono hj hji;rw [H.1] at this;cases this⟩
 |f+1,L,a,hfree,hr,hy,H=>⟨fun h=>(by rw [h] at hr;cases hr),fun j hj=>by
   by_cases hji:j=i
   ·subst hji;exact ⟨oi,v,hi,hy,H⟩
   ·have h1:=H.2 j (ready_mono hj hji);obtain ⟨hjun,oj,hoj,hall⟩:=mem_ready.1 hj;have hnot: ∀ e∈oj.after,Region.binds md e=true→e.on≠i:=fun e he hb heq=>by
     have h1:=hall e he hb;have h0:=(mem_ready.1 hr).1;rw [heq] at h1;rcases Y1 i L.size with h' |h'
     ·simp [h'] at h0 h1;rw [h0] at h1;cases h1
     ·simp [Zr h'] at h1
    have h2:=R9 hoj (hfree j oj hoj hji hjun hnot) (fun cs b=>hsel i oi cs b hi) (fun cs b=>hsel j oj cs b hoj) hy h1
    have hfree' : ∀ k ok,ops[k]? =some ok→k≠i→(L.setIfInBounds j true).getD k true=false→
     (∀ e∈ok.after,Region.binds md e=true→e.on≠i)→oi.apart ops ok=true:=fun k ok hk hki hun hno=>by
     refine hfree k ok hk hki ?_ hno;by_cases hjk:j=k
     ·subst hjk;exact hjun
     ·rw [getD_set_ne true hjk] at hun;exact hun
    refine Pu (fun a' h3=>zy hi hsel f (L.setIfInBounds j true) a' hfree' (ready_mono hr (Ne.symm hji)) h3.1 ?_) h2;rw [ZR _ _ hji];exact h3.2⟩
def wpG (P:Program) (md:Region.Mode) (ops:Array Oper) (C:Array Bool→World→Prop) (Q:Act→Prop):List Oper→Nat→Act→Prop
 | [],_,a=>Q a
 |o::r,k,a=> ∃ v,Gives P md ops C k o v a∧wpG P md ops C Q r (k+1) (a.put o.dst v)
theorem HN {Q:Act→Prop} (hs:Region.noSelect ops=true): ∀ (l:List Oper) (k:Nat) (L:Array Bool) (a:Act),(∀ j,l[j]? =ops[k+j]?)→
 Region.lexFrom md ops l.length k L=true→wpG P md ops C Q l k a→QB P md ops C (fun _ a=>Q a) l.length L a
 | [],_,_,_,_,hB,h=>⟨by simpa [Region.lexFrom] using hB,h⟩
 |o::l,k,L,a,hl,hB,h=>by
  have h0:ops[k]? =some o:=by simpa using (hl 0).symm
  simp only [Xs,Region.lexFrom,Xo] at hB;obtain ⟨⟨hr,hf⟩,hB'⟩:=hB;obtain ⟨v,hy,hK⟩:=h
  exact zy h0 (Region.noSelect_spec hs) l.length L a (Region.free_spec h0 hf) (by simpa using hr) hy
   (HN hs l (k+1) _ _ (fun j=>by have:=hl (j+1);simpa [Y8,Zu 1 j] using this) hB' hK)
theorem DZ {id:Nat} {Q:Exit→Act→World→Prop} {a:Act} {w:World} (hm:P.follows .mixedOrders=true) (hB:Region.lexB .any ops=true) (hC:C (Array.replicate ops.size false) { w with drawn:=w.drawn+1 })
 (h:wpG P .any ops C (fun a' => ∀ L w',Region.ready .any ops L= []→C L w' →Q .normal a' w') ops.toList 0 a):(Code.region id ops true).wp P Q a w:=by
 simp only [Region.lexB,Xo] at hB;refine wp_region_any hm (gN (Q:=fun _ a' => ∀ L w',Region.ready .any ops L= []→C L w' →Q .normal a' w') (fun L a' w' hr hw' h=>h L w' hr hw') _ _ _ _ hC ?_);have:=HN (C:=C) (md:= .any) hB.1 ops.toList 0 (Array.replicate ops.size false) a (by simp) (by simpa using hB.2) h;simpa using this
end
abbrev gX:=Nat→Bool
def done (L:Array Bool):gX:=fun i=>L.getD i false
section
variable {P:Program} {n:Fr} {w0:World} {Q:bK} {s:az} {H:List Blk} {l rest:List Oper} {ty:TypeId} {p:String} {af:Array Edge}
def Cls (w0:World) (l:List Oper) (HL:gX→List Blk) (L:Array Bool) (w:World):Prop:=
 L.size=l.length∧(∀ i o,l[i]? =some o→done L i=true→ ∀ e∈o.after,Region.binds .any e=true→done L e.on=true)∧Mem w0 w (HL (done L))
def oD (o:Oper):List Nat:=o.after.toList.filterMap fun e=>if Region.binds .any e then some e.on else none
structure Turn (l:List Oper) (k:Nat) (o:Oper) (D:gX):Prop where
 not:D k=false
 before: ∀ i∈oD o,D i=true
 closed: ∀ i x,l[i]? =some x→D i=true→ ∀ j∈oD x,D j=true
def put (D:gX) (k:Nat):gX:=fun i=>if i=k then true else D i
def WG (P:Program) (n:Fr) (w0:World) (l:List Oper) (HL:gX→List Blk) (K:az→Prop) (rest:List Oper) (k:Nat) (s:az):Prop:=
 ∀ a,St n s a→(∀ j,rest[j]? =l[k+j]?)→wpG P .any l.toArray (Cls w0 l HL) (fun a' => ∃ s',St n s' a' ∧K s') rest k a
theorem fX {o:Oper} {i:Nat}:i∈oD o↔ ∃ e∈o.after,Region.binds .any e=true∧e.on=i:=by
 unfold oD;rw [List.mem_filterMap];constructor
 ·rintro ⟨e,he,h⟩;split at h
  ·rename_i hb;injection h with h;exact ⟨e,by simpa using he,hb,h⟩
  ·cases h
 ·rintro ⟨e,he,hb,h⟩;exact ⟨e,by simpa using he,by simp [hb,h]⟩
theorem p6 {HL:gX→List Blk} {k:Nat} {o:Oper} {L:Array Bool} {w:World} (hk:l[k]? =some o) (hr:k∈Region.ready .any l.toArray L) (hc:Cls w0 l HL L w):Turn l k o (done L)∧done (L.setIfInBounds k true)=put (done L) k∧(∀ w',Mem w0 w' (HL (put (done L) k))→Cls w0 l HL (L.setIfInBounds k true) w'):=by
 obtain ⟨hsz,hcl,_⟩:=hc;obtain ⟨h0,o',ho',hall⟩:=mem_ready.1 hr;have e:o' =o:=by
  rw [X4,hk] at ho';exact (Option.some.inj ho').symm
 subst e;have hlt:k<L.size:=by rw [hsz];exact (XJ.1 hk).1
 have hd:done (L.setIfInBounds k true)=put (done L) k:=by
  funext i;unfold done put;by_cases hik:i=k
  ·subst hik;simp [hlt]
  ·rw [if_neg hik,getD_set_ne false (Ne.symm hik)]
 have hcl' : ∀ i x,l[i]? =some x→done L i=true→ ∀ j∈oD x,done L j=true:=fun i x hx hi j hj=>by
  obtain ⟨e,he,hb,rfl⟩:=fX.1 hj;exact hcl i x hx hi e he hb
 refine ⟨⟨?_,fun i hi=> ?_,hcl'⟩,hd,fun w' hm=>⟨by simpa using hsz,fun i x hx hi e he hb=> ?_,hd ▸ hm⟩⟩
 ·unfold done;simp [hlt] at h0 ⊢;exact h0
 ·obtain ⟨e,he,hb,rfl⟩:=fX.1 hi;exact hall e he hb
 ·rw [hd] at hi ⊢;by_cases hik:i=k
  ·subst hik;rw [hk] at hx;injection hx with hx;subst hx;have h1:=hall e he hb;unfold put;split
   ·rfl
   ·exact h1
  ·have hi' :done L i=true:=by unfold put at hi;rwa [if_neg hik] at hi
   have:=hcl i x hx hi' e he hb;unfold put;split
   ·rfl
   ·exact this
theorem wT {id:Nat} (HL:gX→List Blk) (hm:P.follows .mixedOrders=true) (hB:Region.lexB .any l.toArray=true) (h0:MSub (HL fun _=>false) H)
 (h:WG P n w0 l HL (fun s' => ∀ D:gX,(∀ i,i<l.length→D i=true)→Q .normal s' (HL D)) l 0 s):W P n w0 (.region id l.toArray true) Q s H:=by
 intro a w hs hmem;have hrep:done (Array.replicate l.toArray.size false)=fun _=>false:=by
  funext i;unfold done;rw [XZ,ZA];split<;>rfl
 refine DZ (C:=Cls w0 l HL) hm hB ⟨by simp,fun i o _ hi=>(by rw [hrep] at hi;cases hi),by rw [hrep];exact h0.use hmem.drew⟩ ?_;have h1:=h a hs (by simp);have mono: ∀ (r:List Oper) (k:Nat) (a:Act) (K K' :Act→Prop),(∀ a,K a→K' a)→wpG P .any l.toArray (Cls w0 l HL) K r k a→wpG P .any l.toArray (Cls w0 l HL) K' r k a:=by
  intro r
  induction r with
  |nil=>intro k a K K' hk h;exact hk _ h
  |cons o r ih=>
   rintro k a K K' hk ⟨v,h1,h2⟩;exact ⟨v,h1,ih _ _ K K' hk h2⟩
 simp only [ZB];refine mono _ _ _ _ _ ?_ h1;rintro a' ⟨s',h2,h3⟩ L w' hr ⟨hsz,hcl,hmem'⟩;refine ⟨s',HL (done L),h2,hmem',h3 _ fun i hi=> ?_⟩
 -- nothing is ready:all is done
 have all: ∀ i,i<l.length→done L i=true:=by
  intro i
  induction i using Nat.strongRecOn with
  |_ i ih=>
   intro hi
   cases hd:done L i with
   |true=>rfl
   |false=>
    exfalso;have hlx: ∀ (f k:Nat) (L0:Array Bool),Region.lexFrom .any l.toArray f k L0=true→ ∀ j o,k≤j→j<k+f→l[j]? =some o→ ∀ x∈oD o,L0.getD x false=true∨(k≤x∧x<j):=by
     intro f
     induction f with
     |zero=>intro k L0 _ j o h1 h2;omega
     |succ f ihf=>
      intro k L0 hlex j o h1 h2 ho x hx;simp only [Region.lexFrom,Xo] at hlex;obtain ⟨⟨hrk,_⟩,hrest⟩:=hlex;by_cases hjk:j=k
      ·subst hjk;obtain ⟨_,o',ho',hall⟩:=mem_ready.1 (by simpa using hrk:j∈Region.ready .any l.toArray L0);rw [X4,ho] at ho';injection ho' with ho';subst ho';obtain ⟨e,he,hb,rfl⟩:=fX.1 hx;exact .inl (hall e he hb)
      ·rcases ihf (k+1) _ hrest j o (by omega) (by omega) ho x hx with h|⟨h3,h4⟩
       ·by_cases hxk:k=x
        ·subst hxk;right;omega
        ·rw [getD_set_ne false hxk] at h;exact .inl h
       ·right;omega
    simp only [Region.lexB,Xo] at hB;obtain ⟨o,ho⟩: ∃ o,l[i]? =some o:=⟨_,Xf hi⟩;have hmem:i∈Region.ready .any l.toArray L:=by
     refine mem_ready.2 ⟨?_,o,by simpa using ho,fun e he hb=> ?_⟩
     ·have:i<L.size:=by omega
      unfold done at hd;simp [this] at hd ⊢;exact hd
     ·have hx:=hlx l.toArray.size 0 _ hB.2 i o (Xn _) (by simpa using hi) ho e.on (fX.2 ⟨e,he,hb,rfl⟩);rcases hx with h|⟨_,h⟩
      ·have:(done (Array.replicate l.toArray.size false)) e.on=true:=h;rw [hrep] at this;cases this
      ·exact ih e.on h (by omega)
    rw [hr] at hmem;cases hmem
 exact all i hi
variable {HL:gX→List Blk} {K:az→Prop} {k:Nat}
theorem Cw (h:K s):WG P n w0 l HL K [] k s:=fun _ hs _=>⟨s,hs,h⟩
theorem HY {op:Op} {d:Nat} {v:Value} (hn:Nat.blt d n.sz=true) (hv: ∀ D,Turn l k ⟨some d,op,ty,p,af,none⟩ D→VOp P w0 s (HL D) op ty v) (hk: ∀ D,HL (put D k)=HL D) (h:WG P n w0 l HL K rest (k+1) ((d,v)::s)):
 WG P n w0 l HL K (⟨some d,op,ty,p,af,none⟩::rest) k s:=by
 intro a hs hl;have h0:l[k]? =some ⟨some d,op,ty,p,af,none⟩:=by simpa using (hl 0).symm
 refine ⟨v,.inl ⟨rfl,fun L w hr hc=> ?_⟩,h _ (hs.put (Yg ▸ hn) v) fun j=>by have:=hl (j+1);simpa [Y8,Zu 1 j] using this⟩;obtain ⟨ht,hd,hnext⟩:=p6 h0 hr hc;rw [hv _ ht a.eval w _ _ _ _ hs.eval hc.2.2];exact ⟨rfl,hnext w (by rw [hk];exact hc.2.2)⟩
theorem Nu {d:Nat} {f:FuncId} {xs:List Operand} {vs:List Value} {v:Value} {ts:Array TypeId} [Callable P f] (hn:Nat.blt d n.sz=true) (hx:evs s xs=some vs)
 (hF: ∀ D,Turn l k ⟨some d,.call { callee:= .value (.func f),args:=xs.toArray,argTypes:=ts },ty,p,af,none⟩ D→ ∀ w,Mem w0 w (HL D)→aL P f vs w v) (hk: ∀ D,HL (put D k)=HL D) (h:WG P n w0 l HL K rest (k+1) ((d,v)::s)):
 WG P n w0 l HL K (⟨some d,.call { callee:= .value (.func f),args:=xs.toArray,argTypes:=ts },ty,p,af,none⟩::rest) k s:=by
 intro a hs hl;have h0:=(hl 0).symm;simp only [ZP,aaj] at h0;refine ⟨v,.inl ⟨rfl,fun L w hr hc=> ?_⟩,h _ (hs.put (Yg ▸ hn) v) fun j=>by have:=hl (j+1);simpa [Y8,Zu 1 j] using this⟩;obtain ⟨ht,hd,hnext⟩:=p6 h0 hr hc;have hrun:=ma (P:=P) (w:=w) (ρ:=a.eval) (d:=some d) (ty:=ty) (p:=p) (af:=af) (g:=none) (f:=f) (c:= .func f) (xs:=xs) (caps:= []) (ts:=ts) rfl (iX hs hx);rw [Xm] at hrun;rw [hrun];refine Calls.mono (hF _ ht w hc.2.2) ?_;rintro e w' ⟨u,H',rfl,hm',rfl⟩;exact ⟨rfl,hnext w' (by rw [hk];exact (hc.2.2.call hm').right)⟩
theorem Cx {op:Op} (hv: ∀ D,Turn l k ⟨none,op,ty,p,af,none⟩ D→ ∀ a w,St n s a→Mem w0 w (HL D)→ ∃ w',(execOp a.eval ⟨none,op,ty,p,af,none⟩).run P w= .ok .skip w' ∧Mem w0 w' (HL (put D k))) (h:WG P n w0 l HL K rest (k+1) s):
 WG P n w0 l HL K (⟨none,op,ty,p,af,none⟩::rest) k s:=by
 intro a hs hl;have h0:l[k]? =some ⟨none,op,ty,p,af,none⟩:=by simpa using (hl 0).symm
 refine ⟨undef,.inl ⟨rfl,fun L w hr hc=> ?_⟩,h _ (hs.put_none _) fun j=>by have:=hl (j+1);simpa [Y8,Zu 1 j] using this⟩;obtain ⟨ht,hd,hnext⟩:=p6 h0 hr hc;obtain ⟨w',hr',hm'⟩:=hv _ ht a w hs hc.2.2;rw [hr'];exact ⟨rfl,hnext w' hm'⟩
theorem HZ {t T g off m:Nat} {x a:Operand} {v:Value} {vs:List Value} [Size P t m] (xs:gX→List Value) (R:gX→List Blk) (ha:ev s a=some (.pointer (some ⟨g,off,none⟩))) (hx:ev s x=some v)
 (hsel: ∀ D,Sel (.box g T (xs D)) (HL D) (R D)) (hv:v.cells=vs.toArray) (hl:vs.length=m) (h1:vs.all Value.oneCell' =true) (hfit: ∀ D,off+m≤(xs D).length)
 (hnew: ∀ D,Turn l k ⟨none,.store t a x,ty,p,af,none⟩ D→MSub (HL (put D k)) (.box g T ((xs D).take off++vs++(xs D).drop (off+m))::R D)) (h:WG P n w0 l HL K rest (k+1) s):
 WG P n w0 l HL K (⟨none,.store t a x,ty,p,af,none⟩::rest) k s:=by
 refine Cx (fun D ht a' w hs hm=> ?_) h;have hm' :=hm.sel (hsel D);have hb:=(hm'.on _ Xb).1;simp only [Blk.on] at hb;have h1' : ∀ u∈vs,u.oneCell' =true:=by simpa using h1
 have hr:=f9 (P:=P) (t:=t) (off:=off) hv hl h1' hb (by simpa using hfit D);simp only at hr;refine ⟨_,?_,(hnew D ht).use (hm'.upd (dP _ _ _) (b' := .box g T ((xs D).take off++vs++(xs D).drop (off+m))) (setRow_heap _ _ _ _ _ _ hb) fun k hk=> .inl hk)⟩;simp [execOp,hs.eval a _ ha,hs.eval x _ hx,Instr.storeAt,Instr.sureAddr,hr]
theorem mg {w:World} {t T T' g m:Nat} {xs:List Value} {a:Act} [Agg P T m] (hs:St n s a) (hm:Mem w0 w H) (ht:look s t=some (.pointer (some ⟨g,0,none⟩))) (hi:In (.box g T' xs) H) (hl:Nat.beq xs.length m=true):
 (do let b ← asAddr (a.tmps.getD t undef);loadVar T b).run P w= .ok (.agg xs.toArray) w:=by
 have h1:=hs.has t _ ht;have h2:=gy (P:=P) (t:=T) (X7 hl) (hm.cells_box hi);simp [XZ,h1,asAddr,h2]
section res
variable {fn:Func} {R:Value→List Blk→Prop} {e:Exit} {t u T U T' U' g h m q:Nat} {xs ys:List Value} {v:Value}
theorem zL (he:e= .ret∨e= .normal) (hr:fn.results= #[.cell t T]) [Agg P T m] (ht:look s t=some (.pointer (some ⟨g,0,none⟩))) (hi:In (.box g T' xs) H) (hl:Nat.beq xs.length m=true) {H' :List Blk} (hs:MSub H' H) (hR:R (.agg xs.toArray) H'):aY P fn n w0 R e s H:=
 ⟨he,_,H',hs,fun a w hst hm=>by
  have h1:=mg (P:=P) (T:=T) hst hm ht hi hl;simp only [results,hr];simp only [Zz,XV,X5,Sem.run_bind,Sem.run_map] at h1 ⊢;simp only [h1,Result.andThen_ok,Sem.run_pure]
  rfl,hR⟩
theorem vq (he:e= .ret∨e= .normal) (hr:fn.results= #[.cell t T,.tmp u]) [Agg P T m] (ht:look s t=some (.pointer (some ⟨g,0,none⟩))) (hi:In (.box g T' xs) H) (hl:Nat.beq xs.length m=true) (hu:look s u=some v) {H' :List Blk} (hs:MSub H' H) (hR:R (.tuple #[.agg xs.toArray,v]) H'):aY P fn n w0 R e s H:=
 ⟨he,_,H',hs,fun a w hst hm=>by
  have h1:=mg (P:=P) (T:=T) hst hm ht hi hl;have h2:a.tmps.getD u undef=v:=by simp [XZ,hst.has u _ hu]
  simp only [results,hr];simp only [Zz,XV,X5,Sem.run_bind,Sem.run_map] at h1 ⊢;simp only [h1,Result.andThen_ok,Sem.run_pure,h2]
  rfl,hR⟩
theorem VF (he:e= .ret∨e= .normal) (hr:fn.results= #[.cell t T,.cell u U]) [Agg P T m] [Agg P U q] (ht:look s t=some (.pointer (some ⟨g,0,none⟩))) (hi:In (.box g T' xs) H) (hl:Nat.beq xs.length m=true) (hu:look s u=some (.pointer (some ⟨h,0,none⟩))) (hi' :In (.box h U' ys) H) (hl' :Nat.beq ys.length q=true) {H' :List Blk} (hs:MSub H' H) (hR:R (.tuple #[.agg xs.toArray,.agg ys.toArray]) H'):aY P fn n w0 R e s H:=
 ⟨he,_,H',hs,fun a w hst hm=>by
  have h1:=mg (P:=P) (T:=T) hst hm ht hi hl;have h2:=mg (P:=P) (T:=U) hst hm hu hi' hl';simp only [results,hr];simp only [Zz,XV,X5,Sem.run_bind,Sem.run_map] at h1 h2 ⊢;simp only [h1,h2,Result.andThen_ok,Sem.run_pure]
  rfl,hR⟩
end res
theorem kv {d:Nat} {ops:Array Oper} {f:FuncId} {c:Operand} {xs:List Operand} {vs caps:List Value} {v:Value} {ts:Array TypeId} (hn:Nat.blt d n.sz=true) (hc:ev s c=some (.func (.func f) #[] caps.toArray)) (hfc:Callable P f) (hx:evs s xs=some vs)
 (hF: ∀ w,Mem w0 w H→aL P f (vs++caps) w v) (k:WL P n w0 ops rest Q ((d,v)::s) H):
 WL P n w0 ops (⟨some d,.call { callee:= .value c,args:=xs.toArray,argTypes:=ts },ty,p,af,none⟩::rest) Q s H:=
 fK hn hc hfc hx (FnIn.of_at hF) fun u H' ⟨H1,h1,h2⟩=>by
  subst h1;subst h2;exact Cg ⟨H1,X6⟩ k
theorem CB {id T g:Nat} {xs xs' :List Value} {R:List Blk} (f:gX→List Value) (hm:P.follows .mixedOrders=true) (hB:Region.lexB .any l.toArray=true) (hsel:Sel (.box g T xs) H R) (h0:f (fun _=>false)=xs)
 (h1: ∀ D:gX,(∀ i,i<l.length→D i=true)→f D=xs') (h:WG P n w0 l (fun D=> .box g T (f D)::R) (fun s' =>Q .normal s' (.box g T xs' ::R)) l 0 s):W P n w0 (.region id l.toArray true) Q s H:=by
 subst h0;refine wT (fun D=> .box g T (f D)::R) hm hB ⟨[],by simpa using hsel.perm⟩ fun a hs hl=> ?_;have mono: ∀ (r:List Oper) (k:Nat) (a:Act) (K K' :Act→Prop),(∀ a,K a→K' a)→wpG P .any l.toArray (Cls w0 l fun D=> .box g T (f D)::R) K r k a→wpG P .any l.toArray (Cls w0 l fun D=> .box g T (f D)::R) K' r k a:=by
  intro r
  induction r with
  |nil=>intro k a K K' hk h;exact hk _ h
  |cons o r ih=>
   rintro k a K K' hk ⟨v,h1,h2⟩;exact ⟨v,h1,ih _ _ K K' hk h2⟩
 refine mono _ _ _ _ _ ?_ (h a hs hl);rintro a' ⟨s',h2,h3⟩;exact ⟨s',h2,fun D hD=>by rw [h1 D hD];exact h3⟩
end
def Vc:BinOp→Int→Int→Option Value
 | .lss,a,b=>some (.bool (decide (a<b)))
 | .leq,a,b=>some (.bool (decide (a≤b)))
 | .gtr,a,b=>some (.bool (decide (b<a)))
 | .geq,a,b=>some (.bool (decide (b≤a)))
 | .eql,a,b=>some (.bool (decide (a=b)))
 | .neq,a,b=>some (.bool (decide (a≠b)))
 |_,_,_=>none
def Vb:BinOp→ByteArray→ByteArray→Option Value
 | .eql,a,b=>some (.bool (decide (a=b)))
 | .neq,a,b=>some (.bool (decide (a≠b)))
 |_,_,_=>none
def Vd (o:BinOp):Value→Value→Option Value
 | .int k a,.int k' b=>match decide (k=k') with
  |true=>Vc o a b
  |false=>none
 | .string a,.string b=>Vb o a b
 |_,_=>none
def vop (s:az):Op→Option Value
 | .move x=>ev s x
 | .assign x=>ev s x
 | .pick c a b=>match ev s c with
  |some (.bool true)=>ev s a
  |some (.bool false)=>ev s b
  |_=>none
 | .unOp .not _ x=>match ev s x with
  |some (.bool b)=>some (.bool (!b))
  |_=>none
 | .binOp o _ x y _=>match ev s x,ev s y with
  |some u,some v=>Vd o u v
  |_,_=>none
 | .extract x i=>match ev s x with
  |some (.tuple vs)=>vs.toList[i]?
  |_=>none
 |_=>none
theorem TX {P:Program} {w0:World} {s:az} {H:List Blk} {op:Op} {ty:TypeId} {v:Value} (h:vop s op=some v):VOp P w0 s H op ty v:=by
 cases op<;>simp only [vop] at h<;>try (cases h;done)
 case move x=>exact Ua h
 case assign x=>exact eY h
 case pick c a b=>
  split at h
  ·exact NJ (by assumption) h
  ·exact NK (by assumption) h
  ·cases h
 case binOp o t x y t' =>
  split at h
  ·rename_i u v' hu hv;unfold Vd at h;split at h
   ·rename_i k a k' b;split at h
    ·rename_i hk;have hk:=of_decide_eq_true hk;subst hk;cases o<;>simp only [Vc] at h<;>first|(cases h;done)|skip
     all_goals (injection h with h;subst h)
     ·exact Vo hu hv
     ·exact Vg hu hv
     ·exact Vi hu hv
     ·exact Vj hu hv
     ·exact Vm hu hv
     ·exact Vn hu hv
    ·cases h
   ·rename_i a b;cases o<;>simp only [Vb] at h<;>first|(cases h;done)|skip
    all_goals (injection h with h;subst h)
    ·exact Ud hu hv
    ·exact TZ hu hv
   ·cases h
  ·cases h
 case unOp o t x=>
  cases o<;>simp only at h<;>first|(cases h;done)|skip
  split at h
  ·injection h with h;subst h;exact Ve (by assumption)
  ·cases h
 case extract x i=>
  split at h
  ·rename_i vs hx;exact Ld (vs:=vs.toList) (by simpa using hx) h
  ·cases h
class Tidy (p:Prop) (q:outParam Prop):Prop where
 out:p→q
instance (priority:=10) tidySame {p:Prop}:Tidy p p:=⟨id⟩
instance tidyT {p q:Prop} [Decidable p] [h:Tidy p q]:Tidy (decide p=true) q:=⟨fun k=>h.out (of_decide_eq_true k)⟩
instance tidyF {p q:Prop} [Decidable p] [h:Tidy (¬ p) q]:Tidy (decide p=false) q:=⟨fun k=>h.out (of_decide_eq_false k)⟩
instance tidyNT {b:Bool} {q:Prop} [h:Tidy (b=false) q]:Tidy ((!b)=true) q:=⟨fun k=>h.out (by simpa using k)⟩
instance tidyNF {b:Bool} {q:Prop} [h:Tidy (b=true) q]:Tidy ((!b)=false) q:=⟨fun k=>h.out (by simpa using k)⟩
instance tidyLt {a b:Int}:Tidy (¬ a<b) (b≤a):=⟨Int.not_lt.1⟩
instance tidyLe {a b:Int}:Tidy (¬ a≤b) (b<a):=⟨Int.not_le.1⟩
section
variable {P:Program} {n:Fr} {w0:World} {Q:bK} {s:az} {H:List Blk} {l rest:List Oper} {ty:TypeId} {p:String} {af:Array Edge} {f:Nat} {L:Array Bool}
def WA (P:Program) (n:Fr) (w0:World) (l:List Oper) (Q:bK) (f:Nat) (L:Array Bool) (s:az) (H:List Blk):Prop:=
 ∀ a w,St n s a→Mem w0 w H→wpAny P .any l.toArray (post n w0 Q) f L a w
theorem CC {id:Nat} (N:Nat) (hN:l.length=N) (hm:P.follows .mixedOrders=true) (h:WA P n w0 l Q N (Array.replicate N false) s H):W P n w0 (.region id l.toArray true) Q s H:=by
 intro a w hs hmem;subst hN;refine wp_region_any hm ?_;simpa using h a _ hs hmem.drew
theorem CA (hr:Region.ready .any l.toArray L= []) (h:Q .normal s H):WA P n w0 l Q f L s H:=by
 intro a w hs hm
 cases f with
 |zero=>exact ⟨hr,s,H,hs,hm,h⟩
 |succ f=>exact ⟨fun _=>⟨s,H,hs,hm,h⟩,fun i hi=>by rw [hr] at hi;cases hi⟩
def lS (Q:bK):Prop:= ∀ c s H,¬ Q (.panic c) s H
theorem Uy {K:az→List Blk→Prop} (h:lS Q):lS (thn K Q):=fun c s H hq=>h c s H hq
theorem UB {id:Nat} (h:lS Q):lS (blk id Q):=fun c s H hq=>h c s H hq
theorem Uz {fn:Func} {R:Value→List Blk→Prop}:lS (aY P fn n w0 R):=fun c s H hq=>by
 obtain ⟨h|h,_⟩:=hq<;>cases h
theorem dO {i:Nat} {op:Op} {d:Nat} {v:Value} (hi:l[i]? =some ⟨some d,op,ty,p,af,none⟩) (hn:Nat.blt d n.sz=true) (hsel:Region.noSelect l.toArray=true) (hr:(Region.ready .any l.toArray L).contains i=true) (hf:Region.free .any l.toArray L i=true)
 (hnp:lS Q) (hv: ∀ w0 H,VOp P w0 s H op ty v) (h:WA P n w0 l Q f (L.setIfInBounds i true) ((d,v)::s) H):WA P n w0 l Q (f+1) L s H:=by
 intro a w hs hm;have hi' :l.toArray[i]? =some ⟨some d,op,ty,p,af,none⟩:=by simpa using hi
 refine wpAny_first hi' (Region.noSelect_spec hsel) (v:=v) (fun c a' w' hq=> ?_) f L a w (Region.free_spec hi' hf) (by simpa using hr) (.inl ⟨rfl,fun w' =>hv w' [] a.eval w' _ _ _ _ hs.eval (Mem.refl w')⟩) (h _ _ (hs.put (Yg ▸ hn) v) hm);obtain ⟨s',H',h1,h2,h3⟩:=hq;exact (hnp c s' H' h3).elim
theorem AH {o:Oper} {a:Act} {next next' :Act→World→Prop} {Q1 Q2:Exit→Act→World→Prop} {r:Result Next} (hn: ∀ a w,next a w→next' a w) (hp: ∀ c a w,Q1 (.panic c) a w→Q2 (.panic c) a w) (ho: ∀ a w,Q1 .outgrown a w→Q2 .outgrown a w) (h:o.upon P a next Q1 r):o.upon P a next' Q2 r:=by
 cases r with
 |ok x w' =>
   cases x<;>simp only [Oper.upon] at h ⊢ <;>first
    |exact hn _ _ h
    | (refine Calls.mono h fun e w'' he => ?_
       cases e with
       |returned v=>exact hn _ _ he
       |panicked c=>exact hp _ _ _ he
       |outgrown=>obtain ⟨a0,w0,h0⟩:=he;exact ⟨a0,w0,ho _ _ h0⟩)
    |exact Rows.mono h fun v w'' he=>hn _ _ he
 |halt x w' =>cases x<;>simp only [Oper.upon] at h ⊢ <;>exact hp _ _ _ h
theorem ig {i:Nat} {o:Oper} (hi:l[i]? =some o) (hr:Region.ready .any l.toArray L= [i]) (h:WL P n w0 l.toArray [o] (thn (WA P n w0 l Q f (L.setIfInBounds i true)) Q) s H):WA P n w0 l Q (f+1) L s H:=by
 intro a w hs hm;refine ⟨fun h0=>(by rw [hr] at h0;cases h0),fun j hj=> ?_⟩;rw [hr] at hj;have e:j=i:=by simpa using hj
 subst e;have h1:=h a w hs hm;have hi' :l.toArray[j]? =some o:=by simpa using hi
 unfold wpOp;simp only [hi'];unfold wpList at h1;have hnext: ∀ a w,wpList P l.toArray (post n w0 (thn (WA P n w0 l Q f (L.setIfInBounds j true)) Q)) [] a w→wpAny P .any l.toArray (post n w0 Q) f (L.setIfInBounds j true) a w:=by
  rintro a w ⟨s',H',h1,h2,h3⟩;exact h3 a w h1 h2
 split
 ·rename_i hw;rw [if_pos hw] at h1;refine h1.imp (fun h2=>AH hnext (fun c a w h=>h) (fun a w h=>h) h2) fun ⟨h2,a0,w0,h3⟩=>⟨h2,a0,w0,h3⟩
 ·rename_i hw;rw [if_neg hw] at h1;exact hnext _ _ h1
theorem iR {t e lo hi m c sz:Nat} {A:Option Addr} {x:Operand} {xl xh:Option Operand} [ht:Und P t (.slice e)] [hz:Size P e sz] (hx:ev s x=some (.slice A m c))
 (hxl:match xl with|none=>lo=0|some q=> ∃ k,ev s q=some (.int k (lo:Nat))) (hxh:match xh with|none=>hi=m|some q=> ∃ k,ev s q=some (.int k (hi:Nat))) (h1:lo≤hi) (h2:hi≤c):
 VOp P w0 s H (.slice t x xl xh none) ty (.slice (if c=lo then A else A.map (·.add (lo*sz))) (hi - lo) (c - lo)):=fun ρ w _ _ _ _ hρ _=>by
 obtain ⟨i,hi1,hi2⟩:=hz.out;have e1:((lo:Nat):Int)≤((hi:Nat):Int):=by omega
 have e2:((hi:Nat):Int)≤((c:Nat):Int):=by omega
 have e3:((0:Nat):Int)≤((hi:Nat):Int):=by omega
 cases xl with
 |none=>
  cases xh with
  |none=>
   simp only at hxl hxh;subst hxl hxh;simp [execOp,hρ x _ hx,Instr.sliceAt,run_underlying ht.out,Instr.slice,Instr.sliceBounds,sizeOf,typeInfo,hi1]
  |some q=>
   simp only at hxl hxh;subst hxl;obtain ⟨kk,hq⟩:=hxh;simp [execOp,hρ x _ hx,hρ q _ hq,Instr.sliceAt,run_underlying ht.out,Instr.slice,Instr.sliceBounds,Instr.sliceBound,asIntOf,sizeOf,typeInfo,hi1,h2]
 |some ql=>
  obtain ⟨kl,hql⟩:=hxl
  cases xh with
  |none=>
   simp only at hxh;subst hxh;simp [execOp,hρ x _ hx,hρ ql _ hql,Instr.sliceAt,run_underlying ht.out,Instr.slice,Instr.sliceBounds,Instr.sliceBound,asIntOf,sizeOf,typeInfo,hi1,hi2,h1]
  |some q=>
   obtain ⟨kk,hq⟩:=hxh;simp [execOp,hρ x _ hx,hρ q _ hq,hρ ql _ hql,Instr.sliceAt,run_underlying ht.out,Instr.slice,Instr.sliceBounds,Instr.sliceBound,asIntOf,sizeOf,typeInfo,hi1,hi2,h1,h2]
def Reads (w:World) (v:Value) (m:Nat) (xs:List Value):Prop:=
 ∃ A cap,v= .slice A m cap∧m≤cap∧cap≤maxLen∧(0<m→ ∃ g o,A=some ⟨g,o,none⟩∧Ro w g o xs)
theorem Ro.of_own {w:World} {g t sz m c:Nat} {xs:List Value} (hm:Mem w0 w H) (hi:In (.own (some g) t sz m c xs) H):Ro w g 0 xs:=by
 have h1:=hm.cells_own hi;refine ⟨?_,h1⟩;obtain ⟨_,_,_,junk,_,h2⟩:=(hm.on _ hi.mem).1;exact (XK.1 h2).1
theorem Ro.of_ro {w:World} {g o:Nat} {xs:List Value} (hm:Mem w0 w H) (h:Ro w0 g o xs):Ro w g o xs:=
 ⟨Nat.lt_of_lt_of_le h.lt hm.below.size,h.later hm⟩
theorem Ro.drop {w:World} {g o k:Nat} {xs:List Value} (h:Ro w g o xs):Ro w g (o+k) (xs.drop k):=⟨h.lt,h.cells.drop⟩
theorem Ro.take {w:World} {g o k:Nat} {xs:List Value} (h:Ro w g o xs):Ro w g o (xs.take k):=⟨h.lt,h.cells.take⟩
theorem Reads.of_own {w:World} {A:Option Nat} {t sz m c:Nat} {xs:List Value} (hm:Mem w0 w H) (hi:In (.own A t sz m c xs) H):Reads w (sl A m c) m xs:=by
 obtain ⟨h1,h2,h3,h4⟩:=(hm.on _ hi.mem).1;refine ⟨_,c,rfl,h2,h3,fun hpos=> ?_⟩
 cases A with
 |none=>obtain ⟨rfl,_⟩:=h4;omega
 |some g=>exact ⟨g,0,rfl,Ro.of_own hm hi⟩
theorem Reads.of_w0 {w:World} {v:Value} {m:Nat} {xs:List Value} (hm:Mem w0 w H) (h:Reads w0 v m xs):Reads w v m xs:=by
 obtain ⟨A,cap,rfl,h1,h2,h3⟩:=h;exact ⟨A,cap,rfl,h1,h2,fun hp=>let ⟨g,o,hA,hr⟩:=h3 hp;⟨g,o,hA,Ro.of_ro hm hr⟩⟩
theorem Reads.cut {w:World} {A:Option Addr} {m cap lo hi sz:Nat} {xs:List Value} (h:Reads w (.slice A m cap) m xs) (h1:lo≤hi) (h2:hi≤m):
 Reads w (.slice (if cap=lo then A else A.map (·.add (lo*sz))) (hi - lo) (cap - lo)) (hi - lo) ((xs.drop (lo*sz)).take ((hi - lo)*sz)):=by
 obtain ⟨A',cap',he,hm,hc,hr⟩:=h;injection he with e1 e2 e3;subst e1;subst e3;refine ⟨_,_,rfl,by omega,by omega,fun hp=> ?_⟩;obtain ⟨g,o,rfl,hro⟩:=hr (by omega);rw [if_neg (by omega)];exact ⟨g,o+lo*sz,by simp [cH],hro.drop.take⟩
theorem aU {c:Code} {A:Option Nat} {t sz m cap:Nat} {xs:List Value} (hi:In (.own A t sz m cap xs) H) (hm:0<m) (h: ∀ g,A=some g→W P n w0 c Q s H):W P n w0 c Q s H:=fun a w hs hmem=>by
 obtain ⟨_,_,_,h4⟩:=(hmem.on _ hi.mem).1
 cases A with
 |none=>obtain ⟨rfl,_⟩:=h4;omega
 |some g=>exact h g rfl a w hs hmem
theorem U8 {c:Code} {A:Option Nat} {t sz m cap:Nat} {xs:List Value} (hi:In (.own A t sz m cap xs) H) (h:xs.length=m*sz→m≤cap→cap≤maxLen→W P n w0 c Q s H):W P n w0 c Q s H:=fun a w hs hmem=>by
 obtain ⟨h1,h2,h3,_⟩:=(hmem.on _ hi.mem).1;exact h h1 h2 h3 a w hs hmem
theorem Mem.shrink {w:World} {A:Option Nat} {t sz m cap k:Nat} {xs:List Value} (hm:Mem w0 w (.own A t sz m cap xs::H)) (hk:k≤m):Mem w0 w (.own A t sz k cap (xs.take (k*sz))::H):=by
 have h0:=hm.on _ Xb;obtain ⟨⟨h1,h2,h3,h4⟩,h5⟩:=h0;have hlen:k*sz≤m*sz:=Zc _ hk;refine ⟨hm.below,fun b hb=> ?_,XG.2 ⟨fun x hx=>(XG.1 hm.apart).1 x hx,(XG.1 hm.apart).2⟩⟩;rcases Xt.1 hb with rfl|hb
 ·refine ⟨⟨by rw [XA];omega,by omega,h3,?_⟩,h5⟩
  cases A with
  |none=>obtain ⟨rfl,rfl⟩:=h4;exact ⟨by omega,rfl⟩
  |some g=>
   obtain ⟨junk,j1,j2⟩:=h4;exact ⟨xs.drop (k*sz)++junk,by rw [← XE,YD];exact j1,by rw [← XE,YD];exact j2⟩
 ·exact hm.on b (Xp _ hb)
theorem Ny {c:Code} {A:Option Nat} {t sz m cap:Nat} {xs:List Value} {R:List Blk} (hsel:Sel (.own A t sz m cap xs) H R) (k:Nat) (hk:k≤m) (h:W P n w0 c Q s (.own A t sz k cap (xs.take (k*sz))::R)):W P n w0 c Q s H:=
 fun a w hs hm=>h a w hs ((hm.sel hsel).shrink hk)
theorem J4 {ι:Type} {c:Code} (I:ι→az→List Blk→Prop) (μ:ι→Nat) (i0:ι) (h0: ∃ s0 H0,Sub s0 s∧MSub H0 H∧I i0 s0 H0)
 (round: ∀ i s H,I i s H→W P n w0 c (thn (fun s' H' => ∃ i' s1 H1,μ i' <μ i∧Sub s1 s' ∧MSub H1 H' ∧I i' s1 H1) Q) s H):W P n w0 (.loop c) Q s H:=by
 intro a w hs hm;obtain ⟨s0,H0,hs0,hH0,hI⟩:=h0;refine wp_loop_ghost (fun k a' w' => ∃ i s1 H1,I i s1 H1∧μ i=k∧St n s1 a' ∧Mem w0 w' H1) (μ i0) ⟨i0,s0,H0,hI,rfl,hs.sub hs0,hH0.use hm⟩ ?_;rintro k a1 w1 ⟨i,s1,H1,hI1,rfl,hs1,hm1⟩;refine wp_mono (round i s1 H1 hI1 a1 w1 hs1 hm1) ?_;rintro e a' w' ⟨s',H',h1,h2,h3⟩
 cases e with
 |normal=>
  obtain ⟨i',s2,H2,hlt,hsub,hms,hI2⟩:=h3;exact ⟨μ i',hlt,i',s2,H2,hI2,rfl,h1.sub hsub,hms.use h2⟩
 |_=>exact ⟨s',H',h1,h2,h3⟩
theorem lZ {t e hi m c sz:Nat} {A:Option Nat} {x q:Operand} {k:IntKind} [ht:Und P t (.slice e)] [hz:Size P e sz] (hx:ev s x=some (sl A m c)) (hq:ev s q=some (.int k (hi:Nat))) (h2:hi≤c):
 VOp P w0 s H (.slice t x none (some q) none) ty (sl A hi c):=by
 have h:=iR (P:=P) (w0:=w0) (H:=H) (ty:=ty) (t:=t) (xl:=none) (xh:=some q) (lo:=0) (hi:=hi) hx rfl ⟨k,hq⟩ (Xn _) h2;have e:(if c=0 then (A.map fun g=>(⟨g,0,none⟩:Addr)) else (A.map fun g=>(⟨g,0,none⟩:Addr)).map (·.add (0*sz)))=A.map fun g=>⟨g,0,none⟩:=by
  split
  ·rfl
  ·cases A<;>simp [cH]
 unfold sl at h ⊢;rw [e,YC,YC] at h;exact h
theorem kK {d t e sz by_:Nat} {ops:Array Oper} [ht:Und P t (.slice e)] [he:Elem P e sz by_] (hn:Nat.blt d n.sz=true)
 (k: ∀ g,WL P n w0 ops rest Q ((d,.slice (some ⟨g,0,none⟩) 0 0)::s) (.own (some g) e sz 0 0 []::H)):WL P n w0 ops (⟨some d,.buildSlice t 0 #[],ty,p,af,none⟩::rest) Q s H:=by
 refine oq (B:=fun g=> .own (some g) e sz 0 0 []) (v:=fun g=> .slice (some ⟨g,0,none⟩) 0 0) hn (fun a w hs hm=> ?_) k;obtain ⟨i,z,h1,h2,h3,h4,h5,h6⟩:=he.out;refine ⟨w.alloc (.cells #[] e),?_,World.grownBy_alloc w _ none,Blk.own_of (xs:= []) (heap_alloc_new w _) (by simp) rfl (Xn _),rfl⟩;have h0:Array.range 0= #[]:=rfl;simp [execOp,Instr.buildSlice,run_underlying ht.out,sizeOf,typeInfo,h1,Instr.fill,newRow,h0]
theorem ER {t e m c:Nat} {A:Option Addr} {x:Operand} {t' :TypeId} [ht:Und P t (.slice e)] (hx:ev s x=some (.slice A m c)):VOp P w0 s H (.binOp .eql t x (.const (.slice none 0 0)) t') ty (.bool A.isNone):=fun ρ w _ _ _ _ hρ _=>by
 have hc:=hρ (.const (.slice none 0 0)) _ rfl;simp [execOp,hρ x _ hx,hc,eqGuard,Lib.run_eql_slice_nil w t e A m c 0 0 ht.out]
theorem MSub.snoc {c:Blk} {K T U:List Blk} (hs:Sel c T U) (h:MSub K U):MSub (K++ [c]) T:=by
 obtain ⟨X,hp⟩:=h;refine ⟨X,hs.perm.trans ((hp.cons c).trans ?_)⟩;rw [XE];exact (ZO (l₁:=K) (a:=c) (l₂:=X)).symm
theorem MSub.rot {c:Blk} {K T:List Blk} (h:MSub (K++ [c]) T):MSub (c::K) T:=by
 obtain ⟨X,hp⟩:=h;exact ⟨X,hp.trans ((X6 (l₁:=K) (l₂:= [c])).append_right X)⟩
theorem m3 {x y:Operand} {a b:Nat} {t t' :TypeId} (hx:ev s x=some (.int .i64 (a:Nat))) (hy:ev s y=some (.int .i64 (b:Nat))) (h:b≤a) (ha:a≤maxLen):VOp P w0 s H (.binOp .sub t x y t') ty (.int .i64 ((a - b:Nat):Int)):=by
 have e:((a - b:Nat):Int)=(a:Int) - (b:Int):=by omega
 rw [e];exact Ti hx hy ⟨by omega,by simp only [maxLen] at ha;omega⟩
theorem m9 {x y:Operand} {a b:Nat} {t t' :TypeId} (hx:ev s x=some (.int .i64 (a:Nat))) (hy:ev s y=some (.int .i64 (b:Nat))) (ha:a+b≤maxLen):VOp P w0 s H (.binOp .add t x y t') ty (.int .i64 ((a+b:Nat):Int)):=by
 rw [Int.natCast_add];exact AE hx hy ⟨by omega,by simp only [maxLen] at ha;omega⟩
theorem gZ {x y:Operand} {a:Nat} {t t' :TypeId} (hx:ev s x=some (.int .i64 (a:Nat))) (hy:ev s y=some (.int .i64 1)) (ha:a+1≤maxLen):VOp P w0 s H (.binOp .add t x y t') ty (.int .i64 ((a+1:Nat):Int)):=m9 (b:=1) hx hy ha
theorem cQ {x y:Operand} {a:Nat} {t t' :TypeId} (hx:ev s x=some (.int .i64 (a:Nat))) (hy:ev s y=some (.int .i64 1)) (h:1≤a) (ha:a≤maxLen):VOp P w0 s H (.binOp .sub t x y t') ty (.int .i64 ((a - 1:Nat):Int)):=m3 (b:=1) hx hy h ha
theorem NN {x y:Operand} {a b:Nat} {ts:Array TypeId} (hx:ev s x=some (.int .i64 (a:Nat))) (hy:ev s y=some (.int .i64 (b:Nat))):
 VOp P w0 s H (.call { callee:= .builtin .max,args:= #[x,y],argTypes:=ts }) ty (.int .i64 ((max a b:Nat):Int)):=by
 have h:=J7 (P:=P) (w0:=w0) (H:=H) (ty:=ty) (ts:=ts) hx hy;have e:(if (a:Int)<(b:Int) then (b:Int) else (a:Int))=((max a b:Nat):Int):=by split<;>omega
 rw [← e];exact h
theorem FnIn.msub {f:FuncId} {args:List Value} {H' :List Blk} {R:Value→List Blk→Prop} (h:FnIn P f args w0 H' R) (hs:MSub H' H):FnIn P f args w0 H R:=fun w hm=>h w (hs.use hm)
theorem aP {x:Operand} {t g o m:Nat} {xs:List Value} [Agg P t m] (hx:ev s x=some (.pointer (some ⟨g,o,none⟩))) (hr:Ro w0 g o xs) (hl:Nat.beq xs.length m=true):VOp P w0 s H (.load t x) ty (.agg xs.toArray):=by
 have hm:=X7 hl;exact m6 (off:=0) hr hx (by rw [Zl,← hm,XF]) hm
theorem rA {x:Operand} {t g o:Nat} {v:Value} [One P t] (hx:ev s x=some (.pointer (some ⟨g,o,none⟩))) (hr:Ro w0 g o [v]):VOp P w0 s H (.load t x) ty v:=bu (off:=0) hr hx rfl
theorem m7 {x:Operand} {t g o off:Nat} {xs:List Value} {v:Value} [One P t] (hx:ev s x=some (.pointer (some ⟨g,o+off,none⟩))) (hr:Ro w0 g o xs) (hv:xs[off]? =some v):VOp P w0 s H (.load t x) ty v:=bu hr hx hv
theorem EN {x:Operand} {t T g off m n' c sz:Nat} {xs ys:List Value} [Agg P t m] (hx:ev s x=some (.pointer (some ⟨g,off,none⟩))) (hi:In (.own (some g) T sz n' c xs) H) (hv:(xs.drop off).take m=ys) (hl:Nat.beq ys.length m=true):
 VOp P w0 s H (.load t x) ty (.agg ys.toArray):=au hx hi hv (X7 hl)
end
section
variable {α:Type} {enc:α→List Value} {m:Nat}
theorem mJ (h: ∀ a,(enc a).length=m): ∀ (L:List α) (i:Nat),(L.flatMap enc).drop (i*m)=(L.drop i).flatMap enc
 | [],i=>by simp
 |a::L,0=>by simp
 |a::L,i+1=>by
  rw [Xx,aaa,← mJ h L i,show (i+1)*m=(enc a).length+i*m by rw [h a,Y7,Z5,Zu],List.drop_append];simp
theorem jv (h: ∀ a,(enc a).length=m): ∀ (L:List α) (i:Nat),(L.flatMap enc).take (i*m)=(L.take i).flatMap enc
 | [],i=>by simp
 |a::L,0=>by simp
 |a::L,i+1=>by
  rw [Xx,List.take_succ_cons,Xx,← jv h L i,show (i+1)*m=(enc a).length+i*m by rw [h a,Y7,Z5,Zu],List.take_append,YE (Nat.le_add_right _ _)];simp
theorem aR (h: ∀ a,(enc a).length=m) (L:List α):(L.flatMap enc).length=L.length*m:=by
 induction L with
 |nil=>simp
 |cons a L ih=>rw [Xx,Xa,h a,ih,Xs,Y7,Z5,Zu]
theorem aM (h: ∀ a,(enc a).length=m) (L:List α) (i:Nat) (hi:i<L.length):((L.flatMap enc).drop (i*m)).take m=enc L[i]:=by
 rw [mJ h,XC hi,Xx,YP (by rw [h];exact Xy _),← h L[i],XF]
theorem jw (h: ∀ a,(enc a).length=m) (L:List α) (i k:Nat) (hi:i<L.length) (hk:k<m):(L.flatMap enc)[i*m+k]? =(enc L[i])[k]? :=by
 have h1:=aM h L i hi;rw [← h1,List.getElem?_take,if_pos hk,Zo]
theorem Gi (h: ∀ a,(enc a).length=m) (L:List α) (i:Nat) (hi:i<L.length) (a:α):(L.flatMap enc).take (i*m)++enc a++(L.flatMap enc).drop (i*m+m)=(L.set i a).flatMap enc:=by
 rw [show i*m+m=(i+1)*m by rw [Y7,Z5],jv h,mJ h,List.set_eq_take_append_cons_drop,if_pos hi];simp
theorem Ro.elem {w:World} {g o:Nat} (h: ∀ a,(enc a).length=m) {L:List α} (hr:Ro w g o (L.flatMap enc)) (i:Nat) (hi:i<L.length):Ro w g (o+i*m) (enc L[i]):=by
 rw [← aM h L i hi];exact hr.drop.take
end
open Go.Proofs
attribute [local irreducible] FnAt FnIn VOp W WA WG WL WQ aY blk thn
theorem wrap_i64 {a:Int} (h1:0≤a) (h2:a≤255):IntKind.i64.wrap a=a:=I64.wrap ⟨by omega,by omega⟩
def k1:Nd:=⟨1,⟨1,50000,aS⟩,bU,0,0,0⟩
def k2:Nd:=⟨2,cU,⟨1,1,1,1⟩,0,0,0⟩
def k3:Nd:=⟨3,cU,⟨1,1,2,2⟩,0,0,0⟩
def k6:Nd:=⟨6,cU,bU,1,0,0⟩
def j7:Nd:=⟨7,cU,bU,0,46,1⟩
theorem Reads.of_row {w0 w:World} {H:List Blk} {g t sz m c:Nat} {xs:List Value} (hm:Mem w0 w H) (hi:In (.own (some g) t sz m c xs) H):Reads w (.slice (some ⟨g,0,none⟩) m c) m xs:=Reads.of_own hm hi
end Go.SL
namespace Go.SL
open Go Go.RowKit
section
variable {α:Type} {enc:α→List Value} {w0:World}
def U1 (enc:α→List Value) (w0:World) (F:List Blk) (vals:List Value) (Ts:List (List α)):Prop:=
 vals.length=Ts.length∧ ∀ (j:Nat) (x:Value) (T:List α),vals[j]? =some x→Ts[j]? =some T→ ∀ w,Mem w0 w F→Reads w x T.length (T.flatMap enc)
end
theorem ve {α:Type} {enc:α→List Value} {m:Nat} {P:Program} {w0:World} {s:az} {H:List Blk} {ty:TypeId} {x:Operand} {t T g n' c sz i k:Nat} {L:List α} {a:α} {v:Value} [One P t] (henc: ∀ a,(enc a).length=m) (hx:ev s x=some (.pointer (some ⟨g,0+i*m+k,none⟩))) (hi:In (.own (some g) T sz n' c (L.flatMap enc)) H) (hk:k<m) (ha:L[i]? =some a) (hv:(enc a)[k]? =some v):
 VOp P w0 s H (.load t x) ty v:=by
 obtain ⟨hlt,rfl⟩:=XJ.1 ha;rw [Xv] at hx;exact bB hx hi (by rw [jw henc L i k hlt hk];exact hv)
theorem eH {P:Program} {w0:World} {s:az} {H:List Blk} {ty:TypeId} {x:Operand} {t g o off m:Nat} {xs ys:List Value} [Agg P t m] (hc: ∀ w,Mem w0 w H→Cells w g o xs) (hx:ev s x=some (.pointer (some ⟨g,o+off,none⟩))) (hv:(xs.drop off).take m=ys) (hl:ys.length=m):
 VOp P w0 s H (.load t x) ty (.agg ys.toArray):=fun ρ w _ _ _ _ hρ hm=>by
 subst hv;have hc:Cells w g (o+off) ((xs.drop off).take m):=((hc w hm).drop (k:=off)).take (k:=m);simp [execOp,hρ x _ hx,Instr.loadAt,Instr.sureAddr,gy (P:=P) hl hc]
theorem J3 {P:Program} {n:Fr} {w0:World} {Q:bK} {s:az} {H:List Blk} {c:Code} {lv:Value} {m:Nat} {xs:List Value} (hr: ∀ w,Mem w0 w H→Reads w lv m xs) (h0:0<m) (h: ∀ g o cp,lv= .slice (some ⟨g,o,none⟩) m cp→W P n w0 c Q s H):W P n w0 c Q s H:=fun a w hs hm=>by
 obtain ⟨A,cp,e,_,_,h3⟩:=hr w hm;obtain ⟨g,o,e2,_⟩:=h3 h0;exact h g o cp (by rw [e,e2]) a w hs hm
theorem S9 {P:Program} {n:Fr} {w0:World} {Q:bK} {s:az} {H:List Blk} {c:Code} {lv:Value} {m:Nat} {xs:List Value} (hr: ∀ w,Mem w0 w H→Reads w lv m xs) (h: ∀ A cp,lv= .slice A m cp→W P n w0 c Q s H):W P n w0 c Q s H:=fun a w hs hm=>by
 obtain ⟨A,cp,e,_⟩:=hr w hm;exact h A cp e a w hs hm
theorem pJ {w:World} {g o m cp:Nat} {xs:List Value} (h:Reads w (.slice (some ⟨g,o,none⟩) m cp) m xs) (h0:0<m):Cells w g o xs:=by
 obtain ⟨A,c,e,_,_,h3⟩:=h;obtain ⟨g',o',rfl,h4⟩:=h3 h0;cases e;exact h4.cells
section
variable {P:Program} {n:Fr} {w0:World} {Q:bK} {s:az} {H:List Blk} {l:List Oper} {f:Nat} {L:Array Bool}
theorem J2 {i:Nat} {o:Oper} (hi:l[i]? =some o) (h:WL P n w0 l.toArray [o] (thn (WA P n w0 l Q f (L.setIfInBounds i true)) Q) s H) (a:Act) (w:World) (hs:St n s a) (hm:Mem w0 w H):
 wpOp P l.toArray (post n w0 Q) i (wpAny P .any l.toArray (post n w0 Q) f (L.setIfInBounds i true)) a w:=by
 have h1:=h a w hs hm;have hi' :l.toArray[i]? =some o:=by simpa using hi
 unfold wpOp;simp only [hi'];unfold wpList at h1;have hnext: ∀ a w,wpList P l.toArray (post n w0 (thn (WA P n w0 l Q f (L.setIfInBounds i true)) Q)) [] a w→wpAny P .any l.toArray (post n w0 Q) f (L.setIfInBounds i true) a w:=by
  rintro a w ⟨s',H',h1,h2,h3⟩;exact h3 a w h1 h2
 split
 ·rename_i hw;rw [if_pos hw] at h1;refine h1.imp (fun h2=>AH hnext (fun c a w h=>h) (fun a w h=>h) h2) fun ⟨h2,a0,w0,h3⟩=>⟨h2,a0,w0,h3⟩
 ·rename_i hw;rw [if_neg hw] at h1;exact hnext _ _ h1
theorem Cz {i j:Nat} {oi oj:Oper} (hi:l[i]? =some oi) (hj:l[j]? =some oj) (hr:Region.ready .any l.toArray L= [i,j]) (h1:WL P n w0 l.toArray [oi] (thn (WA P n w0 l Q f (L.setIfInBounds i true)) Q) s H)
 (h2:WL P n w0 l.toArray [oj] (thn (WA P n w0 l Q f (L.setIfInBounds j true)) Q) s H):WA P n w0 l Q (f+1) L s H:=by
 intro a w hs hm;refine ⟨fun h0=>(by rw [hr] at h0;cases h0),fun k hk=> ?_⟩;rw [hr] at hk;rcases Xt.1 hk with e|hk
 ·subst e;exact J2 hi h1 a w hs hm
 ·have e:k=j:=by simpa using hk
  subst e;exact J2 hj h2 a w hs hm
end
end Go.SL

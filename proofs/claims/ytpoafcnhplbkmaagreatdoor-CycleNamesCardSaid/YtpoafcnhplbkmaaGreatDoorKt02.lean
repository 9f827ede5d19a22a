/-
  Lemmas and walks, put together: Sl4 Sl5 Sl6 Sv Sl13 Sl22 Hc Sl30.
-/
import Derived.Ground.SlgmProg
import Derived.Shelf.SortM.Plain
import Derived.Shelf.SortM.SortNone
import Derived.Test.YtpoafcnhplbkmaaGreatDoorKt01
set_option linter.unusedSimpArgs false
set_option linter.unusedVariables false
set_option maxRecDepth 20000
set_option maxHeartbeats 16000000
namespace Go.SL
open Go Go.RowKit
def FnAt (P:Program) (f:FuncId) (args:List Value) (w:World) (R:Value→List Blk→Prop):Prop:=
 Calls P f args.toArray w fun e w' => ∃ v H',e= .returned v∧Mem w w' H' ∧R v H'
def aC (P:Program) (f:FuncId) (args:List Value) (w:World) (v:Value):Prop:=FnAt P f args w fun u _=>u=v
def FnIn (P:Program) (f:FuncId) (args:List Value) (w0:World) (H:List Blk) (R:Value→List Blk→Prop):Prop:=
 ∀ w,Mem w0 w H→Calls P f args.toArray w fun e w' => ∃ v H',e= .returned v∧Mem w0 w' H' ∧R v H'
theorem FnAt.mono {P:Program} {f:FuncId} {args:List Value} {w:World} {R R' :Value→List Blk→Prop} (h:FnAt P f args w R) (hr: ∀ v H,R v H→R' v H):FnAt P f args w R' :=
 Calls.mono h fun _ _ ⟨v,H',h1,h2,h3⟩=>⟨v,H',h1,h2,hr _ _ h3⟩
theorem FnIn.mono {P:Program} {f:FuncId} {args:List Value} {w0:World} {H:List Blk} {R R' :Value→List Blk→Prop} (h:FnIn P f args w0 H R) (hr: ∀ v H,R v H→R' v H):FnIn P f args w0 H R' :=
 fun w hm=>Calls.mono (h w hm) fun _ _ ⟨v,H',h1,h2,h3⟩=>⟨v,H',h1,h2,hr _ _ h3⟩
theorem FnIn.of_at {P:Program} {f:FuncId} {args:List Value} {w0:World} {H:List Blk} {R:Value→List Blk→Prop} (h: ∀ w,Mem w0 w H→FnAt P f args w R):
 FnIn P f args w0 H fun v H' => ∃ H1,R v H1∧H' =H1++H:=
 fun w hm=>Calls.mono (h w hm) fun _ _ ⟨v,H',h1,h2,h3⟩=>⟨v,H' ++H,h1,hm.call h2,H',h3,rfl⟩
def evs (s:au):List Operand→Option (List Value)
 | []=>some []
 |x::r=>match ev s x,evs s r with
  |some v,some vs=>some (v::vs)
  |_,_=>none
section
variable {P:Program} {n:Fr} {w0:World} {Q:aO} {s:au} {H:List Blk} {l rest:List Oper} {ty:TypeId} {p:String} {af:Array Edge}
theorem ez {a:Act} (hs:St n s a): ∀ {xs:List Operand} {vs:List Value},evs s xs=some vs→xs.map a.eval=vs
 | [],vs,h=>by simp only [evs,Option.some.injEq] at h;simp [← h]
 |x::r,vs,h=>by
  simp only [evs] at h;split at h
  ·rename_i v vs' hv hvs;simp only [Option.some.injEq] at h;rw [← h,Ja,ez hs hvs,hs.eval x v hv]
  ·cases h
theorem ju {ρ:Operand→Value} {w:World} {d:Option Tmp} {g:Option (Nat × Bool)} {f:FuncId} {c:Operand} {xs:List Operand} {vs caps:List Value} {ts:Array TypeId} [hf:Callable P f] (hc:ρ c= .func (.func f) #[] caps.toArray) (hx:xs.map ρ=vs):
 (execOp ρ ⟨d,.call { callee:= .value c,args:=xs.toArray,argTypes:=ts },ty,p,af,g⟩).run P w= .ok (.enter f (vs++caps).toArray) w:=by
 simp [execOp,resolve,hc,Deferred.ofValue,invoke,← hx,hf.out]
theorem ap {d:Nat} {ops:Array Oper} {f:FuncId} {xs:List Operand} {vs:List Value} {ts:Array TypeId} {R:Value→List Blk→Prop} [Callable P f] (hn:Nat.blt d n.sz=true) (hx:evs s xs=some vs)
 (hF:FnIn P f vs w0 H R) (k: ∀ v H',R v H' →WL P n w0 ops rest Q ((d,v)::s) H'):
 WL P n w0 ops (⟨some d,.call { callee:= .value (.func f),args:=xs.toArray,argTypes:=ts },ty,p,af,none⟩::rest) Q s H:=by
 intro a w hs hm;refine wpList_plain rfl fun K hK=> ?_;have hr:=ju (P:=P) (w:=w) (ρ:=a.eval) (d:=some d) (ty:=ty) (p:=p) (af:=af) (g:=none) (f:=f) (c:= .func f) (xs:=xs) (caps:= []) (ts:=ts) rfl (ez hs hx);rw [I3] at hr;simp only [Oper.wp,hr,Oper.upon];refine (hF w hm).mono ?_;rintro e w' ⟨v,H',rfl,hm',hR⟩;exact hK _ _ (k v H' hR _ _ (hs.put (Jf ▸ hn) _) hm')
theorem fP {d:Nat} {ops:Array Oper} {f:FuncId} {c:Operand} {xs:List Operand} {vs caps:List Value} {ts:Array TypeId} {R:Value→List Blk→Prop} (hn:Nat.blt d n.sz=true) (hc:ev s c=some (.func (.func f) #[] caps.toArray)) (hfc:Callable P f) (hx:evs s xs=some vs)
 (hF:FnIn P f (vs++caps) w0 H R) (k: ∀ v H',R v H' →WL P n w0 ops rest Q ((d,v)::s) H'):
 WL P n w0 ops (⟨some d,.call { callee:= .value c,args:=xs.toArray,argTypes:=ts },ty,p,af,none⟩::rest) Q s H:=by
 intro a w hs hm;refine wpList_plain rfl fun K hK=> ?_;have hr:=ju (P:=P) (w:=w) (ρ:=a.eval) (d:=some d) (ty:=ty) (p:=p) (af:=af) (g:=none) (f:=f) (c:=c) (xs:=xs) (caps:=caps) (ts:=ts) (hs.eval c _ hc) (ez hs hx);simp only [Oper.wp,hr,Oper.upon];refine (hF w hm).mono ?_;rintro e w' ⟨v,H',rfl,hm',hR⟩;exact hK _ _ (k v H' hR _ _ (hs.put (Jf ▸ hn) _) hm')
theorem aH {d:Nat} {ops:Array Oper} {f:FuncId} {xs:List Operand} {vs:List Value} {ts:Array TypeId} {R:Value→List Blk→Prop} [Callable P f] (hn:Nat.blt d n.sz=true) (hx:evs s xs=some vs)
 (hF: ∀ w,Mem w0 w H→FnAt P f vs w R) (k: ∀ v H',R v H' →WL P n w0 ops rest Q ((d,v)::s) (H' ++H)):
 WL P n w0 ops (⟨some d,.call { callee:= .value (.func f),args:=xs.toArray,argTypes:=ts },ty,p,af,none⟩::rest) Q s H:=
 ap hn hx (FnIn.of_at hF) fun v _ ⟨H1,h1,h2⟩=>h2 ▸ k v H1 h1
theorem ag {d:Nat} {ops:Array Oper} {f:FuncId} {xs:List Operand} {vs:List Value} {v:Value} {ts:Array TypeId} [Callable P f] (hn:Nat.blt d n.sz=true) (hx:evs s xs=some vs)
 (hF: ∀ w,Mem w0 w H→aC P f vs w v) (k:WL P n w0 ops rest Q ((d,v)::s) H):
 WL P n w0 ops (⟨some d,.call { callee:= .value (.func f),args:=xs.toArray,argTypes:=ts },ty,p,af,none⟩::rest) Q s H:=
 aH hn hx (R:=fun u _=>u=v) hF fun u H' e=>by
  subst e;exact rK ⟨H',I2⟩ k
def Res (P:Program) (fn:Func) (n:Fr) (w0:World) (s:au) (H:List Blk) (v:Value):Prop:=
 ∀ a w,St n s a→Mem w0 w H→(results fn a.tmps).run P w= .ok v w
def aJ (P:Program) (fn:Func) (n:Fr) (w0:World) (R:Value→List Blk→Prop):aO:=fun e s H=>(e= .ret∨e= .normal)∧ ∃ v H',MSub H' H∧Res P fn n w0 s H v∧R v H'
def mf:List Value→Nat→au
 | [],_=> []
 |v::r,k=>(k,v)::mf r (k+1)
theorem ij (args:List Value) (k t:Nat):look (mf args k) t=if k≤t then args[t - k]? else none:=by
 induction args generalizing k with
 |nil=>simp [mf,look]
 |cons v r ih=>
  simp only [mf];rw [eM,ih];by_cases h:k=t
  ·subst h;simp
  ·rw [if_neg h];by_cases h2:k≤t
   ·rw [if_pos h2,if_pos (by omega),show t - k=(t - (k+1))+1 by omega,Kz]
   ·rw [if_neg h2,if_neg (by omega)]
theorem cd {m:Nat} {f:FuncId} {fn:Func} {c:Code} {args:List Value} {R:Value→List Blk→Prop} (hf:P.funcs[f]? =some fn) (hb:fn.body=some c) (hn:fn.ntmps=m) (hle:Nat.ble args.length m=true)
 (h:W P ⟨m,[]⟩ w0 c (aJ P fn ⟨m,[]⟩ w0 R) (mf args 0) H):FnIn P f args w0 H R:=by
 intro w hm;have hle' :args.length≤m:=by simpa using hle
 refine calls_of_wp hf hb (wp_mono (h { tmps:=args.toArray++Array.replicate (fn.ntmps - args.toArray.size) undef,defers:= [] } w ⟨?_,rfl,?_⟩ hm) ?_)
 ·simp [hn];omega
 ·intro t v ht;rw [ij] at ht;simp only [Iw,if_true,JJ] at ht;have hlt:t<args.length:=(IQ.1 ht).1;rw [Ju (by simpa using hlt)];simpa using ht
 ·rintro e a w' ⟨s',H',hs,hm',he,v,H'',hsub,hr,hR⟩;have hp:a.defers= []∧ ∃ v,(results fn a.tmps).run P w' = .ok v w' ∧ ∃ v1 H1,Ending.returned v= .returned v1∧Mem w0 w' H1∧R v1 H1:=
   ⟨hs.defers,v,hr a w' hs hm',v,H'',rfl,hsub.use hm',hR⟩
  rcases he with rfl|rfl<;>exact hp
theorem ax {m:Nat} {f:FuncId} {fn:Func} {c:Code} {args:List Value} {w:World} {R:Value→List Blk→Prop} (hf:P.funcs[f]? =some fn) (hb:fn.body=some c) (hn:fn.ntmps=m) (hle:Nat.ble args.length m=true)
 (h:W P ⟨m,[]⟩ w c (aJ P fn ⟨m,[]⟩ w R) (mf args 0) []):FnAt P f args w R:=cd hf hb hn hle h w (Mem.refl w)
section res
variable {fn:Func} {R:Value→List Blk→Prop} {e:Exit}
theorem gN (he:e= .ret∨e= .normal) (hr:fn.results= #[]) {H' :List Blk} (hs:MSub H' H) (h:R (.tuple #[]) H'):aJ P fn n w0 R e s H:=
 ⟨he,_,H',hs,fun a w _ _=>by simp [results,hr],h⟩
theorem bB (he:e= .ret∨e= .normal) {t:Tmp} {v:Value} (hr:fn.results= #[.tmp t]) (hv:look s t=some v) {H' :List Blk} (hs:MSub H' H) (h:R v H'):aJ P fn n w0 R e s H:=
 ⟨he,v,H',hs,fun a w hst _=>by
  have:=hst.has t v hv;simp [results,hr,I4,this],h⟩
theorem eX (he:e= .ret∨e= .normal) {t u:Tmp} {v x:Value} (hr:fn.results= #[.tmp t,.tmp u]) (hv:look s t=some v) (hx:look s u=some x) {H' :List Blk} (hs:MSub H' H) (h:R (.tuple #[v,x]) H'):aJ P fn n w0 R e s H:=
 ⟨he,_,H',hs,fun a w hst _=>by
  have h1:=hst.has t v hv;have h2:=hst.has u x hx;simp [results,hr,I4,h1,h2],h⟩
theorem zM (he:e= .ret∨e= .normal) {t u q:Tmp} {v x y:Value} (hr:fn.results= #[.tmp t,.tmp u,.tmp q]) (hv:look s t=some v) (hx:look s u=some x) (hy:look s q=some y) {H' :List Blk} (hs:MSub H' H) (h:R (.tuple #[v,x,y]) H'):aJ P fn n w0 R e s H:=
 ⟨he,_,H',hs,fun a w hst _=>by
  have h1:=hst.has t v hv;have h2:=hst.has u x hx;have h3:=hst.has q y hy;simp [results,hr,I4,h1,h2,h3],h⟩
end res
def WQ (P:Program) (n:Fr) (w0:World) (ops:Array Oper) (rest:List Oper) (K:au→Prop) (s:au) (H:List Blk):Prop:=
 ∀ a,St n s a→wpQuiet P ops (fun w=>Mem w0 w H) (fun a' => ∃ s',St n s' a' ∧K s') rest a
theorem BA {id:Nat} (hm:P.follows .mixedOrders=true) (hB:Region.lexB .any l.toArray=true) (h:WQ P n w0 l.toArray l (fun s' =>Q .normal s' H) s H):W P n w0 (.region id l.toArray true) Q s H:=by
 intro a w hs hmem;refine wp_region_quiet (C:=fun w=>Mem w0 w H) hm hB hmem.drew ?_;have h1:=h a hs;have mono: ∀ (r:List Oper) (a:Act) (K K' :Act→Prop),(∀ a,K a→K' a)→wpQuiet P l.toArray (fun w=>Mem w0 w H) K r a→wpQuiet P l.toArray (fun w=>Mem w0 w H) K' r a:=by
  intro r
  induction r with
  |nil=>intro a K K' hk h;exact hk _ h
  |cons o r ih=>
   intro a K K' hk h;unfold wpQuiet at h ⊢;split
   ·rename_i hw;rw [if_pos hw] at h;exact Oper.quiet_mono (fun a' h' =>ih a' K K' hk h') h
   ·rename_i hw;rw [if_neg hw] at h;exact ih _ K K' hk h
 simp only [Kt];exact mono _ _ _ _ (fun a' ⟨s',h2,h3⟩ w' hw' =>⟨s',H,h2,hw',h3⟩) h1
variable {K:au→Prop}
theorem FG {ops:Array Oper} (h:K s):WQ P n w0 ops [] K s H:=fun _ hs=>⟨s,hs,h⟩
theorem cg {ops:Array Oper} {op:Op} {d:Nat} {v:Value} (hn:Nat.blt d n.sz=true) (hv:VOp P w0 s H op ty v) (k:WQ P n w0 ops rest K ((d,v)::s) H):
 WQ P n w0 ops (⟨some d,op,ty,p,af,none⟩::rest) K s H:=by
 intro a hs;unfold wpQuiet;simp only [Region.wanted,if_true];refine ⟨v,fun w hm=> ?_,k _ (hs.put (Jf ▸ hn) v)⟩;unfold Oper.quietAt;rw [hv a.eval w _ _ _ _ hs.eval hm];exact ⟨rfl,rfl⟩
theorem jn {d:Nat} {ops:Array Oper} {f:FuncId} {xs:List Operand} {vs:List Value} {v:Value} {ts:Array TypeId} [Callable P f] (hn:Nat.blt d n.sz=true) (hx:evs s xs=some vs)
 (hF: ∀ w,Mem w0 w H→aC P f vs w v) (k:WQ P n w0 ops rest K ((d,v)::s) H):
 WQ P n w0 ops (⟨some d,.call { callee:= .value (.func f),args:=xs.toArray,argTypes:=ts },ty,p,af,none⟩::rest) K s H:=by
 intro a hs;unfold wpQuiet;simp only [Region.wanted,if_true];refine ⟨v,fun w hm=> ?_,k _ (hs.put (Jf ▸ hn) v)⟩;unfold Oper.quietAt;have hr:=ju (P:=P) (w:=w) (ρ:=a.eval) (d:=some d) (ty:=ty) (p:=p) (af:=af) (g:=none) (f:=f) (c:= .func f) (xs:=xs) (caps:= []) (ts:=ts) rfl (ez hs hx);rw [I3] at hr;rw [hr];refine ⟨rfl,Calls.mono (hF w hm) ?_⟩;rintro e w' ⟨u,H',rfl,hm',rfl⟩;exact ⟨rfl,(hm.call hm').right⟩
theorem DB {op:Op} {dst:Option Tmp} {j d:Nat} {cx:Bool} (hj:gd l j=some d) (hv:look s d=some (.bool cx))
 (k:WQ P n w0 l.toArray (⟨dst,op,ty,p,af,none⟩::rest) K s H):WQ P n w0 l.toArray (⟨dst,op,ty,p,af,some (j,cx)⟩::rest) K s H:=by
 intro a hs;have h:=k a hs;have hy:=fO hs hj hv;unfold wpQuiet at h ⊢;simp only [Region.wanted,if_true] at h;simp only [Region.wanted,hy,jh,beq_self_eq_true,if_true];exact h
theorem FH {op:Op} {dst j d:Nat} {cx:Bool} {v:Value} (hj:gd l j=some d) (hv:look s d=some v) (hw:jh v≠some cx) (hn:Nat.blt dst n.sz=true)
 (k:WQ P n w0 l.toArray rest K ((dst,undef)::s) H):WQ P n w0 l.toArray (⟨some dst,op,ty,p,af,some (j,cx)⟩::rest) K s H:=by
 intro a hs;have hy:=fO hs hj hv;have:(yielded l.toArray a.tmps j==some cx)=false:=by rw [hy];simpa using hw
 unfold wpQuiet;simp only [Region.wanted,this];exact k _ (hs.put (Jf ▸ hn) _)
theorem y9 {op:Op} {dst:Option Tmp} {j d:Nat} {cx b:Bool} (_hj:gd l j=some d) (hv:look s d=some (.bool b))
 (k1:b=true→WQ P n w0 l.toArray (⟨dst,op,ty,p,af,some (j,cx)⟩::rest) K ((d,.bool true)::s) H)
 (k2:b=false→WQ P n w0 l.toArray (⟨dst,op,ty,p,af,some (j,cx)⟩::rest) K ((d,.bool false)::s) H):
 WQ P n w0 l.toArray (⟨dst,op,ty,p,af,some (j,cx)⟩::rest) K s H:=by
 intro a hs
 cases b with
 |true=>exact k1 rfl a (hs.shadow hv)
 |false=>exact k2 rfl a (hs.shadow hv)
end
end Go.SL
namespace Go.SL
section
variable {P:Program} {n:Fr} {w0:World} {Q:aO} {s:au} {H:List Blk} {l rest:List Oper} {ty:TypeId} {p:String} {af:Array Edge} {K:au→List Blk→Prop} {id id' :Nat}
theorem Hr (h:K s H):thn K Q .normal s H:=h
theorem Hp (h:Q .ret s H):thn K Q .ret s H:=h
theorem Hs (h:Q (.exit id) s H):thn K Q (.exit id) s H:=h
theorem H4 (h:Q .normal s H):blk id Q .normal s H:=h
theorem HY (h:Q .ret s H):blk id Q .ret s H:=h
theorem H5 (h:Q .normal s H):blk id Q (.exit id) s H:=by simp only [blk,if_true];exact h
theorem HX (hne:Nat.beq id' id=false) (h:Q (.exit id') s H):blk id Q (.exit id') s H:=by
 have: ¬ id' =id:=Nat.ne_of_beq_eq_false hne;simp only [blk,if_neg this];exact h
theorem Bp {op:Op} {dst j d:Nat} {cx b:Bool} (hj:gd l j=some d) (hv:look s d=some (.bool b)) (hw:(b==cx)=false) (hn:Nat.blt dst n.sz=true)
 (k:WL P n w0 l.toArray rest Q ((dst,undef)::s) H):WL P n w0 l.toArray (⟨some dst,op,ty,p,af,some (j,cx)⟩::rest) Q s H:=
 Br hj hv (by simpa [jh] using hw) hn k
theorem Bo {op:Op} {dst j d:Nat} {cx:Bool} (hj:gd l j=some d) (hv:look s d=some (.tuple #[])) (hn:Nat.blt dst n.sz=true)
 (k:WL P n w0 l.toArray rest Q ((dst,undef)::s) H):WL P n w0 l.toArray (⟨some dst,op,ty,p,af,some (j,cx)⟩::rest) Q s H:=
 Br hj hv (by simp [jh]) hn k
theorem Bj {KQ:au→Prop} {op:Op} {dst j d:Nat} {cx b:Bool} (hj:gd l j=some d) (hv:look s d=some (.bool b)) (hw:(b==cx)=false) (hn:Nat.blt dst n.sz=true)
 (k:WQ P n w0 l.toArray rest KQ ((dst,undef)::s) H):WQ P n w0 l.toArray (⟨some dst,op,ty,p,af,some (j,cx)⟩::rest) KQ s H:=
 FH hj hv (by simpa [jh] using hw) hn k
theorem ud {x:Operand} {t T g off m:Nat} {xs ys:List Value} [Agg P t m] (hx:ev s x=some (.pointer (some ⟨g,off,none⟩))) (hi:In (.box g T xs) H) (hv:o4 ((xs.drop off).take m)=some ys) (hl:Nat.beq ys.length m=true):
 VOp P w0 s H (.load t x) ty (.agg ys.toArray):=mQ hx hi (fB hv).symm (I9 hl)
theorem ub {x:Operand} {t T g m:Nat} {xs:List Value} [Agg P t m] (hx:ev s x=some (.pointer (some ⟨g,0,none⟩))) (hi:In (.box g T xs) H) (hl:Nat.beq xs.length m=true):
 VOp P w0 s H (.load t x) ty (.agg xs.toArray):=by
 have hm:=I9 hl;exact mQ hx hi (by rw [Ki,← hm,I5]) hm
theorem p9 {ops:Array Oper} {t T g off:Nat} {x a:Operand} {xs ys:List Value} {v:Value} {R:List Blk} [Size P t 1] (ha:ev s a=some (.pointer (some ⟨g,off,none⟩))) (hx:ev s x=some v)
 (hsel:Sel (.box g T xs) H R) (hv:v.oneCell' =true) (hfit:Nat.blt off xs.length=true) (hn:o4 (xs.set off v)=some ys)
 (k:WL P n w0 ops rest Q s (.box g T ys::R)):WL P n w0 ops (⟨none,.store t a x,ty,p,af,none⟩::rest) Q s H:=
 rH ha hx hsel hv hfit (fB hn ▸ k)
theorem tQ {ops:Array Oper} {t T g off m:Nat} {x a:Operand} {xs vs ys:List Value} {R:List Blk} [Size P t m] (ha:ev s a=some (.pointer (some ⟨g,off,none⟩))) (hx:ev s x=some (.agg vs.toArray))
 (hsel:Sel (.box g T xs) H R) (hl:Nat.beq vs.length m=true) (h1:vs.all Value.oneCell' =true) (hfit:Nat.ble (off+m) xs.length=true) (hn:o4 (xs.take off++vs++xs.drop (off+m))=some ys)
 (k:WL P n w0 ops rest Q s (.box g T ys::R)):WL P n w0 ops (⟨none,.store t a x,ty,p,af,none⟩::rest) Q s H:=
 nW ha hx hsel rfl (I9 hl) (by simpa using h1) (by simpa using hfit) (fB hn ▸ k)
end
end Go.SL
namespace Go.SL
open Go Go.RowKit
section
variable {P:Program} {n:Fr} {w0:World} {Q:aO} {s:au} {H:List Blk} {l rest:List Oper} {ty:TypeId} {p:String} {af:Array Edge}
theorem Ha {x y:Operand} {k k' :IntKind} {a:Int} {m:Nat} {t t' :TypeId} (hx:ev s x=some (.int k a)) (hy:ev s y=some (.int k' (m:Nat))) (hm:Nat.ble m k.bits=true):
 VOp P w0 s H (.binOp .shr t x y t') ty (.int k (a / 2 ^ m)):=fun ρ w _ _ _ _ hρ _=>by
 have hm' :m≤k.bits:=by simpa using hm
 have h0:(0:Int)≤(m:Int):=by omega
 simp [execOp,hρ x _ hx,hρ y _ hy,eqGuard,binOp,shift_shr_any k k' a m h0,Kw hm']
theorem ou {f:FuncId} {caps:List Operand} {vs:List Value} (hc:evs s caps=some vs):VOp P w0 s H (.makeFunc (.func f) #[] caps.toArray) ty (.func (.func f) #[] vs.toArray):=fun ρ w _ _ _ _ hρ _=>by
 have h: ∀ {xs:List Operand} {vs:List Value},evs s xs=some vs→xs.map ρ=vs:=by
  intro xs
  induction xs with
  |nil=>intro vs h;simp only [evs,Option.some.injEq] at h;simp [← h]
  |cons x r ih=>
   intro vs h;simp only [evs] at h;split at h
   ·rename_i v vs' hv hvs;simp only [Option.some.injEq] at h;rw [← h,Ja,ih hvs,hρ x v hv]
   ·cases h
 simp [execOp,Instr.makeFunc,h hc]
def C9 (s:au):List (Nat × Operand)→Option (List (Nat × Value))
 | []=>some []
 |(i,x)::r=>match ev s x,C9 s r with
  |some v,some vs=>some ((i,v)::vs)
  |_,_=>none
class Struct (P:Program) (t:TypeId) (places:outParam (List (Nat × Nat))) (zs:outParam (List Value)):Prop where
 out: ∃ it z fs,P.info? t=some it∧P.underlying t=some (.struct fs)∧it.zero=some z∧fs.toList.mapM (fun f=>(P.info? f.type).map fun i=>(f.offset,i.size))=some places∧z.cells=zs.toArray
def gR:Value→List Value
 | .agg cs=>cs.toList
 |v=> [v]
theorem rp (v:Value):v.cells.toList=gR v:=by cases v<;>rfl
def vK (places:List (Nat × Nat)):List Value→List (Nat × Value)→Option (List Value)
 |cells,[]=>some cells
 |cells,(i,v)::r=>match places[i]? with
  |none=>none
  |some (off,size)=>bif Nat.beq (gR v).length size && Nat.ble (off+(gR v).length) cells.length then vK places (cells.take off++gR v++cells.drop (off+(gR v).length)) r else none
theorem qY (off:Nat): ∀ (cs:List Value) (k:Nat) (cells:List Value),off+k+cs.length≤cells.length→
 (cs.zipIdx k).foldl (fun (a:Array Value) (x:Value × Nat)=>a.setIfInBounds (off+x.2) x.1) cells.toArray=(cells.take (off+k)++cs++cells.drop (off+k+cs.length)).toArray
 | [],k,cells,h=>by simp
 |c::cs,k,cells,h=>by
  simp only [IU] at h;have h1:off+k<cells.length:=by omega
  rw [List.zipIdx_cons,J9];have hset:(cells.toArray.setIfInBounds (off+k) c)=(cells.set (off+k) c).toArray:=by simp
  rw [hset,qY off cs (k+1) (cells.set (off+k) c) (by simp;omega)];congr 1;have e1:(cells.set (off+k) c).take (off+(k+1))=cells.take (off+k)++ [c]:=by
   rw [← js cells (off+k) c h1,show off+(k+1)=(off+k)+1 by omega,Ke (by simp;omega)];rw [JF (by simp;omega)]
  have e2:(cells.set (off+k) c).drop (off+(k+1)+cs.length)=cells.drop (off+k+(c::cs).length):=by
   rw [List.drop_set_of_lt (by omega)];simp only [IU];congr 1;omega
  rw [e1,e2];simp
theorem vJ (places:List (Nat × Nat)): ∀ (ps:List (Nat × Value)) (cells out:List Value),vK places cells ps=some out→Instr.fill (places.toArray[·]?) cells.toArray ps=some out.toArray
 | [],cells,out,h=>by simp only [vK,Option.some.injEq] at h;simp [Instr.fill,h]
 |(i,v)::r,cells,out,h=>by
  simp only [vK] at h;simp only [Instr.fill,I0]
  cases hp:places[i]? with
  |none=>rw [hp] at h;cases h
  |some x=>
   obtain ⟨off,size⟩:=x;rw [hp] at h;dsimp only at h ⊢;have hsz:v.cells.size=(gR v).length:=by rw [← rp];simp
   cases hb:(Nat.beq (gR v).length size && Nat.ble (off+(gR v).length) cells.length) with
   |false=>rw [hb] at h;cases h
   |true=>
    rw [hb] at h;simp only [cond_true] at h;simp only [IX] at hb;have h1:=I9 hb.1;have h2:=Nat.le_of_ble_eq_true hb.2;rw [if_neg (by simp [hsz,h1];omega)];have hf:=qY off (gR v) 0 cells (by simpa using h2);have hz:v.cells.zipIdx.toList=(gR v).zipIdx 0:=by rw [← rp];simp
    rw [← Array.foldl_toList,hz];have:=vJ places r _ out h;simp only [KG] at hf;rw [hf];simpa using this
theorem DS {t:TypeId} {places:List (Nat × Nat)} {zs cells ys:List Value} {ps:List (Nat × Operand)} {qs:List (Nat × Value)} [hS:Struct P t places zs] (hq:C9 s ps=some qs) (hf:vK places zs qs=some cells) (hn:o4 cells=some ys):
 VOp P w0 s H (.build t ps.toArray) ty (.agg ys.toArray):=fun ρ w _ _ _ _ hρ _=>by
 obtain ⟨it,z,fs,h1,h2,h3,h4,h5⟩:=hS.out;have hmap: ∀ {ps:List (Nat × Operand)} {qs:List (Nat × Value)},C9 s ps=some qs→ps.map (fun (x:Nat × Operand)=>(x.1,ρ x.2))=qs:=by
  intro ps
  induction ps with
  |nil=>intro qs h;simp only [C9,Option.some.injEq] at h;simp [← h]
  |cons q r ih=>
   intro qs h;obtain ⟨i,x⟩:=q;simp only [C9] at h;split at h
   ·rename_i v vs hv hvs;simp only [Option.some.injEq] at h;rw [← h,Ja,ih hvs,hρ x v hv]
   ·cases h
 have hb:P.built t (ps.map fun (x:Nat × Operand)=>(x.1,ρ x.2))=some cells.toArray:=by
  unfold Program.built;simp only [h1,h2,h3,h4];rw [hmap hq,h5];exact vJ places qs zs cells hf
 have hr:=run_build (P:=P) w t (ps.map fun (x:Nat × Operand)=>(x.1,ρ x.2)).toArray cells.toArray (by simpa using hb);rw [fB hn];simp only [execOp,JU];simp only [Sem.run_bind,hr,Result.andThen_ok,Sem.run_pure]
theorem uf {x ix:Operand} {t j:Nat} {a:ByteArray} {k:IntKind} [ht:Und P t .string] (hx:ev s x=some (.string a)) (hi:ev s ix=some (.int k (j:Nat))) (hj:j<a.size):
 VOp P w0 s H (.index t x ix) ty (.int .u8 ((a[j]'hj).toNat:Int)):=fun ρ w _ _ _ _ hρ _=>by
 have h0:(0:Int)≤(j:Int):=by omega
 simp [execOp,hρ x _ hx,hρ ix _ hi,Instr.index,run_underlying ht.out,asIntOf,hj]
def jJ (b:ByteArray):List Value:=b.data.toList.map fun c=> .int .u8 (c.toNat:Int)
theorem kC (b:ByteArray):(jJ b).length=b.size:=by simp [jJ]
theorem kF {d t u e:Nat} {x:Operand} {a:ByteArray} {ops:Array Oper} [hs:Und P t .string] [hd:Und P u (.slice e)] [he:Und P e (.int .u8)] (hn:Nat.blt d n.sz=true) (hx:ev s x=some (.string a))
 (k: ∀ g cap,WL P n w0 ops rest Q ((d,.slice (some ⟨g,0,none⟩) a.size cap)::s) (.byt g e a.size cap (jJ a)::H)):
 WL P n w0 ops (⟨some d,.convert t u x,ty,p,af,none⟩::rest) Q s H:=by
 intro st w hst hm;refine wpList_plain rfl fun K hK=> ?_;have hq:(Question.appendCap a.size 0 e).forced=false:=rfl;generalize hcap:(Question.appendCap a.size 0 e).cut (w.tape w.drawn (.appendCap a.size 0 e))=cap;have hge:a.size≤cap:=by rw [← hcap];simp [Question.cut]
 have hlen:(a.data.map fun b=>Value.int .u8 (b.toNat:Int)).size+(cap - a.size)=cap:=by
  have:(a.data.map fun b=>Value.int .u8 (b.toNat:Int)).size=a.size:=by simp
  omega
 generalize hcs:((a.data.map fun b=>Value.int .u8 (b.toNat:Int))++Array.replicate (cap - a.size) (Value.int .u8 0))=cs;have hcsz:cs.size=cap:=by rw [← hcs];simpa using hlen
 have hrun:(Conv.stringToBytes e a).run P w= .ok (.slice (some ⟨w.heap.size,0,none⟩) a.size cap) (({ w with drawn:=w.drawn+1 }:World).alloc (.cells cs e (cap,cap+1))):=by
  have hfr:(({ w with drawn:=w.drawn+1 }:World).alloc (.cells cs e)).freeze ⟨w.heap.size,cap,none⟩ 1=(({ w with drawn:=w.drawn+1 }:World).alloc (.cells cs e (cap,cap+1))):=by
   simp only [World.freeze,World.alloc,Nat.one_ne_zero,if_false];congr 1;refine KY fun i=> ?_;rw [J4,JT,JT];by_cases hi:w.heap.size=i
   ·subst hi;simp
   ·rw [if_neg hi,if_neg (fun e=>hi e.symm),if_neg (fun e=>hi e.symm)]
  have hshape:(({ w with drawn:=w.drawn+1 }:World).alloc (.cells cs e)).shape? w.heap.size=some (e,cap):=by
   simp [World.shape?,World.alloc,hcsz]
  simp only [Conv.stringToBytes,Sem.run_bind,run_choose,hq,Jt,if_false,Result.andThen_ok,hcap,newRow,run_newObj,Sem.run_pure,markStringish,run_shape,hcs,World.alloc_eq,hshape,run_freeze,hfr]
 have hev:=hst.eval x _ hx;have hconv:(convert t u (.string a)).run P w=(Conv.stringToBytes e a).run P w:=by
  simp [convert,run_underlying hs.out,run_underlying hd.out,run_underlying he.out]
 unfold Oper.wp execOp;simp only [Sem.run_bind,hev,hconv,hrun,Result.andThen_ok,Sem.run_pure,Oper.upon];refine hK _ _ (k w.heap.size cap _ _ (hst.put (Jf ▸ hn) _) (hm.drew.new (World.grownBy_alloc _ _ none) ⟨kC a,hge,List.replicate (cap - a.size) (.int .u8 0),?_,?_⟩ fun k hk=> ?_))
 ·simp [kC];omega
 ·rw [heap_alloc_new ({ w with drawn:=w.drawn+1 }:World) _];congr 2;rw [← hcs];apply Array.ext';simp [jJ]
 ·simp only [Blk.key,Option.some.injEq] at hk;subst hk;exact IK _
theorem Mem.cells_byt {w w0:World} {H:List Blk} {g m c:Nat} {t:TypeId} {xs:List Value} (h:Mem w0 w H) (hi:In (.byt g t m c xs) H):Cells w g 0 xs:=by
 obtain ⟨hl,_,junk,_,h1⟩:=(h.on _ hi.mem).1;intro j v hv;rw [IG,cell_of_row w g j _ t _ h1];have hlt:=(IQ.1 hv).1;rw [I0,I6 hlt];exact hv
theorem iS {x:Operand} {t T g off m c:Nat} {xs:List Value} {v:Value} [One P t] (hx:ev s x=some (.pointer (some ⟨g,off,none⟩))) (hi:In (.byt g T m c xs) H) (hv:xs[off]? =some v):
 VOp P w0 s H (.load t x) ty v:=fun ρ w _ _ _ _ hρ hm=>by
 have hc:=hm.cells_byt hi off v hv;rw [IG] at hc;simp [execOp,hρ x _ hx,Instr.loadAt,Instr.sureAddr,bI (P:=P) hc]
theorem qQ (ns:List Int) (b:ByteArray):(ns.foldl (fun r n=>r.push (UInt8.ofNat n.toNat)) b).data.toList=b.data.toList++ns.map fun n=>UInt8.ofNat n.toNat:=by
 induction ns generalizing b with
 |nil=>simp
 |cons n r ih=>rw [J9,ih];simp [ByteArray.push]
theorem qE {x:Operand} {t u e T g m c:Nat} {ns:List Int} [hs:Und P t (.slice e)] [he:Und P e (.int .u8)] [hd:Und P u .string] (hx:ev s x=some (.slice (some ⟨g,0,none⟩) m c)) (hi:In (.byt g T m c (ns.map (Value.int .u8))) H) (hl:ns.length=m):
 VOp P w0 s H (.convert t u x) ty (.string ⟨(ns.map fun n=>UInt8.ofNat n.toNat).toArray⟩):=fun ρ w _ _ _ _ hρ hm=>by
 have hc:=hm.cells_byt hi;have h1:=run_loadCells_list (P:=P) w ⟨g,0,none⟩ (ns.map (Value.int .u8)) (fun j v hv=>by rw [bA];exact hc j v hv);rw [II,hl] at h1;have h2:=run_bytesToString (P:=P) w ⟨g,0,none⟩ m c ns h1;have h3:ns.foldl (fun r n=>r.push (UInt8.ofNat n.toNat)) ByteArray.empty=⟨(ns.map fun n=>UInt8.ofNat n.toNat).toArray⟩:=by
  have h4:=qQ ns ByteArray.empty;generalize ns.foldl (fun r n=>r.push (UInt8.ofNat n.toNat)) ByteArray.empty=b at h4 ⊢;obtain ⟨⟨l⟩⟩:=b;simp only at h4;simp [h4]
 rw [h3] at h2;simp only [execOp,hρ x _ hx,Sem.run_bind,run_convert_bytes_string w t u e _ _ _ hs.out he.out hd.out,h2,Result.andThen_ok,Sem.run_pure]
theorem kU {ops:Array Oper} {t T g off m c:Nat} {x a:Operand} {xs:List Value} {v:Value} {R:List Blk} [Size P t 1] (ha:ev s a=some (.pointer (some ⟨g,off,none⟩))) (hx:ev s x=some v)
 (hsel:Sel (.byt g T m c xs) H R) (hv:v.oneCell' =true) (hfit:off<xs.length)
 (k:WL P n w0 ops rest Q s (.byt g T m c (xs.set off v)::R)):WL P n w0 ops (⟨none,.store t a x,ty,p,af,none⟩::rest) Q s H:=by
 refine kV (fun a' w hs hm=> ?_) k;have hm' :=hm.sel hsel;obtain ⟨h2,h3,junk,h5,hb⟩:=(hm'.on _ Iu).1;obtain ⟨i,hi,hsz⟩:=(inferInstance:Size P t 1).out;have hcv:v.cells= #[v]:=by cases v<;>first|rfl|cases hv
 have hlt:off<(xs++junk).length:=by simp;omega
 have hcell:w.cell? ⟨g,off,none⟩=some (xs++junk)[off]:=by
  rw [cell_of_row w g off _ T _ hb,I0,Ir hlt]
 have hfz:w.frozen? ⟨g,off,none⟩=false:=by
  have:off<c:=by rw [← h5];exact hlt
  simp only [World.frozen?,hb];simp;omega
 have hst:(storeVar t ⟨g,off,none⟩ v).run P w= .ok () (w.setCell ⟨g,off,none⟩ v):=by
  simp [storeVar,sizeOf,typeInfo,hi,hsz,hcv,storeCells,bA,run_store P w _ v .plain hv,hcell,hfz]
 have hg:w.grownBy (w.setCell ⟨g,off,none⟩ v) (some g):=⟨rfl,rfl,rfl,by simp,fun k _ hk=>Below.heap_setCell w _ v k (fun e=>hk (by rw [e]))⟩;have hnew:(w.setCell ⟨g,off,none⟩ v).heap[g]? =some (.cells (xs.set off v++junk).toArray T (c,c+1)):=by
  simp only [World.setCell,J4,if_true,hb,JB,Option.isSome_none,Jt,if_false];rw [← List.set_append_left _ _ hfit];simp
 refine ⟨_,?_,hm'.upd hg (b' := .byt g T m c (xs.set off v)) ⟨by simpa using h2,h3,junk,by rw [Iv,Jo,← Iv];exact h5,hnew⟩ fun k hk=> .inl hk⟩;simp [execOp,hs.eval a _ ha,hs.eval x _ hx,Instr.storeAt,Instr.sureAddr,hst]
theorem rI {d t:Nat} {x:Operand} {a:ByteArray} {ops:Array Oper} [ht:Und P t .string] (hn:Nat.blt d n.sz=true) (hx:ev s x=some (.string a))
 (k: ∀ g,WL P n w0 ops rest Q ((d,.pointer (some ⟨g,0,none⟩))::s) (.obj g (.stringIter a 0)::H)):WL P n w0 ops (⟨some d,.range t x,ty,p,af,none⟩::rest) Q s H:=by
 refine jo (B:=fun g=> .obj g (.stringIter a 0)) (v:=fun g=> .pointer (some ⟨g,0,none⟩)) hn (fun st w hs hm=> ?_) k;refine ⟨w.iter a 0,?_,World.grownBy_alloc w _ none,World.iter_heap w a 0,rfl⟩;simp [execOp,hs.eval x _ hx,run_range_string w t a ht.out]
theorem tR {d g pos:Nat} {x:Operand} {a:ByteArray} {R:List Blk} {ops:Array Oper} (hn:Nat.blt d n.sz=true) (hx:ev s x=some (.pointer (some ⟨g,0,none⟩))) (hsel:Sel (.obj g (.stringIter a pos)) H R)
 (hascii: ∀ h:pos<a.size,(a[pos]'h).toNat<128)
 (k1: ∀ h:pos<a.size,WL P n w0 ops rest Q ((d,.tuple #[.bool true,.int .i64 (pos:Int),.int .i32 ((a[pos]'h).toNat:Int)])::s) (.obj g (.stringIter a (pos+1))::R))
 (k2:a.size≤pos→WL P n w0 ops rest Q ((d,.tuple #[.bool false])::s) (.obj g (.stringIter a pos)::R)):
 WL P n w0 ops (⟨some d,.next x true,ty,p,af,none⟩::rest) Q s H:=by
 intro st w hs hm;have hm' :=hm.sel hsel;have hb:=(hm'.on _ Iu).1;simp only [Blk.on] at hb;refine wpList_plain rfl fun K hK=> ?_;by_cases h:pos<a.size
 ·have hr:(Instr.next (.pointer (some ⟨g,0,none⟩)) true ty).run P w= .ok (.tuple #[.bool true,.int .i64 (pos:Int),.int .i32 ((a[pos]'h).toNat:Int)]) { w with heap:=w.heap.setIfInBounds g (.stringIter a (pos+1)) }:=by
   simp only [Instr.next,getObj,setObj,Sem.run_bind,Sem.run,hb,Result.andThen,h,if_true,decode_ascii a pos h (hascii h)];simp [goInt]
  unfold Oper.wp execOp;simp only [Sem.run_bind,hs.eval x _ hx,hr,Result.andThen_ok,Sem.run_pure,Oper.upon];refine hK _ _ (k1 h _ _ (hs.put (Jf ▸ hn) _) (hm'.upd ⟨rfl,rfl,rfl,by simp,fun k _ hk=> ?_⟩ ?_ fun k hk=> .inl hk))
  ·have hne:g≠k:=fun e=>hk (by rw [← e];rfl);simp [JS hne]
  ·simp only [Blk.on];have:g<w.heap.size:=(IW.1 hb).1;simp [this]
 ·have hr:(Instr.next (.pointer (some ⟨g,0,none⟩)) true ty).run P w= .ok (.tuple #[.bool false]) w:=by
   simp [Instr.next,getObj,Sem.run,hb,h]
  unfold Oper.wp execOp;simp only [Sem.run_bind,hs.eval x _ hx,hr,Result.andThen_ok,Sem.run_pure,Oper.upon];exact hK _ _ (k2 (by omega) _ _ (hs.put (Jf ▸ hn) _) hm')
end
section
variable {P:Program} {ops:Array Oper} {md:Region.Mode} {C:Array Bool→World→Prop}
def tG (P:Program) (D:World→Prop) (v:Value):Result Next→Prop
 | .ok (.value u) w' =>u=v∧D w'
 | .ok .skip w' =>v=undef∧D w'
 | .ok (.enter f args) w' =>Calls P f args w' fun e w'' =>e= .returned v∧D w''
 |_=>False
def Gives (P:Program) (md:Region.Mode) (ops:Array Oper) (C:Array Bool→World→Prop) (i:Nat) (o:Oper) (v:Value) (a:Act):Prop:=
 (Region.wanted o (yielded ops a.tmps)=true∧ ∀ L w,i∈Region.ready md ops L→C L w→tG P (C (L.setIfInBounds i true)) v ((execOp a.eval o).run P w))∨
 (Region.wanted o (yielded ops a.tmps)=false∧v=undef∧ ∀ L w,i∈Region.ready md ops L→C L w→C (L.setIfInBounds i true) w)
theorem Gives.of_same {i:Nat} {o:Oper} {v:Value} {a a' :Act} (hy:Gives P md ops C i o v a) (he:execOp a'.eval o=execOp a.eval o)
 (hw:Region.wanted o (yielded ops a'.tmps)=Region.wanted o (yielded ops a.tmps)):Gives P md ops C i o v a' :=by
 unfold Gives at*;rw [he,hw];exact hy
def gOp (P:Program) (md:Region.Mode) (ops:Array Oper) (C:Array Bool→World→Prop) (i:Nat) (K:Act→Prop) (a:Act):Prop:=
 ∃ o v,ops[i]? =some o∧Gives P md ops C i o v a∧K (a.put o.dst v)
def Dy (P:Program) (md:Region.Mode) (ops:Array Oper) (C:Array Bool→World→Prop) (Q:Array Bool→Act→Prop):Nat→Array Bool→Act→Prop
 |0,L,a=>Region.ready md ops L= []∧Q L a
 |f+1,L,a=>(Region.ready md ops L= []→Q L a)∧ ∀ i∈Region.ready md ops L,gOp P md ops C i (Dy P md ops C Q f (L.setIfInBounds i true)) a
theorem dF {Q:Array Bool→Act→Prop} {Q' :Exit→Act→World→Prop} (hQ: ∀ L a w,Region.ready md ops L= []→C L w→Q L a→Q' .normal a w): ∀ (f:Nat) (L:Array Bool) (a:Act) (w:World),C L w→
 Dy P md ops C Q f L a→wpAny P md ops Q' f L a w
 |0,L,a,w,hC,h=>⟨h.1,hQ L a w h.1 hC h.2⟩
 |f+1,L,a,w,hC,h=>⟨fun h0=>hQ L a w h0 hC (h.1 h0),fun i hi=>by
   obtain ⟨o,v,ho,hg,hk⟩:=h.2 i hi;unfold wpOp;simp only [ho];rcases hg with ⟨hw,hg⟩|⟨hw,rfl,hg⟩
   ·simp only [hw,if_true];refine .inl ?_;have h1:=hg L w hi hC;unfold Oper.wp;generalize (execOp a.eval o).run P w=r at h1 ⊢
    cases r with
    |ok x w' =>
     cases x<;>simp only [tG] at h1<;>simp only [Oper.upon]
     case value u=>obtain ⟨rfl,h2⟩:=h1;exact dF hQ f _ _ _ h2 hk
     case skip=>obtain ⟨rfl,h2⟩:=h1;exact dF hQ f _ _ _ h2 hk
     case enter g args=>exact h1.mono fun e w'' ⟨he,h2⟩=>by subst he;exact dF hQ f _ _ _ h2 hk
    |halt x w' =>simp only [tG] at h1
   ·simp only [hw,Jt,if_false];exact dF hQ f _ _ _ (hg L w hi hC) hk⟩
theorem CW {i:Nat} {a:Act} {K K' :Act→Prop} (h: ∀ a,K a→K' a) (hh:gOp P md ops C i K a):gOp P md ops C i K' a:=
 let ⟨o,v,h1,h2,h3⟩:=hh
 ⟨o,v,h1,h2,h _ h3⟩
theorem ED {i j:Nat} {oi oj:Oper} {v:Value} (hj:ops[j]? =some oj) (hap:oi.apart ops oj=true)
 (hsi: ∀ cs b,oi.op≠ .select cs b) (hsj: ∀ cs b,oj.op≠ .select cs b) {K:Act→Prop} {a:Act}
 (hy:Gives P md ops C i oi v a) (h:gOp P md ops C j K (a.put oi.dst v)):
 gOp P md ops C j (fun a' =>Gives P md ops C i oi v a' ∧K (a'.put oi.dst v)) a:=by
 obtain ⟨h1,h2,h3⟩:=Oper.apart_spec hap;obtain ⟨o,u,ho,hg,hk⟩:=h;have e:o=oj:=Option.some.inj (ho.symm.trans hj);subst e;refine ⟨o,u,ho,hg.of_same (execOp_put o hsj a oi.dst v h1).symm (wanted_put o a oi.dst v h1).symm,hy.of_same (execOp_put oi hsi a o.dst u h3) (wanted_put oi a o.dst u h3),?_⟩;rw [← Act.put_comm a v u h2];exact hk
theorem p6 {Q:Array Bool→Act→Prop} {i:Nat} {oi:Oper} {v:Value} (hi:ops[i]? =some oi) (hsel: ∀ (j:Nat) (o:Oper) cs b,ops[j]? =some o→o.op≠ .select cs b):
 ∀ (f:Nat) (L:Array Bool) (a:Act),
  (∀ j oj,ops[j]? =some oj→j≠i→L.getD j true=false→(∀ e∈oj.after,Region.binds md e=true→e.on≠i)→oi.apart ops oj=true)→
  i∈Region.ready md ops L→Gives P md ops C i oi v a→Dy P md ops C Q f (L.setIfInBounds i true) (a.put oi.dst v)→Dy P md ops C Q (f+1) L a
 |0,L,a,_,hr,hy,H=>⟨fun h=>(by rw [h] at hr;cases hr),fun j hj=>by
   by_cases hji:j=i
   ·subst hji;exact ⟨oi,v,hi,hy,H⟩
   ·have:=ready_mono hj hji;rw [H.1] at this;cases this⟩
 |f+1,L,a,hfree,hr,hy,H=>⟨fun h=>(by rw [h] at hr;cases hr),fun j hj=>by
   by_cases hji:j=i
   ·subst hji;exact ⟨oi,v,hi,hy,H⟩
   ·have h1:=H.2 j (ready_mono hj hji);obtain ⟨hjun,oj,hoj,hall⟩:=mem_ready.1 hj;have hnot: ∀ e∈oj.after,Region.binds md e=true→e.on≠i:=fun e he hb heq=>by
     have h1:=hall e he hb;have h0:=(mem_ready.1 hr).1;rw [heq] at h1;rcases Kv i L.size with h' |h'
     ·simp [h'] at h0 h1;rw [h0] at h1;cases h1
     ·simp [Kj h'] at h1
    have h2:=ED hoj (hfree j oj hoj hji hjun hnot) (fun cs b=>hsel i oi cs b hi) (fun cs b=>hsel j oj cs b hoj) hy h1
    have hfree' : ∀ k ok,ops[k]? =some ok→k≠i→(L.setIfInBounds j true).getD k true=false→
     (∀ e∈ok.after,Region.binds md e=true→e.on≠i)→oi.apart ops ok=true:=fun k ok hk hki hun hno=>by
     refine hfree k ok hk hki ?_ hno;by_cases hjk:j=k
     ·subst hjk;exact hjun
     ·rw [getD_set_ne true hjk] at hun;exact hun
    refine CW (fun a' h3=>p6 hi hsel f (L.setIfInBounds j true) a' hfree' (ready_mono hr (Ne.symm hji)) h3.1 ?_) h2;rw [K0 _ _ hji];exact h3.2⟩
def wpG (P:Program) (md:Region.Mode) (ops:Array Oper) (C:Array Bool→World→Prop) (Q:Act→Prop):List Oper→Nat→Act→Prop
 | [],_,a=>Q a
 |o::r,k,a=> ∃ v,Gives P md ops C k o v a∧wpG P md ops C Q r (k+1) (a.put o.dst v)
theorem wB {Q:Act→Prop} (hs:Region.noSelect ops=true): ∀ (l:List Oper) (k:Nat) (L:Array Bool) (a:Act),(∀ j,l[j]? =ops[k+j]?)→
 Region.lexFrom md ops l.length k L=true→wpG P md ops C Q l k a→Dy P md ops C (fun _ a=>Q a) l.length L a
 | [],_,_,_,_,hB,h=>⟨by simpa [Region.lexFrom] using hB,h⟩
 |o::l,k,L,a,hl,hB,h=>by
  have h0:ops[k]? =some o:=by simpa using (hl 0).symm
  simp only [IU,Region.lexFrom,IX] at hB;obtain ⟨⟨hr,hf⟩,hB'⟩:=hB;obtain ⟨v,hy,hK⟩:=h
  exact p6 h0 (Region.noSelect_spec hs) l.length L a (Region.free_spec h0 hf) (by simpa using hr) hy
   (wB hs l (k+1) _ _ (fun j=>by have:=hl (j+1);simpa [Kn,Kl 1 j] using this) hB' hK)
theorem tN {id:Nat} {Q:Exit→Act→World→Prop} {a:Act} {w:World} (hm:P.follows .mixedOrders=true) (hB:Region.lexB .any ops=true) (hC:C (Array.replicate ops.size false) { w with drawn:=w.drawn+1 })
 (h:wpG P .any ops C (fun a' => ∀ L w',Region.ready .any ops L= []→C L w' →Q .normal a' w') ops.toList 0 a):(Code.region id ops true).wp P Q a w:=by
 simp only [Region.lexB,IX] at hB;refine wp_region_any hm (dF (Q:=fun _ a' => ∀ L w',Region.ready .any ops L= []→C L w' →Q .normal a' w') (fun L a' w' hr hw' h=>h L w' hr hw') _ _ _ _ hC ?_);have:=wB (C:=C) (md:= .any) hB.1 ops.toList 0 (Array.replicate ops.size false) a (by simp) (by simpa using hB.2) h;simpa using this
end
abbrev iH:=Nat→Bool
def done (L:Array Bool):iH:=fun i=>L.getD i false
section
variable {P:Program} {n:Fr} {w0:World} {Q:aO} {s:au} {H:List Blk} {l rest:List Oper} {ty:TypeId} {p:String} {af:Array Edge}
def Cls (w0:World) (l:List Oper) (HL:iH→List Blk) (L:Array Bool) (w:World):Prop:=
 L.size=l.length∧(∀ i o,l[i]? =some o→done L i=true→ ∀ e∈o.after,Region.binds .any e=true→done L e.on=true)∧Mem w0 w (HL (done L))
def kZ (o:Oper):List Nat:=o.after.toList.filterMap fun e=>if Region.binds .any e then some e.on else none
structure Turn (l:List Oper) (k:Nat) (o:Oper) (D:iH):Prop where
 not:D k=false
 dS: ∀ i∈kZ o,D i=true
 closed: ∀ i x,l[i]? =some x→D i=true→ ∀ j∈kZ x,D j=true
def put (D:iH) (k:Nat):iH:=fun i=>if i=k then true else D i
def WG (P:Program) (n:Fr) (w0:World) (l:List Oper) (HL:iH→List Blk) (K:au→Prop) (rest:List Oper) (k:Nat) (s:au):Prop:=
 ∀ a,St n s a→(∀ j,rest[j]? =l[k+j]?)→wpG P .any l.toArray (Cls w0 l HL) (fun a' => ∃ s',St n s' a' ∧K s') rest k a
theorem fJ {o:Oper} {i:Nat}:i∈kZ o↔ ∃ e∈o.after,Region.binds .any e=true∧e.on=i:=by
 unfold kZ;rw [List.mem_filterMap];constructor
 ·rintro ⟨e,he,h⟩;split at h
  ·rename_i hb;injection h with h;exact ⟨e,by simpa using he,hb,h⟩
  ·cases h
 ·rintro ⟨e,he,hb,h⟩;exact ⟨e,by simpa using he,by simp [hb,h]⟩
theorem yu {HL:iH→List Blk} {k:Nat} {o:Oper} {L:Array Bool} {w:World} (hk:l[k]? =some o) (hr:k∈Region.ready .any l.toArray L) (hc:Cls w0 l HL L w):Turn l k o (done L)∧done (L.setIfInBounds k true)=put (done L) k∧(∀ w',Mem w0 w' (HL (put (done L) k))→Cls w0 l HL (L.setIfInBounds k true) w'):=by
 obtain ⟨hsz,hcl,_⟩:=hc;obtain ⟨h0,o',ho',hall⟩:=mem_ready.1 hr;have e:o' =o:=by
  rw [I0,hk] at ho';exact (Option.some.inj ho').symm
 subst e;have hlt:k<L.size:=by rw [hsz];exact (IQ.1 hk).1
 have hd:done (L.setIfInBounds k true)=put (done L) k:=by
  funext i;unfold done put;by_cases hik:i=k
  ·subst hik;simp [hlt]
  ·rw [if_neg hik,getD_set_ne false (Ne.symm hik)]
 have hcl' : ∀ i x,l[i]? =some x→done L i=true→ ∀ j∈kZ x,done L j=true:=fun i x hx hi j hj=>by
  obtain ⟨e,he,hb,rfl⟩:=fJ.1 hj;exact hcl i x hx hi e he hb
 refine ⟨⟨?_,fun i hi=> ?_,hcl'⟩,hd,fun w' hm=>⟨by simpa using hsz,fun i x hx hi e he hb=> ?_,hd ▸ hm⟩⟩
 ·unfold done;simp [hlt] at h0 ⊢;exact h0
 ·obtain ⟨e,he,hb,rfl⟩:=fJ.1 hi;exact hall e he hb
 ·rw [hd] at hi ⊢;by_cases hik:i=k
  ·subst hik;rw [hk] at hx;injection hx with hx;subst hx;have h1:=hall e he hb;unfold put;split
   ·rfl
   ·exact h1
  ·have hi' :done L i=true:=by unfold put at hi;rwa [if_neg hik] at hi
   have:=hcl i x hx hi' e he hb;unfold put;split
   ·rfl
   ·exact this
theorem nH {id:Nat} (HL:iH→List Blk) (hm:P.follows .mixedOrders=true) (hB:Region.lexB .any l.toArray=true) (h0:MSub (HL fun _=>false) H)
 (h:WG P n w0 l HL (fun s' => ∀ D:iH,(∀ i,i<l.length→D i=true)→Q .normal s' (HL D)) l 0 s):W P n w0 (.region id l.toArray true) Q s H:=by
 intro a w hs hmem;have hrep:done (Array.replicate l.toArray.size false)=fun _=>false:=by
  funext i;unfold done;rw [I4,K3];split<;>rfl
 refine tN (C:=Cls w0 l HL) hm hB ⟨by simp,fun i o _ hi=>(by rw [hrep] at hi;cases hi),by rw [hrep];exact h0.use hmem.drew⟩ ?_;have h1:=h a hs (by simp);have mono: ∀ (r:List Oper) (k:Nat) (a:Act) (K K' :Act→Prop),(∀ a,K a→K' a)→wpG P .any l.toArray (Cls w0 l HL) K r k a→wpG P .any l.toArray (Cls w0 l HL) K' r k a:=by
  intro r
  induction r with
  |nil=>intro k a K K' hk h;exact hk _ h
  |cons o r ih=>
   rintro k a K K' hk ⟨v,h1,h2⟩;exact ⟨v,h1,ih _ _ K K' hk h2⟩
 simp only [Kt];refine mono _ _ _ _ _ ?_ h1;rintro a' ⟨s',h2,h3⟩ L w' hr ⟨hsz,hcl,hmem'⟩;refine ⟨s',HL (done L),h2,hmem',h3 _ fun i hi=> ?_⟩
 -- nothing is ready:all is done
 have all: ∀ i,i<l.length→done L i=true:=by
  intro i
  induction i using Nat.strongRecOn with
  |_ i ih=>
   intro hi
   cases hd:done L i with
   |true=>rfl
   |false=>
    exfalso;have hlx: ∀ (f k:Nat) (L0:Array Bool),Region.lexFrom .any l.toArray f k L0=true→ ∀ j o,k≤j→j<k+f→l[j]? =some o→ ∀ x∈kZ o,L0.getD x false=true∨(k≤x∧x<j):=by
     intro f
     induction f with
     |zero=>intro k L0 _ j o h1 h2;omega
     |succ f ihf=>
      intro k L0 hlex j o h1 h2 ho x hx;simp only [Region.lexFrom,IX] at hlex;obtain ⟨⟨hrk,_⟩,hrest⟩:=hlex;by_cases hjk:j=k
      ·subst hjk;obtain ⟨_,o',ho',hall⟩:=mem_ready.1 (by simpa using hrk:j∈Region.ready .any l.toArray L0);rw [I0,ho] at ho';injection ho' with ho';subst ho';obtain ⟨e,he,hb,rfl⟩:=fJ.1 hx;exact .inl (hall e he hb)
      ·rcases ihf (k+1) _ hrest j o (by omega) (by omega) ho x hx with h|⟨h3,h4⟩
       ·by_cases hxk:k=x
        ·subst hxk;right;omega
        ·rw [getD_set_ne false hxk] at h;exact .inl h
       ·right;omega
    simp only [Region.lexB,IX] at hB;obtain ⟨o,ho⟩: ∃ o,l[i]? =some o:=⟨_,Ir hi⟩;have hmem:i∈Region.ready .any l.toArray L:=by
     refine mem_ready.2 ⟨?_,o,by simpa using ho,fun e he hb=> ?_⟩
     ·have:i<L.size:=by omega
      unfold done at hd;simp [this] at hd ⊢;exact hd
     ·have hx:=hlx l.toArray.size 0 _ hB.2 i o (Iw _) (by simpa using hi) ho e.on (fJ.2 ⟨e,he,hb,rfl⟩);rcases hx with h|⟨_,h⟩
      ·have:(done (Array.replicate l.toArray.size false)) e.on=true:=h;rw [hrep] at this;cases this
      ·exact ih e.on h (by omega)
    rw [hr] at hmem;cases hmem
 exact all i hi
variable {HL:iH→List Blk} {K:au→Prop} {k:Nat}
theorem rM (h:K s):WG P n w0 l HL K [] k s:=fun _ hs _=>⟨s,hs,h⟩
theorem wI {op:Op} {d:Nat} {v:Value} (hn:Nat.blt d n.sz=true) (hv: ∀ D,Turn l k ⟨some d,op,ty,p,af,none⟩ D→VOp P w0 s (HL D) op ty v) (hk: ∀ D,HL (put D k)=HL D) (h:WG P n w0 l HL K rest (k+1) ((d,v)::s)):
 WG P n w0 l HL K (⟨some d,op,ty,p,af,none⟩::rest) k s:=by
 intro a hs hl;have h0:l[k]? =some ⟨some d,op,ty,p,af,none⟩:=by simpa using (hl 0).symm
 refine ⟨v,.inl ⟨rfl,fun L w hr hc=> ?_⟩,h _ (hs.put (Jf ▸ hn) v) fun j=>by have:=hl (j+1);simpa [Kn,Kl 1 j] using this⟩;obtain ⟨ht,hd,hnext⟩:=yu h0 hr hc;rw [hv _ ht a.eval w _ _ _ _ hs.eval hc.2.2];exact ⟨rfl,hnext w (by rw [hk];exact hc.2.2)⟩
theorem rN {op:Op} (hv: ∀ D,Turn l k ⟨none,op,ty,p,af,none⟩ D→ ∀ a w,St n s a→Mem w0 w (HL D)→ ∃ w',(execOp a.eval ⟨none,op,ty,p,af,none⟩).run P w= .ok .skip w' ∧Mem w0 w' (HL (put D k))) (h:WG P n w0 l HL K rest (k+1) s):
 WG P n w0 l HL K (⟨none,op,ty,p,af,none⟩::rest) k s:=by
 intro a hs hl;have h0:l[k]? =some ⟨none,op,ty,p,af,none⟩:=by simpa using (hl 0).symm
 refine ⟨undef,.inl ⟨rfl,fun L w hr hc=> ?_⟩,h _ (hs.put_none _) fun j=>by have:=hl (j+1);simpa [Kn,Kl 1 j] using this⟩;obtain ⟨ht,hd,hnext⟩:=yu h0 hr hc;obtain ⟨w',hr',hm'⟩:=hv _ ht a w hs hc.2.2;rw [hr'];exact ⟨rfl,hnext w' hm'⟩
theorem wJ {t T g off m:Nat} {x a:Operand} {v:Value} {vs:List Value} [Size P t m] (xs:iH→List Value) (R:iH→List Blk) (ha:ev s a=some (.pointer (some ⟨g,off,none⟩))) (hx:ev s x=some v)
 (hsel: ∀ D,Sel (.box g T (xs D)) (HL D) (R D)) (hv:v.cells=vs.toArray) (hl:vs.length=m) (h1:vs.all Value.oneCell' =true) (hfit: ∀ D,off+m≤(xs D).length)
 (hnew: ∀ D,Turn l k ⟨none,.store t a x,ty,p,af,none⟩ D→MSub (HL (put D k)) (.box g T ((xs D).take off++vs++(xs D).drop (off+m))::R D)) (h:WG P n w0 l HL K rest (k+1) s):
 WG P n w0 l HL K (⟨none,.store t a x,ty,p,af,none⟩::rest) k s:=by
 refine rN (fun D ht a' w hs hm=> ?_) h;have hm' :=hm.sel (hsel D);have hb:=(hm'.on _ Iu).1;simp only [Blk.on] at hb;have h1' : ∀ u∈vs,u.oneCell' =true:=by simpa using h1
 have hr:=d9 (P:=P) (t:=t) (off:=off) hv hl h1' hb (by simpa using hfit D);simp only at hr;refine ⟨_,?_,(hnew D ht).use (hm'.upd (dZ _ _ _) (b' := .box g T ((xs D).take off++vs++(xs D).drop (off+m))) (setRow_heap _ _ _ _ _ _ hb) fun k hk=> .inl hk)⟩;simp [execOp,hs.eval a _ ha,hs.eval x _ hx,Instr.storeAt,Instr.sureAddr,hr]
theorem jv {w:World} {t T T' g m:Nat} {xs:List Value} {a:Act} [Agg P T m] (hs:St n s a) (hm:Mem w0 w H) (ht:look s t=some (.pointer (some ⟨g,0,none⟩))) (hi:In (.box g T' xs) H) (hl:Nat.beq xs.length m=true):
 (do let b ← asAddr (a.tmps.getD t undef);loadVar T b).run P w= .ok (.agg xs.toArray) w:=by
 have h1:=hs.has t _ ht;have h2:=ee (P:=P) (t:=T) (I9 hl) (hm.cells_box hi);simp [I4,h1,asAddr,h2]
section res
variable {fn:Func} {R:Value→List Blk→Prop} {e:Exit} {t u T U T' U' g h m q:Nat} {xs ys:List Value} {v:Value}
theorem Cl (he:e= .ret∨e= .normal) (hr:fn.results= #[.cell t T]) [Agg P T m] (ht:look s t=some (.pointer (some ⟨g,0,none⟩))) (hi:In (.box g T' xs) H) (hl:Nat.beq xs.length m=true) {H' :List Blk} (hs:MSub H' H) (hR:R (.agg xs.toArray) H'):aJ P fn n w0 R e s H:=
 ⟨he,_,H',hs,fun a w hst hm=>by
  have h1:=jv (P:=P) (T:=T) hst hm ht hi hl;simp only [results,hr];simp only [KE,Jm,Jq,Sem.run_bind,Sem.run_map] at h1 ⊢;simp only [h1,Result.andThen_ok,Sem.run_pure]
  rfl,hR⟩
theorem Fy (he:e= .ret∨e= .normal) (hr:fn.results= #[.cell t T,.tmp u]) [Agg P T m] (ht:look s t=some (.pointer (some ⟨g,0,none⟩))) (hi:In (.box g T' xs) H) (hl:Nat.beq xs.length m=true) (hu:look s u=some v) {H' :List Blk} (hs:MSub H' H) (hR:R (.tuple #[.agg xs.toArray,v]) H'):aJ P fn n w0 R e s H:=
 ⟨he,_,H',hs,fun a w hst hm=>by
  have h1:=jv (P:=P) (T:=T) hst hm ht hi hl;have h2:a.tmps.getD u undef=v:=by simp [I4,hst.has u _ hu]
  simp only [results,hr];simp only [KE,Jm,Jq,Sem.run_bind,Sem.run_map] at h1 ⊢;simp only [h1,Result.andThen_ok,Sem.run_pure,h2]
  rfl,hR⟩
theorem HM (he:e= .ret∨e= .normal) (hr:fn.results= #[.cell t T,.cell u U]) [Agg P T m] [Agg P U q] (ht:look s t=some (.pointer (some ⟨g,0,none⟩))) (hi:In (.box g T' xs) H) (hl:Nat.beq xs.length m=true) (hu:look s u=some (.pointer (some ⟨h,0,none⟩))) (hi' :In (.box h U' ys) H) (hl' :Nat.beq ys.length q=true) {H' :List Blk} (hs:MSub H' H) (hR:R (.tuple #[.agg xs.toArray,.agg ys.toArray]) H'):aJ P fn n w0 R e s H:=
 ⟨he,_,H',hs,fun a w hst hm=>by
  have h1:=jv (P:=P) (T:=T) hst hm ht hi hl;have h2:=jv (P:=P) (T:=U) hst hm hu hi' hl';simp only [results,hr];simp only [KE,Jm,Jq,Sem.run_bind,Sem.run_map] at h1 h2 ⊢;simp only [h1,h2,Result.andThen_ok,Sem.run_pure]
  rfl,hR⟩
end res
theorem fI {d:Nat} {ops:Array Oper} {f:FuncId} {c:Operand} {xs:List Operand} {vs caps:List Value} {v:Value} {ts:Array TypeId} (hn:Nat.blt d n.sz=true) (hc:ev s c=some (.func (.func f) #[] caps.toArray)) (hfc:Callable P f) (hx:evs s xs=some vs)
 (hF: ∀ w,Mem w0 w H→aC P f (vs++caps) w v) (k:WL P n w0 ops rest Q ((d,v)::s) H):
 WL P n w0 ops (⟨some d,.call { callee:= .value c,args:=xs.toArray,argTypes:=ts },ty,p,af,none⟩::rest) Q s H:=
 fP hn hc hfc hx (FnIn.of_at hF) fun u H' ⟨H1,h1,h2⟩=>by
  subst h1;subst h2;exact rK ⟨H1,I2⟩ k
theorem rS {id T g:Nat} {xs xs' :List Value} {R:List Blk} (f:iH→List Value) (hm:P.follows .mixedOrders=true) (hB:Region.lexB .any l.toArray=true) (hsel:Sel (.box g T xs) H R) (h0:f (fun _=>false)=xs)
 (h1: ∀ D:iH,(∀ i,i<l.length→D i=true)→f D=xs') (h:WG P n w0 l (fun D=> .box g T (f D)::R) (fun s' =>Q .normal s' (.box g T xs' ::R)) l 0 s):W P n w0 (.region id l.toArray true) Q s H:=by
 subst h0;refine nH (fun D=> .box g T (f D)::R) hm hB ⟨[],by simpa using hsel.perm⟩ fun a hs hl=> ?_;have mono: ∀ (r:List Oper) (k:Nat) (a:Act) (K K' :Act→Prop),(∀ a,K a→K' a)→wpG P .any l.toArray (Cls w0 l fun D=> .box g T (f D)::R) K r k a→wpG P .any l.toArray (Cls w0 l fun D=> .box g T (f D)::R) K' r k a:=by
  intro r
  induction r with
  |nil=>intro k a K K' hk h;exact hk _ h
  |cons o r ih=>
   rintro k a K K' hk ⟨v,h1,h2⟩;exact ⟨v,h1,ih _ _ K K' hk h2⟩
 refine mono _ _ _ _ _ ?_ (h a hs hl);rintro a' ⟨s',h2,h3⟩;exact ⟨s',h2,fun D hD=>by rw [h1 D hD];exact h3⟩
end
def G8:BinOp→Int→Int→Option Value
 | .lss,a,b=>some (.bool (decide (a<b)))
 | .leq,a,b=>some (.bool (decide (a≤b)))
 | .gtr,a,b=>some (.bool (decide (b<a)))
 | .geq,a,b=>some (.bool (decide (b≤a)))
 | .eql,a,b=>some (.bool (decide (a=b)))
 | .neq,a,b=>some (.bool (decide (a≠b)))
 |_,_,_=>none
def G7:BinOp→ByteArray→ByteArray→Option Value
 | .eql,a,b=>some (.bool (decide (a=b)))
 | .neq,a,b=>some (.bool (decide (a≠b)))
 |_,_,_=>none
def G9 (o:BinOp):Value→Value→Option Value
 | .int k a,.int k' b=>match decide (k=k') with
  |true=>G8 o a b
  |false=>none
 | .string a,.string b=>G7 o a b
 |_,_=>none
def vop (s:au):Op→Option Value
 | .move x=>ev s x
 | .assign x=>ev s x
 | .pick c a b=>match ev s c with
  |some (.bool true)=>ev s a
  |some (.bool false)=>ev s b
  |_=>none
 | .unOp .not _ x=>match ev s x with
  |some (.bool b)=>some (.bool (!b))
  |_=>none
 | .binOp o _ x y _=>match ev s x,ev s y with
  |some u,some v=>G9 o u v
  |_,_=>none
 | .extract x i=>match ev s x with
  |some (.tuple vs)=>vs.toList[i]?
  |_=>none
 |_=>none
theorem FQ {P:Program} {w0:World} {s:au} {H:List Blk} {op:Op} {ty:TypeId} {v:Value} (h:vop s op=some v):VOp P w0 s H op ty v:=by
 cases op<;>simp only [vop] at h<;>try (cases h;done)
 case move x=>exact FV h
 case assign x=>exact oD h
 case pick c a b=>
  split at h
  ·exact BG (by assumption) h
  ·exact BH (by assumption) h
  ·cases h
 case binOp o t x y t' =>
  split at h
  ·rename_i u v' hu hv;unfold G9 at h;split at h
   ·rename_i k a k' b;split at h
    ·rename_i hk;have hk:=of_decide_eq_true hk;subst hk;cases o<;>simp only [G8] at h<;>first|(cases h;done)|skip
     all_goals (injection h with h;subst h)
     ·exact Hl hu hv
     ·exact Ft hu hv
     ·exact Hg hu hv
     ·exact Hh hu hv
     ·exact Hj hu hv
     ·exact Hk hu hv
    ·cases h
   ·rename_i a b;cases o<;>simp only [G7] at h<;>first|(cases h;done)|skip
    all_goals (injection h with h;subst h)
    ·exact FX hu hv
    ·exact FT hu hv
   ·cases h
  ·cases h
 case unOp o t x=>
  cases o<;>simp only at h<;>first|(cases h;done)|skip
  split at h
  ·injection h with h;subst h;exact He (by assumption)
  ·cases h
 case extract x i=>
  split at h
  ·rename_i vs hx;exact zo (vs:=vs.toList) (by simpa using hx) h
  ·cases h
abbrev Gh:=Option Nat × Nat
def upd (γ:Nat→Gh) (k:Nat) (g:Gh):Nat→Gh:=fun i=>if i=k then g else γ i
section
variable {P:Program} {ops:Array Oper} {md:Region.Mode}
def H7 (P:Program) (D:World→Prop) (v:Value):Result Next→Prop
 | .ok (.value u) w' =>u=v∧D w'
 | .ok .skip w' =>v=undef∧D w'
 | .ok (.enter f args) w' =>P.inits.idxOf? f=none∧Calls P f args w' fun e w'' =>e= .returned v∧D w''
 |_=>False
def H6 (P:Program) (φ:Gh→Value) (D:Gh→World→Prop):Result Next→Prop
 | .ok (.value u) w' => ∃ g,u=φ g∧D g w'
 | .ok .skip w' => ∃ g,undef=φ g∧D g w'
 | .ok (.enter f args) w' =>Calls P f args w' fun e w'' => ∃ g,e= .returned (φ g)∧D g w''
 | .ok (.row row args) w' =>Rows P row args w' fun u w'' => ∃ g,u=φ g∧D g w''
 |_=>False
variable (V:Nat→Option (Gh→Value)) (C:(Nat→Gh)→Array Bool→World→Prop)
inductive GX (P:Program) (md:Region.Mode) (ops:Array Oper) (V:Nat→Option (Gh→Value)) (C:(Nat→Gh)→Array Bool→World→Prop) (γ:Nat→Gh) (i:Nat) (o:Oper) (v:Value) (a:Act):Prop
 |pass (hw:Region.wanted o (yielded ops a.tmps)=false) (hv:v=undef) (hC: ∀ L w,i∈Region.ready md ops L→C γ L w→C γ (L.setIfInBounds i true) w)
 |det (hw:Region.wanted o (yielded ops a.tmps)=true) (hV:V i=none) (hC: ∀ L w,i∈Region.ready md ops L→C γ L w→H7 P (C γ (L.setIfInBounds i true)) v ((execOp a.eval o).run P w))
 |non (hw:Region.wanted o (yielded ops a.tmps)=true) (φ:Gh→Value) (hV:V i=some φ) (hv:v=φ (γ i)) (hC: ∀ L w,i∈Region.ready md ops L→C γ L w→H6 P φ (fun g=>C (upd γ i g) (L.setIfInBounds i true)) ((execOp a.eval o).run P w))
variable {V C}
def wpX (P:Program) (md:Region.Mode) (ops:Array Oper) (V:Nat→Option (Gh→Value)) (C:(Nat→Gh)→Array Bool→World→Prop) (γ:Nat→Gh) (Q:Act→Prop):List Oper→Nat→Act→Prop
 | [],_,a=>Q a
 |o::r,k,a=> ∃ v,GX P md ops V C γ k o v a∧wpX P md ops V C γ Q r (k+1) (a.put o.dst v)
end
section
variable {P:Program} {n:Fr} {w0:World} {Q:aO} {s:au} {H:List Blk} {l rest:List Oper} {ty:TypeId} {p:String} {af:Array Edge}
def Ip (w0:World) (l:List Oper) (HL:iH→(Nat→Gh)→List Blk) (γ:Nat→Gh) (L:Array Bool) (w:World):Prop:=Cls w0 l (fun D=>HL D γ) L w
def WX (P:Program) (n:Fr) (w0:World) (l:List Oper) (V:Nat→Option (Gh→Value)) (HL:iH→(Nat→Gh)→List Blk) (γ:Nat→Gh) (K:au→Prop) (rest:List Oper) (k:Nat) (s:au):Prop:=
 ∀ a,St n s a→(∀ j,rest[j]? =l[k+j]?)→wpX P .any l.toArray V (Ip w0 l HL) γ (fun a' => ∃ s',St n s' a' ∧K s') rest k a
variable {V:Nat→Option (Gh→Value)} {HL:iH→(Nat→Gh)→List Blk} {γ:Nat→Gh} {K:au→Prop} {k:Nat}
theorem rF {o:Oper} (hl: ∀ j,(o::rest)[j]? =l[k+j]?):l[k]? =some o∧ ∀ j,rest[j]? =l[k+1+j]? :=
 ⟨by simpa using (hl 0).symm,fun j=>by have:=hl (j+1);simpa [Kn,Kl 1 j] using this⟩
def gok (l:List Oper) (s:au):Option (Nat × Bool)→Option Bool
 |none=>some true
 |some (j,cx)=>match gd l j with
  |none=>none
  |some d=>match look s d with
   |none=>none
   |some v=>some (jh v==some cx)
theorem fZ {o:Oper} {g:Option (Nat × Bool)} {b:Bool} {a:Act} (hg:o.guard=g) (h:gok l s g=some b) (hs:St n s a):Region.wanted o (yielded l.toArray a.tmps)=b:=by
 unfold Region.wanted;rw [hg]
 cases g with
 |none=>simp only [gok,Option.some.injEq] at h;exact h
 |some x=>
  obtain ⟨j,cx⟩:=x;simp only [gok] at h;split at h
  ·cases h
  ·rename_i d hd;split at h
   ·cases h
   ·rename_i v hv;simp only [Option.some.injEq] at h;simp only [fO hs hd hv];exact h
variable {gu:Option (Nat × Bool)}
end
section
variable {P:Program} {n:Fr} {w0:World} {Q:aO} {K:au→Prop} {s:au} {H H1:List Blk} {l rest:List Oper} {k j f:Nat} {ty:TypeId} {p:String} {af:Array Edge}
theorem mP {t T g off m:Nat} {x a:Operand} {v:Value} {vs xs:List Value} {R:List Blk} [Size P t m] (ha:ev s a=some (.pointer (some ⟨g,off,none⟩))) (hx:ev s x=some v)
 (hsel:Sel (.box g T xs) H R) (hv:v.cells=vs.toArray) (hl:vs.length=m) (h1:vs.all Value.oneCell' =true) (hfit:off+m≤xs.length)
 (hnew:MSub H1 (.box g T (xs.take off++vs++xs.drop (off+m))::R)) (h:WG P n w0 l (fun D=>if D k then H1 else H) K rest (k+1) s):
 WG P n w0 l (fun D=>if D k then H1 else H) K (⟨none,.store t a x,ty,p,af,none⟩::rest) k s:=by
 refine rN (fun D ht a' w hs hm=> ?_) h;have e1:D k=false:=ht.not;have e2:put D k k=true:=by simp [put]
 simp only [e1,Jt,if_false] at hm;simp only [e2,if_true];have hm' :=hm.sel hsel;have hb:=(hm'.on _ Iu).1;simp only [Blk.on] at hb;have h1' : ∀ u∈vs,u.oneCell' =true:=by simpa using h1
 have hr:=d9 (P:=P) (t:=t) (off:=off) hv hl h1' hb (by simpa using hfit);simp only at hr;refine ⟨_,?_,hnew.use (hm'.upd (dZ _ _ _) (b' := .box g T (xs.take off++vs++xs.drop (off+m))) (setRow_heap _ _ _ _ _ _ hb) fun k hk=> .inl hk)⟩;simp [execOp,hs.eval a _ ha,hs.eval x _ hx,Instr.storeAt,Instr.sureAddr,hr]
theorem mO {t T g off:Nat} {x a:Operand} {v:Value} {xs:List Value} {R:List Blk} [Size P t 1] (ha:ev s a=some (.pointer (some ⟨g,off,none⟩))) (hx:ev s x=some v)
 (hsel:Sel (.box g T xs) H R) (hv:v.oneCell' =true) (hfit:Nat.blt off xs.length=true)
 (hnew:MSub H1 (.box g T (xs.set off v)::R)) (h:WG P n w0 l (fun D=>if D k then H1 else H) K rest (k+1) s):
 WG P n w0 l (fun D=>if D k then H1 else H) K (⟨none,.store t a x,ty,p,af,none⟩::rest) k s:=by
 refine mP (m:=1) ha hx hsel (vs:= [v]) (by cases v<;>first|rfl|cases hv) rfl (by simpa using hv) (by have:=Jf ▸ hfit;omega) ?_ h;rw [js _ _ _ (Jf ▸ hfit)];exact hnew
end
end Go.SL
namespace Go.Proofs
open Go Go.Shelf Go.RowKit Go.Lib Go.Sort Go.SL
def Tryz.sortIn_ren:Go.Shelf.Ren:=⟨fun|5=>41|8=>86|7=>85|19=>131|20=>132|10=>122|11=>123|12=>124|13=>125|14=>126|15=>127|16=>128|17=>129|18=>130|30=>173|31=>174|32=>175|33=>176|34=>177|35=>171|40=>230|n=>n,fun|23=>68|25=>3|3=>3|32=>159|22=>68|0=>0|44=>209|46=>49|4=>4|36=>202|35=>201|41=>76|5=>5|9=>9|53=>245|57=>249|63=>292|64=>293|n=>n,fun|n=>n⟩
theorem Tryz.sortIn:Go.Proofs.SlLaysM.n5 Tryz.prog Tryz.sortIn_ren:={
 mixed:=by kernel_rfl
 f5:=⟨Tryz.f41.name,by decide,Tryz.func41.trans (congrArg some (by kernel_rfl))⟩
 f7:=⟨Tryz.f85.name,by decide,Tryz.func85.trans (congrArg some (by kernel_rfl))⟩
 f8:=Tryz.func86.trans (congrArg some (by kernel_rfl))
 f10:=⟨Tryz.f122.name,by decide,Tryz.func122.trans (congrArg some (by kernel_rfl))⟩
 f11:=⟨Tryz.f123.name,by decide,Tryz.func123.trans (congrArg some (by kernel_rfl))⟩
 f12:=⟨Tryz.f124.name,by decide,Tryz.func124.trans (congrArg some (by kernel_rfl))⟩
 f13:=⟨Tryz.f125.name,by decide,Tryz.func125.trans (congrArg some (by kernel_rfl))⟩
 f14:=⟨Tryz.f126.name,by decide,Tryz.func126.trans (congrArg some (by kernel_rfl))⟩
 f15:=⟨Tryz.f127.name,by decide,Tryz.func127.trans (congrArg some (by kernel_rfl))⟩
 f16:=⟨Tryz.f128.name,by decide,Tryz.func128.trans (congrArg some (by kernel_rfl))⟩
 f17:=⟨Tryz.f129.name,by decide,Tryz.func129.trans (congrArg some (by kernel_rfl))⟩
 f18:=⟨Tryz.f130.name,by decide,Tryz.func130.trans (congrArg some (by kernel_rfl))⟩
 f19:=Tryz.func131.trans (congrArg some (by kernel_rfl))
 f20:=Tryz.func132.trans (congrArg some (by kernel_rfl))
 f30:=⟨Tryz.f173.name,by decide,Tryz.func173.trans (congrArg some (by kernel_rfl))⟩
 f31:=Tryz.func174.trans (congrArg some (by kernel_rfl))
 f32:=Tryz.func175.trans (congrArg some (by kernel_rfl))
 f33:=⟨Tryz.f176.name,by decide,Tryz.func176.trans (congrArg some (by kernel_rfl))⟩
 f34:=⟨Tryz.f177.name,by decide,Tryz.func177.trans (congrArg some (by kernel_rfl))⟩
 f35:=⟨Tryz.f171.name,by decide,Tryz.func171.trans (congrArg some (by kernel_rfl))⟩
 f40:=⟨Tryz.f230.name,by decide,Tryz.func230.trans (congrArg some (by kernel_rfl))⟩
 t0:=Tryz.underlying0
 a0:=Tryz.isAgg0
 z0:=Tryz.sizeOf0
 v0:=Tryz.zeroValue0
 t3:=Tryz.underlying3
 a3:=Tryz.isAgg3
 z3:=Tryz.sizeOf3
 v3:=Tryz.zeroValue3
 t4:=Tryz.underlying4
 a4:=Tryz.isAgg4
 z4:=Tryz.sizeOf4
 v4:=Tryz.zeroValue4
 t5:=Tryz.underlying5
 a5:=Tryz.isAgg5
 z5:=Tryz.sizeOf5
 v5:=Tryz.zeroValue5
 t9:=Tryz.underlying9
 a9:=Tryz.isAgg9
 z9:=Tryz.sizeOf9
 v9:=Tryz.zeroValue9
 t22:=Tryz.underlying68
 a22:=Tryz.isAgg68
 z22:=Tryz.sizeOf68
 v22:=Tryz.zeroValue68
 t23:=Tryz.underlying68
 a23:=Tryz.isAgg68
 z23:=Tryz.sizeOf68
 v23:=Tryz.zeroValue68
 t25:=Tryz.underlying3
 a25:=Tryz.isAgg3
 z25:=Tryz.sizeOf3
 v25:=Tryz.zeroValue3
 t32:=Tryz.underlying159
 a32:=Tryz.isAgg159
 z32:=Tryz.sizeOf159
 v32:=Tryz.zeroValue159
 t35:=Tryz.underlying201
 a35:=Tryz.isAgg201
 z35:=Tryz.sizeOf201
 v35:=Tryz.zeroValue201
 t36:=Tryz.underlying202
 a36:=Tryz.isAgg202
 z36:=Tryz.sizeOf202
 v36:=Tryz.zeroValue202
 t41:=Tryz.underlying76
 a41:=Tryz.isAgg76
 z41:=Tryz.sizeOf76
 v41:=Tryz.zeroValue76
 t44:=Tryz.underlying209
 a44:=Tryz.isAgg209
 z44:=Tryz.sizeOf209
 v44:=Tryz.zeroValue209
 t46:=Tryz.underlying49
 a46:=Tryz.isAgg49
 z46:=Tryz.sizeOf49
 v46:=Tryz.zeroValue49
 t53:=Tryz.underlying245
 a53:=Tryz.isAgg245
 z53:=Tryz.sizeOf245
 v53:=Tryz.zeroValue245
 t57:=Tryz.underlying249
 a57:=Tryz.isAgg249
 z57:=Tryz.sizeOf249
 v57:=Tryz.zeroValue249
 t63:=Tryz.underlying292
 a63:=Tryz.isAgg292
 z63:=Tryz.sizeOf292
 v63:=Tryz.zeroValue292
 t64:=Tryz.underlying293
 a64:=Tryz.isAgg293
 z64:=Tryz.sizeOf293
 v64:=Tryz.zeroValue293 }
end Go.Proofs
namespace Go.SL
open Go Go.Proofs Go.Sort Go.Shelf
theorem mV {α:Type} [Inhabited α] {enc:α→Value} (w:World) (g n:Nat) (d:Array α) (os:Array Obj):w.grownBy (grow (putRow enc (Sort.ahead w n) g 0 d) os) (some g):={
 os:=rfl
 tape:=rfl
 output:=rfl
 size:=by
  show w.heap.size≤((w.heap.modify g _)++os).size;rw [Array.size_append,Ko];omega
 block k hk hne:=by
  show ((w.heap.modify g _)++os)[k]? =_;rw [Ju (by rw [Ko];exact hk),J4,if_neg (fun e=>hne (by rw [e]))] }
theorem oK {α:Type} [Inhabited α] {enc:α→Value} (w:World) (g n:Nat) (d:Array α) (os:Array Obj) (c:Array Value) (T:TypeId) (fr:Nat × Nat) (h:w.heap[g]? =some (.cells c T fr)):
 (grow (putRow enc (Sort.ahead w n) g 0 d) os).heap[g]? =some (.cells (putCells enc 0 d c) T fr):=by
 have hlt:g<w.heap.size:=(IW.1 h).1;show ((w.heap.modify g _)++os)[g]? =_;rw [Ju (by rw [Ko];exact hlt),J4,if_pos rfl,h]
 rfl
theorem w9 (L:List Int) (xs junk:List Value) (hl:xs.length=L.length):putCells qb 0 L.toArray (xs++junk).toArray=(L.map qb++junk).toArray:=by
 apply KY;intro j;simp only [putCells,Lb,I0,JK,Iw,true_and,IG,JJ];by_cases hj:j<L.length
 ·rw [I6 (by omega),I6 (by rw [II];omega),Iy,Ir (by omega),Ir hj];simp [hj]
 ·rw [Ji (by omega),Ji (by rw [II];omega),hl,II];simp [hj]
theorem uB (L:List Int) (A:Option Nat) (cap:Nat) (hL:L.length≤1000000) (R:List Blk) (w0:World):
 FnIn Tryz.prog 41 [sl A L.length cap] w0 (.own A 3 1 L.length cap (L.map qb)::R) fun v H=>v= .tuple #[]∧H= .own A 3 1 L.length cap ((lh L).map qb)::R:=by
 have hl:(lh L).length=L.length:=(wX L).length_eq
 cases A with
 |none=>
  intro w hm;obtain ⟨⟨h1,h2,h3,h4⟩,_⟩:=hm.on _ Iu;obtain ⟨h5,h6⟩:=h4;have hnil:L= []:=JX.1 h5;subst hnil;subst h6;have he:lh []= []:=JX.1 hl;refine Calls.mono (AnyM.slices_Sort_int_none Tryz.sortIn none 0 w) ?_;rintro e w' ⟨rfl,rfl⟩;exact ⟨_,_,rfl,hm,rfl,by rw [he]⟩
 |some g=>
  intro w hm;obtain ⟨⟨h1,h2,h3,junk,h4,h5⟩,hkk⟩:=hm.on _ Iu;have hlt:g<w.heap.size:=(IW.1 h5).1;have hH:Holds qb w g 0 L.toArray:=by
   intro j hj;simp only [JK] at hj;have hc:(L.map qb++junk).toArray[j]? =some (qb L.toArray[j]!):=by
    rw [I0,I6 (by rw [II];exact hj),Iy,Ir hj];simp [hj]
   constructor
   ·simp only [World.cell?,IG,h5];exact hc
   ·simp [World.frozen?,h5]
  have hs:=AnyM.slices_Sort_int Tryz.sortIn g 0 cap L w hH hlt (by omega);refine hs.mono ?_;rintro e w' ⟨rfl,n,os,rfl⟩;refine ⟨_,_,rfl,hm.upd (mV _ _ _ _ _) (b' := .own (some g) 3 1 L.length cap ((lh L).map qb)) ?_ fun k hk=> .inl hk,rfl,rfl⟩;refine ⟨by rw [II,hl,Jd],h2,h3,junk,by rw [Iv,II,hl,← Jd L.length,← h1,← Iv];exact h4,?_⟩;have h6:=oK (enc:=qb) w g n (lh L).toArray os _ _ _ h5;rw [w9 (lh L) _ _ (by rw [hl,h1,Jd])] at h6;exact h6
end Go.SL
namespace Go.SL
open Go Go.RowKit
theorem oN {P:Program} (w:World) (base:Nat) (t ty e:TypeId) (i:TypeInfo) (z:Value) (size bytes:Nat) (ht:P.underlying t=some (.slice e)) (hi:P.info? e=some i) (hz:i.zero=some z)
 (hsize:i.size=size) (hby:i.bytes=bytes) (hzs:z.cells.size=size) (hsz:0<size)
 (g n cap k off:Nat) (hk:k≤n) (hoff:k<cap→off=k*size) (xs:List Value) (hown:w.ownsRow base e size (.slice (some ⟨g,0,none⟩) n cap) n xs)
 (a:Addr) (m c:Nat) (news:List Value) (hl:news.length=m*size) (hnews: ∀ j u,news[j]? =some u→w.cell? (a.add j)=some u) (h1: ∀ u∈news,u.oneCell' =true) (hm0:0<m)
 (h63:n+m≤maxLen) (hbytes:(n+m)*bytes≤140737488355328) (hbase:base≤w.heap.size):
 ∃ v' w',(Builtin.append_ #[t,t] ty #[.slice (some ⟨g,off,none⟩) (n - k) (cap - k),.slice (some a) m c]).run P w= .ok v' w' ∧w.grownBy w' (some g)∧
  ((v' = .slice (some ⟨g, off, none⟩) (n - k + m) (cap - k) ∧ n + m ≤ cap ∧ w'.ownsRow base e size (.slice (some ⟨g, 0, none⟩) (n + m) cap) (n + m) (xs ++ news)) ∨
   (∃ cap',v' = .slice (some ⟨w.heap.size,0,none⟩) (n - k+m) cap' ∧w'.ownsRow base e size v' (n - k+m) (xs.drop (k*size)++news))):=by
 subst hsize;subst hby;obtain ⟨hxl,hown2⟩:=hown;rcases hown2 with ⟨h0,_⟩|⟨g',cap',cur,hv,hbg,hg,hnc,hcm,hcs,htake⟩
 ·cases h0
 injection hv with e1 e2 e3;injection e1 with e1;injection e1 with e1;subst e1;subst e3;have hsrc:Src P i.size t (.slice (some a) m c) m news w:=Src.ofSlice w ht a m c news hl hnews h1;have hlen:(xs++news).length=(n+m)*i.size:=by rw [Iv,hxl,hl,JP]
 by_cases hroom:n+m≤cap
 ·have hoff' :=hoff (by omega);subst hoff';have hfit:n*i.size+news.length≤cur.size:=by rw [hl,hcs,← JP];exact JQ _ hroom
  have hkn:k*i.size+(n - k)*i.size=n*i.size:=by
   rw [← JP];congr 1;omega
  have hr0:=run_append_room (P:=P) w t ty e i ht hi g n cap cur hg a m c news hl hnews h1 hroom hfit;have hcell: ∀ j,j<news.length→(w.cell? ⟨g,n*i.size+j,none⟩).isSome=true:=fun j hj=>by
   simp only [World.cell?,hg];rw [Array.getElem?_eq_getElem (by omega)]
   rfl
  have hfro: ∀ j,j<news.length→w.frozen? ⟨g,n*i.size+j,none⟩=false:=fun j hj=>by
   simp [World.frozen?,hg]
  have hr1:=run_append_room_src (P:=P) w t t ty e i ht hi g 0 n cap (.slice (some a) m c) m news hsrc hroom (by simpa using hcell) (by simpa using hfro);have hr2:=run_append_room_src (P:=P) w t t ty e i ht hi g (k*i.size) (n - k) (cap - k) (.slice (some a) m c) m news hsrc (by omega) (by rw [hkn];exact hcell) (by rw [hkn];exact hfro);rw [hkn] at hr2;rw [IG] at hr1;have hw:=hr0.symm.trans hr1;injection hw with hw1 hw2;rw [← hw2] at hr2;refine ⟨_,_,hr2,⟨rfl,rfl,rfl,by simp,fun j _ hj=>setRow_other w g j _ (fun e=>hj (by rw [e]))⟩,.inl ⟨rfl,hroom,hlen,.inr ⟨g,cap,_,rfl,hbg,setRow_heap w g cur _ e _ hg,hroom,hcm,?_,?_⟩⟩⟩
  ·simp only [JK,Iv,Jl,Jg,Array.length_toList];omega
  ·rw [htake,← hlen];exact Kg
 ·have hol:(xs.drop (k*i.size)).length=(n - k)*i.size:=by rw [Jg,hxl,← Nat.sub_mul]
  have hold:(Builtin.firstCells i.size (n - k) (.slice (some ⟨g,off,none⟩) (n - k) (cap - k))).run P w.drew= .ok (xs.drop (k*i.size)).toArray w.drew:=by
   by_cases hkn:n=k
   ·subst hkn;have e0:xs.drop (n*i.size)= []:=JV (by rw [hol];simp);rw [e0];exact run_firstCells_some w.drew i.size (n - n) ⟨g,off,none⟩ (n - n) (cap - n) [] (by simp) (fun j u hu=>by simp at hu)
   ·have hoff' :=hoff (by omega);subst hoff';refine run_firstCells_some w.drew i.size (n - k) ⟨g,k*i.size,none⟩ (n - k) (cap - k) _ hol fun j u hu=> ?_;have hcc:w.cell? ((⟨g,0,none⟩:Addr).add (k*i.size+j))=some u:=by
     have hu' :xs[k*i.size+j]? =some u:=by rw [← J3];exact hu
     exact World.ownsRow.cells (w:=w) (base:=base) (e:=e) (size:=i.size) (v:= .slice (some ⟨g,0,none⟩) n cap) (n:=n) (xs:=xs) ⟨hxl,.inr ⟨g,cap,cur,rfl,hbg,hg,hnc,hcm,hcs,htake⟩⟩ (g:=g) rfl _ _ hu'
    rw [bA] at hcc ⊢;simpa using hcc
  have hfits:Builtin.nextslicecap (n - k+m) (cap - k)*i.bytes≤281474976710656:=growslice_fits (by omega) (Je (JQ _ (by omega)) hbytes);have hr:=run_append_grow_src (P:=P) w t t ty e i z ht hi hz (some ⟨g,off,none⟩) (n - k) (cap - k) (xs.drop (k*i.size)) hold (.slice (some a) m c) m news hsrc (by omega) (by simp only [maxLen] at h63;omega) hfits;have hge:=grownCap_ge w (n - k+m) (cap - k) e;have hcm2:grownCap w (n - k+m) (cap - k) e≤maxLen:=grownCap_le_maxLen w (n - k+m) (cap - k) e (by omega);have hlen2:(xs.drop (k*i.size)++news).length=(n - k+m)*i.size:=by rw [Iv,hol,hl,JP]
  refine ⟨_,_,hr,⟨rfl,rfl,rfl,by simp,fun k hk _=>heap_alloc_old w.drew _ hk⟩,.inr ⟨_,rfl,hlen2,.inr ⟨w.heap.size,_,_,rfl,hbase,heap_alloc_new w.drew _,hge,hcm2,?_,?_⟩⟩⟩
  ·simp only [Array.size_append,JK,size_zeroCells,hzs,hlen2,← JP];congr 1;omega
  ·simp only [Array.toList_append,I1];rw [← I1,← hlen2];exact Kg
section
variable {P:Program} {n:Fr} {w0:World} {Q:aO} {s:au} {H:List Blk} {rest:List Oper} {ty:TypeId} {p:String} {af:Array Edge}
theorem nZ {d t e n' c k off g g2 sz by_:Nat} {x y:Operand} {xs news:List Value} {R:List Blk} {ops:Array Oper} [ht:Und P t (.slice e)] [he:Elem P e sz by_] (hn:Nat.blt d n.sz=true)
 (hx:ev s x=some (.slice (some ⟨g,off,none⟩) (n' - k) (c - k))) (hk:k≤n') (hoff:k<c→off=k*sz) (hy:ev s y=some (.slice (some ⟨g2,0,none⟩) 1 1)) (hsel:Sel (.own (some g) e sz n' c xs) H R)
 (hi:In (.own (some g2) e sz 1 1 news) H) (hl:news.length=sz) (h1: ∀ u∈news,u.oneCell' =true) (hby:(n' +1)*by_≤140737488355328) (h63:n' +1≤maxLen)
 (K: ∀ g' off' k' n2 c2 ys,k' ≤n2→(k' <c2→off' =k' *sz)→n2 - k' =n' - k+1→n2≤n' +1→ys.drop (k' *sz)=xs.drop (k*sz)++news→WL P n w0 ops rest Q ((d,.slice (some ⟨g',off',none⟩) (n2 - k') (c2 - k'))::s) (.own (some g') e sz n2 c2 ys::R)):
 WL P n w0 ops (⟨some d,.call { callee:= .builtin .append,args:= #[x,y],argTypes:= #[t,t] },ty,p,af,none⟩::rest) Q s H:=by
 intro a w hs hm;have hm' :=hm.sel hsel;obtain ⟨i,z,i1,i2,i3,i4,i5,i6⟩:=he.out;have hb:=(hm'.on _ Iu);have hown:w.ownsRow w0.heap.size e sz (.slice (some ⟨g,0,none⟩) n' c) n' xs:=by
  obtain ⟨⟨b1,b2,b3,b4⟩,b5⟩:=hb;refine ⟨b1,?_⟩;obtain ⟨junk,j1,j2⟩:=b4;refine .inr ⟨g,c,_,rfl,b5 g rfl,j2,b2,b3,by simpa using j1,?_⟩;simp only [Kt];rw [← b1,Kg]
 have hxl:=hown.1
 obtain ⟨v',w',hr,hgr,hcase⟩:=oN (P:=P) w w0.heap.size t ty e i z sz by_ ht.out i1 i4 i2 i3 i5 i6 g n' c k off hk hoff xs hown ⟨g2,0,none⟩ 1 1 news (by omega)
  (fun j u hu=>by rw [bA];exact hm.cells_own hi j u hu) h1 (by omega) h63 hby hm.below.size
 have key: ∀ (G' N2 C2:Nat) (ys:List Value),w'.ownsRow w0.heap.size e sz (.slice (some ⟨G',0,none⟩) N2 C2) N2 ys→(Blk.own (some G') e sz N2 C2 ys).on w' :=by
  intro G' N2 C2 ys ho;obtain ⟨q1,q2⟩:=ho;rcases q2 with ⟨h0,_⟩|⟨g3,cap3,cur,hv,_,q4,q5,q6,q7,q8⟩
  ·cases h0
  ·injection hv with e1 e2 e3;injection e1 with e1;injection e1 with e1;subst e1;subst e3;refine ⟨q1,q5,q6,cur.toList.drop (N2*sz),?_,?_⟩
   ·rw [← q8,Jr];simpa using q7
   ·rw [← q8,Jr];simpa using q4
 refine wpList_plain rfl fun K' hK' => ?_;unfold Oper.wp execOp;simp only [resolve,invoke,builtin,Sem.run_bind,Sem.run_pure,Result.andThen_ok,JU,Ja,Jz,hs.eval x _ hx,hs.eval y _ hy,hr,Oper.upon];rcases hcase with ⟨rfl,hroom,ho⟩|⟨cap',rfl,ho⟩
 ·have e1:n' - k+1=n' +1 - k:=by omega
  rw [e1] at*;refine hK' _ _ (K g off k (n' +1) c (xs++news) (by omega) hoff (by omega) (IK _) ?_ _ _ (hs.put (Jf ▸ hn) _) (hm'.upd hgr (key _ _ _ _ ho) fun j hj=> .inl hj));exact KN (by rw [hxl];exact JQ _ hk)
 ·refine hK' _ _ (K w.heap.size 0 0 (n' - k+1) cap' (xs.drop (k*sz)++news) (Iw _) (fun _=>by simp) (by omega) (by omega) (by simp) _ _ (hs.put (Jf ▸ hn) _) (hm'.upd hgr (key _ _ _ _ (by simpa using ho)) fun j hj=> ?_))
  right
  simp only [Blk.key] at hj;injection hj with hj;omega
end
end Go.SL

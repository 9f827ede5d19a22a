/-
  Lemmas and walks, put together: Sl4 Sl5.
-/
import Derived.Test.YthefeclkaaocnaaGreatDoorKj01
set_option linter.unusedSimpArgs false
set_option linter.unusedVariables false
set_option maxRecDepth 20000
namespace Go.SL
open Go Go.RowKit
def aQ (P:Program) (f:FuncId) (args:List Value) (w:World) (R:Value→List Blk→Prop):Prop:=
 Calls P f args.toArray w fun e w' => ∃ v H',e= .returned v∧Mem w w' H' ∧R v H'
def ax (P:Program) (f:FuncId) (args:List Value) (w:World) (v:Value):Prop:=aQ P f args w fun u _=>u=v
def FnIn (P:Program) (f:FuncId) (args:List Value) (w0:World) (H:List Blk) (R:Value→List Blk→Prop):Prop:=
 ∀ w,Mem w0 w H→Calls P f args.toArray w fun e w' => ∃ v H',e= .returned v∧Mem w0 w' H' ∧R v H'
theorem FnIn.mono {P:Program} {f:FuncId} {args:List Value} {w0:World} {H:List Blk} {R R' :Value→List Blk→Prop} (h:FnIn P f args w0 H R) (hr: ∀ v H,R v H→R' v H):FnIn P f args w0 H R' :=
 fun w hm=>Calls.mono (h w hm) fun _ _ ⟨v,H',h1,h2,h3⟩=>⟨v,H',h1,h2,hr _ _ h3⟩
theorem FnIn.of_at {P:Program} {f:FuncId} {args:List Value} {w0:World} {H:List Blk} {R:Value→List Blk→Prop} (h: ∀ w,Mem w0 w H→aQ P f args w R):
  FnIn P f args w0 H fun v H' => ∃ H1,R v H1∧H' =H1++H:=
 fun w hm=>Calls.mono (h w hm) fun _ _ ⟨v,H',h1,h2,h3⟩=>⟨v,H' ++H,h1,hm.call h2,H',h3,rfl⟩
def evs (s:az):List Operand→Option (List Value)
 | []=>some []
 |x::r=>match ev s x,evs s r with
  |some v,some vs=>some (v::vs)
  |_,_=>none
section
variable {P:Program} {n:Fr} {w0:World} {Q:bO} {s:az} {H:List Blk} {l rest:List Oper} {ty:TypeId} {p:String} {af:Array Edge}
theorem gh {a:Act} (hs:St n s a): ∀ {xs:List Operand} {vs:List Value},evs s xs=some vs→xs.map a.eval=vs
 | [],vs,h=>by simp only [evs,Option.some.injEq] at h;simp [← h]
 |x::r,vs,h=>by
  simp only [evs] at h
  split at h
  ·
   rename_i v vs' hv hvs
   simp only [Option.some.injEq] at h
   rw [← h,Ow,gh hs hvs,hs.eval x v hv]
  ·
   cases h
theorem jO {ρ:Operand→Value} {w:World} {d:Option Tmp} {g:Option (Nat × Bool)} {f:FuncId} {c:Operand} {xs:List Operand} {vs caps:List Value} {ts:Array TypeId} [hf:Callable P f] (hc:ρ c= .func (.func f) #[] caps.toArray) (hx:xs.map ρ=vs):
  (execOp ρ ⟨d,.call { callee:= .value c,args:=xs.toArray,argTypes:=ts },ty,p,af,g⟩).run P w= .ok (.enter f (vs++caps).toArray) w:=by
 simp [execOp,resolve,hc,Deferred.ofValue,invoke,← hx,hf.out]
theorem aw {d:Nat} {ops:Array Oper} {f:FuncId} {xs:List Operand} {vs:List Value} {ts:Array TypeId} {R:Value→List Blk→Prop} [Callable P f] (hn:Nat.blt d n.sz=true) (hx:evs s xs=some vs)
  (hF:FnIn P f vs w0 H R) (k: ∀ v H',R v H' →WL P n w0 ops rest Q ((d,v)::s) H'):
  WL P n w0 ops (⟨some d,.call { callee:= .value (.func f),args:=xs.toArray,argTypes:=ts },ty,p,af,none⟩::rest) Q s H:=by
 intro a w hs hm
 refine wpList_plain rfl fun K hK=> ?_
 have hr:=jO (P:=P) (w:=w) (ρ:=a.eval) (d:=some d) (ty:=ty) (p:=p) (af:=af) (g:=none) (f:=f) (c:= .func f) (xs:=xs) (caps:= []) (ts:=ts) rfl (gh hs hx)
 rw [NM] at hr
 simp only [Oper.wp,hr,Oper.upon]
 refine (hF w hm).mono ?_
 rintro e w' ⟨v,H',rfl,hm',hR⟩
 exact hK _ _ (k v H' hR _ _ (hs.put (OH ▸ hn) _) hm')
theorem lc {d:Nat} {ops:Array Oper} {f:FuncId} {c:Operand} {xs:List Operand} {vs caps:List Value} {ts:Array TypeId} {R:Value→List Blk→Prop} (hn:Nat.blt d n.sz=true) (hc:ev s c=some (.func (.func f) #[] caps.toArray)) (hfc:Callable P f) (hx:evs s xs=some vs)
  (hF:FnIn P f (vs++caps) w0 H R) (k: ∀ v H',R v H' →WL P n w0 ops rest Q ((d,v)::s) H'):
  WL P n w0 ops (⟨some d,.call { callee:= .value c,args:=xs.toArray,argTypes:=ts },ty,p,af,none⟩::rest) Q s H:=by
 intro a w hs hm
 refine wpList_plain rfl fun K hK=> ?_
 have hr:=jO (P:=P) (w:=w) (ρ:=a.eval) (d:=some d) (ty:=ty) (p:=p) (af:=af) (g:=none) (f:=f) (c:=c) (xs:=xs) (caps:=caps) (ts:=ts) (hs.eval c _ hc) (gh hs hx)
 simp only [Oper.wp,hr,Oper.upon]
 refine (hF w hm).mono ?_
 rintro e w' ⟨v,H',rfl,hm',hR⟩
 exact hK _ _ (k v H' hR _ _ (hs.put (OH ▸ hn) _) hm')
theorem aG {d:Nat} {ops:Array Oper} {f:FuncId} {xs:List Operand} {vs:List Value} {ts:Array TypeId} {R:Value→List Blk→Prop} [Callable P f] (hn:Nat.blt d n.sz=true) (hx:evs s xs=some vs)
  (hF: ∀ w,Mem w0 w H→aQ P f vs w R) (k: ∀ v H',R v H' →WL P n w0 ops rest Q ((d,v)::s) (H' ++H)):
  WL P n w0 ops (⟨some d,.call { callee:= .value (.func f),args:=xs.toArray,argTypes:=ts },ty,p,af,none⟩::rest) Q s H:=
 aw hn hx (FnIn.of_at hF) fun v _ ⟨H1,h1,h2⟩=>h2 ▸ k v H1 h1
theorem aa {d:Nat} {ops:Array Oper} {f:FuncId} {xs:List Operand} {vs:List Value} {v:Value} {ts:Array TypeId} [Callable P f] (hn:Nat.blt d n.sz=true) (hx:evs s xs=some vs)
  (hF: ∀ w,Mem w0 w H→ax P f vs w v) (k:WL P n w0 ops rest Q ((d,v)::s) H):
  WL P n w0 ops (⟨some d,.call { callee:= .value (.func f),args:=xs.toArray,argTypes:=ts },ty,p,af,none⟩::rest) Q s H:=
 aG hn hx (R:=fun u _=>u=v) hF fun u H' e=>by
  subst e
  exact xo ⟨H',O7⟩ k
def Res (P:Program) (fn:Func) (n:Fr) (w0:World) (s:az) (H:List Blk) (v:Value):Prop:=
 ∀ a w,St n s a→Mem w0 w H→(results fn a.tmps).run P w= .ok v w
def bg (P:Program) (fn:Func) (n:Fr) (w0:World) (R:Value→List Blk→Prop):bO:=fun e s H=>(e= .ret∨e= .normal)∧ ∃ v H',MSub H' H∧Res P fn n w0 s H v∧R v H'
def qM:List Value→Nat→az
 | [],_=> []
 |v::r,k=>(k,v)::qM r (k+1)
theorem lB (args:List Value) (k t:Nat):look (qM args k) t=if k≤t then args[t - k]? else none:=by
 induction args generalizing k with
 |nil=>simp [qM,look]
 |cons v r ih=>
  simp only [qM]
  rw [iA,ih]
  by_cases h:k=t
  ·
   subst h;simp
  ·
   rw [if_neg h]
   by_cases h2:k≤t
   ·
    rw [if_pos h2,if_pos (by omega),show t - k=(t - (k+1))+1 by omega,List.getElem?_cons_succ]
   ·
    rw [if_neg h2,if_neg (by omega)]
theorem eC {m:Nat} {f:FuncId} {fn:Func} {c:Code} {args:List Value} {R:Value→List Blk→Prop} (hf:P.funcs[f]? =some fn) (hb:fn.body=some c) (hn:fn.ntmps=m) (hle:Nat.ble args.length m=true)
  (h:W P ⟨m,[]⟩ w0 c (bg P fn ⟨m,[]⟩ w0 R) (qM args 0) H):FnIn P f args w0 H R:=by
 intro w hm
 have hle' :args.length≤m:=by simpa using hle
 refine calls_of_wp hf hb (wp_mono (h { tmps:=args.toArray++Array.replicate (fn.ntmps - args.toArray.size) undef,defers:= [] } w ⟨?_,rfl,?_⟩ hm) ?_)
 ·
  simp [hn];omega
 ·
  intro t v ht
  rw [lB] at ht
  simp only [NY,if_true,PJ] at ht
  have hlt:t<args.length:=(NV.1 ht).1
  rw [O9 (by simpa using hlt)]
  simpa using ht
 ·
  rintro e a w' ⟨s',H',hs,hm',he,v,H'',hsub,hr,hR⟩
  have hp:a.defers= []∧ ∃ v,(results fn a.tmps).run P w' = .ok v w' ∧ ∃ v1 H1,Ending.returned v= .returned v1∧Mem w0 w' H1∧R v1 H1:=
   ⟨hs.defers,v,hr a w' hs hm',v,H'',rfl,hsub.use hm',hR⟩
  rcases he with rfl|rfl<;>exact hp
theorem aq {m:Nat} {f:FuncId} {fn:Func} {c:Code} {args:List Value} {w:World} {R:Value→List Blk→Prop} (hf:P.funcs[f]? =some fn) (hb:fn.body=some c) (hn:fn.ntmps=m) (hle:Nat.ble args.length m=true)
  (h:W P ⟨m,[]⟩ w c (bg P fn ⟨m,[]⟩ w R) (qM args 0) []):aQ P f args w R:=eC hf hb hn hle h w (Mem.refl w)
section res
variable {fn:Func} {R:Value→List Blk→Prop} {e:Exit}
theorem iX (he:e= .ret∨e= .normal) (hr:fn.results= #[]) {H' :List Blk} (hs:MSub H' H) (h:R (.tuple #[]) H'):bg P fn n w0 R e s H:=
 ⟨he,_,H',hs,fun a w _ _=>by simp [results,hr],h⟩
theorem dF (he:e= .ret∨e= .normal) {t:Tmp} {v:Value} (hr:fn.results= #[.tmp t]) (hv:look s t=some v) {H' :List Blk} (hs:MSub H' H) (h:R v H'):bg P fn n w0 R e s H:=
 ⟨he,v,H',hs,fun a w hst _=>by
  have:=hst.has t v hv
  simp [results,hr,Oj,this],h⟩
theorem jh (he:e= .ret∨e= .normal) {t u:Tmp} {v x:Value} (hr:fn.results= #[.tmp t,.tmp u]) (hv:look s t=some v) (hx:look s u=some x) {H' :List Blk} (hs:MSub H' H) (h:R (.tuple #[v,x]) H'):bg P fn n w0 R e s H:=
 ⟨he,_,H',hs,fun a w hst _=>by
  have h1:=hst.has t v hv
  have h2:=hst.has u x hx
  simp [results,hr,Oj,h1,h2],h⟩
theorem ou (he:e= .ret∨e= .normal) {t u q:Tmp} {v x y:Value} (hr:fn.results= #[.tmp t,.tmp u,.tmp q]) (hv:look s t=some v) (hx:look s u=some x) (hy:look s q=some y) {H' :List Blk} (hs:MSub H' H) (h:R (.tuple #[v,x,y]) H'):bg P fn n w0 R e s H:=
 ⟨he,_,H',hs,fun a w hst _=>by
  have h1:=hst.has t v hv
  have h2:=hst.has u x hx
  have h3:=hst.has q y hy
  simp [results,hr,Oj,h1,h2,h3],h⟩
end res
def WQ (P:Program) (n:Fr) (w0:World) (ops:Array Oper) (rest:List Oper) (K:az→Prop) (s:az) (H:List Blk):Prop:=
 ∀ a,St n s a→wpQuiet P ops (fun w=>Mem w0 w H) (fun a' => ∃ s',St n s' a' ∧K s') rest a
theorem gN {id:Nat} (hm:P.follows .mixedOrders=true) (hB:Region.lexB .any l.toArray=true) (h:WQ P n w0 l.toArray l (fun s' =>Q .normal s' H) s H):W P n w0 (.region id l.toArray true) Q s H:=by
 intro a w hs hmem
 refine wp_region_quiet (C:=fun w=>Mem w0 w H) hm hB hmem.drew ?_
 have h1:=h a hs
 have mono: ∀ (r:List Oper) (a:Act) (K K' :Act→Prop),(∀ a,K a→K' a)→wpQuiet P l.toArray (fun w=>Mem w0 w H) K r a→wpQuiet P l.toArray (fun w=>Mem w0 w H) K' r a:=by
  intro r
  induction r with
  |nil=>intro a K K' hk h;exact hk _ h
  |cons o r ih=>
   intro a K K' hk h
   unfold wpQuiet at h ⊢
   split
   ·
    rename_i hw
    rw [if_pos hw] at h
    exact Oper.quiet_mono (fun a' h' =>ih a' K K' hk h') h
   ·
    rename_i hw
    rw [if_neg hw] at h
    exact ih _ K K' hk h
 simp only [P7]
 exact mono _ _ _ _ (fun a' ⟨s',h2,h3⟩ w' hw' =>⟨s',H,h2,hw',h3⟩) h1
variable {K:az→Prop}
theorem LK {ops:Array Oper} (h:K s):WQ P n w0 ops [] K s H:=fun _ hs=>⟨s,hs,h⟩
theorem aK {ops:Array Oper} {op:Op} {d:Nat} {v:Value} (hn:Nat.blt d n.sz=true) (hv:VOp P w0 s H op ty v) (k:WQ P n w0 ops rest K ((d,v)::s) H):
  WQ P n w0 ops (⟨some d,op,ty,p,af,none⟩::rest) K s H:=by
 intro a hs
 unfold wpQuiet
 simp only [Region.wanted,if_true]
 refine ⟨v,fun w hm=> ?_,k _ (hs.put (OH ▸ hn) v)⟩
 unfold Oper.quietAt
 rw [hv a.eval w _ _ _ _ hs.eval hm]
 exact ⟨rfl,rfl⟩
theorem dO {d:Nat} {ops:Array Oper} {f:FuncId} {xs:List Operand} {vs:List Value} {v:Value} {ts:Array TypeId} [Callable P f] (hn:Nat.blt d n.sz=true) (hx:evs s xs=some vs)
  (hF: ∀ w,Mem w0 w H→ax P f vs w v) (k:WQ P n w0 ops rest K ((d,v)::s) H):
  WQ P n w0 ops (⟨some d,.call { callee:= .value (.func f),args:=xs.toArray,argTypes:=ts },ty,p,af,none⟩::rest) K s H:=by
 intro a hs
 unfold wpQuiet
 simp only [Region.wanted,if_true]
 refine ⟨v,fun w hm=> ?_,k _ (hs.put (OH ▸ hn) v)⟩
 unfold Oper.quietAt
 have hr:=jO (P:=P) (w:=w) (ρ:=a.eval) (d:=some d) (ty:=ty) (p:=p) (af:=af) (g:=none) (f:=f) (c:= .func f) (xs:=xs) (caps:= []) (ts:=ts) rfl (gh hs hx)
 rw [NM] at hr
 rw [hr]
 refine ⟨rfl,Calls.mono (hF w hm) ?_⟩
 rintro e w' ⟨u,H',rfl,hm',rfl⟩
 exact ⟨rfl,(hm.call hm').right⟩
theorem J1 {op:Op} {dst:Option Tmp} {j d:Nat} {dD:Bool} (hj:gd l j=some d) (hv:look s d=some (.bool dD))
  (k:WQ P n w0 l.toArray (⟨dst,op,ty,p,af,none⟩::rest) K s H):WQ P n w0 l.toArray (⟨dst,op,ty,p,af,some (j,dD)⟩::rest) K s H:=by
 intro a hs
 have h:=k a hs
 have hy:=jI hs hj hv
 unfold wpQuiet at h ⊢
 simp only [Region.wanted,if_true] at h
 simp only [Region.wanted,hy,kX,beq_self_eq_true,if_true]
 exact h
theorem GN {op:Op} {dst j d:Nat} {dD:Bool} {v:Value} (hj:gd l j=some d) (hv:look s d=some v) (hw:kX v≠some dD) (hn:Nat.blt dst n.sz=true)
  (k:WQ P n w0 l.toArray rest K ((dst,undef)::s) H):WQ P n w0 l.toArray (⟨some dst,op,ty,p,af,some (j,dD)⟩::rest) K s H:=by
 intro a hs
 have hy:=jI hs hj hv
 have:(yielded l.toArray a.tmps j==some dD)=false:=by rw [hy];simpa using hw
 unfold wpQuiet
 simp only [Region.wanted,this]
 exact k _ (hs.put (OH ▸ hn) _)
theorem E0 {op:Op} {dst:Option Tmp} {j d:Nat} {dD b:Bool} (_hj:gd l j=some d) (hv:look s d=some (.bool b))
  (k1:b=true→WQ P n w0 l.toArray (⟨dst,op,ty,p,af,some (j,dD)⟩::rest) K ((d,.bool true)::s) H)
  (k2:b=false→WQ P n w0 l.toArray (⟨dst,op,ty,p,af,some (j,dD)⟩::rest) K ((d,.bool false)::s) H):
  WQ P n w0 l.toArray (⟨dst,op,ty,p,af,some (j,dD)⟩::rest) K s H:=by
 intro a hs
 cases b with
 |true=>exact k1 rfl a (hs.shadow hv)
 |false=>exact k2 rfl a (hs.shadow hv)
end
end Go.SL
namespace Go.SL
section
variable {P:Program} {n:Fr} {w0:World} {Q:bO} {s:az} {H:List Blk} {l rest:List Oper} {ty:TypeId} {p:String} {af:Array Edge} {K:az→List Blk→Prop} {id id' :Nat}
theorem oG (h:K s H):thn K Q .normal s H:=h
theorem oF (h:Q .ret s H):thn K Q .ret s H:=h
theorem oH (h:Q (.exit id) s H):thn K Q (.exit id) s H:=h
theorem oV (h:Q .normal s H):blk id Q .normal s H:=h
theorem oU (h:Q .ret s H):blk id Q .ret s H:=h
theorem oW (h:Q .normal s H):blk id Q (.exit id) s H:=by simp only [blk,if_true];exact h
theorem oT (hne:Nat.beq id' id=false) (h:Q (.exit id') s H):blk id Q (.exit id') s H:=by
 have: ¬ id' =id:=Nat.ne_of_beq_eq_false hne
 simp only [blk,if_neg this];exact h
theorem fO {op:Op} {dst j d:Nat} {dD b:Bool} (hj:gd l j=some d) (hv:look s d=some (.bool b)) (hw:(b==dD)=false) (hn:Nat.blt dst n.sz=true)
  (k:WL P n w0 l.toArray rest Q ((dst,undef)::s) H):WL P n w0 l.toArray (⟨some dst,op,ty,p,af,some (j,dD)⟩::rest) Q s H:=
 GS hj hv (by simpa [kX] using hw) hn k
theorem fN {op:Op} {dst j d:Nat} {dD:Bool} (hj:gd l j=some d) (hv:look s d=some (.tuple #[])) (hn:Nat.blt dst n.sz=true)
  (k:WL P n w0 l.toArray rest Q ((dst,undef)::s) H):WL P n w0 l.toArray (⟨some dst,op,ty,p,af,some (j,dD)⟩::rest) Q s H:=
 GS hj hv (by simp [kX]) hn k
theorem GM {KQ:az→Prop} {op:Op} {dst j d:Nat} {dD b:Bool} (hj:gd l j=some d) (hv:look s d=some (.bool b)) (hw:(b==dD)=false) (hn:Nat.blt dst n.sz=true)
  (k:WQ P n w0 l.toArray rest KQ ((dst,undef)::s) H):WQ P n w0 l.toArray (⟨some dst,op,ty,p,af,some (j,dD)⟩::rest) KQ s H:=
 GN hj hv (by simpa [kX] using hw) hn k
theorem GL {KQ:az→Prop} {op:Op} {dst j d:Nat} {dD:Bool} (hj:gd l j=some d) (hv:look s d=some (.tuple #[])) (hn:Nat.blt dst n.sz=true)
  (k:WQ P n w0 l.toArray rest KQ ((dst,undef)::s) H):WQ P n w0 l.toArray (⟨some dst,op,ty,p,af,some (j,dD)⟩::rest) KQ s H:=
 GN hj hv (by simp [kX]) hn k
theorem cy {x:Operand} {t T g off m:Nat} {xs ys:List Value} [Agg P t m] (hx:ev s x=some (.pointer (some ⟨g,off,none⟩))) (hi:In (.box g T xs) H) (hv:rX ((xs.drop off).take m)=some ys) (hl:Nat.beq ys.length m=true):
  VOp P w0 s H (.load t x) ty (.agg ys.toArray):=rk hx hi (iP hv).symm (Ou hl)
theorem cw {x:Operand} {t T g m:Nat} {xs:List Value} [Agg P t m] (hx:ev s x=some (.pointer (some ⟨g,0,none⟩))) (hi:In (.box g T xs) H) (hl:Nat.beq xs.length m=true):
  VOp P w0 s H (.load t x) ty (.agg xs.toArray):=by
 have hm:=Ou hl
 exact rk hx hi (by rw [O4,← hm,OX]) hm
theorem bY {ops:Array Oper} {t T g off:Nat} {x a:Operand} {xs ys:List Value} {v:Value} {R:List Blk} [Size P t 1] (ha:ev s a=some (.pointer (some ⟨g,off,none⟩))) (hx:ev s x=some v)
  (hsel:Sel (.box g T xs) H R) (hv:v.oneCell' =true) (hfit:Nat.blt off xs.length=true) (hn:rX (xs.set off v)=some ys)
  (k:WL P n w0 ops rest Q s (.box g T ys::R)):WL P n w0 ops (⟨none,.store t a x,ty,p,af,none⟩::rest) Q s H:=
 xk ha hx hsel hv hfit (iP hn ▸ k)
theorem dm {ops:Array Oper} {t T g off m:Nat} {x a:Operand} {xs vs ys:List Value} {R:List Blk} [Size P t m] (ha:ev s a=some (.pointer (some ⟨g,off,none⟩))) (hx:ev s x=some (.agg vs.toArray))
  (hsel:Sel (.box g T xs) H R) (hl:Nat.beq vs.length m=true) (h1:vs.all Value.oneCell' =true) (hfit:Nat.ble (off+m) xs.length=true) (hn:rX (xs.take off++vs++xs.drop (off+m))=some ys)
  (k:WL P n w0 ops rest Q s (.box g T ys::R)):WL P n w0 ops (⟨none,.store t a x,ty,p,af,none⟩::rest) Q s H:=
 s9 ha hx hsel rfl (Ou hl) (by simpa using h1) (by simpa using hfit) (iP hn ▸ k)
end
end Go.SL
namespace Go.SL
open Go Go.RowKit
section
variable {P:Program} {n:Fr} {w0:World} {Q:bO} {s:az} {H:List Blk} {l rest:List Oper} {ty:TypeId} {p:String} {af:Array Edge}
theorem jZ {x y:Operand} {k k' :IntKind} {a:Int} {m:Nat} {t t' :TypeId} (hx:ev s x=some (.int k a)) (hy:ev s y=some (.int k' (m:Nat))) (hm:Nat.ble m k.bits=true):
  VOp P w0 s H (.binOp .shr t x y t') ty (.int k (a / 2 ^ m)):=fun ρ w _ _ _ _ hρ _=>by
 have hm' :m≤k.bits:=by simpa using hm
 have h0:(0:Int)≤(m:Int):=by omega
 simp [execOp,hρ x _ hx,hρ y _ hy,eqGuard,binOp,shift_shr_any k k' a m h0,Ps hm']
theorem tF {f:FuncId} {caps:List Operand} {vs:List Value} (hc:evs s caps=some vs):VOp P w0 s H (.makeFunc (.func f) #[] caps.toArray) ty (.func (.func f) #[] vs.toArray):=fun ρ w _ _ _ _ hρ _=>by
 have h: ∀ {xs:List Operand} {vs:List Value},evs s xs=some vs→xs.map ρ=vs:=by
  intro xs
  induction xs with
  |nil=>intro vs h;simp only [evs,Option.some.injEq] at h;simp [← h]
  |cons x r ih=>
   intro vs h
   simp only [evs] at h
   split at h
   ·
    rename_i v vs' hv hvs
    simp only [Option.some.injEq] at h
    rw [← h,Ow,ih hvs,hρ x v hv]
   ·
    cases h
 simp [execOp,Instr.makeFunc,h hc]
def Jf (s:az):List (Nat × Operand)→Option (List (Nat × Value))
 | []=>some []
 |(i,x)::r=>match ev s x,Jf s r with
  |some v,some vs=>some ((i,v)::vs)
  |_,_=>none
class Struct (P:Program) (t:TypeId) (places:outParam (List (Nat × Nat))) (zs:outParam (List Value)):Prop where
 out: ∃ it z fs,P.info? t=some it∧P.underlying t=some (.struct fs)∧it.zero=some z∧fs.toList.mapM (fun f=>(P.info? f.type).map fun i=>(f.offset,i.size))=some places∧z.cells=zs.toArray
def kW:Value→List Value
 | .agg cs=>cs.toList
 |v=> [v]
theorem w9 (v:Value):v.cells.toList=kW v:=by cases v<;>rfl
def AH (places:List (Nat × Nat)):List Value→List (Nat × Value)→Option (List Value)
 |cells,[]=>some cells
 |cells,(i,v)::r=>match places[i]? with
  |none=>none
  |some (off,size)=>bif Nat.beq (kW v).length size && Nat.ble (off+(kW v).length) cells.length then AH places (cells.take off++kW v++cells.drop (off+(kW v).length)) r else none
theorem wQ (off:Nat): ∀ (cs:List Value) (k:Nat) (cells:List Value),off+k+cs.length≤cells.length→
  (cs.zipIdx k).foldl (fun (a:Array Value) (x:Value × Nat)=>a.setIfInBounds (off+x.2) x.1) cells.toArray=(cells.take (off+k)++cs++cells.drop (off+k+cs.length)).toArray
 | [],k,cells,h=>by simp
 |c::cs,k,cells,h=>by
  simp only [N8] at h
  have h1:off+k<cells.length:=by omega
  rw [List.zipIdx_cons,PH]
  have hset:(cells.toArray.setIfInBounds (off+k) c)=(cells.set (off+k) c).toArray:=by simp
  rw [hset,wQ off cs (k+1) (cells.set (off+k) c) (by simp;omega)]
  congr 1
  have e1:(cells.set (off+k) c).take (off+(k+1))=cells.take (off+k)++ [c]:=by
   rw [← pN cells (off+k) c h1,show off+(k+1)=(off+k)+1 by omega,PT (by simp;omega)]
   rw [N9 (by simp;omega)]
  have e2:(cells.set (off+k) c).drop (off+(k+1)+cs.length)=cells.drop (off+k+(c::cs).length):=by
   rw [List.drop_set_of_lt (by omega)]
   simp only [N8]
   congr 1
   omega
  rw [e1,e2]
  simp
theorem AG (places:List (Nat × Nat)): ∀ (ps:List (Nat × Value)) (cells out:List Value),AH places cells ps=some out→Instr.fill (places.toArray[·]?) cells.toArray ps=some out.toArray
 | [],cells,out,h=>by simp only [AH,Option.some.injEq] at h;simp [Instr.fill,h]
 |(i,v)::r,cells,out,h=>by
  simp only [AH] at h
  simp only [Instr.fill,OG]
  cases hp:places[i]? with
  |none=>rw [hp] at h;cases h
  |some x=>
   obtain ⟨off,size⟩:=x
   rw [hp] at h
   dsimp only at h ⊢
   have hsz:v.cells.size=(kW v).length:=by rw [← w9];simp
   cases hb:(Nat.beq (kW v).length size && Nat.ble (off+(kW v).length) cells.length) with
   |false=>rw [hb] at h;cases h
   |true=>
    rw [hb] at h
    simp only [cond_true] at h
    simp only [NK] at hb
    have h1:=Ou hb.1
    have h2:=QB hb.2
    rw [if_neg (by simp [hsz,h1];omega)]
    have hf:=wQ off (kW v) 0 cells (by simpa using h2)
    have hz:v.cells.zipIdx.toList=(kW v).zipIdx 0:=by rw [← w9];simp
    rw [← Array.foldl_toList,hz]
    have:=AG places r _ out h
    simp only [PB] at hf
    rw [hf]
    simpa using this
theorem f4 {t:TypeId} {places:List (Nat × Nat)} {zs cells ys:List Value} {ps:List (Nat × Operand)} {qs:List (Nat × Value)} [hS:Struct P t places zs] (hq:Jf s ps=some qs) (hf:AH places zs qs=some cells) (hn:rX cells=some ys):
  VOp P w0 s H (.build t ps.toArray) ty (.agg ys.toArray):=fun ρ w _ _ _ _ hρ _=>by
 obtain ⟨it,z,fs,h1,h2,h3,h4,h5⟩:=hS.out
 have hmap: ∀ {ps:List (Nat × Operand)} {qs:List (Nat × Value)},Jf s ps=some qs→ps.map (fun (x:Nat × Operand)=>(x.1,ρ x.2))=qs:=by
  intro ps
  induction ps with
  |nil=>intro qs h;simp only [Jf,Option.some.injEq] at h;simp [← h]
  |cons q r ih=>
   intro qs h
   obtain ⟨i,x⟩:=q
   simp only [Jf] at h
   split at h
   ·
    rename_i v vs hv hvs
    simp only [Option.some.injEq] at h
    rw [← h,Ow,ih hvs,hρ x v hv]
   ·
    cases h
 have hb:P.built t (ps.map fun (x:Nat × Operand)=>(x.1,ρ x.2))=some cells.toArray:=by
  unfold Program.built
  simp only [h1,h2,h3,h4]
  rw [hmap hq,h5]
  exact AG places qs zs cells hf
 have hr:=run_build (P:=P) w t (ps.map fun (x:Nat × Operand)=>(x.1,ρ x.2)).toArray cells.toArray (by simpa using hb)
 rw [iP hn]
 simp only [execOp,Pp]
 simp only [Sem.run_bind,hr,Result.andThen_ok,Sem.run_pure]
theorem rl {x ix:Operand} {t j:Nat} {a:ByteArray} {k:IntKind} [ht:Und P t .string] (hx:ev s x=some (.string a)) (hi:ev s ix=some (.int k (j:Nat))) (hj:j<a.size):
  VOp P w0 s H (.index t x ix) ty (.int .u8 ((a[j]'hj).toNat:Int)):=fun ρ w _ _ _ _ hρ _=>by
 have h0:(0:Int)≤(j:Int):=by omega
 simp [execOp,hρ x _ hx,hρ ix _ hi,Instr.index,run_underlying ht.out,asIntOf,hj]
def nN (b:ByteArray):List Value:=b.data.toList.map fun c=> .int .u8 (c.toNat:Int)
theorem oS (b:ByteArray):(nN b).length=b.size:=by simp [nN]
theorem lK {d t u e:Nat} {x:Operand} {a:ByteArray} {ops:Array Oper} [hs:Und P t .string] [hd:Und P u (.slice e)] [he:Und P e (.int .u8)] (hn:Nat.blt d n.sz=true) (hx:ev s x=some (.string a))
  (k: ∀ g cap,WL P n w0 ops rest Q ((d,.slice (some ⟨g,0,none⟩) a.size cap)::s) (.byt g e a.size cap (nN a)::H)):
  WL P n w0 ops (⟨some d,.convert t u x,ty,p,af,none⟩::rest) Q s H:=by
 intro st w hst hm
 refine wpList_plain rfl fun K hK=> ?_
 have hq:(Question.appendCap a.size 0 e).forced=false:=rfl
 generalize hcap:(Question.appendCap a.size 0 e).cut (w.tape w.drawn (.appendCap a.size 0 e))=cap
 have hge:a.size≤cap:=by rw [← hcap];simp [Question.cut]
 have hlen:(a.data.map fun b=>Value.int .u8 (b.toNat:Int)).size+(cap - a.size)=cap:=by
  have:(a.data.map fun b=>Value.int .u8 (b.toNat:Int)).size=a.size:=by simp
  omega
 generalize hcs:((a.data.map fun b=>Value.int .u8 (b.toNat:Int))++Array.replicate (cap - a.size) (Value.int .u8 0))=cs
 have hcsz:cs.size=cap:=by rw [← hcs];simpa using hlen
 have hrun:(Conv.stringToBytes e a).run P w= .ok (.slice (some ⟨w.heap.size,0,none⟩) a.size cap) (({ w with drawn:=w.drawn+1 }:World).alloc (.cells cs e (cap,cap+1))):=by
  have hfr:(({ w with drawn:=w.drawn+1 }:World).alloc (.cells cs e)).freeze ⟨w.heap.size,cap,none⟩ 1=(({ w with drawn:=w.drawn+1 }:World).alloc (.cells cs e (cap,cap+1))):=by
   simp only [World.freeze,World.alloc,Nat.one_ne_zero,if_false]
   congr 1
   refine Array.ext_getElem? fun i=> ?_
   rw [Qg,Array.getElem?_push,Array.getElem?_push]
   by_cases hi:w.heap.size=i
   ·
    subst hi;simp
   ·
    rw [if_neg hi,if_neg (fun e=>hi e.symm),if_neg (fun e=>hi e.symm)]
  have hshape:(({ w with drawn:=w.drawn+1 }:World).alloc (.cells cs e)).shape? w.heap.size=some (e,cap):=by
   simp [World.shape?,World.alloc,hcsz]
  simp only [Conv.stringToBytes,Sem.run_bind,run_choose,hq,OT,if_false,Result.andThen_ok,hcap,newRow,run_newObj,Sem.run_pure,markStringish,run_shape,hcs,World.alloc_eq,hshape,run_freeze,hfr]
 have hev:=hst.eval x _ hx
 have hconv:(convert t u (.string a)).run P w=(Conv.stringToBytes e a).run P w:=by
  simp [convert,run_underlying hs.out,run_underlying hd.out,run_underlying he.out]
 unfold Oper.wp execOp
 simp only [Sem.run_bind,hev,hconv,hrun,Result.andThen_ok,Sem.run_pure,Oper.upon]
 refine hK _ _ (k w.heap.size cap _ _ (hst.put (OH ▸ hn) _) (hm.drew.new (World.grownBy_alloc _ _ none) ⟨oS a,hge,List.replicate (cap - a.size) (.int .u8 0),?_,?_⟩ fun k hk=> ?_))
 ·
  simp [oS];omega
 ·
  rw [heap_alloc_new ({ w with drawn:=w.drawn+1 }:World) _]
  congr 2
  rw [← hcs]
  apply Array.ext'
  simp [nN]
 ·
  simp only [Blk.key,Option.some.injEq] at hk
  subst hk
  exact NJ _
theorem Mem.cells_byt {w w0:World} {H:List Blk} {g m c:Nat} {t:TypeId} {xs:List Value} (h:Mem w0 w H) (hi:In (.byt g t m c xs) H):Cells w g 0 xs:=by
 obtain ⟨hl,_,junk,_,h1⟩:=(h.on _ hi.mem).1
 intro j v hv
 rw [N7,cell_of_row w g j _ t _ h1]
 have hlt:=(NV.1 hv).1
 rw [OG,OP hlt]
 exact hv
theorem jM {x:Operand} {t T g off m c:Nat} {xs:List Value} {v:Value} [One P t] (hx:ev s x=some (.pointer (some ⟨g,off,none⟩))) (hi:In (.byt g T m c xs) H) (hv:xs[off]? =some v):
  VOp P w0 s H (.load t x) ty v:=fun ρ w _ _ _ _ hρ hm=>by
 have hc:=hm.cells_byt hi off v hv
 rw [N7] at hc
 simp [execOp,hρ x _ hx,Instr.loadAt,Instr.sureAddr,gP (P:=P) hc]
theorem wG (ns:List Int) (b:ByteArray):(ns.foldl (fun r n=>r.push (UInt8.ofNat n.toNat)) b).data.toList=b.data.toList++ns.map fun n=>UInt8.ofNat n.toNat:=by
 induction ns generalizing b with
 |nil=>simp
 |cons n r ih=>rw [PH,ih];simp [ByteArray.push]
theorem qF {x:Operand} {t u e T g m c:Nat} {ns:List Int} [hs:Und P t (.slice e)] [he:Und P e (.int .u8)] [hd:Und P u .string] (hx:ev s x=some (.slice (some ⟨g,0,none⟩) m c)) (hi:In (.byt g T m c (ns.map (Value.int .u8))) H) (hl:ns.length=m):
  VOp P w0 s H (.convert t u x) ty (.string ⟨(ns.map fun n=>UInt8.ofNat n.toNat).toArray⟩):=fun ρ w _ _ _ _ hρ hm=>by
 have hc:=hm.cells_byt hi
 have h1:=run_loadCells_list (P:=P) w ⟨g,0,none⟩ (ns.map (Value.int .u8)) (fun j v hv=>by rw [cH];exact hc j v hv)
 rw [OV,hl] at h1
 have h2:=run_bytesToString (P:=P) w ⟨g,0,none⟩ m c ns h1
 have h3:ns.foldl (fun r n=>r.push (UInt8.ofNat n.toNat)) ByteArray.empty=⟨(ns.map fun n=>UInt8.ofNat n.toNat).toArray⟩:=by
  have h4:=wG ns ByteArray.empty
  generalize ns.foldl (fun r n=>r.push (UInt8.ofNat n.toNat)) ByteArray.empty=b at h4 ⊢
  obtain ⟨⟨l⟩⟩:=b
  simp only at h4
  simp [h4]
 rw [h3] at h2
 simp only [execOp,hρ x _ hx,Sem.run_bind,run_convert_bytes_string w t u e _ _ _ hs.out he.out hd.out,h2,Result.andThen_ok,Sem.run_pure]
theorem lL {ops:Array Oper} {t T g off m c:Nat} {x a:Operand} {xs:List Value} {v:Value} {R:List Blk} [Size P t 1] (ha:ev s a=some (.pointer (some ⟨g,off,none⟩))) (hx:ev s x=some v)
  (hsel:Sel (.byt g T m c xs) H R) (hv:v.oneCell' =true) (hfit:off<xs.length)
  (k:WL P n w0 ops rest Q s (.byt g T m c (xs.set off v)::R)):WL P n w0 ops (⟨none,.store t a x,ty,p,af,none⟩::rest) Q s H:=by
 refine sn (fun a' w hs hm=> ?_) k
 have hm' :=hm.sel hsel
 obtain ⟨h2,h3,junk,h5,hb⟩:=(hm'.on _ NI).1
 obtain ⟨i,hi,hsz⟩:=(inferInstance:Size P t 1).out
 have hcv:v.cells= #[v]:=by cases v<;>first|rfl|cases hv
 have hlt:off<(xs++junk).length:=by simp;omega
 have hcell:w.cell? ⟨g,off,none⟩=some (xs++junk)[off]:=by
  rw [cell_of_row w g off _ T _ hb,OG,NE hlt]
 have hfz:w.frozen? ⟨g,off,none⟩=false:=by
  have:off<c:=by rw [← h5];exact hlt
  simp only [World.frozen?,hb]
  simp;omega
 have hst:(storeVar t ⟨g,off,none⟩ v).run P w= .ok () (w.setCell ⟨g,off,none⟩ v):=by
  simp [storeVar,sizeOf,typeInfo,hi,hsz,hcv,storeCells,cH,run_store P w _ v .plain hv,hcell,hfz]
 have hg:w.grownBy (w.setCell ⟨g,off,none⟩ v) (some g):=⟨rfl,rfl,rfl,by simp,fun k _ hk=>Below.heap_setCell w _ v k (fun e=>hk (by rw [e]))⟩
 have hnew:(w.setCell ⟨g,off,none⟩ v).heap[g]? =some (.cells (xs.set off v++junk).toArray T (c,c+1)):=by
  simp only [World.setCell,Qg,if_true,hb,OM,Option.isSome_none,OT,if_false]
  rw [← List.set_append_left _ _ hfit]
  simp
 refine ⟨_,?_,hm'.upd hg (b' := .byt g T m c (xs.set off v)) ⟨by simpa using h2,h3,junk,by rw [ND,PX,← ND];exact h5,hnew⟩ fun k hk=> .inl hk⟩
 simp [execOp,hs.eval a _ ha,hs.eval x _ hx,Instr.storeAt,Instr.sureAddr,hst]
theorem xm {d t:Nat} {x:Operand} {a:ByteArray} {ops:Array Oper} [ht:Und P t .string] (hn:Nat.blt d n.sz=true) (hx:ev s x=some (.string a))
  (k: ∀ g,WL P n w0 ops rest Q ((d,.pointer (some ⟨g,0,none⟩))::s) (.obj g (.stringIter a 0)::H)):WL P n w0 ops (⟨some d,.range t x,ty,p,af,none⟩::rest) Q s H:=by
 refine qA (B:=fun g=> .obj g (.stringIter a 0)) (v:=fun g=> .pointer (some ⟨g,0,none⟩)) hn (fun st w hs hm=> ?_) k
 refine ⟨w.iter a 0,?_,World.grownBy_alloc w _ none,World.iter_heap w a 0,rfl⟩
 simp [execOp,hs.eval x _ hx,run_range_string w t a ht.out]
theorem yU {d g pos:Nat} {x:Operand} {a:ByteArray} {R:List Blk} {ops:Array Oper} (hn:Nat.blt d n.sz=true) (hx:ev s x=some (.pointer (some ⟨g,0,none⟩))) (hsel:Sel (.obj g (.stringIter a pos)) H R)
  (hascii: ∀ h:pos<a.size,(a[pos]'h).toNat<128)
  (k1: ∀ h:pos<a.size,WL P n w0 ops rest Q ((d,.tuple #[.bool true,.int .i64 (pos:Int),.int .i32 ((a[pos]'h).toNat:Int)])::s) (.obj g (.stringIter a (pos+1))::R))
  (k2:a.size≤pos→WL P n w0 ops rest Q ((d,.tuple #[.bool false])::s) (.obj g (.stringIter a pos)::R)):
  WL P n w0 ops (⟨some d,.next x true,ty,p,af,none⟩::rest) Q s H:=by
 intro st w hs hm
 have hm' :=hm.sel hsel
 have hb:=(hm'.on _ NI).1
 simp only [Blk.on] at hb
 refine wpList_plain rfl fun K hK=> ?_
 by_cases h:pos<a.size
 ·
  have hr:(Instr.next (.pointer (some ⟨g,0,none⟩)) true ty).run P w= .ok (.tuple #[.bool true,.int .i64 (pos:Int),.int .i32 ((a[pos]'h).toNat:Int)]) { w with heap:=w.heap.setIfInBounds g (.stringIter a (pos+1)) }:=by
   simp only [Instr.next,getObj,setObj,Sem.run_bind,Sem.run,hb,Result.andThen,h,if_true,decode_ascii a pos h (hascii h)]
   simp [goInt]
  unfold Oper.wp execOp
  simp only [Sem.run_bind,hs.eval x _ hx,hr,Result.andThen_ok,Sem.run_pure,Oper.upon]
  refine hK _ _ (k1 h _ _ (hs.put (OH ▸ hn) _) (hm'.upd ⟨rfl,rfl,rfl,by simp,fun k _ hk=> ?_⟩ ?_ fun k hk=> .inl hk))
  ·
   have hne:g≠k:=fun e=>hk (by rw [← e];rfl)
   simp [PN hne]
  ·
   simp only [Blk.on]
   have:g<w.heap.size:=(Oz.1 hb).1
   simp [this]
 ·
  have hr:(Instr.next (.pointer (some ⟨g,0,none⟩)) true ty).run P w= .ok (.tuple #[.bool false]) w:=by
   simp [Instr.next,getObj,Sem.run,hb,h]
  unfold Oper.wp execOp
  simp only [Sem.run_bind,hs.eval x _ hx,hr,Result.andThen_ok,Sem.run_pure,Oper.upon]
  exact hK _ _ (k2 (by omega) _ _ (hs.put (OH ▸ hn) _) hm')
end
end Go.SL

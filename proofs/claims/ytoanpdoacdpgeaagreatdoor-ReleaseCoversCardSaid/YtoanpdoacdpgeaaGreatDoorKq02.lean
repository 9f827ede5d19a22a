/-
  Lemmas and walks, put together: Sl4 Sl5 Sl6 Sv Sl13 Sl31.
-/
import Derived.Deep.AppendSrc
import Derived.Test.YtoanpdoacdpgeaaGreatDoorKq01
set_option linter.unusedSimpArgs false
set_option linter.unusedVariables false
set_option maxRecDepth 20000
namespace Go.SL
open Go Go.RowKit
def aK (P:Program) (f:FuncId) (args:List Value) (w:World) (R:Value→List Blk→Prop):Prop:=
 Calls P f args.toArray w fun e w' => ∃ v H',e= .returned v∧Mem w w' H' ∧R v H'
def ay (P:Program) (f:FuncId) (args:List Value) (w:World) (v:Value):Prop:=aK P f args w fun u _=>u=v
def FnIn (P:Program) (f:FuncId) (args:List Value) (w0:World) (H:List Blk) (R:Value→List Blk→Prop):Prop:=
 ∀ w,Mem w0 w H→Calls P f args.toArray w fun e w' => ∃ v H',e= .returned v∧Mem w0 w' H' ∧R v H'
theorem FnIn.mono {P:Program} {f:FuncId} {args:List Value} {w0:World} {H:List Blk} {R R' :Value→List Blk→Prop} (h:FnIn P f args w0 H R) (hr: ∀ v H,R v H→R' v H):FnIn P f args w0 H R' :=
 fun w hm=>Calls.mono (h w hm) fun _ _ ⟨v,H',h1,h2,h3⟩=>⟨v,H',h1,h2,hr _ _ h3⟩
theorem FnIn.of_at {P:Program} {f:FuncId} {args:List Value} {w0:World} {H:List Blk} {R:Value→List Blk→Prop} (h: ∀ w,Mem w0 w H→aK P f args w R):
  FnIn P f args w0 H fun v H' => ∃ H1,R v H1∧H' =H1++H:=
 fun w hm=>Calls.mono (h w hm) fun _ _ ⟨v,H',h1,h2,h3⟩=>⟨v,H' ++H,h1,hm.call h2,H',h3,rfl⟩
def evs (s:az):List Operand→Option (List Value)
 | []=>some []
 |x::r=>match ev s x,evs s r with
  |some v,some vs=>some (v::vs)
  |_,_=>none
section
variable {P:Program} {n:Fr} {w0:World} {Q:bU} {s:az} {H:List Blk} {l rest:List Oper} {ty:TypeId} {p:String} {af:Array Edge}
theorem gQ {a:Act} (hs:St n s a): ∀ {xs:List Operand} {vs:List Value},evs s xs=some vs→xs.map a.eval=vs
 | [],vs,h=>by simp only [evs,Option.some.injEq] at h;simp [← h]
 |x::r,vs,h=>by
  simp only [evs] at h
  split at h
  ·
   rename_i v vs' hv hvs
   simp only [Option.some.injEq] at h
   rw [← h,Rz,gQ hs hvs,hs.eval x v hv]
  ·
   cases h
theorem kV {ρ:Operand→Value} {w:World} {d:Option Tmp} {g:Option (Nat × Bool)} {f:FuncId} {c:Operand} {xs:List Operand} {vs caps:List Value} {ts:Array TypeId} [hf:Callable P f] (hc:ρ c= .func (.func f) #[] caps.toArray) (hx:xs.map ρ=vs):
  (execOp ρ ⟨d,.call { callee:= .value c,args:=xs.toArray,argTypes:=ts },ty,p,af,g⟩).run P w= .ok (.enter f (vs++caps).toArray) w:=by
 simp [execOp,resolve,hc,Deferred.ofValue,invoke,← hx,hf.out]
theorem aw {d:Nat} {ops:Array Oper} {f:FuncId} {xs:List Operand} {vs:List Value} {ts:Array TypeId} {R:Value→List Blk→Prop} [Callable P f] (hn:Nat.blt d n.sz=true) (hx:evs s xs=some vs)
  (hF:FnIn P f vs w0 H R) (k: ∀ v H',R v H' →WL P n w0 ops rest Q ((d,v)::s) H'):
  WL P n w0 ops (⟨some d,.call { callee:= .value (.func f),args:=xs.toArray,argTypes:=ts },ty,p,af,none⟩::rest) Q s H:=by
 intro a w hs hm
 refine wpList_plain rfl fun K hK=> ?_
 have hr:=kV (P:=P) (w:=w) (ρ:=a.eval) (d:=some d) (ty:=ty) (p:=p) (af:=af) (g:=none) (f:=f) (c:= .func f) (xs:=xs) (caps:= []) (ts:=ts) rfl (gQ hs hx)
 rw [QW] at hr
 simp only [Oper.wp,hr,Oper.upon]
 refine (hF w hm).mono ?_
 rintro e w' ⟨v,H',rfl,hm',hR⟩
 exact hK _ _ (k v H' hR _ _ (hs.put (Sd ▸ hn) _) hm')
theorem kQ {d:Nat} {ops:Array Oper} {f:FuncId} {c:Operand} {xs:List Operand} {vs caps:List Value} {ts:Array TypeId} {R:Value→List Blk→Prop} (hn:Nat.blt d n.sz=true) (hc:ev s c=some (.func (.func f) #[] caps.toArray)) (hfc:Callable P f) (hx:evs s xs=some vs)
  (hF:FnIn P f (vs++caps) w0 H R) (k: ∀ v H',R v H' →WL P n w0 ops rest Q ((d,v)::s) H'):
  WL P n w0 ops (⟨some d,.call { callee:= .value c,args:=xs.toArray,argTypes:=ts },ty,p,af,none⟩::rest) Q s H:=by
 intro a w hs hm
 refine wpList_plain rfl fun K hK=> ?_
 have hr:=kV (P:=P) (w:=w) (ρ:=a.eval) (d:=some d) (ty:=ty) (p:=p) (af:=af) (g:=none) (f:=f) (c:=c) (xs:=xs) (caps:=caps) (ts:=ts) (hs.eval c _ hc) (gQ hs hx)
 simp only [Oper.wp,hr,Oper.upon]
 refine (hF w hm).mono ?_
 rintro e w' ⟨v,H',rfl,hm',hR⟩
 exact hK _ _ (k v H' hR _ _ (hs.put (Sd ▸ hn) _) hm')
theorem aA {d:Nat} {ops:Array Oper} {f:FuncId} {xs:List Operand} {vs:List Value} {ts:Array TypeId} {R:Value→List Blk→Prop} [Callable P f] (hn:Nat.blt d n.sz=true) (hx:evs s xs=some vs)
  (hF: ∀ w,Mem w0 w H→aK P f vs w R) (k: ∀ v H',R v H' →WL P n w0 ops rest Q ((d,v)::s) (H' ++H)):
  WL P n w0 ops (⟨some d,.call { callee:= .value (.func f),args:=xs.toArray,argTypes:=ts },ty,p,af,none⟩::rest) Q s H:=
 aw hn hx (FnIn.of_at hF) fun v _ ⟨H1,h1,h2⟩=>h2 ▸ k v H1 h1
theorem aa {d:Nat} {ops:Array Oper} {f:FuncId} {xs:List Operand} {vs:List Value} {v:Value} {ts:Array TypeId} [Callable P f] (hn:Nat.blt d n.sz=true) (hx:evs s xs=some vs)
  (hF: ∀ w,Mem w0 w H→ay P f vs w v) (k:WL P n w0 ops rest Q ((d,v)::s) H):
  WL P n w0 ops (⟨some d,.call { callee:= .value (.func f),args:=xs.toArray,argTypes:=ts },ty,p,af,none⟩::rest) Q s H:=
 aA hn hx (R:=fun u _=>u=v) hF fun u H' e=>by
  subst e
  exact yE ⟨H',R0⟩ k
def Res (P:Program) (fn:Func) (n:Fr) (w0:World) (s:az) (H:List Blk) (v:Value):Prop:=
 ∀ a w,St n s a→Mem w0 w H→(results fn a.tmps).run P w= .ok v w
def aV (P:Program) (fn:Func) (n:Fr) (w0:World) (R:Value→List Blk→Prop):bU:=fun e s H=>(e= .ret∨e= .normal)∧ ∃ v H',MSub H' H∧Res P fn n w0 s H v∧R v H'
def rH:List Value→Nat→az
 | [],_=> []
 |v::r,k=>(k,v)::rH r (k+1)
theorem lp (args:List Value) (k t:Nat):look (rH args k) t=if k≤t then args[t - k]? else none:=by
 induction args generalizing k with
 |nil=>simp [rH,look]
 |cons v r ih=>
  simp only [rH]
  rw [iA,ih]
  by_cases h:k=t
  ·
   subst h;simp
  ·
   rw [if_neg h]
   by_cases h2:k≤t
   ·
    rw [if_pos h2,if_pos (by omega),show t - k=(t - (k+1))+1 by omega,List.getElem?_cons_succ]
   ·
    rw [if_neg h2,if_neg (by omega)]
theorem dD {m:Nat} {f:FuncId} {fn:Func} {c:Code} {args:List Value} {R:Value→List Blk→Prop} (hf:P.funcs[f]? =some fn) (hb:fn.body=some c) (hn:fn.ntmps=m) (hle:Nat.ble args.length m=true)
  (h:W P ⟨m,[]⟩ w0 c (aV P fn ⟨m,[]⟩ w0 R) (rH args 0) H):FnIn P f args w0 H R:=by
 intro w hm
 have hle' :args.length≤m:=by simpa using hle
 refine calls_of_wp hf hb (wp_mono (h { tmps:=args.toArray++Array.replicate (fn.ntmps - args.toArray.size) undef,defers:= [] } w ⟨?_,rfl,?_⟩ hm) ?_)
 ·
  simp [hn];omega
 ·
  intro t v ht
  rw [lp] at ht
  simp only [QX,if_true,SK] at ht
  have hlt:t<args.length:=(Rn.1 ht).1
  rw [Sm (by simpa using hlt)]
  simpa using ht
 ·
  rintro e a w' ⟨s',H',hs,hm',he,v,H'',hsub,hr,hR⟩
  have hp:a.defers= []∧ ∃ v,(results fn a.tmps).run P w' = .ok v w' ∧ ∃ v1 H1,Ending.returned v= .returned v1∧Mem w0 w' H1∧R v1 H1:=
   ⟨hs.defers,v,hr a w' hs hm',v,H'',rfl,hsub.use hm',hR⟩
  rcases he with rfl|rfl<;>exact hp
theorem aq {m:Nat} {f:FuncId} {fn:Func} {c:Code} {args:List Value} {w:World} {R:Value→List Blk→Prop} (hf:P.funcs[f]? =some fn) (hb:fn.body=some c) (hn:fn.ntmps=m) (hle:Nat.ble args.length m=true)
  (h:W P ⟨m,[]⟩ w c (aV P fn ⟨m,[]⟩ w R) (rH args 0) []):aK P f args w R:=dD hf hb hn hle h w (Mem.refl w)
section res
variable {fn:Func} {R:Value→List Blk→Prop} {e:Exit}
theorem fO (he:e= .ret∨e= .normal) (hr:fn.results= #[]) {H' :List Blk} (hs:MSub H' H) (h:R (.tuple #[]) H'):aV P fn n w0 R e s H:=
 ⟨he,_,H',hs,fun a w _ _=>by simp [results,hr],h⟩
theorem cH (he:e= .ret∨e= .normal) {t:Tmp} {v:Value} (hr:fn.results= #[.tmp t]) (hv:look s t=some v) {H' :List Blk} (hs:MSub H' H) (h:R v H'):aV P fn n w0 R e s H:=
 ⟨he,v,H',hs,fun a w hst _=>by
  have:=hst.has t v hv
  simp [results,hr,RG,this],h⟩
theorem eY (he:e= .ret∨e= .normal) {t u:Tmp} {v x:Value} (hr:fn.results= #[.tmp t,.tmp u]) (hv:look s t=some v) (hx:look s u=some x) {H' :List Blk} (hs:MSub H' H) (h:R (.tuple #[v,x]) H'):aV P fn n w0 R e s H:=
 ⟨he,_,H',hs,fun a w hst _=>by
  have h1:=hst.has t v hv
  have h2:=hst.has u x hx
  simp [results,hr,RG,h1,h2],h⟩
theorem oD (he:e= .ret∨e= .normal) {t u q:Tmp} {v x y:Value} (hr:fn.results= #[.tmp t,.tmp u,.tmp q]) (hv:look s t=some v) (hx:look s u=some x) (hy:look s q=some y) {H' :List Blk} (hs:MSub H' H) (h:R (.tuple #[v,x,y]) H'):aV P fn n w0 R e s H:=
 ⟨he,_,H',hs,fun a w hst _=>by
  have h1:=hst.has t v hv
  have h2:=hst.has u x hx
  have h3:=hst.has q y hy
  simp [results,hr,RG,h1,h2,h3],h⟩
end res
def WQ (P:Program) (n:Fr) (w0:World) (ops:Array Oper) (rest:List Oper) (K:az→Prop) (s:az) (H:List Blk):Prop:=
 ∀ a,St n s a→wpQuiet P ops (fun w=>Mem w0 w H) (fun a' => ∃ s',St n s' a' ∧K s') rest a
theorem gH {id:Nat} (hm:P.follows .mixedOrders=true) (hB:Region.lexB .any l.toArray=true) (h:WQ P n w0 l.toArray l (fun s' =>Q .normal s' H) s H):W P n w0 (.region id l.toArray true) Q s H:=by
 intro a w hs hmem
 refine wp_region_quiet (C:=fun w=>Mem w0 w H) hm hB hmem.drew ?_
 have h1:=h a hs
 have mono: ∀ (r:List Oper) (a:Act) (K K' :Act→Prop),(∀ a,K a→K' a)→wpQuiet P l.toArray (fun w=>Mem w0 w H) K r a→wpQuiet P l.toArray (fun w=>Mem w0 w H) K' r a:=by
  intro r
  induction r with
  |nil=>intro a K K' hk h;exact hk _ h
  |cons o r ih=>
   intro a K K' hk h
   unfold wpQuiet at h ⊢
   split
   ·
    rename_i hw
    rw [if_pos hw] at h
    exact Oper.quiet_mono (fun a' h' =>ih a' K K' hk h') h
   ·
    rename_i hw
    rw [if_neg hw] at h
    exact ih _ K K' hk h
 simp only [TJ]
 exact mono _ _ _ _ (fun a' ⟨s',h2,h3⟩ w' hw' =>⟨s',H,h2,hw',h3⟩) h1
variable {K:az→Prop}
theorem OB {ops:Array Oper} (h:K s):WQ P n w0 ops [] K s H:=fun _ hs=>⟨s,hs,h⟩
theorem aS {ops:Array Oper} {op:Op} {d:Nat} {v:Value} (hn:Nat.blt d n.sz=true) (hv:VOp P w0 s H op ty v) (k:WQ P n w0 ops rest K ((d,v)::s) H):
  WQ P n w0 ops (⟨some d,op,ty,p,af,none⟩::rest) K s H:=by
 intro a hs
 unfold wpQuiet
 simp only [Region.wanted,if_true]
 refine ⟨v,fun w hm=> ?_,k _ (hs.put (Sd ▸ hn) v)⟩
 unfold Oper.quietAt
 rw [hv a.eval w _ _ _ _ hs.eval hm]
 exact ⟨rfl,rfl⟩
theorem dO {d:Nat} {ops:Array Oper} {f:FuncId} {xs:List Operand} {vs:List Value} {v:Value} {ts:Array TypeId} [Callable P f] (hn:Nat.blt d n.sz=true) (hx:evs s xs=some vs)
  (hF: ∀ w,Mem w0 w H→ay P f vs w v) (k:WQ P n w0 ops rest K ((d,v)::s) H):
  WQ P n w0 ops (⟨some d,.call { callee:= .value (.func f),args:=xs.toArray,argTypes:=ts },ty,p,af,none⟩::rest) K s H:=by
 intro a hs
 unfold wpQuiet
 simp only [Region.wanted,if_true]
 refine ⟨v,fun w hm=> ?_,k _ (hs.put (Sd ▸ hn) v)⟩
 unfold Oper.quietAt
 have hr:=kV (P:=P) (w:=w) (ρ:=a.eval) (d:=some d) (ty:=ty) (p:=p) (af:=af) (g:=none) (f:=f) (c:= .func f) (xs:=xs) (caps:= []) (ts:=ts) rfl (gQ hs hx)
 rw [QW] at hr
 rw [hr]
 refine ⟨rfl,Calls.mono (hF w hm) ?_⟩
 rintro e w' ⟨u,H',rfl,hm',rfl⟩
 exact ⟨rfl,(hm.call hm').right⟩
theorem Mh {op:Op} {dst:Option Tmp} {j d:Nat} {cE:Bool} (hj:gd l j=some d) (hv:look s d=some (.bool cE))
  (k:WQ P n w0 l.toArray (⟨dst,op,ty,p,af,none⟩::rest) K s H):WQ P n w0 l.toArray (⟨dst,op,ty,p,af,some (j,cE)⟩::rest) K s H:=by
 intro a hs
 have h:=k a hs
 have hy:=fX hs hj hv
 unfold wpQuiet at h ⊢
 simp only [Region.wanted,if_true] at h
 simp only [Region.wanted,hy,jg,beq_self_eq_true,if_true]
 exact h
theorem Jm {op:Op} {dst j d:Nat} {cE:Bool} {v:Value} (hj:gd l j=some d) (hv:look s d=some v) (hw:jg v≠some cE) (hn:Nat.blt dst n.sz=true)
  (k:WQ P n w0 l.toArray rest K ((dst,undef)::s) H):WQ P n w0 l.toArray (⟨some dst,op,ty,p,af,some (j,cE)⟩::rest) K s H:=by
 intro a hs
 have hy:=fX hs hj hv
 have:(yielded l.toArray a.tmps j==some cE)=false:=by rw [hy];simpa using hw
 unfold wpQuiet
 simp only [Region.wanted,this]
 exact k _ (hs.put (Sd ▸ hn) _)
theorem GA {op:Op} {dst:Option Tmp} {j d:Nat} {cE b:Bool} (_hj:gd l j=some d) (hv:look s d=some (.bool b))
  (k1:b=true→WQ P n w0 l.toArray (⟨dst,op,ty,p,af,some (j,cE)⟩::rest) K ((d,.bool true)::s) H)
  (k2:b=false→WQ P n w0 l.toArray (⟨dst,op,ty,p,af,some (j,cE)⟩::rest) K ((d,.bool false)::s) H):
  WQ P n w0 l.toArray (⟨dst,op,ty,p,af,some (j,cE)⟩::rest) K s H:=by
 intro a hs
 cases b with
 |true=>exact k1 rfl a (hs.shadow hv)
 |false=>exact k2 rfl a (hs.shadow hv)
end
end Go.SL
namespace Go.SL
section
variable {P:Program} {n:Fr} {w0:World} {Q:bU} {s:az} {H:List Blk} {l rest:List Oper} {ty:TypeId} {p:String} {af:Array Edge} {K:az→List Blk→Prop} {id id' :Nat}
theorem Qf (h:K s H):thn K Q .normal s H:=h
theorem Qd (h:Q .ret s H):thn K Q .ret s H:=h
theorem Qg (h:Q (.exit id) s H):thn K Q (.exit id) s H:=h
theorem Qy (h:Q .normal s H):blk id Q .normal s H:=h
theorem Qw (h:Q .ret s H):blk id Q .ret s H:=h
theorem Qz (h:Q .normal s H):blk id Q (.exit id) s H:=by simp only [blk,if_true];exact h
theorem Qv (hne:Nat.beq id' id=false) (h:Q (.exit id') s H):blk id Q (.exit id') s H:=by
 have: ¬ id' =id:=Nat.ne_of_beq_eq_false hne
 simp only [blk,if_neg this];exact h
theorem Ju {op:Op} {dst j d:Nat} {cE b:Bool} (hj:gd l j=some d) (hv:look s d=some (.bool b)) (hw:(b==cE)=false) (hn:Nat.blt dst n.sz=true)
  (k:WL P n w0 l.toArray rest Q ((dst,undef)::s) H):WL P n w0 l.toArray (⟨some dst,op,ty,p,af,some (j,cE)⟩::rest) Q s H:=
 Jv hj hv (by simpa [jg] using hw) hn k
theorem Jt {op:Op} {dst j d:Nat} {cE:Bool} (hj:gd l j=some d) (hv:look s d=some (.tuple #[])) (hn:Nat.blt dst n.sz=true)
  (k:WL P n w0 l.toArray rest Q ((dst,undef)::s) H):WL P n w0 l.toArray (⟨some dst,op,ty,p,af,some (j,cE)⟩::rest) Q s H:=
 Jv hj hv (by simp [jg]) hn k
theorem Jl {KQ:az→Prop} {op:Op} {dst j d:Nat} {cE b:Bool} (hj:gd l j=some d) (hv:look s d=some (.bool b)) (hw:(b==cE)=false) (hn:Nat.blt dst n.sz=true)
  (k:WQ P n w0 l.toArray rest KQ ((dst,undef)::s) H):WQ P n w0 l.toArray (⟨some dst,op,ty,p,af,some (j,cE)⟩::rest) KQ s H:=
 Jm hj hv (by simpa [jg] using hw) hn k
theorem Jk {KQ:az→Prop} {op:Op} {dst j d:Nat} {cE:Bool} (hj:gd l j=some d) (hv:look s d=some (.tuple #[])) (hn:Nat.blt dst n.sz=true)
  (k:WQ P n w0 l.toArray rest KQ ((dst,undef)::s) H):WQ P n w0 l.toArray (⟨some dst,op,ty,p,af,some (j,cE)⟩::rest) KQ s H:=
 Jm hj hv (by simp [jg]) hn k
theorem Ad {x:Operand} {t T g off m:Nat} {xs ys:List Value} [Agg P t m] (hx:ev s x=some (.pointer (some ⟨g,off,none⟩))) (hi:In (.box g T xs) H) (hv:rI ((xs.drop off).take m)=some ys) (hl:Nat.beq ys.length m=true):
  VOp P w0 s H (.load t x) ty (.agg ys.toArray):=si hx hi (gN hv).symm (RL hl)
theorem Aa {x:Operand} {t T g off m n' c sz:Nat} {xs ys:List Value} [Agg P t m] (hx:ev s x=some (.pointer (some ⟨g,off,none⟩))) (hi:In (.own (some g) T sz n' c xs) H) (hv:rI ((xs.drop off).take m)=some ys) (hl:Nat.beq ys.length m=true):
  VOp P w0 s H (.load t x) ty (.agg ys.toArray):=aM hx hi (gN hv).symm (RL hl)
theorem z8 {x:Operand} {t T g m:Nat} {xs:List Value} [Agg P t m] (hx:ev s x=some (.pointer (some ⟨g,0,none⟩))) (hi:In (.box g T xs) H) (hl:Nat.beq xs.length m=true):
  VOp P w0 s H (.load t x) ty (.agg xs.toArray):=by
 have hm:=RL hl
 exact si hx hi (by rw [SA,← hm,Sc]) hm
theorem wJ {ops:Array Oper} {t T g off:Nat} {x a:Operand} {xs ys:List Value} {v:Value} {R:List Blk} [Size P t 1] (ha:ev s a=some (.pointer (some ⟨g,off,none⟩))) (hx:ev s x=some v)
  (hsel:Sel (.box g T xs) H R) (hv:v.oneCell' =true) (hfit:Nat.blt off xs.length=true) (hn:rI (xs.set off v)=some ys)
  (k:WL P n w0 ops rest Q s (.box g T ys::R)):WL P n w0 ops (⟨none,.store t a x,ty,p,af,none⟩::rest) Q s H:=
 yz ha hx hsel hv hfit (gN hn ▸ k)
theorem zQ {ops:Array Oper} {t T g off m:Nat} {x a:Operand} {xs vs ys:List Value} {R:List Blk} [Size P t m] (ha:ev s a=some (.pointer (some ⟨g,off,none⟩))) (hx:ev s x=some (.agg vs.toArray))
  (hsel:Sel (.box g T xs) H R) (hl:Nat.beq vs.length m=true) (h1:vs.all Value.oneCell' =true) (hfit:Nat.ble (off+m) xs.length=true) (hn:rI (xs.take off++vs++xs.drop (off+m))=some ys)
  (k:WL P n w0 ops rest Q s (.box g T ys::R)):WL P n w0 ops (⟨none,.store t a x,ty,p,af,none⟩::rest) Q s H:=
 uh ha hx hsel rfl (RL hl) (by simpa using h1) (by simpa using hfit) (gN hn ▸ k)
end
end Go.SL
namespace Go.SL
open Go Go.RowKit
section
variable {P:Program} {n:Fr} {w0:World} {Q:bU} {s:az} {H:List Blk} {l rest:List Oper} {ty:TypeId} {p:String} {af:Array Edge}
theorem FF {x y:Operand} {k k' :IntKind} {a:Int} {m:Nat} {t t' :TypeId} (hx:ev s x=some (.int k a)) (hy:ev s y=some (.int k' (m:Nat))) (hm:Nat.ble m k.bits=true):
  VOp P w0 s H (.binOp .shr t x y t') ty (.int k (a / 2 ^ m)):=fun ρ w _ _ _ _ hρ _=>by
 have hm' :m≤k.bits:=by simpa using hm
 have h0:(0:Int)≤(m:Int):=by omega
 simp [execOp,hρ x _ hx,hρ y _ hy,eqGuard,binOp,shift_shr_any k k' a m h0,SW hm']
theorem uy {f:FuncId} {caps:List Operand} {vs:List Value} (hc:evs s caps=some vs):VOp P w0 s H (.makeFunc (.func f) #[] caps.toArray) ty (.func (.func f) #[] vs.toArray):=fun ρ w _ _ _ _ hρ _=>by
 have h: ∀ {xs:List Operand} {vs:List Value},evs s xs=some vs→xs.map ρ=vs:=by
  intro xs
  induction xs with
  |nil=>intro vs h;simp only [evs,Option.some.injEq] at h;simp [← h]
  |cons x r ih=>
   intro vs h
   simp only [evs] at h
   split at h
   ·
    rename_i v vs' hv hvs
    simp only [Option.some.injEq] at h
    rw [← h,Rz,ih hvs,hρ x v hv]
   ·
    cases h
 simp [execOp,Instr.makeFunc,h hc]
def Lf (s:az):List (Nat × Operand)→Option (List (Nat × Value))
 | []=>some []
 |(i,x)::r=>match ev s x,Lf s r with
  |some v,some vs=>some ((i,v)::vs)
  |_,_=>none
class Struct (P:Program) (t:TypeId) (places:outParam (List (Nat × Nat))) (zs:outParam (List Value)):Prop where
 out: ∃ it z fs,P.info? t=some it∧P.underlying t=some (.struct fs)∧it.zero=some z∧fs.toList.mapM (fun f=>(P.info? f.type).map fun i=>(f.offset,i.size))=some places∧z.cells=zs.toArray
def kO:Value→List Value
 | .agg cs=>cs.toList
 |v=> [v]
theorem yg (v:Value):v.cells.toList=kO v:=by cases v<;>rfl
def Ci (places:List (Nat × Nat)):List Value→List (Nat × Value)→Option (List Value)
 |cells,[]=>some cells
 |cells,(i,v)::r=>match places[i]? with
  |none=>none
  |some (off,size)=>bif Nat.beq (kO v).length size && Nat.ble (off+(kO v).length) cells.length then Ci places (cells.take off++kO v++cells.drop (off+(kO v).length)) r else none
theorem xR (off:Nat): ∀ (cs:List Value) (k:Nat) (cells:List Value),off+k+cs.length≤cells.length→
  (cs.zipIdx k).foldl (fun (a:Array Value) (x:Value × Nat)=>a.setIfInBounds (off+x.2) x.1) cells.toArray=(cells.take (off+k)++cs++cells.drop (off+k+cs.length)).toArray
 | [],k,cells,h=>by simp
 |c::cs,k,cells,h=>by
  simp only [Rp] at h
  have h1:off+k<cells.length:=by omega
  rw [List.zipIdx_cons,Td]
  have hset:(cells.toArray.setIfInBounds (off+k) c)=(cells.set (off+k) c).toArray:=by simp
  rw [hset,xR off cs (k+1) (cells.set (off+k) c) (by simp;omega)]
  congr 1
  have e1:(cells.set (off+k) c).take (off+(k+1))=cells.take (off+k)++ [c]:=by
   rw [← p7 cells (off+k) c h1,show off+(k+1)=(off+k)+1 by omega,Tw (by simp;omega)]
   rw [RS (by simp;omega)]
  have e2:(cells.set (off+k) c).drop (off+(k+1)+cs.length)=cells.drop (off+k+(c::cs).length):=by
   rw [List.drop_set_of_lt (by omega)]
   simp only [Rp]
   congr 1
   omega
  rw [e1,e2]
  simp
theorem Ch (places:List (Nat × Nat)): ∀ (ps:List (Nat × Value)) (cells out:List Value),Ci places cells ps=some out→Instr.fill (places.toArray[·]?) cells.toArray ps=some out.toArray
 | [],cells,out,h=>by simp only [Ci,Option.some.injEq] at h;simp [Instr.fill,h]
 |(i,v)::r,cells,out,h=>by
  simp only [Ci] at h
  simp only [Instr.fill,RV]
  cases hp:places[i]? with
  |none=>rw [hp] at h;cases h
  |some x=>
   obtain ⟨off,size⟩:=x
   rw [hp] at h
   dsimp only at h ⊢
   have hsz:v.cells.size=(kO v).length:=by rw [← yg];simp
   cases hb:(Nat.beq (kO v).length size && Nat.ble (off+(kO v).length) cells.length) with
   |false=>rw [hb] at h;cases h
   |true=>
    rw [hb] at h
    simp only [cond_true] at h
    simp only [QZ] at hb
    have h1:=RL hb.1
    have h2:=Um hb.2
    rw [if_neg (by simp [hsz,h1];omega)]
    have hf:=xR off (kO v) 0 cells (by simpa using h2)
    have hz:v.cells.zipIdx.toList=(kO v).zipIdx 0:=by rw [← yg];simp
    rw [← Array.foldl_toList,hz]
    have:=Ch places r _ out h
    simp only [Ta] at hf
    rw [hf]
    simpa using this
theorem MG {t:TypeId} {places:List (Nat × Nat)} {zs cells ys:List Value} {ps:List (Nat × Operand)} {qs:List (Nat × Value)} [hS:Struct P t places zs] (hq:Lf s ps=some qs) (hf:Ci places zs qs=some cells) (hn:rI cells=some ys):
  VOp P w0 s H (.build t ps.toArray) ty (.agg ys.toArray):=fun ρ w _ _ _ _ hρ _=>by
 obtain ⟨it,z,fs,h1,h2,h3,h4,h5⟩:=hS.out
 have hmap: ∀ {ps:List (Nat × Operand)} {qs:List (Nat × Value)},Lf s ps=some qs→ps.map (fun (x:Nat × Operand)=>(x.1,ρ x.2))=qs:=by
  intro ps
  induction ps with
  |nil=>intro qs h;simp only [Lf,Option.some.injEq] at h;simp [← h]
  |cons q r ih=>
   intro qs h
   obtain ⟨i,x⟩:=q
   simp only [Lf] at h
   split at h
   ·
    rename_i v vs hv hvs
    simp only [Option.some.injEq] at h
    rw [← h,Rz,ih hvs,hρ x v hv]
   ·
    cases h
 have hb:P.built t (ps.map fun (x:Nat × Operand)=>(x.1,ρ x.2))=some cells.toArray:=by
  unfold Program.built
  simp only [h1,h2,h3,h4]
  rw [hmap hq,h5]
  exact Ch places qs zs cells hf
 have hr:=run_build (P:=P) w t (ps.map fun (x:Nat × Operand)=>(x.1,ρ x.2)).toArray cells.toArray (by simpa using hb)
 rw [gN hn]
 simp only [execOp,SS]
 simp only [Sem.run_bind,hr,Result.andThen_ok,Sem.run_pure]
theorem sj {x ix:Operand} {t j:Nat} {a:ByteArray} {k:IntKind} [ht:Und P t .string] (hx:ev s x=some (.string a)) (hi:ev s ix=some (.int k (j:Nat))) (hj:j<a.size):
  VOp P w0 s H (.index t x ix) ty (.int .u8 ((a[j]'hj).toNat:Int)):=fun ρ w _ _ _ _ hρ _=>by
 have h0:(0:Int)≤(j:Int):=by omega
 simp [execOp,hρ x _ hx,hρ ix _ hi,Instr.index,run_underlying ht.out,asIntOf,hj]
def nO (b:ByteArray):List Value:=b.data.toList.map fun c=> .int .u8 (c.toNat:Int)
theorem oY (b:ByteArray):(nO b).length=b.size:=by simp [nO]
theorem lH {d t u e:Nat} {x:Operand} {a:ByteArray} {ops:Array Oper} [hs:Und P t .string] [hd:Und P u (.slice e)] [he:Und P e (.int .u8)] (hn:Nat.blt d n.sz=true) (hx:ev s x=some (.string a))
  (k: ∀ g cap,WL P n w0 ops rest Q ((d,.slice (some ⟨g,0,none⟩) a.size cap)::s) (.byt g e a.size cap (nO a)::H)):
  WL P n w0 ops (⟨some d,.convert t u x,ty,p,af,none⟩::rest) Q s H:=by
 intro st w hst hm
 refine wpList_plain rfl fun K hK=> ?_
 have hq:(Question.appendCap a.size 0 e).forced=false:=rfl
 generalize hcap:(Question.appendCap a.size 0 e).cut (w.tape w.drawn (.appendCap a.size 0 e))=cap
 have hge:a.size≤cap:=by rw [← hcap];simp [Question.cut]
 have hlen:(a.data.map fun b=>Value.int .u8 (b.toNat:Int)).size+(cap - a.size)=cap:=by
  have:(a.data.map fun b=>Value.int .u8 (b.toNat:Int)).size=a.size:=by simp
  omega
 generalize hcs:((a.data.map fun b=>Value.int .u8 (b.toNat:Int))++Array.replicate (cap - a.size) (Value.int .u8 0))=cs
 have hcsz:cs.size=cap:=by rw [← hcs];simpa using hlen
 have hrun:(Conv.stringToBytes e a).run P w= .ok (.slice (some ⟨w.heap.size,0,none⟩) a.size cap) (({ w with drawn:=w.drawn+1 }:World).alloc (.cells cs e (cap,cap+1))):=by
  have hfr:(({ w with drawn:=w.drawn+1 }:World).alloc (.cells cs e)).freeze ⟨w.heap.size,cap,none⟩ 1=(({ w with drawn:=w.drawn+1 }:World).alloc (.cells cs e (cap,cap+1))):=by
   simp only [World.freeze,World.alloc,Nat.one_ne_zero,if_false]
   congr 1
   refine Array.ext_getElem? fun i=> ?_
   rw [Th,SV,SV]
   by_cases hi:w.heap.size=i
   ·
    subst hi;simp
   ·
    rw [if_neg hi,if_neg (fun e=>hi e.symm),if_neg (fun e=>hi e.symm)]
  have hshape:(({ w with drawn:=w.drawn+1 }:World).alloc (.cells cs e)).shape? w.heap.size=some (e,cap):=by
   simp [World.shape?,World.alloc,hcsz]
  simp only [Conv.stringToBytes,Sem.run_bind,run_choose,hq,RT,if_false,Result.andThen_ok,hcap,newRow,run_newObj,Sem.run_pure,markStringish,run_shape,hcs,World.alloc_eq,hshape,run_freeze,hfr]
 have hev:=hst.eval x _ hx
 have hconv:(convert t u (.string a)).run P w=(Conv.stringToBytes e a).run P w:=by
  simp [convert,run_underlying hs.out,run_underlying hd.out,run_underlying he.out]
 unfold Oper.wp execOp
 simp only [Sem.run_bind,hev,hconv,hrun,Result.andThen_ok,Sem.run_pure,Oper.upon]
 refine hK _ _ (k w.heap.size cap _ _ (hst.put (Sd ▸ hn) _) (hm.drew.new (World.grownBy_alloc _ _ none) ⟨oY a,hge,List.replicate (cap - a.size) (.int .u8 0),?_,?_⟩ fun k hk=> ?_))
 ·
  simp [oY];omega
 ·
  rw [heap_alloc_new ({ w with drawn:=w.drawn+1 }:World) _]
  congr 2
  rw [← hcs]
  apply Array.ext'
  simp [nO]
 ·
  simp only [Blk.key,Option.some.injEq] at hk
  subst hk
  exact QV _
theorem Mem.cells_byt {w w0:World} {H:List Blk} {g m c:Nat} {t:TypeId} {xs:List Value} (h:Mem w0 w H) (hi:In (.byt g t m c xs) H):Cells w g 0 xs:=by
 obtain ⟨hl,_,junk,_,h1⟩:=(h.on _ hi.mem).1
 intro j v hv
 rw [RB,cell_of_row w g j _ t _ h1]
 have hlt:=(Rn.1 hv).1
 rw [RV,Sh hlt]
 exact hv
theorem jH {x:Operand} {t T g off m c:Nat} {xs:List Value} {v:Value} [One P t] (hx:ev s x=some (.pointer (some ⟨g,off,none⟩))) (hi:In (.byt g T m c xs) H) (hv:xs[off]? =some v):
  VOp P w0 s H (.load t x) ty v:=fun ρ w _ _ _ _ hρ hm=>by
 have hc:=hm.cells_byt hi off v hv
 rw [RB] at hc
 simp [execOp,hρ x _ hx,Instr.loadAt,Instr.sureAddr,gL (P:=P) hc]
theorem xG (ns:List Int) (b:ByteArray):(ns.foldl (fun r n=>r.push (UInt8.ofNat n.toNat)) b).data.toList=b.data.toList++ns.map fun n=>UInt8.ofNat n.toNat:=by
 induction ns generalizing b with
 |nil=>simp
 |cons n r ih=>rw [Td,ih];simp [ByteArray.push]
theorem q9 {x:Operand} {t u e T g m c:Nat} {ns:List Int} [hs:Und P t (.slice e)] [he:Und P e (.int .u8)] [hd:Und P u .string] (hx:ev s x=some (.slice (some ⟨g,0,none⟩) m c)) (hi:In (.byt g T m c (ns.map (Value.int .u8))) H) (hl:ns.length=m):
  VOp P w0 s H (.convert t u x) ty (.string ⟨(ns.map fun n=>UInt8.ofNat n.toNat).toArray⟩):=fun ρ w _ _ _ _ hρ hm=>by
 have hc:=hm.cells_byt hi
 have h1:=run_loadCells_list (P:=P) w ⟨g,0,none⟩ (ns.map (Value.int .u8)) (fun j v hv=>by rw [cK];exact hc j v hv)
 rw [RN,hl] at h1
 have h2:=run_bytesToString (P:=P) w ⟨g,0,none⟩ m c ns h1
 have h3:ns.foldl (fun r n=>r.push (UInt8.ofNat n.toNat)) ByteArray.empty=⟨(ns.map fun n=>UInt8.ofNat n.toNat).toArray⟩:=by
  have h4:=xG ns ByteArray.empty
  generalize ns.foldl (fun r n=>r.push (UInt8.ofNat n.toNat)) ByteArray.empty=b at h4 ⊢
  obtain ⟨⟨l⟩⟩:=b
  simp only at h4
  simp [h4]
 rw [h3] at h2
 simp only [execOp,hρ x _ hx,Sem.run_bind,run_convert_bytes_string w t u e _ _ _ hs.out he.out hd.out,h2,Result.andThen_ok,Sem.run_pure]
theorem lI {ops:Array Oper} {t T g off m c:Nat} {x a:Operand} {xs:List Value} {v:Value} {R:List Blk} [Size P t 1] (ha:ev s a=some (.pointer (some ⟨g,off,none⟩))) (hx:ev s x=some v)
  (hsel:Sel (.byt g T m c xs) H R) (hv:v.oneCell' =true) (hfit:off<xs.length)
  (k:WL P n w0 ops rest Q s (.byt g T m c (xs.set off v)::R)):WL P n w0 ops (⟨none,.store t a x,ty,p,af,none⟩::rest) Q s H:=by
 refine pR (fun a' w hs hm=> ?_) k
 have hm' :=hm.sel hsel
 obtain ⟨h2,h3,junk,h5,hb⟩:=(hm'.on _ QT).1
 obtain ⟨i,hi,hsz⟩:=(inferInstance:Size P t 1).out
 have hcv:v.cells= #[v]:=by cases v<;>first|rfl|cases hv
 have hlt:off<(xs++junk).length:=by simp;omega
 have hcell:w.cell? ⟨g,off,none⟩=some (xs++junk)[off]:=by
  rw [cell_of_row w g off _ T _ hb,RV,QQ hlt]
 have hfz:w.frozen? ⟨g,off,none⟩=false:=by
  have:off<c:=by rw [← h5];exact hlt
  simp only [World.frozen?,hb]
  simp;omega
 have hst:(storeVar t ⟨g,off,none⟩ v).run P w= .ok () (w.setCell ⟨g,off,none⟩ v):=by
  simp [storeVar,sizeOf,typeInfo,hi,hsz,hcv,storeCells,cK,run_store P w _ v .plain hv,hcell,hfz]
 have hg:w.grownBy (w.setCell ⟨g,off,none⟩ v) (some g):=⟨rfl,rfl,rfl,by simp,fun k _ hk=>Below.heap_setCell w _ v k (fun e=>hk (by rw [e]))⟩
 have hnew:(w.setCell ⟨g,off,none⟩ v).heap[g]? =some (.cells (xs.set off v++junk).toArray T (c,c+1)):=by
  simp only [World.setCell,Th,if_true,hb,Se,Option.isSome_none,RT,if_false]
  rw [← List.set_append_left _ _ hfit]
  simp
 refine ⟨_,?_,hm'.upd hg (b' := .byt g T m c (xs.set off v)) ⟨by simpa using h2,h3,junk,by rw [QP,Tn,← QP];exact h5,hnew⟩ fun k hk=> .inl hk⟩
 simp [execOp,hs.eval a _ ha,hs.eval x _ hx,Instr.storeAt,Instr.sureAddr,hst]
theorem yC {d t:Nat} {x:Operand} {a:ByteArray} {ops:Array Oper} [ht:Und P t .string] (hn:Nat.blt d n.sz=true) (hx:ev s x=some (.string a))
  (k: ∀ g,WL P n w0 ops rest Q ((d,.pointer (some ⟨g,0,none⟩))::s) (.obj g (.stringIter a 0)::H)):WL P n w0 ops (⟨some d,.range t x,ty,p,af,none⟩::rest) Q s H:=by
 refine o4 (B:=fun g=> .obj g (.stringIter a 0)) (v:=fun g=> .pointer (some ⟨g,0,none⟩)) hn (fun st w hs hm=> ?_) k
 refine ⟨w.iter a 0,?_,World.grownBy_alloc w _ none,World.iter_heap w a 0,rfl⟩
 simp [execOp,hs.eval x _ hx,run_range_string w t a ht.out]
theorem zR {d g pos:Nat} {x:Operand} {a:ByteArray} {R:List Blk} {ops:Array Oper} (hn:Nat.blt d n.sz=true) (hx:ev s x=some (.pointer (some ⟨g,0,none⟩))) (hsel:Sel (.obj g (.stringIter a pos)) H R)
  (hascii: ∀ h:pos<a.size,(a[pos]'h).toNat<128)
  (k1: ∀ h:pos<a.size,WL P n w0 ops rest Q ((d,.tuple #[.bool true,.int .i64 (pos:Int),.int .i32 ((a[pos]'h).toNat:Int)])::s) (.obj g (.stringIter a (pos+1))::R))
  (k2:a.size≤pos→WL P n w0 ops rest Q ((d,.tuple #[.bool false])::s) (.obj g (.stringIter a pos)::R)):
  WL P n w0 ops (⟨some d,.next x true,ty,p,af,none⟩::rest) Q s H:=by
 intro st w hs hm
 have hm' :=hm.sel hsel
 have hb:=(hm'.on _ QT).1
 simp only [Blk.on] at hb
 refine wpList_plain rfl fun K hK=> ?_
 by_cases h:pos<a.size
 ·
  have hr:(Instr.next (.pointer (some ⟨g,0,none⟩)) true ty).run P w= .ok (.tuple #[.bool true,.int .i64 (pos:Int),.int .i32 ((a[pos]'h).toNat:Int)]) { w with heap:=w.heap.setIfInBounds g (.stringIter a (pos+1)) }:=by
   simp only [Instr.next,getObj,setObj,Sem.run_bind,Sem.run,hb,Result.andThen,h,if_true,decode_ascii a pos h (hascii h)]
   simp [goInt]
  unfold Oper.wp execOp
  simp only [Sem.run_bind,hs.eval x _ hx,hr,Result.andThen_ok,Sem.run_pure,Oper.upon]
  refine hK _ _ (k1 h _ _ (hs.put (Sd ▸ hn) _) (hm'.upd ⟨rfl,rfl,rfl,by simp,fun k _ hk=> ?_⟩ ?_ fun k hk=> .inl hk))
  ·
   have hne:g≠k:=fun e=>hk (by rw [← e];rfl)
   simp [SU hne]
  ·
   simp only [Blk.on]
   have:g<w.heap.size:=(RI.1 hb).1
   simp [this]
 ·
  have hr:(Instr.next (.pointer (some ⟨g,0,none⟩)) true ty).run P w= .ok (.tuple #[.bool false]) w:=by
   simp [Instr.next,getObj,Sem.run,hb,h]
  unfold Oper.wp execOp
  simp only [Sem.run_bind,hs.eval x _ hx,hr,Result.andThen_ok,Sem.run_pure,Oper.upon]
  exact hK _ _ (k2 (by omega) _ _ (hs.put (Sd ▸ hn) _) hm')
end
section
variable {P:Program} {ops:Array Oper} {md:Region.Mode} {C:Array Bool→World→Prop}
def zK (P:Program) (D:World→Prop) (v:Value):Result Next→Prop
 | .ok (.value u) w' =>u=v∧D w'
 | .ok .skip w' =>v=undef∧D w'
 | .ok (.enter f args) w' =>Calls P f args w' fun e w'' =>e= .returned v∧D w''
 |_=>False
def Gives (P:Program) (md:Region.Mode) (ops:Array Oper) (C:Array Bool→World→Prop) (i:Nat) (o:Oper) (v:Value) (a:Act):Prop:=
 (Region.wanted o (yielded ops a.tmps)=true∧ ∀ L w,i∈Region.ready md ops L→C L w→zK P (C (L.setIfInBounds i true)) v ((execOp a.eval o).run P w))∨
 (Region.wanted o (yielded ops a.tmps)=false∧v=undef∧ ∀ L w,i∈Region.ready md ops L→C L w→C (L.setIfInBounds i true) w)
theorem Gives.of_same {i:Nat} {o:Oper} {v:Value} {a a' :Act} (hy:Gives P md ops C i o v a) (he:execOp a'.eval o=execOp a.eval o)
  (hw:Region.wanted o (yielded ops a'.tmps)=Region.wanted o (yielded ops a.tmps)):Gives P md ops C i o v a' :=by
 unfold Gives at*
 rw [he,hw]
 exact hy
def gOp (P:Program) (md:Region.Mode) (ops:Array Oper) (C:Array Bool→World→Prop) (i:Nat) (K:Act→Prop) (a:Act):Prop:=
 ∃ o v,ops[i]? =some o∧Gives P md ops C i o v a∧K (a.put o.dst v)
def Mf (P:Program) (md:Region.Mode) (ops:Array Oper) (C:Array Bool→World→Prop) (Q:Array Bool→Act→Prop):Nat→Array Bool→Act→Prop
 |0,L,a=>Region.ready md ops L= []∧Q L a
 |f+1,L,a=>(Region.ready md ops L= []→Q L a)∧ ∀ i∈Region.ready md ops L,gOp P md ops C i (Mf P md ops C Q f (L.setIfInBounds i true)) a
theorem fL {Q:Array Bool→Act→Prop} {Q' :Exit→Act→World→Prop} (hQ: ∀ L a w,Region.ready md ops L= []→C L w→Q L a→Q' .normal a w): ∀ (f:Nat) (L:Array Bool) (a:Act) (w:World),C L w→
  Mf P md ops C Q f L a→wpAny P md ops Q' f L a w
 |0,L,a,w,hC,h=>⟨h.1,hQ L a w h.1 hC h.2⟩
 |f+1,L,a,w,hC,h=>⟨fun h0=>hQ L a w h0 hC (h.1 h0),fun i hi=>by
   obtain ⟨o,v,ho,hg,hk⟩:=h.2 i hi
   unfold wpOp
   simp only [ho]
   rcases hg with ⟨hw,hg⟩|⟨hw,rfl,hg⟩
   ·
    simp only [hw,if_true]
    refine .inl ?_
    have h1:=hg L w hi hC
    unfold Oper.wp
    generalize (execOp a.eval o).run P w=r at h1 ⊢
    cases r with
    |ok x w' =>
     cases x<;>simp only [zK] at h1<;>simp only [Oper.upon]
     case value u=>obtain ⟨rfl,h2⟩:=h1;exact fL hQ f _ _ _ h2 hk
     case skip=>obtain ⟨rfl,h2⟩:=h1;exact fL hQ f _ _ _ h2 hk
     case enter g args=>exact h1.mono fun e w'' ⟨he,h2⟩=>by subst he;exact fL hQ f _ _ _ h2 hk
    |halt x w' =>simp only [zK] at h1
   ·
    simp only [hw,RT,if_false]
    exact fL hQ f _ _ _ (hg L w hi hC) hk⟩
theorem K6 {i:Nat} {a:Act} {K K' :Act→Prop} (h: ∀ a,K a→K' a) (hh:gOp P md ops C i K a):gOp P md ops C i K' a:=
 let ⟨o,v,h1,h2,h3⟩:=hh
 ⟨o,v,h1,h2,h _ h3⟩
theorem Nx {i j:Nat} {oi oj:Oper} {v:Value} (hj:ops[j]? =some oj) (hap:oi.apart ops oj=true)
  (hsi: ∀ cs b,oi.op≠ .select cs b) (hsj: ∀ cs b,oj.op≠ .select cs b) {K:Act→Prop} {a:Act}
  (hy:Gives P md ops C i oi v a) (h:gOp P md ops C j K (a.put oi.dst v)):
  gOp P md ops C j (fun a' =>Gives P md ops C i oi v a' ∧K (a'.put oi.dst v)) a:=by
 obtain ⟨h1,h2,h3⟩:=Oper.apart_spec hap
 obtain ⟨o,u,ho,hg,hk⟩:=h
 have e:o=oj:=Option.some.inj (ho.symm.trans hj)
 subst e
 refine ⟨o,u,ho,hg.of_same (execOp_put o hsj a oi.dst v h1).symm (wanted_put o a oi.dst v h1).symm,hy.of_same (execOp_put oi hsi a o.dst u h3) (wanted_put oi a o.dst u h3),?_⟩
 rw [← Act.put_comm a v u h2]
 exact hk
theorem wF {Q:Array Bool→Act→Prop} {i:Nat} {oi:Oper} {v:Value} (hi:ops[i]? =some oi) (hsel: ∀ (j:Nat) (o:Oper) cs b,ops[j]? =some o→o.op≠ .select cs b):
  ∀ (f:Nat) (L:Array Bool) (a:Act),
   (∀ j oj,ops[j]? =some oj→j≠i→L.getD j true=false→(∀ e∈oj.after,Region.binds md e=true→e.on≠i)→oi.apart ops oj=true)→
   i∈Region.ready md ops L→Gives P md ops C i oi v a→Mf P md ops C Q f (L.setIfInBounds i true) (a.put oi.dst v)→Mf P md ops C Q (f+1) L a
 |0,L,a,_,hr,hy,H=>⟨fun h=>(by rw [h] at hr;cases hr),fun j hj=>by
   by_cases hji:j=i
   ·
    subst hji;exact ⟨oi,v,hi,hy,H⟩
   ·
    have:=ready_mono hj hji
    rw [H.1] at this
    cases this⟩
 |f+1,L,a,hfree,hr,hy,H=>⟨fun h=>(by rw [h] at hr;cases hr),fun j hj=>by
   by_cases hji:j=i
   ·
    subst hji;exact ⟨oi,v,hi,hy,H⟩
   ·
    have h1:=H.2 j (ready_mono hj hji)
    obtain ⟨hjun,oj,hoj,hall⟩:=mem_ready.1 hj
    have hnot: ∀ e∈oj.after,Region.binds md e=true→e.on≠i:=fun e he hb heq=>by
     have h1:=hall e he hb
     have h0:=(mem_ready.1 hr).1
     rw [heq] at h1
     rcases SR i L.size with h' |h'
     ·
      simp [h'] at h0 h1;rw [h0] at h1;cases h1
     ·
      simp [Tx h'] at h1
    have h2:=Nx hoj (hfree j oj hoj hji hjun hnot) (fun cs b=>hsel i oi cs b hi) (fun cs b=>hsel j oj cs b hoj) hy h1
    have hfree' : ∀ k ok,ops[k]? =some ok→k≠i→(L.setIfInBounds j true).getD k true=false→
      (∀ e∈ok.after,Region.binds md e=true→e.on≠i)→oi.apart ops ok=true:=fun k ok hk hki hun hno=>by
     refine hfree k ok hk hki ?_ hno
     by_cases hjk:j=k
     ·
      subst hjk;exact hjun
     ·
      rw [getD_set_ne true hjk] at hun;exact hun
    refine K6 (fun a' h3=>wF hi hsel f (L.setIfInBounds j true) a' hfree' (ready_mono hr (Ne.symm hji)) h3.1 ?_) h2
    rw [Uh _ _ hji]
    exact h3.2⟩
def wpG (P:Program) (md:Region.Mode) (ops:Array Oper) (C:Array Bool→World→Prop) (Q:Act→Prop):List Oper→Nat→Act→Prop
 | [],_,a=>Q a
 |o::r,k,a=> ∃ v,Gives P md ops C k o v a∧wpG P md ops C Q r (k+1) (a.put o.dst v)
theorem CZ {Q:Act→Prop} (hs:Region.noSelect ops=true): ∀ (l:List Oper) (k:Nat) (L:Array Bool) (a:Act),(∀ j,l[j]? =ops[k+j]?)→
  Region.lexFrom md ops l.length k L=true→wpG P md ops C Q l k a→Mf P md ops C (fun _ a=>Q a) l.length L a
 | [],_,_,_,_,hB,h=>⟨by simpa [Region.lexFrom] using hB,h⟩
 |o::l,k,L,a,hl,hB,h=>by
  have h0:ops[k]? =some o:=by simpa using (hl 0).symm
  simp only [Rp,Region.lexFrom,QZ] at hB
  obtain ⟨⟨hr,hf⟩,hB'⟩:=hB
  obtain ⟨v,hy,hK⟩:=h
  exact wF h0 (Region.noSelect_spec hs) l.length L a (Region.free_spec h0 hf) (by simpa using hr) hy
   (CZ hs l (k+1) _ _ (fun j=>by have:=hl (j+1);simpa [SN,Tb 1 j] using this) hB' hK)
theorem zO {id:Nat} {Q:Exit→Act→World→Prop} {a:Act} {w:World} (hm:P.follows .mixedOrders=true) (hB:Region.lexB .any ops=true) (hC:C (Array.replicate ops.size false) { w with drawn:=w.drawn+1 })
  (h:wpG P .any ops C (fun a' => ∀ L w',Region.ready .any ops L= []→C L w' →Q .normal a' w') ops.toList 0 a):(Code.region id ops true).wp P Q a w:=by
 simp only [Region.lexB,QZ] at hB
 refine wp_region_any hm (fL (Q:=fun _ a' => ∀ L w',Region.ready .any ops L= []→C L w' →Q .normal a' w') (fun L a' w' hr hw' h=>h L w' hr hw') _ _ _ _ hC ?_)
 have:=CZ (C:=C) (md:= .any) hB.1 ops.toList 0 (Array.replicate ops.size false) a (by simp) (by simpa using hB.2) h
 simpa using this
end
abbrev kP:=Nat→Bool
def done (L:Array Bool):kP:=fun i=>L.getD i false
section
variable {P:Program} {n:Fr} {w0:World} {Q:bU} {s:az} {H:List Blk} {l rest:List Oper} {ty:TypeId} {p:String} {af:Array Edge}
def Cls (w0:World) (l:List Oper) (HL:kP→List Blk) (L:Array Bool) (w:World):Prop:=
 L.size=l.length∧(∀ i o,l[i]? =some o→done L i=true→ ∀ e∈o.after,Region.binds .any e=true→done L e.on=true)∧Mem w0 w (HL (done L))
def pU (o:Oper):List Nat:=o.after.toList.filterMap fun e=>if Region.binds .any e then some e.on else none
structure Turn (l:List Oper) (k:Nat) (o:Oper) (D:kP):Prop where
 not:D k=false
 gh: ∀ i∈pU o,D i=true
 closed: ∀ i x,l[i]? =some x→D i=true→ ∀ j∈pU x,D j=true
def put (D:kP) (k:Nat):kP:=fun i=>if i=k then true else D i
def WG (P:Program) (n:Fr) (w0:World) (l:List Oper) (HL:kP→List Blk) (K:az→Prop) (rest:List Oper) (k:Nat) (s:az):Prop:=
 ∀ a,St n s a→(∀ j,rest[j]? =l[k+j]?)→wpG P .any l.toArray (Cls w0 l HL) (fun a' => ∃ s',St n s' a' ∧K s') rest k a
theorem jy {o:Oper} {i:Nat}:i∈pU o↔ ∃ e∈o.after,Region.binds .any e=true∧e.on=i:=by
 unfold pU
 rw [List.mem_filterMap]
 constructor
 ·
  rintro ⟨e,he,h⟩
  split at h
  ·
   rename_i hb
   injection h with h
   exact ⟨e,by simpa using he,hb,h⟩
  ·
   cases h
 ·
  rintro ⟨e,he,hb,h⟩
  exact ⟨e,by simpa using he,by simp [hb,h]⟩
theorem yN {HL:kP→List Blk} {k:Nat} {o:Oper} {L:Array Bool} {w:World} (hk:l[k]? =some o) (hr:k∈Region.ready .any l.toArray L) (hc:Cls w0 l HL L w):Turn l k o (done L)∧done (L.setIfInBounds k true)=put (done L) k∧(∀ w',Mem w0 w' (HL (put (done L) k))→Cls w0 l HL (L.setIfInBounds k true) w'):=by
 obtain ⟨hsz,hcl,_⟩:=hc
 obtain ⟨h0,o',ho',hall⟩:=mem_ready.1 hr
 have e:o' =o:=by
  rw [RV,hk] at ho'
  exact (Option.some.inj ho').symm
 subst e
 have hlt:k<L.size:=by rw [hsz];exact (Rn.1 hk).1
 have hd:done (L.setIfInBounds k true)=put (done L) k:=by
  funext i
  unfold done put
  by_cases hik:i=k
  ·
   subst hik;simp [hlt]
  ·
   rw [if_neg hik,getD_set_ne false (Ne.symm hik)]
 have hcl' : ∀ i x,l[i]? =some x→done L i=true→ ∀ j∈pU x,done L j=true:=fun i x hx hi j hj=>by
  obtain ⟨e,he,hb,rfl⟩:=jy.1 hj
  exact hcl i x hx hi e he hb
 refine ⟨⟨?_,fun i hi=> ?_,hcl'⟩,hd,fun w' hm=>⟨by simpa using hsz,fun i x hx hi e he hb=> ?_,hd ▸ hm⟩⟩
 ·
  unfold done;simp [hlt] at h0 ⊢;exact h0
 ·
  obtain ⟨e,he,hb,rfl⟩:=jy.1 hi
  exact hall e he hb
 ·
  rw [hd] at hi ⊢
  by_cases hik:i=k
  ·
   subst hik
   rw [hk] at hx
   injection hx with hx
   subst hx
   have h1:=hall e he hb
   unfold put
   split
   ·
    rfl
   ·
    exact h1
  ·
   have hi' :done L i=true:=by unfold put at hi;rwa [if_neg hik] at hi
   have:=hcl i x hx hi' e he hb
   unfold put
   split
   ·
    rfl
   ·
    exact this
theorem tO {id:Nat} (HL:kP→List Blk) (hm:P.follows .mixedOrders=true) (hB:Region.lexB .any l.toArray=true) (h0:MSub (HL fun _=>false) H)
  (h:WG P n w0 l HL (fun s' => ∀ D:kP,(∀ i,i<l.length→D i=true)→Q .normal s' (HL D)) l 0 s):W P n w0 (.region id l.toArray true) Q s H:=by
 intro a w hs hmem
 have hrep:done (Array.replicate l.toArray.size false)=fun _=>false:=by
  funext i
  unfold done
  rw [RG,Ui]
  split<;>rfl
 refine zO (C:=Cls w0 l HL) hm hB ⟨by simp,fun i o _ hi=>(by rw [hrep] at hi;cases hi),by rw [hrep];exact h0.use hmem.drew⟩ ?_
 have h1:=h a hs (by simp)
 have mono: ∀ (r:List Oper) (k:Nat) (a:Act) (K K' :Act→Prop),(∀ a,K a→K' a)→wpG P .any l.toArray (Cls w0 l HL) K r k a→wpG P .any l.toArray (Cls w0 l HL) K' r k a:=by
  intro r
  induction r with
  |nil=>intro k a K K' hk h;exact hk _ h
  |cons o r ih=>
   rintro k a K K' hk ⟨v,h1,h2⟩
   exact ⟨v,h1,ih _ _ K K' hk h2⟩
 simp only [TJ]
 refine mono _ _ _ _ _ ?_ h1
 rintro a' ⟨s',h2,h3⟩ L w' hr ⟨hsz,hcl,hmem'⟩
 refine ⟨s',HL (done L),h2,hmem',h3 _ fun i hi=> ?_⟩
 -- nothing is ready:all is done
 have all: ∀ i,i<l.length→done L i=true:=by
  intro i
  induction i using Nat.strongRecOn with
  |_ i ih=>
   intro hi
   cases hd:done L i with
   |true=>rfl
   |false=>
    exfalso
    have hlx: ∀ (f k:Nat) (L0:Array Bool),Region.lexFrom .any l.toArray f k L0=true→ ∀ j o,k≤j→j<k+f→l[j]? =some o→ ∀ x∈pU o,L0.getD x false=true∨(k≤x∧x<j):=by
     intro f
     induction f with
     |zero=>intro k L0 _ j o h1 h2;omega
     |succ f ihf=>
      intro k L0 hlex j o h1 h2 ho x hx
      simp only [Region.lexFrom,QZ] at hlex
      obtain ⟨⟨hrk,_⟩,hrest⟩:=hlex
      by_cases hjk:j=k
      ·
       subst hjk
       obtain ⟨_,o',ho',hall⟩:=mem_ready.1 (by simpa using hrk:j∈Region.ready .any l.toArray L0)
       rw [RV,ho] at ho'
       injection ho' with ho'
       subst ho'
       obtain ⟨e,he,hb,rfl⟩:=jy.1 hx
       exact .inl (hall e he hb)
      ·
       rcases ihf (k+1) _ hrest j o (by omega) (by omega) ho x hx with h|⟨h3,h4⟩
       ·
        by_cases hxk:k=x
        ·
         subst hxk;right;omega
        ·
         rw [getD_set_ne false hxk] at h;exact .inl h
       ·
        right;omega
    simp only [Region.lexB,QZ] at hB
    obtain ⟨o,ho⟩: ∃ o,l[i]? =some o:=⟨_,QQ hi⟩
    have hmem:i∈Region.ready .any l.toArray L:=by
     refine mem_ready.2 ⟨?_,o,by simpa using ho,fun e he hb=> ?_⟩
     ·
      have:i<L.size:=by omega
      unfold done at hd
      simp [this] at hd ⊢;exact hd
     ·
      have hx:=hlx l.toArray.size 0 _ hB.2 i o (QX _) (by simpa using hi) ho e.on (jy.2 ⟨e,he,hb,rfl⟩)
      rcases hx with h|⟨_,h⟩
      ·
       have:(done (Array.replicate l.toArray.size false)) e.on=true:=h
       rw [hrep] at this;cases this
      ·
       exact ih e.on h (by omega)
    rw [hr] at hmem
    cases hmem
 exact all i hi
variable {HL:kP→List Blk} {K:az→Prop} {k:Nat}
theorem yG (h:K s):WG P n w0 l HL K [] k s:=fun _ hs _=>⟨s,hs,h⟩
theorem De {op:Op} {d:Nat} {v:Value} (hn:Nat.blt d n.sz=true) (hv: ∀ D,Turn l k ⟨some d,op,ty,p,af,none⟩ D→VOp P w0 s (HL D) op ty v) (hk: ∀ D,HL (put D k)=HL D) (h:WG P n w0 l HL K rest (k+1) ((d,v)::s)):
  WG P n w0 l HL K (⟨some d,op,ty,p,af,none⟩::rest) k s:=by
 intro a hs hl
 have h0:l[k]? =some ⟨some d,op,ty,p,af,none⟩:=by simpa using (hl 0).symm
 refine ⟨v,.inl ⟨rfl,fun L w hr hc=> ?_⟩,h _ (hs.put (Sd ▸ hn) v) fun j=>by have:=hl (j+1);simpa [SN,Tb 1 j] using this⟩
 obtain ⟨ht,hd,hnext⟩:=yN h0 hr hc
 rw [hv _ ht a.eval w _ _ _ _ hs.eval hc.2.2]
 exact ⟨rfl,hnext w (by rw [hk];exact hc.2.2)⟩
theorem JA {d:Nat} {f:FuncId} {xs:List Operand} {vs:List Value} {v:Value} {ts:Array TypeId} [Callable P f] (hn:Nat.blt d n.sz=true) (hx:evs s xs=some vs)
  (hF: ∀ D,Turn l k ⟨some d,.call { callee:= .value (.func f),args:=xs.toArray,argTypes:=ts },ty,p,af,none⟩ D→ ∀ w,Mem w0 w (HL D)→ay P f vs w v) (hk: ∀ D,HL (put D k)=HL D) (h:WG P n w0 l HL K rest (k+1) ((d,v)::s)):
  WG P n w0 l HL K (⟨some d,.call { callee:= .value (.func f),args:=xs.toArray,argTypes:=ts },ty,p,af,none⟩::rest) k s:=by
 intro a hs hl
 have h0:=(hl 0).symm
 simp only [Ta,Uk] at h0
 refine ⟨v,.inl ⟨rfl,fun L w hr hc=> ?_⟩,h _ (hs.put (Sd ▸ hn) v) fun j=>by have:=hl (j+1);simpa [SN,Tb 1 j] using this⟩
 obtain ⟨ht,hd,hnext⟩:=yN h0 hr hc
 have hrun:=kV (P:=P) (w:=w) (ρ:=a.eval) (d:=some d) (ty:=ty) (p:=p) (af:=af) (g:=none) (f:=f) (c:= .func f) (xs:=xs) (caps:= []) (ts:=ts) rfl (gQ hs hx)
 rw [QW] at hrun
 rw [hrun]
 refine Calls.mono (hF _ ht w hc.2.2) ?_
 rintro e w' ⟨u,H',rfl,hm',rfl⟩
 exact ⟨rfl,hnext w' (by rw [hk];exact (hc.2.2.call hm').right)⟩
theorem Fz {op:Op} (hv: ∀ D,Turn l k ⟨none,op,ty,p,af,none⟩ D→ ∀ a w,St n s a→Mem w0 w (HL D)→ ∃ w',(execOp a.eval ⟨none,op,ty,p,af,none⟩).run P w= .ok .skip w' ∧Mem w0 w' (HL (put D k))) (h:WG P n w0 l HL K rest (k+1) s):
  WG P n w0 l HL K (⟨none,op,ty,p,af,none⟩::rest) k s:=by
 intro a hs hl
 have h0:l[k]? =some ⟨none,op,ty,p,af,none⟩:=by simpa using (hl 0).symm
 refine ⟨undef,.inl ⟨rfl,fun L w hr hc=> ?_⟩,h _ (hs.put_none _) fun j=>by have:=hl (j+1);simpa [SN,Tb 1 j] using this⟩
 obtain ⟨ht,hd,hnext⟩:=yN h0 hr hc
 obtain ⟨w',hr',hm'⟩:=hv _ ht a w hs hc.2.2
 rw [hr']
 exact ⟨rfl,hnext w' hm'⟩
theorem Df {t T g off m:Nat} {x a:Operand} {v:Value} {vs:List Value} [Size P t m] (xs:kP→List Value) (R:kP→List Blk) (ha:ev s a=some (.pointer (some ⟨g,off,none⟩))) (hx:ev s x=some v)
  (hsel: ∀ D,Sel (.box g T (xs D)) (HL D) (R D)) (hv:v.cells=vs.toArray) (hl:vs.length=m) (h1:vs.all Value.oneCell' =true) (hfit: ∀ D,off+m≤(xs D).length)
  (hnew: ∀ D,Turn l k ⟨none,.store t a x,ty,p,af,none⟩ D→MSub (HL (put D k)) (.box g T ((xs D).take off++vs++(xs D).drop (off+m))::R D)) (h:WG P n w0 l HL K rest (k+1) s):
  WG P n w0 l HL K (⟨none,.store t a x,ty,p,af,none⟩::rest) k s:=by
 refine Fz (fun D ht a' w hs hm=> ?_) h
 have hm' :=hm.sel (hsel D)
 have hb:=(hm'.on _ QT).1
 simp only [Blk.on] at hb
 have h1' : ∀ u∈vs,u.oneCell' =true:=by simpa using h1
 have hr:=jp (P:=P) (t:=t) (off:=off) hv hl h1' hb (by simpa using hfit D)
 simp only at hr
 refine ⟨_,?_,(hnew D ht).use (hm'.upd (gK _ _ _) (b' := .box g T ((xs D).take off++vs++(xs D).drop (off+m))) (setRow_heap _ _ _ _ _ _ hb) fun k hk=> .inl hk)⟩
 simp [execOp,hs.eval a _ ha,hs.eval x _ hx,Instr.storeAt,Instr.sureAddr,hr]
theorem lc {w:World} {t T T' g m:Nat} {xs:List Value} {a:Act} [Agg P T m] (hs:St n s a) (hm:Mem w0 w H) (ht:look s t=some (.pointer (some ⟨g,0,none⟩))) (hi:In (.box g T' xs) H) (hl:Nat.beq xs.length m=true):
  (do let b ← asAddr (a.tmps.getD t undef);loadVar T b).run P w= .ok (.agg xs.toArray) w:=by
 have h1:=hs.has t _ ht
 have h2:=jq (P:=P) (t:=T) (RL hl) (hm.cells_box hi)
 simp [RG,h1,asAddr,h2]
section res
variable {fn:Func} {R:Value→List Blk→Prop} {e:Exit} {t u T U T' U' g h m q:Nat} {xs ys:List Value} {v:Value}
theorem wQ (he:e= .ret∨e= .normal) (hr:fn.results= #[.cell t T]) [Agg P T m] (ht:look s t=some (.pointer (some ⟨g,0,none⟩))) (hi:In (.box g T' xs) H) (hl:Nat.beq xs.length m=true) {H' :List Blk} (hs:MSub H' H) (hR:R (.agg xs.toArray) H'):aV P fn n w0 R e s H:=
 ⟨he,_,H',hs,fun a w hst hm=>by
  have h1:=lc (P:=P) (T:=T) hst hm ht hi hl
  simp only [results,hr]
  simp only [Tm,RF,RJ,Sem.run_bind,Sem.run_map] at h1 ⊢
  simp only [h1,Result.andThen_ok,Sem.run_pure]
  rfl,hR⟩
theorem xA (he:e= .ret∨e= .normal) (hr:fn.results= #[.cell t T,.tmp u]) [Agg P T m] (ht:look s t=some (.pointer (some ⟨g,0,none⟩))) (hi:In (.box g T' xs) H) (hl:Nat.beq xs.length m=true) (hu:look s u=some v) {H' :List Blk} (hs:MSub H' H) (hR:R (.tuple #[.agg xs.toArray,v]) H'):aV P fn n w0 R e s H:=
 ⟨he,_,H',hs,fun a w hst hm=>by
  have h1:=lc (P:=P) (T:=T) hst hm ht hi hl
  have h2:a.tmps.getD u undef=v:=by simp [RG,hst.has u _ hu]
  simp only [results,hr]
  simp only [Tm,RF,RJ,Sem.run_bind,Sem.run_map] at h1 ⊢
  simp only [h1,Result.andThen_ok,Sem.run_pure,h2]
  rfl,hR⟩
theorem Qk (he:e= .ret∨e= .normal) (hr:fn.results= #[.cell t T,.cell u U]) [Agg P T m] [Agg P U q] (ht:look s t=some (.pointer (some ⟨g,0,none⟩))) (hi:In (.box g T' xs) H) (hl:Nat.beq xs.length m=true) (hu:look s u=some (.pointer (some ⟨h,0,none⟩))) (hi' :In (.box h U' ys) H) (hl' :Nat.beq ys.length q=true) {H' :List Blk} (hs:MSub H' H) (hR:R (.tuple #[.agg xs.toArray,.agg ys.toArray]) H'):aV P fn n w0 R e s H:=
 ⟨he,_,H',hs,fun a w hst hm=>by
  have h1:=lc (P:=P) (T:=T) hst hm ht hi hl
  have h2:=lc (P:=P) (T:=U) hst hm hu hi' hl'
  simp only [results,hr]
  simp only [Tm,RF,RJ,Sem.run_bind,Sem.run_map] at h1 h2 ⊢
  simp only [h1,h2,Result.andThen_ok,Sem.run_pure]
  rfl,hR⟩
end res
theorem bM {d:Nat} {ops:Array Oper} {f:FuncId} {c:Operand} {xs:List Operand} {vs caps:List Value} {v:Value} {ts:Array TypeId} (hn:Nat.blt d n.sz=true) (hc:ev s c=some (.func (.func f) #[] caps.toArray)) (hfc:Callable P f) (hx:evs s xs=some vs)
  (hF: ∀ w,Mem w0 w H→ay P f (vs++caps) w v) (k:WL P n w0 ops rest Q ((d,v)::s) H):
  WL P n w0 ops (⟨some d,.call { callee:= .value c,args:=xs.toArray,argTypes:=ts },ty,p,af,none⟩::rest) Q s H:=
 kQ hn hc hfc hx (FnIn.of_at hF) fun u H' ⟨H1,h1,h2⟩=>by
  subst h1;subst h2
  exact yE ⟨H1,R0⟩ k
theorem tP {id T g:Nat} {xs xs' :List Value} {R:List Blk} (f:kP→List Value) (hm:P.follows .mixedOrders=true) (hB:Region.lexB .any l.toArray=true) (hsel:Sel (.box g T xs) H R) (h0:f (fun _=>false)=xs)
  (h1: ∀ D:kP,(∀ i,i<l.length→D i=true)→f D=xs') (h:WG P n w0 l (fun D=> .box g T (f D)::R) (fun s' =>Q .normal s' (.box g T xs' ::R)) l 0 s):W P n w0 (.region id l.toArray true) Q s H:=by
 subst h0
 refine tO (fun D=> .box g T (f D)::R) hm hB ⟨[],by simpa using hsel.perm⟩ fun a hs hl=> ?_
 have mono: ∀ (r:List Oper) (k:Nat) (a:Act) (K K' :Act→Prop),(∀ a,K a→K' a)→wpG P .any l.toArray (Cls w0 l fun D=> .box g T (f D)::R) K r k a→wpG P .any l.toArray (Cls w0 l fun D=> .box g T (f D)::R) K' r k a:=by
  intro r
  induction r with
  |nil=>intro k a K K' hk h;exact hk _ h
  |cons o r ih=>
   rintro k a K K' hk ⟨v,h1,h2⟩
   exact ⟨v,h1,ih _ _ K K' hk h2⟩
 refine mono _ _ _ _ _ ?_ (h a hs hl)
 rintro a' ⟨s',h2,h3⟩
 exact ⟨s',h2,fun D hD=>by rw [h1 D hD];exact h3⟩
end
def P1:BinOp→Int→Int→Option Value
 | .lss,a,b=>some (.bool (decide (a<b)))
 | .leq,a,b=>some (.bool (decide (a≤b)))
 | .gtr,a,b=>some (.bool (decide (b<a)))
 | .geq,a,b=>some (.bool (decide (b≤a)))
 | .eql,a,b=>some (.bool (decide (a=b)))
 | .neq,a,b=>some (.bool (decide (a≠b)))
 |_,_,_=>none
def P0:BinOp→ByteArray→ByteArray→Option Value
 | .eql,a,b=>some (.bool (decide (a=b)))
 | .neq,a,b=>some (.bool (decide (a≠b)))
 |_,_,_=>none
def P2 (o:BinOp):Value→Value→Option Value
 | .int k a,.int k' b=>match decide (k=k') with
  |true=>P1 o a b
  |false=>none
 | .string a,.string b=>P0 o a b
 |_,_=>none
def vop (s:az):Op→Option Value
 | .move x=>ev s x
 | .assign x=>ev s x
 | .pick c a b=>match ev s c with
  |some (.bool true)=>ev s a
  |some (.bool false)=>ev s b
  |_=>none
 | .unOp .not _ x=>match ev s x with
  |some (.bool b)=>some (.bool (!b))
  |_=>none
 | .binOp o _ x y _=>match ev s x,ev s y with
  |some u,some v=>P2 o u v
  |_,_=>none
 | .extract x i=>match ev s x with
  |some (.tuple vs)=>vs.toList[i]?
  |_=>none
 |_=>none
theorem OM {P:Program} {w0:World} {s:az} {H:List Blk} {op:Op} {ty:TypeId} {v:Value} (h:vop s op=some v):VOp P w0 s H op ty v:=by
 cases op<;>simp only [vop] at h<;>try (cases h;done)
 case move x=>exact OT h
 case assign x=>exact iV h
 case pick c a b=>
  split at h
  ·
   exact JH (by assumption) h
  ·
   exact JI (by assumption) h
  ·
   cases h
 case binOp o t x y t' =>
  split at h
  ·
   rename_i u v' hu hv
   unfold P2 at h
   split at h
   ·
    rename_i k a k' b
    split at h
    ·
     rename_i hk
     have hk:=of_decide_eq_true hk
     subst hk
     cases o<;>simp only [P1] at h<;>first|(cases h;done)|skip
     all_goals (injection h with h;subst h)
     ·
      exact JK hu hv
     ·
      exact P6 hu hv
     ·
      exact P7 hu hv
     ·
      exact P8 hu hv
     ·
      exact Qa hu hv
     ·
      exact Qb hu hv
    ·
     cases h
   ·
    rename_i a b
    cases o<;>simp only [P0] at h<;>first|(cases h;done)|skip
    all_goals (injection h with h;subst h)
    ·
     exact Dn hu hv
    ·
     exact ut hu hv
   ·
    cases h
  ·
   cases h
 case unOp o t x=>
  cases o<;>simp only at h<;>first|(cases h;done)|skip
  split at h
  ·
   injection h with h
   subst h
   exact P5 (by assumption)
  ·
   cases h
 case extract x i=>
  split at h
  ·
   rename_i vs hx
   exact GR (vs:=vs.toList) (by simpa using hx) h
  ·
   cases h
abbrev Gh:=Option Nat × Nat
def upd (γ:Nat→Gh) (k:Nat) (g:Gh):Nat→Gh:=fun i=>if i=k then g else γ i
section
variable {P:Program} {ops:Array Oper} {md:Region.Mode}
def QE (P:Program) (D:World→Prop) (v:Value):Result Next→Prop
 | .ok (.value u) w' =>u=v∧D w'
 | .ok .skip w' =>v=undef∧D w'
 | .ok (.enter f args) w' =>P.inits.idxOf? f=none∧Calls P f args w' fun e w'' =>e= .returned v∧D w''
 |_=>False
def QC (P:Program) (φ:Gh→Value) (D:Gh→World→Prop):Result Next→Prop
 | .ok (.value u) w' => ∃ g,u=φ g∧D g w'
 | .ok .skip w' => ∃ g,undef=φ g∧D g w'
 | .ok (.enter f args) w' =>Calls P f args w' fun e w'' => ∃ g,e= .returned (φ g)∧D g w''
 | .ok (.row row args) w' =>Rows P row args w' fun u w'' => ∃ g,u=φ g∧D g w''
 |_=>False
variable (V:Nat→Option (Gh→Value)) (C:(Nat→Gh)→Array Bool→World→Prop)
inductive GX (P:Program) (md:Region.Mode) (ops:Array Oper) (V:Nat→Option (Gh→Value)) (C:(Nat→Gh)→Array Bool→World→Prop) (γ:Nat→Gh) (i:Nat) (o:Oper) (v:Value) (a:Act):Prop
 |pass (hw:Region.wanted o (yielded ops a.tmps)=false) (hv:v=undef) (hC: ∀ L w,i∈Region.ready md ops L→C γ L w→C γ (L.setIfInBounds i true) w)
 |det (hw:Region.wanted o (yielded ops a.tmps)=true) (hV:V i=none) (hC: ∀ L w,i∈Region.ready md ops L→C γ L w→QE P (C γ (L.setIfInBounds i true)) v ((execOp a.eval o).run P w))
 |non (hw:Region.wanted o (yielded ops a.tmps)=true) (φ:Gh→Value) (hV:V i=some φ) (hv:v=φ (γ i)) (hC: ∀ L w,i∈Region.ready md ops L→C γ L w→QC P φ (fun g=>C (upd γ i g) (L.setIfInBounds i true)) ((execOp a.eval o).run P w))
variable {V C}
def wpX (P:Program) (md:Region.Mode) (ops:Array Oper) (V:Nat→Option (Gh→Value)) (C:(Nat→Gh)→Array Bool→World→Prop) (γ:Nat→Gh) (Q:Act→Prop):List Oper→Nat→Act→Prop
 | [],_,a=>Q a
 |o::r,k,a=> ∃ v,GX P md ops V C γ k o v a∧wpX P md ops V C γ Q r (k+1) (a.put o.dst v)
end
section
variable {P:Program} {n:Fr} {w0:World} {Q:bU} {s:az} {H:List Blk} {l rest:List Oper} {ty:TypeId} {p:String} {af:Array Edge}
def QN (w0:World) (l:List Oper) (HL:kP→(Nat→Gh)→List Blk) (γ:Nat→Gh) (L:Array Bool) (w:World):Prop:=Cls w0 l (fun D=>HL D γ) L w
def WX (P:Program) (n:Fr) (w0:World) (l:List Oper) (V:Nat→Option (Gh→Value)) (HL:kP→(Nat→Gh)→List Blk) (γ:Nat→Gh) (K:az→Prop) (rest:List Oper) (k:Nat) (s:az):Prop:=
 ∀ a,St n s a→(∀ j,rest[j]? =l[k+j]?)→wpX P .any l.toArray V (QN w0 l HL) γ (fun a' => ∃ s',St n s' a' ∧K s') rest k a
variable {V:Nat→Option (Gh→Value)} {HL:kP→(Nat→Gh)→List Blk} {γ:Nat→Gh} {K:az→Prop} {k:Nat}
theorem tL {o:Oper} (hl: ∀ j,(o::rest)[j]? =l[k+j]?):l[k]? =some o∧ ∀ j,rest[j]? =l[k+1+j]? :=
 ⟨by simpa using (hl 0).symm,fun j=>by have:=hl (j+1);simpa [SN,Tb 1 j] using this⟩
def gat (D:kP) (γ:Nat→Gh):Nat→Gh:=fun i=>bif D i then γ i else (none,0)
def gok (l:List Oper) (s:az):Option (Nat × Bool)→Option Bool
 |none=>some true
 |some (j,cE)=>match gd l j with
  |none=>none
  |some d=>match look s d with
   |none=>none
   |some v=>some (jg v==some cE)
theorem iE {o:Oper} {g:Option (Nat × Bool)} {b:Bool} {a:Act} (hg:o.guard=g) (h:gok l s g=some b) (hs:St n s a):Region.wanted o (yielded l.toArray a.tmps)=b:=by
 unfold Region.wanted
 rw [hg]
 cases g with
 |none=>simp only [gok,Option.some.injEq] at h;exact h
 |some x=>
  obtain ⟨j,cE⟩:=x
  simp only [gok] at h
  split at h
  ·
   cases h
  ·
   rename_i d hd
   split at h
   ·
    cases h
   ·
    rename_i v hv
    simp only [Option.some.injEq] at h
    simp only [fX hs hd hv]
    exact h
variable {gu:Option (Nat × Bool)}
end
theorem wH (z:Array Value) (n:Nat) (u:Value) (h:u∈(Builtin.zeroCells z n).toList):u∈z.toList:=by
 rw [Array.mem_toList_iff,Builtin.zeroCells,Array.mem_map] at h
 obtain ⟨i,hi,rfl⟩:=h
 rw [Array.mem_range] at hi
 have hz:0<z.size:=by
  rcases Sf z.size with h|h
  ·
   rw [h] at hi;simp at hi
  ·
   exact h
 have hl:i % z.size<z.size:=Nat.mod_lt _ hz
 rw [getElem!_pos z (i % z.size) hl,Array.mem_toList_iff]
 exact Array.getElem_mem hl
theorem zT {P:Program} {n:Fr} {w0:World} {Q:bU} {s:az} {H:List Blk} {rest:List Oper} {ty:TypeId} {p:String} {af:Array Edge} {t e k n' c cx g sz:Nat} {x:Operand} {xs:List Value} {R:List Blk} {ops:Array Oper} {z:Value} [ht:Und P t (.slice e)] [hz:Zero P e z]
  (hx:ev s x=some (.slice (some ⟨g,k*sz,none⟩) (n' - k) cx)) (hk:k<n') (hsel:Sel (.own (some g) e sz n' c xs) H R) (hz1: ∀ u∈z.cells.toList,u.oneCell' =true) (hzs:z.cells.size=sz)
  (K:WL P n w0 ops rest Q s (.own (some g) e sz k c (xs.take (k*sz))::R)):
  WL P n w0 ops (⟨none,.call { callee:= .builtin .clear,args:= #[x],argTypes:= #[t] },ty,p,af,none⟩::rest) Q s H:=by
 intro a w hs hm
 have hm' :=hm.sel hsel
 obtain ⟨i,i1,i2⟩:=hz.out
 obtain ⟨b1,b2,b3,junk,b4,b5⟩:=(hm'.on _ QT).1
 have hzl:(Builtin.zeroCells z.cells (n' - k)).toList.length=(n' - k)*sz:=by rw [Array.length_toList,size_zeroCells,hzs]
 have hkn:k*sz+(n' - k)*sz=n' *sz:=by rw [← TI];congr 1;omega
 have hst:=run_storeCells_at (P:=P) g (k*sz) e (Builtin.zeroCells z.cells (n' - k)).toList 0 _ w b5 (by simp only [Tj,QP,hzl];omega) (fun u hu=>hz1 u (wH _ _ _ hu))
 simp only [Ta,hzl,hkn] at hst
 have hn0: ¬ n' - k=0:=by omega
 obtain ⟨m,hm2⟩: ∃ m,n' - k=m+1:=⟨n' - k - 1,by omega⟩
 have hrun:(Builtin.clear_ #[t] ty #[.slice (some ⟨g,k*sz,none⟩) (n' - k) cx]).run P w= .ok (.tuple #[]) (w.setRow g ((xs++junk).take (k*sz)++(Builtin.zeroCells z.cells (n' - k)).toList++(xs++junk).drop (n' *sz)).toArray):=by
  rw [hm2] at hst ⊢
  simp [Builtin.clear_,run_underlying ht.out,zeroValue,typeInfo,i1,i2,hst]
 refine wpList_plain rfl fun K' hK=> ?_
 unfold Oper.wp execOp
 simp only [resolve,invoke,builtin,Sem.run_bind,Sem.run_pure,Result.andThen_ok,SS,Rz,Sl,hs.eval x _ hx,hrun,Oper.upon]
 refine hK _ _ (K _ _ (hs.put_none _) (hm'.upd (gK _ _ _) (b' := .own (some g) e sz k c (xs.take (k*sz))) ⟨?_,by omega,b3,(Builtin.zeroCells z.cells (n' - k)).toList++(xs++junk).drop (n' *sz),?_,?_⟩ fun k hk=> .inl hk))
 ·
  rw [Rq,b1];omega
 ·
  have hle:n' *sz≤c*sz:=SE _ b2
  simp only [QP,Rq,Rk,hzl]
  rw [QP] at b4
  omega
 ·
  rw [Tw (by omega)]
  rw [← Rx]
  exact setRow_heap _ _ _ _ _ _ b5
end Go.SL

/-
  Lemmas and walks, put together: Sl22 Sl23 Sl24 Sl25.
-/
import Derived.Scope
import Derived.Test.YthefeclkaaocnaaGreatDoorKl07
set_option linter.unusedSimpArgs false
set_option linter.unusedVariables false
set_option maxRecDepth 20000
namespace Go.SL
open Go Go.RowKit
section
variable {P:Program} {n:Fr} {w0:World} {Q:bI} {K:az→Prop} {s:az} {H H1:List Blk} {l rest:List Oper} {k j f:Nat} {ty:TypeId} {p:String} {af:Array Edge}
theorem kL {t T g off m:Nat} {x a:Operand} {v:Value} {vs xs:List Value} {R:List Blk} [Size P t m] (ha:ev s a=some (.pointer (some ⟨g,off,none⟩))) (hx:ev s x=some v)
  (hsel:Sel (.box g T xs) H R) (hv:v.cells=vs.toArray) (hl:vs.length=m) (h1:vs.all Value.oneCell' =true) (hfit:off+m≤xs.length)
  (hnew:MSub H1 (.box g T (xs.take off++vs++xs.drop (off+m))::R)) (h:WG P n w0 l (fun D=>if D k then H1 else H) K rest (k+1) s):
  WG P n w0 l (fun D=>if D k then H1 else H) K (⟨none,.store t a x,ty,p,af,none⟩::rest) k s:=by
 refine Cc (fun D ht a' w hs hm=> ?_) h
 have e1:D k=false:=ht.not
 have e2:put D k k=true:=by simp [put]
 simp only [e1,MG,if_false] at hm
 simp only [e2,if_true]
 have hm' :=hm.sel hsel
 have hb:=(hm'.on _ LI).1
 simp only [Blk.on] at hb
 have h1' : ∀ u∈vs,u.oneCell' =true:=by simpa using h1
 have hr:=fP (P:=P) (t:=t) (off:=off) hv hl h1' hb (by simpa using hfit)
 simp only at hr
 refine ⟨_,?_,hnew.use (hm'.upd (eF _ _ _) (b' := .box g T (xs.take off++vs++xs.drop (off+m))) (setRow_heap _ _ _ _ _ _ hb) fun k hk=> .inl hk)⟩
 simp [execOp,hs.eval a _ ha,hs.eval x _ hx,Instr.storeAt,Instr.sureAddr,hr]
theorem pq {t T g off:Nat} {x a:Operand} {v:Value} {xs:List Value} {R:List Blk} [Size P t 1] (ha:ev s a=some (.pointer (some ⟨g,off,none⟩))) (hx:ev s x=some v)
  (hsel:Sel (.box g T xs) H R) (hv:v.oneCell' =true) (hfit:Nat.blt off xs.length=true)
  (hnew:MSub H1 (.box g T (xs.set off v)::R)) (h:WG P n w0 l (fun D=>if D k then H1 else H) K rest (k+1) s):
  WG P n w0 l (fun D=>if D k then H1 else H) K (⟨none,.store t a x,ty,p,af,none⟩::rest) k s:=by
 refine kL (m:=1) ha hx hsel (vs:= [v]) (by cases v<;>first|rfl|cases hv) rfl (by simpa using hv) (by have:=Mt ▸ hfit;omega) ?_ h
 rw [m9 _ _ _ (Mt ▸ hfit)]
 exact hnew
theorem Dg {d:Nat} {f' :FuncId} {xs:List Operand} {vs:List Value} {v:Value} {ts:Array TypeId} [Callable P f'] (hn:Nat.blt d n.sz=true) (hr:iE l f j k=true) (hne:Nat.beq j k=false) (hx:evs s xs=some vs)
  (hF: ∀ w,Mem w0 w H→ay P f' vs w v) (h:WG P n w0 l (fun D=>if D j then H1 else H) K rest (k+1) ((d,v)::s)):
  WG P n w0 l (fun D=>if D j then H1 else H) K (⟨some d,.call { callee:= .value (.func f'),args:=xs.toArray,argTypes:=ts },ty,p,af,none⟩::rest) k s:=by
 refine EZ hn hx (fun D ht w hm=> ?_) (fun D=> ?_) h
 ·
  rw [ht.late hr] at hm
  exact hF w hm
 ·
  have:put D k j=D j:=by
   unfold put
   rw [if_neg]
   intro e
   subst e
   rw [Nat.beq_refl] at hne
   cases hne
  simp only [this]
end
section
variable {P:Program} {n:Fr} {w0:World} {Q:bI} {K:az→Prop} {s:az} {H:List Blk} {l rest:List Oper} {ty:TypeId} {p:String} {af:Array Edge}
theorem Ro.of_box {w:World} {g t:Nat} {xs:List Value} (hm:Mem w0 w H) (hi:In (.box g t xs) H):Ro w g 0 xs:=⟨Blk.key_lt (hm.on _ hi.mem).1 rfl,hm.cells_box hi⟩
theorem Ro.next {w w' :World} {H' :List Blk} {g o:Nat} {xs:List Value} (h:Ro w g o xs) (hm:Mem w w' H'):Ro w' g o xs:=Ro.of_ro hm h
theorem j9 {f:FuncId} {bs:List Operand} {vs:List Value} (hc:evs s bs=some vs):VOp P w0 s H (.makeFunc (.func f) bs.toArray #[]) ty (.func (.func f) vs.toArray #[]):=fun ρ w _ _ _ _ hρ _=>by
 have h: ∀ {xs:List Operand} {vs:List Value},evs s xs=some vs→xs.map ρ=vs:=by
  intro xs
  induction xs with
  |nil=>intro vs h;simp only [evs,Option.some.injEq] at h;simp [← h]
  |cons x r ih=>
   intro vs h
   simp only [evs] at h
   split at h
   ·
    rename_i v us hv hr
    simp only [Option.some.injEq] at h
    subst h
    simp [hρ x v hv,ih hr]
   ·
    cases h
 simp [execOp,Instr.makeFunc,← h hc]
theorem uo {ρ:Operand→Value} {w:World} {d:Option Tmp} {g:Option (Nat × Bool)} {f:FuncId} {c:Operand} {xs:List Operand} {vs bs:List Value} {ts:Array TypeId} [hf:Callable P f] (hc:ρ c= .func (.func f) bs.toArray #[]) (hx:xs.map ρ=vs):
  (execOp ρ ⟨d,.call { callee:= .value c,args:=xs.toArray,argTypes:=ts },ty,p,af,g⟩).run P w= .ok (.enter f (bs++vs).toArray) w:=by
 simp [execOp,resolve,hc,Deferred.ofValue,invoke,← hx,hf.out]
theorem EW {d:Nat} {ops:Array Oper} {f:FuncId} {c:Operand} {xs:List Operand} {vs bs:List Value} {ts:Array TypeId} {R:Value→List Blk→Prop} (hn:Nat.blt d n.sz=true) (hc:ev s c=some (.func (.func f) bs.toArray #[])) (hfc:Callable P f) (hx:evs s xs=some vs)
  (hF:FnIn P f (bs++vs) w0 H R) (k: ∀ v H',R v H' →WL P n w0 ops rest Q ((d,v)::s) H'):
  WL P n w0 ops (⟨some d,.call { callee:= .value c,args:=xs.toArray,argTypes:=ts },ty,p,af,none⟩::rest) Q s H:=by
 intro a w hs hm
 refine wpList_plain rfl fun K hK=> ?_
 have hr:=uo (P:=P) (w:=w) (ρ:=a.eval) (d:=some d) (ty:=ty) (p:=p) (af:=af) (g:=none) (f:=f) (c:=c) (xs:=xs) (bs:=bs) (ts:=ts) (hs.eval c _ hc) (fW hs hx)
 simp only [Oper.wp,hr,Oper.upon]
 refine (hF w hm).mono ?_
 rintro e w' ⟨v,H',rfl,hm',hR⟩
 exact hK _ _ (k v H' hR _ _ (hs.put (Mt ▸ hn) _) hm')
theorem oI {d:Nat} {ops:Array Oper} {f:FuncId} {c:Operand} {xs:List Operand} {vs bs:List Value} {v:Value} {ts:Array TypeId} (hn:Nat.blt d n.sz=true) (hc:ev s c=some (.func (.func f) bs.toArray #[])) (hfc:Callable P f) (hx:evs s xs=some vs)
  (hF: ∀ w,Mem w0 w H→ay P f (bs++vs) w v) (k:WL P n w0 ops rest Q ((d,v)::s) H):
  WL P n w0 ops (⟨some d,.call { callee:= .value c,args:=xs.toArray,argTypes:=ts },ty,p,af,none⟩::rest) Q s H:=
 EW hn hc hfc hx (FnIn.of_at hF) fun u H' ⟨H1,h1,h2⟩=>by
  subst h1
  subst h2
  exact vo ⟨H1,MR⟩ k
theorem zT {x:Operand} {t u e T m c:Nat} {A:Option Nat} {ns:List Int} [hs:Und P t (.slice e)] [he:Und P e (.int .u8)] [hd:Und P u .string] (hx:ev s x=some (sl A m c)) (hi:In (.own A T 1 m c (ns.map (Value.int .u8))) H) (hl:ns.length=m):
  VOp P w0 s H (.convert t u x) ty (.string (mkB ns)):=fun ρ w _ _ _ _ hρ hm=>by
 have h3:ns.foldl (fun r n=>r.push (UInt8.ofNat n.toNat)) ByteArray.empty=mkB ns:=by
  have h4:=uz ns ByteArray.empty
  generalize ns.foldl (fun r n=>r.push (UInt8.ofNat n.toNat)) ByteArray.empty=b at h4 ⊢
  obtain ⟨⟨l⟩⟩:=b
  simp only at h4
  simp [h4,mkB]
 have h2:(Conv.bytesToString (.slice (A.map fun g=>(⟨g,0,none⟩:Addr)) m c)).run P w= .ok (.string (mkB ns)) w:=by
  cases A with
  |none=>
   obtain ⟨_,_,_,h4,_⟩:=(hm.on _ hi.mem).1
   subst h4
   have:ns= []:=M5.1 hl
   subst this
   rfl
  |some g=>
   have hc:=hm.cells_own hi
   have h1:=run_loadCells_list (P:=P) w ⟨g,0,none⟩ (ns.map (Value.int .u8)) (fun j v hv=>by rw [cw];exact hc j v hv)
   rw [MF,hl] at h1
   have h2:=run_bytesToString (P:=P) w ⟨g,0,none⟩ m c ns h1
   rw [h3] at h2
   exact h2
 simp only [execOp,hρ x _ hx,sl,Sem.run_bind,run_convert_bytes_string w t u e _ _ _ hs.out he.out hd.out,h2,Result.andThen_ok,Sem.run_pure]
theorem Kh {ι:Type} {sI:ι→az} {HI:ι→List Blk} {ok:ι→Prop} (h:jp Q):jp (bS sI HI ok Q):=fun c s H hq=>h c s H hq
theorem f9 {K:az→Prop} {d:Nat} {ops:Array Oper} {f:FuncId} {c:Operand} {xs:List Operand} {vs caps:List Value} {v:Value} {ts:Array TypeId} (hn:Nat.blt d n.sz=true) (hc:ev s c=some (.func (.func f) #[] caps.toArray)) (hfc:Callable P f) (hx:evs s xs=some vs)
  (hF: ∀ w,Mem w0 w H→ay P f (vs++caps) w v) (k:WQ P n w0 ops rest K ((d,v)::s) H):
  WQ P n w0 ops (⟨some d,.call { callee:= .value c,args:=xs.toArray,argTypes:=ts },ty,p,af,none⟩::rest) K s H:=by
 intro a hs
 unfold wpQuiet
 simp only [Region.wanted,if_true]
 refine ⟨v,fun w hm=> ?_,k _ (hs.put (Mt ▸ hn) v)⟩
 unfold Oper.quietAt
 have hr:=jJ (P:=P) (w:=w) (ρ:=a.eval) (d:=some d) (ty:=ty) (p:=p) (af:=af) (g:=none) (f:=f) (c:=c) (xs:=xs) (caps:=caps) (ts:=ts) (hs.eval c _ hc) (fW hs hx)
 rw [hr]
 refine ⟨rfl,Calls.mono (hF w hm) ?_⟩
 rintro e w' ⟨u,H',rfl,hm',rfl⟩
 exact ⟨rfl,(hm.call hm').right⟩
theorem MSub.swap {H1 C:List Blk}:MSub (H1++C) (C++H1):=⟨[],by simpa using MR⟩
theorem MSub.swapN {H1 C:List Blk}:MSub (H1++(C++ [])) (C++H1):=⟨[],by simpa using MR⟩
theorem MSub.swapN' {H1 C:List Blk}:MSub (C++H1) (H1++(C++ [])):=⟨[],by simpa using MR⟩
theorem Ci {ι:Type} {sb:az} {id:Nat} {ops:Array Oper} {d:Bool} {y z:Code} (ts:List Nat) (hk:yH s ts=some sb) (sI:ι→az) (ok:ι→Prop) (h:W P n w0 (.seq (.region id ops d) y) (bS (fun i=>sI i++sb) (fun _=>H) ok Q) s H) (k: ∀ i,ok i→W P n w0 z Q (sI i++sb) H):
  W P n w0 (.seq (.region id ops d) y) (thn (W P n w0 z Q) Q) s H:=
 mC _ _ _ h k
theorem oO {x:Operand} {a:ByteArray} {m t:Nat} [ht:Und P t .string] (hx:ev s x=some (.string a)) (h:a.size=m):VOp P w0 s H (.call { callee:= .builtin .len,args:= #[x],argTypes:= #[t] }) ty (.int .i64 (m:Int)):=h ▸ Fe hx
def scp (Q:bI):bI
 | .goto _,_,_=>False
 |e,s,H=>Q e s H
theorem HF {c:Code} (h:W P n w0 c (scp Q) s H):W P n w0 (.scope c) Q s H:=by
 intro a w hs hm
 refine wp_scope_straight (wp_mono (h a w hs hm) ?_)
 rintro e a' w' ⟨s',H',h1,h2,h3⟩
 cases e with
 |goto l=>exact h3.elim
 |_=>exact ⟨s',H',h1,h2,h3⟩
theorem HG {i:Nat} (h:Q .normal s H):W P n w0 (.label i) Q s H:=fun _ _ hs hm=>wp_label ⟨s,H,hs,hm,h⟩
theorem KZ (h:Q .ret s H):scp Q .ret s H:=h
end
section
variable {P:Program} {n:Fr} {w0:World} {Q:bI} {s:az} {H:List Blk} {l rest:List Oper} {ty:TypeId} {p:String} {af:Array Edge}
theorem Dd {d:Nat} {ops:Array Oper} {f:FuncId} {c:Operand} {xs:List Operand} {vs bs:List Value} {ts:Array TypeId} {R D:Value→List Blk→Prop} (hn:Nat.blt d n.sz=true) (hc:ev s c=some (.func (.func f) bs.toArray #[])) (hfc:Callable P f) (hx:evs s xs=some vs)
  (hF:FnP P f (bs++vs) w0 H R D) (k: ∀ v H',R v H' →WL P n w0 ops rest Q ((d,v)::s) H') (kd: ∀ v H',D v H' →Q (.panic (ij v)) s H'):
  WL P n w0 ops (⟨some d,.call { callee:= .value c,args:=xs.toArray,argTypes:=ts },ty,p,af,none⟩::rest) Q s H:=by
 intro a w hs hm
 refine wpList_plain rfl fun K hK=> ?_
 have hr:=uo (P:=P) (w:=w) (ρ:=a.eval) (d:=some d) (ty:=ty) (p:=p) (af:=af) (g:=none) (f:=f) (c:=c) (xs:=xs) (bs:=bs) (ts:=ts) (hs.eval c _ hc) (fW hs hx)
 simp only [Oper.wp,hr,Oper.upon]
 refine (hF w hm).mono ?_
 rintro e w' (⟨v,H',rfl,hm',hR⟩|⟨v,H',rfl,hm',hD⟩)
 ·
  exact hK _ _ (k v H' hR _ _ (hs.put (Mt ▸ hn) _) hm')
 ·
  exact ⟨s,H',hs,hm',kd v H' hD⟩
theorem DD {ρ:Operand→Value} {w:World} {d:Option Tmp} {g:Option (Nat × Bool)} {f:FuncId} {c:Operand} {xs:List Operand} {vs bs caps:List Value} {ts:Array TypeId} (hf:Callable P f) (hc:ρ c= .func (.func f) bs.toArray caps.toArray) (hx:xs.map ρ=vs):
  (execOp ρ ⟨d,.call { callee:= .value c,args:=xs.toArray,argTypes:=ts },ty,p,af,g⟩).run P w= .ok (.enter f (bs++(vs++caps)).toArray) w:=by
 simp [execOp,resolve,hc,Deferred.ofValue,invoke,← hx,hf.out]
theorem tV {d:Nat} {ops:Array Oper} {f:FuncId} {c:Operand} {xs:List Operand} {vs bs caps:List Value} {ts:Array TypeId} {R D:Value→List Blk→Prop} (hn:Nat.blt d n.sz=true) (hc:ev s c=some (.func (.func f) bs.toArray caps.toArray)) (hfc:Callable P f) (hx:evs s xs=some vs)
  (hF:FnP P f (bs++(vs++caps)) w0 H R D) (k: ∀ v H',R v H' →WL P n w0 ops rest Q ((d,v)::s) H') (kd: ∀ v H',D v H' →Q (.panic (ij v)) s H'):
  WL P n w0 ops (⟨some d,.call { callee:= .value c,args:=xs.toArray,argTypes:=ts },ty,p,af,none⟩::rest) Q s H:=by
 intro a w hs hm
 refine wpList_plain rfl fun K hK=> ?_
 have hr:=DD (P:=P) (w:=w) (ρ:=a.eval) (d:=some d) (ty:=ty) (p:=p) (af:=af) (g:=none) (f:=f) (c:=c) (xs:=xs) (bs:=bs) (caps:=caps) (ts:=ts) hfc (hs.eval c _ hc) (fW hs hx)
 simp only [Oper.wp,hr,Oper.upon]
 refine (hF w hm).mono ?_
 rintro e w' (⟨v,H',rfl,hm',hR⟩|⟨v,H',rfl,hm',hD⟩)
 ·
  exact hK _ _ (k v H' hR _ _ (hs.put (Mt ▸ hn) _) hm')
 ·
  exact ⟨s,H',hs,hm',kd v H' hD⟩
class FldT (P:Program) (t f:Nat) (ft:outParam TypeId) (o:outParam Nat):Prop where
 out: ∃ fs fl,P.underlying t=some (.struct fs)∧fs[f]? =some fl∧fl.offset=o∧fl.type=ft
theorem cJ {x:Operand} {t f o:Nat} {ft:TypeId} {cs:List Value} {v:Value} [hf:FldT P t f ft o] [ho:One P ft] (hx:ev s x=some (.agg cs.toArray)) (hi:cs[o]? =some v):
  VOp P w0 s H (.field t x f) ty v:=fun ρ w _ _ _ _ hρ _=>by
 obtain ⟨fs,fl,h1,h2,rfl,rfl⟩:=hf.out
 obtain ⟨d,h5,h6⟩:=ho.out
 have hp:(part fl.type cs.toArray fl.offset).run P w= .ok v w:=by
  cases d<;>simp_all [part,isAgg,run_underlying h5]
 simp [execOp,hρ x _ hx,Instr.field,run_underlying h1,h2,asAgg,hp]
end
section
variable {P:Program} {n:Fr} {w0:World} {Q:bI} {s:az} {H:List Blk} {l rest:List Oper} {ty:TypeId} {p:String} {af:Array Edge} {Φ:Exit→Act→World→Prop}
def RW (P:Program) (n:Fr) (w0:World) (c:Code) (Φ:Exit→Act→World→Prop) (s:az) (H:List Blk):Prop:= ∀ a w,St n s a→Mem w0 w H→c.wp P Φ a w
theorem Fw {x y:Code} {Q0:bI} (hQ: ∀ e a w,e≠ .normal→post n w0 Q0 e a w→Φ e a w) (h:W P n w0 x (thn (RW P n w0 y Φ) Q0) s H):RW P n w0 (.seq x y) Φ s H:=by
 intro a w hs hm
 refine wp_seq (wp_mono (h a w hs hm) ?_)
 rintro e a' w' ⟨s',H',h1,h2,h3⟩
 cases e with
 |normal=>exact h3 a' w' h1 h2
 |_=>exact hQ _ _ _ (fun h=>by cases h) ⟨s',H',h1,h2,h3⟩
theorem J3 {c:Code} {Q0:bI} (hQ: ∀ e a w,post n w0 Q0 e a w→Φ e a w) (h:W P n w0 c Q0 s H):RW P n w0 c Φ s H:=
 fun a w hs hm=>wp_mono (h a w hs hm) hQ
def dfr (f:FuncId) (caps:List Value):Deferred:=⟨.fn (.func f) caps.toArray,#[]⟩
theorem Fx {m d:Nat} {id:Nat} {z:Code} {f:FuncId} {cs:List Operand} {caps:List Value} {ds:List Deferred} {t1 t2:TypeId} {p1 p2:String} {af1 af2:Array Edge} (hc:evs s cs=some caps) (hn:Nat.blt d m=true)
  (h:RW P ⟨m,dfr f caps::ds⟩ w0 z Φ ((d,.func (.func f) #[] caps.toArray)::s) H):
  RW P ⟨m,ds⟩ w0 (.seq (.region id #[⟨some d,.makeFunc (.func f) #[] cs.toArray,t1,p1,af1,none⟩,⟨none,.defer { callee:= .value (.tmp d),args:= #[],argTypes:= #[] },t2,p2,af2,none⟩] false) z) Φ s H:=by
 intro a w hs hm
 refine wp_seq (wp_region_lit (l:= [⟨some d,.makeFunc (.func f) #[] cs.toArray,t1,p1,af1,none⟩,⟨none,.defer { callee:= .value (.tmp d),args:= #[],argTypes:= #[] },t2,p2,af2,none⟩]) ?_)
 have hs2:St ⟨m,ds⟩ ((d,.func (.func f) #[] caps.toArray)::s) (a.put (some d) (.func (.func f) #[] caps.toArray)):=hs.put (by exact Mt ▸ hn) _
 refine wpList_plain rfl fun K hK=> ?_
 have hv:=qL (P:=P) (w0:=w0) (H:=H) (ty:=t1) (f:=f) hc a.eval w (some d) p1 af1 none hs.eval hm
 simp only [Oper.wp,hv,Oper.upon]
 refine hK _ _ ?_
 refine wpList_plain rfl fun K hK=> ?_
 have he:(a.put (some d) (.func (.func f) #[] caps.toArray)).eval (.tmp d)= .func (.func f) #[] caps.toArray:=hs2.eval _ _ (by simp [ev,look])
 simp only [Oper.wp,execOp,resolve,he,Deferred.ofValue,Oper.upon]
 simp only [Array.map_empty,Array.append_empty,Array.empty_append,Sem.run_pure,Sem.run_bind,Result.andThen_ok,bind_pure_comp,map_pure]
 refine hK _ _ ?_
 exact h _ w ⟨hs2.size,by simp [Act.put,dfr,hs.defers],hs2.has⟩ hm
def I0 (P:Program) (fn:Func) (w0:World) (R:Value→List Blk→Prop):Exit→Act→World→Prop:=bodyPostD P fn fun e w' => ∃ v H',e= .returned v∧Mem w0 w' H' ∧R v H'
theorem IV {m:Nat} {f:FuncId} {fn:Func} {c:Code} {args:List Value} {R:Value→List Blk→Prop} (hf:P.funcs[f]? =some fn) (hb:fn.body=some c) (hn:fn.ntmps=m) (hle:Nat.ble args.length m=true)
  (h:RW P ⟨m,[]⟩ w0 c (I0 P fn w0 R) (oV args 0) H):FnIn P f args w0 H R:=by
 intro w hm
 have hle' :args.length≤m:=by simpa using hle
 refine calls_of_wp_defers hf hb (h { tmps:=args.toArray++Array.replicate (fn.ntmps - args.toArray.size) undef,defers:= [] } w ⟨?_,rfl,?_⟩ hm)
 ·
  simp [hn];omega
 ·
  intro t v ht
  rw [jT] at ht
  simp only [LS,if_true,Np] at ht
  have hlt:t<args.length:=(LV.1 ht).1
  rw [MS (by simpa using hlt)]
  simpa using ht
theorem IW {m:Nat} {f:FuncId} {fn:Func} {c:Code} {args:List Value} {w:World} {R:Value→List Blk→Prop} (hf:P.funcs[f]? =some fn) (hb:fn.body=some c) (hn:fn.ntmps=m) (hle:Nat.ble args.length m=true)
  (h:RW P ⟨m,[]⟩ w c (I0 P fn w R) (oV args 0) []):aS P f args w R:=IV hf hb hn hle h w (Mem.refl w)
theorem GH {m:Nat} {fn:Func} {R:Value→List Blk→Prop} {e:Exit} {a:Act} {w:World} (h:post ⟨m,[]⟩ w0 (bq P fn ⟨m,[]⟩ w0 R) e a w):I0 P fn w0 R e a w:=by
 obtain ⟨s,H,hs,hm,he,v,H',hsub,hr,hR⟩:=h
 have hl:Leaves P fn a.tmps (fun e w' => ∃ v H',e= .returned v∧Mem w0 w' H' ∧R v H') a.defers .returning w:=by
  rw [hs.defers]
  exact ⟨v,hr a w hs hm,v,H',rfl,hsub.use hm,hR⟩
 rcases he with rfl|rfl<;>exact hl
def FnD (P:Program) (f:FuncId) (caps:List Value) (u:FrameMode) (w0:World) (H H' :List Blk):Prop:=
 ∀ w,Mem w0 w H→CallsD P f caps.toArray u w fun e u' w' =>(∃ v,e= .returned v)∧settle u' = .returning∧Mem w0 w' H'
def Bc:Exit→Option FrameMode
 | .normal=>some .returning
 | .ret=>some .returning
 | .panic c=>some (.panicking c)
 |_=>none
def LA (P:Program) (fn:Func) (n:Fr) (w0:World) (f:FuncId) (caps:List Value) (R:Value→List Blk→Prop):bI:=fun e s H=>
 ∃ u Hb H',Bc e=some u∧MSub Hb H∧FnD P f caps u w0 Hb H' ∧bq P fn n w0 R .ret s H'
theorem Ko {m:Nat} {fn:Func} {f:FuncId} [hc:Callable P f] {caps:List Value} {R:Value→List Blk→Prop} {e:Exit} {a:Act} {w:World} (h:post ⟨m,[dfr f caps]⟩ w0 (LA P fn ⟨m,[dfr f caps]⟩ w0 f caps R) e a w):I0 P fn w0 R e a w:=by
 obtain ⟨s,H,hs,hm,u,Hb,H',he,hsub,hD,_,v,H2,h2,hr,hR⟩:=h
 have hu:u≠ .run:=by rintro rfl;cases e<;>simp [Bc] at he
 have hl:Leaves P fn a.tmps (fun e w' => ∃ v H',e= .returned v∧Mem w0 w' H' ∧R v H') a.defers u w:=by
  rw [hs.defers]
  refine leaves_cons hu (f:=f) (args:=caps.toArray) (by simp [invoke,hc.out]) ((hD w (hsub.use hm)).mono ?_)
  rintro e u' w' ⟨⟨v',rfl⟩,hset,hm'⟩
  show Leaves P fn a.tmps _ [] (settle u') w'
  rw [hset]
  exact ⟨v,hr a w' hs hm',v,H2,rfl,h2.use hm',hR⟩
 cases e<;>simp only [Bc,Option.some.injEq,reduceCtorEq] at he<;>subst he<;>exact hl
def Lw (H' :List Blk):bI:=fun e _ H=>(e= .ret∨e= .normal)∧MSub H' H
theorem La {m d:Nat} {f:FuncId} {fn:Func} {id:Nat} {z:Code} {caps:List Value} {u:FrameMode} {v:Value} {H' :List Blk} (hf:P.funcs[f]? =some fn)
  (hb:fn.body=some (.seq (.region id #[⟨some d,.call { callee:= .builtin .recover,args:= #[],argTypes:= #[] },ty,p,af,none⟩] false) z)) (hres:fn.results= #[]) (hn:fn.ntmps=m) (hle:Nat.ble caps.length m=true) (hd:Nat.blt d m=true)
  (hu:(u= .returning∧v= .nilIface)∨u= .panicking (ij v))
  (h:W P ⟨m,[]⟩ w0 z (Lw H') ((d,v)::oV caps 0) H):FnD P f caps u w0 H H' :=by
 intro w hm
 have hle' :caps.length≤m:=by simpa using hle
 refine callsD_of_wpS hf hb fun c₀ cs hc=> ?_
 have hst:St ⟨m,[]⟩ (oV caps 0) { tmps:=caps.toArray++Array.replicate (fn.ntmps - caps.toArray.size) undef,defers:= [] }:=by
  refine ⟨?_,rfl,?_⟩
  ·
   simp [hn];omega
  ·
   intro t v ht
   rw [jT] at ht
   simp only [LS,if_true,Np] at ht
   have hlt:t<caps.length:=(LV.1 ht).1
   rw [MS (by simpa using hlt)]
   simpa using ht
 refine wpS_seq (wpS_region ?_)
 have hgo: ∀ cs',(∃ u',cs' ={ c₀ with mode:=u' }::cs∧settle u' = .returning)→Exit.thenS (z.wpS P (bodyPostS P fn c₀ cs fun e u' w' =>(∃ v,e= .returned v)∧settle u' = .returning∧Mem w0 w' H')) (bodyPostS P fn c₀ cs fun e u' w' =>(∃ v,e= .returned v)∧settle u' = .returning∧Mem w0 w' H') .normal ({ tmps:=caps.toArray++Array.replicate (fn.ntmps - caps.toArray.size) undef,defers:= []:Act }.put (some d) v) cs' w:=by
  rintro cs' ⟨u',rfl,hset⟩
  refine wpS_of_wp (wp_mono (h _ w (hst.put (Mt ▸ hd) v) hm) ?_)
  rintro e a' w' ⟨s',H2,hs2,hm2,he,hsub⟩
  have:a'.defers= []∧ ∃ u2,({ c₀ with mode:=u' }::cs:List Frame)={ c₀ with mode:=u2 }::cs∧ ∃ v,(results fn a'.tmps).run P w' = .ok v w' ∧((∃ v2,Ending.returned v= .returned v2)∧settle u2= .returning∧Mem w0 w' H'):=
   ⟨hs2.defers,u',rfl,.tuple #[],by simp [results,hres],⟨_,rfl⟩,hset,hsub.use hm2⟩
  rcases he with rfl|rfl<;>exact this
 have hrun: ∀ ρ:Operand→Value,(execOp ρ ⟨some d,.call { callee:= .builtin .recover,args:= #[],argTypes:= #[] },ty,p,af,none⟩).run P w= .ok .recover w:=fun ρ=>by
  simp [execOp,resolve,invoke,builtin]
 rcases hu with ⟨rfl,rfl⟩|rfl
 ·
  have:recoverD (c₀::cs)=none:=by simp [recoverD,hc]
  simp only [NN,LH,List.range_succ,List.range_zero,LG,wpOpsS,Mr,Oi,Region.wanted,if_true,hrun,this]
  exact hgo _ ⟨.returning,by rw [← hc],rfl⟩
 ·
  have:recoverD (c₀::cs)=some (v,{ c₀ with mode:= .panicking [{ v,recovered:=true }] }::cs):=by simp [recoverD,hc,ij]
  simp only [NN,LH,List.range_succ,List.range_zero,LG,wpOpsS,Mr,Oi,Region.wanted,if_true,hrun,this]
  exact hgo _ ⟨_,rfl,rfl⟩
theorem vE {x:Operand} {t T:TypeId} {v:Value} {d:TypeDesc} [hd:Und P T d] (hni:(match d with| .interface _=>false|_=>true)=true) (hx:ev s x=some (.iface T v)):VOp P w0 s H (.typeAssert x t T true) ty (.tuple #[v,.bool true]):=fun ρ w _ _ _ _ hρ _=>by
 cases d<;>simp_all [execOp,hρ x _ hx,Instr.typeAssert,run_underlying hd.out]
theorem Iq {t:TypeId} {ms:Array (String × TypeId)} (hd:P.underlying t=some (.interface ms)) (m:Nat) (w:World):(Op.equalIn (m+1) t .nilIface .nilIface).run P w= .ok true w:=by
 simp [Op.equalIn,run_underlying hd]
theorem Ip {t T:TypeId} {v:Value} {ms:Array (String × TypeId)} (hd:P.underlying t=some (.interface ms)) (m:Nat) (w:World):(Op.equalIn (m+1) t (.iface T v) .nilIface).run P w= .ok false w:=by
 simp [Op.equalIn,run_underlying hd]
theorem HQ {x:Operand} {t t' :TypeId} {ms:Array (String × TypeId)} [hd:Und P t (.interface ms)] (hx:ev s x=some .nilIface):VOp P w0 s H (.binOp .eql t x (.const .nilIface) t') ty (.bool true):=fun ρ w _ _ _ _ hρ _=>by
 have h2:=hρ (.const .nilIface) .nilIface rfl
 have h3:(Op.equalIn Op.maxDepth t .nilIface .nilIface).run P w= .ok true w:=Iq hd.out 9999 w
 simp [execOp,hρ x _ hx,h2,eqGuard,binOp,Op.equal,h3]
theorem HP {x:Operand} {t t' T:TypeId} {v:Value} {ms:Array (String × TypeId)} [hd:Und P t (.interface ms)] (hx:ev s x=some (.iface T v)):VOp P w0 s H (.binOp .eql t x (.const .nilIface) t') ty (.bool false):=fun ρ w _ _ _ _ hρ _=>by
 have h2:=hρ (.const .nilIface) .nilIface rfl
 have h3:(Op.equalIn Op.maxDepth t (.iface T v) .nilIface).run P w= .ok false w:=Ip hd.out 9999 w
 simp [execOp,hρ x _ hx,h2,eqGuard,binOp,Op.equal,h3]
theorem nu {fn:Func} {R:Value→List Blk→Prop} {e:Exit} {t u q T U Y T' U' Y' g h k:Nat} {v v' v'' :Value} (he:e= .ret∨e= .normal) (hr:fn.results= #[.cell t T,.cell u U,.cell q Y]) [One P T] [One P U] [One P Y] (ht:look s t=some (.pointer (some ⟨g,0,none⟩))) (hi:In (.box g T' [v]) H)
  (hu:look s u=some (.pointer (some ⟨h,0,none⟩))) (hi' :In (.box h U' [v']) H) (hq:look s q=some (.pointer (some ⟨k,0,none⟩))) (hi'' :In (.box k Y' [v'']) H) {H' :List Blk} (hs:MSub H' H) (hR:R (.tuple #[v,v',v'']) H'):bq P fn n w0 R e s H:=
 ⟨he,_,H',hs,fun a w hst hm=>by
  have h1:=oT (P:=P) (T:=T) hst hm ht hi
  have h2:=oT (P:=P) (T:=U) hst hm hu hi'
  have h3:=oT (P:=P) (T:=Y) hst hm hq hi''
  simp only [results,hr]
  simp only [Nz,Mc,Ml,Sem.run_bind,Sem.run_map] at h1 h2 h3 ⊢
  simp only [h1,h2,h3,Result.andThen_ok,Sem.run_pure]
  rfl,hR⟩
theorem FnP.own {f:FuncId} {args:List Value} {R D:Value→List Blk→Prop} {A:Option Nat} {T sz m cap:Nat} {xs:List Value} (hi:In (.own A T sz m cap xs) H) (h:m≤cap→FnP P f args w0 H R D):FnP P f args w0 H R D:=fun w hm=>h ((hm.on _ hi.mem).1.2.1) w hm
theorem um {c:Code} (e sz:Nat) (k:RW P n w0 c Φ s (.own none e sz 0 0 []::H)):RW P n w0 c Φ s H:=fun a w hs hm=>
 k a w hs (hm.new (b:= .own none e sz 0 0 []) ⟨rfl,rfl,rfl,LK _,fun _ _ _=>rfl⟩ ⟨by simp,LK _,LS _,rfl,rfl⟩ (fun k hk=>by cases hk))
theorem eR {fn:Func} {R:Value→List Blk→Prop} {e:Exit} {t u q T T' g m:Nat} {xs:List Value} {v v' :Value} (he:e= .ret∨e= .normal) (hr:fn.results= #[.cell t T,.tmp u,.tmp q]) [Agg P T m] (ht:look s t=some (.pointer (some ⟨g,0,none⟩))) (hi:In (.box g T' xs) H) (hl:Nat.beq xs.length m=true) (hu:look s u=some v) (hq:look s q=some v') {H' :List Blk} (hs:MSub H' H) (hR:R (.tuple #[.agg xs.toArray,v,v']) H'):bq P fn n w0 R e s H:=
 ⟨he,_,H',hs,fun a w hst hm=>by
  have h1:=jO (P:=P) (T:=T) hst hm ht hi hl
  have h2:a.tmps.getD u undef=v:=by simp [L8,hst.has u _ hu]
  have h3:a.tmps.getD q undef=v' :=by simp [L8,hst.has q _ hq]
  simp only [results,hr]
  simp only [Nz,Mc,Ml,Sem.run_bind,Sem.run_map] at h1 ⊢
  simp only [h1,Result.andThen_ok,Sem.run_pure,h2,h3]
  rfl,hR⟩
structure BoxT where
 j:Nat
 g:Nat
 T:Nat
 v:Value
 u:Value
def BoxT.at (D:fE) (b:BoxT):Blk:= .box b.g b.T [if D b.j then b.u else b.v]
def BoxT.pre (b:BoxT):Blk:= .box b.g b.T [b.v]
def BoxT.post (b:BoxT):Blk:= .box b.g b.T [b.u]
theorem w7 {id:Nat} (bs:List BoxT) (R:List Blk) (hm:P.follows .mixedOrders=true) (hB:Region.lexB .any l.toArray=true) (hj:(bs.all fun b=>Nat.blt b.j l.length)=true) (hsub:MSub (bs.map BoxT.pre++R) H)
  (h:WG P n w0 l (fun D=>bs.map (BoxT.at D)++R) (fun s' =>Q .normal s' (bs.map BoxT.post++R)) l 0 s):W P n w0 (.region id l.toArray true) Q s H:=by
 refine qe (fun D=>bs.map (BoxT.at D)++R) hm hB ?_ fun a hs hl=> ?_
 ·
  have:bs.map (BoxT.at fun _=>false)=bs.map BoxT.pre:=Na fun b _=>by simp [BoxT.at,BoxT.pre]
  rw [this];exact hsub
 have mono: ∀ (r:List Oper) (k:Nat) (a:Act) (K K' :Act→Prop),(∀ a,K a→K' a)→wpG P .any l.toArray (Cls w0 l fun D=>bs.map (BoxT.at D)++R) K r k a→wpG P .any l.toArray (Cls w0 l fun D=>bs.map (BoxT.at D)++R) K' r k a:=by
  intro r
  induction r with
  |nil=>intro k a K K' hk h;exact hk _ h
  |cons o r ih=>
   rintro k a K K' hk ⟨v,h1,h2⟩
   exact ⟨v,h1,ih _ _ K K' hk h2⟩
 refine mono _ _ _ _ _ ?_ (h a hs hl)
 rintro a' ⟨s',h2,h3⟩
 refine ⟨s',h2,fun D hD=> ?_⟩
 have:bs.map (BoxT.at D)=bs.map BoxT.post:=Na fun b hb=>by
  have:=MJ.1 hj b hb
  simp [BoxT.at,BoxT.post,hD b.j (by simpa using this)]
 rw [this];exact h3
variable {K:az→Prop} {k:Nat}
theorem lH {t:TypeId} {x a:Operand} [Size P t 1] {bs:List BoxT} {R:List Blk} (pre suf:List BoxT) (b:BoxT) (hbs:bs=pre++b::suf) (hk:b.j=k) (hno:((pre++suf).all fun b=> !(b.j==k))=true)
  (ha:ev s a=some (.pointer (some ⟨b.g,0,none⟩))) (hx:ev s x=some b.u) (h1:b.u.oneCell' =true) (h:WG P n w0 l (fun D=>bs.map (BoxT.at D)++R) K rest (k+1) s):
  WG P n w0 l (fun D=>bs.map (BoxT.at D)++R) K (⟨none,.store t a x,ty,p,af,none⟩::rest) k s:=by
 subst hbs hk
 have hsame: ∀ D (c:BoxT),c∈pre++suf→BoxT.at (put D b.j) c=BoxT.at D c:=fun D c hc=>by
  have:=MJ.1 hno c hc
  have hne:c.j≠b.j:=by simpa using this
  simp [BoxT.at,put,hne]
 refine zP (T:=b.T) (fun D=> [if D b.j then b.u else b.v]) (fun D=>pre.map (BoxT.at D)++(suf.map (BoxT.at D)++R)) ha hx (fun D=> ?_) (vs:= [b.u]) (by cases hu:b.u<;>first|rfl|(rw [hu] at h1;cases h1)) rfl (by simpa using h1) (fun _=>LK _) (fun D ht=> ?_) h
 ·
  simp only [MT,Mh,Mk,LD]
  have: ∀ (L M:List Blk) (c:Blk),Sel c (L++c::M) (L++M):=fun L M c=>by
   induction L with
   |nil=>exact .hd
   |cons y L ih=>exact .tl ih
  exact this _ _ _
 ·
  refine ⟨[],?_⟩
  simp only [MT,Mh,Mk,LD,LN,M0,LG,LH,LZ,NG,MP]
  have e1:pre.map (BoxT.at (put D b.j))=pre.map (BoxT.at D):=Na fun c hc=>hsame D c (NB _ hc)
  have e2:suf.map (BoxT.at (put D b.j))=suf.map (BoxT.at D):=Na fun c hc=>hsame D c (NQ _ hc)
  have e3:BoxT.at (put D b.j) b= .box b.g b.T [b.u]:=by simp [BoxT.at,put]
  rw [e1,e2,e3]
  exact (List.perm_middle.symm)
theorem Cd {t:TypeId} {d:Nat} {x:Operand} [One P t] {bs:List BoxT} {R:List Blk} (b:BoxT) (hb:b∈bs) {f j:Nat} (hj:b.j=j) (hr:iE l f j k=true) (hno:(bs.all fun b=> !(b.j==k))=true) (hn:Nat.blt d n.sz=true)
  (ha:ev s x=some (.pointer (some ⟨b.g,0,none⟩))) (h:WG P n w0 l (fun D=>bs.map (BoxT.at D)++R) K rest (k+1) ((d,b.v)::s)):
  WG P n w0 l (fun D=>bs.map (BoxT.at D)++R) K (⟨some d,.load t x,ty,p,af,none⟩::rest) k s:=by
 refine Df hn (fun D ht=> ?_) (fun D=> ?_) h
 ·
  have e:=ht.late (hj ▸ hr)
  have hi:In (.box b.g b.T [b.v]) (bs.map (BoxT.at D)++R):=by
   have:BoxT.at D b= .box b.g b.T [b.v]:=by simp [BoxT.at,e]
   rw [← this]
   have hmem: ∀ (L:List BoxT),b∈L→In (BoxT.at D b) (L.map (BoxT.at D)++R):=fun L h=>by
    induction L with
    |nil=>cases h
    |cons c L ih=>
     rcases L7.1 h with rfl|h
     ·
      exact .hd
     ·
      exact .tl (ih h)
   exact hmem bs hb
  exact di ha hi rfl
 ·
  have:bs.map (BoxT.at (put D k))=bs.map (BoxT.at D):=Na fun c hc=>by
   have:=MJ.1 hno c hc
   have hne:c.j≠k:=by simpa using this
   simp [BoxT.at,put,hne]
  simp only [this]
theorem HE {op:Op} {d:Nat} {v:Value} {bs:List BoxT} {R:List Blk} (hno:(bs.all fun b=> !(b.j==k))=true) (hn:Nat.blt d n.sz=true) (hv:VOp P w0 s R op ty v) (h:WG P n w0 l (fun D=>bs.map (BoxT.at D)++R) K rest (k+1) ((d,v)::s)):
  WG P n w0 l (fun D=>bs.map (BoxT.at D)++R) K (⟨some d,op,ty,p,af,none⟩::rest) k s:=by
 refine Df hn (fun D ht=> ?_) (fun D=> ?_) h
 ·
  intro ρ w d p af g hρ hm
  exact hv ρ w d p af g hρ (MSub.use ⟨bs.map (BoxT.at D),MR⟩ hm)
 ·
  have:bs.map (BoxT.at (put D k))=bs.map (BoxT.at D):=Na fun c hc=>by
   have:=MJ.1 hno c hc
   have hne:c.j≠k:=by simpa using this
   simp [BoxT.at,put,hne]
  simp only [this]
end
end Go.SL

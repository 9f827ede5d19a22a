/-
  Lemmas and walks, put together: Sl25 Sl26 Sl27 Sl28.
-/
import Derived.OrdersIn
import Derived.Test.YthefeclkaaocnaaGreatDoorKj06
set_option linter.unusedSimpArgs false
set_option linter.unusedVariables false
set_option maxRecDepth 20000
namespace Go.SL
open Go Go.RowKit
section
variable {P:Program} {n:Fr} {w0:World} {Q:bO} {s:az} {H:List Blk} {l rest:List Oper} {ty:TypeId} {p:String} {af:Array Edge} {Φ:Exit→Act→World→Prop}
def RW (P:Program) (n:Fr) (w0:World) (c:Code) (Φ:Exit→Act→World→Prop) (s:az) (H:List Blk):Prop:= ∀ a w,St n s a→Mem w0 w H→c.wp P Φ a w
theorem HO {x y:Code} {Q0:bO} (hQ: ∀ e a w,e≠ .normal→post n w0 Q0 e a w→Φ e a w) (h:W P n w0 x (thn (RW P n w0 y Φ) Q0) s H):RW P n w0 (.seq x y) Φ s H:=by
 intro a w hs hm
 refine wp_seq (wp_mono (h a w hs hm) ?_)
 rintro e a' w' ⟨s',H',h1,h2,h3⟩
 cases e with
 |normal=>exact h3 a' w' h1 h2
 |_=>exact hQ _ _ _ (fun h=>by cases h) ⟨s',H',h1,h2,h3⟩
theorem L8 {c:Code} {Q0:bO} (hQ: ∀ e a w,post n w0 Q0 e a w→Φ e a w) (h:W P n w0 c Q0 s H):RW P n w0 c Φ s H:=
 fun a w hs hm=>wp_mono (h a w hs hm) hQ
def dfr (f:FuncId) (caps:List Value):Deferred:=⟨.fn (.func f) caps.toArray,#[]⟩
theorem HP {m d:Nat} {id:Nat} {z:Code} {f:FuncId} {cs:List Operand} {caps:List Value} {ds:List Deferred} {t1 t2:TypeId} {p1 p2:String} {af1 af2:Array Edge} (hc:evs s cs=some caps) (hn:Nat.blt d m=true)
  (h:RW P ⟨m,dfr f caps::ds⟩ w0 z Φ ((d,.func (.func f) #[] caps.toArray)::s) H):
  RW P ⟨m,ds⟩ w0 (.seq (.region id #[⟨some d,.makeFunc (.func f) #[] cs.toArray,t1,p1,af1,none⟩,⟨none,.defer { callee:= .value (.tmp d),args:= #[],argTypes:= #[] },t2,p2,af2,none⟩] false) z) Φ s H:=by
 intro a w hs hm
 refine wp_seq (wp_region_lit (l:= [⟨some d,.makeFunc (.func f) #[] cs.toArray,t1,p1,af1,none⟩,⟨none,.defer { callee:= .value (.tmp d),args:= #[],argTypes:= #[] },t2,p2,af2,none⟩]) ?_)
 have hs2:St ⟨m,ds⟩ ((d,.func (.func f) #[] caps.toArray)::s) (a.put (some d) (.func (.func f) #[] caps.toArray)):=hs.put (by exact OH ▸ hn) _
 refine wpList_plain rfl fun K hK=> ?_
 have hv:=tF (P:=P) (w0:=w0) (H:=H) (ty:=t1) (f:=f) hc a.eval w (some d) p1 af1 none hs.eval hm
 simp only [Oper.wp,hv,Oper.upon]
 refine hK _ _ ?_
 refine wpList_plain rfl fun K hK=> ?_
 have he:(a.put (some d) (.func (.func f) #[] caps.toArray)).eval (.tmp d)= .func (.func f) #[] caps.toArray:=hs2.eval _ _ (by simp [ev,look])
 simp only [Oper.wp,execOp,resolve,he,Deferred.ofValue,Oper.upon]
 simp only [Array.map_empty,Array.append_empty,Array.empty_append,Sem.run_pure,Sem.run_bind,Result.andThen_ok,bind_pure_comp,map_pure]
 refine hK _ _ ?_
 exact h _ w ⟨hs2.size,by simp [Act.put,dfr,hs.defers],hs2.has⟩ hm
def K0 (P:Program) (fn:Func) (w0:World) (R:Value→List Blk→Prop):Exit→Act→World→Prop:=bodyPostD P fn fun e w' => ∃ v H',e= .returned v∧Mem w0 w' H' ∧R v H'
theorem KU {m:Nat} {f:FuncId} {fn:Func} {c:Code} {args:List Value} {R:Value→List Blk→Prop} (hf:P.funcs[f]? =some fn) (hb:fn.body=some c) (hn:fn.ntmps=m) (hle:Nat.ble args.length m=true)
  (h:RW P ⟨m,[]⟩ w0 c (K0 P fn w0 R) (qM args 0) H):FnIn P f args w0 H R:=by
 intro w hm
 have hle' :args.length≤m:=by simpa using hle
 refine calls_of_wp_defers hf hb (h { tmps:=args.toArray++Array.replicate (fn.ntmps - args.toArray.size) undef,defers:= [] } w ⟨?_,rfl,?_⟩ hm)
 ·
  simp [hn];omega
 ·
  intro t v ht
  rw [lB] at ht
  simp only [NY,if_true,PJ] at ht
  have hlt:t<args.length:=(NV.1 ht).1
  rw [O9 (by simpa using hlt)]
  simpa using ht
theorem KV {m:Nat} {f:FuncId} {fn:Func} {c:Code} {args:List Value} {w:World} {R:Value→List Blk→Prop} (hf:P.funcs[f]? =some fn) (hb:fn.body=some c) (hn:fn.ntmps=m) (hle:Nat.ble args.length m=true)
  (h:RW P ⟨m,[]⟩ w c (K0 P fn w R) (qM args 0) []):aQ P f args w R:=KU hf hb hn hle h w (Mem.refl w)
theorem Jt {m:Nat} {fn:Func} {R:Value→List Blk→Prop} {e:Exit} {a:Act} {w:World} (h:post ⟨m,[]⟩ w0 (bg P fn ⟨m,[]⟩ w0 R) e a w):K0 P fn w0 R e a w:=by
 obtain ⟨s,H,hs,hm,he,v,H',hsub,hr,hR⟩:=h
 have hl:Leaves P fn a.tmps (fun e w' => ∃ v H',e= .returned v∧Mem w0 w' H' ∧R v H') a.defers .returning w:=by
  rw [hs.defers]
  exact ⟨v,hr a w hs hm,v,H',rfl,hsub.use hm,hR⟩
 rcases he with rfl|rfl<;>exact hl
def FnD (P:Program) (f:FuncId) (caps:List Value) (u:FrameMode) (w0:World) (H H' :List Blk):Prop:=
 ∀ w,Mem w0 w H→CallsD P f caps.toArray u w fun e u' w' =>(∃ v,e= .returned v)∧settle u' = .returning∧Mem w0 w' H'
def CV:Exit→Option FrameMode
 | .normal=>some .returning
 | .ret=>some .returning
 | .panic c=>some (.panicking c)
 |_=>none
def NB (P:Program) (fn:Func) (n:Fr) (w0:World) (f:FuncId) (caps:List Value) (R:Value→List Blk→Prop):bO:=fun e s H=>
 ∃ u Hb H',CV e=some u∧MSub Hb H∧FnD P f caps u w0 Hb H' ∧bg P fn n w0 R .ret s H'
theorem Mx {m:Nat} {fn:Func} {f:FuncId} [hc:Callable P f] {caps:List Value} {R:Value→List Blk→Prop} {e:Exit} {a:Act} {w:World} (h:post ⟨m,[dfr f caps]⟩ w0 (NB P fn ⟨m,[dfr f caps]⟩ w0 f caps R) e a w):K0 P fn w0 R e a w:=by
 obtain ⟨s,H,hs,hm,u,Hb,H',he,hsub,hD,_,v,H2,h2,hr,hR⟩:=h
 have hu:u≠ .run:=by rintro rfl;cases e<;>simp [CV] at he
 have hl:Leaves P fn a.tmps (fun e w' => ∃ v H',e= .returned v∧Mem w0 w' H' ∧R v H') a.defers u w:=by
  rw [hs.defers]
  refine leaves_cons hu (f:=f) (args:=caps.toArray) (by simp [invoke,hc.out]) ((hD w (hsub.use hm)).mono ?_)
  rintro e u' w' ⟨⟨v',rfl⟩,hset,hm'⟩
  show Leaves P fn a.tmps _ [] (settle u') w'
  rw [hset]
  exact ⟨v,hr a w' hs hm',v,H2,rfl,h2.use hm',hR⟩
 cases e<;>simp only [CV,Option.some.injEq,reduceCtorEq] at he<;>subst he<;>exact hl
def Ny (H' :List Blk):bO:=fun e _ H=>(e= .ret∨e= .normal)∧MSub H' H
theorem Nj {m d:Nat} {f:FuncId} {fn:Func} {id:Nat} {z:Code} {caps:List Value} {u:FrameMode} {v:Value} {H' :List Blk} (hf:P.funcs[f]? =some fn)
  (hb:fn.body=some (.seq (.region id #[⟨some d,.call { callee:= .builtin .recover,args:= #[],argTypes:= #[] },ty,p,af,none⟩] false) z)) (hres:fn.results= #[]) (hn:fn.ntmps=m) (hle:Nat.ble caps.length m=true) (hd:Nat.blt d m=true)
  (hu:(u= .returning∧v= .nilIface)∨u= .panicking (jl v))
  (h:W P ⟨m,[]⟩ w0 z (Ny H') ((d,v)::qM caps 0) H):FnD P f caps u w0 H H' :=by
 intro w hm
 have hle' :caps.length≤m:=by simpa using hle
 refine callsD_of_wpS hf hb fun c₀ cs hc=> ?_
 have hst:St ⟨m,[]⟩ (qM caps 0) { tmps:=caps.toArray++Array.replicate (fn.ntmps - caps.toArray.size) undef,defers:= [] }:=by
  refine ⟨?_,rfl,?_⟩
  ·
   simp [hn];omega
  ·
   intro t v ht
   rw [lB] at ht
   simp only [NY,if_true,PJ] at ht
   have hlt:t<caps.length:=(NV.1 ht).1
   rw [O9 (by simpa using hlt)]
   simpa using ht
 refine wpS_seq (wpS_region ?_)
 have hgo: ∀ cs',(∃ u',cs' ={ c₀ with mode:=u' }::cs∧settle u' = .returning)→Exit.thenS (z.wpS P (bodyPostS P fn c₀ cs fun e u' w' =>(∃ v,e= .returned v)∧settle u' = .returning∧Mem w0 w' H')) (bodyPostS P fn c₀ cs fun e u' w' =>(∃ v,e= .returned v)∧settle u' = .returning∧Mem w0 w' H') .normal ({ tmps:=caps.toArray++Array.replicate (fn.ntmps - caps.toArray.size) undef,defers:= []:Act }.put (some d) v) cs' w:=by
  rintro cs' ⟨u',rfl,hset⟩
  refine wpS_of_wp (wp_mono (h _ w (hst.put (OH ▸ hd) v) hm) ?_)
  rintro e a' w' ⟨s',H2,hs2,hm2,he,hsub⟩
  have:a'.defers= []∧ ∃ u2,({ c₀ with mode:=u' }::cs:List Frame)={ c₀ with mode:=u2 }::cs∧ ∃ v,(results fn a'.tmps).run P w' = .ok v w' ∧((∃ v2,Ending.returned v= .returned v2)∧settle u2= .returning∧Mem w0 w' H'):=
   ⟨hs2.defers,u',rfl,.tuple #[],by simp [results,hres],⟨_,rfl⟩,hset,hsub.use hm2⟩
  rcases he with rfl|rfl<;>exact this
 have hrun: ∀ ρ:Operand→Value,(execOp ρ ⟨some d,.call { callee:= .builtin .recover,args:= #[],argTypes:= #[] },ty,p,af,none⟩).run P w= .ok .recover w:=fun ρ=>by
  simp [execOp,resolve,invoke,builtin]
 rcases hu with ⟨rfl,rfl⟩|rfl
 ·
  have:recoverD (c₀::cs)=none:=by simp [recoverD,hc]
  simp only [Qe,NG,List.range_succ,List.range_zero,NH,wpOpsS,OG,Qy,Region.wanted,if_true,hrun,this]
  exact hgo _ ⟨.returning,by rw [← hc],rfl⟩
 ·
  have:recoverD (c₀::cs)=some (v,{ c₀ with mode:= .panicking [{ v,recovered:=true }] }::cs):=by simp [recoverD,hc,jl]
  simp only [Qe,NG,List.range_succ,List.range_zero,NH,wpOpsS,OG,Qy,Region.wanted,if_true,hrun,this]
  exact hgo _ ⟨_,rfl,rfl⟩
theorem xA {x:Operand} {t T:TypeId} {v:Value} {d:TypeDesc} [hd:Und P T d] (hni:(match d with| .interface _=>false|_=>true)=true) (hx:ev s x=some (.iface T v)):VOp P w0 s H (.typeAssert x t T true) ty (.tuple #[v,.bool true]):=fun ρ w _ _ _ _ hρ _=>by
 cases d<;>simp_all [execOp,hρ x _ hx,Instr.typeAssert,run_underlying hd.out]
theorem Kr {t:TypeId} {ms:Array (String × TypeId)} (hd:P.underlying t=some (.interface ms)) (m:Nat) (w:World):(Op.equalIn (m+1) t .nilIface .nilIface).run P w= .ok true w:=by
 simp [Op.equalIn,run_underlying hd]
theorem Kq {t T:TypeId} {v:Value} {ms:Array (String × TypeId)} (hd:P.underlying t=some (.interface ms)) (m:Nat) (w:World):(Op.equalIn (m+1) t (.iface T v) .nilIface).run P w= .ok false w:=by
 simp [Op.equalIn,run_underlying hd]
theorem Kb {x:Operand} {t t' :TypeId} {ms:Array (String × TypeId)} [hd:Und P t (.interface ms)] (hx:ev s x=some .nilIface):VOp P w0 s H (.binOp .eql t x (.const .nilIface) t') ty (.bool true):=fun ρ w _ _ _ _ hρ _=>by
 have h2:=hρ (.const .nilIface) .nilIface rfl
 have h3:(Op.equalIn Op.maxDepth t .nilIface .nilIface).run P w= .ok true w:=Kr hd.out 9999 w
 simp [execOp,hρ x _ hx,h2,eqGuard,binOp,Op.equal,h3]
theorem Ka {x:Operand} {t t' T:TypeId} {v:Value} {ms:Array (String × TypeId)} [hd:Und P t (.interface ms)] (hx:ev s x=some (.iface T v)):VOp P w0 s H (.binOp .eql t x (.const .nilIface) t') ty (.bool false):=fun ρ w _ _ _ _ hρ _=>by
 have h2:=hρ (.const .nilIface) .nilIface rfl
 have h3:(Op.equalIn Op.maxDepth t (.iface T v) .nilIface).run P w= .ok false w:=Kq hd.out 9999 w
 simp [execOp,hρ x _ hx,h2,eqGuard,binOp,Op.equal,h3]
theorem pU {fn:Func} {R:Value→List Blk→Prop} {e:Exit} {t u q T U Y T' U' Y' g h k:Nat} {v v' v'' :Value} (he:e= .ret∨e= .normal) (hr:fn.results= #[.cell t T,.cell u U,.cell q Y]) [One P T] [One P U] [One P Y] (ht:look s t=some (.pointer (some ⟨g,0,none⟩))) (hi:In (.box g T' [v]) H)
  (hu:look s u=some (.pointer (some ⟨h,0,none⟩))) (hi' :In (.box h U' [v']) H) (hq:look s q=some (.pointer (some ⟨k,0,none⟩))) (hi'' :In (.box k Y' [v'']) H) {H' :List Blk} (hs:MSub H' H) (hR:R (.tuple #[v,v',v'']) H'):bg P fn n w0 R e s H:=
 ⟨he,_,H',hs,fun a w hst hm=>by
  have h1:=qL (P:=P) (T:=T) hst hm ht hi
  have h2:=qL (P:=P) (T:=U) hst hm hu hi'
  have h3:=qL (P:=P) (T:=Y) hst hm hq hi''
  simp only [results,hr]
  simp only [P1,Ot,OB,Sem.run_bind,Sem.run_map] at h1 h2 h3 ⊢
  simp only [h1,h2,h3,Result.andThen_ok,Sem.run_pure]
  rfl,hR⟩
theorem FnP.own {f:FuncId} {args:List Value} {R D:Value→List Blk→Prop} {A:Option Nat} {T sz m cap:Nat} {xs:List Value} (hi:In (.own A T sz m cap xs) H) (h:m≤cap→FnP P f args w0 H R D):FnP P f args w0 H R D:=fun w hm=>h ((hm.on _ hi.mem).1.2.1) w hm
theorem wy {c:Code} (e sz:Nat) (k:RW P n w0 c Φ s (.own none e sz 0 0 []::H)):RW P n w0 c Φ s H:=fun a w hs hm=>
 k a w hs (hm.new (b:= .own none e sz 0 0 []) ⟨rfl,rfl,rfl,NJ _,fun _ _ _=>rfl⟩ ⟨by simp,NJ _,NY _,rfl,rfl⟩ (fun k hk=>by cases hk))
theorem fH {fn:Func} {R:Value→List Blk→Prop} {e:Exit} {t u q T T' g m:Nat} {xs:List Value} {v v' :Value} (he:e= .ret∨e= .normal) (hr:fn.results= #[.cell t T,.tmp u,.tmp q]) [Agg P T m] (ht:look s t=some (.pointer (some ⟨g,0,none⟩))) (hi:In (.box g T' xs) H) (hl:Nat.beq xs.length m=true) (hu:look s u=some v) (hq:look s q=some v') {H' :List Blk} (hs:MSub H' H) (hR:R (.tuple #[.agg xs.toArray,v,v']) H'):bg P fn n w0 R e s H:=
 ⟨he,_,H',hs,fun a w hst hm=>by
  have h1:=lp (P:=P) (T:=T) hst hm ht hi hl
  have h2:a.tmps.getD u undef=v:=by simp [Oj,hst.has u _ hu]
  have h3:a.tmps.getD q undef=v' :=by simp [Oj,hst.has q _ hq]
  simp only [results,hr]
  simp only [P1,Ot,OB,Sem.run_bind,Sem.run_map] at h1 ⊢
  simp only [h1,Result.andThen_ok,Sem.run_pure,h2,h3]
  rfl,hR⟩
structure BoxT where
 j:Nat
 g:Nat
 T:Nat
 v:Value
 u:Value
def BoxT.at (D:kZ) (b:BoxT):Blk:= .box b.g b.T [if D b.j then b.u else b.v]
def BoxT.pre (b:BoxT):Blk:= .box b.g b.T [b.v]
def BoxT.post (b:BoxT):Blk:= .box b.g b.T [b.u]
theorem y6 {id:Nat} (bs:List BoxT) (R:List Blk) (hm:P.follows .mixedOrders=true) (hB:Region.lexB .any l.toArray=true) (hj:(bs.all fun b=>Nat.blt b.j l.length)=true) (hsub:MSub (bs.map BoxT.pre++R) H)
  (h:WG P n w0 l (fun D=>bs.map (BoxT.at D)++R) (fun s' =>Q .normal s' (bs.map BoxT.post++R)) l 0 s):W P n w0 (.region id l.toArray true) Q s H:=by
 refine sr (fun D=>bs.map (BoxT.at D)++R) hm hB ?_ fun a hs hl=> ?_
 ·
  have:bs.map (BoxT.at fun _=>false)=bs.map BoxT.pre:=Pq fun b _=>by simp [BoxT.at,BoxT.pre]
  rw [this];exact hsub
 have mono: ∀ (r:List Oper) (k:Nat) (a:Act) (K K' :Act→Prop),(∀ a,K a→K' a)→wpG P .any l.toArray (Cls w0 l fun D=>bs.map (BoxT.at D)++R) K r k a→wpG P .any l.toArray (Cls w0 l fun D=>bs.map (BoxT.at D)++R) K' r k a:=by
  intro r
  induction r with
  |nil=>intro k a K K' hk h;exact hk _ h
  |cons o r ih=>
   rintro k a K K' hk ⟨v,h1,h2⟩
   exact ⟨v,h1,ih _ _ K K' hk h2⟩
 refine mono _ _ _ _ _ ?_ (h a hs hl)
 rintro a' ⟨s',h2,h3⟩
 refine ⟨s',h2,fun D hD=> ?_⟩
 have:bs.map (BoxT.at D)=bs.map BoxT.post:=Pq fun b hb=>by
  have:=OY.1 hj b hb
  simp [BoxT.at,BoxT.post,hD b.j (by simpa using this)]
 rw [this];exact h3
variable {K:az→Prop} {k:Nat}
theorem nQ {t:TypeId} {x a:Operand} [Size P t 1] {bs:List BoxT} {R:List Blk} (pre suf:List BoxT) (b:BoxT) (hbs:bs=pre++b::suf) (hk:b.j=k) (hno:((pre++suf).all fun b=> !(b.j==k))=true)
  (ha:ev s a=some (.pointer (some ⟨b.g,0,none⟩))) (hx:ev s x=some b.u) (h1:b.u.oneCell' =true) (h:WG P n w0 l (fun D=>bs.map (BoxT.at D)++R) K rest (k+1) s):
  WG P n w0 l (fun D=>bs.map (BoxT.at D)++R) K (⟨none,.store t a x,ty,p,af,none⟩::rest) k s:=by
 subst hbs hk
 have hsame: ∀ D (c:BoxT),c∈pre++suf→BoxT.at (put D b.j) c=BoxT.at D c:=fun D c hc=>by
  have:=OY.1 hno c hc
  have hne:c.j≠b.j:=by simpa using this
  simp [BoxT.at,put,hne]
 refine BR (T:=b.T) (fun D=> [if D b.j then b.u else b.v]) (fun D=>pre.map (BoxT.at D)++(suf.map (BoxT.at D)++R)) ha hx (fun D=> ?_) (vs:= [b.u]) (by cases hu:b.u<;>first|rfl|(rw [hu] at h1;cases h1)) rfl (by simpa using h1) (fun _=>NJ _) (fun D ht=> ?_) h
 ·
  simp only [Pb,Ow,OA,NF]
  have: ∀ (L M:List Blk) (c:Blk),Sel c (L++c::M) (L++M):=fun L M c=>by
   induction L with
   |nil=>exact .hd
   |cons y L ih=>exact .tl ih
  exact this _ _ _
 ·
  refine ⟨[],?_⟩
  simp only [Pb,Ow,OA,NF,NM,Pj,NH,NG,N7,P8,O4]
  have e1:pre.map (BoxT.at (put D b.j))=pre.map (BoxT.at D):=Pq fun c hc=>hsame D c (P3 _ hc)
  have e2:suf.map (BoxT.at (put D b.j))=suf.map (BoxT.at D):=Pq fun c hc=>hsame D c (PW _ hc)
  have e3:BoxT.at (put D b.j) b= .box b.g b.T [b.u]:=by simp [BoxT.at,put]
  rw [e1,e2,e3]
  exact (List.perm_middle.symm)
theorem DX {t:TypeId} {d:Nat} {x:Operand} [One P t] {bs:List BoxT} {R:List Blk} (b:BoxT) (hb:b∈bs) {f j:Nat} (hj:b.j=j) (hr:kg l f j k=true) (hno:(bs.all fun b=> !(b.j==k))=true) (hn:Nat.blt d n.sz=true)
  (ha:ev s x=some (.pointer (some ⟨b.g,0,none⟩))) (h:WG P n w0 l (fun D=>bs.map (BoxT.at D)++R) K rest (k+1) ((d,b.v)::s)):
  WG P n w0 l (fun D=>bs.map (BoxT.at D)++R) K (⟨some d,.load t x,ty,p,af,none⟩::rest) k s:=by
 refine E8 hn (fun D ht=> ?_) (fun D=> ?_) h
 ·
  have e:=ht.late (hj ▸ hr)
  have hi:In (.box b.g b.T [b.v]) (bs.map (BoxT.at D)++R):=by
   have:BoxT.at D b= .box b.g b.T [b.v]:=by simp [BoxT.at,e]
   rw [← this]
   have hmem: ∀ (L:List BoxT),b∈L→In (BoxT.at D b) (L.map (BoxT.at D)++R):=fun L h=>by
    induction L with
    |nil=>cases h
    |cons c L ih=>
     rcases NS.1 h with rfl|h
     ·
      exact .hd
     ·
      exact .tl (ih h)
   exact hmem bs hb
  exact bM ha hi rfl
 ·
  have:bs.map (BoxT.at (put D k))=bs.map (BoxT.at D):=Pq fun c hc=>by
   have:=OY.1 hno c hc
   have hne:c.j≠k:=by simpa using this
   simp [BoxT.at,put,hne]
  simp only [this]
theorem J4 {op:Op} {d:Nat} {v:Value} {bs:List BoxT} {R:List Blk} (hno:(bs.all fun b=> !(b.j==k))=true) (hn:Nat.blt d n.sz=true) (hv:VOp P w0 s R op ty v) (h:WG P n w0 l (fun D=>bs.map (BoxT.at D)++R) K rest (k+1) ((d,v)::s)):
  WG P n w0 l (fun D=>bs.map (BoxT.at D)++R) K (⟨some d,op,ty,p,af,none⟩::rest) k s:=by
 refine E8 hn (fun D ht=> ?_) (fun D=> ?_) h
 ·
  intro ρ w d p af g hρ hm
  exact hv ρ w d p af g hρ (MSub.use ⟨bs.map (BoxT.at D),O7⟩ hm)
 ·
  have:bs.map (BoxT.at (put D k))=bs.map (BoxT.at D):=Pq fun c hc=>by
   have:=OY.1 hno c hc
   have hne:c.j≠k:=by simpa using this
   simp [BoxT.at,put,hne]
  simp only [this]
end
section
variable {P:Program} {ops:Array Oper} {es ps:List Nat} {C:World→Prop}
def NormUp (P:Program) (K:Value→World→Prop):Result Next→Prop
 | .ok (.value v) w' =>K v w'
 | .ok .skip w' =>K undef w'
 | .ok (.enter f args) w' =>Calls P f args w' fun e w'' => ∃ v,e= .returned v∧K v w''
 | .ok (.row row args) w' =>Rows P row args w' fun v w'' =>K v w''
 |_=>False
theorem NormUp.mono {K K' :Value→World→Prop} {r:Result Next} (h:NormUp P K r) (hk: ∀ v w,K v w→K' v w):NormUp P K' r:=by
 cases r with
 |ok x w' =>
  cases x<;>simp only [NormUp] at h ⊢
  case value v=>exact hk _ _ h
  case skip=>exact hk _ _ h
  case enter f args=>exact h.mono fun e w'' ⟨v,he,h1⟩=>⟨v,he,hk _ _ h1⟩
  case row f args=>exact Rows.mono h fun v w'' h1=>hk _ _ h1
 |halt x w' =>exact h
theorem NormUp.ex {K:Value→World→Prop} {r:Result Next} (h:NormUp P K r): ∃ v w',K v w' :=by
 cases r with
 |ok x w' =>
  cases x<;>simp only [NormUp] at h
  case value v=>exact ⟨_,_,h⟩
  case skip=>exact ⟨_,_,h⟩
  case enter f args=>
   obtain ⟨e,w1,fr,⟨v,_,h1⟩,_⟩:=h []
   exact ⟨_,_,h1⟩
  case row f args=>
   obtain ⟨v,w1,h1,_⟩:=h (Frame.enter P 0 #[] .normal) []
   exact ⟨_,_,h1⟩
 |halt x w' =>exact h.elim
theorem NormUp.upon {K:Act→World→Prop} {Q:Exit→Act→World→Prop} {o:Oper} {a:Act} {r:Result Next} (h:NormUp P (fun v w' =>K (a.put o.dst v) w') r):o.upon P a K Q r:=by
 cases r with
 |ok x w' =>
  cases x<;>simp only [NormUp] at h<;>simp only [Oper.upon]
  case value v=>exact h
  case skip=>exact h
  case enter f args=>
   refine h.mono fun e w'' ⟨v,he,h1⟩=> ?_
   subst he
   exact h1
  case row f args=>exact h
 |halt x w' =>exact h.elim
inductive EOp (P:Program) (ops:Array Oper) (es ps:List Nat) (C:World→Prop) (K:Act→World→Prop) (i:Nat) (o:Oper) (a:Act) (w:World):Prop
 |pass (hw:Region.wanted o (yielded ops a.tmps)=false) (hk:K (a.put o.dst undef) w)
 |quiet (hw:Region.wanted o (yielded ops a.tmps)=true) (hi:i∉es) (v:Value) (hr:(execOp a.eval o).run P w= .ok (.value v) w) (hst:i∈ps∨ ∀ w1,C w1→(execOp a.eval o).run P w1= .ok (.value v) w1) (hk:K (a.put o.dst v) w)
 |eff (hw:Region.wanted o (yielded ops a.tmps)=true) (hi:i∈es) (hk:NormUp P (fun v w' =>K (a.put o.dst v) w') ((execOp a.eval o).run P w))
def AnyE (P:Program) (ops:Array Oper) (es ps:List Nat) (C:World→Prop) (Q:Act→World→Prop):Nat→Array Bool→Act→World→Prop
 |0,L,a,w=>C w∧Region.ready .any ops L= []∧Q a w
 |f+1,L,a,w=>C w∧(Region.ready .any ops L= []→Q a w)∧ ∀ i∈Region.ready .any ops L,∃ o,ops[i]? =some o∧EOp P ops es ps C (AnyE P ops es ps C Q f (L.setIfInBounds i true)) i o a w
theorem AnyE.inC {Q:Act→World→Prop} {f:Nat} {L:Array Bool} {a:Act} {w:World} (h:AnyE P ops es ps C Q f L a w):C w:=by
 cases f with
 |zero=>exact h.1
 |succ f=>exact h.1
theorem fM {Q:Act→World→Prop} {Q' :Exit→Act→World→Prop} (hQ: ∀ a w,Q a w→Q' .normal a w): ∀ (f:Nat) (L:Array Bool) (a:Act) (w:World),AnyE P ops es ps C Q f L a w→wpAny P .any ops Q' f L a w
 |0,L,a,w,h=>⟨h.2.1,hQ _ _ h.2.2⟩
 |f+1,L,a,w,h=>⟨fun h0=>hQ _ _ (h.2.1 h0),fun i hi=>by
   obtain ⟨o,ho,hg⟩:=h.2.2 i hi
   unfold wpOp
   simp only [ho]
   cases hg with
   |pass hw hk=>
    simp only [hw,OT,if_false]
    exact fM hQ f _ _ _ hk
   |quiet hw _ v hr _ hk=>
    simp only [hw,if_true]
    refine .inl ?_
    unfold Oper.wp
    rw [hr]
    exact fM hQ f _ _ _ hk
   |eff hw _ hk=>
    simp only [hw,if_true]
    refine .inl ?_
    unfold Oper.wp
    exact NormUp.upon (hk.mono fun v w' h1=>fM hQ f _ _ _ h1)⟩
def ClosedL (ops:Array Oper) (L:Array Bool):Prop:= ∀ i o,ops[i]? =some o→L.getD i false=true→ ∀ e∈o.after,Region.binds .any e=true→L.getD e.on false=true
theorem ClosedL.set {L:Array Bool} (h:ClosedL ops L) {i:Nat} (hi:i∈Region.ready .any ops L):ClosedL ops (L.setIfInBounds i true):=by
 obtain ⟨_,oi,hoi,hall⟩:=mem_ready.1 hi
 have up: ∀ j,L.getD j false=true→(L.setIfInBounds i true).getD j false=true:=fun j hj=>by
  by_cases e:i=j
  ·
   subst e
   have:i<L.size:=by
    rcases Po i L.size with h1|h1
    ·
     exact h1
    ·
     rw [Oj,PU h1] at hj;cases hj
   simp [this]
  ·
   rw [getD_set_ne false e];exact hj
 intro j o ho hj e he hb
 by_cases hij:i=j
 ·
  subst hij
  rw [hoi] at ho
  injection ho with ho
  subst ho
  exact up _ (hall e he hb)
 ·
  rw [getD_set_ne false hij] at hj
  exact up _ (h j o ho hj e he hb)
def sY (ops:Array Oper) (i j:Nat):Prop:= ∀ L,ClosedL ops L→i∈Region.ready .any ops L→j∈Region.ready .any ops L→False
theorem EOp.of_put {K K' :Act→World→Prop} {i:Nat} {oi oj:Oper} {a:Act} {w:World} {u:Value} (hap:oi.apart ops oj=true) (hsi: ∀ cs b,oi.op≠ .select cs b)
  (h:EOp P ops es ps C K i oi a w) (hk: ∀ v w',K (a.put oi.dst v) w' →K' ((a.put oj.dst u).put oi.dst v) w'):EOp P ops es ps C K' i oi (a.put oj.dst u) w:=by
 obtain ⟨h1,h2,h3⟩:=Oper.apart_spec hap
 have he:=execOp_put oi hsi a oj.dst u h3
 have hw:=wanted_put oi a oj.dst u h3
 cases h with
 |pass hw' hk' =>exact .pass (hw.trans hw') (hk _ _ hk')
 |quiet hw' hi v hr hst hk' =>exact .quiet (hw.trans hw') hi v (by rw [he];exact hr) (by rw [he];exact hst) (hk _ _ hk')
 |eff hw' hi hk' =>exact .eff (hw.trans hw') hi (by rw [he];exact hk'.mono fun v w' h=>hk _ _ h)
theorem vo {Q:Act→World→Prop} {i:Nat} {oi:Oper} (hi:ops[i]? =some oi) (hsel: ∀ (j:Nat) (o:Oper) cs b,ops[j]? =some o→o.op≠ .select cs b)
  (hnb: ∀ x∈es,∀ y,y∈es∨y∈ps→x≠y→sY ops x y):
  ∀ (f:Nat) (L:Array Bool) (a:Act) (w:World),ClosedL ops L→C w→
   (∀ j oj,ops[j]? =some oj→j≠i→L.getD j true=false→(∀ e∈oj.after,Region.binds .any e=true→e.on≠i)→oi.apart ops oj=true)→
   i∈Region.ready .any ops L→EOp P ops es ps C (AnyE P ops es ps C Q f (L.setIfInBounds i true)) i oi a w→AnyE P ops es ps C Q (f+1) L a w
 |0,L,a,w,hcl,hC,_,hr,hy=>⟨hC,fun h=>(by rw [h] at hr;cases hr),fun j hj=>by
   by_cases hji:j=i
   ·
    subst hji;exact ⟨oi,hi,hy⟩
   ·
    exfalso
    have hne:=ready_mono hj hji
    have hE: ∃ a' w',AnyE P ops es ps C Q 0 (L.setIfInBounds i true) a' w' :=by
     cases hy with
     |pass _ hk=>exact ⟨_,_,hk⟩
     |quiet _ _ _ _ _ hk=>exact ⟨_,_,hk⟩
     |eff _ _ hk=>obtain ⟨v,w',h⟩:=hk.ex;exact ⟨_,_,h⟩
    obtain ⟨a',w',_,h0,_⟩:=hE
    rw [h0] at hne
    cases hne⟩
 |f+1,L,a,w,hcl,hC,hfree,hr,hy=>⟨hC,fun h=>(by rw [h] at hr;cases hr),fun j hj=>by
   by_cases hji:j=i
   ·
    subst hji;exact ⟨oi,hi,hy⟩
   ·
    have hj' :=ready_mono hj hji
    obtain ⟨hjun,oj,hoj,hall⟩:=mem_ready.1 hj
    have hnot: ∀ e∈oj.after,Region.binds .any e=true→e.on≠i:=fun e he hb heq=>by
     have h1:=hall e he hb
     have h0:=(mem_ready.1 hr).1
     rw [heq] at h1
     rcases Po i L.size with h' |h'
     ·
      simp [h'] at h0 h1;rw [h0] at h1;cases h1
     ·
      simp [PU h'] at h1
    have hap:=hfree j oj hoj hji hjun hnot
    obtain ⟨h1,h2,h3⟩:=Oper.apart_spec hap
    have hsi:=fun cs b=>hsel i oi cs b hi
    have hsj:=fun cs b=>hsel j oj cs b hoj
    have hej: ∀ v,execOp (a.put oi.dst v).eval oj=execOp a.eval oj:=fun v=>execOp_put oj hsj a oi.dst v h1
    have hwj: ∀ v,Region.wanted oj (yielded ops (a.put oi.dst v).tmps)=Region.wanted oj (yielded ops a.tmps):=fun v=>wanted_put oj a oi.dst v h1
    have hcomm: ∀ v u,(a.put oi.dst v).put oj.dst u=(a.put oj.dst u).put oi.dst v:=fun v u=>Act.put_comm a v u h2
    have hset:(L.setIfInBounds i true).setIfInBounds j true=(L.setIfInBounds j true).setIfInBounds i true:=Qv _ _ (Ne.symm hji)
    have hfree' : ∀ k ok,ops[k]? =some ok→k≠i→(L.setIfInBounds j true).getD k true=false→
      (∀ e∈ok.after,Region.binds .any e=true→e.on≠i)→oi.apart ops ok=true:=fun k ok hk hki hun hno=>by
     refine hfree k ok hk hki ?_ hno
     by_cases hjk:j=k
     ·
      subst hjk;exact hjun
     ·
      rw [getD_set_ne true hjk] at hun;exact hun
    have ih:=vo (Q:=Q) hi hsel hnb f (L.setIfInBounds j true)
    have hcl' :=hcl.set hj
    have hr' :=ready_mono hr (Ne.symm hji)
    -- what comes of j behind an outcome of i
    have hJ: ∀ v w',AnyE P ops es ps C Q (f+1) (L.setIfInBounds i true) (a.put oi.dst v) w' →EOp P ops es ps C (AnyE P ops es ps C Q f ((L.setIfInBounds j true).setIfInBounds i true)) j oj (a.put oi.dst v) w' :=fun v w' h=>by
     obtain ⟨o,ho,hE⟩:=h.2.2 j hj'
     have e:o=oj:=Option.some.inj (ho.symm.trans hoj)
     subst e
     rw [hset] at hE
     exact hE
    refine ⟨oj,hoj,?_⟩
    have hstill:(∃ v,AnyE P ops es ps C Q (f+1) (L.setIfInBounds i true) (a.put oi.dst v) w∧ ∀ (u:Value) (w2:World) (K' :Act→World→Prop),C w2→(i∈ps→w2=w)→K' ((a.put oj.dst u).put oi.dst v) w2→EOp P ops es ps C K' i oi (a.put oj.dst u) w2)∨
      (Region.wanted oi (yielded ops a.tmps)=true∧i∈es∧NormUp P (fun v w' =>AnyE P ops es ps C Q (f+1) (L.setIfInBounds i true) (a.put oi.dst v) w') ((execOp a.eval oi).run P w)):=by
     cases hy with
     |pass hw hk=>exact .inl ⟨undef,hk,fun u w2 K' _ _ hk' => .pass ((wanted_put oi a oj.dst u h3).trans hw) hk'⟩
     |quiet hw hies v hrun hst hk=>
      refine .inl ⟨v,hk,fun u w2 K' hC2 hps hk' => ?_⟩
      have he:=execOp_put oi hsi a oj.dst u h3
      have hrun2:(execOp a.eval oi).run P w2= .ok (.value v) w2:=by
       rcases hst with h|h
       ·
        rw [hps h];exact hrun
       ·
        exact h w2 hC2
      exact .quiet ((wanted_put oi a oj.dst u h3).trans hw) hies v (by rw [he];exact hrun2) (by rw [he];exact hst) hk'
     |eff hw hies hk=>exact .inr ⟨hw,hies,hk⟩
    rcases hstill with ⟨v,hk,hS⟩|⟨hw,hies,hk⟩
    ·
     cases hJ v w hk with
     |pass hwj' hkj=>exact .pass ((hwj v).symm.trans hwj') (ih _ w hcl' hC hfree' hr' (hS undef w _ hC (fun _=>rfl) (by rw [← hcomm];exact hkj)))
     |quiet hwj' hjes u hrun hst hkj=>
      rw [hej] at hrun hst
      exact .quiet ((hwj v).symm.trans hwj') hjes u hrun hst (ih _ w hcl' hC hfree' hr' (hS u w _ hC (fun _=>rfl) (by rw [← hcomm];exact hkj)))
     |eff hwj' hjes hkj=>
      rw [hej] at hkj
      exact .eff ((hwj v).symm.trans hwj') hjes (hkj.mono fun u w2 hk2=>ih _ w2 hcl' hk2.inC hfree' hr' (hS u w2 _ hk2.inC (fun hps=>(hnb j hjes i (.inr hps) hji L hcl hj hr).elim) (by rw [← hcomm];exact hk2)))
    ·
     obtain ⟨v0,w1,h0⟩:=hk.ex
     cases hJ v0 w1 h0 with
     |pass hwj' hkj=>
      have hwa:=(hwj v0).symm.trans hwj'
      refine .pass hwa (ih _ w hcl' hC hfree' hr' (EOp.of_put hap hsi (.eff hw hies hk) fun v w' h=> ?_))
      cases hJ v w' h with
      |pass _ h' =>rw [← hcomm];exact h'
      |quiet hw2 _ _ _ _ _=>rw [hwj,hwa] at hw2;cases hw2
      |eff hw2 _ _=>rw [hwj,hwa] at hw2;cases hw2
     |quiet hwj' hjes u hrun hst hkj=>
      have hwa:=(hwj v0).symm.trans hwj'
      have hst2: ∀ w1,C w1→(execOp a.eval oj).run P w1= .ok (.value u) w1:=by
       rcases hst with h|h
       ·
        exact (hnb i hies j (.inr h) (Ne.symm hji) L hcl hr hj).elim
       ·
        rw [hej] at h;exact h
      refine .quiet hwa hjes u (hst2 w hC) (.inr hst2) (ih _ w hcl' hC hfree' hr' (EOp.of_put hap hsi (.eff hw hies hk) fun v w' h=> ?_))
      cases hJ v w' h with
      |pass hw2 _=>rw [hwj,hwa] at hw2;cases hw2
      |eff _ hjes2 _=>exact absurd hjes2 hjes
      |quiet _ _ u' hr2 hst' h' =>
       have hst3:(execOp a.eval oj).run P w= .ok (.value u') w:=by
        rcases hst' with h|h
        ·
         exact (hnb i hies j (.inr h) (Ne.symm hji) L hcl hr hj).elim
        ·
         have:=h w hC
         rw [hej] at this;exact this
       rw [hst2 w hC] at hst3
       injection hst3 with h4
       injection h4 with h4
       subst h4
       rw [← hcomm];exact h'
     |eff hwj' hjes hkj=>exact (hnb i hies j (.inl hjes) (Ne.symm hji) L hcl hr hj).elim⟩
def wpE (P:Program) (ops:Array Oper) (es ps:List Nat) (C:World→Prop) (Q:Act→World→Prop):List Oper→Nat→Act→World→Prop
 | [],_,a,w=>C w∧Q a w
 |o::r,k,a,w=>C w∧EOp P ops es ps C (wpE P ops es ps C Q r (k+1)) k o a w
theorem EOp.mono {K K' :Act→World→Prop} {i:Nat} {o:Oper} {a:Act} {w:World} (h:EOp P ops es ps C K i o a w) (hk: ∀ a w,K a w→K' a w):EOp P ops es ps C K' i o a w:=by
 cases h with
 |pass h1 h2=>exact .pass h1 (hk _ _ h2)
 |quiet h1 h2 v h3 h4 h5=>exact .quiet h1 h2 v h3 h4 (hk _ _ h5)
 |eff h1 h2 h3=>exact .eff h1 h2 (h3.mono fun _ _ h=>hk _ _ h)
theorem BK {Q:Act→World→Prop} (hs:Region.noSelect ops=true) (hnb: ∀ x∈es,∀ y,y∈es∨y∈ps→x≠y→sY ops x y): ∀ (l:List Oper) (k:Nat) (L:Array Bool) (a:Act) (w:World),(∀ j,l[j]? =ops[k+j]?)→ClosedL ops L→
  Region.lexFrom .any ops l.length k L=true→wpE P ops es ps C Q l k a w→AnyE P ops es ps C Q l.length L a w
 | [],_,_,_,_,_,_,hB,h=>⟨h.1,by simpa [Region.lexFrom] using hB,h.2⟩
 |o::l,k,L,a,w,hl,hcl,hB,h=>by
  have h0:ops[k]? =some o:=by simpa using (hl 0).symm
  simp only [N8,Region.lexFrom,NK] at hB
  obtain ⟨⟨hr,hf⟩,hB'⟩:=hB
  have hr' :k∈Region.ready .any ops L:=by simpa using hr
  exact vo h0 (Region.noSelect_spec hs) hnb l.length L a w hcl h.1 (Region.free_spec h0 hf) hr'
   (h.2.mono fun a' w' h' =>BK hs hnb l (k+1) _ _ _ (fun j=>by have:=hl (j+1);simpa [Pr,PE 1 j] using this) (hcl.set hr') hB' h')
end
def gF (l:List Oper) (i j:Nat):Bool:=match l[j]? with
 |some o=>(pF o).any fun q=>kg l l.length q i
 |none=>false
def Dx (l:List Oper) (es ps:List Nat):Bool:=es.all fun i=>(es++ps).all fun j=>Nat.beq i j||gF l i j||gF l j i
theorem rP {l:List Oper} {i j:Nat} {L:Array Bool} (h:gF l i j=true) (hcl:ClosedL l.toArray L) (hj:j∈Region.ready .any l.toArray L) (hi:i∈Region.ready .any l.toArray L):False:=by
 unfold gF at h
 split at h
 ·
  rename_i o ho
  obtain ⟨q,hq,hr⟩:=List.any_eq_true.1 h
  obtain ⟨_,o',ho',hall⟩:=mem_ready.1 hj
  rw [OG,ho] at ho'
  injection ho' with ho'
  subst ho'
  obtain ⟨e,he,hb,rfl⟩:=jA.1 hq
  have hd:L.getD e.on false=true:=hall e he hb
  have hi' :done L i=true:=lY (D:=done L) (fun x y hx hy z hz=>by
   obtain ⟨e',he',hb',rfl⟩:=jA.1 hz
   exact hcl x y (by simpa using hx) hy e' he' hb') _ _ _ hr hd
  have h0:=(mem_ready.1 hi).1
  unfold done at hi'
  rcases Po i L.size with h' |h'
  ·
   simp [h'] at h0 hi';rw [h0] at hi';cases hi'
  ·
   simp [PU h'] at hi'
 ·
  cases h
theorem Dw {l:List Oper} {es ps:List Nat} (h:Dx l es ps=true): ∀ x∈es,∀ y,y∈es∨y∈ps→x≠y→sY l.toArray x y:=by
 intro x hx y hy hne L hcl h1 h2
 have h3:=OY.1 (OY.1 h x hx) y (Ol.2 hy)
 simp only [Pn] at h3
 rcases h3 with (h3|h3)|h3
 ·
  exact hne (Ou h3)
 ·
  exact rP h3 hcl h2 h1
 ·
  exact rP h3 hcl h1 h2
section
variable {P:Program} {n:Fr} {w0:World} {Q:bO} {s:az} {H S:List Blk} {l rest:List Oper} {ty:TypeId} {p:String} {af:Array Edge} {es ps:List Nat} {k:Nat} {gu:Option (Nat × Bool)}
def WC (P:Program) (n:Fr) (w0:World) (l:List Oper) (S:List Blk) (es ps:List Nat) (Q:bO) (rest:List Oper) (k:Nat) (s:az) (H:List Blk):Prop:=
 ∀ a w,St n s a→Mem w0 w H→Mem w0 w S→(∀ j,rest[j]? =l[k+j]?)→wpE P l.toArray es ps (fun w=>Mem w0 w S) (post n w0 Q .normal) rest k a w
theorem dX {id:Nat} (es ps:List Nat) (S:List Blk) (hm:P.follows .mixedOrders=true) (hB:Region.lexB .any l.toArray=true) (hch:Dx l es ps=true) (hS:MSub S H)
  (h:WC P n w0 l S es ps Q l 0 s H):W P n w0 (.region id l.toArray true) Q s H:=by
 intro a w hs hmem
 have hB' :=hB
 simp only [Region.lexB,NK] at hB'
 refine wp_region_any hm (fM (es:=es) (ps:=ps) (C:=fun w=>Mem w0 w S) (Q:=post n w0 Q .normal) (fun _ _ h=>h) _ _ _ _ ?_)
 have hcl:ClosedL l.toArray (Array.replicate l.toArray.size false):=fun i o _ hi=>by
  rw [Oj,Qw] at hi
  split at hi<;>cases hi
 have:=BK (P:=P) hB'.1 (Dw hch) l.toArray.toList 0 (Array.replicate l.toArray.size false) a { w with drawn:=w.drawn+1 } (by simp) hcl (by simpa using hB'.2) (h a _ hs hmem.drew (hS.use hmem.drew) (by simp))
 simpa using this
theorem GZ (h:Q .normal s H):WC P n w0 l S es ps Q [] k s H:=fun a w hs hm hS _=>⟨hS,s,H,hs,hm,h⟩
theorem cC {op:Op} {d:Nat} {v:Value} (hn:Nat.blt d n.sz=true) (hg:gok l s gu=some true) (hk:es.contains k=false) (hv:VOp P w0 s S op ty v) (h:WC P n w0 l S es ps Q rest (k+1) ((d,v)::s) H):
  WC P n w0 l S es ps Q (⟨some d,op,ty,p,af,gu⟩::rest) k s H:=by
 intro a w hs hm hS hl
 obtain ⟨h0,hl'⟩:=py hl
 refine ⟨hS,.quiet (gA rfl hg hs) (by simpa using hk) v (hv a.eval w (some d) p af gu hs.eval hS) (.inr fun w1 h1=>hv a.eval w1 (some d) p af gu hs.eval h1) (h _ _ (hs.put (OH ▸ hn) v) hm hS hl')⟩
theorem MG {op:Op} {d:Nat} {v:Value} (hn:Nat.blt d n.sz=true) (hg:gok l s gu=some true) (hk:es.contains k=false) (hp:ps.contains k=true) (hv:VOp P w0 s H op ty v) (h:WC P n w0 l S es ps Q rest (k+1) ((d,v)::s) H):
  WC P n w0 l S es ps Q (⟨some d,op,ty,p,af,gu⟩::rest) k s H:=by
 intro a w hs hm hS hl
 obtain ⟨h0,hl'⟩:=py hl
 exact ⟨hS,.quiet (gA rfl hg hs) (by simpa using hk) v (hv a.eval w (some d) p af gu hs.eval hm) (.inl (by simpa using hp)) (h _ _ (hs.put (OH ▸ hn) v) hm hS hl')⟩
theorem G0 {op:Op} {dst:Option Tmp} {d:Nat} (hd:dst=some d) (hn:Nat.blt d n.sz=true) (hg:gok l s gu=some false) (h:WC P n w0 l S es ps Q rest (k+1) ((d,undef)::s) H):
  WC P n w0 l S es ps Q (⟨dst,op,ty,p,af,gu⟩::rest) k s H:=by
 subst hd
 intro a w hs hm hS hl
 obtain ⟨h0,hl'⟩:=py hl
 exact ⟨hS,.pass (gA rfl hg hs) (h _ _ (hs.put (OH ▸ hn) undef) hm hS hl')⟩
theorem v7 {op:Op} {dst:Option Tmp} {j d:Nat} {dD b:Bool} (_hj:gd l j=some d) (hv:look s d=some (.bool b))
  (k1:b=true→WC P n w0 l S es ps Q (⟨dst,op,ty,p,af,some (j,dD)⟩::rest) k ((d,.bool true)::s) H)
  (k2:b=false→WC P n w0 l S es ps Q (⟨dst,op,ty,p,af,some (j,dD)⟩::rest) k ((d,.bool false)::s) H):
  WC P n w0 l S es ps Q (⟨dst,op,ty,p,af,some (j,dD)⟩::rest) k s H:=by
 intro a w hs hm hS hl
 cases b with
 |true=>exact k1 rfl a w (hs.shadow hv) hm hS hl
 |false=>exact k2 rfl a w (hs.shadow hv) hm hS hl
def ceP (S:List Blk) (K:az→List Blk→Prop):bO:=fun e s' H' =>e= .normal∧MSub S H' ∧K s' H'
theorem JG {K:az→List Blk→Prop} (hS:MSub S H) (h:K s H):ceP S K .normal s H:=⟨rfl,hS,h⟩
theorem MH {op:Op} {dst:Option Tmp} (hg:gok l s gu=some true) (hk:es.contains k=true) (h:WL P n w0 #[] [⟨dst,op,ty,p,af,none⟩] (ceP S (WC P n w0 l S es ps Q rest (k+1))) s H):
  WC P n w0 l S es ps Q (⟨dst,op,ty,p,af,gu⟩::rest) k s H:=by
 intro a w hs hm hS hl
 obtain ⟨h0,hl'⟩:=py hl
 refine ⟨hS,.eff (gA rfl hg hs) (by simpa using hk) ?_⟩
 have h1:=h a w hs hm
 unfold wpList at h1
 simp only [Region.wanted,if_true] at h1
 replace h1:=h1.elim id fun ⟨_,a0,w1,s',H'',_,_,he,_⟩=>by cases he
 have hexec:execOp a.eval ⟨dst,op,ty,p,af,gu⟩=execOp a.eval ⟨dst,op,ty,p,af,none⟩:=rfl
 rw [hexec]
 have nxt: ∀ (a' :Act) (w' :World),wpList P #[] (post n w0 (ceP S (WC P n w0 l S es ps Q rest (k+1)))) [] a' w' →wpE P l.toArray es ps (fun w=>Mem w0 w S) (post n w0 Q .normal) rest (k+1) a' w' :=by
  rintro a' w' ⟨s',H',hs',hm',_,hSub,hK⟩
  exact hK a' w' hs' hm' (hSub.use hm') hl'
 unfold Oper.wp at h1
 generalize (execOp a.eval ⟨dst,op,ty,p,af,none⟩).run P w=r at h1 ⊢
 cases r with
 |ok x w' =>
  cases x<;>simp only [Oper.upon] at h1<;>simp only [NormUp]
  case value u=>exact nxt _ _ h1
  case skip=>exact nxt _ _ h1
  case defer dd=>
   obtain ⟨s',H'',hs',_⟩:=h1
   have h2:=congrArg List.length (hs'.defers.trans hs.defers.symm)
   cases dst<;>simp [Act.put] at h2
  case enter f args=>
   refine h1.mono fun e w'' he=> ?_
   cases e with
   |returned v=>exact ⟨v,rfl,nxt _ _ he⟩
   |panicked c=>
    obtain ⟨s',H'',_,_,he',_⟩:=he
    cases he'
   |outgrown=>
    obtain ⟨a0,w1,s',H'',_,_,he',_⟩:=he
    cases he'
  case row f args=>exact Rows.mono h1 fun u w'' he=>nxt _ _ he
 |halt x w' =>
  cases x<;>simp only [Oper.upon] at h1
  all_goals
   obtain ⟨s',H'',_,_,he',_⟩:=h1
   cases he'
theorem pE {d:Nat} {f:FuncId} {xs:List Operand} {vs:List Value} {v:Value} {ts:Array TypeId} [Callable P f] (hn:Nat.blt d n.sz=true) (hg:gok l s gu=some true) (hk:es.contains k=true) (hx:evs s xs=some vs)
  (hF: ∀ w,Mem w0 w H→ax P f vs w v) (h:WC P n w0 l S es ps Q rest (k+1) ((d,v)::s) H):
  WC P n w0 l S es ps Q (⟨some d,.call { callee:= .value (.func f),args:=xs.toArray,argTypes:=ts },ty,p,af,gu⟩::rest) k s H:=by
 intro a w hs hm hS hl
 obtain ⟨h0,hl'⟩:=py hl
 refine ⟨hS,.eff (gA rfl hg hs) (by simpa using hk) ?_⟩
 have hrun:=jO (P:=P) (w:=w) (ρ:=a.eval) (d:=some d) (ty:=ty) (p:=p) (af:=af) (g:=gu) (f:=f) (c:= .func f) (xs:=xs) (caps:= []) (ts:=ts) rfl (gh hs hx)
 rw [NM] at hrun
 rw [hrun]
 refine Calls.mono (hF w hm) ?_
 rintro e w' ⟨u,H',rfl,hm',rfl⟩
 exact ⟨u,rfl,h _ _ (hs.put (OH ▸ hn) u) (hm.call hm').right (hS.call hm').right hl'⟩
end
theorem AK {s:az} {ρ:Operand→Value} (hρ: ∀ x u,ev s x=some u→ρ x=u): ∀ {ps:List (Nat × Operand)} {vs:List Value} {k:Nat},evd s ps k=some vs→(ps.map fun (x:Nat × Operand)=>(x.1,ρ x.2))=(vs.zipIdx k).map fun x=>(x.2,x.1)
 | [],vs,k,h=>by simp only [evd,Option.some.injEq] at h;simp [← h]
 |(i,x)::r,vs,k,h=>by
  simp only [evd] at h
  cases hb:Nat.beq i k with
  |false=>rw [hb] at h;cases h
  |true=>
   have hik:=Ou hb
   rw [hb] at h
   simp only [cond_true] at h
   split at h
   ·
    rename_i v vs' hv hvs
    simp only [Option.some.injEq] at h
    rw [← h,Ow,AK hρ hvs,List.zipIdx_cons,Ow,hρ x v hv,hik]
   ·
    cases h
theorem nW {P:Program} {w0:World} {s:az} {H:List Blk} {ty:TypeId} {t e m sz:Nat} {ps:List (Nat × Operand)} {vs xs zs:List Value} [ht:Und P t (.array m e)] [he:Size P e sz] [hz:ZeroC P t zs] (hps:evd s ps 0=some vs)
  (hs0:Nat.blt 0 sz=true) (hl:Nat.beq (vs.length*sz) zs.length=true) (h1:wu sz vs=true) (hx:rX (pq vs)=some xs):VOp P w0 s H (.build t ps.toArray) ty (.agg xs.toArray):=fun ρ w _ _ _ _ hρ _=>by
 obtain ⟨it,z,i1,i2,i3⟩:=hz.out
 obtain ⟨ie,j1,j2⟩:=he.out
 have hall:=nX h1
 have hlen:=Ou hl
 have hfill:=Great.fill_whole (s:=sz) (by simpa using hs0) vs z.cells hall (by rw [i3];simp [hlen])
 rw [← AK hρ hps] at hfill
 have hb:P.built t (ps.map fun (x:Nat × Operand)=>(x.1,ρ x.2))=some (pq vs).toArray:=by
  unfold Program.built
  simp only [i1,ht.out,i2,j1,j2]
  exact hfill
 have hr:=run_build (P:=P) w t (ps.map fun (x:Nat × Operand)=>(x.1,ρ x.2)).toArray (pq vs).toArray (by simpa using hb)
 rw [iP hx]
 simp only [execOp,Pp]
 simp only [Sem.run_bind,hr,Result.andThen_ok,Sem.run_pure]
end Go.SL

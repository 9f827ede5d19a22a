/-
  Lemmas and walks, put together: Sl11 W32 Sl9 Sl18 Sl23 Sl8 Sl17 Sl24 Sl32 Sl21 Sl13 Sl22.
-/
import Derived.Test.YtpoafcnhplbkmaaGreatDoorKs02
set_option linter.unusedSimpArgs false
set_option linter.unusedVariables false
set_option maxRecDepth 20000
namespace Go.SL
open Go Go.RowKit
def Dz (s:az):List Nat→Option az
 | []=>some []
 |t::r=>match look s t,Dz s r with
  |some v,some s' =>some ((t,v)::s')
  |_,_=>none
theorem Dy {s:az}: ∀ {ts:List Nat} {s' :az},Dz s ts=some s' →Sub s' s
 | [],s',h=>by simp only [Dz,Option.some.injEq] at h;subst h;exact Sub.nil s
 |t::r,s',h=>by
  simp only [Dz] at h;split at h
  ·rename_i v s1 hv hs;simp only [Option.some.injEq] at h;subst h;exact Sub.cons hv (Dy hs)
  ·cases h
theorem Dn (r b:az) (u:Nat):look (r++b) u=(match look r u with|some v=>some v|none=>look b u):=by
 induction r with
 |nil=>rfl
 |cons y r ih=>
  obtain ⟨p,q⟩:=y;rw [QV,jk,jk,ih];split<;>rfl
theorem Sub.append {a b s:az} (ha:Sub a s) (hb:Sub b s):Sub (a++b) s:=by
 intro u z hu;rw [Dn] at hu;split at hu
 ·rename_i v hv;rw [← hu];exact ha u v hv
 ·exact hb u z hu
def bH {ι:Type} (sI:ι→az) (HI:ι→List Blk) (ok:ι→Prop) (Q:bS):bS
 | .normal,s,H=> ∃ i,ok i∧Sub (sI i) s∧MSub (HI i) H
 |e,s,H=>Q e s H
section
variable {P:Program} {n:Fr} {w0:World} {Q:bS} {s sb:az} {H:List Blk} {ι:Type} {sI:ι→az} {HI:ι→List Blk} {ok:ι→Prop} {id:Nat}
theorem cX (i:ι) (ho:ok i) (hs:Sub (sI i) s) (hH:MSub (HI i) H):bH sI HI ok Q .normal s H:=⟨i,ho,hs,hH⟩
theorem rN {x z:Code} (sI:ι→az) (HI:ι→List Blk) (ok:ι→Prop) (h:W P n w0 x (bH sI HI ok Q) s H) (k: ∀ i,ok i→W P n w0 z Q (sI i) (HI i)):
 W P n w0 x (thn (W P n w0 z Q) Q) s H:=by
 refine Kk (fun e s' H' hq=> ?_) h
 cases e with
 |normal=>
  obtain ⟨i,ho,h1,h2⟩:=hq;exact PX h1 (OV h2 (k i ho))
 |_=>exact hq
theorem OW {c:Operand} {x y z:Code} (ts:List Nat) (hk:Dz s ts=some sb) (h:W P n w0 (.cond c x y) (bH (fun _:Unit=>sb) (fun _=>H) (fun _=>True) Q) s H) (k:W P n w0 z Q sb H):
 W P n w0 (.cond c x y) (thn (W P n w0 z Q) Q) s H:=
 rN _ _ _ h fun _ _=>k
theorem aw {c:Code} (ts:List Nat) (hk:Dz s ts=some sb) (sI:ι→az) (HI:ι→List Blk) (ok:ι→Prop) (μ:ι→Nat) (i0:ι) (h0:ok i0) (hs0:Sub (sI i0) s) (hH0:MSub (HI i0) H)
 (round: ∀ i,ok i→W P n w0 c (thn (fun s' H' => ∃ i',ok i' ∧μ i' <μ i∧Sub (sI i') s' ∧Sub sb s' ∧MSub (HI i') H') Q) (sI i++sb) (HI i)):W P n w0 (.loop c) Q s H:=by
 refine fR (fun i=>sI i++sb) HI ok μ i0 h0 (hs0.append (Dy hk)) hH0 fun i hi=>Kk (fun e s' H' hq=> ?_) (round i hi)
 cases e with
 |normal=>
  obtain ⟨i',h1,h2,h3,h4,h5⟩:=hq;exact ⟨i',h1,h2,h3.append h4,h5⟩
 |_=>exact hq
theorem MG {ops:Array Oper} {rest:List Oper} {A:Option Nat} {t sz m cap:Nat} {xs:List Value} (hi:In (.own A t sz m cap xs) H) (hm:0<m) (h: ∀ g,A=some g→WL P n w0 ops rest Q s H):WL P n w0 ops rest Q s H:=fun a w hs hmem=>by
 obtain ⟨_,_,_,h4⟩:=(hmem.on _ hi.mem).1
 cases A with
 |none=>obtain ⟨rfl,_⟩:=h4;omega
 |some g=>exact h g rfl a w hs hmem
theorem Reads.of_own_take {w:World} {A:Option Nat} {t sz m cap k:Nat} {xs:List Value} (hm:Mem w0 w H) (hi:In (.own A t sz m cap xs) H) (hk:k≤m):Reads w (sl A k cap) k (xs.take (k*sz)):=by
 obtain ⟨h1,h2,h3,h4⟩:=(hm.on _ hi.mem).1;refine ⟨_,cap,rfl,by omega,h3,fun hpos=> ?_⟩
 cases A with
 |none=>obtain ⟨rfl,_⟩:=h4;omega
 |some g=>exact ⟨g,0,rfl,(Ro.of_own hm hi).take⟩
end
theorem Ro.cellV {w:World} {g o:Nat} {xs:List Value} (h:Ro w g o xs) (i:Nat) {v:Value} (hi:xs[i]? =some v):Ro w g (o+i*1) [v]:=by
 obtain ⟨hlt,he⟩:=Rm.1 hi;have h1:=(h.drop (k:=i)).take (k:=1);rw [Rn hlt,he] at h1;rw [RV];exact h1
theorem p6 {P:Program} {w0:World} {s:az} {H:List Blk} {ty t t' :TypeId} {x y:Operand} {k:IntKind} {a:Int} (hx:ev s x=some (.int k a)) (hy:ev s y=some (.int k a)):VOp P w0 s H (.binOp .neq t x y t') ty (.bool false):=by
 have h:=Oy (P:=P) (w0:=w0) (H:=H) (ty:=ty) (t:=t) (t' :=t') hx hy;rwa [decide_eq_false (by simp)] at h
end Go.SL
namespace Go.SL
open Go Go.Proofs
attribute [local irreducible] W WL WQ WG WA VOp thn blk bH aV FnAt FnIn Mw
def aT:List Nd:= [k2,k3,j7,k6]
end Go.SL
namespace Go.SL
open Go Go.RowKit
section
variable {P:Program} {n:Fr} {w0:World} {Q:bS} {s:az} {H:List Blk} {rest:List Oper} {ty:TypeId} {p:String} {af:Array Edge}
theorem nR {x ix:Operand} {t e m j:Nat} {xs:List Value} {v:Value} {k:IntKind} [ht:Und P t (.array m e)] [he:One P e] [hz:Size P e 1] (hx:ev s x=some (.agg xs.toArray)) (hi:ev s ix=some (.int k (j:Nat))) (hj:j<m) (hv:xs[j]? =some v):
 VOp P w0 s H (.index t x ix) ty v:=fun ρ w _ _ _ _ hρ _=>by
 obtain ⟨i,h1,h2⟩:=hz.out;obtain ⟨d,h3,h4⟩:=he.out;have h0:(0:Int)≤(j:Int):=by omega
 have hj' :((j:Nat):Int)<((m:Nat):Int):=by omega
 simp only [execOp,hρ x _ hx,hρ ix _ hi,Instr.index,asIntOf,run_underlying ht.out,sizeOf,typeInfo,part,isAgg,run_underlying h3,Sem.run_bind,Sem.run_pure,Result.andThen_ok,h0,hj',and_self,if_true,h1,h2,Ud,RV,RX,hv];cases d<;>simp_all
theorem BK {x:Operand} {t e m g o sz:Nat} [ht:Und P t (.array m e)] [hz:Size P e sz] (hx:ev s x=some (.pointer (some ⟨g,o,none⟩))):
 VOp P w0 s H (.slice t x none none none) ty (.slice (some ⟨g,o,none⟩) m m):=fun ρ w _ _ _ _ hρ _=>by
 obtain ⟨i,h1,h2⟩:=hz.out;have ha:(⟨g,o,none⟩:Addr).add 0=⟨g,o,none⟩:=by rw [dr];simp
 simp [execOp,hρ x _ hx,Instr.sliceAt,run_underlying ht.out,Instr.sliceBounds,Instr.sureAddr,sizeOf,typeInfo,h1,ha]
theorem BA {d t e m:Nat} {ps:List (Nat × Operand)} {vs xs zs:List Value} {ops:Array Oper} [ht:Und P t (.array m e)] [he:Size P e 1] [hz:ZeroC P t zs] (hn:Nat.blt d n.sz=true) (hps:evd s ps 0=some vs)
 (hl:Nat.beq vs.length zs.length=true) (h1:vs.all (fun v=>Nat.beq v.cells.size 1)=true) (hx:uo (flat vs)=some xs) (k:WL P n w0 ops rest Q ((d,.agg xs.toArray)::s) H):
 WL P n w0 ops (⟨some d,.build t ps.toArray,ty,p,af,none⟩::rest) Q s H:=by
 refine uF rfl d rfl hn (fun a w hs hm=> ?_) k;obtain ⟨it,z,i1,i2,i3⟩:=hz.out;obtain ⟨ie,j1,j2⟩:=he.out;have hall: ∀ v∈vs,v.cells.size=1:=by
  intro v hv;exact R0 (SI.1 h1 v hv)
 have hlen:=R0 hl;have hfill:=Great.fill_whole (s:=1) (by omega) vs z.cells hall (by rw [i3];simp [hlen]);rw [← uP hs hps] at hfill;have hb:P.built t (ps.map fun (x:Nat × Operand)=>(x.1,a.eval x.2))=some (flat vs).toArray:=by
  unfold Program.built;simp only [i1,ht.out,i2,j1,j2];exact hfill
 have hr:=run_build (P:=P) w t (ps.map fun (x:Nat × Operand)=>(x.1,a.eval x.2)).toArray (flat vs).toArray (by simpa using hb);rw [jv hx];simp only [execOp,Tp];simp only [Sem.run_bind,hr,Result.andThen_ok,Sem.run_pure]
theorem yA {x:Operand} {t t' :TypeId} {k k' :IntKind} {a c:Int} {d:TypeDesc} [hs:Und P t d] [hd:Und P t' (.int k')] (hx:ev s x=some (.int k a)) (hw:k'.wrap a=c):VOp P w0 s H (.convert t t' x) ty (.int k' c):=by
 have h:=EO (P:=P) (w0:=w0) (H:=H) (ty:=ty) (t:=t) (t' :=t') hx;rwa [hw] at h
theorem eP {x y:Operand} {k:IntKind} {a b c:Int} {t t' :TypeId} (hx:ev s x=some (.int k a)) (hy:ev s y=some (.int k b)) (hw:k.wrap (a+b)=c):VOp P w0 s H (.binOp .add t x y t') ty (.int k c):=by
 have h:=vD (P:=P) (w0:=w0) (H:=H) (ty:=ty) (t:=t) (t' :=t') hx hy;rwa [hw] at h
theorem eB {x y:Operand} {k:IntKind} {a b c:Int} {t t' :TypeId} (hx:ev s x=some (.int k a)) (hy:ev s y=some (.int k b)) (hw:k.wrap (a - b)=c):VOp P w0 s H (.binOp .sub t x y t') ty (.int k c):=by
 have h:=OZ (P:=P) (w0:=w0) (H:=H) (ty:=ty) (t:=t) (t' :=t') hx hy;rwa [hw] at h
theorem nS {x y:Operand} {a b:ByteArray} {t t' :TypeId} (hx:ev s x=some (.string a)) (hy:ev s y=some (.string b)) (h:a=b):VOp P w0 s H (.binOp .eql t x y t') ty (.bool true):=by
 have h1:=EL (P:=P) (w0:=w0) (H:=H) (ty:=ty) (t:=t) (t' :=t') hx hy;rwa [decide_eq_true h] at h1
theorem eO {x y:Operand} {a b:ByteArray} {t t' :TypeId} (hx:ev s x=some (.string a)) (hy:ev s y=some (.string b)) (h:a≠b):VOp P w0 s H (.binOp .eql t x y t') ty (.bool false):=by
 have h1:=EL (P:=P) (w0:=w0) (H:=H) (ty:=ty) (t:=t) (t' :=t') hx hy;rwa [decide_eq_false h] at h1
theorem fI {a:Int} (h1:0≤a) (h2:a≤255):IntKind.u8.wrap a=a:=by
 simp [IntKind.wrap,IntKind.bits,IntKind.signed]<;>omega
theorem Reads.of_box {w:World} {g t:Nat} {xs:List Value} (hm:Mem w0 w H) (hi:In (.box g t xs) H) (hl:Nat.ble xs.length maxLen=true):Reads w (.slice (some ⟨g,0,none⟩) xs.length xs.length) xs.length xs:=by
 have h1:=hm.cells_box hi;refine ⟨_,xs.length,rfl,Rg _,by simpa using hl,fun _=>⟨g,0,rfl,?_,h1⟩⟩;have h2:=(hm.on _ hi.mem).1;simp only [Blk.on] at h2;exact (RQ.1 h2).1
end
def jO (v:Value):List PanicEntry:= [{ v,recovered:=false }]
def FnP (P:Program) (f:FuncId) (args:List Value) (w0:World) (H:List Blk) (R D:Value→List Blk→Prop):Prop:=
 ∀ w,Mem w0 w H→Calls P f args.toArray w fun e w' =>(∃ v H',e= .returned v∧Mem w0 w' H' ∧R v H')∨(∃ v H',e= .panicked (jO v)∧Mem w0 w' H' ∧D v H')
theorem FnP.msub {P:Program} {f:FuncId} {args:List Value} {w0:World} {H H' :List Blk} {R D:Value→List Blk→Prop} (h:FnP P f args w0 H' R D) (hs:MSub H' H):FnP P f args w0 H R D:=fun w hm=>h w (hs.use hm)
def bz (P:Program) (fn:Func) (n:Fr) (w0:World) (R D:Value→List Blk→Prop):bS:=fun e s H=>
 aV P fn n w0 R e s H∨ ∃ v H',e= .panic (jO v)∧MSub H' H∧D v H'
section
variable {P:Program} {n:Fr} {w0:World} {Q:bS} {s:az} {H:List Blk} {l rest:List Oper} {ty:TypeId} {p:String} {af:Array Edge}
theorem bL {d:Nat} {ops:Array Oper} {f:FuncId} {xs:List Operand} {vs:List Value} {ts:Array TypeId} {R D:Value→List Blk→Prop} [Callable P f] (hn:Nat.blt d n.sz=true) (hx:evs s xs=some vs)
 (hF:FnP P f vs w0 H R D) (k: ∀ v H',R v H' →WL P n w0 ops rest Q ((d,v)::s) H') (kd: ∀ v H',D v H' →Q (.panic (jO v)) s H'):
 WL P n w0 ops (⟨some d,.call { callee:= .value (.func f),args:=xs.toArray,argTypes:=ts },ty,p,af,none⟩::rest) Q s H:=by
 intro a w hs hm;refine wpList_plain rfl fun K hK=> ?_;have hr:=jD (P:=P) (w:=w) (ρ:=a.eval) (d:=some d) (ty:=ty) (p:=p) (af:=af) (g:=none) (f:=f) (c:= .func f) (xs:=xs) (caps:= []) (ts:=ts) rfl (fM hs hx);rw [Rc] at hr;simp only [Oper.wp,hr,Oper.upon];refine (hF w hm).mono ?_;rintro e w' (⟨v,H',rfl,hm',hR⟩|⟨v,H',rfl,hm',hD⟩)
 ·exact hK _ _ (k v H' hR _ _ (hs.put (Sa ▸ hn) _) hm')
 ·exact ⟨s,H',hs,hm',kd v H' hD⟩
theorem Ka {d:Option Tmp} {ops:Array Oper} {x:Operand} {t:TypeId} {v:Value} (hx:ev s x=some (.iface t v)) (h:Q (.panic (jO (.iface t v))) s H):
 WL P n w0 ops (⟨d,.panic x,ty,p,af,none⟩::rest) Q s H:=by
 intro a w hs hm;refine wpList_plain rfl fun K hK=> ?_;have hr:(execOp a.eval ⟨d,.panic x,ty,p,af,none⟩).run P w= .halt (.panic (.iface t v)) w:=by
  simp only [execOp,hs.eval x _ hx]
  rfl
 simp only [Oper.wp,hr,Oper.upon];exact ⟨s,H,hs,hm,h⟩
theorem Qg {K:az→List Blk→Prop} {c:List PanicEntry} (h:Q (.panic c) s H):thn K Q (.panic c) s H:=h
theorem QF {id:Nat} {c:List PanicEntry} (h:Q (.panic c) s H):blk id Q (.panic c) s H:=h
theorem QC {ι:Type} {sI:ι→az} {HI:ι→List Blk} {ok:ι→Prop} {c:List PanicEntry} (h:Q (.panic c) s H):bH sI HI ok Q (.panic c) s H:=h
theorem Qs {fn:Func} {R D:Value→List Blk→Prop} {e:Exit} (h:aV P fn n w0 R e s H):bz P fn n w0 R D e s H:= .inl h
theorem OB {fn:Func} {R D:Value→List Blk→Prop} {v:Value} {H' :List Blk} (hs:MSub H' H) (h:D v H'):bz P fn n w0 R D (.panic (jO v)) s H:= .inr ⟨v,H',rfl,hs,h⟩
theorem xd {m:Nat} {f:FuncId} {fn:Func} {c:Code} {args:List Value} {R D:Value→List Blk→Prop} (hf:P.funcs[f]? =some fn) (hb:fn.body=some c) (hn:fn.ntmps=m) (hle:Nat.ble args.length m=true)
 (h:W P ⟨m,[]⟩ w0 c (bz P fn ⟨m,[]⟩ w0 R D) (sj args 0) H):FnP P f args w0 H R D:=by
 intro w hm;have hle' :args.length≤m:=by simpa using hle
 refine calls_of_wp hf hb (wp_mono (h { tmps:=args.toArray++Array.replicate (fn.ntmps - args.toArray.size) undef,defers:= [] } w ⟨?_,rfl,?_⟩ hm) ?_)
 ·simp [hn];omega
 ·intro t v ht;rw [mo] at ht;simp only [QZ,if_true,Td] at ht;have hlt:t<args.length:=(Rm.1 ht).1;rw [SH (by simpa using hlt)];simpa using ht
 ·rintro e a w' ⟨s',H',hs,hm',hq⟩;rcases hq with ⟨he,v,H'',hsub,hr,hR⟩|⟨v,H'',rfl,hsub,hD⟩
  ·have hp:a.defers= []∧ ∃ v,(results fn a.tmps).run P w' = .ok v w' ∧((∃ v1 H1,Ending.returned v= .returned v1∧Mem w0 w' H1∧R v1 H1)∨(∃ v1 H1,Ending.returned v= .panicked (jO v1)∧Mem w0 w' H1∧D v1 H1)):=
    ⟨hs.defers,v,hr a w' hs hm',.inl ⟨v,H'',rfl,hsub.use hm',hR⟩⟩
   rcases he with rfl|rfl<;>exact hp
  ·exact ⟨hs.defers,.inr ⟨v,H'',rfl,hsub.use hm',hD⟩⟩
end
section
variable {P:Program} {n:Fr} {w0:World} {Q:bS} {K:az→Prop} {s:az} {H:List Blk} {l rest:List Oper} {ty:TypeId} {p:String} {af:Array Edge}
theorem Ro.of_box {w:World} {g t:Nat} {xs:List Value} (hm:Mem w0 w H) (hi:In (.box g t xs) H):Ro w g 0 xs:=⟨Blk.key_lt (hm.on _ hi.mem).1 rfl,hm.cells_box hi⟩
theorem Ro.next {w w' :World} {H' :List Blk} {g o:Nat} {xs:List Value} (h:Ro w g o xs) (hm:Mem w w' H'):Ro w' g o xs:=Ro.of_ro hm h
theorem mV {f:FuncId} {bs:List Operand} {vs:List Value} (hc:evs s bs=some vs):VOp P w0 s H (.makeFunc (.func f) bs.toArray #[]) ty (.func (.func f) vs.toArray #[]):=fun ρ w _ _ _ _ hρ _=>by
 have h: ∀ {xs:List Operand} {vs:List Value},evs s xs=some vs→xs.map ρ=vs:=by
  intro xs
  induction xs with
  |nil=>intro vs h;simp only [evs,Option.some.injEq] at h;simp [← h]
  |cons x r ih=>
   intro vs h;simp only [evs] at h;split at h
   ·rename_i v us hv hr;simp only [Option.some.injEq] at h;subst h;simp [hρ x v hv,ih hr]
   ·cases h
 simp [execOp,Instr.makeFunc,← h hc]
theorem yO {ρ:Operand→Value} {w:World} {d:Option Tmp} {g:Option (Nat × Bool)} {f:FuncId} {c:Operand} {xs:List Operand} {vs bs:List Value} {ts:Array TypeId} [hf:Callable P f] (hc:ρ c= .func (.func f) bs.toArray #[]) (hx:xs.map ρ=vs):
 (execOp ρ ⟨d,.call { callee:= .value c,args:=xs.toArray,argTypes:=ts },ty,p,af,g⟩).run P w= .ok (.enter f (bs++vs).toArray) w:=by
 simp [execOp,resolve,hc,Deferred.ofValue,invoke,← hx,hf.out]
theorem Ke {d:Nat} {ops:Array Oper} {f:FuncId} {c:Operand} {xs:List Operand} {vs bs:List Value} {ts:Array TypeId} {R:Value→List Blk→Prop} (hn:Nat.blt d n.sz=true) (hc:ev s c=some (.func (.func f) bs.toArray #[])) (hfc:Callable P f) (hx:evs s xs=some vs)
 (hF:FnIn P f (bs++vs) w0 H R) (k: ∀ v H',R v H' →WL P n w0 ops rest Q ((d,v)::s) H'):
 WL P n w0 ops (⟨some d,.call { callee:= .value c,args:=xs.toArray,argTypes:=ts },ty,p,af,none⟩::rest) Q s H:=by
 intro a w hs hm;refine wpList_plain rfl fun K hK=> ?_;have hr:=yO (P:=P) (w:=w) (ρ:=a.eval) (d:=some d) (ty:=ty) (p:=p) (af:=af) (g:=none) (f:=f) (c:=c) (xs:=xs) (bs:=bs) (ts:=ts) (hs.eval c _ hc) (fM hs hx);simp only [Oper.wp,hr,Oper.upon];refine (hF w hm).mono ?_;rintro e w' ⟨v,H',rfl,hm',hR⟩;exact hK _ _ (k v H' hR _ _ (hs.put (Sa ▸ hn) _) hm')
theorem rM {d:Nat} {ops:Array Oper} {f:FuncId} {c:Operand} {xs:List Operand} {vs bs:List Value} {v:Value} {ts:Array TypeId} (hn:Nat.blt d n.sz=true) (hc:ev s c=some (.func (.func f) bs.toArray #[])) (hfc:Callable P f) (hx:evs s xs=some vs)
 (hF: ∀ w,Mem w0 w H→aC P f (bs++vs) w v) (k:WL P n w0 ops rest Q ((d,v)::s) H):
 WL P n w0 ops (⟨some d,.call { callee:= .value c,args:=xs.toArray,argTypes:=ts },ty,p,af,none⟩::rest) Q s H:=
 Ke hn hc hfc hx (FnIn.of_at hF) fun u H' ⟨H1,h1,h2⟩=>by
  subst h1;subst h2;exact zL ⟨H1,RO⟩ k
theorem EI {x:Operand} {t u e T m c:Nat} {A:Option Nat} {ns:List Int} [hs:Und P t (.slice e)] [he:Und P e (.int .u8)] [hd:Und P u .string] (hx:ev s x=some (sl A m c)) (hi:In (.own A T 1 m c (ns.map (Value.int .u8))) H) (hl:ns.length=m):
 VOp P w0 s H (.convert t u x) ty (.string (mkB ns)):=fun ρ w _ _ _ _ hρ hm=>by
 have h3:ns.foldl (fun r n=>r.push (UInt8.ofNat n.toNat)) ByteArray.empty=mkB ns:=by
  have h4:=yU ns ByteArray.empty;generalize ns.foldl (fun r n=>r.push (UInt8.ofNat n.toNat)) ByteArray.empty=b at h4 ⊢;obtain ⟨⟨l⟩⟩:=b;simp only at h4;simp [h4,mkB]
 have h2:(Conv.bytesToString (.slice (A.map fun g=>(⟨g,0,none⟩:Addr)) m c)).run P w= .ok (.string (mkB ns)) w:=by
  cases A with
  |none=>
   obtain ⟨_,_,_,h4,_⟩:=(hm.on _ hi.mem).1;subst h4;have:ns= []:=TD.1 hl;subst this
   rfl
  |some g=>
   have hc:=hm.cells_own hi;have h1:=run_loadCells_list (P:=P) w ⟨g,0,none⟩ (ns.map (Value.int .u8)) (fun j v hv=>by rw [dr];exact hc j v hv);rw [RA,hl] at h1;have h2:=run_bytesToString (P:=P) w ⟨g,0,none⟩ m c ns h1;rw [h3] at h2;exact h2
 simp only [execOp,hρ x _ hx,sl,Sem.run_bind,run_convert_bytes_string w t u e _ _ _ hs.out he.out hd.out,h2,Result.andThen_ok,Sem.run_pure]
theorem Pv {ι:Type} {sI:ι→az} {HI:ι→List Blk} {ok:ι→Prop} (h:lM Q):lM (bH sI HI ok Q):=fun c s H hq=>h c s H hq
theorem ym {K:az→Prop} {d:Nat} {ops:Array Oper} {f:FuncId} {c:Operand} {xs:List Operand} {vs caps:List Value} {v:Value} {ts:Array TypeId} (hn:Nat.blt d n.sz=true) (hc:ev s c=some (.func (.func f) #[] caps.toArray)) (hfc:Callable P f) (hx:evs s xs=some vs)
 (hF: ∀ w,Mem w0 w H→aC P f (vs++caps) w v) (k:WQ P n w0 ops rest K ((d,v)::s) H):
 WQ P n w0 ops (⟨some d,.call { callee:= .value c,args:=xs.toArray,argTypes:=ts },ty,p,af,none⟩::rest) K s H:=by
 intro a hs;unfold wpQuiet;simp only [Region.wanted,if_true];refine ⟨v,fun w hm=> ?_,k _ (hs.put (Sa ▸ hn) v)⟩;unfold Oper.quietAt;have hr:=jD (P:=P) (w:=w) (ρ:=a.eval) (d:=some d) (ty:=ty) (p:=p) (af:=af) (g:=none) (f:=f) (c:=c) (xs:=xs) (caps:=caps) (ts:=ts) (hs.eval c _ hc) (fM hs hx);rw [hr];refine ⟨rfl,Calls.mono (hF w hm) ?_⟩;rintro e w' ⟨u,H',rfl,hm',rfl⟩;exact ⟨rfl,(hm.call hm').right⟩
theorem MSub.swap {H1 C:List Blk}:MSub (H1++C) (C++H1):=⟨[],by simpa using RO⟩
theorem MSub.swapN {H1 C:List Blk}:MSub (H1++(C++ [])) (C++H1):=⟨[],by simpa using RO⟩
theorem MSub.swapN' {H1 C:List Blk}:MSub (C++H1) (H1++(C++ [])):=⟨[],by simpa using RO⟩
theorem GR {ι:Type} {sb:az} {id:Nat} {ops:Array Oper} {d:Bool} {y z:Code} (ts:List Nat) (hk:Dz s ts=some sb) (sI:ι→az) (ok:ι→Prop) (h:W P n w0 (.seq (.region id ops d) y) (bH (fun i=>sI i++sb) (fun _=>H) ok Q) s H) (k: ∀ i,ok i→W P n w0 z Q (sI i++sb) H):
 W P n w0 (.seq (.region id ops d) y) (thn (W P n w0 z Q) Q) s H:=
 rN _ _ _ h k
theorem rQ {x:Operand} {a:ByteArray} {m t:Nat} [ht:Und P t .string] (hx:ev s x=some (.string a)) (h:a.size=m):VOp P w0 s H (.call { callee:= .builtin .len,args:= #[x],argTypes:= #[t] }) ty (.int .i64 (m:Int)):=h ▸ Kr hx
def scp (Q:bS):bS
 | .goto _,_,_=>False
 |e,s,H=>Q e s H
theorem MM {c:Code} (h:W P n w0 c (scp Q) s H):W P n w0 (.scope c) Q s H:=by
 intro a w hs hm;refine wp_scope_straight (wp_mono (h a w hs hm) ?_);rintro e a' w' ⟨s',H',h1,h2,h3⟩
 cases e with
 |goto l=>exact h3.elim
 |_=>exact ⟨s',H',h1,h2,h3⟩
theorem MN {i:Nat} (h:Q .normal s H):W P n w0 (.label i) Q s H:=fun _ _ hs hm=>wp_label ⟨s,H,hs,hm,h⟩
theorem Qq (h:Q .ret s H):scp Q .ret s H:=h
end
def ju (l:List Oper):Nat→Nat→Nat→Bool
 |0,j,k=>Nat.beq j k
 |f+1,j,k=>Nat.beq j k||match l[j]? with
  |none=>false
  |some x=>(nN x).any fun i=>ju l f i k
theorem j8 {l:List Oper} {D:f9} (hc: ∀ i x,l[i]? =some x→D i=true→ ∀ j∈nN x,D j=true): ∀ (f j k:Nat),ju l f j k=true→D j=true→D k=true
 |0,j,k,h,hj=>by
  have:=R0 h;subst this;exact hj
 |f+1,j,k,h,hj=>by
  simp only [ju,TH] at h;rcases h with h|h
  ·have:=R0 h;subst this;exact hj
  ·cases hx:l[j]? with
   |none=>rw [hx] at h;cases h
   |some x=>
    rw [hx] at h;obtain ⟨i,hi,hr⟩:=Uk.1 h;exact j8 hc f i k hr (hc j x hx hj i hi)
section
variable {P:Program} {n:Fr} {w0:World} {Q:bS} {K:az→Prop} {s:az} {H H1:List Blk} {l rest:List Oper} {k j f:Nat} {ty:TypeId} {p:String} {af:Array Edge}
theorem Turn.late {o:Oper} {D:f9} (ht:Turn l k o D) (h:ju l f j k=true):D j=false:=by
 cases hD:D j
 ·rfl
 ·have:=j8 ht.closed f j k h hD;rw [ht.not] at this;cases this
theorem jW {id:Nat} (j:Nat) (H1:List Blk) (hm:P.follows .mixedOrders=true) (hB:Region.lexB .any l.toArray=true) (hj:Nat.blt j l.length=true)
 (h:WG P n w0 l (fun D=>if D j then H1 else H) (fun s' =>Q .normal s' H1) l 0 s):W P n w0 (.region id l.toArray true) Q s H:=by
 refine uG (fun D=>if D j then H1 else H) hm hB (by simp only [RY,if_false];exact .refl _) fun a hs hl=> ?_;have mono: ∀ (r:List Oper) (k:Nat) (a:Act) (K K' :Act→Prop),(∀ a,K a→K' a)→wpG P .any l.toArray (Cls w0 l fun D=>if D j then H1 else H) K r k a→wpG P .any l.toArray (Cls w0 l fun D=>if D j then H1 else H) K' r k a:=by
  intro r
  induction r with
  |nil=>intro k a K K' hk h;exact hk _ h
  |cons o r ih=>
   rintro k a K K' hk ⟨v,h1,h2⟩;exact ⟨v,h1,ih _ _ K K' hk h2⟩
 refine mono _ _ _ _ _ ?_ (h a hs hl);rintro a' ⟨s',h2,h3⟩;refine ⟨s',h2,fun D hD=> ?_⟩;rw [if_pos (hD j (Sa ▸ hj))];exact h3
theorem fp {op:Op} {d:Nat} {v:Value} (hn:Nat.blt d n.sz=true) (hr:ju l f j k=true) (hne:Nat.beq j k=false) (hv:VOp P w0 s H op ty v) (h:WG P n w0 l (fun D=>if D j then H1 else H) K rest (k+1) ((d,v)::s)):
 WG P n w0 l (fun D=>if D j then H1 else H) K (⟨some d,op,ty,p,af,none⟩::rest) k s:=by
 refine BC hn (fun D ht=> ?_) (fun D=> ?_) h
 ·rw [ht.late hr];exact hv
 ·have:put D k j=D j:=by
   unfold put;rw [if_neg];intro e;subst e;rw [Nat.beq_refl] at hne;cases hne
  simp only [this]
theorem BD {t T g off m sz n' c:Nat} {x a:Operand} {v:Value} {vs xs:List Value} {R:List Blk} [Size P t m] (ha:ev s a=some (.pointer (some ⟨g,off,none⟩))) (hx:ev s x=some v)
 (hsel:Sel (.own (some g) T sz n' c xs) H R) (hv:v.cells=vs.toArray) (hl:vs.length=m) (h1:vs.all Value.oneCell' =true) (hfit:off+m≤xs.length)
 (hnew:MSub H1 (.own (some g) T sz n' c (xs.take off++vs++xs.drop (off+m))::R)) (h:WG P n w0 l (fun D=>if D k then H1 else H) K rest (k+1) s):
 WG P n w0 l (fun D=>if D k then H1 else H) K (⟨none,.store t a x,ty,p,af,none⟩::rest) k s:=by
 refine zO (fun D ht a' w hs hm=> ?_) h;have e1:D k=false:=ht.not;have e2:put D k k=true:=by simp [put]
 simp only [e1,RY,if_false] at hm;simp only [e2,if_true];have hm' :=hm.sel hsel;obtain ⟨h2,h3,h4,junk,h5,hb⟩:=(hm'.on _ QY).1;have h1' : ∀ u∈vs,u.oneCell' =true:=by simpa using h1
 have hr:=gD (P:=P) (t:=t) (off:=off) hv hl h1' hb (by simp;omega);simp only at hr;have he:(xs++junk).take off++vs++(xs++junk).drop (off+m)=(xs.take off++vs++xs.drop (off+m))++junk:=by
  rw [TA (by omega),UH hfit];simp
 rw [he] at hr;have hlen:(xs.take off++vs++xs.drop (off+m)).length=xs.length:=by simp;omega
 refine ⟨_,?_,hnew.use (hm'.upd (gC _ _ _) (b' := .own (some g) T sz n' c (xs.take off++vs++xs.drop (off+m)))
  ⟨hlen.trans h2,h3,h4,junk,by rw [QT,hlen,← QT];exact h5,setRow_heap _ _ _ _ _ _ hb⟩ fun k hk=> .inl hk)⟩
 simp [execOp,hs.eval a _ ha,hs.eval x _ hx,Instr.storeAt,Instr.sureAddr,hr]
theorem jA {t T g off sz n' c:Nat} {x a:Operand} {v:Value} {xs:List Value} {R:List Blk} [Size P t 1] (ha:ev s a=some (.pointer (some ⟨g,off,none⟩))) (hx:ev s x=some v)
 (hsel:Sel (.own (some g) T sz n' c xs) H R) (hv:v.oneCell' =true) (hfit:off<xs.length)
 (hnew:MSub H1 (.own (some g) T sz n' c (xs.set off v)::R)) (h:WG P n w0 l (fun D=>if D k then H1 else H) K rest (k+1) s):
 WG P n w0 l (fun D=>if D k then H1 else H) K (⟨none,.store t a x,ty,p,af,none⟩::rest) k s:=by
 refine BD (m:=1) ha hx hsel (vs:= [v]) (by cases v<;>first|rfl|cases hv) rfl (by simpa using hv) (by omega) ?_ h;rw [nY _ _ _ hfit];exact hnew
theorem u4 {d t e n' c m c' sz by_:Nat} {a2:Addr} {A:Option Nat} {x y:Operand} {xs news:List Value} {R:List Blk} {ops:Array Oper} [ht:Und P t (.slice e)] [he:Elem P e sz by_] (hn:Nat.blt d n.sz=true)
 (hx:ev s x=some (sl A n' c)) (hy:ev s y=some (.slice (some a2) m c')) (hsel:Sel (.own A e sz n' c xs) H R)
 (hnews: ∀ w,Mem w0 w H→ ∀ j u,news[j]? =some u→w.cell? (a2.add j)=some u) (hl:news.length=m*sz) (h1: ∀ u∈news,u.oneCell' =true) (hby:(n' +m)*by_≤140737488355328) (h63:n' +m≤maxLen)
 (k: ∀ A' cap',(0<n' +m→ ∃ g,A' =some g)→WL P n w0 ops rest Q ((d,sl A' (n' +m) cap')::s) (.own A' e sz (n' +m) cap' (xs++news)::R)):
 WL P n w0 ops (⟨some d,.call { callee:= .builtin .append,args:= #[x,y],argTypes:= #[t,t] },ty,p,af,none⟩::rest) Q s H:=by
 intro a w hs hm;have hm' :=hm.sel hsel;obtain ⟨i,z,i1,i2,i3,i4,i5,i6⟩:=he.out;have hb:=(hm'.on _ QY);have hown:w.ownsRow w0.heap.size e sz (sl A n' c) n' xs:=by
  obtain ⟨⟨b1,b2,b3,b4⟩,b5⟩:=hb;refine ⟨b1,?_⟩
  cases A with
  |none=>obtain ⟨rfl,rfl⟩:=b4;exact .inl ⟨rfl,rfl⟩
  |some g=>
   obtain ⟨junk,j1,j2⟩:=b4;refine .inr ⟨g,c,_,rfl,b5 g rfl,j2,b2,b3,by simpa using j1,?_⟩;simp only [Ul];rw [← b1,TQ]
 obtain ⟨v',w',hr,h2,h3,h4,h5⟩:=run_append_own_at (P:=P) w w0.heap.size t ty e i z sz by_ ht.out i1 i4 i2 i3 i5 i6 (sl A n' c) n' xs hown a2 m c' news hl
  (hnews w hm) h1 h63 hby hm.below.size
 have hsh: ∃ A' cap',v' =sl A' (n' +m) cap' ∧(Blk.own A' e sz (n' +m) cap' (xs++news)).on w' ∧(0<n' +m→ ∃ g,A' =some g):=by
  obtain ⟨q1,q2⟩:=h2;rcases q2 with ⟨rfl,q3⟩|⟨g,cap,cur,rfl,_,q4,q5,q6,q7,q8⟩
  ·refine ⟨none,0,by rw [q3];rfl,⟨q1,by omega,QZ _,q3,rfl⟩,fun h=>by omega⟩
  ·refine ⟨some g,cap,rfl,⟨q1,q5,q6,cur.toList.drop ((n' +m)*sz),?_,?_⟩,fun _=>⟨g,rfl⟩⟩
   ·rw [← q8,Sd];simpa using q7
   ·rw [← q8,Sd];simpa using q4
 obtain ⟨A',cap',rfl,hon,hsome⟩:=hsh;refine wpList_plain rfl fun K hK=> ?_;unfold Oper.wp execOp;simp only [resolve,invoke,builtin,Sem.run_bind,Sem.run_pure,Result.andThen_ok,Tp,RP,SE,hs.eval x _ hx,hs.eval y _ hy,hr,Oper.upon];have hkey: ∀ (B:Option Nat) (q r:Nat),(sl B q r).ownBlock=B:=fun B q r=>by cases B<;>rfl
 rw [hkey] at h3;refine hK _ _ (k A' cap' hsome _ _ (hs.put (Sa ▸ hn) _) (hm'.upd h3 hon fun j hj=> ?_));rw [hkey,hkey] at h5;simp only [Blk.key] at hj ⊢;rcases h5 with h5|h5
 ·left;rw [← h5];exact hj
 ·right;rw [h5] at hj;injection hj with hj;omega
theorem uh (w:World) (t ty e:TypeId) (i:TypeInfo) (ht:P.underlying t=some (.slice e)) (hi:P.info? e=some i) (B:Option Addr) (m c c' :Nat) (h:m≤c):
 (Builtin.append_ #[t,t] ty #[.slice B m c,.slice none 0 c']).run P w= .ok (.slice B m c) w:=by
 cases B<;>simp [Builtin.append_,run_underlying ht,sizeOf,typeInfo,hi,Builtin.lenOf,Builtin.firstCells,h,storeCells]
theorem eJ {d t e n' c m sz by_:Nat} {A:Option Nat} {x y:Operand} {yv:Value} {xs news:List Value} {R:List Blk} {ops:Array Oper} [ht:Und P t (.slice e)] [he:Elem P e sz by_] (hn:Nat.blt d n.sz=true)
 (hx:ev s x=some (sl A n' c)) (hy:ev s y=some yv) (hsel:Sel (.own A e sz n' c xs) H R)
 (hnews: ∀ w,Mem w0 w H→Reads w yv m news) (hl:news.length=m*sz) (h1: ∀ u∈news,u.oneCell' =true) (hby:(n' +m)*by_≤140737488355328) (h63:n' +m≤maxLen)
 (k: ∀ A' cap',(0<m→ ∃ g,A' =some g)→WL P n w0 ops rest Q ((d,sl A' (n' +m) cap')::s) (.own A' e sz (n' +m) cap' (xs++news)::R)):
 WL P n w0 ops (⟨some d,.call { callee:= .builtin .append,args:= #[x,y],argTypes:= #[t,t] },ty,p,af,none⟩::rest) Q s H:=by
 intro a w hs hm;have hm' :=hm.sel hsel;have hb:=(hm'.on _ QY).1;obtain ⟨B,c',rfl,h2,h3,h4⟩:=hnews w hm;by_cases h0:m=0
 ·subst h0;have hnil:news= []:=Sl (by simpa using hl);subst hnil
  cases B with
  |some a2=>exact u4 hn hx hy hsel (fun w hm j u hu=>by simp at hu) hl h1 hby h63 (fun A' cap' hA=>k A' cap' (fun h=>by omega)) a w hs hm
  |none=>
   obtain ⟨i,z,i1,i2,i3,i4,i5,i6⟩:=he.out;have hr:=uh (P:=P) w t ty e i ht.out i1 (A.map fun g=>⟨g,0,none⟩) n' c c' hb.2.1;refine wpList_plain rfl fun K hK=> ?_;unfold Oper.wp execOp;simp only [resolve,invoke,builtin,Sem.run_bind,Sem.run_pure,Result.andThen_ok,Tp,RP,SE,hs.eval x _ hx,hs.eval y _ hy,sl,hr,Oper.upon];refine hK _ _ (k A c (fun h=>by omega) _ _ (hs.put (Sa ▸ hn) _) ?_);simpa using hm'
 ·obtain ⟨g,o,rfl,hro⟩:=h4 (by omega)
  exact eu hn hx hy hsel (fun w' hm2=>by
   obtain ⟨B,c'',e1,e2,e3,e4⟩:=hnews w' hm2;obtain ⟨g',o',e5,hro'⟩:=e4 (by omega);injection e1 with e1 e1' e1'';subst e1;injection e5 with e5;injection e5 with e5 e6;subst e5;subst e6;exact hro'.cells) hl h1 hby h63 (fun A' cap' hA=>k A' cap' (fun h=>hA (by omega))) a w hs hm
end
theorem Kq {P:Program} {w0:World} {s:az} {H:List Blk} {ty:TypeId} {x y:Operand} {a b m:Nat} {ts:Array TypeId} (hx:ev s x=some (.int .i64 (a:Nat))) (hy:ev s y=some (.int .i64 (b:Nat))) (hm:min a b=m):
 VOp P w0 s H (.call { callee:= .builtin .min,args:= #[x,y],argTypes:=ts }) ty (.int .i64 (m:Nat)):=by
 have h:(if ((b:Nat):Int)<((a:Nat):Int) then ((b:Nat):Int) else ((a:Nat):Int))=((m:Nat):Int):=by
  split<;>omega
 rw [← h];exact iX hx hy
theorem Ic {P:Program} {w0:World} {s:az} {H:List Blk} {ty t hi:Nat} {a:ByteArray} {x q:Operand} {k:IntKind} [ht:Und P t .string] (hx:ev s x=some (.string a)) (hq:ev s q=some (.int k (hi:Nat))) (h2:hi≤a.size):
 VOp P w0 s H (.slice t x none (some q) none) ty (.string (a.extract 0 hi)):=fun ρ w _ _ _ _ hρ _=>by
 have e2:((hi:Nat):Int)≤((a.size:Nat):Int):=by omega
 simp [execOp,hρ x _ hx,hρ q _ hq,Instr.sliceAt,run_underlying ht.out,Instr.slice,Instr.sliceBounds,Instr.sliceBound,asIntOf,h2]
section
variable {P:Program} {n:Fr} {w0:World} {Q:bS} {s:az} {H:List Blk} {rest:List Oper} {ty:TypeId} {p:String} {af:Array Edge}
theorem uZ {d t e m sz:Nat} {ps:List (Nat × Operand)} {vs xs zs:List Value} {ops:Array Oper} [ht:Und P t (.array m e)] [he:Size P e sz] [hz:ZeroC P t zs] (hn:Nat.blt d n.sz=true) (hps:evd s ps 0=some vs)
 (hs0:Nat.blt 0 sz=true) (hl:Nat.beq (vs.length*sz) zs.length=true) (h1:yL sz vs=true) (hx:uo (flat vs)=some xs) (k:WL P n w0 ops rest Q ((d,.agg xs.toArray)::s) H):
 WL P n w0 ops (⟨some d,.build t ps.toArray,ty,p,af,none⟩::rest) Q s H:=by
 refine uF rfl d rfl hn (fun a w hs hm=> ?_) k;obtain ⟨it,z,i1,i2,i3⟩:=hz.out;obtain ⟨ie,j1,j2⟩:=he.out;have hall:=oT h1;have hlen:=R0 hl;have hfill:=Great.fill_whole (s:=sz) (by simpa using hs0) vs z.cells hall (by rw [i3];simp [hlen]);rw [← uP hs hps] at hfill;have hb:P.built t (ps.map fun (x:Nat × Operand)=>(x.1,a.eval x.2))=some (flat vs).toArray:=by
  unfold Program.built;simp only [i1,ht.out,i2,j1,j2];exact hfill
 have hr:=run_build (P:=P) w t (ps.map fun (x:Nat × Operand)=>(x.1,a.eval x.2)).toArray (flat vs).toArray (by simpa using hb);rw [jv hx];simp only [execOp,Tp];simp only [Sem.run_bind,hr,Result.andThen_ok,Sem.run_pure]
theorem aD {d t e n' c g sz by_:Nat} {A:Option Nat} {x y:Operand} {xs news:List Value} {R:List Blk} {ops:Array Oper} [ht:Und P t (.slice e)] [he:Elem P e sz by_] (hn:Nat.blt d n.sz=true)
 (hx:ev s x=some (sl A n' c)) (hy:ev s y=some (.slice (some ⟨g,0,none⟩) 1 1)) (hsel:Sel (.own A e sz n' c xs) H R)
 (hi:In (.own (some g) e sz 1 1 news) H) (hl:news.length=sz) (h1: ∀ u∈news,u.oneCell' =true) (hby:(n' +1)*by_≤140737488355328) (h63:n' +1≤maxLen)
 (k: ∀ g' cap',WL P n w0 ops rest Q ((d,sl (some g') (n' +1) cap')::s) (.own (some g') e sz (n' +1) cap' (xs++news)::R)):
 WL P n w0 ops (⟨some d,.call { callee:= .builtin .append,args:= #[x,y],argTypes:= #[t,t] },ty,p,af,none⟩::rest) Q s H:=
 eJ (m:=1) hn hx hy hsel (fun w hm=>Reads.of_own (A:=some g) hm hi) (by omega) h1 hby h63 fun A' cap' hA=>by
  obtain ⟨g',rfl⟩:=hA (by omega);exact k g' cap'
end
section
variable {P:Program} {n:Fr} {w0:World} {Q:bS} {s:az} {H:List Blk} {l rest:List Oper} {ty:TypeId} {p:String} {af:Array Edge}
theorem HY {d:Nat} {ops:Array Oper} {f:FuncId} {c:Operand} {xs:List Operand} {vs bs:List Value} {ts:Array TypeId} {R D:Value→List Blk→Prop} (hn:Nat.blt d n.sz=true) (hc:ev s c=some (.func (.func f) bs.toArray #[])) (hfc:Callable P f) (hx:evs s xs=some vs)
 (hF:FnP P f (bs++vs) w0 H R D) (k: ∀ v H',R v H' →WL P n w0 ops rest Q ((d,v)::s) H') (kd: ∀ v H',D v H' →Q (.panic (jO v)) s H'):
 WL P n w0 ops (⟨some d,.call { callee:= .value c,args:=xs.toArray,argTypes:=ts },ty,p,af,none⟩::rest) Q s H:=by
 intro a w hs hm;refine wpList_plain rfl fun K hK=> ?_;have hr:=yO (P:=P) (w:=w) (ρ:=a.eval) (d:=some d) (ty:=ty) (p:=p) (af:=af) (g:=none) (f:=f) (c:=c) (xs:=xs) (bs:=bs) (ts:=ts) (hs.eval c _ hc) (fM hs hx);simp only [Oper.wp,hr,Oper.upon];refine (hF w hm).mono ?_;rintro e w' (⟨v,H',rfl,hm',hR⟩|⟨v,H',rfl,hm',hD⟩)
 ·exact hK _ _ (k v H' hR _ _ (hs.put (Sa ▸ hn) _) hm')
 ·exact ⟨s,H',hs,hm',kd v H' hD⟩
theorem IB {ρ:Operand→Value} {w:World} {d:Option Tmp} {g:Option (Nat × Bool)} {f:FuncId} {c:Operand} {xs:List Operand} {vs bs caps:List Value} {ts:Array TypeId} (hf:Callable P f) (hc:ρ c= .func (.func f) bs.toArray caps.toArray) (hx:xs.map ρ=vs):
 (execOp ρ ⟨d,.call { callee:= .value c,args:=xs.toArray,argTypes:=ts },ty,p,af,g⟩).run P w= .ok (.enter f (bs++(vs++caps)).toArray) w:=by
 simp [execOp,resolve,hc,Deferred.ofValue,invoke,← hx,hf.out]
theorem yo {d:Nat} {ops:Array Oper} {f:FuncId} {c:Operand} {xs:List Operand} {vs bs caps:List Value} {ts:Array TypeId} {R D:Value→List Blk→Prop} (hn:Nat.blt d n.sz=true) (hc:ev s c=some (.func (.func f) bs.toArray caps.toArray)) (hfc:Callable P f) (hx:evs s xs=some vs)
 (hF:FnP P f (bs++(vs++caps)) w0 H R D) (k: ∀ v H',R v H' →WL P n w0 ops rest Q ((d,v)::s) H') (kd: ∀ v H',D v H' →Q (.panic (jO v)) s H'):
 WL P n w0 ops (⟨some d,.call { callee:= .value c,args:=xs.toArray,argTypes:=ts },ty,p,af,none⟩::rest) Q s H:=by
 intro a w hs hm;refine wpList_plain rfl fun K hK=> ?_;have hr:=IB (P:=P) (w:=w) (ρ:=a.eval) (d:=some d) (ty:=ty) (p:=p) (af:=af) (g:=none) (f:=f) (c:=c) (xs:=xs) (bs:=bs) (caps:=caps) (ts:=ts) hfc (hs.eval c _ hc) (fM hs hx);simp only [Oper.wp,hr,Oper.upon];refine (hF w hm).mono ?_;rintro e w' (⟨v,H',rfl,hm',hR⟩|⟨v,H',rfl,hm',hD⟩)
 ·exact hK _ _ (k v H' hR _ _ (hs.put (Sa ▸ hn) _) hm')
 ·exact ⟨s,H',hs,hm',kd v H' hD⟩
class FldT (P:Program) (t f:Nat) (ft:outParam TypeId) (o:outParam Nat):Prop where
 out: ∃ fs fl,P.underlying t=some (.struct fs)∧fs[f]? =some fl∧fl.offset=o∧fl.type=ft
theorem ee {x:Operand} {t f o:Nat} {ft:TypeId} {cs:List Value} {v:Value} [hf:FldT P t f ft o] [ho:One P ft] (hx:ev s x=some (.agg cs.toArray)) (hi:cs[o]? =some v):
 VOp P w0 s H (.field t x f) ty v:=fun ρ w _ _ _ _ hρ _=>by
 obtain ⟨fs,fl,h1,h2,rfl,rfl⟩:=hf.out;obtain ⟨d,h5,h6⟩:=ho.out;have hp:(part fl.type cs.toArray fl.offset).run P w= .ok v w:=by
  cases d<;>simp_all [part,isAgg,run_underlying h5]
 simp [execOp,hρ x _ hx,Instr.field,run_underlying h1,h2,asAgg,hp]
end
section
variable {P:Program} {n:Fr} {w0:World} {s:az} {H H1:List Blk} {l rest:List Oper} {ty:TypeId} {p:String} {af:Array Edge} {K:az→Prop} {k j f:Nat}
theorem u7 {op:Op} {d jg dg:Nat} {du:Bool} {v:Value} (hj:gd l jg=some dg) (hg:look s dg=some (.bool du)) (hn:Nat.blt d n.sz=true) (hr:ju l f j k=true) (hne:Nat.beq j k=false) (hv:VOp P w0 s H op ty v)
 (h:WG P n w0 l (fun D=>if D j then H1 else H) K rest (k+1) ((d,v)::s)):
 WG P n w0 l (fun D=>if D j then H1 else H) K (⟨some d,op,ty,p,af,some (jg,du)⟩::rest) k s:=by
 intro a hs hl;have h0:l[k]? =some ⟨some d,op,ty,p,af,some (jg,du)⟩:=by simpa using (hl 0).symm
 have hy:=iq hs hj hg;have hkj: ∀ D:f9,put D k j=D j:=fun D=>by
  unfold put;rw [if_neg];intro e;subst e;rw [Nat.beq_refl] at hne;cases hne
 refine ⟨v,.inl ⟨by simp [Region.wanted,hy,kY],fun L w hrd hc=> ?_⟩,h _ (hs.put (Sa ▸ hn) v) fun j=>by have:=hl (j+1);simpa [SC,Th 1 j] using this⟩;obtain ⟨ht,hd,hnext⟩:=jY h0 hrd hc;have hm:=hc.2.2;have hD:=ht.late hr;simp only [hD,RY,if_false] at hm;rw [hv a.eval w _ _ _ _ hs.eval hm];refine ⟨rfl,hnext w ?_⟩;simp only [hkj,hD,RY,if_false];exact hm
theorem ML {op:Op} {d jg dg:Nat} {du:Bool} {u:Value} (hj:gd l jg=some dg) (hg:look s dg=some u) (hw:(kY u==some du)=false) (hn:Nat.blt d n.sz=true) (hne:Nat.beq j k=false)
 (h:WG P n w0 l (fun D=>if D j then H1 else H) K rest (k+1) ((d,undef)::s)):
 WG P n w0 l (fun D=>if D j then H1 else H) K (⟨some d,op,ty,p,af,some (jg,du)⟩::rest) k s:=by
 intro a hs hl;have h0:l[k]? =some ⟨some d,op,ty,p,af,some (jg,du)⟩:=by simpa using (hl 0).symm
 have hy:=iq hs hj hg;have hkj: ∀ D:f9,put D k j=D j:=fun D=>by
  unfold put;rw [if_neg];intro e;subst e;rw [Nat.beq_refl] at hne;cases hne
 refine ⟨undef,.inr ⟨by simp only [Region.wanted,hy];exact hw,rfl,fun L w hrd hc=> ?_⟩,h _ (hs.put (Sa ▸ hn) _) fun j=>by have:=hl (j+1);simpa [SC,Th 1 j] using this⟩;obtain ⟨ht,hd,hnext⟩:=jY h0 hrd hc;refine hnext w ?_;simp only [hkj];exact hc.2.2
end
theorem kD {P:Program} {w0:World} {s:az} {H:List Blk} {ty:TypeId} {x:Operand} {t g o off m:Nat} {xs ys:List Value} [Agg P t m] (hc: ∀ w,Mem w0 w H→Cells w g o xs) (hx:ev s x=some (.pointer (some ⟨g,o+off,none⟩))) (hv:(xs.drop off).take m=ys) (hl:ys.length=m):
 VOp P w0 s H (.load t x) ty (.agg ys.toArray):=fun ρ w _ _ _ _ hρ hm=>by
 subst hv;have hc:Cells w g (o+off) ((xs.drop off).take m):=((hc w hm).drop (k:=off)).take (k:=m);simp [execOp,hρ x _ hx,Instr.loadAt,Instr.sureAddr,iN (P:=P) hl hc]
theorem Kj {P:Program} {n:Fr} {w0:World} {Q:bS} {s:az} {H:List Blk} {c:Code} {lv:Value} {m:Nat} {xs:List Value} (hr: ∀ w,Mem w0 w H→Reads w lv m xs) (h0:0<m) (h: ∀ g o cp,lv= .slice (some ⟨g,o,none⟩) m cp→W P n w0 c Q s H):W P n w0 c Q s H:=fun a w hs hm=>by
 obtain ⟨A,cp,e,_,_,h3⟩:=hr w hm;obtain ⟨g,o,e2,_⟩:=h3 h0;exact h g o cp (by rw [e,e2]) a w hs hm
theorem Ow {P:Program} {n:Fr} {w0:World} {Q:bS} {s:az} {H:List Blk} {c:Code} {lv:Value} {m:Nat} {xs:List Value} (hr: ∀ w,Mem w0 w H→Reads w lv m xs) (h: ∀ A cp,lv= .slice A m cp→W P n w0 c Q s H):W P n w0 c Q s H:=fun a w hs hm=>by
 obtain ⟨A,cp,e,_⟩:=hr w hm;exact h A cp e a w hs hm
theorem xA {w:World} {g o m cp:Nat} {xs:List Value} (h:Reads w (.slice (some ⟨g,o,none⟩) m cp) m xs) (h0:0<m):Cells w g o xs:=by
 obtain ⟨A,c,e,_,_,h3⟩:=h;obtain ⟨g',o',rfl,h4⟩:=h3 h0;cases e;exact h4.cells
def bat (a:ByteArray) (i:Nat):Int:=(ap a).getD i 0
def sub (a:ByteArray) (lo hi:Nat):ByteArray:=a.extract lo hi
theorem eU (a:ByteArray) (lo hi:Nat):ap (sub a lo hi)=((ap a).drop lo).take (hi - lo):=AC a lo hi
theorem co (a:ByteArray) {lo hi:Nat} (h:hi≤a.size):(sub a lo hi).size=hi - lo:=by simp [sub];omega
theorem oX (a:ByteArray) (lo:Nat):ap (sub a lo a.size)=(ap a).drop lo:=by
 rw [eU,Sf];simp [av]
theorem uM (a:ByteArray) (hi:Nat):ap (sub a 0 hi)=(ap a).take hi:=by
 rw [eU,SP,Td]
theorem il {a:ByteArray} {i:Nat} (h:i<a.size):(ap a)[i]? =some (bat a i):=by
 have hl:i<(ap a).length:=by rw [av];exact h
 rw [bat,RJ,QU hl]
 rfl
theorem s5 (a:ByteArray) (i:Nat):0≤bat a i∧bat a i<256:=by
 rw [bat,RJ]
 cases h:(ap a)[i]? with
 |none=>simp
 |some c=>exact nD a c (Uf h)
theorem bi {a:ByteArray} {i:Nat} (h:i<a.size):(ap a).drop i=bat a i::(ap a).drop (i+1):=by
 have hl:i<(ap a).length:=by rw [av];exact h
 rw [Rn hl];have:=il h;rw [QU hl] at this;rw [Option.some.inj this]
theorem wV:ap ax= []:=rfl
theorem LK {a:ByteArray}:ap a= []↔a=ax:=⟨fun h=>wU (h.trans wV.symm),fun h=>by rw [h];rfl⟩
theorem iH (a b:ByteArray):ap (a++b)=ap a++ap b:=by simp [ap]
section
variable {P:Program} {n:Fr} {w0:World} {Q:bS} {s:az} {H:List Blk} {l rest:List Oper} {ty:TypeId} {p:String} {af:Array Edge}
theorem aX {x ix:Operand} {t j:Nat} {a:ByteArray} {k:IntKind} [ht:Und P t .string] (hx:ev s x=some (.string a)) (hi:ev s ix=some (.int k (j:Nat))) (hj:j<a.size):VOp P w0 s H (.index t x ix) ty (.int .u8 (bat a j)):=by
 have h:=tA (P:=P) (w0:=w0) (H:=H) (ty:=ty) (t:=t) hx hi hj;have e:((a[j]'hj).toNat:Int)=bat a j:=by
  have h1:=il hj;have h2:=ra a j hj;rw [QU (by rw [av];exact hj),h2] at h1;exact Option.some.inj h1
 rw [← e];exact h
theorem O4 {x ix:Operand} {t:Nat} {a:ByteArray} {k:IntKind} [ht:Und P t .string] (hx:ev s x=some (.string a)) (hi:ev s ix=some (.int k 0)) (hj:0<a.size):VOp P w0 s H (.index t x ix) ty (.int .u8 (bat a 0)):=aX (j:=0) hx hi hj
theorem gM {t lo hi:Nat} {a:ByteArray} {x q r:Operand} {k k' :IntKind} [ht:Und P t .string] (hx:ev s x=some (.string a)) (hr:ev s r=some (.int k' (lo:Nat))) (hq:ev s q=some (.int k (hi:Nat))) (h:lo≤hi∧hi≤a.size):
 VOp P w0 s H (.slice t x (some r) (some q) none) ty (.string (sub a lo hi)):=EN hx hr hq h.1 h.2
theorem vq {t lo:Nat} {a:ByteArray} {x r:Operand} {k' :IntKind} [ht:Und P t .string] (hx:ev s x=some (.string a)) (hr:ev s r=some (.int k' (lo:Nat))) (h1:lo≤a.size):
 VOp P w0 s H (.slice t x (some r) none none) ty (.string (sub a lo a.size)):=vw hx hr h1
theorem MQ {t:Nat} {a:ByteArray} {x r:Operand} {k' :IntKind} [ht:Und P t .string] (hx:ev s x=some (.string a)) (hr:ev s r=some (.int k' 1)) (h1:1≤a.size):
 VOp P w0 s H (.slice t x (some r) none none) ty (.string (sub a 1 a.size)):=vw (lo:=1) hx hr h1
theorem EF {t hi:Nat} {a:ByteArray} {x q:Operand} {k:IntKind} [ht:Und P t .string] (hx:ev s x=some (.string a)) (hq:ev s q=some (.int k (hi:Nat))) (h2:hi≤a.size):
 VOp P w0 s H (.slice t x none (some q) none) ty (.string (sub a 0 hi)):=Ic hx hq h2
theorem kr {x y:Operand} {a b c:ByteArray} {t t' :TypeId} (hx:ev s x=some (.string a)) (hy:ev s y=some (.string b)) (e:a++b=c) (h:a.size+b.size≤1000000000):VOp P w0 s H (.binOp .add t x y t') ty (.string c):=e ▸ O7 hx hy (by simp only [maxLen];omega)
theorem EJ {x y:Operand} {k:IntKind} {a b:Int} {t t' :TypeId} (hx:ev s x=some (.int k a)) (hy:ev s y=some (.int k b)):VOp P w0 s H (.binOp .mul t x y t') ty (.int k (k.wrap (a*b))):=fun ρ w _ _ _ _ hρ _=>by
 simp [execOp,hρ x _ hx,hρ y _ hy,eqGuard,binOp,Op.intArith]
theorem cR {x:Operand} {k k' :IntKind} {a c:Int} {t t' :TypeId} {d:TypeDesc} [hs:Und P t d] [hd:Und P t' (.int k')] (hx:ev s x=some (.int k a)) (hw:k'.wrap a=c):VOp P w0 s H (.convert t t' x) ty (.int k' c):=hw ▸ EO hx
theorem eK {x:Operand} {A:Addr} (hx:ev s x=some (.pointer (some A))):VOp P w0 s H (.nilCheck x) ty (.pointer (some A)):=fun ρ w _ _ _ _ hρ _=>by
 simp [execOp,hρ x _ hx]
theorem wo {t e:TypeId} (h:P.underlying t=some (.pointer e)):P.underlying t=some (.pointer (P.pointee t)):=by
 rw [h];simp [Program.pointee,h]
theorem MT {x:Operand} {A:Option Addr} {t e t' :TypeId} [ht:Und P t (.pointer e)] (hx:ev s x=some (.pointer A)):VOp P w0 s H (.binOp .eql t x (.const (.pointer none)) t') ty (.bool A.isNone):=fun ρ w _ _ _ _ hρ _=>by
 have hc:=hρ (.const (.pointer none)) _ rfl;simp [execOp,hρ x _ hx,hc,eqGuard,run_eql_pointer_nil w t A (wo ht.out)]
theorem MR {x:Operand} {A:Option Addr} {t e t' :TypeId} [ht:Und P t (.pointer e)] (hx:ev s x=some (.pointer A)):VOp P w0 s H (.binOp .neq t x (.const (.pointer none)) t') ty (.bool A.isSome):=fun ρ w _ _ _ _ hρ _=>by
 have hc:=hρ (.const (.pointer none)) _ rfl;simp [execOp,hρ x _ hx,hc,eqGuard,run_neq_pointer_nil w t A (wo ht.out)]
theorem zR {ι:Type} {id:Nat} {ops:Array Oper} {d:Bool} {y z:Code} (sI:ι→az) (HI:ι→List Blk) (ok:ι→Prop) (h:W P n w0 (.seq (.region id ops d) y) (bH sI HI ok Q) s H) (k: ∀ i,ok i→W P n w0 z Q (sI i) (HI i)):
 W P n w0 (.seq (.region id ops d) y) (thn (W P n w0 z Q) Q) s H:=
 rN _ _ _ h k
theorem vn {ι:Type} {id:Nat} {ops:Array Oper} {d:Bool} {z:Code} (sI:ι→az) (HI:ι→List Blk) (ok:ι→Prop) (h:W P n w0 (.region id ops d) (bH sI HI ok Q) s H) (k: ∀ i,ok i→W P n w0 z Q (sI i) (HI i)):
 W P n w0 (.region id ops d) (thn (W P n w0 z Q) Q) s H:=
 rN _ _ _ h k
theorem GQ {ι:Type} {sb:az} {id:Nat} {ops:Array Oper} {d:Bool} {y z:Code} (ts:List Nat) (hk:Dz s ts=some sb) (sI:ι→az) (HI:ι→List Blk) (ok:ι→Prop) (h:W P n w0 (.seq (.region id ops d) y) (bH (fun i=>sI i++sb) HI ok Q) s H) (k: ∀ i,ok i→W P n w0 z Q (sI i++sb) (HI i)):
 W P n w0 (.seq (.region id ops d) y) (thn (W P n w0 z Q) Q) s H:=
 rN _ _ _ h k
end
theorem JT {P:Program} {f:FuncId} {args:Array Value} {w:World} {u v:Value} {A B:World→Prop} (hi:P.inits.idxOf? f=none) (h1:Calls P f args w fun e w' =>e= .returned u∧A w') (h2:Calls P f args w fun e w' =>e= .returned v∧B w'):u=v:=by
 obtain ⟨e1,w1,fr1,⟨rfl,_⟩,⟨n1,s1⟩,f1,l1⟩:=h1 [];obtain ⟨e2,w2,fr2,⟨rfl,_⟩,⟨n2,s2⟩,f2,l2⟩:=h2 [];have d1:=step_leave_done l1 (by rw [f1];exact hi);have d2:=step_leave_done l2 (by rw [f2];exact hi);have key: ∀ (a b:Nat) (m x y:Machine) (o:Outcome) (w:World),a≤b→runN P a m= .next x→runN P b m= .next y→step P x= .ended o w→x=y:=by
  intro a b m x y o w hab hx hy hd;obtain ⟨c,rfl⟩:=Nat.exists_eq_add_of_le hab;rw [runN_add,hx] at hy
  cases c with
  |zero=>simp only [runN,Stepped.next.injEq] at hy;exact hy
  |succ c=>simp [runN,hd] at hy
 have hm:lone fr1 [] w1=lone fr2 [] w2:=by
  rcases Nat.le_total n1 n2 with h|h
  ·exact key _ _ _ _ _ _ _ h s1 s2 d1
  ·exact (key _ _ _ _ _ _ _ h s2 s1 d2).symm
 rw [hm,d2] at d1;simp only [Stepped.ended.injEq,Outcome.done.injEq] at d1;exact d1.1.symm
abbrev Gh:=Option Nat × Nat
def upd (γ:Nat→Gh) (k:Nat) (g:Gh):Nat→Gh:=fun i=>if i=k then g else γ i
section
variable {P:Program} {ops:Array Oper} {md:Region.Mode}
def HM (P:Program) (D:World→Prop) (v:Value):Result Next→Prop
 | .ok (.value u) w' =>u=v∧D w'
 | .ok .skip w' =>v=undef∧D w'
 | .ok (.enter f args) w' =>P.inits.idxOf? f=none∧Calls P f args w' fun e w'' =>e= .returned v∧D w''
 |_=>False
def xG (P:Program) (φ:Gh→Value) (D:Gh→World→Prop):Result Next→Prop
 | .ok (.value u) w' => ∃ g,u=φ g∧D g w'
 | .ok .skip w' => ∃ g,undef=φ g∧D g w'
 | .ok (.enter f args) w' =>Calls P f args w' fun e w'' => ∃ g,e= .returned (φ g)∧D g w''
 | .ok (.row row args) w' =>Rows P row args w' fun u w'' => ∃ g,u=φ g∧D g w''
 |_=>False
variable (V:Nat→Option (Gh→Value)) (C:(Nat→Gh)→Array Bool→World→Prop)
inductive GX (P:Program) (md:Region.Mode) (ops:Array Oper) (V:Nat→Option (Gh→Value)) (C:(Nat→Gh)→Array Bool→World→Prop) (γ:Nat→Gh) (i:Nat) (o:Oper) (v:Value) (a:Act):Prop
 |pass (hw:Region.wanted o (yielded ops a.tmps)=false) (hv:v=undef) (hC: ∀ L w,i∈Region.ready md ops L→C γ L w→C γ (L.setIfInBounds i true) w)
 |det (hw:Region.wanted o (yielded ops a.tmps)=true) (hV:V i=none) (hC: ∀ L w,i∈Region.ready md ops L→C γ L w→HM P (C γ (L.setIfInBounds i true)) v ((execOp a.eval o).run P w))
 |non (hw:Region.wanted o (yielded ops a.tmps)=true) (φ:Gh→Value) (hV:V i=some φ) (hv:v=φ (γ i)) (hC: ∀ L w,i∈Region.ready md ops L→C γ L w→xG P φ (fun g=>C (upd γ i g) (L.setIfInBounds i true)) ((execOp a.eval o).run P w))
variable {V C}
theorem GX.of_same {γ:Nat→Gh} {i:Nat} {o:Oper} {v:Value} {a a' :Act} (hy:GX P md ops V C γ i o v a) (he:execOp a'.eval o=execOp a.eval o)
 (hw:Region.wanted o (yielded ops a'.tmps)=Region.wanted o (yielded ops a.tmps)):GX P md ops V C γ i o v a' :=by
 cases hy with
 |pass h1 h2 h3=>exact .pass (hw.trans h1) h2 h3
 |det h1 h2 h3=>exact .det (hw.trans h1) h2 (by rw [he];exact h3)
 |non h1 φ h2 h3 h4=>exact .non (hw.trans h1) φ h2 h3 (by rw [he];exact h4)
def xOp (P:Program) (md:Region.Mode) (ops:Array Oper) (V:Nat→Option (Gh→Value)) (C:(Nat→Gh)→Array Bool→World→Prop) (γ:Nat→Gh) (i:Nat) (K:Act→Prop) (a:Act):Prop:=
 ∃ o v,ops[i]? =some o∧GX P md ops V C γ i o v a∧K (a.put o.dst v)
def Eu (P:Program) (md:Region.Mode) (ops:Array Oper) (V:Nat→Option (Gh→Value)) (C:(Nat→Gh)→Array Bool→World→Prop) (γ:Nat→Gh) (Q:Act→Prop):Nat→Array Bool→Act→Prop
 |0,L,a=>Region.ready md ops L= []∧Q a
 |f+1,L,a=>(Region.ready md ops L= []→Q a)∧ ∀ i∈Region.ready md ops L,xOp P md ops V C γ i (Eu P md ops V C γ Q f (L.setIfInBounds i true)) a
theorem J4 {γ:Nat→Gh} {i:Nat} {a:Act} {K K' :Act→Prop} (h: ∀ a,K a→K' a) (hh:xOp P md ops V C γ i K a):xOp P md ops V C γ i K' a:=
 let ⟨o,v,h1,h2,h3⟩:=hh
 ⟨o,v,h1,h2,h _ h3⟩
theorem MA {γ:Nat→Gh} {i j:Nat} {oi oj:Oper} {v:Value} (hj:ops[j]? =some oj) (hap:oi.apart ops oj=true)
 (hsi: ∀ cs b,oi.op≠ .select cs b) (hsj: ∀ cs b,oj.op≠ .select cs b) {K:Act→Prop} {a:Act}
 (hy:GX P md ops V C γ i oi v a) (h:xOp P md ops V C γ j K (a.put oi.dst v)):
 xOp P md ops V C γ j (fun a' =>GX P md ops V C γ i oi v a' ∧K (a'.put oi.dst v)) a:=by
 obtain ⟨h1,h2,h3⟩:=Oper.apart_spec hap;obtain ⟨o,u,ho,hg,hk⟩:=h;have e:o=oj:=Option.some.inj (ho.symm.trans hj);subst e;refine ⟨o,u,ho,hg.of_same (execOp_put o hsj a oi.dst v h1).symm (wanted_put o a oi.dst v h1).symm,hy.of_same (execOp_put oi hsi a o.dst u h3) (wanted_put oi a o.dst u h3),?_⟩;rw [← Act.put_comm a v u h2];exact hk
theorem xJ {γ:Nat→Gh} {Q:Act→Prop} {i:Nat} {oi:Oper} {v:Value} (hi:ops[i]? =some oi) (hsel: ∀ (j:Nat) (o:Oper) cs b,ops[j]? =some o→o.op≠ .select cs b):
 ∀ (f:Nat) (L:Array Bool) (a:Act),
  (∀ j oj,ops[j]? =some oj→j≠i→L.getD j true=false→(∀ e∈oj.after,Region.binds md e=true→e.on≠i)→oi.apart ops oj=true)→
  i∈Region.ready md ops L→GX P md ops V C γ i oi v a→Eu P md ops V C γ Q f (L.setIfInBounds i true) (a.put oi.dst v)→Eu P md ops V C γ Q (f+1) L a
 |0,L,a,_,hr,hy,H=>⟨fun h=>(by rw [h] at hr;cases hr),fun j hj=>by
   by_cases hji:j=i
   ·subst hji;exact ⟨oi,v,hi,hy,H⟩
   ·have:=ready_mono hj hji;rw [H.1] at this;cases this⟩
 |f+1,L,a,hfree,hr,hy,H=>⟨fun h=>(by rw [h] at hr;cases hr),fun j hj=>by
   by_cases hji:j=i
   ·subst hji;exact ⟨oi,v,hi,hy,H⟩
   ·have h1:=H.2 j (ready_mono hj hji);obtain ⟨hjun,oj,hoj,hall⟩:=mem_ready.1 hj;have hnot: ∀ e∈oj.after,Region.binds md e=true→e.on≠i:=fun e he hb heq=>by
     have h1:=hall e he hb;have h0:=(mem_ready.1 hr).1;rw [heq] at h1;rcases SW i L.size with h' |h'
     ·simp [h'] at h0 h1;rw [h0] at h1;cases h1
     ·simp [TI h'] at h1
    have h2:=MA hoj (hfree j oj hoj hji hjun hnot) (fun cs b=>hsel i oi cs b hi) (fun cs b=>hsel j oj cs b hoj) hy h1
    have hfree' : ∀ k ok,ops[k]? =some ok→k≠i→(L.setIfInBounds j true).getD k true=false→
     (∀ e∈ok.after,Region.binds md e=true→e.on≠i)→oi.apart ops ok=true:=fun k ok hk hki hun hno=>by
     refine hfree k ok hk hki ?_ hno;by_cases hjk:j=k
     ·subst hjk;exact hjun
     ·rw [getD_set_ne true hjk] at hun;exact hun
    refine J4 (fun a' h3=>xJ hi hsel f (L.setIfInBounds j true) a' hfree' (ready_mono hr (Ne.symm hji)) h3.1 ?_) h2;rw [Um _ _ hji];exact h3.2⟩
def wpX (P:Program) (md:Region.Mode) (ops:Array Oper) (V:Nat→Option (Gh→Value)) (C:(Nat→Gh)→Array Bool→World→Prop) (γ:Nat→Gh) (Q:Act→Prop):List Oper→Nat→Act→Prop
 | [],_,a=>Q a
 |o::r,k,a=> ∃ v,GX P md ops V C γ k o v a∧wpX P md ops V C γ Q r (k+1) (a.put o.dst v)
theorem Es {γ:Nat→Gh} {Q:Act→Prop} (hs:Region.noSelect ops=true): ∀ (l:List Oper) (k:Nat) (L:Array Bool) (a:Act),(∀ j,l[j]? =ops[k+j]?)→
 Region.lexFrom md ops l.length k L=true→wpX P md ops V C γ Q l k a→Eu P md ops V C γ Q l.length L a
 | [],_,_,_,_,hB,h=>⟨by simpa [Region.lexFrom] using hB,h⟩
 |o::l,k,L,a,hl,hB,h=>by
  have h0:ops[k]? =some o:=by simpa using (hl 0).symm
  simp only [Rk,Region.lexFrom,RB] at hB;obtain ⟨⟨hr,hf⟩,hB'⟩:=hB;obtain ⟨v,hy,hK⟩:=h
  exact xJ h0 (Region.noSelect_spec hs) l.length L a (Region.free_spec h0 hf) (by simpa using hr) hy
   (Es hs l (k+1) _ _ (fun j=>by have:=hl (j+1);simpa [SC,Th 1 j] using this) hB' hK)
def pS (L:Array Bool) (γ γ' :Nat→Gh):Prop:= ∀ i,L.getD i false=true→γ i=γ' i
theorem cZ {Q:(Nat→Gh)→Act→Prop} {Q' :Exit→Act→World→Prop} (hloc: ∀ L γ γ' w,pS L γ γ' →C γ L w→C γ' L w) (hsz: ∀ γ L w,C γ L w→L.size=ops.size) (hQ: ∀ γ L a w,Region.ready md ops L= []→C γ L w→Q γ a→Q' .normal a w):
 ∀ (f:Nat) (L:Array Bool) (a:Act) (w:World) (γ:Nat→Gh),C γ L w→(∀ γ',pS L γ γ' →Eu P md ops V C γ' (Q γ') f L a)→wpAny P md ops Q' f L a w
 |0,L,a,w,γ,hC,h=>⟨(h γ fun _ _=>rfl).1,hQ γ L a w (h γ fun _ _=>rfl).1 hC (h γ fun _ _=>rfl).2⟩
 |f+1,L,a,w,γ,hC,h=>⟨fun h0=>hQ γ L a w h0 hC ((h γ fun _ _=>rfl).1 h0),fun i hi=>by
   obtain ⟨o,v,ho,hg,hk⟩:=(h γ fun _ _=>rfl).2 i hi;obtain ⟨hun,_⟩:=mem_ready.1 hi;have hlt:i<L.size:=by
    rw [hsz γ L w hC];exact (RQ.1 ho).1
   have hi0:L.getD i false=false:=by
    simp [hlt] at hun ⊢;exact hun
   have hsub: ∀ γ' γ'',pS (L.setIfInBounds i true) γ' γ'' →pS L γ' γ'' :=fun γ' γ'' hag j hj=>by
    refine hag j ?_;by_cases e:i=j
    ·subst e;rw [hi0] at hj;cases hj
    ·rw [getD_set_ne false e];exact hj
   have hat: ∀ γ' γ'',pS (L.setIfInBounds i true) γ' γ'' →γ' i=γ'' i:=fun γ' γ'' hag=>hag i (by simp [hlt]);have hupd: ∀ g,pS L γ (upd γ i g):=fun g j hj=>by
    have:j≠i:=fun e=>by subst e;rw [hi0] at hj;cases hj
    simp [upd,this]
   -- what another prophecy says of this operation
   have other: ∀ γ'',pS L γ γ'' → ∃ v'',GX P md ops V C γ'' i o v'' a∧Eu P md ops V C γ'' (Q γ'') f (L.setIfInBounds i true) (a.put o.dst v''):=fun γ'' hag=>by
    obtain ⟨o'',v'',ho'',hg'',hk''⟩:=(h γ'' hag).2 i hi;have e:o'' =o:=Option.some.inj (ho''.symm.trans ho);subst e;exact ⟨v'',hg'',hk''⟩
   unfold wpOp;simp only [ho]
   cases hg with
   |pass hw hv hc=>
    subst hv;simp only [hw,RY,if_false];refine cZ hloc hsz hQ f _ _ _ γ (hc L w hi hC) fun γ'' hag=> ?_;obtain ⟨v'',hg'',hk''⟩:=other γ'' (hsub _ _ hag)
    cases hg'' with
    |pass _ hv'' _=>subst hv'';exact hk''
    |det hw'' _ _=>rw [hw] at hw'';cases hw''
    |non hw'' _ _ _ _=>rw [hw] at hw'';cases hw''
   |det hw hV hc=>
    simp only [hw,if_true];refine .inl ?_;have h1:=hc L w hi hC;have h2: ∀ γ'',pS L γ γ'' → ∃ v'',HM P (C γ'' (L.setIfInBounds i true)) v'' ((execOp a.eval o).run P w)∧Eu P md ops V C γ'' (Q γ'') f (L.setIfInBounds i true) (a.put o.dst v''):=fun γ'' hag=>by
     obtain ⟨v'',hg'',hk''⟩:=other γ'' hag
     cases hg'' with
     |pass hw'' _ _=>rw [hw] at hw'';cases hw''
     |det _ _ hc'' =>exact ⟨v'',hc'' L w hi (hloc L γ γ'' w hag hC),hk''⟩
     |non _ _ hV'' _ _=>rw [hV] at hV'';cases hV''
    unfold Oper.wp;generalize (execOp a.eval o).run P w=r at h1 h2 ⊢
    cases r with
    |ok x w' =>
     cases x<;>simp only [HM] at h1 h2<;>simp only [Oper.upon]
     case value u=>
      obtain ⟨rfl,h3⟩:=h1;refine cZ hloc hsz hQ f _ _ _ γ h3 fun γ'' hag=> ?_;obtain ⟨v'',⟨rfl,_⟩,hk''⟩:=h2 γ'' (hsub _ _ hag);exact hk''
     case skip=>
      obtain ⟨rfl,h3⟩:=h1;refine cZ hloc hsz hQ f _ _ _ γ h3 fun γ'' hag=> ?_;obtain ⟨v'',⟨rfl,_⟩,hk''⟩:=h2 γ'' (hsub _ _ hag);exact hk''
     case enter g args=>
      obtain ⟨hin,h3⟩:=h1;refine h3.mono fun e w'' ⟨he,h4⟩=> ?_;subst he;refine cZ hloc hsz hQ f _ _ _ γ h4 fun γ'' hag=> ?_;obtain ⟨v'',⟨_,h5⟩,hk''⟩:=h2 γ'' (hsub _ _ hag);rw [JT hin h3 h5];exact hk''
    |halt x w' =>simp only [HM] at h1
   |non hw φ hV hv hc=>
    simp only [hw,if_true];refine .inl ?_;have h1:=hc L w hi hC;have h2: ∀ g γ'',pS (L.setIfInBounds i true) (upd γ i g) γ'' →Eu P md ops V C γ'' (Q γ'') f (L.setIfInBounds i true) (a.put o.dst (φ g)):=fun g γ'' hag=>by
     have hag' :pS L γ γ'' :=fun j hj=>(hupd g j hj).trans (hsub _ _ hag j hj);have hgi:γ'' i=g:=by rw [← hat _ _ hag];simp [upd]
     obtain ⟨v'',hg'',hk''⟩:=other γ'' hag'
     cases hg'' with
     |pass hw'' _ _=>rw [hw] at hw'';cases hw''
     |det _ hV'' _=>rw [hV] at hV'';cases hV''
     |non _ φ'' hV'' hv'' _=>
      rw [hV] at hV'';injection hV'' with hV'';subst hV'';rw [hv'',hgi] at hk'';exact hk''
    unfold Oper.wp;generalize (execOp a.eval o).run P w=r at h1 ⊢
    cases r with
    |ok x w' =>
     cases x<;>simp only [xG] at h1<;>simp only [Oper.upon]
     case value u=>
      obtain ⟨g,rfl,h3⟩:=h1;exact cZ hloc hsz hQ f _ _ _ (upd γ i g) h3 fun γ'' hag=>h2 g γ'' hag
     case skip=>
      obtain ⟨g,hg,h3⟩:=h1;rw [hg];exact cZ hloc hsz hQ f _ _ _ (upd γ i g) h3 fun γ'' hag=>h2 g γ'' hag
     case enter k args=>
      refine h1.mono fun e w'' ⟨g,he,h4⟩=> ?_;subst he;exact cZ hloc hsz hQ f _ _ _ (upd γ i g) h4 fun γ'' hag=>h2 g γ'' hag
     case row k args=>
      refine Rows.mono h1 fun u w'' ⟨g,he,h4⟩=> ?_;subst he;exact cZ hloc hsz hQ f _ _ _ (upd γ i g) h4 fun γ'' hag=>h2 g γ'' hag
    |halt x w' =>simp only [xG] at h1⟩
end
section
variable {P:Program} {n:Fr} {w0:World} {Q:bS} {s:az} {H:List Blk} {l rest:List Oper} {ty:TypeId} {p:String} {af:Array Edge}
def PU (w0:World) (l:List Oper) (HL:f9→(Nat→Gh)→List Blk) (γ:Nat→Gh) (L:Array Bool) (w:World):Prop:=Cls w0 l (fun D=>HL D γ) L w
def WX (P:Program) (n:Fr) (w0:World) (l:List Oper) (V:Nat→Option (Gh→Value)) (HL:f9→(Nat→Gh)→List Blk) (γ:Nat→Gh) (K:az→Prop) (rest:List Oper) (k:Nat) (s:az):Prop:=
 ∀ a,St n s a→(∀ j,rest[j]? =l[k+j]?)→wpX P .any l.toArray V (PU w0 l HL) γ (fun a' => ∃ s',St n s' a' ∧K s') rest k a
def Mu (HL:f9→(Nat→Gh)→List Blk):Prop:= ∀ (D:f9) (γ γ' :Nat→Gh),(∀ i,D i=true→γ i=γ' i)→HL D γ=HL D γ'
theorem MO {id:Nat} (V:Nat→Option (Gh→Value)) (HL:f9→(Nat→Gh)→List Blk) (hm:P.follows .mixedOrders=true) (hB:Region.lexB .any l.toArray=true) (hloc:Mu HL) (h0: ∀ γ,MSub (HL (fun _=>false) γ) H)
 (h: ∀ γ,WX P n w0 l V HL γ (fun s' => ∀ D:f9,(∀ i,i<l.length→D i=true)→Q .normal s' (HL D γ)) l 0 s):W P n w0 (.region id l.toArray true) Q s H:=by
 intro a w hs hmem;have hrep:done (Array.replicate l.toArray.size false)=fun _=>false:=by
  funext i;unfold done;rw [RZ,Un];split<;>rfl
 let γ0:Nat→Gh:=fun _=>(none,0);have hB' :=hB;simp only [Region.lexB,RB] at hB';refine wp_region_any hm ?_;refine cZ (V:=V) (C:=PU w0 l HL) (Q:=fun γ a' => ∃ s',St n s' a' ∧ ∀ D:f9,(∀ i,i<l.length→D i=true)→Q .normal s' (HL D γ)) ?_ ?_ ?_ _ _ _ _ γ0 ?_ ?_
 ·rintro L γ γ' w' hag ⟨h1,h2,h3⟩;refine ⟨h1,h2,?_⟩;show Mem w0 w' (HL (done L) γ');rw [hloc (done L) γ' γ fun i hi=>(hag i hi).symm];exact h3
 ·rintro γ L w' ⟨h1,_⟩;simpa using h1
 ·rintro γ L a' w' hr ⟨hsz,hcl,hmem'⟩ ⟨s',h2,h3⟩;refine ⟨s',HL (done L) γ,h2,hmem',h3 _ fun i hi=> ?_⟩
  -- nothing is ready:all is done
  have all: ∀ i,i<l.length→done L i=true:=by
   intro i
   induction i using Nat.strongRecOn with
   |_ i ih=>
    intro hi
    cases hd:done L i with
    |true=>rfl
    |false=>
     exfalso;have hlx: ∀ (f k:Nat) (L0:Array Bool),Region.lexFrom .any l.toArray f k L0=true→ ∀ j o,k≤j→j<k+f→l[j]? =some o→ ∀ x∈nN o,L0.getD x false=true∨(k≤x∧x<j):=by
      intro f
      induction f with
      |zero=>intro k L0 _ j o h1 h2;omega
      |succ f ihf=>
       intro k L0 hlex j o h1 h2 ho x hx;simp only [Region.lexFrom,RB] at hlex;obtain ⟨⟨hrk,_⟩,hrest⟩:=hlex;by_cases hjk:j=k
       ·subst hjk;obtain ⟨_,o',ho',hall⟩:=mem_ready.1 (by simpa using hrk:j∈Region.ready .any l.toArray L0);rw [RX,ho] at ho';injection ho' with ho';subst ho';obtain ⟨e,he,hb,rfl⟩:=gh.1 hx;exact .inl (hall e he hb)
       ·rcases ihf (k+1) _ hrest j o (by omega) (by omega) ho x hx with h|⟨h3,h4⟩
        ·by_cases hxk:k=x
         ·subst hxk;right;omega
         ·rw [getD_set_ne false hxk] at h;exact .inl h
        ·right;omega
     obtain ⟨o,ho⟩: ∃ o,l[i]? =some o:=⟨_,QU hi⟩;have hmem:i∈Region.ready .any l.toArray L:=by
      refine mem_ready.2 ⟨?_,o,by simpa using ho,fun e he hb=> ?_⟩
      ·have:i<L.size:=by omega
       unfold done at hd;simp [this] at hd ⊢;exact hd
      ·have hx:=hlx l.toArray.size 0 _ hB'.2 i o (QZ _) (by simpa using hi) ho e.on (gh.2 ⟨e,he,hb,rfl⟩);rcases hx with h|⟨_,h⟩
       ·have:(done (Array.replicate l.toArray.size false)) e.on=true:=h;rw [hrep] at this;cases this
       ·exact ih e.on h (by omega)
     rw [hr] at hmem;cases hmem
  exact all i hi
 ·refine ⟨by simp,fun i o _ hi=>(by rw [hrep] at hi;cases hi),?_⟩;rw [hrep];exact (h0 γ0).use hmem.drew
 ·intro γ' _;have h1:=h γ' a hs (by simp);have:=Es (md:= .any) hB'.1 l.toArray.toList 0 (Array.replicate l.toArray.size false) a (by simp) (by simpa using hB'.2) (by simpa using h1);simpa using this
variable {V:Nat→Option (Gh→Value)} {HL:f9→(Nat→Gh)→List Blk} {γ:Nat→Gh} {K:az→Prop} {k:Nat}
theorem OJ (h:K s):WX P n w0 l V HL γ K [] k s:=fun _ hs _=>⟨s,hs,h⟩
theorem jU {o:Oper} (hl: ∀ j,(o::rest)[j]? =l[k+j]?):l[k]? =some o∧ ∀ j,rest[j]? =l[k+1+j]? :=
 ⟨by simpa using (hl 0).symm,fun j=>by have:=hl (j+1);simpa [SC,Th 1 j] using this⟩
def Pz:Blk:= .own none 0 0 0 0 []
def gat (D:f9) (γ:Nat→Gh):Nat→Gh:=fun i=>bif D i then γ i else (none,0)
theorem FU (HX:f9→(Nat→Gh)→List Blk):Mu fun D γ=>HX D (gat D γ):=fun D γ γ' h=>by
 have:gat D γ=gat D γ' :=by
  funext i;unfold gat
  cases hi:D i with
  |false=>rfl
  |true=>exact h i hi
 show HX D (gat D γ)=HX D (gat D γ');rw [this]
def gok (l:List Oper) (s:az):Option (Nat × Bool)→Option Bool
 |none=>some true
 |some (j,du)=>match gd l j with
  |none=>none
  |some d=>match look s d with
   |none=>none
   |some v=>some (kY v==some du)
theorem dZ {o:Oper} {g:Option (Nat × Bool)} {b:Bool} {a:Act} (hg:o.guard=g) (h:gok l s g=some b) (hs:St n s a):Region.wanted o (yielded l.toArray a.tmps)=b:=by
 unfold Region.wanted;rw [hg]
 cases g with
 |none=>simp only [gok,Option.some.injEq] at h;exact h
 |some x=>
  obtain ⟨j,du⟩:=x;simp only [gok] at h;split at h
  ·cases h
  ·rename_i d hd;split at h
   ·cases h
   ·rename_i v hv;simp only [Option.some.injEq] at h;simp only [iq hs hd hv];exact h
theorem vk {id:Nat} (V:Nat→Option (Gh→Value)) (HX:f9→(Nat→Gh)→List Blk) (hm:P.follows .mixedOrders=true) (hB:Region.lexB .any l.toArray=true) (h0: ∀ γ,MSub (HX (fun _=>false) (gat (fun _=>false) γ)) H)
 (h: ∀ γ,WX P n w0 l V (fun D γ=>HX D (gat D γ)) γ (fun s' => ∀ D:f9,(∀ i,i<l.length→D i=true)→Q .normal s' (HX D (gat D γ))) l 0 s):W P n w0 (.region id l.toArray true) Q s H:=
 MO V _ hm hB (FU HX) h0 h
theorem Turn.early {o:Oper} {D:f9} (ht:Turn l k o D) {i f:Nat} (h:(nN o).any (fun j=>ju l f j i)=true):D i=true:=by
 obtain ⟨j,hj,hr⟩:=Uk.1 h;exact j8 ht.closed f j i hr (ht.before j hj)
variable {gu:Option (Nat × Bool)}
theorem zF {op:Op} {d:Nat} {v:Value} (hn:Nat.blt d n.sz=true) (hg:gok l s gu=some true) (hV:V k=none) (hv: ∀ D,Turn l k ⟨some d,op,ty,p,af,gu⟩ D→VOp P w0 s (HL D γ) op ty v) (hk: ∀ D,HL (put D k) γ=HL D γ) (h:WX P n w0 l V HL γ K rest (k+1) ((d,v)::s)):
 WX P n w0 l V HL γ K (⟨some d,op,ty,p,af,gu⟩::rest) k s:=by
 intro a hs hl;obtain ⟨h0,hl'⟩:=jU hl;refine ⟨v,.det (dZ rfl hg hs) hV fun L w hr hc=> ?_,h _ (hs.put (Sa ▸ hn) v) hl'⟩;obtain ⟨ht,hd,hnext⟩:=jY h0 hr hc;have h1:=hv _ ht a.eval w (some d) p af gu hs.eval hc.2.2;rw [h1];exact ⟨rfl,hnext w (by rw [hk];exact hc.2.2)⟩
theorem uV {d:Nat} {f:FuncId} {xs:List Operand} {vs:List Value} {v:Value} {ts:Array TypeId} [Callable P f] (hn:Nat.blt d n.sz=true) (hg:gok l s gu=some true) (hV:V k=none) (hin:P.inits.idxOf? f=none) (hx:evs s xs=some vs)
 (hF: ∀ D,Turn l k ⟨some d,.call { callee:= .value (.func f),args:=xs.toArray,argTypes:=ts },ty,p,af,gu⟩ D→ ∀ w,Mem w0 w (HL D γ)→aC P f vs w v) (hk: ∀ D,HL (put D k) γ=HL D γ) (h:WX P n w0 l V HL γ K rest (k+1) ((d,v)::s)):
 WX P n w0 l V HL γ K (⟨some d,.call { callee:= .value (.func f),args:=xs.toArray,argTypes:=ts },ty,p,af,gu⟩::rest) k s:=by
 intro a hs hl;obtain ⟨h0,hl'⟩:=jU hl;refine ⟨v,.det (dZ rfl hg hs) hV fun L w hr hc=> ?_,h _ (hs.put (Sa ▸ hn) v) hl'⟩;obtain ⟨ht,hd,hnext⟩:=jY h0 hr hc;have hrun:=jD (P:=P) (w:=w) (ρ:=a.eval) (d:=some d) (ty:=ty) (p:=p) (af:=af) (g:=gu) (f:=f) (c:= .func f) (xs:=xs) (caps:= []) (ts:=ts) rfl (fM hs hx);rw [Rc] at hrun;rw [hrun];refine ⟨hin,Calls.mono (hF _ ht w hc.2.2) ?_⟩;rintro e w' ⟨u,H',rfl,hm',rfl⟩;exact ⟨rfl,hnext w' (by rw [hk];exact (hc.2.2.call hm').right)⟩
theorem Dh {op:Op} {d:Nat} {φ:Gh→Value} {a:Act} {w:World} {H' :List Blk} {B:Gh→List Blk} (hdn:d<n.sz) (hs:St n s a) (hm:Mem w0 w H')
 (h:WL P n w0 #[] [⟨some d,op,ty,p,af,none⟩] (fun e s' H' =>e= .normal∧ ∃ g,look s' d=some (φ g)∧MSub (B g) H') s H'):xG P φ (fun g w' =>Mem w0 w' (B g)) ((execOp a.eval ⟨some d,op,ty,p,af,gu⟩).run P w):=by
 have h1:=h a w hs hm;unfold wpList at h1;simp only [Region.wanted,if_true] at h1;refine h1.elim (fun h1=> ?_) (fun ⟨_,a0,w1,s',H'',_,_,he,_⟩=>by cases he);have hsz:d<a.tmps.size:=by rw [hs.size];exact hdn
 have nxt: ∀ (v:Value) (w' :World) (a' :Act),a'.tmps[d]? =some v→wpList P #[] (post n w0 fun e s' H' =>e= .normal∧ ∃ g,look s' d=some (φ g)∧MSub (B g) H') [] a' w' → ∃ g,v=φ g∧Mem w0 w' (B g):=by
  rintro v w' a' ha' ⟨s',H'',hs',hm',_,g,hg,hsub⟩;have:=hs'.has d _ hg;rw [ha'] at this;exact ⟨g,Option.some.inj this,hsub.use hm'⟩
 have hput: ∀ (a' :Act) (v:Value),a'.tmps.size=a.tmps.size→(a'.put (some d) v).tmps[d]? =some v:=fun a' v h=>by simp [Act.put,h,hsz]
 have hexec:execOp a.eval ⟨some d,op,ty,p,af,gu⟩=execOp a.eval ⟨some d,op,ty,p,af,none⟩:=rfl;rw [hexec];unfold Oper.wp at h1;generalize (execOp a.eval ⟨some d,op,ty,p,af,none⟩).run P w=r at h1 ⊢
 cases r with
 |ok x w' =>
  cases x<;>simp only [Oper.upon] at h1<;>simp only [xG]
  case value u=>exact nxt u w' _ (hput a u rfl) h1
  case skip=>exact nxt undef w' _ (hput a undef rfl) h1
  case defer dd=>
   obtain ⟨s',H'',hs',_⟩:=h1;have h2:=congrArg List.length (hs'.defers.trans hs.defers.symm);simp [Act.put] at h2
  case enter k args=>
   refine h1.mono fun e w'' he=> ?_
   cases e with
   |returned v=>
    obtain ⟨g,hv,hg⟩:=nxt v w'' _ (hput a v rfl) he;exact ⟨g,by rw [hv],hg⟩
   |panicked c=>
    obtain ⟨s',H'',_,_,he',_⟩:=he;cases he'
   |outgrown=>
    obtain ⟨a0,w1,s',H'',_,_,he',_⟩:=he;cases he'
  case row k args=>exact Rows.mono h1 fun u w'' he=>nxt u w'' _ (hput a u rfl) he
 |halt x w' =>
  cases x<;>simp only [Oper.upon] at h1
  all_goals
   obtain ⟨s',H'',_,_,he',_⟩:=h1;cases he'
theorem uU {op:Op} {d:Nat} {φ:Gh→Value} (hn:Nat.blt d n.sz=true) (hg:gok l s gu=some true) (hV:V k=some φ)
 (h: ∀ D,Turn l k ⟨some d,op,ty,p,af,gu⟩ D→WL P n w0 #[] [⟨some d,op,ty,p,af,none⟩] (fun e s' H' =>e= .normal∧ ∃ g,look s' d=some (φ g)∧MSub (HL (put D k) (upd γ k g)) H') s (HL D γ))
 (h' :WX P n w0 l V HL γ K rest (k+1) ((d,φ (γ k))::s)):WX P n w0 l V HL γ K (⟨some d,op,ty,p,af,gu⟩::rest) k s:=by
 intro a hs hl;obtain ⟨h0,hl'⟩:=jU hl;refine ⟨φ (γ k),.non (dZ rfl hg hs) φ hV rfl fun L w hr hc=> ?_,h' _ (hs.put (Sa ▸ hn) _) hl'⟩;obtain ⟨ht,hd,hnext⟩:=jY h0 hr hc;have h1:=Dh (gu:=gu) (Sa ▸ hn) hs hc.2.2 (h _ ht);have hm2: ∀ g w',Mem w0 w' (HL (put (done L) k) (upd γ k g))→PU w0 l HL (upd γ k g) (L.setIfInBounds k true) w' :=fun g w' hm' =>by
  obtain ⟨hsz,hcl,_⟩:=hc;have hlt:k<L.size:=by rw [hsz];exact (Rm.1 h0).1
  have hcl' : ∀ i x,l[i]? =some x→done (L.setIfInBounds k true) i=true→ ∀ e∈x.after,Region.binds .any e=true→done (L.setIfInBounds k true) e.on=true:=by
   intro i x hx hi e he hb;rw [hd] at hi ⊢;by_cases hik:i=k
   ·subst hik;rw [h0] at hx;injection hx with hx;have h2:=ht.before e.on (gh.2 ⟨e,by rw [hx];exact he,hb,rfl⟩);unfold put;split
    ·rfl
    ·exact h2
   ·have hi' :done L i=true:=by unfold put at hi;rwa [if_neg hik] at hi
    have:=hcl i x hx hi' e he hb;unfold put;split
    ·rfl
    ·exact this
  exact ⟨by simpa using hsz,hcl',by rw [hd];exact hm'⟩
 generalize (execOp a.eval ⟨some d,op,ty,p,af,gu⟩).run P w=r at h1 ⊢
 cases r with
 |ok x w' =>
  cases x<;>simp only [xG] at h1 ⊢
  case value u=>obtain ⟨g,hv,hg⟩:=h1;exact ⟨g,hv,hm2 g w' hg⟩
  case skip=>obtain ⟨g,hv,hg⟩:=h1;exact ⟨g,hv,hm2 g w' hg⟩
  case enter k args=>exact h1.mono fun e w'' ⟨g,hv,hg⟩=>⟨g,hv,hm2 g w'' hg⟩
  case row k args=>exact Rows.mono h1 fun u w'' ⟨g,hv,hg⟩=>⟨g,hv,hm2 g w'' hg⟩
 |halt x w' =>simp only [xG] at h1
theorem MB {op:Op} (hg:gok l s gu=some true) (hV:V k=none) (hv: ∀ D,Turn l k ⟨none,op,ty,p,af,gu⟩ D→ ∀ a w,St n s a→Mem w0 w (HL D γ)→ ∃ w',(execOp a.eval ⟨none,op,ty,p,af,gu⟩).run P w= .ok .skip w' ∧Mem w0 w' (HL (put D k) γ)) (h:WX P n w0 l V HL γ K rest (k+1) s):
 WX P n w0 l V HL γ K (⟨none,op,ty,p,af,gu⟩::rest) k s:=by
 intro a hs hl;obtain ⟨h0,hl'⟩:=jU hl;refine ⟨undef,.det (dZ rfl hg hs) hV fun L w hr hc=> ?_,h _ (hs.put_none _) hl'⟩;obtain ⟨ht,hd,hnext⟩:=jY h0 hr hc;obtain ⟨w',hr',hm'⟩:=hv _ ht a w hs hc.2.2;rw [hr'];exact ⟨rfl,hnext w' hm'⟩
theorem OI {t T g off m:Nat} {x a:Operand} {v:Value} {vs:List Value} [Size P t m] (hg:gok l s gu=some true) (hV:V k=none) (ha:ev s a=some (.pointer (some ⟨g,off,none⟩))) (hx:ev s x=some v) (hv:v.cells=vs.toArray) (hl:vs.length=m) (h1:vs.all Value.oneCell' =true)
 (hnew: ∀ D,Turn l k ⟨none,.store t a x,ty,p,af,gu⟩ D→ ∃ xs R,Sel (.box g T xs) (HL D γ) R∧off+m≤xs.length∧MSub (HL (put D k) γ) (.box g T (xs.take off++vs++xs.drop (off+m))::R)) (h:WX P n w0 l V HL γ K rest (k+1) s):
 WX P n w0 l V HL γ K (⟨none,.store t a x,ty,p,af,gu⟩::rest) k s:=by
 refine MB hg hV (fun D ht a' w hs hm=> ?_) h;obtain ⟨xs,R,hsel,hfit,hsub⟩:=hnew D ht;have hm' :=hm.sel hsel;have hb:=(hm'.on _ QY).1;simp only [Blk.on] at hb;have h1' : ∀ u∈vs,u.oneCell' =true:=by simpa using h1
 have hr:=gD (P:=P) (t:=t) (off:=off) hv hl h1' hb (by simpa using hfit);simp only at hr;refine ⟨_,?_,hsub.use (hm'.upd (gC _ _ _) (b' := .box g T (xs.take off++vs++xs.drop (off+m))) (setRow_heap _ _ _ _ _ _ hb) fun k hk=> .inl hk)⟩;simp [execOp,hs.eval a _ ha,hs.eval x _ hx,Instr.storeAt,Instr.sureAddr,hr]
end
section
variable {P:Program} {n:Fr} {w0:World} {Q:bS} {K:az→Prop} {s:az} {H H1:List Blk} {l rest:List Oper} {k j f:Nat} {ty:TypeId} {p:String} {af:Array Edge}
theorem tr {t T g off m:Nat} {x a:Operand} {v:Value} {vs xs:List Value} {R:List Blk} [Size P t m] (ha:ev s a=some (.pointer (some ⟨g,off,none⟩))) (hx:ev s x=some v)
 (hsel:Sel (.box g T xs) H R) (hv:v.cells=vs.toArray) (hl:vs.length=m) (h1:vs.all Value.oneCell' =true) (hfit:off+m≤xs.length)
 (hnew:MSub H1 (.box g T (xs.take off++vs++xs.drop (off+m))::R)) (h:WG P n w0 l (fun D=>if D k then H1 else H) K rest (k+1) s):
 WG P n w0 l (fun D=>if D k then H1 else H) K (⟨none,.store t a x,ty,p,af,none⟩::rest) k s:=by
 refine zO (fun D ht a' w hs hm=> ?_) h;have e1:D k=false:=ht.not;have e2:put D k k=true:=by simp [put]
 simp only [e1,RY,if_false] at hm;simp only [e2,if_true];have hm' :=hm.sel hsel;have hb:=(hm'.on _ QY).1;simp only [Blk.on] at hb;have h1' : ∀ u∈vs,u.oneCell' =true:=by simpa using h1
 have hr:=gD (P:=P) (t:=t) (off:=off) hv hl h1' hb (by simpa using hfit);simp only at hr;refine ⟨_,?_,hnew.use (hm'.upd (gC _ _ _) (b' := .box g T (xs.take off++vs++xs.drop (off+m))) (setRow_heap _ _ _ _ _ _ hb) fun k hk=> .inl hk)⟩;simp [execOp,hs.eval a _ ha,hs.eval x _ hx,Instr.storeAt,Instr.sureAddr,hr]
theorem tq {t T g off:Nat} {x a:Operand} {v:Value} {xs:List Value} {R:List Blk} [Size P t 1] (ha:ev s a=some (.pointer (some ⟨g,off,none⟩))) (hx:ev s x=some v)
 (hsel:Sel (.box g T xs) H R) (hv:v.oneCell' =true) (hfit:Nat.blt off xs.length=true)
 (hnew:MSub H1 (.box g T (xs.set off v)::R)) (h:WG P n w0 l (fun D=>if D k then H1 else H) K rest (k+1) s):
 WG P n w0 l (fun D=>if D k then H1 else H) K (⟨none,.store t a x,ty,p,af,none⟩::rest) k s:=by
 refine tr (m:=1) ha hx hsel (vs:= [v]) (by cases v<;>first|rfl|cases hv) rfl (by simpa using hv) (by have:=Sa ▸ hfit;omega) ?_ h;rw [nY _ _ _ (Sa ▸ hfit)];exact hnew
theorem yp {d:Nat} {f' :FuncId} {xs:List Operand} {vs:List Value} {v:Value} {ts:Array TypeId} [Callable P f'] (hn:Nat.blt d n.sz=true) (hr:ju l f j k=true) (hne:Nat.beq j k=false) (hx:evs s xs=some vs)
 (hF: ∀ w,Mem w0 w H→aC P f' vs w v) (h:WG P n w0 l (fun D=>if D j then H1 else H) K rest (k+1) ((d,v)::s)):
 WG P n w0 l (fun D=>if D j then H1 else H) K (⟨some d,.call { callee:= .value (.func f'),args:=xs.toArray,argTypes:=ts },ty,p,af,none⟩::rest) k s:=by
 refine Kh hn hx (fun D ht w hm=> ?_) (fun D=> ?_) h
 ·rw [ht.late hr] at hm;exact hF w hm
 ·have:put D k j=D j:=by
   unfold put;rw [if_neg];intro e;subst e;rw [Nat.beq_refl] at hne;cases hne
  simp only [this]
end
end Go.SL

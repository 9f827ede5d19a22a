/-
  Lemmas and walks, put together: Sl11 W32 Sl9 Sl18 Sl23 Sl8 Sl32 Sl17 Sl24 Sl13 Sl21 Sl22 Hc Sl30.
-/
import Derived.Deep.RegionHeld3
import Derived.Ground.SlgmProg
import Derived.Shelf.SortM.Plain
import Derived.Shelf.SortM.SortNone
import Derived.Test.YtfeicpjdgjflaaaGreatDoorKv02
set_option linter.unusedSimpArgs false
set_option linter.unusedVariables false
set_option maxRecDepth 20000
set_option maxHeartbeats 16000000
namespace Go.SL
open Go Go.RowKit
def GL (s:aC):List Nat→Option aC
 | []=>some []
 |t::r=>match look s t,GL s r with
  |some v,some s' =>some ((t,v)::s')
  |_,_=>none
theorem GK {s:aC}: ∀ {ts:List Nat} {s' :aC},GL s ts=some s' →Sub s' s
 | [],s',h=>by simp only [GL,Option.some.injEq] at h;subst h;exact Sub.nil s
 |t::r,s',h=>by
  simp only [GL] at h;split at h
  ·rename_i v s1 hv hs;simp only [Option.some.injEq] at h;subst h;exact Sub.cons hv (GK hs)
  ·cases h
theorem Gx (r b:aC) (u:Nat):look (r++b) u=(match look r u with|some v=>some v|none=>look b u):=by
 induction r with
 |nil=>rfl
 |cons y r ih=>
  obtain ⟨p,q⟩:=y;rw [Vp,jP,jP,ih];split<;>rfl
theorem Sub.append {a b s:aC} (ha:Sub a s) (hb:Sub b s):Sub (a++b) s:=by
 intro u z hu;rw [Gx] at hu;split at hu
 ·rename_i v hv;rw [← hu];exact ha u v hv
 ·exact hb u z hu
def bg {ι:Type} (sI:ι→aC) (HI:ι→List Blk) (ok:ι→Prop) (Q:cd):cd
 | .normal,s,H=> ∃ i,ok i∧Sub (sI i) s∧MSub (HI i) H
 |e,s,H=>Q e s H
section
variable {P:Program} {n:Fr} {w0:World} {Q:cd} {s sb:aC} {H:List Blk} {ι:Type} {sI:ι→aC} {HI:ι→List Blk} {ok:ι→Prop} {id:Nat}
theorem dH (i:ι) (ho:ok i) (hs:Sub (sI i) s) (hH:MSub (HI i) H):bg sI HI ok Q .normal s H:=⟨i,ho,hs,hH⟩
theorem uN {x z:Code} (sI:ι→aC) (HI:ι→List Blk) (ok:ι→Prop) (h:W P n w0 x (bg sI HI ok Q) s H) (k: ∀ i,ok i→W P n w0 z Q (sI i) (HI i)):
 W P n w0 x (thn (W P n w0 z Q) Q) s H:=by
 refine NJ (fun e s' H' hq=> ?_) h
 cases e with
 |normal=>
  obtain ⟨i,ho,h1,h2⟩:=hq;exact Up h1 (Tl h2 (k i ho))
 |_=>exact hq
theorem Tm {c:Operand} {x y z:Code} (ts:List Nat) (hk:GL s ts=some sb) (h:W P n w0 (.cond c x y) (bg (fun _:Unit=>sb) (fun _=>H) (fun _=>True) Q) s H) (k:W P n w0 z Q sb H):
 W P n w0 (.cond c x y) (thn (W P n w0 z Q) Q) s H:=
 uN _ _ _ h fun _ _=>k
theorem ay {c:Code} (ts:List Nat) (hk:GL s ts=some sb) (sI:ι→aC) (HI:ι→List Blk) (ok:ι→Prop) (μ:ι→Nat) (i0:ι) (h0:ok i0) (hs0:Sub (sI i0) s) (hH0:MSub (HI i0) H)
 (round: ∀ i,ok i→W P n w0 c (thn (fun s' H' => ∃ i',ok i' ∧μ i' <μ i∧Sub (sI i') s' ∧Sub sb s' ∧MSub (HI i') H') Q) (sI i++sb) (HI i)):W P n w0 (.loop c) Q s H:=by
 refine fP (fun i=>sI i++sb) HI ok μ i0 h0 (hs0.append (GK hk)) hH0 fun i hi=>NJ (fun e s' H' hq=> ?_) (round i hi)
 cases e with
 |normal=>
  obtain ⟨i',h1,h2,h3,h4,h5⟩:=hq;exact ⟨i',h1,h2,h3.append h4,h5⟩
 |_=>exact hq
theorem Qt {ops:Array Oper} {rest:List Oper} {A:Option Nat} {t sz m cap:Nat} {xs:List Value} (hi:In (.own A t sz m cap xs) H) (hm:0<m) (h: ∀ g,A=some g→WL P n w0 ops rest Q s H):WL P n w0 ops rest Q s H:=fun a w hs hmem=>by
 obtain ⟨_,_,_,h4⟩:=(hmem.on _ hi.mem).1
 cases A with
 |none=>obtain ⟨rfl,_⟩:=h4;omega
 |some g=>exact h g rfl a w hs hmem
theorem Reads.of_own_take {w:World} {A:Option Nat} {t sz m cap k:Nat} {xs:List Value} (hm:Mem w0 w H) (hi:In (.own A t sz m cap xs) H) (hk:k≤m):Reads w (sl A k cap) k (xs.take (k*sz)):=by
 obtain ⟨h1,h2,h3,h4⟩:=(hm.on _ hi.mem).1;refine ⟨_,cap,rfl,by omega,h3,fun hpos=> ?_⟩
 cases A with
 |none=>obtain ⟨rfl,_⟩:=h4;omega
 |some g=>exact ⟨g,0,rfl,(Ro.of_own hm hi).take⟩
end
theorem Ro.cellV {w:World} {g o:Nat} {xs:List Value} (h:Ro w g o xs) (i:Nat) {v:Value} (hi:xs[i]? =some v):Ro w g (o+i*1) [v]:=by
 obtain ⟨hlt,he⟩:=VI.1 hi;have h1:=(h.drop (k:=i)).take (k:=1);rw [Vy hlt,he] at h1;rw [Wd];exact h1
theorem jK {P:Program} {w0:World} {s:aC} {H:List Blk} {ty t t' :TypeId} {x y:Operand} {k:IntKind} {a:Int} (hx:ev s x=some (.int k a)) (hy:ev s y=some (.int k a)):VOp P w0 s H (.binOp .neq t x y t') ty (.bool false):=by
 have h:=SM (P:=P) (w0:=w0) (H:=H) (ty:=ty) (t:=t) (t' :=t') hx hy;rwa [decide_eq_false (by simp)] at h
open Go.Proofs
attribute [local irreducible] FnAt FnIn Qi VOp W WA WG WL WQ aS bg blk thn
def aT:List Nd:= [k2,k3,j7,k6]
end Go.SL
namespace Go.SL
open Go Go.RowKit
section
variable {P:Program} {n:Fr} {w0:World} {Q:cd} {s:aC} {H:List Blk} {rest:List Oper} {ty:TypeId} {p:String} {af:Array Edge}
theorem pN {x ix:Operand} {t e m j:Nat} {xs:List Value} {v:Value} {k:IntKind} [ht:Und P t (.array m e)] [he:One P e] [hz:Size P e 1] (hx:ev s x=some (.agg xs.toArray)) (hi:ev s ix=some (.int k (j:Nat))) (hj:j<m) (hv:xs[j]? =some v):
 VOp P w0 s H (.index t x ix) ty v:=fun ρ w _ _ _ _ hρ _=>by
 obtain ⟨i,h1,h2⟩:=hz.out;obtain ⟨d,h3,h4⟩:=he.out;have h0:(0:Int)≤(j:Int):=by omega
 have hj' :((j:Nat):Int)<((m:Nat):Int):=by omega
 simp only [execOp,hρ x _ hx,hρ ix _ hi,Instr.index,asIntOf,run_underlying ht.out,sizeOf,typeInfo,part,isAgg,run_underlying h3,Sem.run_bind,Sem.run_pure,Result.andThen_ok,h0,hj',and_self,if_true,h1,h2,Yc,Wd,V6,hv];cases d<;>simp_all
theorem ET {x:Operand} {t e m g o sz:Nat} [ht:Und P t (.array m e)] [hz:Size P e sz] (hx:ev s x=some (.pointer (some ⟨g,o,none⟩))):
 VOp P w0 s H (.slice t x none none none) ty (.slice (some ⟨g,o,none⟩) m m):=fun ρ w _ _ _ _ hρ _=>by
 obtain ⟨i,h1,h2⟩:=hz.out;have ha:(⟨g,o,none⟩:Addr).add 0=⟨g,o,none⟩:=by rw [dR];simp
 simp [execOp,hρ x _ hx,Instr.sliceAt,run_underlying ht.out,Instr.sliceBounds,Instr.sureAddr,sizeOf,typeInfo,h1,ha]
theorem EK {d t e m:Nat} {ps:List (Nat × Operand)} {vs xs zs:List Value} {ops:Array Oper} [ht:Und P t (.array m e)] [he:Size P e 1] [hz:ZeroC P t zs] (hn:Nat.blt d n.sz=true) (hps:evd s ps 0=some vs)
 (hl:Nat.beq vs.length zs.length=true) (h1:vs.all (fun v=>Nat.beq v.cells.size 1)=true) (hx:wU (flat vs)=some xs) (k:WL P n w0 ops rest Q ((d,.agg xs.toArray)::s) H):
 WL P n w0 ops (⟨some d,.build t ps.toArray,ty,p,af,none⟩::rest) Q s H:=by
 refine w7 rfl d rfl hn (fun a w hs hm=> ?_) k;obtain ⟨it,z,i1,i2,i3⟩:=hz.out;obtain ⟨ie,j1,j2⟩:=he.out;have hall: ∀ v∈vs,v.cells.size=1:=by
  intro v hv;exact Wg (WK.1 h1 v hv)
 have hlen:=Wg hl;have hfill:=Great.fill_whole (s:=1) (by omega) vs z.cells hall (by rw [i3];simp [hlen]);rw [← xm hs hps] at hfill;have hb:P.built t (ps.map fun (x:Nat × Operand)=>(x.1,a.eval x.2))=some (flat vs).toArray:=by
  unfold Program.built;simp only [i1,ht.out,i2,j1,j2];exact hfill
 have hr:=run_build (P:=P) w t (ps.map fun (x:Nat × Operand)=>(x.1,a.eval x.2)).toArray (flat vs).toArray (by simpa using hb);rw [j9 hx];simp only [execOp,Xv];simp only [Sem.run_bind,hr,Result.andThen_ok,Sem.run_pure]
theorem Bp {x:Operand} {t t' :TypeId} {k k' :IntKind} {a c:Int} {d:TypeDesc} [hs:Und P t d] [hd:Und P t' (.int k')] (hx:ev s x=some (.int k a)) (hw:k'.wrap a=c):VOp P w0 s H (.convert t t' x) ty (.int k' c):=by
 have h:=Ia (P:=P) (w0:=w0) (H:=H) (ty:=ty) (t:=t) (t' :=t') hx;rwa [hw] at h
theorem fH {x y:Operand} {k:IntKind} {a b c:Int} {t t' :TypeId} (hx:ev s x=some (.int k a)) (hy:ev s y=some (.int k b)) (hw:k.wrap (a+b)=c):VOp P w0 s H (.binOp .add t x y t') ty (.int k c):=by
 have h:=xT (P:=P) (w0:=w0) (H:=H) (ty:=ty) (t:=t) (t' :=t') hx hy;rwa [hw] at h
theorem fj {x y:Operand} {k:IntKind} {a b c:Int} {t t' :TypeId} (hx:ev s x=some (.int k a)) (hy:ev s y=some (.int k b)) (hw:k.wrap (a - b)=c):VOp P w0 s H (.binOp .sub t x y t') ty (.int k c):=by
 have h:=Tq (P:=P) (w0:=w0) (H:=H) (ty:=ty) (t:=t) (t' :=t') hx hy;rwa [hw] at h
theorem pO {x y:Operand} {a b:ByteArray} {t t' :TypeId} (hx:ev s x=some (.string a)) (hy:ev s y=some (.string b)) (h:a=b):VOp P w0 s H (.binOp .eql t x y t') ty (.bool true):=by
 have h1:=H7 (P:=P) (w0:=w0) (H:=H) (ty:=ty) (t:=t) (t' :=t') hx hy;rwa [decide_eq_true h] at h1
theorem fG {x y:Operand} {a b:ByteArray} {t t' :TypeId} (hx:ev s x=some (.string a)) (hy:ev s y=some (.string b)) (h:a≠b):VOp P w0 s H (.binOp .eql t x y t') ty (.bool false):=by
 have h1:=H7 (P:=P) (w0:=w0) (H:=H) (ty:=ty) (t:=t) (t' :=t') hx hy;rwa [decide_eq_false h] at h1
theorem gG {a:Int} (h1:0≤a) (h2:a≤255):IntKind.u8.wrap a=a:=by
 simp [IntKind.wrap,IntKind.bits,IntKind.signed]<;>omega
theorem Reads.of_box {w:World} {g t:Nat} {xs:List Value} (hm:Mem w0 w H) (hi:In (.box g t xs) H) (hl:Nat.ble xs.length maxLen=true):Reads w (.slice (some ⟨g,0,none⟩) xs.length xs.length) xs.length xs:=by
 have h1:=hm.cells_box hi;refine ⟨_,xs.length,rfl,VA _,by simpa using hl,fun _=>⟨g,0,rfl,?_,h1⟩⟩;have h2:=(hm.on _ hi.mem).1;simp only [Blk.on] at h2;exact (V0.1 h2).1
end
def kO (v:Value):List PanicEntry:= [{ v,recovered:=false }]
def FnP (P:Program) (f:FuncId) (args:List Value) (w0:World) (H:List Blk) (R D:Value→List Blk→Prop):Prop:=
 ∀ w,Mem w0 w H→Calls P f args.toArray w fun e w' =>(∃ v H',e= .returned v∧Mem w0 w' H' ∧R v H')∨(∃ v H',e= .panicked (kO v)∧Mem w0 w' H' ∧D v H')
theorem FnP.msub {P:Program} {f:FuncId} {args:List Value} {w0:World} {H H' :List Blk} {R D:Value→List Blk→Prop} (h:FnP P f args w0 H' R D) (hs:MSub H' H):FnP P f args w0 H R D:=fun w hm=>h w (hs.use hm)
def aV (P:Program) (fn:Func) (n:Fr) (w0:World) (R D:Value→List Blk→Prop):cd:=fun e s H=>
 aS P fn n w0 R e s H∨ ∃ v H',e= .panic (kO v)∧MSub H' H∧D v H'
section
variable {P:Program} {n:Fr} {w0:World} {Q:cd} {s:aC} {H:List Blk} {l rest:List Oper} {ty:TypeId} {p:String} {af:Array Edge}
theorem bY {d:Nat} {ops:Array Oper} {f:FuncId} {xs:List Operand} {vs:List Value} {ts:Array TypeId} {R D:Value→List Blk→Prop} [Callable P f] (hn:Nat.blt d n.sz=true) (hx:evs s xs=some vs)
 (hF:FnP P f vs w0 H R D) (k: ∀ v H',R v H' →WL P n w0 ops rest Q ((d,v)::s) H') (kd: ∀ v H',D v H' →Q (.panic (kO v)) s H'):
 WL P n w0 ops (⟨some d,.call { callee:= .value (.func f),args:=xs.toArray,argTypes:=ts },ty,p,af,none⟩::rest) Q s H:=by
 intro a w hs hm;refine wpList_plain rfl fun K hK=> ?_;have hr:=kz (P:=P) (w:=w) (ρ:=a.eval) (d:=some d) (ty:=ty) (p:=p) (af:=af) (g:=none) (f:=f) (c:= .func f) (xs:=xs) (caps:= []) (ts:=ts) rfl (gK hs hx);rw [VB] at hr;simp only [Oper.wp,hr,Oper.upon];refine (hF w hm).mono ?_;rintro e w' (⟨v,H',rfl,hm',hR⟩|⟨v,H',rfl,hm',hD⟩)
 ·exact hK _ _ (k v H' hR _ _ (hs.put (Wi ▸ hn) _) hm')
 ·exact ⟨s,H',hs,hm',kd v H' hD⟩
theorem Ny {d:Option Tmp} {ops:Array Oper} {x:Operand} {t:TypeId} {v:Value} (hx:ev s x=some (.iface t v)) (h:Q (.panic (kO (.iface t v))) s H):
 WL P n w0 ops (⟨d,.panic x,ty,p,af,none⟩::rest) Q s H:=by
 intro a w hs hm;refine wpList_plain rfl fun K hK=> ?_;have hr:(execOp a.eval ⟨d,.panic x,ty,p,af,none⟩).run P w= .halt (.panic (.iface t v)) w:=by
  simp only [execOp,hs.eval x _ hx]
  rfl
 simp only [Oper.wp,hr,Oper.upon];exact ⟨s,H,hs,hm,h⟩
theorem UF {K:aC→List Blk→Prop} {c:List PanicEntry} (h:Q (.panic c) s H):thn K Q (.panic c) s H:=h
theorem U7 {id:Nat} {c:List PanicEntry} (h:Q (.panic c) s H):blk id Q (.panic c) s H:=h
theorem U3 {ι:Type} {sI:ι→aC} {HI:ι→List Blk} {ok:ι→Prop} {c:List PanicEntry} (h:Q (.panic c) s H):bg sI HI ok Q (.panic c) s H:=h
theorem US {fn:Func} {R D:Value→List Blk→Prop} {e:Exit} (h:aS P fn n w0 R e s H):aV P fn n w0 R D e s H:= .inl h
theorem SQ {fn:Func} {R D:Value→List Blk→Prop} {v:Value} {H' :List Blk} (hs:MSub H' H) (h:D v H'):aV P fn n w0 R D (.panic (kO v)) s H:= .inr ⟨v,H',rfl,hs,h⟩
theorem zp {m:Nat} {f:FuncId} {fn:Func} {c:Code} {args:List Value} {R D:Value→List Blk→Prop} (hf:P.funcs[f]? =some fn) (hb:fn.body=some c) (hn:fn.ntmps=m) (hle:Nat.ble args.length m=true)
 (h:W P ⟨m,[]⟩ w0 c (aV P fn ⟨m,[]⟩ w0 R D) (vg args 0) H):FnP P f args w0 H R D:=by
 intro w hm;have hle' :args.length≤m:=by simpa using hle
 refine calls_of_wp hf hb (wp_mono (h { tmps:=args.toArray++Array.replicate (fn.ntmps - args.toArray.size) undef,defers:= [] } w ⟨?_,rfl,?_⟩ hm) ?_)
 ·simp [hn];omega
 ·intro t v ht;rw [nX] at ht;simp only [Vt,if_true,WU] at ht;have hlt:t<args.length:=(VI.1 ht).1;rw [Ww (by simpa using hlt)];simpa using ht
 ·rintro e a w' ⟨s',H',hs,hm',hq⟩;rcases hq with ⟨he,v,H'',hsub,hr,hR⟩|⟨v,H'',rfl,hsub,hD⟩
  ·have hp:a.defers= []∧ ∃ v,(results fn a.tmps).run P w' = .ok v w' ∧((∃ v1 H1,Ending.returned v= .returned v1∧Mem w0 w' H1∧R v1 H1)∨(∃ v1 H1,Ending.returned v= .panicked (kO v1)∧Mem w0 w' H1∧D v1 H1)):=
    ⟨hs.defers,v,hr a w' hs hm',.inl ⟨v,H'',rfl,hsub.use hm',hR⟩⟩
   rcases he with rfl|rfl<;>exact hp
  ·exact ⟨hs.defers,.inr ⟨v,H'',rfl,hsub.use hm',hD⟩⟩
end
section
variable {P:Program} {n:Fr} {w0:World} {Q:cd} {K:aC→Prop} {s:aC} {H:List Blk} {l rest:List Oper} {ty:TypeId} {p:String} {af:Array Edge}
theorem Ro.of_box {w:World} {g t:Nat} {xs:List Value} (hm:Mem w0 w H) (hi:In (.box g t xs) H):Ro w g 0 xs:=⟨Blk.key_lt (hm.on _ hi.mem).1 rfl,hm.cells_box hi⟩
theorem Ro.next {w w' :World} {H' :List Blk} {g o:Nat} {xs:List Value} (h:Ro w g o xs) (hm:Mem w w' H'):Ro w' g o xs:=Ro.of_ro hm h
theorem oK {f:FuncId} {bs:List Operand} {vs:List Value} (hc:evs s bs=some vs):VOp P w0 s H (.makeFunc (.func f) bs.toArray #[]) ty (.func (.func f) vs.toArray #[]):=fun ρ w _ _ _ _ hρ _=>by
 have h: ∀ {xs:List Operand} {vs:List Value},evs s xs=some vs→xs.map ρ=vs:=by
  intro xs
  induction xs with
  |nil=>intro vs h;simp only [evs,Option.some.injEq] at h;simp [← h]
  |cons x r ih=>
   intro vs h;simp only [evs] at h;split at h
   ·rename_i v us hv hr;simp only [Option.some.injEq] at h;subst h;simp [hρ x v hv,ih hr]
   ·cases h
 simp [execOp,Instr.makeFunc,← h hc]
theorem BG {ρ:Operand→Value} {w:World} {d:Option Tmp} {g:Option (Nat × Bool)} {f:FuncId} {c:Operand} {xs:List Operand} {vs bs:List Value} {ts:Array TypeId} [hf:Callable P f] (hc:ρ c= .func (.func f) bs.toArray #[]) (hx:xs.map ρ=vs):
 (execOp ρ ⟨d,.call { callee:= .value c,args:=xs.toArray,argTypes:=ts },ty,p,af,g⟩).run P w= .ok (.enter f (bs++vs).toArray) w:=by
 simp [execOp,resolve,hc,Deferred.ofValue,invoke,← hx,hf.out]
theorem ND {d:Nat} {ops:Array Oper} {f:FuncId} {c:Operand} {xs:List Operand} {vs bs:List Value} {ts:Array TypeId} {R:Value→List Blk→Prop} (hn:Nat.blt d n.sz=true) (hc:ev s c=some (.func (.func f) bs.toArray #[])) (hfc:Callable P f) (hx:evs s xs=some vs)
 (hF:FnIn P f (bs++vs) w0 H R) (k: ∀ v H',R v H' →WL P n w0 ops rest Q ((d,v)::s) H'):
 WL P n w0 ops (⟨some d,.call { callee:= .value c,args:=xs.toArray,argTypes:=ts },ty,p,af,none⟩::rest) Q s H:=by
 intro a w hs hm;refine wpList_plain rfl fun K hK=> ?_;have hr:=BG (P:=P) (w:=w) (ρ:=a.eval) (d:=some d) (ty:=ty) (p:=p) (af:=af) (g:=none) (f:=f) (c:=c) (xs:=xs) (bs:=bs) (ts:=ts) (hs.eval c _ hc) (gK hs hx);simp only [Oper.wp,hr,Oper.upon];refine (hF w hm).mono ?_;rintro e w' ⟨v,H',rfl,hm',hR⟩;exact hK _ _ (k v H' hR _ _ (hs.put (Wi ▸ hn) _) hm')
theorem uM {d:Nat} {ops:Array Oper} {f:FuncId} {c:Operand} {xs:List Operand} {vs bs:List Value} {v:Value} {ts:Array TypeId} (hn:Nat.blt d n.sz=true) (hc:ev s c=some (.func (.func f) bs.toArray #[])) (hfc:Callable P f) (hx:evs s xs=some vs)
 (hF: ∀ w,Mem w0 w H→aF P f (bs++vs) w v) (k:WL P n w0 ops rest Q ((d,v)::s) H):
 WL P n w0 ops (⟨some d,.call { callee:= .value c,args:=xs.toArray,argTypes:=ts },ty,p,af,none⟩::rest) Q s H:=
 ND hn hc hfc hx (FnIn.of_at hF) fun u H' ⟨H1,h1,h2⟩=>by
  subst h1;subst h2;exact CT ⟨H1,VV⟩ k
theorem HZ {x:Operand} {t u e T m c:Nat} {A:Option Nat} {ns:List Int} [hs:Und P t (.slice e)] [he:Und P e (.int .u8)] [hd:Und P u .string] (hx:ev s x=some (sl A m c)) (hi:In (.own A T 1 m c (ns.map (Value.int .u8))) H) (hl:ns.length=m):
 VOp P w0 s H (.convert t u x) ty (.string (mkB ns)):=fun ρ w _ _ _ _ hρ hm=>by
 have h3:ns.foldl (fun r n=>r.push (UInt8.ofNat n.toNat)) ByteArray.empty=mkB ns:=by
  have h4:=BM ns ByteArray.empty;generalize ns.foldl (fun r n=>r.push (UInt8.ofNat n.toNat)) ByteArray.empty=b at h4 ⊢;obtain ⟨⟨l⟩⟩:=b;simp only at h4;simp [h4,mkB]
 have h2:(Conv.bytesToString (.slice (A.map fun g=>(⟨g,0,none⟩:Addr)) m c)).run P w= .ok (.string (mkB ns)) w:=by
  cases A with
  |none=>
   obtain ⟨_,_,_,h4,_⟩:=(hm.on _ hi.mem).1;subst h4;have:ns= []:=WW.1 hl;subst this
   rfl
  |some g=>
   have hc:=hm.cells_own hi;have h1:=run_loadCells_list (P:=P) w ⟨g,0,none⟩ (ns.map (Value.int .u8)) (fun j v hv=>by rw [dR];exact hc j v hv);rw [VK,hl] at h1;have h2:=run_bytesToString (P:=P) w ⟨g,0,none⟩ m c ns h1;rw [h3] at h2;exact h2
 simp only [execOp,hρ x _ hx,sl,Sem.run_bind,run_convert_bytes_string w t u e _ _ _ hs.out he.out hd.out,h2,Result.andThen_ok,Sem.run_pure]
theorem TU {ι:Type} {sI:ι→aC} {HI:ι→List Blk} {ok:ι→Prop} (h:mZ Q):mZ (bg sI HI ok Q):=fun c s H hq=>h c s H hq
theorem Bd {K:aC→Prop} {d:Nat} {ops:Array Oper} {f:FuncId} {c:Operand} {xs:List Operand} {vs caps:List Value} {v:Value} {ts:Array TypeId} (hn:Nat.blt d n.sz=true) (hc:ev s c=some (.func (.func f) #[] caps.toArray)) (hfc:Callable P f) (hx:evs s xs=some vs)
 (hF: ∀ w,Mem w0 w H→aF P f (vs++caps) w v) (k:WQ P n w0 ops rest K ((d,v)::s) H):
 WQ P n w0 ops (⟨some d,.call { callee:= .value c,args:=xs.toArray,argTypes:=ts },ty,p,af,none⟩::rest) K s H:=by
 intro a hs;unfold wpQuiet;simp only [Region.wanted,if_true];refine ⟨v,fun w hm=> ?_,k _ (hs.put (Wi ▸ hn) v)⟩;unfold Oper.quietAt;have hr:=kz (P:=P) (w:=w) (ρ:=a.eval) (d:=some d) (ty:=ty) (p:=p) (af:=af) (g:=none) (f:=f) (c:=c) (xs:=xs) (caps:=caps) (ts:=ts) (hs.eval c _ hc) (gK hs hx);rw [hr];refine ⟨rfl,Calls.mono (hF w hm) ?_⟩;rintro e w' ⟨u,H',rfl,hm',rfl⟩;exact ⟨rfl,(hm.call hm').right⟩
theorem MSub.swap {H1 C:List Blk}:MSub (H1++C) (C++H1):=⟨[],by simpa using VV⟩
theorem MSub.swapN {H1 C:List Blk}:MSub (H1++(C++ [])) (C++H1):=⟨[],by simpa using VV⟩
theorem MSub.swapN' {H1 C:List Blk}:MSub (C++H1) (H1++(C++ [])):=⟨[],by simpa using VV⟩
theorem J9 {ι:Type} {sb:aC} {id:Nat} {ops:Array Oper} {d:Bool} {y z:Code} (ts:List Nat) (hk:GL s ts=some sb) (sI:ι→aC) (ok:ι→Prop) (h:W P n w0 (.seq (.region id ops d) y) (bg (fun i=>sI i++sb) (fun _=>H) ok Q) s H) (k: ∀ i,ok i→W P n w0 z Q (sI i++sb) H):
 W P n w0 (.seq (.region id ops d) y) (thn (W P n w0 z Q) Q) s H:=
 uN _ _ _ h k
theorem uS {x:Operand} {a:ByteArray} {m t:Nat} [ht:Und P t .string] (hx:ev s x=some (.string a)) (h:a.size=m):VOp P w0 s H (.call { callee:= .builtin .len,args:= #[x],argTypes:= #[t] }) ty (.int .i64 (m:Int)):=h ▸ NT hx
def scp (Q:cd):cd
 | .goto _,_,_=>False
 |e,s,H=>Q e s H
theorem QA {c:Code} (h:W P n w0 c (scp Q) s H):W P n w0 (.scope c) Q s H:=by
 intro a w hs hm;refine wp_scope_straight (wp_mono (h a w hs hm) ?_);rintro e a' w' ⟨s',H',h1,h2,h3⟩
 cases e with
 |goto l=>exact h3.elim
 |_=>exact ⟨s',H',h1,h2,h3⟩
theorem QC {i:Nat} (h:Q .normal s H):W P n w0 (.label i) Q s H:=fun _ _ hs hm=>wp_label ⟨s,H,hs,hm,h⟩
theorem UQ (h:Q .ret s H):scp Q .ret s H:=h
end
def reaches (l:List Oper):Nat→Nat→Nat→Bool
 |0,j,k=>Nat.beq j k
 |f+1,j,k=>Nat.beq j k||match l[j]? with
  |none=>false
  |some x=>(pL x).any fun i=>reaches l f i k
theorem lj {l:List Oper} {D:gN} (hc: ∀ i x,l[i]? =some x→D i=true→ ∀ j∈pL x,D j=true): ∀ (f j k:Nat),reaches l f j k=true→D j=true→D k=true
 |0,j,k,h,hj=>by
  have:=Wg h;subst this;exact hj
 |f+1,j,k,h,hj=>by
  simp only [reaches,Xt] at h;rcases h with h|h
  ·have:=Wg h;subst this;exact hj
  ·cases hx:l[j]? with
   |none=>rw [hx] at h;cases h
   |some x=>
    rw [hx] at h;obtain ⟨i,hi,hr⟩:=Xg.1 h;exact lj hc f i k hr (hc j x hx hj i hi)
section
variable {P:Program} {n:Fr} {w0:World} {Q:cd} {K:aC→Prop} {s:aC} {H H1:List Blk} {l rest:List Oper} {k j f:Nat} {ty:TypeId} {p:String} {af:Array Edge}
theorem Turn.late {o:Oper} {D:gN} (ht:Turn l k o D) (h:reaches l f j k=true):D j=false:=by
 cases hD:D j
 ·rfl
 ·have:=lj ht.closed f j k h hD;rw [ht.not] at this;cases this
theorem kW {id:Nat} (j:Nat) (H1:List Blk) (hm:P.follows .mixedOrders=true) (hB:Region.lexB .any l.toArray=true) (hj:Nat.blt j l.length=true)
 (h:WG P n w0 l (fun D=>if D j then H1 else H) (fun s' =>Q .normal s' H1) l 0 s):W P n w0 (.region id l.toArray true) Q s H:=by
 refine w8 (fun D=>if D j then H1 else H) hm hB (by simp only [V2,if_false];exact .refl _) fun a hs hl=> ?_;have mono: ∀ (r:List Oper) (k:Nat) (a:Act) (K K' :Act→Prop),(∀ a,K a→K' a)→wpG P .any l.toArray (Cls w0 l fun D=>if D j then H1 else H) K r k a→wpG P .any l.toArray (Cls w0 l fun D=>if D j then H1 else H) K' r k a:=by
  intro r
  induction r with
  |nil=>intro k a K K' hk h;exact hk _ h
  |cons o r ih=>
   rintro k a K K' hk ⟨v,h1,h2⟩;exact ⟨v,h1,ih _ _ K K' hk h2⟩
 refine mono _ _ _ _ _ ?_ (h a hs hl);rintro a' ⟨s',h2,h3⟩;refine ⟨s',h2,fun D hD=> ?_⟩;rw [if_pos (hD j (Wi ▸ hj))];exact h3
theorem fU {op:Op} {d:Nat} {v:Value} (hn:Nat.blt d n.sz=true) (hr:reaches l f j k=true) (hne:Nat.beq j k=false) (hv:VOp P w0 s H op ty v) (h:WG P n w0 l (fun D=>if D j then H1 else H) K rest (k+1) ((d,v)::s)):
 WG P n w0 l (fun D=>if D j then H1 else H) K (⟨some d,op,ty,p,af,none⟩::rest) k s:=by
 refine EM hn (fun D ht=> ?_) (fun D=> ?_) h
 ·rw [ht.late hr];exact hv
 ·have:put D k j=D j:=by
   unfold put;rw [if_neg];intro e;subst e;rw [Nat.beq_refl] at hne;cases hne
  simp only [this]
theorem EN {t T g off m sz n' c:Nat} {x a:Operand} {v:Value} {vs xs:List Value} {R:List Blk} [Size P t m] (ha:ev s a=some (.pointer (some ⟨g,off,none⟩))) (hx:ev s x=some v)
 (hsel:Sel (.own (some g) T sz n' c xs) H R) (hv:v.cells=vs.toArray) (hl:vs.length=m) (h1:vs.all Value.oneCell' =true) (hfit:off+m≤xs.length)
 (hnew:MSub H1 (.own (some g) T sz n' c (xs.take off++vs++xs.drop (off+m))::R)) (h:WG P n w0 l (fun D=>if D k then H1 else H) K rest (k+1) s):
 WG P n w0 l (fun D=>if D k then H1 else H) K (⟨none,.store t a x,ty,p,af,none⟩::rest) k s:=by
 refine CW (fun D ht a' w hs hm=> ?_) h;have e1:D k=false:=ht.not;have e2:put D k k=true:=by simp [put]
 simp only [e1,V2,if_false] at hm;simp only [e2,if_true];have hm' :=hm.sel hsel;obtain ⟨h2,h3,h4,junk,h5,hb⟩:=(hm'.on _ Vr).1;have h1' : ∀ u∈vs,u.oneCell' =true:=by simpa using h1
 have hr:=ib (P:=P) (t:=t) (off:=off) hv hl h1' hb (by simp;omega);simp only at hr;have he:(xs++junk).take off++vs++(xs++junk).drop (off+m)=(xs.take off++vs++xs.drop (off+m))++junk:=by
  rw [Xu (by omega),YG hfit];simp
 rw [he] at hr;have hlen:(xs.take off++vs++xs.drop (off+m)).length=xs.length:=by simp;omega
 refine ⟨_,?_,hnew.use (hm'.upd (fQ _ _ _) (b' := .own (some g) T sz n' c (xs.take off++vs++xs.drop (off+m)))
  ⟨hlen.trans h2,h3,h4,junk,by rw [Vn,hlen,← Vn];exact h5,setRow_heap _ _ _ _ _ _ hb⟩ fun k hk=> .inl hk)⟩
 simp [execOp,hs.eval a _ ha,hs.eval x _ hx,Instr.storeAt,Instr.sureAddr,hr]
theorem kr {t T g off sz n' c:Nat} {x a:Operand} {v:Value} {xs:List Value} {R:List Blk} [Size P t 1] (ha:ev s a=some (.pointer (some ⟨g,off,none⟩))) (hx:ev s x=some v)
 (hsel:Sel (.own (some g) T sz n' c xs) H R) (hv:v.oneCell' =true) (hfit:off<xs.length)
 (hnew:MSub H1 (.own (some g) T sz n' c (xs.set off v)::R)) (h:WG P n w0 l (fun D=>if D k then H1 else H) K rest (k+1) s):
 WG P n w0 l (fun D=>if D k then H1 else H) K (⟨none,.store t a x,ty,p,af,none⟩::rest) k s:=by
 refine EN (m:=1) ha hx hsel (vs:= [v]) (by cases v<;>first|rfl|cases hv) rfl (by simpa using hv) (by omega) ?_ h;rw [pV _ _ _ hfit];exact hnew
theorem xD {d t e n' c m c' sz by_:Nat} {a2:Addr} {A:Option Nat} {x y:Operand} {xs news:List Value} {R:List Blk} {ops:Array Oper} [ht:Und P t (.slice e)] [he:Elem P e sz by_] (hn:Nat.blt d n.sz=true)
 (hx:ev s x=some (sl A n' c)) (hy:ev s y=some (.slice (some a2) m c')) (hsel:Sel (.own A e sz n' c xs) H R)
 (hnews: ∀ w,Mem w0 w H→ ∀ j u,news[j]? =some u→w.cell? (a2.add j)=some u) (hl:news.length=m*sz) (h1: ∀ u∈news,u.oneCell' =true) (hby:(n' +m)*by_≤140737488355328) (h63:n' +m≤maxLen)
 (k: ∀ A' cap',(0<n' +m→ ∃ g,A' =some g)→WL P n w0 ops rest Q ((d,sl A' (n' +m) cap')::s) (.own A' e sz (n' +m) cap' (xs++news)::R)):
 WL P n w0 ops (⟨some d,.call { callee:= .builtin .append,args:= #[x,y],argTypes:= #[t,t] },ty,p,af,none⟩::rest) Q s H:=by
 intro a w hs hm;have hm' :=hm.sel hsel;obtain ⟨i,z,i1,i2,i3,i4,i5,i6⟩:=he.out;have hb:=(hm'.on _ Vr);have hown:w.ownsRow w0.heap.size e sz (sl A n' c) n' xs:=by
  obtain ⟨⟨b1,b2,b3,b4⟩,b5⟩:=hb;refine ⟨b1,?_⟩
  cases A with
  |none=>obtain ⟨rfl,rfl⟩:=b4;exact .inl ⟨rfl,rfl⟩
  |some g=>
   obtain ⟨junk,j1,j2⟩:=b4;refine .inr ⟨g,c,_,rfl,b5 g rfl,j2,b2,b3,by simpa using j1,?_⟩;simp only [Ym];rw [← b1,XZ]
 obtain ⟨v',w',hr,h2,h3,h4,h5⟩:=run_append_own_at (P:=P) w w0.heap.size t ty e i z sz by_ ht.out i1 i4 i2 i3 i5 i6 (sl A n' c) n' xs hown a2 m c' news hl
  (hnews w hm) h1 h63 hby hm.below.size
 have hsh: ∃ A' cap',v' =sl A' (n' +m) cap' ∧(Blk.own A' e sz (n' +m) cap' (xs++news)).on w' ∧(0<n' +m→ ∃ g,A' =some g):=by
  obtain ⟨q1,q2⟩:=h2;rcases q2 with ⟨rfl,q3⟩|⟨g,cap,cur,rfl,_,q4,q5,q6,q7,q8⟩
  ·refine ⟨none,0,by rw [q3];rfl,⟨q1,by omega,Vt _,q3,rfl⟩,fun h=>by omega⟩
  ·refine ⟨some g,cap,rfl,⟨q1,q5,q6,cur.toList.drop ((n' +m)*sz),?_,?_⟩,fun _=>⟨g,rfl⟩⟩
   ·rw [← q8,Wh];simpa using q7
   ·rw [← q8,Wh];simpa using q4
 obtain ⟨A',cap',rfl,hon,hsome⟩:=hsh;refine wpList_plain rfl fun K hK=> ?_;unfold Oper.wp execOp;simp only [resolve,invoke,builtin,Sem.run_bind,Sem.run_pure,Result.andThen_ok,Xv,VU,Wv,hs.eval x _ hx,hs.eval y _ hy,hr,Oper.upon];have hkey: ∀ (B:Option Nat) (q r:Nat),(sl B q r).ownBlock=B:=fun B q r=>by cases B<;>rfl
 rw [hkey] at h3;refine hK _ _ (k A' cap' hsome _ _ (hs.put (Wi ▸ hn) _) (hm'.upd h3 hon fun j hj=> ?_));rw [hkey,hkey] at h5;simp only [Blk.key] at hj ⊢;rcases h5 with h5|h5
 ·left;rw [← h5];exact hj
 ·right;rw [h5] at hj;injection hj with hj;omega
theorem wP (w:World) (t ty e:TypeId) (i:TypeInfo) (ht:P.underlying t=some (.slice e)) (hi:P.info? e=some i) (B:Option Addr) (m c c' :Nat) (h:m≤c):
 (Builtin.append_ #[t,t] ty #[.slice B m c,.slice none 0 c']).run P w= .ok (.slice B m c) w:=by
 cases B<;>simp [Builtin.append_,run_underlying ht,sizeOf,typeInfo,hi,Builtin.lenOf,Builtin.firstCells,h,storeCells]
theorem dA {d t e n' c m sz by_:Nat} {A:Option Nat} {x y:Operand} {yv:Value} {xs news:List Value} {R:List Blk} {ops:Array Oper} [ht:Und P t (.slice e)] [he:Elem P e sz by_] (hn:Nat.blt d n.sz=true)
 (hx:ev s x=some (sl A n' c)) (hy:ev s y=some yv) (hsel:Sel (.own A e sz n' c xs) H R)
 (hnews: ∀ w,Mem w0 w H→Reads w yv m news) (hl:news.length=m*sz) (h1: ∀ u∈news,u.oneCell' =true) (hby:(n' +m)*by_≤140737488355328) (h63:n' +m≤maxLen)
 (k: ∀ A' cap',(0<m→ ∃ g,A' =some g)→WL P n w0 ops rest Q ((d,sl A' (n' +m) cap')::s) (.own A' e sz (n' +m) cap' (xs++news)::R)):
 WL P n w0 ops (⟨some d,.call { callee:= .builtin .append,args:= #[x,y],argTypes:= #[t,t] },ty,p,af,none⟩::rest) Q s H:=by
 intro a w hs hm;have hm' :=hm.sel hsel;have hb:=(hm'.on _ Vr).1;obtain ⟨B,c',rfl,h2,h3,h4⟩:=hnews w hm;by_cases h0:m=0
 ·subst h0;have hnil:news= []:=Wo (by simpa using hl);subst hnil
  cases B with
  |some a2=>exact xD hn hx hy hsel (fun w hm j u hu=>by simp at hu) hl h1 hby h63 (fun A' cap' hA=>k A' cap' (fun h=>by omega)) a w hs hm
  |none=>
   obtain ⟨i,z,i1,i2,i3,i4,i5,i6⟩:=he.out;have hr:=wP (P:=P) w t ty e i ht.out i1 (A.map fun g=>⟨g,0,none⟩) n' c c' hb.2.1;refine wpList_plain rfl fun K hK=> ?_;unfold Oper.wp execOp;simp only [resolve,invoke,builtin,Sem.run_bind,Sem.run_pure,Result.andThen_ok,Xv,VU,Wv,hs.eval x _ hx,hs.eval y _ hy,sl,hr,Oper.upon];refine hK _ _ (k A c (fun h=>by omega) _ _ (hs.put (Wi ▸ hn) _) ?_);simpa using hm'
 ·obtain ⟨g,o,rfl,hro⟩:=h4 (by omega)
  exact dB hn hx hy hsel (fun w' hm2=>by
   obtain ⟨B,c'',e1,e2,e3,e4⟩:=hnews w' hm2;obtain ⟨g',o',e5,hro'⟩:=e4 (by omega);injection e1 with e1 e1' e1'';subst e1;injection e5 with e5;injection e5 with e5 e6;subst e5;subst e6;exact hro'.cells) hl h1 hby h63 (fun A' cap' hA=>k A' cap' (fun h=>hA (by omega))) a w hs hm
end
theorem xN {P:Program} {w0:World} {s:aC} {H:List Blk} {ty:TypeId} {x y:Operand} {a b m:Nat} {ts:Array TypeId} (hx:ev s x=some (.int .i64 (a:Nat))) (hy:ev s y=some (.int .i64 (b:Nat))) (hm:min a b=m):
 VOp P w0 s H (.call { callee:= .builtin .min,args:= #[x,y],argTypes:=ts }) ty (.int .i64 (m:Nat)):=by
 have h:(if ((b:Nat):Int)<((a:Nat):Int) then ((b:Nat):Int) else ((a:Nat):Int))=((m:Nat):Int):=by
  split<;>omega
 rw [← h];exact jD hx hy
theorem Lm {P:Program} {w0:World} {s:aC} {H:List Blk} {ty t hi:Nat} {a:ByteArray} {x q:Operand} {k:IntKind} [ht:Und P t .string] (hx:ev s x=some (.string a)) (hq:ev s q=some (.int k (hi:Nat))) (h2:hi≤a.size):
 VOp P w0 s H (.slice t x none (some q) none) ty (.string (a.extract 0 hi)):=fun ρ w _ _ _ _ hρ _=>by
 have e2:((hi:Nat):Int)≤((a.size:Nat):Int):=by omega
 simp [execOp,hρ x _ hx,hρ q _ hq,Instr.sliceAt,run_underlying ht.out,Instr.slice,Instr.sliceBounds,Instr.sliceBound,asIntOf,h2]
theorem da {P:Program} {w0:World} {s:aC} {H:List Blk} {ty:TypeId} {x:Operand} {t g o off m:Nat} {xs ys:List Value} [Agg P t m] (hc: ∀ w,Mem w0 w H→Cells w g o xs) (hx:ev s x=some (.pointer (some ⟨g,o+off,none⟩))) (hv:(xs.drop off).take m=ys) (hl:ys.length=m):
 VOp P w0 s H (.load t x) ty (.agg ys.toArray):=fun ρ w _ _ _ _ hρ hm=>by
 subst hv;have hc:Cells w g (o+off) ((xs.drop off).take m):=((hc w hm).drop (k:=off)).take (k:=m);simp [execOp,hρ x _ hx,Instr.loadAt,Instr.sureAddr,ic (P:=P) hl hc]
theorem J6 {P:Program} {n:Fr} {w0:World} {Q:cd} {s:aC} {H:List Blk} {c:Code} {lv:Value} {m:Nat} {xs:List Value} (hr: ∀ w,Mem w0 w H→Reads w lv m xs) (h0:0<m) (h: ∀ g o cp,lv= .slice (some ⟨g,o,none⟩) m cp→W P n w0 c Q s H):W P n w0 c Q s H:=fun a w hs hm=>by
 obtain ⟨A,cp,e,_,_,h3⟩:=hr w hm;obtain ⟨g,o,e2,_⟩:=h3 h0;exact h g o cp (by rw [e,e2]) a w hs hm
theorem NI {P:Program} {n:Fr} {w0:World} {Q:cd} {s:aC} {H:List Blk} {c:Code} {lv:Value} {m:Nat} {xs:List Value} (hr: ∀ w,Mem w0 w H→Reads w lv m xs) (h: ∀ A cp,lv= .slice A m cp→W P n w0 c Q s H):W P n w0 c Q s H:=fun a w hs hm=>by
 obtain ⟨A,cp,e,_⟩:=hr w hm;exact h A cp e a w hs hm
theorem uF {w:World} {g o m cp:Nat} {xs:List Value} (h:Reads w (.slice (some ⟨g,o,none⟩) m cp) m xs) (h0:0<m):Cells w g o xs:=by
 obtain ⟨A,c,e,_,_,h3⟩:=h;obtain ⟨g',o',rfl,h4⟩:=h3 h0;cases e;exact h4.cells
section
variable {P:Program} {n:Fr} {w0:World} {Q:cd} {s:aC} {H:List Blk} {rest:List Oper} {ty:TypeId} {p:String} {af:Array Edge}
theorem xC {d t e m sz:Nat} {ps:List (Nat × Operand)} {vs xs zs:List Value} {ops:Array Oper} [ht:Und P t (.array m e)] [he:Size P e sz] [hz:ZeroC P t zs] (hn:Nat.blt d n.sz=true) (hps:evd s ps 0=some vs)
 (hs0:Nat.blt 0 sz=true) (hl:Nat.beq (vs.length*sz) zs.length=true) (h1:BB sz vs=true) (hx:wU (flat vs)=some xs) (k:WL P n w0 ops rest Q ((d,.agg xs.toArray)::s) H):
 WL P n w0 ops (⟨some d,.build t ps.toArray,ty,p,af,none⟩::rest) Q s H:=by
 refine w7 rfl d rfl hn (fun a w hs hm=> ?_) k;obtain ⟨it,z,i1,i2,i3⟩:=hz.out;obtain ⟨ie,j1,j2⟩:=he.out;have hall:=qJ h1;have hlen:=Wg hl;have hfill:=Great.fill_whole (s:=sz) (by simpa using hs0) vs z.cells hall (by rw [i3];simp [hlen]);rw [← xm hs hps] at hfill;have hb:P.built t (ps.map fun (x:Nat × Operand)=>(x.1,a.eval x.2))=some (flat vs).toArray:=by
  unfold Program.built;simp only [i1,ht.out,i2,j1,j2];exact hfill
 have hr:=run_build (P:=P) w t (ps.map fun (x:Nat × Operand)=>(x.1,a.eval x.2)).toArray (flat vs).toArray (by simpa using hb);rw [j9 hx];simp only [execOp,Xv];simp only [Sem.run_bind,hr,Result.andThen_ok,Sem.run_pure]
theorem aG {d t e n' c g sz by_:Nat} {A:Option Nat} {x y:Operand} {xs news:List Value} {R:List Blk} {ops:Array Oper} [ht:Und P t (.slice e)] [he:Elem P e sz by_] (hn:Nat.blt d n.sz=true)
 (hx:ev s x=some (sl A n' c)) (hy:ev s y=some (.slice (some ⟨g,0,none⟩) 1 1)) (hsel:Sel (.own A e sz n' c xs) H R)
 (hi:In (.own (some g) e sz 1 1 news) H) (hl:news.length=sz) (h1: ∀ u∈news,u.oneCell' =true) (hby:(n' +1)*by_≤140737488355328) (h63:n' +1≤maxLen)
 (k: ∀ g' cap',WL P n w0 ops rest Q ((d,sl (some g') (n' +1) cap')::s) (.own (some g') e sz (n' +1) cap' (xs++news)::R)):
 WL P n w0 ops (⟨some d,.call { callee:= .builtin .append,args:= #[x,y],argTypes:= #[t,t] },ty,p,af,none⟩::rest) Q s H:=
 dA (m:=1) hn hx hy hsel (fun w hm=>Reads.of_own (A:=some g) hm hi) (by omega) h1 hby h63 fun A' cap' hA=>by
  obtain ⟨g',rfl⟩:=hA (by omega);exact k g' cap'
end
section
variable {P:Program} {n:Fr} {w0:World} {Q:cd} {s:aC} {H:List Blk} {l rest:List Oper} {ty:TypeId} {p:String} {af:Array Edge}
theorem Ld {d:Nat} {ops:Array Oper} {f:FuncId} {c:Operand} {xs:List Operand} {vs bs:List Value} {ts:Array TypeId} {R D:Value→List Blk→Prop} (hn:Nat.blt d n.sz=true) (hc:ev s c=some (.func (.func f) bs.toArray #[])) (hfc:Callable P f) (hx:evs s xs=some vs)
 (hF:FnP P f (bs++vs) w0 H R D) (k: ∀ v H',R v H' →WL P n w0 ops rest Q ((d,v)::s) H') (kd: ∀ v H',D v H' →Q (.panic (kO v)) s H'):
 WL P n w0 ops (⟨some d,.call { callee:= .value c,args:=xs.toArray,argTypes:=ts },ty,p,af,none⟩::rest) Q s H:=by
 intro a w hs hm;refine wpList_plain rfl fun K hK=> ?_;have hr:=BG (P:=P) (w:=w) (ρ:=a.eval) (d:=some d) (ty:=ty) (p:=p) (af:=af) (g:=none) (f:=f) (c:=c) (xs:=xs) (bs:=bs) (ts:=ts) (hs.eval c _ hc) (gK hs hx);simp only [Oper.wp,hr,Oper.upon];refine (hF w hm).mono ?_;rintro e w' (⟨v,H',rfl,hm',hR⟩|⟨v,H',rfl,hm',hD⟩)
 ·exact hK _ _ (k v H' hR _ _ (hs.put (Wi ▸ hn) _) hm')
 ·exact ⟨s,H',hs,hm',kd v H' hD⟩
theorem LN {ρ:Operand→Value} {w:World} {d:Option Tmp} {g:Option (Nat × Bool)} {f:FuncId} {c:Operand} {xs:List Operand} {vs bs caps:List Value} {ts:Array TypeId} (hf:Callable P f) (hc:ρ c= .func (.func f) bs.toArray caps.toArray) (hx:xs.map ρ=vs):
 (execOp ρ ⟨d,.call { callee:= .value c,args:=xs.toArray,argTypes:=ts },ty,p,af,g⟩).run P w= .ok (.enter f (bs++(vs++caps)).toArray) w:=by
 simp [execOp,resolve,hc,Deferred.ofValue,invoke,← hx,hf.out]
theorem Bf {d:Nat} {ops:Array Oper} {f:FuncId} {c:Operand} {xs:List Operand} {vs bs caps:List Value} {ts:Array TypeId} {R D:Value→List Blk→Prop} (hn:Nat.blt d n.sz=true) (hc:ev s c=some (.func (.func f) bs.toArray caps.toArray)) (hfc:Callable P f) (hx:evs s xs=some vs)
 (hF:FnP P f (bs++(vs++caps)) w0 H R D) (k: ∀ v H',R v H' →WL P n w0 ops rest Q ((d,v)::s) H') (kd: ∀ v H',D v H' →Q (.panic (kO v)) s H'):
 WL P n w0 ops (⟨some d,.call { callee:= .value c,args:=xs.toArray,argTypes:=ts },ty,p,af,none⟩::rest) Q s H:=by
 intro a w hs hm;refine wpList_plain rfl fun K hK=> ?_;have hr:=LN (P:=P) (w:=w) (ρ:=a.eval) (d:=some d) (ty:=ty) (p:=p) (af:=af) (g:=none) (f:=f) (c:=c) (xs:=xs) (bs:=bs) (caps:=caps) (ts:=ts) hfc (hs.eval c _ hc) (gK hs hx);simp only [Oper.wp,hr,Oper.upon];refine (hF w hm).mono ?_;rintro e w' (⟨v,H',rfl,hm',hR⟩|⟨v,H',rfl,hm',hD⟩)
 ·exact hK _ _ (k v H' hR _ _ (hs.put (Wi ▸ hn) _) hm')
 ·exact ⟨s,H',hs,hm',kd v H' hD⟩
class FldT (P:Program) (t f:Nat) (ft:outParam TypeId) (o:outParam Nat):Prop where
 out: ∃ fs fl,P.underlying t=some (.struct fs)∧fs[f]? =some fl∧fl.offset=o∧fl.type=ft
theorem eu {x:Operand} {t f o:Nat} {ft:TypeId} {cs:List Value} {v:Value} [hf:FldT P t f ft o] [ho:One P ft] (hx:ev s x=some (.agg cs.toArray)) (hi:cs[o]? =some v):
 VOp P w0 s H (.field t x f) ty v:=fun ρ w _ _ _ _ hρ _=>by
 obtain ⟨fs,fl,h1,h2,rfl,rfl⟩:=hf.out;obtain ⟨d,h5,h6⟩:=ho.out;have hp:(part fl.type cs.toArray fl.offset).run P w= .ok v w:=by
  cases d<;>simp_all [part,isAgg,run_underlying h5]
 simp [execOp,hρ x _ hx,Instr.field,run_underlying h1,h2,asAgg,hp]
end
abbrev Gh:=Option Nat × Nat
def upd (γ:Nat→Gh) (k:Nat) (g:Gh):Nat→Gh:=fun i=>if i=k then g else γ i
section
variable {P:Program} {ops:Array Oper} {md:Region.Mode}
def KY (P:Program) (D:World→Prop) (v:Value):Result Next→Prop
 | .ok (.value u) w' =>u=v∧D w'
 | .ok .skip w' =>v=undef∧D w'
 | .ok (.enter f args) w' =>P.inits.idxOf? f=none∧Calls P f args w' fun e w'' =>e= .returned v∧D w''
 |_=>False
def zU (P:Program) (φ:Gh→Value) (D:Gh→World→Prop):Result Next→Prop
 | .ok (.value u) w' => ∃ g,u=φ g∧D g w'
 | .ok .skip w' => ∃ g,undef=φ g∧D g w'
 | .ok (.enter f args) w' =>Calls P f args w' fun e w'' => ∃ g,e= .returned (φ g)∧D g w''
 | .ok (.row row args) w' =>Rows P row args w' fun u w'' => ∃ g,u=φ g∧D g w''
 |_=>False
variable (V:Nat→Option (Gh→Value)) (C:(Nat→Gh)→Array Bool→World→Prop)
inductive GX (P:Program) (md:Region.Mode) (ops:Array Oper) (V:Nat→Option (Gh→Value)) (C:(Nat→Gh)→Array Bool→World→Prop) (γ:Nat→Gh) (i:Nat) (o:Oper) (v:Value) (a:Act):Prop
 |pass (hw:Region.wanted o (yielded ops a.tmps)=false) (hv:v=undef) (hC: ∀ L w,i∈Region.ready md ops L→C γ L w→C γ (L.setIfInBounds i true) w)
 |det (hw:Region.wanted o (yielded ops a.tmps)=true) (hV:V i=none) (hC: ∀ L w,i∈Region.ready md ops L→C γ L w→KY P (C γ (L.setIfInBounds i true)) v ((execOp a.eval o).run P w))
 |non (hw:Region.wanted o (yielded ops a.tmps)=true) (φ:Gh→Value) (hV:V i=some φ) (hv:v=φ (γ i)) (hC: ∀ L w,i∈Region.ready md ops L→C γ L w→zU P φ (fun g=>C (upd γ i g) (L.setIfInBounds i true)) ((execOp a.eval o).run P w))
variable {V C}
def wpX (P:Program) (md:Region.Mode) (ops:Array Oper) (V:Nat→Option (Gh→Value)) (C:(Nat→Gh)→Array Bool→World→Prop) (γ:Nat→Gh) (Q:Act→Prop):List Oper→Nat→Act→Prop
 | [],_,a=>Q a
 |o::r,k,a=> ∃ v,GX P md ops V C γ k o v a∧wpX P md ops V C γ Q r (k+1) (a.put o.dst v)
end
section
variable {P:Program} {n:Fr} {w0:World} {Q:cd} {s:aC} {H:List Blk} {l rest:List Oper} {ty:TypeId} {p:String} {af:Array Edge}
def Um (w0:World) (l:List Oper) (HL:gN→(Nat→Gh)→List Blk) (γ:Nat→Gh) (L:Array Bool) (w:World):Prop:=Cls w0 l (fun D=>HL D γ) L w
def WX (P:Program) (n:Fr) (w0:World) (l:List Oper) (V:Nat→Option (Gh→Value)) (HL:gN→(Nat→Gh)→List Blk) (γ:Nat→Gh) (K:aC→Prop) (rest:List Oper) (k:Nat) (s:aC):Prop:=
 ∀ a,St n s a→(∀ j,rest[j]? =l[k+j]?)→wpX P .any l.toArray V (Um w0 l HL) γ (fun a' => ∃ s',St n s' a' ∧K s') rest k a
variable {V:Nat→Option (Gh→Value)} {HL:gN→(Nat→Gh)→List Blk} {γ:Nat→Gh} {K:aC→Prop} {k:Nat}
theorem kT {o:Oper} (hl: ∀ j,(o::rest)[j]? =l[k+j]?):l[k]? =some o∧ ∀ j,rest[j]? =l[k+1+j]? :=
 ⟨by simpa using (hl 0).symm,fun j=>by have:=hl (j+1);simpa [WF,Xx 1 j] using this⟩
def gok (l:List Oper) (s:aC):Option (Nat × Bool)→Option Bool
 |none=>some true
 |some (j,dS)=>match gd l j with
  |none=>none
  |some d=>match look s d with
   |none=>none
   |some v=>some (mo v==some dS)
theorem eY {o:Oper} {g:Option (Nat × Bool)} {b:Bool} {a:Act} (hg:o.guard=g) (h:gok l s g=some b) (hs:St n s a):Region.wanted o (yielded l.toArray a.tmps)=b:=by
 unfold Region.wanted;rw [hg]
 cases g with
 |none=>simp only [gok,Option.some.injEq] at h;exact h
 |some x=>
  obtain ⟨j,dS⟩:=x;simp only [gok] at h;split at h
  ·cases h
  ·rename_i d hd;split at h
   ·cases h
   ·rename_i v hv;simp only [Option.some.injEq] at h;simp only [i9 hs hd hv];exact h
variable {gu:Option (Nat × Bool)}
end
def bat (a:ByteArray) (i:Nat):Int:=(ap a).getD i 0
def sub (a:ByteArray) (lo hi:Nat):ByteArray:=a.extract lo hi
theorem fK (a:ByteArray) (lo hi:Nat):ap (sub a lo hi)=((ap a).drop lo).take (hi - lo):=DG a lo hi
theorem cP (a:ByteArray) {lo hi:Nat} (h:hi≤a.size):(sub a lo hi).size=hi - lo:=by simp [sub];omega
theorem qO (a:ByteArray) (lo:Nat):ap (sub a lo a.size)=(ap a).drop lo:=by
 rw [fK,Wl];simp [az]
theorem xg (a:ByteArray) (hi:Nat):ap (sub a 0 hi)=(ap a).take hi:=by
 rw [fK,WH,WU]
theorem iZ {a:ByteArray} {i:Nat} (h:i<a.size):(ap a)[i]? =some (bat a i):=by
 have hl:i<(ap a).length:=by rw [az];exact h
 rw [bat,VX,Vo hl]
 rfl
theorem vQ (a:ByteArray) (i:Nat):0≤bat a i∧bat a i<256:=by
 rw [bat,VX]
 cases h:(ap a)[i]? with
 |none=>simp
 |some c=>exact o9 a c (Xz h)
theorem bA {a:ByteArray} {i:Nat} (h:i<a.size):(ap a).drop i=bat a i::(ap a).drop (i+1):=by
 have hl:i<(ap a).length:=by rw [az];exact h
 rw [Vy hl];have:=iZ h;rw [Vo hl] at this;rw [Option.some.inj this]
theorem zb:ap aB= []:=rfl
theorem Pn {a:ByteArray}:ap a= []↔a=aB:=⟨fun h=>za (h.trans zb.symm),fun h=>by rw [h];rfl⟩
theorem jl (a b:ByteArray):ap (a++b)=ap a++ap b:=by simp [ap]
section
variable {P:Program} {n:Fr} {w0:World} {Q:cd} {s:aC} {H:List Blk} {l rest:List Oper} {ty:TypeId} {p:String} {af:Array Edge}
theorem bk {x ix:Operand} {t j:Nat} {a:ByteArray} {k:IntKind} [ht:Und P t .string] (hx:ev s x=some (.string a)) (hi:ev s ix=some (.int k (j:Nat))) (hj:j<a.size):VOp P w0 s H (.index t x ix) ty (.int .u8 (bat a j)):=by
 have h:=v6 (P:=P) (w0:=w0) (H:=H) (ty:=ty) (t:=t) hx hi hj;have e:((a[j]'hj).toNat:Int)=bat a j:=by
  have h1:=iZ hj;have h2:=uf a j hj;rw [Vo (by rw [az];exact hj),h2] at h1;exact Option.some.inj h1
 rw [← e];exact h
theorem Tx {x ix:Operand} {t:Nat} {a:ByteArray} {k:IntKind} [ht:Und P t .string] (hx:ev s x=some (.string a)) (hi:ev s ix=some (.int k 0)) (hj:0<a.size):VOp P w0 s H (.index t x ix) ty (.int .u8 (bat a 0)):=bk (j:=0) hx hi hj
theorem iD {t lo hi:Nat} {a:ByteArray} {x q r:Operand} {k k' :IntKind} [ht:Und P t .string] (hx:ev s x=some (.string a)) (hr:ev s r=some (.int k' (lo:Nat))) (hq:ev s q=some (.int k (hi:Nat))) (h:lo≤hi∧hi≤a.size):
 VOp P w0 s H (.slice t x (some r) (some q) none) ty (.string (sub a lo hi)):=H9 hx hr hq h.1 h.2
theorem xM {t lo:Nat} {a:ByteArray} {x r:Operand} {k' :IntKind} [ht:Und P t .string] (hx:ev s x=some (.string a)) (hr:ev s r=some (.int k' (lo:Nat))) (h1:lo≤a.size):
 VOp P w0 s H (.slice t x (some r) none none) ty (.string (sub a lo a.size)):=xQ hx hr h1
theorem QF {t:Nat} {a:ByteArray} {x r:Operand} {k' :IntKind} [ht:Und P t .string] (hx:ev s x=some (.string a)) (hr:ev s r=some (.int k' 1)) (h1:1≤a.size):
 VOp P w0 s H (.slice t x (some r) none none) ty (.string (sub a 1 a.size)):=xQ (lo:=1) hx hr h1
theorem HV {t hi:Nat} {a:ByteArray} {x q:Operand} {k:IntKind} [ht:Und P t .string] (hx:ev s x=some (.string a)) (hq:ev s q=some (.int k (hi:Nat))) (h2:hi≤a.size):
 VOp P w0 s H (.slice t x none (some q) none) ty (.string (sub a 0 hi)):=Lm hx hq h2
theorem lC {x y:Operand} {a b c:ByteArray} {t t' :TypeId} (hx:ev s x=some (.string a)) (hy:ev s y=some (.string b)) (e:a++b=c) (h:a.size+b.size≤1000000000):VOp P w0 s H (.binOp .add t x y t') ty (.string c):=e ▸ TC hx hy (by simp only [maxLen];omega)
theorem H4 {x y:Operand} {k:IntKind} {a b:Int} {t t' :TypeId} (hx:ev s x=some (.int k a)) (hy:ev s y=some (.int k b)):VOp P w0 s H (.binOp .mul t x y t') ty (.int k (k.wrap (a*b))):=fun ρ w _ _ _ _ hρ _=>by
 simp [execOp,hρ x _ hx,hρ y _ hy,eqGuard,binOp,Op.intArith]
theorem dD {x:Operand} {k k' :IntKind} {a c:Int} {t t' :TypeId} {d:TypeDesc} [hs:Und P t d] [hd:Und P t' (.int k')] (hx:ev s x=some (.int k a)) (hw:k'.wrap a=c):VOp P w0 s H (.convert t t' x) ty (.int k' c):=hw ▸ Ia hx
theorem eO {x:Operand} {A:Addr} (hx:ev s x=some (.pointer (some A))):VOp P w0 s H (.nilCheck x) ty (.pointer (some A)):=fun ρ w _ _ _ _ hρ _=>by
 simp [execOp,hρ x _ hx]
theorem yC {t e:TypeId} (h:P.underlying t=some (.pointer e)):P.underlying t=some (.pointer (P.pointee t)):=by
 rw [h];simp [Program.pointee,h]
theorem QI {x:Operand} {A:Option Addr} {t e t' :TypeId} [ht:Und P t (.pointer e)] (hx:ev s x=some (.pointer A)):VOp P w0 s H (.binOp .eql t x (.const (.pointer none)) t') ty (.bool A.isNone):=fun ρ w _ _ _ _ hρ _=>by
 have hc:=hρ (.const (.pointer none)) _ rfl;simp [execOp,hρ x _ hx,hc,eqGuard,run_eql_pointer_nil w t A (yC ht.out)]
theorem QG {x:Operand} {A:Option Addr} {t e t' :TypeId} [ht:Und P t (.pointer e)] (hx:ev s x=some (.pointer A)):VOp P w0 s H (.binOp .neq t x (.const (.pointer none)) t') ty (.bool A.isSome):=fun ρ w _ _ _ _ hρ _=>by
 have hc:=hρ (.const (.pointer none)) _ rfl;simp [execOp,hρ x _ hx,hc,eqGuard,run_neq_pointer_nil w t A (yC ht.out)]
theorem CZ {ι:Type} {id:Nat} {ops:Array Oper} {d:Bool} {y z:Code} (sI:ι→aC) (HI:ι→List Blk) (ok:ι→Prop) (h:W P n w0 (.seq (.region id ops d) y) (bg sI HI ok Q) s H) (k: ∀ i,ok i→W P n w0 z Q (sI i) (HI i)):
 W P n w0 (.seq (.region id ops d) y) (thn (W P n w0 z Q) Q) s H:=
 uN _ _ _ h k
theorem xJ {ι:Type} {id:Nat} {ops:Array Oper} {d:Bool} {z:Code} (sI:ι→aC) (HI:ι→List Blk) (ok:ι→Prop) (h:W P n w0 (.region id ops d) (bg sI HI ok Q) s H) (k: ∀ i,ok i→W P n w0 z Q (sI i) (HI i)):
 W P n w0 (.region id ops d) (thn (W P n w0 z Q) Q) s H:=
 uN _ _ _ h k
theorem J8 {ι:Type} {sb:aC} {id:Nat} {ops:Array Oper} {d:Bool} {y z:Code} (ts:List Nat) (hk:GL s ts=some sb) (sI:ι→aC) (HI:ι→List Blk) (ok:ι→Prop) (h:W P n w0 (.seq (.region id ops d) y) (bg (fun i=>sI i++sb) HI ok Q) s H) (k: ∀ i,ok i→W P n w0 z Q (sI i++sb) (HI i)):
 W P n w0 (.seq (.region id ops d) y) (thn (W P n w0 z Q) Q) s H:=
 uN _ _ _ h k
end
section
variable {P:Program} {n:Fr} {w0:World} {Q:cd} {K:aC→Prop} {s:aC} {H H1:List Blk} {l rest:List Oper} {k j f:Nat} {ty:TypeId} {p:String} {af:Array Edge}
theorem vY {t T g off m:Nat} {x a:Operand} {v:Value} {vs xs:List Value} {R:List Blk} [Size P t m] (ha:ev s a=some (.pointer (some ⟨g,off,none⟩))) (hx:ev s x=some v)
 (hsel:Sel (.box g T xs) H R) (hv:v.cells=vs.toArray) (hl:vs.length=m) (h1:vs.all Value.oneCell' =true) (hfit:off+m≤xs.length)
 (hnew:MSub H1 (.box g T (xs.take off++vs++xs.drop (off+m))::R)) (h:WG P n w0 l (fun D=>if D k then H1 else H) K rest (k+1) s):
 WG P n w0 l (fun D=>if D k then H1 else H) K (⟨none,.store t a x,ty,p,af,none⟩::rest) k s:=by
 refine CW (fun D ht a' w hs hm=> ?_) h;have e1:D k=false:=ht.not;have e2:put D k k=true:=by simp [put]
 simp only [e1,V2,if_false] at hm;simp only [e2,if_true];have hm' :=hm.sel hsel;have hb:=(hm'.on _ Vr).1;simp only [Blk.on] at hb;have h1' : ∀ u∈vs,u.oneCell' =true:=by simpa using h1
 have hr:=ib (P:=P) (t:=t) (off:=off) hv hl h1' hb (by simpa using hfit);simp only at hr;refine ⟨_,?_,hnew.use (hm'.upd (fQ _ _ _) (b' := .box g T (xs.take off++vs++xs.drop (off+m))) (setRow_heap _ _ _ _ _ _ hb) fun k hk=> .inl hk)⟩;simp [execOp,hs.eval a _ ha,hs.eval x _ hx,Instr.storeAt,Instr.sureAddr,hr]
theorem vX {t T g off:Nat} {x a:Operand} {v:Value} {xs:List Value} {R:List Blk} [Size P t 1] (ha:ev s a=some (.pointer (some ⟨g,off,none⟩))) (hx:ev s x=some v)
 (hsel:Sel (.box g T xs) H R) (hv:v.oneCell' =true) (hfit:Nat.blt off xs.length=true)
 (hnew:MSub H1 (.box g T (xs.set off v)::R)) (h:WG P n w0 l (fun D=>if D k then H1 else H) K rest (k+1) s):
 WG P n w0 l (fun D=>if D k then H1 else H) K (⟨none,.store t a x,ty,p,af,none⟩::rest) k s:=by
 refine vY (m:=1) ha hx hsel (vs:= [v]) (by cases v<;>first|rfl|cases hv) rfl (by simpa using hv) (by have:=Wi ▸ hfit;omega) ?_ h;rw [pV _ _ _ (Wi ▸ hfit)];exact hnew
theorem Bg {d:Nat} {f' :FuncId} {xs:List Operand} {vs:List Value} {v:Value} {ts:Array TypeId} [Callable P f'] (hn:Nat.blt d n.sz=true) (hr:reaches l f j k=true) (hne:Nat.beq j k=false) (hx:evs s xs=some vs)
 (hF: ∀ w,Mem w0 w H→aF P f' vs w v) (h:WG P n w0 l (fun D=>if D j then H1 else H) K rest (k+1) ((d,v)::s)):
 WG P n w0 l (fun D=>if D j then H1 else H) K (⟨some d,.call { callee:= .value (.func f'),args:=xs.toArray,argTypes:=ts },ty,p,af,none⟩::rest) k s:=by
 refine NG hn hx (fun D ht w hm=> ?_) (fun D=> ?_) h
 ·rw [ht.late hr] at hm;exact hF w hm
 ·have:put D k j=D j:=by
   unfold put;rw [if_neg];intro e;subst e;rw [Nat.beq_refl] at hne;cases hne
  simp only [this]
end
end Go.SL
namespace Go.Proofs
open Go Go.Shelf Go.RowKit Go.Lib Go.Sort Go.SL
def Tryz.sortIn_ren:Go.Shelf.Ren:=⟨fun|5=>50|8=>111|7=>110|19=>178|20=>179|10=>169|11=>170|12=>171|13=>172|14=>173|15=>174|16=>175|17=>176|18=>177|30=>247|31=>248|32=>249|33=>250|34=>251|35=>198|40=>313|n=>n,fun|23=>104|25=>3|3=>3|32=>75|22=>104|0=>0|44=>279|46=>24|4=>4|36=>272|35=>271|41=>105|5=>5|9=>9|53=>352|57=>356|63=>423|64=>424|n=>n,fun|n=>n⟩
theorem Tryz.sortIn:Go.Proofs.SlLaysM.n5 Tryz.prog Tryz.sortIn_ren:={
 mixed:=by kernel_rfl
 f5:=⟨Tryz.f50.name,by decide,Tryz.func50.trans (congrArg some (by kernel_rfl))⟩
 f7:=⟨Tryz.f110.name,by decide,Tryz.func110.trans (congrArg some (by kernel_rfl))⟩
 f8:=Tryz.func111.trans (congrArg some (by kernel_rfl))
 f10:=⟨Tryz.f169.name,by decide,Tryz.func169.trans (congrArg some (by kernel_rfl))⟩
 f11:=⟨Tryz.f170.name,by decide,Tryz.func170.trans (congrArg some (by kernel_rfl))⟩
 f12:=⟨Tryz.f171.name,by decide,Tryz.func171.trans (congrArg some (by kernel_rfl))⟩
 f13:=⟨Tryz.f172.name,by decide,Tryz.func172.trans (congrArg some (by kernel_rfl))⟩
 f14:=⟨Tryz.f173.name,by decide,Tryz.func173.trans (congrArg some (by kernel_rfl))⟩
 f15:=⟨Tryz.f174.name,by decide,Tryz.func174.trans (congrArg some (by kernel_rfl))⟩
 f16:=⟨Tryz.f175.name,by decide,Tryz.func175.trans (congrArg some (by kernel_rfl))⟩
 f17:=⟨Tryz.f176.name,by decide,Tryz.func176.trans (congrArg some (by kernel_rfl))⟩
 f18:=⟨Tryz.f177.name,by decide,Tryz.func177.trans (congrArg some (by kernel_rfl))⟩
 f19:=Tryz.func178.trans (congrArg some (by kernel_rfl))
 f20:=Tryz.func179.trans (congrArg some (by kernel_rfl))
 f30:=⟨Tryz.f247.name,by decide,Tryz.func247.trans (congrArg some (by kernel_rfl))⟩
 f31:=Tryz.func248.trans (congrArg some (by kernel_rfl))
 f32:=Tryz.func249.trans (congrArg some (by kernel_rfl))
 f33:=⟨Tryz.f250.name,by decide,Tryz.func250.trans (congrArg some (by kernel_rfl))⟩
 f34:=⟨Tryz.f251.name,by decide,Tryz.func251.trans (congrArg some (by kernel_rfl))⟩
 f35:=⟨Tryz.f198.name,by decide,Tryz.func198.trans (congrArg some (by kernel_rfl))⟩
 f40:=⟨Tryz.f313.name,by decide,Tryz.func313.trans (congrArg some (by kernel_rfl))⟩
 t0:=Tryz.underlying0
 a0:=Tryz.isAgg0
 z0:=Tryz.sizeOf0
 v0:=Tryz.zeroValue0
 t3:=Tryz.underlying3
 a3:=Tryz.isAgg3
 z3:=Tryz.sizeOf3
 v3:=Tryz.zeroValue3
 t4:=Tryz.underlying4
 a4:=Tryz.isAgg4
 z4:=Tryz.sizeOf4
 v4:=Tryz.zeroValue4
 t5:=Tryz.underlying5
 a5:=Tryz.isAgg5
 z5:=Tryz.sizeOf5
 v5:=Tryz.zeroValue5
 t9:=Tryz.underlying9
 a9:=Tryz.isAgg9
 z9:=Tryz.sizeOf9
 v9:=Tryz.zeroValue9
 t22:=Tryz.underlying104
 a22:=Tryz.isAgg104
 z22:=Tryz.sizeOf104
 v22:=Tryz.zeroValue104
 t23:=Tryz.underlying104
 a23:=Tryz.isAgg104
 z23:=Tryz.sizeOf104
 v23:=Tryz.zeroValue104
 t25:=Tryz.underlying3
 a25:=Tryz.isAgg3
 z25:=Tryz.sizeOf3
 v25:=Tryz.zeroValue3
 t32:=Tryz.underlying75
 a32:=Tryz.isAgg75
 z32:=Tryz.sizeOf75
 v32:=Tryz.zeroValue75
 t35:=Tryz.underlying271
 a35:=Tryz.isAgg271
 z35:=Tryz.sizeOf271
 v35:=Tryz.zeroValue271
 t36:=Tryz.underlying272
 a36:=Tryz.isAgg272
 z36:=Tryz.sizeOf272
 v36:=Tryz.zeroValue272
 t41:=Tryz.underlying105
 a41:=Tryz.isAgg105
 z41:=Tryz.sizeOf105
 v41:=Tryz.zeroValue105
 t44:=Tryz.underlying279
 a44:=Tryz.isAgg279
 z44:=Tryz.sizeOf279
 v44:=Tryz.zeroValue279
 t46:=Tryz.underlying24
 a46:=Tryz.isAgg24
 z46:=Tryz.sizeOf24
 v46:=Tryz.zeroValue24
 t53:=Tryz.underlying352
 a53:=Tryz.isAgg352
 z53:=Tryz.sizeOf352
 v53:=Tryz.zeroValue352
 t57:=Tryz.underlying356
 a57:=Tryz.isAgg356
 z57:=Tryz.sizeOf356
 v57:=Tryz.zeroValue356
 t63:=Tryz.underlying423
 a63:=Tryz.isAgg423
 z63:=Tryz.sizeOf423
 v63:=Tryz.zeroValue423
 t64:=Tryz.underlying424
 a64:=Tryz.isAgg424
 z64:=Tryz.sizeOf424
 v64:=Tryz.zeroValue424 }
end Go.Proofs
namespace Go.SL
open Go Go.Proofs Go.Sort Go.Shelf
theorem wh {α:Type} [Inhabited α] {enc:α→Value} (w:World) (g n:Nat) (d:Array α) (os:Array Obj):w.grownBy (grow (putRow enc (Sort.ahead w n) g 0 d) os) (some g):={
 os:=rfl
 tape:=rfl
 output:=rfl
 size:=by
  show w.heap.size≤((w.heap.modify g _)++os).size;rw [YT,XD];omega
 block k hk hne:=by
  show ((w.heap.modify g _)++os)[k]? =_;rw [Ww (by rw [XD];exact hk),Xy,if_neg (fun e=>hne (by rw [e]))] }
theorem x8 {α:Type} [Inhabited α] {enc:α→Value} (w:World) (g n:Nat) (d:Array α) (os:Array Obj) (c:Array Value) (T:TypeId) (fr:Nat × Nat) (h:w.heap[g]? =some (.cells c T fr)):
 (grow (putRow enc (Sort.ahead w n) g 0 d) os).heap[g]? =some (.cells (putCells enc 0 d c) T fr):=by
 have hlt:g<w.heap.size:=(V0.1 h).1;show ((w.heap.modify g _)++os)[g]? =_;rw [Ww (by rw [XD];exact hlt),Xy,if_pos rfl,h]
 rfl
theorem IZ (L:List Int) (xs junk:List Value) (hl:xs.length=L.length):putCells Ah 0 L.toArray (xs++junk).toArray=(L.map Ah++junk).toArray:=by
 apply Yv;intro j;simp only [putCells,YC,V6,Xa,Vt,true_and,VD,WU];by_cases hj:j<L.length
 ·rw [VO (by omega),VO (by rw [VK];omega),VG,Vo (by omega),Vo hj];simp [hj]
 ·rw [VW (by omega),VW (by rw [VK];omega),hl,VK];simp [hj]
theorem Fm (L:List Int) (A:Option Nat) (cap:Nat) (hL:L.length≤1000000) (R:List Blk) (w0:World):
 FnIn Tryz.prog 50 [sl A L.length cap] w0 (.own A 3 1 L.length cap (L.map Ah)::R) fun v H=>v= .tuple #[]∧H= .own A 3 1 L.length cap ((tE L).map Ah)::R:=by
 have hl:(tE L).length=L.length:=(Ip L).length_eq
 cases A with
 |none=>
  intro w hm;obtain ⟨⟨h1,h2,h3,h4⟩,_⟩:=hm.on _ Vr;obtain ⟨h5,h6⟩:=h4;have hnil:L= []:=WW.1 h5;subst hnil;subst h6;have he:tE []= []:=WW.1 hl;refine Calls.mono (AnyM.slices_Sort_int_none Tryz.sortIn none 0 w) ?_;rintro e w' ⟨rfl,rfl⟩;exact ⟨_,_,rfl,hm,rfl,by rw [he]⟩
 |some g=>
  intro w hm;obtain ⟨⟨h1,h2,h3,junk,h4,h5⟩,hkk⟩:=hm.on _ Vr;have hlt:g<w.heap.size:=(V0.1 h5).1;have hH:Holds Ah w g 0 L.toArray:=by
   intro j hj;simp only [Xa] at hj;have hc:(L.map Ah++junk).toArray[j]? =some (Ah L.toArray[j]!):=by
    rw [V6,VO (by rw [VK];exact hj),VG,Vo hj];simp [hj]
   constructor
   ·simp only [World.cell?,VD,h5];exact hc
   ·simp [World.frozen?,h5]
  have hs:=AnyM.slices_Sort_int Tryz.sortIn g 0 cap L w hH hlt (by omega);refine hs.mono ?_;rintro e w' ⟨rfl,n,os,rfl⟩;refine ⟨_,_,rfl,hm.upd (wh _ _ _ _ _) (b' := .own (some g) 3 1 L.length cap ((tE L).map Ah)) ?_ fun k hk=> .inl hk,rfl,rfl⟩;refine ⟨by rw [VK,hl,Wd],h2,h3,junk,by rw [Vn,VK,hl,← Wd L.length,← h1,← Vn];exact h4,?_⟩;have h6:=x8 (enc:=Ah) w g n (tE L).toArray os _ _ _ h5;rw [IZ (tE L) _ _ (by rw [hl,h1,Wd])] at h6;exact h6
open Go.RowKit
theorem ye {P:Program} (w:World) (base:Nat) (t ty e:TypeId) (i:TypeInfo) (z:Value) (size bytes:Nat) (ht:P.underlying t=some (.slice e)) (hi:P.info? e=some i) (hz:i.zero=some z)
 (hsize:i.size=size) (hby:i.bytes=bytes) (hzs:z.cells.size=size) (hsz:0<size)
 (g n cap k off:Nat) (hk:k≤n) (hoff:k<cap→off=k*size) (xs:List Value) (hown:w.ownsRow base e size (.slice (some ⟨g,0,none⟩) n cap) n xs)
 (a:Addr) (m c:Nat) (news:List Value) (hl:news.length=m*size) (hnews: ∀ j u,news[j]? =some u→w.cell? (a.add j)=some u) (h1: ∀ u∈news,u.oneCell' =true) (hm0:0<m)
 (h63:n+m≤maxLen) (hbytes:(n+m)*bytes≤140737488355328) (hbase:base≤w.heap.size):
 ∃ v' w',(Builtin.append_ #[t,t] ty #[.slice (some ⟨g,off,none⟩) (n - k) (cap - k),.slice (some a) m c]).run P w= .ok v' w' ∧w.grownBy w' (some g)∧
  ((v' = .slice (some ⟨g, off, none⟩) (n - k + m) (cap - k) ∧ n + m ≤ cap ∧ w'.ownsRow base e size (.slice (some ⟨g, 0, none⟩) (n + m) cap) (n + m) (xs ++ news)) ∨
   (∃ cap',v' = .slice (some ⟨w.heap.size,0,none⟩) (n - k+m) cap' ∧w'.ownsRow base e size v' (n - k+m) (xs.drop (k*size)++news))):=by
 subst hsize;subst hby;obtain ⟨hxl,hown2⟩:=hown;rcases hown2 with ⟨h0,_⟩|⟨g',cap',cur,hv,hbg,hg,hnc,hcm,hcs,htake⟩
 ·cases h0
 injection hv with e1 e2 e3;injection e1 with e1;injection e1 with e1;subst e1;subst e3;have hsrc:Src P i.size t (.slice (some a) m c) m news w:=Src.ofSlice w ht a m c news hl hnews h1;have hlen:(xs++news).length=(n+m)*i.size:=by rw [Vn,hxl,hl,Xm]
 by_cases hroom:n+m≤cap
 ·have hoff' :=hoff (by omega);subst hoff';have hfit:n*i.size+news.length≤cur.size:=by rw [hl,hcs,← Xm];exact Xj _ hroom
  have hkn:k*i.size+(n - k)*i.size=n*i.size:=by
   rw [← Xm];congr 1;omega
  have hr0:=run_append_room (P:=P) w t ty e i ht hi g n cap cur hg a m c news hl hnews h1 hroom hfit;have hcell: ∀ j,j<news.length→(w.cell? ⟨g,n*i.size+j,none⟩).isSome=true:=fun j hj=>by
   simp only [World.cell?,hg];rw [Array.getElem?_eq_getElem (by omega)]
   rfl
  have hfro: ∀ j,j<news.length→w.frozen? ⟨g,n*i.size+j,none⟩=false:=fun j hj=>by
   simp [World.frozen?,hg]
  have hr1:=run_append_room_src (P:=P) w t t ty e i ht hi g 0 n cap (.slice (some a) m c) m news hsrc hroom (by simpa using hcell) (by simpa using hfro);have hr2:=run_append_room_src (P:=P) w t t ty e i ht hi g (k*i.size) (n - k) (cap - k) (.slice (some a) m c) m news hsrc (by omega) (by rw [hkn];exact hcell) (by rw [hkn];exact hfro);rw [hkn] at hr2;rw [VD] at hr1;have hw:=hr0.symm.trans hr1;injection hw with hw1 hw2;rw [← hw2] at hr2;refine ⟨_,_,hr2,⟨rfl,rfl,rfl,by simp,fun j _ hj=>setRow_other w g j _ (fun e=>hj (by rw [e]))⟩,.inl ⟨rfl,hroom,hlen,.inr ⟨g,cap,_,rfl,hbg,setRow_heap w g cur _ e _ hg,hroom,hcm,?_,?_⟩⟩⟩
  ·simp only [Xa,Vn,VQ,VS,YL];omega
  ·rw [htake,← hlen];exact XZ
 ·have hol:(xs.drop (k*i.size)).length=(n - k)*i.size:=by rw [VS,hxl,← Nat.sub_mul]
  have hold:(Builtin.firstCells i.size (n - k) (.slice (some ⟨g,off,none⟩) (n - k) (cap - k))).run P w.drew= .ok (xs.drop (k*i.size)).toArray w.drew:=by
   by_cases hkn:n=k
   ·subst hkn;have e0:xs.drop (n*i.size)= []:=Wo (by rw [hol];simp);rw [e0];exact run_firstCells_some w.drew i.size (n - n) ⟨g,off,none⟩ (n - n) (cap - n) [] (by simp) (fun j u hu=>by simp at hu)
   ·have hoff' :=hoff (by omega);subst hoff';refine run_firstCells_some w.drew i.size (n - k) ⟨g,k*i.size,none⟩ (n - k) (cap - k) _ hol fun j u hu=> ?_;have hcc:w.cell? ((⟨g,0,none⟩:Addr).add (k*i.size+j))=some u:=by
     have hu' :xs[k*i.size+j]? =some u:=by rw [← Wz];exact hu
     exact World.ownsRow.cells (w:=w) (base:=base) (e:=e) (size:=i.size) (v:= .slice (some ⟨g,0,none⟩) n cap) (n:=n) (xs:=xs) ⟨hxl,.inr ⟨g,cap,cur,rfl,hbg,hg,hnc,hcm,hcs,htake⟩⟩ (g:=g) rfl _ _ hu'
    rw [dR] at hcc ⊢;simpa using hcc
  have hfits:Builtin.nextslicecap (n - k+m) (cap - k)*i.bytes≤281474976710656:=growslice_fits (by omega) (VR (Xj _ (by omega)) hbytes);have hr:=run_append_grow_src (P:=P) w t t ty e i z ht hi hz (some ⟨g,off,none⟩) (n - k) (cap - k) (xs.drop (k*i.size)) hold (.slice (some a) m c) m news hsrc (by omega) (by simp only [maxLen] at h63;omega) hfits;have hge:=grownCap_ge w (n - k+m) (cap - k) e;have hcm2:grownCap w (n - k+m) (cap - k) e≤maxLen:=grownCap_le_maxLen w (n - k+m) (cap - k) e (by omega);have hlen2:(xs.drop (k*i.size)++news).length=(n - k+m)*i.size:=by rw [Vn,hol,hl,Xm]
  refine ⟨_,_,hr,⟨rfl,rfl,rfl,by simp,fun k hk _=>heap_alloc_old w.drew _ hk⟩,.inr ⟨_,rfl,hlen2,.inr ⟨w.heap.size,_,_,rfl,hbase,heap_alloc_new w.drew _,hge,hcm2,?_,?_⟩⟩⟩
  ·simp only [YT,Xa,size_zeroCells,hzs,hlen2,← Xm];congr 1;omega
  ·simp only [Array.toList_append,VC];rw [← VC,← hlen2];exact XZ
section
variable {P:Program} {n:Fr} {w0:World} {Q:cd} {s:aC} {H:List Blk} {rest:List Oper} {ty:TypeId} {p:String} {af:Array Edge}
theorem rR {d t e n' c k off g g2 sz by_:Nat} {x y:Operand} {xs news:List Value} {R:List Blk} {ops:Array Oper} [ht:Und P t (.slice e)] [he:Elem P e sz by_] (hn:Nat.blt d n.sz=true)
 (hx:ev s x=some (.slice (some ⟨g,off,none⟩) (n' - k) (c - k))) (hk:k≤n') (hoff:k<c→off=k*sz) (hy:ev s y=some (.slice (some ⟨g2,0,none⟩) 1 1)) (hsel:Sel (.own (some g) e sz n' c xs) H R)
 (hi:In (.own (some g2) e sz 1 1 news) H) (hl:news.length=sz) (h1: ∀ u∈news,u.oneCell' =true) (hby:(n' +1)*by_≤140737488355328) (h63:n' +1≤maxLen)
 (K: ∀ g' off' k' n2 c2 ys,k' ≤n2→(k' <c2→off' =k' *sz)→n2 - k' =n' - k+1→n2≤n' +1→ys.drop (k' *sz)=xs.drop (k*sz)++news→WL P n w0 ops rest Q ((d,.slice (some ⟨g',off',none⟩) (n2 - k') (c2 - k'))::s) (.own (some g') e sz n2 c2 ys::R)):
 WL P n w0 ops (⟨some d,.call { callee:= .builtin .append,args:= #[x,y],argTypes:= #[t,t] },ty,p,af,none⟩::rest) Q s H:=by
 intro a w hs hm;have hm' :=hm.sel hsel;obtain ⟨i,z,i1,i2,i3,i4,i5,i6⟩:=he.out;have hb:=(hm'.on _ Vr);have hown:w.ownsRow w0.heap.size e sz (.slice (some ⟨g,0,none⟩) n' c) n' xs:=by
  obtain ⟨⟨b1,b2,b3,b4⟩,b5⟩:=hb;refine ⟨b1,?_⟩;obtain ⟨junk,j1,j2⟩:=b4;refine .inr ⟨g,c,_,rfl,b5 g rfl,j2,b2,b3,by simpa using j1,?_⟩;simp only [Ym];rw [← b1,XZ]
 have hxl:=hown.1
 obtain ⟨v',w',hr,hgr,hcase⟩:=ye (P:=P) w w0.heap.size t ty e i z sz by_ ht.out i1 i4 i2 i3 i5 i6 g n' c k off hk hoff xs hown ⟨g2,0,none⟩ 1 1 news (by omega)
  (fun j u hu=>by rw [dR];exact hm.cells_own hi j u hu) h1 (by omega) h63 hby hm.below.size
 have key: ∀ (G' N2 C2:Nat) (ys:List Value),w'.ownsRow w0.heap.size e sz (.slice (some ⟨G',0,none⟩) N2 C2) N2 ys→(Blk.own (some G') e sz N2 C2 ys).on w' :=by
  intro G' N2 C2 ys ho;obtain ⟨q1,q2⟩:=ho;rcases q2 with ⟨h0,_⟩|⟨g3,cap3,cur,hv,_,q4,q5,q6,q7,q8⟩
  ·cases h0
  ·injection hv with e1 e2 e3;injection e1 with e1;injection e1 with e1;subst e1;subst e3;refine ⟨q1,q5,q6,cur.toList.drop (N2*sz),?_,?_⟩
   ·rw [← q8,Wh];simpa using q7
   ·rw [← q8,Wh];simpa using q4
 refine wpList_plain rfl fun K' hK' => ?_;unfold Oper.wp execOp;simp only [resolve,invoke,builtin,Sem.run_bind,Sem.run_pure,Result.andThen_ok,Xv,VU,Wv,hs.eval x _ hx,hs.eval y _ hy,hr,Oper.upon];rcases hcase with ⟨rfl,hroom,ho⟩|⟨cap',rfl,ho⟩
 ·have e1:n' - k+1=n' +1 - k:=by omega
  rw [e1] at*;refine hK' _ _ (K g off k (n' +1) c (xs++news) (by omega) hoff (by omega) (VA _) ?_ _ _ (hs.put (Wi ▸ hn) _) (hm'.upd hgr (key _ _ _ _ ho) fun j hj=> .inl hj));exact YG (by rw [hxl];exact Xj _ hk)
 ·refine hK' _ _ (K w.heap.size 0 0 (n' - k+1) cap' (xs.drop (k*sz)++news) (Vt _) (fun _=>by simp) (by omega) (by omega) (by simp) _ _ (hs.put (Wi ▸ hn) _) (hm'.upd hgr (key _ _ _ _ (by simpa using ho)) fun j hj=> ?_))
  right
  simp only [Blk.key] at hj;injection hj with hj;omega
end
end Go.SL

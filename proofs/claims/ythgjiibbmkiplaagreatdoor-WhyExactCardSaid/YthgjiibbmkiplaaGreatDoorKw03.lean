/-
  Lemmas and walks, put together: Sl16 Sl11 W32 Sl9 Sl18 Sl23 Sl24.
-/
import Derived.Test.YthgjiibbmkiplaaGreatDoorKw02
set_option linter.unusedSimpArgs false
set_option linter.unusedVariables false
set_option maxRecDepth 20000
namespace Go.SL
open Go Go.RowKit
section
variable {P:Program} {n:Fr} {w0:World} {Q:bK} {s:az} {H:List Blk} {ty:TypeId}
theorem xK {x ix:Operand} {t e g off m j sz:Nat} {k:IntKind} [ht:Und P t (.array m e)] [hs:Size P e sz] (hx:ev s x=some (.pointer (some ⟨g,off,none⟩))) (hi:ev s ix=some (.int k (j:Nat)))
 (hj:j<m):VOp P w0 s H (.indexAddr t x ix) ty (.pointer (some ⟨g,off+j*sz,none⟩)):=fun ρ w _ _ _ _ hρ _=>by
 obtain ⟨i,h1,h2⟩:=hs.out;have hj' :(j:Int)<(m:Int):=by omega
 have h0:(0:Int)≤(j:Int):=by omega
 have hadd:(⟨g,off,none⟩:Addr).add (j*sz)=⟨g,off+j*sz,none⟩:=by
  unfold Addr.add;split<;>simp_all
 simp [execOp,hρ x _ hx,hρ ix _ hi,Instr.indexAt,run_underlying ht.out,asIntOf,sizeOf,typeInfo,h1,h2,hadd,Instr.sureAddr];try omega
theorem Ar {x ix:Operand} {t e g off m sz:Nat} {k:IntKind} [ht:Und P t (.array m e)] [hs:Size P e sz] (hx:ev s x=some (.pointer (some ⟨g,off,none⟩))) (hi:ev s ix=some (.int k 0)) (hj:Nat.blt 0 m=true):
 VOp P w0 s H (.indexAddr t x ix) ty (.pointer (some ⟨g,off,none⟩)):=by
 have h:=xK (P:=P) (w0:=w0) (H:=H) (ty:=ty) (t:=t) (j:=0) hx hi (by simpa using hj);rwa [Zt,ZP] at h
theorem Lc {x ix:Operand} {t e g off m sz:Nat} {k:IntKind} [ht:Und P t (.array m e)] [hs:Size P e sz] (hx:ev s x=some (.pointer (some ⟨g,off,none⟩))) (hi:ev s ix=some (.int k 1)) (hj:Nat.blt 1 m=true):
 VOp P w0 s H (.indexAddr t x ix) ty (.pointer (some ⟨g,off+sz,none⟩)):=by
 have h:=xK (P:=P) (w0:=w0) (H:=H) (ty:=ty) (t:=t) (j:=1) hx hi (by simpa using hj);rwa [Z5] at h
theorem uR {α:Type} {enc:α→List Value} {m:Nat} (h: ∀ a,(enc a).length=m) (L:List α) (i k:Nat) (hi:i<L.length) (hk:k<m) (v:Value) (a:α) (ha:(enc L[i]).set k v=enc a):
 (L.flatMap enc).set (i*m+k) v=(L.set i a).flatMap enc:=by
 rw [← Gi h L i hi a];have hl:((L.flatMap enc).take (i*m)).length=i*m:=by
  have h1:=aR h L;have h2:i*m≤L.length*m:=Zc _ (by omega);rw [XA];omega
 have h1:L.flatMap enc=(L.flatMap enc).take (i*m)++(enc L[i]++(L.flatMap enc).drop (i*m+m)):=by
  rw [← aM h L i hi];conv=>lhs;rw [← YD (i*m) (L.flatMap enc)]
  congr 1;conv=>lhs;rw [← YD m ((L.flatMap enc).drop (i*m))]
  rw [Zy]
 generalize (L.flatMap enc).take (i*m)=X at h1 hl;generalize (L.flatMap enc).drop (i*m+m)=S at h1;rw [h1,ZG _ _ (by omega),hl,Nat.add_sub_cancel_left,List.set_append_left _ _ (by rw [h];exact hk),ha];simp
end
def I4 (s:az):List Nat→Option az
 | []=>some []
 |t::r=>match look s t,I4 s r with
  |some v,some s' =>some ((t,v)::s')
  |_,_=>none
theorem F5 {s:az}: ∀ {ts:List Nat} {s' :az},I4 s ts=some s' →Sub s' s
 | [],s',h=>by simp only [I4,Option.some.injEq] at h;subst h;exact Sub.nil s
 |t::r,s',h=>by
  simp only [I4] at h;split at h
  ·rename_i v s1 hv hs;simp only [Option.some.injEq] at h;subst h;exact Sub.cons hv (F5 hs)
  ·cases h
theorem FV (r b:az) (u:Nat):look (r++b) u=(match look r u with|some v=>some v|none=>look b u):=by
 induction r with
 |nil=>rfl
 |cons y r ih=>
  obtain ⟨p,q⟩:=y;rw [Xc,js,js,ih];split<;>rfl
theorem Sub.append {a b s:az} (ha:Sub a s) (hb:Sub b s):Sub (a++b) s:=by
 intro u z hu;rw [FV] at hu;split at hu
 ·rename_i v hv;rw [← hu];exact ha u v hv
 ·exact hb u z hu
def bA {ι:Type} (sI:ι→az) (HI:ι→List Blk) (ok:ι→Prop) (Q:bK):bK
 | .normal,s,H=> ∃ i,ok i∧Sub (sI i) s∧MSub (HI i) H
 |e,s,H=>Q e s H
section
variable {P:Program} {n:Fr} {w0:World} {Q:bK} {s sb:az} {H:List Blk} {ι:Type} {sI:ι→az} {HI:ι→List Blk} {ok:ι→Prop} {id:Nat}
theorem fG (i:ι) (ho:ok i) (hs:Sub (sI i) s) (hH:MSub (HI i) H):bA sI HI ok Q .normal s H:=⟨i,ho,hs,hH⟩
theorem ui {x z:Code} (sI:ι→az) (HI:ι→List Blk) (ok:ι→Prop) (h:W P n w0 x (bA sI HI ok Q) s H) (k: ∀ i,ok i→W P n w0 z Q (sI i) (HI i)):
 W P n w0 x (thn (W P n w0 z Q) Q) s H:=by
 refine NA (fun e s' H' hq=> ?_) h
 cases e with
 |normal=>
  obtain ⟨i,ho,h1,h2⟩:=hq;exact U6 h1 (TT h2 (k i ho))
 |_=>exact hq
theorem ax {c:Code} (ts:List Nat) (hk:I4 s ts=some sb) (sI:ι→az) (HI:ι→List Blk) (ok:ι→Prop) (μ:ι→Nat) (i0:ι) (h0:ok i0) (hs0:Sub (sI i0) s) (hH0:MSub (HI i0) H)
 (round: ∀ i,ok i→W P n w0 c (thn (fun s' H' => ∃ i',ok i' ∧μ i' <μ i∧Sub (sI i') s' ∧Sub sb s' ∧MSub (HI i') H') Q) (sI i++sb) (HI i)):W P n w0 (.loop c) Q s H:=by
 refine gI (fun i=>sI i++sb) HI ok μ i0 h0 (hs0.append (F5 hk)) hH0 fun i hi=>NA (fun e s' H' hq=> ?_) (round i hi)
 cases e with
 |normal=>
  obtain ⟨i',h1,h2,h3,h4,h5⟩:=hq;exact ⟨i',h1,h2,h3.append h4,h5⟩
 |_=>exact hq
end
theorem Ro.cellV {w:World} {g o:Nat} {xs:List Value} (h:Ro w g o xs) (i:Nat) {v:Value} (hi:xs[i]? =some v):Ro w g (o+i*1) [v]:=by
 obtain ⟨hlt,he⟩:=XJ.1 hi;have h1:=(h.drop (k:=i)).take (k:=1);rw [XC hlt,he] at h1;rw [YT];exact h1
open Go.Proofs
attribute [local irreducible] FnAt FnIn U1 VOp W WA WG WL WQ aY bA blk thn
def aT:List Nd:= [k2,k3,j7,k6]
end Go.SL
namespace Go.SL
open Go Go.RowKit
section
variable {P:Program} {n:Fr} {w0:World} {Q:bK} {s:az} {H:List Blk} {rest:List Oper} {ty:TypeId} {p:String} {af:Array Edge}
theorem oG {x ix:Operand} {t e m j:Nat} {xs:List Value} {v:Value} {k:IntKind} [ht:Und P t (.array m e)] [he:One P e] [hz:Size P e 1] (hx:ev s x=some (.agg xs.toArray)) (hi:ev s ix=some (.int k (j:Nat))) (hj:j<m) (hv:xs[j]? =some v):
 VOp P w0 s H (.index t x ix) ty v:=fun ρ w _ _ _ _ hρ _=>by
 obtain ⟨i,h1,h2⟩:=hz.out;obtain ⟨d,h3,h4⟩:=he.out;have h0:(0:Int)≤(j:Int):=by omega
 have hj' :((j:Nat):Int)<((m:Nat):Int):=by omega
 simp only [execOp,hρ x _ hx,hρ ix _ hi,Instr.index,asIntOf,run_underlying ht.out,sizeOf,typeInfo,part,isAgg,run_underlying h3,Sem.run_bind,Sem.run_pure,Result.andThen_ok,h0,hj',and_self,if_true,h1,h2,Zh,YT,X4,hv];cases d<;>simp_all
theorem EJ {x:Operand} {t e m g o sz:Nat} [ht:Und P t (.array m e)] [hz:Size P e sz] (hx:ev s x=some (.pointer (some ⟨g,o,none⟩))):
 VOp P w0 s H (.slice t x none none none) ty (.slice (some ⟨g,o,none⟩) m m):=fun ρ w _ _ _ _ hρ _=>by
 obtain ⟨i,h1,h2⟩:=hz.out;have ha:(⟨g,o,none⟩:Addr).add 0=⟨g,o,none⟩:=by rw [cH];simp
 simp [execOp,hρ x _ hx,Instr.sliceAt,run_underlying ht.out,Instr.sliceBounds,Instr.sureAddr,sizeOf,typeInfo,h1,ha]
theorem Ef {d t e m:Nat} {ps:List (Nat × Operand)} {vs xs zs:List Value} {ops:Array Oper} [ht:Und P t (.array m e)] [he:Size P e 1] [hz:ZeroC P t zs] (hn:Nat.blt d n.sz=true) (hps:evd s ps 0=some vs)
 (hl:Nat.beq vs.length zs.length=true) (h1:vs.all (fun v=>Nat.beq v.cells.size 1)=true) (hx:wK (rS vs)=some xs) (k:WL P n w0 ops rest Q ((d,.agg xs.toArray)::s) H):
 WL P n w0 ops (⟨some d,.build t ps.toArray,ty,p,af,none⟩::rest) Q s H:=by
 refine wQ rfl d rfl hn (fun a w hs hm=> ?_) k;obtain ⟨it,z,i1,i2,i3⟩:=hz.out;obtain ⟨ie,j1,j2⟩:=he.out;have hall: ∀ v∈vs,v.cells.size=1:=by
  intro v hv;exact X7 (Yt.1 h1 v hv)
 have hlen:=X7 hl;have hfill:=Great.fill_whole (s:=1) (by omega) vs z.cells hall (by rw [i3];simp [hlen]);rw [← w8 hs hps] at hfill;have hb:P.built t (ps.map fun (x:Nat × Operand)=>(x.1,a.eval x.2))=some (rS vs).toArray:=by
  unfold Program.built;simp only [i1,ht.out,i2,j1,j2];exact hfill
 have hr:=run_build (P:=P) w t (ps.map fun (x:Nat × Operand)=>(x.1,a.eval x.2)).toArray (rS vs).toArray (by simpa using hb);rw [jD hx];simp only [execOp,Y0];simp only [Sem.run_bind,hr,Result.andThen_ok,Sem.run_pure]
theorem Le {x:Operand} {t t' :TypeId} {k k' :IntKind} {a c:Int} {d:TypeDesc} [hs:Und P t d] [hd:Und P t' (.int k')] (hx:ev s x=some (.int k a)) (hw:k'.wrap a=c):VOp P w0 s H (.convert t t' x) ty (.int k' c):=by
 have h:=NS (P:=P) (w0:=w0) (H:=H) (ty:=ty) (t:=t) (t' :=t') hx;rwa [hw] at h
theorem jk {x y:Operand} {k:IntKind} {a b c:Int} {t t' :TypeId} (hx:ev s x=some (.int k a)) (hy:ev s y=some (.int k b)) (hw:k.wrap (a+b)=c):VOp P w0 s H (.binOp .add t x y t') ty (.int k c):=by
 have h:=CI (P:=P) (w0:=w0) (H:=H) (ty:=ty) (t:=t) (t' :=t') hx hy;rwa [hw] at h
theorem lY {x y:Operand} {k:IntKind} {a b c:Int} {t t' :TypeId} (hx:ev s x=some (.int k a)) (hy:ev s y=some (.int k b)) (hw:k.wrap (a - b)=c):VOp P w0 s H (.binOp .sub t x y t') ty (.int k c):=by
 have h:=TY (P:=P) (w0:=w0) (H:=H) (ty:=ty) (t:=t) (t' :=t') hx hy;rwa [hw] at h
theorem wrap_u8 {a:Int} (h1:0≤a) (h2:a≤255):IntKind.u8.wrap a=a:=by
 simp [IntKind.wrap,IntKind.bits,IntKind.signed]<;>omega
theorem Reads.of_box {w:World} {g t:Nat} {xs:List Value} (hm:Mem w0 w H) (hi:In (.box g t xs) H) (hl:Nat.ble xs.length maxLen=true):Reads w (.slice (some ⟨g,0,none⟩) xs.length xs.length) xs.length xs:=by
 have h1:=hm.cells_box hi;refine ⟨_,xs.length,rfl,Xy _,by simpa using hl,fun _=>⟨g,0,rfl,?_,h1⟩⟩;have h2:=(hm.on _ hi.mem).1;simp only [Blk.on] at h2;exact (XK.1 h2).1
end
def jV (v:Value):List PanicEntry:= [{ v,recovered:=false }]
def FnP (P:Program) (f:FuncId) (args:List Value) (w0:World) (H:List Blk) (R D:Value→List Blk→Prop):Prop:=
 ∀ w,Mem w0 w H→Calls P f args.toArray w fun e w' =>(∃ v H',e= .returned v∧Mem w0 w' H' ∧R v H')∨(∃ v H',e= .panicked (jV v)∧Mem w0 w' H' ∧D v H')
theorem FnP.msub {P:Program} {f:FuncId} {args:List Value} {w0:World} {H H' :List Blk} {R D:Value→List Blk→Prop} (h:FnP P f args w0 H' R D) (hs:MSub H' H):FnP P f args w0 H R D:=fun w hm=>h w (hs.use hm)
def aX (P:Program) (fn:Func) (n:Fr) (w0:World) (R D:Value→List Blk→Prop):bK:=fun e s H=>
 aY P fn n w0 R e s H∨ ∃ v H',e= .panic (jV v)∧MSub H' H∧D v H'
section
variable {P:Program} {n:Fr} {w0:World} {Q:bK} {s:az} {H:List Blk} {l rest:List Oper} {ty:TypeId} {p:String} {af:Array Edge}
theorem bL {d:Nat} {ops:Array Oper} {f:FuncId} {xs:List Operand} {vs:List Value} {ts:Array TypeId} {R D:Value→List Blk→Prop} [Callable P f] (hn:Nat.blt d n.sz=true) (hx:evs s xs=some vs)
 (hF:FnP P f vs w0 H R D) (k: ∀ v H',R v H' →WL P n w0 ops rest Q ((d,v)::s) H') (kd: ∀ v H',D v H' →Q (.panic (jV v)) s H'):
 WL P n w0 ops (⟨some d,.call { callee:= .value (.func f),args:=xs.toArray,argTypes:=ts },ty,p,af,none⟩::rest) Q s H:=by
 intro a w hs hm;refine wpList_plain rfl fun K hK=> ?_;have hr:=ma (P:=P) (w:=w) (ρ:=a.eval) (d:=some d) (ty:=ty) (p:=p) (af:=af) (g:=none) (f:=f) (c:= .func f) (xs:=xs) (caps:= []) (ts:=ts) rfl (iX hs hx);rw [Xm] at hr;simp only [Oper.wp,hr,Oper.upon];refine (hF w hm).mono ?_;rintro e w' (⟨v,H',rfl,hm',hR⟩|⟨v,H',rfl,hm',hD⟩)
 ·exact hK _ _ (k v H' hR _ _ (hs.put (Yg ▸ hn) _) hm')
 ·exact ⟨s,H',hs,hm',kd v H' hD⟩
theorem Nm {d:Option Tmp} {ops:Array Oper} {x:Operand} {t:TypeId} {v:Value} (hx:ev s x=some (.iface t v)) (h:Q (.panic (jV (.iface t v))) s H):
 WL P n w0 ops (⟨d,.panic x,ty,p,af,none⟩::rest) Q s H:=by
 intro a w hs hm;refine wpList_plain rfl fun K hK=> ?_;have hr:(execOp a.eval ⟨d,.panic x,ty,p,af,none⟩).run P w= .halt (.panic (.iface t v)) w:=by
  simp only [execOp,hs.eval x _ hx]
  rfl
 simp only [Oper.wp,hr,Oper.upon];exact ⟨s,H,hs,hm,h⟩
theorem Vu {K:az→List Blk→Prop} {c:List PanicEntry} (h:Q (.panic c) s H):thn K Q (.panic c) s H:=h
theorem V7 {id:Nat} {c:List PanicEntry} (h:Q (.panic c) s H):blk id Q (.panic c) s H:=h
theorem V4 {ι:Type} {sI:ι→az} {HI:ι→List Blk} {ok:ι→Prop} {c:List PanicEntry} (h:Q (.panic c) s H):bA sI HI ok Q (.panic c) s H:=h
theorem VH {fn:Func} {R D:Value→List Blk→Prop} {e:Exit} (h:aY P fn n w0 R e s H):aX P fn n w0 R D e s H:= .inl h
theorem Tu {fn:Func} {R D:Value→List Blk→Prop} {v:Value} {H' :List Blk} (hs:MSub H' H) (h:D v H'):aX P fn n w0 R D (.panic (jV v)) s H:= .inr ⟨v,H',rfl,hs,h⟩
theorem yR {m:Nat} {f:FuncId} {fn:Func} {c:Code} {args:List Value} {R D:Value→List Blk→Prop} (hf:P.funcs[f]? =some fn) (hb:fn.body=some c) (hn:fn.ntmps=m) (hle:Nat.ble args.length m=true)
 (h:W P ⟨m,[]⟩ w0 c (aX P fn ⟨m,[]⟩ w0 R D) (uD args 0) H):FnP P f args w0 H R D:=by
 intro w hm;have hle' :args.length≤m:=by simpa using hle
 refine calls_of_wp hf hb (wp_mono (h { tmps:=args.toArray++Array.replicate (fn.ntmps - args.toArray.size) undef,defers:= [] } w ⟨?_,rfl,?_⟩ hm) ?_)
 ·simp [hn];omega
 ·intro t v ht;rw [mE] at ht;simp only [Xn,if_true,YC] at ht;have hlt:t<args.length:=(XJ.1 ht).1;rw [Yy (by simpa using hlt)];simpa using ht
 ·rintro e a w' ⟨s',H',hs,hm',hq⟩;rcases hq with ⟨he,v,H'',hsub,hr,hR⟩|⟨v,H'',rfl,hsub,hD⟩
  ·have hp:a.defers= []∧ ∃ v,(results fn a.tmps).run P w' = .ok v w' ∧((∃ v1 H1,Ending.returned v= .returned v1∧Mem w0 w' H1∧R v1 H1)∨(∃ v1 H1,Ending.returned v= .panicked (jV v1)∧Mem w0 w' H1∧D v1 H1)):=
    ⟨hs.defers,v,hr a w' hs hm',.inl ⟨v,H'',rfl,hsub.use hm',hR⟩⟩
   rcases he with rfl|rfl<;>exact hp
  ·exact ⟨hs.defers,.inr ⟨v,H'',rfl,hsub.use hm',hD⟩⟩
end
section
variable {P:Program} {n:Fr} {w0:World} {Q:bK} {K:az→Prop} {s:az} {H:List Blk} {l rest:List Oper} {ty:TypeId} {p:String} {af:Array Edge}
theorem Ro.of_box {w:World} {g t:Nat} {xs:List Value} (hm:Mem w0 w H) (hi:In (.box g t xs) H):Ro w g 0 xs:=⟨Blk.key_lt (hm.on _ hi.mem).1 rfl,hm.cells_box hi⟩
theorem Ro.next {w w' :World} {H' :List Blk} {g o:Nat} {xs:List Value} (h:Ro w g o xs) (hm:Mem w w' H'):Ro w' g o xs:=Ro.of_ro hm h
theorem m5 {f:FuncId} {bs:List Operand} {vs:List Value} (hc:evs s bs=some vs):VOp P w0 s H (.makeFunc (.func f) bs.toArray #[]) ty (.func (.func f) vs.toArray #[]):=fun ρ w _ _ _ _ hρ _=>by
 have h: ∀ {xs:List Operand} {vs:List Value},evs s xs=some vs→xs.map ρ=vs:=by
  intro xs
  induction xs with
  |nil=>intro vs h;simp only [evs,Option.some.injEq] at h;simp [← h]
  |cons x r ih=>
   intro vs h;simp only [evs] at h;split at h
   ·rename_i v us hv hr;simp only [Option.some.injEq] at h;subst h;simp [hρ x v hv,ih hr]
   ·cases h
 simp [execOp,Instr.makeFunc,← h hc]
theorem AU {ρ:Operand→Value} {w:World} {d:Option Tmp} {g:Option (Nat × Bool)} {f:FuncId} {c:Operand} {xs:List Operand} {vs bs:List Value} {ts:Array TypeId} [hf:Callable P f] (hc:ρ c= .func (.func f) bs.toArray #[]) (hx:xs.map ρ=vs):
 (execOp ρ ⟨d,.call { callee:= .value c,args:=xs.toArray,argTypes:=ts },ty,p,af,g⟩).run P w= .ok (.enter f (bs++vs).toArray) w:=by
 simp [execOp,resolve,hc,Deferred.ofValue,invoke,← hx,hf.out]
theorem Nr {d:Nat} {ops:Array Oper} {f:FuncId} {c:Operand} {xs:List Operand} {vs bs:List Value} {ts:Array TypeId} {R:Value→List Blk→Prop} (hn:Nat.blt d n.sz=true) (hc:ev s c=some (.func (.func f) bs.toArray #[])) (hfc:Callable P f) (hx:evs s xs=some vs)
 (hF:FnIn P f (bs++vs) w0 H R) (k: ∀ v H',R v H' →WL P n w0 ops rest Q ((d,v)::s) H'):
 WL P n w0 ops (⟨some d,.call { callee:= .value c,args:=xs.toArray,argTypes:=ts },ty,p,af,none⟩::rest) Q s H:=by
 intro a w hs hm;refine wpList_plain rfl fun K hK=> ?_;have hr:=AU (P:=P) (w:=w) (ρ:=a.eval) (d:=some d) (ty:=ty) (p:=p) (af:=af) (g:=none) (f:=f) (c:=c) (xs:=xs) (bs:=bs) (ts:=ts) (hs.eval c _ hc) (iX hs hx);simp only [Oper.wp,hr,Oper.upon];refine (hF w hm).mono ?_;rintro e w' ⟨v,H',rfl,hm',hR⟩;exact hK _ _ (k v H' hR _ _ (hs.put (Yg ▸ hn) _) hm')
theorem ud {d:Nat} {ops:Array Oper} {f:FuncId} {c:Operand} {xs:List Operand} {vs bs:List Value} {v:Value} {ts:Array TypeId} (hn:Nat.blt d n.sz=true) (hc:ev s c=some (.func (.func f) bs.toArray #[])) (hfc:Callable P f) (hx:evs s xs=some vs)
 (hF: ∀ w,Mem w0 w H→aL P f (bs++vs) w v) (k:WL P n w0 ops rest Q ((d,v)::s) H):
 WL P n w0 ops (⟨some d,.call { callee:= .value c,args:=xs.toArray,argTypes:=ts },ty,p,af,none⟩::rest) Q s H:=
 Nr hn hc hfc hx (FnIn.of_at hF) fun u H' ⟨H1,h1,h2⟩=>by
  subst h1;subst h2;exact Cg ⟨H1,X6⟩ k
theorem H9 {x:Operand} {t u e T m c:Nat} {A:Option Nat} {ns:List Int} [hs:Und P t (.slice e)] [he:Und P e (.int .u8)] [hd:Und P u .string] (hx:ev s x=some (sl A m c)) (hi:In (.own A T 1 m c (ns.map (Value.int .u8))) H) (hl:ns.length=m):
 VOp P w0 s H (.convert t u x) ty (.string (mkB ns)):=fun ρ w _ _ _ _ hρ hm=>by
 have h3:ns.foldl (fun r n=>r.push (UInt8.ofNat n.toNat)) ByteArray.empty=mkB ns:=by
  have h4:=AY ns ByteArray.empty;generalize ns.foldl (fun r n=>r.push (UInt8.ofNat n.toNat)) ByteArray.empty=b at h4 ⊢;obtain ⟨⟨l⟩⟩:=b;simp only at h4;simp [h4,mkB]
 have h2:(Conv.bytesToString (.slice (A.map fun g=>(⟨g,0,none⟩:Addr)) m c)).run P w= .ok (.string (mkB ns)) w:=by
  cases A with
  |none=>
   obtain ⟨_,_,_,h4,_⟩:=(hm.on _ hi.mem).1;subst h4;have:ns= []:=YB.1 hl;subst this
   rfl
  |some g=>
   have hc:=hm.cells_own hi;have h1:=run_loadCells_list (P:=P) w ⟨g,0,none⟩ (ns.map (Value.int .u8)) (fun j v hv=>by rw [cH];exact hc j v hv);rw [Xq,hl] at h1;have h2:=run_bytesToString (P:=P) w ⟨g,0,none⟩ m c ns h1;rw [h3] at h2;exact h2
 simp only [execOp,hρ x _ hx,sl,Sem.run_bind,run_convert_bytes_string w t u e _ _ _ hs.out he.out hd.out,h2,Result.andThen_ok,Sem.run_pure]
theorem UA {ι:Type} {sI:ι→az} {HI:ι→List Blk} {ok:ι→Prop} (h:lS Q):lS (bA sI HI ok Q):=fun c s H hq=>h c s H hq
theorem jg {K:az→Prop} {d:Nat} {ops:Array Oper} {f:FuncId} {c:Operand} {xs:List Operand} {vs caps:List Value} {v:Value} {ts:Array TypeId} (hn:Nat.blt d n.sz=true) (hc:ev s c=some (.func (.func f) #[] caps.toArray)) (hfc:Callable P f) (hx:evs s xs=some vs)
 (hF: ∀ w,Mem w0 w H→aL P f (vs++caps) w v) (k:WQ P n w0 ops rest K ((d,v)::s) H):
 WQ P n w0 ops (⟨some d,.call { callee:= .value c,args:=xs.toArray,argTypes:=ts },ty,p,af,none⟩::rest) K s H:=by
 intro a hs;unfold wpQuiet;simp only [Region.wanted,if_true];refine ⟨v,fun w hm=> ?_,k _ (hs.put (Yg ▸ hn) v)⟩;unfold Oper.quietAt;have hr:=ma (P:=P) (w:=w) (ρ:=a.eval) (d:=some d) (ty:=ty) (p:=p) (af:=af) (g:=none) (f:=f) (c:=c) (xs:=xs) (caps:=caps) (ts:=ts) (hs.eval c _ hc) (iX hs hx);rw [hr];refine ⟨rfl,Calls.mono (hF w hm) ?_⟩;rintro e w' ⟨u,H',rfl,hm',rfl⟩;exact ⟨rfl,(hm.call hm').right⟩
theorem MSub.swap {H1 C:List Blk}:MSub (H1++C) (C++H1):=⟨[],by simpa using X6⟩
theorem MSub.swapN {H1 C:List Blk}:MSub (H1++(C++ [])) (C++H1):=⟨[],by simpa using X6⟩
theorem MSub.swapN' {H1 C:List Blk}:MSub (C++H1) (H1++(C++ [])):=⟨[],by simpa using X6⟩
theorem J5 {ι:Type} {sb:az} {id:Nat} {ops:Array Oper} {d:Bool} {y z:Code} (ts:List Nat) (hk:I4 s ts=some sb) (sI:ι→az) (ok:ι→Prop) (h:W P n w0 (.seq (.region id ops d) y) (bA (fun i=>sI i++sb) (fun _=>H) ok Q) s H) (k: ∀ i,ok i→W P n w0 z Q (sI i++sb) H):
 W P n w0 (.seq (.region id ops d) y) (thn (W P n w0 z Q) Q) s H:=
 ui _ _ _ h k
theorem uj {x:Operand} {a:ByteArray} {m t:Nat} [ht:Und P t .string] (hx:ev s x=some (.string a)) (h:a.size=m):VOp P w0 s H (.call { callee:= .builtin .len,args:= #[x],argTypes:= #[t] }) ty (.int .i64 (m:Int)):=h ▸ NP hx
def scp (Q:bK):bK
 | .goto _,_,_=>False
 |e,s,H=>Q e s H
theorem QQ {c:Code} (h:W P n w0 c (scp Q) s H):W P n w0 (.scope c) Q s H:=by
 intro a w hs hm;refine wp_scope_straight (wp_mono (h a w hs hm) ?_);rintro e a' w' ⟨s',H',h1,h2,h3⟩
 cases e with
 |goto l=>exact h3.elim
 |_=>exact ⟨s',H',h1,h2,h3⟩
theorem QR {i:Nat} (h:Q .normal s H):W P n w0 (.label i) Q s H:=fun _ _ hs hm=>wp_label ⟨s,H,hs,hm,h⟩
theorem VC (h:Q .normal s H):scp Q .normal s H:=h
theorem VB (h:Q .ret s H):scp Q .ret s H:=h
end
section
variable {P:Program} {n:Fr} {w0:World} {Q:bK} {s:az} {H:List Blk} {l rest:List Oper} {ty:TypeId} {p:String} {af:Array Edge}
theorem K0 {d:Nat} {ops:Array Oper} {f:FuncId} {c:Operand} {xs:List Operand} {vs bs:List Value} {ts:Array TypeId} {R D:Value→List Blk→Prop} (hn:Nat.blt d n.sz=true) (hc:ev s c=some (.func (.func f) bs.toArray #[])) (hfc:Callable P f) (hx:evs s xs=some vs)
 (hF:FnP P f (bs++vs) w0 H R D) (k: ∀ v H',R v H' →WL P n w0 ops rest Q ((d,v)::s) H') (kd: ∀ v H',D v H' →Q (.panic (jV v)) s H'):
 WL P n w0 ops (⟨some d,.call { callee:= .value c,args:=xs.toArray,argTypes:=ts },ty,p,af,none⟩::rest) Q s H:=by
 intro a w hs hm;refine wpList_plain rfl fun K hK=> ?_;have hr:=AU (P:=P) (w:=w) (ρ:=a.eval) (d:=some d) (ty:=ty) (p:=p) (af:=af) (g:=none) (f:=f) (c:=c) (xs:=xs) (bs:=bs) (ts:=ts) (hs.eval c _ hc) (iX hs hx);simp only [Oper.wp,hr,Oper.upon];refine (hF w hm).mono ?_;rintro e w' (⟨v,H',rfl,hm',hR⟩|⟨v,H',rfl,hm',hD⟩)
 ·exact hK _ _ (k v H' hR _ _ (hs.put (Yg ▸ hn) _) hm')
 ·exact ⟨s,H',hs,hm',kd v H' hD⟩
theorem LL {ρ:Operand→Value} {w:World} {d:Option Tmp} {g:Option (Nat × Bool)} {f:FuncId} {c:Operand} {xs:List Operand} {vs bs caps:List Value} {ts:Array TypeId} (hf:Callable P f) (hc:ρ c= .func (.func f) bs.toArray caps.toArray) (hx:xs.map ρ=vs):
 (execOp ρ ⟨d,.call { callee:= .value c,args:=xs.toArray,argTypes:=ts },ty,p,af,g⟩).run P w= .ok (.enter f (bs++(vs++caps)).toArray) w:=by
 simp [execOp,resolve,hc,Deferred.ofValue,invoke,← hx,hf.out]
theorem zU {d:Nat} {ops:Array Oper} {f:FuncId} {c:Operand} {xs:List Operand} {vs bs caps:List Value} {ts:Array TypeId} {R D:Value→List Blk→Prop} (hn:Nat.blt d n.sz=true) (hc:ev s c=some (.func (.func f) bs.toArray caps.toArray)) (hfc:Callable P f) (hx:evs s xs=some vs)
 (hF:FnP P f (bs++(vs++caps)) w0 H R D) (k: ∀ v H',R v H' →WL P n w0 ops rest Q ((d,v)::s) H') (kd: ∀ v H',D v H' →Q (.panic (jV v)) s H'):
 WL P n w0 ops (⟨some d,.call { callee:= .value c,args:=xs.toArray,argTypes:=ts },ty,p,af,none⟩::rest) Q s H:=by
 intro a w hs hm;refine wpList_plain rfl fun K hK=> ?_;have hr:=LL (P:=P) (w:=w) (ρ:=a.eval) (d:=some d) (ty:=ty) (p:=p) (af:=af) (g:=none) (f:=f) (c:=c) (xs:=xs) (bs:=bs) (caps:=caps) (ts:=ts) hfc (hs.eval c _ hc) (iX hs hx);simp only [Oper.wp,hr,Oper.upon];refine (hF w hm).mono ?_;rintro e w' (⟨v,H',rfl,hm',hR⟩|⟨v,H',rfl,hm',hD⟩)
 ·exact hK _ _ (k v H' hR _ _ (hs.put (Yg ▸ hn) _) hm')
 ·exact ⟨s,H',hs,hm',kd v H' hD⟩
class FldT (P:Program) (t f:Nat) (ft:outParam TypeId) (o:outParam Nat):Prop where
 out: ∃ fs fl,P.underlying t=some (.struct fs)∧fs[f]? =some fl∧fl.offset=o∧fl.type=ft
theorem jW {x:Operand} {t f o:Nat} {ft:TypeId} {cs:List Value} {v:Value} [hf:FldT P t f ft o] [ho:One P ft] (hx:ev s x=some (.agg cs.toArray)) (hi:cs[o]? =some v):
 VOp P w0 s H (.field t x f) ty v:=fun ρ w _ _ _ _ hρ _=>by
 obtain ⟨fs,fl,h1,h2,rfl,rfl⟩:=hf.out;obtain ⟨d,h5,h6⟩:=ho.out;have hp:(part fl.type cs.toArray fl.offset).run P w= .ok v w:=by
  cases d<;>simp_all [part,isAgg,run_underlying h5]
 simp [execOp,hρ x _ hx,Instr.field,run_underlying h1,h2,asAgg,hp]
end
end Go.SL

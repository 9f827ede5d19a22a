/-
  Lemmas and walks, put together: Sl16 Sl17 Sl18 Sl19 Sl20 Md Md2 Lx Lx2.
-/
import Derived.LoopN
import Derived.Recover
import Derived.Laws.IdiomRangeMap
import Derived.Test.YthefeclkaaocnaaGreatDoorKf05
set_option linter.unusedSimpArgs false
set_option linter.unusedVariables false
set_option maxRecDepth 20000
namespace Go.SL
open Go Go.RowKit
section
variable {P:Program} {n:Fr} {w0:World} {Q:ck} {s:aB} {H:List Blk} {ty:TypeId}
theorem w9 {x ix:Operand} {t e g off m j sz:Nat} {k:IntKind} [ht:Und P t (.array m e)] [hs:Size P e sz] (hx:ev s x=some (.pointer (some ⟨g,off,none⟩))) (hi:ev s ix=some (.int k (j:Nat)))
  (hj:j<m):VOp P w0 s H (.indexAddr t x ix) ty (.pointer (some ⟨g,off+j*sz,none⟩)):=fun ρ w _ _ _ _ hρ _=>by
 obtain ⟨i,h1,h2⟩:=hs.out
 have hj' :(j:Int)<(m:Int):=by omega
 have h0:(0:Int)≤(j:Int):=by omega
 have hadd:(⟨g,off,none⟩:Addr).add (j*sz)=⟨g,off+j*sz,none⟩:=by
  unfold Addr.add;split<;>simp_all
 simp [execOp,hρ x _ hx,hρ ix _ hi,Instr.indexAt,run_underlying ht.out,asIntOf,sizeOf,typeInfo,h1,h2,hadd,Instr.sureAddr]
 try omega
theorem Kd {x ix:Operand} {t e g off m sz:Nat} {k:IntKind} [ht:Und P t (.array m e)] [hs:Size P e sz] (hx:ev s x=some (.pointer (some ⟨g,off,none⟩))) (hi:ev s ix=some (.int k 0)) (hj:Nat.blt 0 m=true):
  VOp P w0 s H (.indexAddr t x ix) ty (.pointer (some ⟨g,off,none⟩)):=by
 have h:=w9 (P:=P) (w0:=w0) (H:=H) (ty:=ty) (t:=t) (j:=0) hx hi (by simpa using hj)
 rwa [Wu,Vi] at h
theorem Kc {x ix:Operand} {t e g off m sz:Nat} {k:IntKind} [ht:Und P t (.array m e)] [hs:Size P e sz] (hx:ev s x=some (.pointer (some ⟨g,off,none⟩))) (hi:ev s ix=some (.int k 1)) (hj:Nat.blt 1 m=true):
  VOp P w0 s H (.indexAddr t x ix) ty (.pointer (some ⟨g,off+sz,none⟩)):=by
 have h:=w9 (P:=P) (w0:=w0) (H:=H) (ty:=ty) (t:=t) (j:=1) hx hi (by simpa using hj)
 rwa [Wq] at h
theorem uI {α:Type} {enc:α→List Value} {m:Nat} (h: ∀ a,(enc a).length=m) (L:List α) (i k:Nat) (hi:i<L.length) (hk:k<m) (v:Value) (a:α) (ha:(enc L[i]).set k v=enc a):
  (L.flatMap enc).set (i*m+k) v=(L.set i a).flatMap enc:=by
 rw [← Fl h L i hi a]
 have hl:((L.flatMap enc).take (i*m)).length=i*m:=by
  have h1:=aR h L
  have h2:i*m≤L.length*m:=VR _ (by omega)
  rw [Ue];omega
 have h1:L.flatMap enc=(L.flatMap enc).take (i*m)++(enc L[i]++(L.flatMap enc).drop (i*m+m)):=by
  rw [← cf h L i hi]
  conv=>lhs;rw [← UF (i*m) (L.flatMap enc)]
  congr 1
  conv=>lhs;rw [← UF m ((L.flatMap enc).drop (i*m))]
  rw [U0]
 generalize (L.flatMap enc).take (i*m)=X at h1 hl
 generalize (L.flatMap enc).drop (i*m+m)=S at h1
 rw [h1,VL _ _ (by omega),hl,WI,List.set_append_left _ _ (by rw [h];exact hk),ha]
 simp
end
section
variable {P:Program} {n:Fr} {w0:World} {Q:ck} {s:aB} {H:List Blk} {rest:List Oper} {ty:TypeId} {p:String} {af:Array Edge}
theorem Ga {d t e m sz:Nat} {ps:List (Nat × Operand)} {vs xs zs:List Value} {ops:Array Oper} [ht:Und P t (.array m e)] [he:Size P e sz] [hz:ZeroC P t zs] (hn:Nat.blt d n.sz=true) (hps:evd s ps 0=some vs)
  (hs0:Nat.blt 0 sz=true) (hl:Nat.beq (vs.length*sz) zs.length=true) (h1:z6 sz vs=true) (hx:vZ (flat vs)=some xs) (k:WL P n w0 ops rest Q ((d,.agg xs.toArray)::s) H):
  WL P n w0 ops (⟨some d,.build t ps.toArray,ty,p,af,none⟩::rest) Q s H:=by
 refine wy rfl d rfl hn (fun a w hs hm=> ?_) k
 obtain ⟨it,z,i1,i2,i3⟩:=hz.out
 obtain ⟨ie,j1,j2⟩:=he.out
 have hall:=qb h1
 have hlen:=UC hl
 have hfill:=Great.fill_whole (s:=sz) (by simpa using hs0) vs z.cells hall (by rw [i3];simp [hlen])
 rw [← wI hs hps] at hfill
 have hb:P.built t (ps.map fun (x:Nat × Operand)=>(x.1,a.eval x.2))=some (flat vs).toArray:=by
  unfold Program.built
  simp only [i1,ht.out,i2,j1,j2]
  exact hfill
 have hr:=run_build (P:=P) w t (ps.map fun (x:Nat × Operand)=>(x.1,a.eval x.2)).toArray (flat vs).toArray (by simpa using hb)
 rw [jC hx]
 simp only [execOp,Vs]
 simp only [Sem.run_bind,hr,Result.andThen_ok,Sem.run_pure]
theorem aX {d t e n' c g sz by_:Nat} {A:Option Nat} {x y:Operand} {xs news:List Value} {R:List Blk} {ops:Array Oper} [ht:Und P t (.slice e)] [he:Elem P e sz by_] (hn:Nat.blt d n.sz=true)
  (hx:ev s x=some (sl A n' c)) (hy:ev s y=some (.slice (some ⟨g,0,none⟩) 1 1)) (hsel:Sel (.own A e sz n' c xs) H R)
  (hi:In (.own (some g) e sz 1 1 news) H) (hl:news.length=sz) (h1: ∀ u∈news,u.oneCell' =true) (hby:(n' +1)*by_≤140737488355328) (h63:n' +1≤maxLen)
  (k: ∀ g' cap',WL P n w0 ops rest Q ((d,sl (some g') (n' +1) cap')::s) (.own (some g') e sz (n' +1) cap' (xs++news)::R)):
  WL P n w0 ops (⟨some d,.call { callee:= .builtin .append,args:= #[x,y],argTypes:= #[t,t] },ty,p,af,none⟩::rest) Q s H:=
 eF (m:=1) hn hx hy hsel (fun w hm=>Reads.of_own (A:=some g) hm hi) (by omega) h1 hby h63 fun A' cap' hA=>by
  obtain ⟨g',rfl⟩:=hA (by omega)
  exact k g' cap'
end
def jW (v:Value):List PanicEntry:= [{ v,recovered:=false }]
def FnP (P:Program) (f:FuncId) (args:List Value) (w0:World) (H:List Blk) (R D:Value→List Blk→Prop):Prop:=
 ∀ w,Mem w0 w H→Calls P f args.toArray w fun e w' =>(∃ v H',e= .returned v∧Mem w0 w' H' ∧R v H')∨(∃ v H',e= .panicked (jW v)∧Mem w0 w' H' ∧D v H')
theorem FnP.msub {P:Program} {f:FuncId} {args:List Value} {w0:World} {H H' :List Blk} {R D:Value→List Blk→Prop} (h:FnP P f args w0 H' R D) (hs:MSub H' H):FnP P f args w0 H R D:=fun w hm=>h w (hs.use hm)
def aZ (P:Program) (fn:Func) (n:Fr) (w0:World) (R D:Value→List Blk→Prop):ck:=fun e s H=>
 ba P fn n w0 R e s H∨ ∃ v H',e= .panic (jW v)∧MSub H' H∧D v H'
section
variable {P:Program} {n:Fr} {w0:World} {Q:ck} {s:aB} {H:List Blk} {l rest:List Oper} {ty:TypeId} {p:String} {af:Array Edge}
theorem bW {d:Nat} {ops:Array Oper} {f:FuncId} {xs:List Operand} {vs:List Value} {ts:Array TypeId} {R D:Value→List Blk→Prop} [Callable P f] (hn:Nat.blt d n.sz=true) (hx:evs s xs=some vs)
  (hF:FnP P f vs w0 H R D) (k: ∀ v H',R v H' →WL P n w0 ops rest Q ((d,v)::s) H') (kd: ∀ v H',D v H' →Q (.panic (jW v)) s H'):
  WL P n w0 ops (⟨some d,.call { callee:= .value (.func f),args:=xs.toArray,argTypes:=ts },ty,p,af,none⟩::rest) Q s H:=by
 intro a w hs hm
 refine wpList_plain rfl fun K hK=> ?_
 have hr:=mq (P:=P) (w:=w) (ρ:=a.eval) (d:=some d) (ty:=ty) (p:=p) (af:=af) (g:=none) (f:=f) (c:= .func f) (xs:=xs) (caps:= []) (ts:=ts) rfl (iS hs hx)
 rw [TR] at hr
 simp only [Oper.wp,hr,Oper.upon]
 refine (hF w hm).mono ?_
 rintro e w' (⟨v,H',rfl,hm',hR⟩|⟨v,H',rfl,hm',hD⟩)
 ·
  exact hK _ _ (k v H' hR _ _ (hs.put (UI ▸ hn) _) hm')
 ·
  exact ⟨s,H',hs,hm',kd v H' hD⟩
theorem Mb {d:Option Tmp} {ops:Array Oper} {x:Operand} {t:TypeId} {v:Value} (hx:ev s x=some (.iface t v)) (h:Q (.panic (jW (.iface t v))) s H):
  WL P n w0 ops (⟨d,.panic x,ty,p,af,none⟩::rest) Q s H:=by
 intro a w hs hm
 refine wpList_plain rfl fun K hK=> ?_
 have hr:(execOp a.eval ⟨d,.panic x,ty,p,af,none⟩).run P w= .halt (.panic (.iface t v)) w:=by
  simp only [execOp,hs.eval x _ hx]
  rfl
 simp only [Oper.wp,hr,Oper.upon]
 exact ⟨s,H,hs,hm,h⟩
theorem SP {K:aB→List Blk→Prop} {c:List PanicEntry} (h:Q (.panic c) s H):thn K Q (.panic c) s H:=h
theorem Tj {id:Nat} {c:List PanicEntry} (h:Q (.panic c) s H):blk id Q (.panic c) s H:=h
theorem Tg {ι:Type} {sI:ι→aB} {HI:ι→List Blk} {ok:ι→Prop} {c:List PanicEntry} (h:Q (.panic c) s H):bF sI HI ok Q (.panic c) s H:=h
theorem SW {fn:Func} {R D:Value→List Blk→Prop} {e:Exit} (h:ba P fn n w0 R e s H):aZ P fn n w0 R D e s H:= .inl h
theorem QC {fn:Func} {R D:Value→List Blk→Prop} {v:Value} {H' :List Blk} (hs:MSub H' H) (h:D v H'):aZ P fn n w0 R D (.panic (jW v)) s H:= .inr ⟨v,H',rfl,hs,h⟩
theorem yu {m:Nat} {f:FuncId} {fn:Func} {c:Code} {args:List Value} {R D:Value→List Blk→Prop} (hf:P.funcs[f]? =some fn) (hb:fn.body=some c) (hn:fn.ntmps=m) (hle:Nat.ble args.length m=true)
  (h:W P ⟨m,[]⟩ w0 c (aZ P fn ⟨m,[]⟩ w0 R D) (uj args 0) H):FnP P f args w0 H R D:=by
 intro w hm
 have hle' :args.length≤m:=by simpa using hle
 refine calls_of_wp hf hb (wp_mono (h { tmps:=args.toArray++Array.replicate (fn.ntmps - args.toArray.size) undef,defers:= [] } w ⟨?_,rfl,?_⟩ hm) ?_)
 ·
  simp [hn];omega
 ·
  intro t v ht
  rw [mJ] at ht
  simp only [TW,if_true,U9] at ht
  have hlt:t<args.length:=(TV.1 ht).1
  rw [UO (by simpa using hlt)]
  simpa using ht
 ·
  rintro e a w' ⟨s',H',hs,hm',hq⟩
  rcases hq with ⟨he,v,H'',hsub,hr,hR⟩|⟨v,H'',rfl,hsub,hD⟩
  ·
   have hp:a.defers= []∧ ∃ v,(results fn a.tmps).run P w' = .ok v w' ∧((∃ v1 H1,Ending.returned v= .returned v1∧Mem w0 w' H1∧R v1 H1)∨(∃ v1 H1,Ending.returned v= .panicked (jW v1)∧Mem w0 w' H1∧D v1 H1)):=
    ⟨hs.defers,v,hr a w' hs hm',.inl ⟨v,H'',rfl,hsub.use hm',hR⟩⟩
   rcases he with rfl|rfl<;>exact hp
  ·
   exact ⟨hs.defers,.inr ⟨v,H'',rfl,hsub.use hm',hD⟩⟩
end
section
variable {P:Program} {n:Fr} {w0:World} {Q:ck} {s:aB} {H:List Blk} {l rest:List Oper} {ty:TypeId} {p:String} {af:Array Edge}
theorem Gv {t lo hi:Nat} {a:ByteArray} {x q r:Operand} {k k' :IntKind} [ht:Und P t .string] (hx:ev s x=some (.string a)) (hr:ev s r=some (.int k' (lo:Nat))) (hq:ev s q=some (.int k (hi:Nat))) (h1:lo≤hi) (h2:hi≤a.size):
  VOp P w0 s H (.slice t x (some r) (some q) none) ty (.string (a.extract lo hi)):=fun ρ w _ _ _ _ hρ _=>by
 simp [execOp,hρ x _ hx,hρ q _ hq,hρ r _ hr,Instr.sliceAt,run_underlying ht.out,Instr.slice,Instr.sliceBounds,Instr.sliceBound,asIntOf,h2,h1]
theorem xa {t lo:Nat} {a:ByteArray} {x r:Operand} {k' :IntKind} [ht:Und P t .string] (hx:ev s x=some (.string a)) (hr:ev s r=some (.int k' (lo:Nat))) (h1:lo≤a.size):
  VOp P w0 s H (.slice t x (some r) none none) ty (.string (a.extract lo a.size)):=fun ρ w _ _ _ _ hρ _=>by
 simp [execOp,hρ x _ hx,hρ r _ hr,Instr.sliceAt,run_underlying ht.out,Instr.slice,Instr.sliceBounds,Instr.sliceBound,asIntOf,h1]
theorem RC {x y:Operand} {a b:ByteArray} {t t' :TypeId} (hx:ev s x=some (.string a)) (hy:ev s y=some (.string b)) (h:a.size+b.size≤maxLen):VOp P w0 s H (.binOp .add t x y t') ty (.string (a++b)):=fun ρ w _ _ _ _ hρ _=>by
 simp only [maxLen] at h
 simp [execOp,hρ x _ hx,hρ y _ hy,eqGuard,binOp,Op.stringOp]
 omega
theorem Dw {x:Operand} {t:TypeId} {v:Value} {d:TypeDesc} [ht:Und P t d] (hd: ∀ m,d≠ .interface m) (hx:ev s x=some v):VOp P w0 s H (.makeInterface t x) ty (.iface t v):=fun ρ w _ _ _ _ hρ _=>by
 cases d<;>first|(exact absurd rfl (hd _))|simp [execOp,hρ x _ hx,Instr.makeInterface,run_underlying ht.out]
end
def fC {κ:Type} (enc:κ→Value) (e:κ × Value × Nat):MapEntry:={ key:=enc e.1,val:=e.2.1,born:=e.2.2 }
def aU {κ:Type} (enc:κ→Value) (es:List (κ × Value × Nat)) (clock:Nat):Obj:= .map (es.map (fC enc)).toArray clock
structure MapOk {κ:Type} (es:List (κ × Value × Nat)) (clock:Nat):Prop where
 born:(es.map fun e=>e.2.2).Nodup
 old: ∀ e∈es,e.2.2<clock
 keys:(es.map fun e=>e.1).Nodup
def oh (g clock:Nat) (seen:List Nat):Obj:= .mapIter (some g) clock seen.toArray clock
def bJ {κ:Type} [DecidableEq κ] (k:κ):List (κ × Value × Nat)→Nat→Option (Nat × Value)
 | [],_=>none
 |e::es,i=>if k=e.1 then some (i,e.2.1) else bJ k es (i+1)
class KLaw (P:Program) (K:TypeId) {κ:Type} [DecidableEq κ] (enc:κ→Value):Prop where
 check: ∀ e k w,(Instr.checkKey e 10000 K (enc k)).run P w= .ok () w
 find: ∀ k (es:List (κ × Value × Nat)) w,(Instr.findKey K (enc k) (es.map (fC enc))).run P w= .ok (bJ k es 0) w
 stays: ∀ k w,(Instr.keyThatStays (enc k) (enc k)).run P w= .ok (enc k) w
def iA {κ:Type} [DecidableEq κ] (k:κ) (v:Value) (clock:Nat) (es:List (κ × Value × Nat)):List (κ × Value × Nat) × Nat:=
 match bJ k es 0 with
 |some (i,_)=>(es.modify i fun e=>(k,v,e.2.2),clock)
 |none=>(es++ [(k,v,clock)],clock+1)
def H7 {κ:Type} [DecidableEq κ] (k:κ) (es:List (κ × Value × Nat)):List (κ × Value × Nat):=
 match bJ k es 0 with
 |some (i,_)=>es.eraseIdx i
 |none=>es
theorem kF {κ:Type} [DecidableEq κ] {k:κ}: ∀ {es:List (κ × Value × Nat)} {i j:Nat} {v:Value},bJ k es i=some (j,v)→ ∃ b,i≤j∧es[j - i]? =some (k,v,b)
 | [],i,j,v,h=>by cases h
 |e::es,i,j,v,h=>by
  simp only [bJ] at h
  split at h
  ·
   rename_i hk
   obtain ⟨rfl,rfl⟩:=Prod.mk.inj (Option.some.inj h)
   exact ⟨e.2.2,TQ _,by simp [hk]⟩
  ·
   obtain ⟨b,h1,h2⟩:=kF h
   refine ⟨b,by omega,?_⟩
   rw [show j - i=(j - (i+1))+1 by omega,Wc]
   exact h2
section
variable {P:Program} {n:Fr} {w0:World} {Q:ck} {s:aB} {H:List Blk} {l rest:List Oper} {ty:TypeId} {p:String} {af:Array Edge} {κ:Type} [DecidableEq κ] {enc:κ→Value}
theorem fS {κ' :Type} {d t:Nat} {ops:Array Oper} (hn:Nat.blt d n.sz=true) (enc:κ' →Value)
  (k: ∀ g,WL P n w0 ops rest Q ((d,.map (some g))::s) (.obj g (aU enc [] 0)::H)):WL P n w0 ops (⟨some d,.makeMap t none,ty,p,af,none⟩::rest) Q s H:=by
 refine qY (B:=fun g=> .obj g (aU enc [] 0)) (v:=fun g=> .map (some g)) hn (fun st w hs hm=> ?_) k
 exact ⟨w.alloc (.map #[] 0),rfl,World.grownBy_alloc w _ none,heap_alloc_new w _,rfl⟩
theorem Mem.obj_at {w:World} {g:Nat} {o:Obj} (hm:Mem w0 w H) (hi:In (.obj g o) H):w.heap[g]? =some o:=(hm.on _ hi.mem).1
theorem DZ {P:Program} {E:TypeId} {z:Value} [hz:Zero P E z] (w:World):(zeroValue E).run P w= .ok z w:=by
 obtain ⟨i,h1,h2⟩:=hz.out
 simp [zeroValue,typeInfo,h1,h2]
theorem ep {t K E g clock:Nat} {x ix:Operand} {k:κ} {es:List (κ × Value × Nat)} {z u:Value} [ht:Und P t (.map K E)] [hk:KLaw P K enc] [hz:Zero P E z] (hx:ev s x=some (.map (some g))) (hi:ev s ix=some (enc k)) (hin:In (.obj g (aU enc es clock)) H)
  (hu:(match bJ k es 0 with|some (_,v)=>v|none=>z)=u):VOp P w0 s H (.lookup t x ix false) ty u:=fun ρ w _ _ _ _ hρ hm=>by
 have hb:=hm.obj_at hin
 have hf:=hk.find k es w
 have hc:=hk.check (es.map (fC enc)).toArray.isEmpty k w
 subst hu
 simp only [aU] at hb
 have hL:(Instr.lookup t (.map (some g)) (enc k) false).run P w= .ok (match bJ k es 0 with|some (_,v)=>v|none=>z) w:=by
  simp only [Instr.lookup,Sem.run_bind,run_underlying ht.out,Result.andThen_ok,MapKept.run_getObj_map hb,hc,hf,Sem.run_pure]
  cases h:bJ k es 0 with
  |none=>simp only [Sem.run_bind,DZ w,Result.andThen_ok,Sem.run_pure,Ur,if_false]
  |some r=>rfl
 simp only [execOp,hρ x _ hx,hρ ix _ hi,Sem.run_bind,hL,Result.andThen_ok,Sem.run_pure]
theorem fV {t K E g clock:Nat} {x ix:Operand} {k:κ} {es:List (κ × Value × Nat)} {z u:Value} [ht:Und P t (.map K E)] [hk:KLaw P K enc] [hz:Zero P E z] (hx:ev s x=some (.map (some g))) (hi:ev s ix=some (enc k)) (hin:In (.obj g (aU enc es clock)) H)
  (hu:(match bJ k es 0 with|some (_,v)=>Value.tuple #[v,.bool true]|none=> .tuple #[z,.bool false])=u):VOp P w0 s H (.lookup t x ix true) ty u:=fun ρ w _ _ _ _ hρ hm=>by
 have hb:=hm.obj_at hin
 have hf:=hk.find k es w
 have hc:=hk.check (es.map (fC enc)).toArray.isEmpty k w
 subst hu
 simp only [aU] at hb
 have hL:(Instr.lookup t (.map (some g)) (enc k) true).run P w= .ok (match bJ k es 0 with|some (_,v)=>Value.tuple #[v,.bool true]|none=> .tuple #[z,.bool false]) w:=by
  simp only [Instr.lookup,Sem.run_bind,run_underlying ht.out,Result.andThen_ok,MapKept.run_getObj_map hb,hc,hf,Sem.run_pure]
  cases h:bJ k es 0 with
  |none=>simp only [Sem.run_bind,DZ w,Result.andThen_ok,Sem.run_pure,if_true]
  |some r=>rfl
 simp only [execOp,hρ x _ hx,hρ ix _ hi,Sem.run_bind,hL,Result.andThen_ok,Sem.run_pure]
theorem nn (w:World) (g:Nat) (o:Obj):w.grownBy { w with heap:=w.heap.setIfInBounds g o } (some g):=
 ⟨rfl,rfl,rfl,by simp,fun k _ hk=>by
  have hne:g≠k:=fun e=>hk (by rw [← e])
  simp [Vy hne]⟩
theorem uf {w:World} {g:Nat} {o o' :Obj} (h:w.heap[g]? =some o):(w.heap.setIfInBounds g o')[g]? =some o' :=by
 have:g<w.heap.size:=(Um.1 h).1
 simp [this]
theorem qJ {t K E g clock:Nat} {k:κ} {v:Value} {es:List (κ × Value × Nat)} {w:World} [ht:Und P t (.map K E)] [hk:KLaw P K enc] (hb:w.heap[g]? =some (aU enc es clock)):
  (Instr.mapUpdate t (.map (some g)) (enc k) v).run P w= .ok () { w with heap:=w.heap.setIfInBounds g (aU enc (iA k v clock es).1 (iA k v clock es).2) }:=by
 have hf:=hk.find k es w
 have hc:=hk.check false k w
 simp only [aU] at hb
 cases h:bJ k es 0 with
 |none=>
  rw [h] at hf
  simp [Instr.mapUpdate,run_underlying ht.out,getObj,setObj,Sem.run,hb,hc,hf,Result.andThen,iA,h,aU,fC]
 |some r=>
  obtain ⟨i,u⟩:=r
  rw [h] at hf
  obtain ⟨b,_,hi⟩:=kF h
  rw [U9] at hi
  have hkey:(((es.map (fC enc)).toArray[i]?).map (·.key)).getD (enc k)=enc k:=by simp [hi,fC]
  have hst:=hk.stays k w
  have he:((es.map (fC enc)).toArray.modify i fun e=>{ e with key:=enc k,val:=v })=((es.modify i fun e=>(k,v,e.2.2)).map (fC enc)).toArray:=by
   apply Array.ext'
   simp only [Array.toList_modify]
   apply Vv
   intro j
   simp only [V0,Uq]
   cases es[j]? <;>simp [fC]<;>split<;>rfl
  simp only [Instr.mapUpdate,Sem.run_bind,run_underlying ht.out,Result.andThen_ok,getObj,setObj,Sem.run,hb,hc,hf,hkey,hst,he]
  simp [iA,h,aU]
theorem eU {t K E g clock:Nat} {m x kx:Operand} {k:κ} {v:Value} {es:List (κ × Value × Nat)} {R:List Blk} {ops:Array Oper} [ht:Und P t (.map K E)] [hk:KLaw P K enc] (hm:ev s m=some (.map (some g))) (hkx:ev s kx=some (enc k)) (hx:ev s x=some v) (hsel:Sel (.obj g (aU enc es clock)) H R)
  (h:WL P n w0 ops rest Q s (.obj g (aU enc (iA k v clock es).1 (iA k v clock es).2)::R)):WL P n w0 ops (⟨none,.mapUpdate t m kx x,ty,p,af,none⟩::rest) Q s H:=by
 refine rS (fun a w hs hmm=> ?_) h
 have hm' :=hmm.sel hsel
 have hb:=(hm'.on _ TI).1
 refine ⟨_,?_,hm'.upd (nn w g _) (b' := .obj g _) (uf hb) fun k hk=> .inl hk⟩
 simp [execOp,hs.eval m _ hm,hs.eval x _ hx,hs.eval kx _ hkx,qJ (P:=P) (t:=t) (K:=K) (E:=E) (k:=k) (v:=v) hb]
theorem zB {t K E g clock:Nat} {m x kx:Operand} {k:κ} {v:Value} {es:List (κ × Value × Nat)} {R:List Blk} {ops:Array Oper} [ht:Und P t (.map K E)] [hk:KLaw P K enc] (hm:ev s m=some (.map (some g))) (hkx:ev s kx=some (enc k)) (hx:ev s x=some v) (hsel:Sel (.obj g (aU enc es clock)) H R)
  (h:WL P n w0 ops rest Q s (.obj g (aU enc (iA k v clock es).1 (iA k v clock es).2)::R)):WL P n w0 ops (⟨none,.insert t m kx x,ty,p,af,none⟩::rest) Q s H:=by
 refine rS (fun a w hs hmm=> ?_) h
 have hm' :=hmm.sel hsel
 have hb:=(hm'.on _ TI).1
 refine ⟨_,?_,hm'.upd (nn w g _) (b' := .obj g _) (uf hb) fun k hk=> .inl hk⟩
 simp [execOp,hs.eval m _ hm,hs.eval x _ hx,hs.eval kx _ hkx,qJ (P:=P) (t:=t) (K:=K) (E:=E) (k:=k) (v:=v) hb]
end
section
variable {P:Program} {n:Fr} {w0:World} {Q:ck} {s:aB} {H:List Blk} {l rest:List Oper} {ty:TypeId} {p:String} {af:Array Edge} {κ:Type} [DecidableEq κ] {enc:κ→Value}
theorem nK {α β:Type} (f:α→β): ∀ (l:List α) (i:Nat),(l.eraseIdx i).map f=(l.map f).eraseIdx i
 | [],_=>rfl
 |_::_,0=>rfl
 |a::l,i+1=>by simp only [List.eraseIdx_cons_succ,Ud,nK f l i]
theorem GW {t K E g clock:Nat} {ts:Array TypeId} {k:κ} {es:List (κ × Value × Nat)} {w:World} [ht:Und P t (.map K E)] [hk:KLaw P K enc] (hb:w.heap[g]? =some (aU enc es clock)) (h0:ts[0]? =some t):
  (Builtin.delete_ ts ty #[.map (some g),enc k]).run P w= .ok (.tuple #[]) { w with heap:=w.heap.setIfInBounds g (aU enc (H7 k es) clock) }:=by
 have hf:=hk.find k es w
 have hc:=hk.check (es.map (fC enc)).toArray.isEmpty k w
 simp only [aU] at hb
 have e0:(#[Value.map (some g),enc k])[0]? =some (.map (some g)):=rfl
 have e1:(#[Value.map (some g),enc k])[1]? =some (enc k):=rfl
 simp only [Builtin.delete_,h0,e0,e1,Sem.run_bind,run_underlying ht.out,Result.andThen_ok,getObj,setObj,Sem.run,hb,Result.andThen,hc,hf]
 cases h:bJ k es 0 with
 |none=>simp [H7,h,hb,aU,Sem.run,Sem.run_pure]
 |some r=>
  obtain ⟨i,u⟩:=r
  have he:(es.map (fC enc)).toArray.eraseIdxIfInBounds i=((es.eraseIdx i).map (fC enc)).toArray:=by
   apply Array.ext'
   rw [Array.toList_eraseIdxIfInBounds]
   simp only
   exact (nK _ _ _).symm
  simp [H7,h,hb,aU,Sem.run,Sem.run_pure,he]
theorem J2 {t K E g clock:Nat} {ts:Array TypeId} {m kx:Operand} {k:κ} {es:List (κ × Value × Nat)} {R:List Blk} {ops:Array Oper} [ht:Und P t (.map K E)] [hk:KLaw P K enc] (h0:ts[0]? =some t) (hm:ev s m=some (.map (some g))) (hkx:ev s kx=some (enc k)) (hsel:Sel (.obj g (aU enc es clock)) H R)
  (h:WL P n w0 ops rest Q s (.obj g (aU enc (H7 k es) clock)::R)):WL P n w0 ops (⟨none,.call { callee:= .builtin .delete,args:= #[m,kx],argTypes:=ts },ty,p,af,none⟩::rest) Q s H:=by
 intro a w hs hmm
 have hm' :=hmm.sel hsel
 have hb:=(hm'.on _ TI).1
 refine wpList_plain rfl fun K' hK=> ?_
 have hr:(execOp a.eval ⟨none,.call { callee:= .builtin .delete,args:= #[m,kx],argTypes:=ts },ty,p,af,none⟩).run P w= .ok (.value (.tuple #[])) { w with heap:=w.heap.setIfInBounds g (aU enc (H7 k es) clock) }:=by
  have hd:=GW (P:=P) (ty:=ty) (t:=t) (K:=K) (E:=E) (k:=k) (es:=es) (w:=w) (ts:=ts) hb h0
  simp [execOp,hs.eval m _ hm,hs.eval kx _ hkx,resolve,invoke,builtin,hd]
 simp only [Oper.wp,hr,Oper.upon]
 exact hK _ _ (h _ _ (hs.put_none _) (hm'.upd (nn w g _) (b' := .obj g _) (uf hb) fun k hk=> .inl hk))
theorem rR {κ' :Type} {enc:κ' →Value} {d t K E g clock:Nat} {x:Operand} {es:List (κ' × Value × Nat)} {ops:Array Oper} [ht:Und P t (.map K E)] (hn:Nat.blt d n.sz=true) (hx:ev s x=some (.map (some g))) (hin:In (.obj g (aU enc es clock)) H)
  (k: ∀ gi,WL P n w0 ops rest Q ((d,.pointer (some ⟨gi,0,none⟩))::s) (.obj gi (oh g clock [])::H)):WL P n w0 ops (⟨some d,.range t x,ty,p,af,none⟩::rest) Q s H:=by
 refine qY (B:=fun gi=> .obj gi (oh g clock [])) (v:=fun gi=> .pointer (some ⟨gi,0,none⟩)) hn (fun st w hs hm=> ?_) k
 have hb:=hm.obj_at hin
 refine ⟨w.alloc (.mapIter (some g) clock #[] clock),?_,World.grownBy_alloc w _ none,heap_alloc_new w _,rfl⟩
 simp only [execOp,hs.eval x _ hx,Sem.run_bind,run_range_map w t K E g _ clock ht.out hb,Result.andThen_ok,Sem.run_pure]
theorem uV {κ' :Type} {enc:κ' →Value} {d g gi clock:Nat} {x:Operand} {es:List (κ' × Value × Nat)} {seen:List Nat} {R:List Blk} {ops:Array Oper} (hn:Nat.blt d n.sz=true) (hx:ev s x=some (.pointer (some ⟨gi,0,none⟩))) (hsel:Sel (.obj gi (oh g clock seen)) H R) (hin:In (.obj g (aU enc es clock)) R) (hok:MapOk es clock)
  (k1: ∀ e∈es,e.2.2∉seen→WL P n w0 ops rest Q ((d,.tuple #[.bool true,enc e.1,e.2.1])::s) (.obj gi (oh g clock (seen++ [e.2.2]))::R))
  (k2:(∀ e∈es,e.2.2∈seen)→WL P n w0 ops rest Q ((d,.tuple #[.bool false])::s) (.obj gi (oh g clock seen)::R)):
  WL P n w0 ops (⟨some d,.next x false,ty,p,af,none⟩::rest) Q s H:=by
 intro st w hs hm
 have hm' :=hm.sel hsel
 have hbi:=(hm'.on _ TI).1
 have hb:=hm'.tail.obj_at hin
 simp only [Blk.on,oh] at hbi
 simp only [aU] at hb
 refine wpList_plain rfl fun K hK=> ?_
 have hold: ∀ y∈(es.map (fC enc)).toArray.toList,y.born<clock:=by
  intro y hy
  simp only [Ul] at hy
  obtain ⟨e,he,rfl⟩:=hy
  exact hok.old e he
 have htest:=next_test_false seen.toArray (es.map (fC enc)).toArray clock clock hold (TQ _)
 have hleft: ∀ L:Array MapEntry,L=(es.map (fC enc)).toArray.filter (fun e=> !seen.toArray.contains e.born)→L.filter (fun y=>decide (y.born<clock))=L∧L.filter (fun y=>decide (y.born≥clock))= #[]:=by
  intro L hL
  have hmem: ∀ y∈L,y.born<clock:=fun y hy=>hold y (by subst hL;simp at hy ⊢;exact hy.1)
  refine ⟨Array.filter_eq_self.2 (fun y hy=>by simpa using hmem y hy),?_⟩
  rw [Array.filter_eq_empty_iff]
  intro y hy
  have:=hmem y hy
  simp;omega
 obtain ⟨e1,e2⟩:=hleft _ rfl
 generalize hLd:(es.map (fC enc)).toArray.filter (fun e=> !seen.toArray.contains e.born)=L at e1 e2
 by_cases h0:L.size=0
 ·
  have hL0:L= #[]:=Wm h0
  have hr:(Instr.next (.pointer (some ⟨gi,0,none⟩)) false ty).run P w= .ok (.tuple #[.bool false]) w:=by
   simp only [Instr.next,getObj,Sem.run_bind,Sem.run,hbi,hb,Result.andThen,htest,Ur,if_false,hLd,e1,e2,Array.append_empty]
   subst hL0
   simp [choose,Sem.run,Question.forced]
  unfold Oper.wp execOp
  simp only [Sem.run_bind,hs.eval x _ hx,hr,Result.andThen_ok,Sem.run_pure,Oper.upon]
  refine hK _ _ (k2 (fun e he=> ?_) _ _ (hs.put (UI ▸ hn) _) hm')
  rw [hL0,Array.filter_eq_empty_iff] at hLd
  have:=hLd (fC enc e) (by simp;exact ⟨e.1,e.2.1,e.2.2,he,rfl⟩)
  simpa [fC] using this
 ·
  have hne:L.isEmpty=false:=by simp [Array.isEmpty,h0]
  have hch: ∃ (j:Nat) (w1:World),j<L.size∧(w1=w∨w1=w.drew)∧(choose (Question.mapNext L.size)).run P w= .ok j w1:=by
   by_cases hf:L.size≤1
   ·
    exact ⟨0,w,by omega,.inl rfl,by simp [choose,Sem.run,Question.forced,hf]⟩
   ·
    exact ⟨_,w.drew,WU _ (by omega),.inr rfl,by
     simp only [choose,Sem.run,Question.forced,decide_eq_true_eq,hf,if_false,Question.cut]
     rfl⟩
  obtain ⟨j,w1,hj,hal,hrun⟩:=hch
  have hLj: ∀ y∈L,(∃ e∈es,fC enc e=y)∧(!seen.toArray.contains y.born)=true:=by
   intro y hy
   rw [← hLd,Array.mem_filter,List.mem_toArray,Ul] at hy
   exact hy
  obtain ⟨⟨e,he,hej⟩,hns⟩:=hLj _ (Array.getElem_mem hj)
  have hb1:w1.heap=w.heap:=by rcases hal with rfl|rfl<;>rfl
  have hr:(Instr.next (.pointer (some ⟨gi,0,none⟩)) false ty).run P w= .ok (.tuple #[.bool true,enc e.1,e.2.1]) { w1 with heap:=w1.heap.setIfInBounds gi (.mapIter (some g) clock (seen++ [e.2.2]).toArray clock) }:=by
   simp only [Instr.next,getObj,Sem.run_bind,Sem.run,hbi,hb,Result.andThen,htest,Ur,if_false,hLd,e1,e2,Array.append_empty,hne,Array.empty_append,Array.size_map,hrun,Array.getElem?_map,Array.getElem?_eq_getElem hj,UH,setObj,hb1,← hej]
   simp [fC]
  unfold Oper.wp execOp
  simp only [Sem.run_bind,hs.eval x _ hx,hr,Result.andThen_ok,Sem.run_pure,Oper.upon]
  have hnot:e.2.2∉seen:=by
   have:fC enc e=L[j]:=hej
   rw [← this] at hns
   simpa [fC] using hns
  have hg1:w.grownBy { w1 with heap:=w1.heap.setIfInBounds gi (.mapIter (some g) clock (seen++ [e.2.2]).toArray clock) } (some gi):=by
   have hh: ∀ k:Nat,k≠gi→(w.heap.setIfInBounds gi (.mapIter (some g) clock (seen++ [e.2.2]).toArray clock))[k]? =w.heap[k]? :=fun k hk=>by
    rw [Vy (Ne.symm hk)]
   rcases hal with rfl|rfl
   ·
    exact ⟨rfl,rfl,rfl,by simp,fun k _ hk=>hh k fun e=>hk (by rw [e])⟩
   ·
    exact ⟨rfl,rfl,rfl,by simp,fun k _ hk=>hh k fun e=>hk (by rw [e])⟩
  refine hK _ _ (k1 e he hnot _ _ (hs.put (UI ▸ hn) _) (hm'.upd hg1 (b' := .obj gi _) ?_ fun k hk=> .inl hk))
  simp only [Blk.on]
  have:gi<w.heap.size:=(Um.1 hbi).1
  simp [hb1,this,oh]
theorem Jd {κ' :Type} {enc:κ' →Value} {g gi clock:Nat} {x:Operand} {es:List (κ' × Value × Nat)} {seen:List Nat} {e:κ' × Value × Nat} (hx:ev s x=some (.pointer (some ⟨gi,0,none⟩))) (hin:In (.obj gi (oh g clock (seen++ [e.2.2]))) H) (hin2:In (.obj g (aU enc es clock)) H) (he:e∈es) (hok:MapOk es clock):
  VOp P w0 s H (.entry x) ty (.tuple #[enc e.1,e.2.1]):=fun ρ w _ _ _ _ hρ hm=>by
 have hbi:=hm.obj_at hin
 have hb:=hm.obj_at hin2
 simp only [oh] at hbi
 simp only [aU] at hb
 have hf:(es.map (fC enc)).toArray.find? (fun y=>y.born==e.2.2)=some (fC enc e):=by
  rw [← Array.find?_toList]
  exact find_born (fC enc e) (es.map (fC enc)) (by rw [VM];exact hok.born) (Ul.2 ⟨e,he,rfl⟩)
 have hbk:(seen++ [e.2.2]).toArray.back? =some e.2.2:=by simp
 have hr:(Instr.entry (.pointer (some ⟨gi,0,none⟩))).run P w= .ok (.tuple #[enc e.1,e.2.1]) w:=by
  simp only [Instr.entry,getObj,Sem.run_bind,Sem.run,hbi,hb,Result.andThen,hbk,bne_self_eq_false,Ur,if_false,hf]
  rfl
 simp only [execOp,hρ x _ hx,Sem.run_bind,hr,Result.andThen_ok,Sem.run_pure]
end
structure Vis {κ:Type} (es vis:List (κ × Value × Nat)):Prop where
 nodup:(vis.map fun e=>e.2.2).Nodup
 sub: ∀ e∈vis,e∈es
theorem Vis.nil {κ:Type} (es:List (κ × Value × Nat)):Vis es []:=⟨List.nodup_nil,fun _ h=>by cases h⟩
theorem Vis.step {κ:Type} {es vis:List (κ × Value × Nat)} (h:Vis es vis) {e:κ × Value × Nat} (he:e∈es) (hn:e.2.2∉vis.map fun e=>e.2.2):Vis es (vis++ [e]):=by
 refine ⟨?_,fun x hx=> ?_⟩
 ·
  rw [UG,Vu]
  exact ⟨h.nodup,by simp,fun a ha b hb=>by simp at hb;subst hb;exact fun e' =>hn (e' ▸ ha)⟩
 ·
  rcases Ub.1 hx with hx|hx
  ·
   exact h.sub x hx
  ·
   rw [TX.1 hx];exact he
theorem mF {α:Type}: ∀ {l m:List α},l.Nodup→(∀ x∈l,x∈m)→l.length≤m.length
 | [],_,_,_=>TW _
 |a::l,m,hn,hs=>by
  obtain ⟨s,t,rfl⟩:=List.append_of_mem (hs a TI)
  have h1:l.length≤(s++t).length:=mF (VH.1 hn).2 fun x hx=>by
   have hne:x≠a:=fun e=>(VH.1 hn).1 (e ▸ hx)
   have:=hs x (TM _ hx)
   simp only [Ub,TS] at this ⊢
   rcases this with h|h|h
   ·
    exact .inl h
   ·
    exact absurd h hne
   ·
    exact .inr h
  simp only [TZ,TG] at h1 ⊢
  omega
theorem Vis.len {κ:Type} {es vis:List (κ × Value × Nat)} (h:Vis es vis):vis.length≤es.length:=by
 have:=mF h.nodup (m:=es.map fun e=>e.2.2) fun x hx=>by
  obtain ⟨e,he,rfl⟩:=Ul.1 hx
  exact Ul.2 ⟨e,h.sub e he,rfl⟩
 simpa using this
theorem Vis.lt {κ:Type} {es vis:List (κ × Value × Nat)} (h:Vis es vis) {e:κ × Value × Nat} (he:e∈es) (hn:e.2.2∉vis.map fun e=>e.2.2):vis.length<es.length:=by
 have h1:=(h.step he hn).len
 rw [TG] at h1
 exact h1
theorem kr {α β:Type} (f:α→β) {l:List α} (h:(l.map f).Nodup):l.Nodup:=by
 rw [List.Nodup,Wz] at h
 exact h.imp fun h e=>h (congrArg f e)
theorem nT {α β:Type} (f:α→β): ∀ {l:List α},(l.map f).Nodup→ ∀ {x y:α},x∈l→y∈l→f x=f y→x=y
 |a::l,h,x,y,hx,hy,e=>by
  have h' :=VH.1 h
  rcases TS.1 hx with hx|hx<;>rcases TS.1 hy with hy|hy
  ·
   rw [hx,hy]
  ·
   exact absurd (Ul.2 ⟨y,hy,by rw [← e,hx]⟩) h'.1
  ·
   exact absurd (Ul.2 ⟨x,hx,by rw [e,hy]⟩) h'.1
  ·
   exact nT f h'.2 hx hy e
theorem Vis.mem {κ:Type} {es vis:List (κ × Value × Nat)} {clock:Nat} [DecidableEq κ] (h:Vis es vis) (hok:MapOk es clock) (hall: ∀ e∈es,e.2.2∈vis.map fun e=>e.2.2) (e:κ × Value × Nat):e∈vis↔e∈es:=by
 refine ⟨h.sub e,fun he=> ?_⟩
 obtain ⟨e',he',heq⟩:=Ul.1 (hall e he)
 exact nT _ hok.born (h.sub e' he') he heq ▸ he'
theorem kU {α:Type}: ∀ {l m:List α},l.Nodup→m.Nodup→(∀ a,a∈l↔a∈m)→l.Perm m
 | [],m,_,_,h=>by
  cases m with
  |nil=>exact .refl _
  |cons b m=>exact absurd ((h b).2 TI) (by simp)
 |a::l,m,hl,hm,h=>by
  have ha:a∈m:=(h a).1 TI
  obtain ⟨s,t,rfl⟩:=List.append_of_mem ha
  have hl' :=VH.1 hl
  have hp:(s++a::t).Perm (a::(s++t)):=V4
  have hm2:=VH.1 (hp.nodup_iff.1 hm)
  refine (List.Perm.cons a (kU hl'.2 hm2.2 fun x=> ?_)).trans hp.symm
  have hx:=h x
  rw [hp.mem_iff,TS,TS] at hx
  constructor
  ·
   intro hxl
   rcases hx.1 (.inr hxl) with e|h1
   ·
    exact absurd (e ▸ hxl) hl'.1
   ·
    exact h1
  ·
   intro hxm
   rcases hx.2 (.inr hxm) with e|h1
   ·
    exact absurd (e ▸ hxm) hm2.1
   ·
    exact h1
theorem Vis.perm {κ:Type} [DecidableEq κ] {es vis:List (κ × Value × Nat)} {clock:Nat} (h:Vis es vis) (hok:MapOk es clock) (hall: ∀ e∈es,e.2.2∈vis.map fun e=>e.2.2):vis.Perm es:=
 kU (kr _ h.nodup) (kr _ hok.born) (h.mem hok hall)
theorem NM {P:Program} {K:TypeId} {q:IntKind} [hK:Und P K (.int q)]:KLaw P K (fun z:Int=>Value.int q z):={
 check:=fun e k w=>by
  have h: ∀ m,(Instr.checkKey e (m+1) K (.int q k)).run P w= .ok () w:=fun m=>by simp only [Instr.checkKey,Sem.run_bind,run_underlying hK.out,Result.andThen_ok,Sem.run_pure]
  exact h 9999
 find:=fun k es w=>by
  have h: ∀ (es:List (Int × Value × Nat)) (i:Nat),Instr.findNow (.int q) (.int q k) (es.map (fC fun z:Int=>Value.int q z)) i=some (bJ k es i):=by
   intro es
   induction es with
   |nil=>intro i;rfl
   |cons e es ih=>
    intro i
    have hb:(k==e.1)=decide (k=e.1):=by rw [Uy];simp
    simp only [Ud,Instr.findNow,fC,Instr.sameNow,if_true,bJ,hb]
    by_cases hk:k=e.1
    ·
     simp [hk]
    ·
     simp only [decide_eq_false hk,hk,if_false]
     exact ih _
  simp only [Instr.findKey,Sem.run_bind,run_underlying hK.out,Result.andThen_ok,h,Sem.run_pure]
 stays:=fun k w=>by
  have h:Instr.sameBits 10000 (.int q k) (.int q k)=true:=by unfold Instr.sameBits;simp
  simp only [Instr.keyThatStays,h,if_true,Sem.run_pure] }
end Go.SL
namespace Go.SL
open Go
structure Rct where
 c1:Int
 r1:Int
 c2:Int
 r2:Int
structure Vl where
 kind:Int
 num:Int
 text:ByteArray
structure Nd where
 kind:Int
 v:Vl
 rect:Rct
 op:Int
 fn:Int
 n:Int
def aN (r:Rct):List Value:= [.int .i64 r.c1,.int .i64 r.r1,.int .i64 r.c2,.int .i64 r.r2]
def dV (v:Vl):List Value:= [.int .u8 v.kind,.int .i64 v.num,.string v.text]
def bR (n:Nd):List Value:=
 [.int .u8 n.kind,.int .u8 n.v.kind,.int .i64 n.v.num,.string n.v.text,.int .i64 n.rect.c1,.int .i64 n.rect.r1,.int .i64 n.rect.c2,.int .i64 n.rect.r2,.int .i64 n.op,.int .u8 n.fn,.int .i64 n.n]
def valid (c r:Int):Bool:=decide (1≤c) && decide (c≤1024) && decide (1≤r) && decide (r≤1024)
def aH (r:Rct):Bool:=valid r.c1 r.r1 && valid r.c2 r.r2 && decide (r.c1≤r.c2) && decide (r.r1≤r.r2)
def dY (r:Rct):Int:=bif aH r then 0 else 3
def oZ (b:ByteArray):Bool:=b.data.toList.all fun c=>decide (32≤c.toNat) && decide (c.toNat≤126)
def jT (b:ByteArray):Int:=bif decide (256<b.size) then 5 else bif oZ b then 0 else 4
def az:ByteArray:=⟨#[]⟩
def wY (v:Vl):Bool:=
 bif decide (v.kind=0) then decide (v.num=0) && decide (v.text=az)
 else bif decide (v.kind=1) then decide (v.text=az) && decide (v.num≠ -9223372036854775808)
 else bif decide (v.kind=2) then decide (v.text=az) && decide (v.num / 2=0)
 else bif decide (v.kind=3) then decide (v.num=0) && decide (jT v.text=0)
 else bif decide (v.kind=4) then decide (v.text=az) && decide (1≤v.num) && decide (v.num≤6)
 else false
def ra (v:Vl):Int:=bif wY v then 0 else 2
def cU (fn:Int):Bool:=decide (1≤fn) && decide (fn≤50)
def jk (fn:Int):Bool:=decide (46≤fn) && decide (fn≤50)
def fp (fn:Int):Int × Int × Int:=
 if fn=5∨fn=6∨fn=7∨fn=25∨fn=39∨fn=40∨fn=18∨fn=19∨fn=45∨fn=44 then (2,2,0)
 else if fn=20∨fn=41∨fn=43 then (2,3,0)
 else if fn=32∨fn=33 then (1,2,0)
 else if fn=34 then (3,3,0)
 else if fn=21∨fn=22∨fn=23∨fn=38∨fn=9∨fn=10∨fn=11∨fn=12∨fn=14∨fn=15∨fn=16∨fn=17 then (1,16,0)
 else if fn=30 then (2,16,0)
 else if cU fn then (1,1,0) else (0,0,10)
def kJ (fn i:Int):Bool × Int:=
 if (fp fn).2.2≠0 then (false,(fp fn).2.2)
 else if i<0∨(fp fn).2.1≤i then (false,3)
 else if fn=9∨fn=10∨fn=11∨fn=12∨fn=14∨fn=15∨fn=16∨fn=17 then (true,0)
 else if fn=44 then (decide (i=1),0)
 else if fn=18∨fn=19∨fn=45∨fn=43∨fn=13 then (decide (i=0),0)
 else (jk fn,0)
def below (n:Nd):Int:=
 if n.kind=4∨n.kind=5 then 1 else if n.kind=6 then 2 else if n.kind=7 then n.n else 0
def aS:Rct:=⟨0,0,0,0⟩
def bV:Vl:=⟨0,0,az⟩
def db (n:Nd):Nd:=
 if n.kind=1 then ⟨n.kind,n.v,aS,0,0,0⟩
 else if n.kind=2∨n.kind=3 then ⟨n.kind,bV,n.rect,0,0,0⟩
 else if n.kind=6 then ⟨n.kind,bV,aS,n.op,0,0⟩
 else if n.kind=7 then ⟨n.kind,bV,aS,0,n.fn,n.n⟩
 else ⟨n.kind,bV,aS,0,0,0⟩
def JE (v:Vl):Bool:=
 (if v.kind=0 then false else if v.kind=1 then decide (0≤v.num) else if v.kind=4 then decide (1≤v.num) && decide (v.num≤5) else true) && decide (ra v=0)
def Nq (r:Rct):Bool:=decide (r.c1=r.c2) && decide (r.r1=r.r2)
def fD (n:Nd):Bool:=
 if n.kind=1 then JE n.v
 else if n.kind=2∨n.kind=3 then decide (dY n.rect=0) && (Nq n.rect==decide (n.kind=2))
 else if n.kind=4∨n.kind=5 then true
 else if n.kind=6 then decide (1≤n.op) && decide (n.op≤12)
 else if n.kind=7 then decide (0≤n.n)
 else false
def eqV (a b:Vl):Bool:=decide (a.kind=b.kind) && (decide (a.num=b.num) && decide (a.text=b.text))
def eqR (a b:Rct):Bool:=decide (a.c1=b.c1) && (decide (a.r1=b.r1) && (decide (a.c2=b.c2) && decide (a.r2=b.r2)))
def eqN (a b:Nd):Bool:=decide (a.kind=b.kind) && (eqV a.v b.v && (eqR a.rect b.rect && (decide (a.op=b.op) && (decide (a.fn=b.fn) && decide (a.n=b.n)))))
theorem CG {a b:Vl}:eqV a b=true↔a=b:=by
 obtain ⟨a1,a2,a3⟩:=a
 obtain ⟨b1,b2,b3⟩:=b
 simp [eqV]
theorem tB {a b:Rct}:eqR a b=true↔a=b:=by
 obtain ⟨a1,a2,a3,a4⟩:=a
 obtain ⟨b1,b2,b3,b4⟩:=b
 simp [eqR]
theorem JP {a b:Nd}:eqN a b=true↔a=b:=by
 obtain ⟨a1,a2,a3,a4,a5,a6⟩:=a
 obtain ⟨b1,b2,b3,b4,b5,b6⟩:=b
 simp [eqN,CG,tB]
theorem LJ (a b:Int):(a==b)=decide (a=b):=by rw [Uy];simp
def bE (n:Nd):Int:=
 if fD n=false∨eqN n (db n)=false then 2
 else if n.kind≠7 then 0
 else if (fp n.fn).2.2≠0 then (fp n.fn).2.2
 else if n.n<(fp n.fn).1∨(fp n.fn).2.1<n.n then 11
 else 0
structure Pt where
 root:Nat
 depth:Nat
 wide:Bool
def uL (p:Pt):List Value:= [.int .i64 (p.root:Int),.int .i64 (p.depth:Int),.bool p.wide]
theorem dF (n:Nd):(bR n).length=11:=rfl
theorem pQ (p:Pt):(uL p).length=3:=rfl
def jq (L:List Nd) (i:Nat):Int:=((L[i]?).map Nd.kind).getD 0
def EO (n:Nd) (i:Int):Bool:=if n.kind=7 then (kJ n.fn i).1 else false
def uJ (L:List Nd) (n:Nd) (i:Int) (p:Pt):Bool:=
 !(p.wide && !EO n i) && !(decide (n.kind=7) && jk n.fn && decide (jq L p.root≠2) && decide (jq L p.root≠3))
def eC (L:List Nd) (n:Nd):Int→List Pt→Bool
 |_,[]=>true
 |i,p::r=>uJ L n i p && eC L n (i+1) r
def bD (st:List Pt) (k:Nat):List Pt:=st.drop (st.length - k)
def cE (top:List Pt):Nat:=top.foldl (fun d p=>max d (p.depth+1)) 1
def jI (L:List Nd) (n:Nd) (i:Nat) (st:List Pt):Int ⊕ (List Pt × List Nat × Nat):=
 if bE n≠0 then .inl (bE n)
 else if (st.length:Int)<below n∨eC L n 0 (bD st (below n).toNat)=false then .inl 4
 else if 32<cE (bD st (below n).toNat) then .inl 9
 else .inr (st.take (st.length - (below n).toNat)++ [⟨i,cE (bD st (below n).toNat),decide (n.kind=3)⟩],(bD st (below n).toNat).map Pt.root,cE (bD st (below n).toNat))
abbrev mU:=List Nat × Nat
def fH (L:List Nd):List Nd→Nat→List Pt→List mU→Int × List mU
 | [],_,st,vs=>(if st.length=1 then 0 else 4,vs)
 |n::r,i,st,vs=>match jI L n i st with
  | .inl e=>(e,vs)
  | .inr (st',kids,d)=>fH L r (i+1) st' (vs++ [(kids,d)])
def ap (b:ByteArray):List Int:=b.data.toList.map fun c=>(c.toNat:Int)
theorem aw (b:ByteArray):(ap b).length=b.size:=by simp [ap]
theorem tj (b:ByteArray) (i:Nat) (h:i<b.size):(ap b)[i]'(by rw [aw];exact h)=(b[i].toNat:Int):=by
 simp [ap];rfl
instance:DecidableEq Vl:=fun a b=>decidable_of_iff (eqV a b=true) CG
instance:DecidableEq Rct:=fun a b=>decidable_of_iff (eqR a b=true) tB
instance:DecidableEq Nd:=fun a b=>decidable_of_iff (eqN a b=true) JP
theorem JO (a b:Vl):eqV a b=decide (a=b):=by rw [Uy,CG];simp
theorem CH (a b:Rct):eqR a b=decide (a=b):=by rw [Uy,tB];simp
theorem JQ (a b:Nd):eqN a b=decide (a=b):=by rw [Uy,JP];simp
structure Rf where
 col:Int
 row:Int
def aC (a:Rf):List Value:= [.int .i64 a.col,.int .i64 a.row]
theorem fj (a:Rf):(aC a).length=2:=rfl
def eqF (a b:Rf):Bool:=decide (a.col=b.col) && decide (a.row=b.row)
theorem JR {a b:Rf}:eqF a b=true↔a=b:=by
 obtain ⟨a1,a2⟩:=a
 obtain ⟨b1,b2⟩:=b
 simp [eqF]
instance:DecidableEq Rf:=fun a b=>decidable_of_iff (eqF a b=true) JR
theorem CI (a b:Rf):eqF a b=decide (a=b):=by rw [Uy,JR];simp
def Rf.valid (a:Rf):Bool:=Go.SL.valid a.col a.row
structure Us where
 rect:Rct
 node:Int
 fn:Int
def cV (u:Us):List Value:= [.int .i64 u.rect.c1,.int .i64 u.rect.r1,.int .i64 u.rect.c2,.int .i64 u.rect.r2,.int .i64 u.node,.int .u8 u.fn]
theorem yK (u:Us):(cV u).length=6:=rfl
def eqU (a b:Us):Bool:=eqR a.rect b.rect && (decide (a.node=b.node) && decide (a.fn=b.fn))
theorem P7 {a b:Us}:eqU a b=true↔a=b:=by
 obtain ⟨a1,a2,a3⟩:=a
 obtain ⟨b1,b2,b3⟩:=b
 simp [eqU,tB]
instance:DecidableEq Us:=fun a b=>decidable_of_iff (eqU a b=true) P7
structure Tk where
 kind:Int
 num:Int
 text:ByteArray
 rect:Rct
 at_:Int
def bw (t:Tk):List Value:= [.int .u8 t.kind,.int .i64 t.num,.string t.text,.int .i64 t.rect.c1,.int .i64 t.rect.r1,.int .i64 t.rect.c2,.int .i64 t.rect.r2,.int .i64 t.at_]
theorem Ba (t:Tk):(bw t).length=8:=rfl
def dB:Tk:=⟨0,0,az,⟨0,0,0,0⟩,0⟩
def aJ (c:Int):Bool:=decide (48≤c) && decide (c≤57)
def cy (c:Int):Bool:=(decide (65≤c) && decide (c≤90))||(decide (97≤c) && decide (c≤122))
def dh (c:Int):Bool:=cy c||aJ c
def upC (c:Int):Int:=if 97≤c∧c≤122 then c - 32 else c
def aG (p:Int→Bool):List Int→Nat
 | []=>0
 |c::r=>if p c then aG p r+1 else 0
def bQ:List Int→Int→Int
 | [],v=>v
 |c::r,v=>bQ r (10*v+(c - 48))
def cZ:Int:=9223372036854775807
def mkB (l:List Int):ByteArray:=⟨(l.map fun n=>UInt8.ofNat n.toNat).toArray⟩
def cC (l:List Int):Nat:=match l with
 |46::r=>aG aJ r
 |_=>0
def lJ (l:List Int):Option (Int × Nat):=
 let w:=aG aJ l
 let p:=cC (l.drop w)
 if w=0∨4<p then none
 else
  let v:=bQ (l.take w++(l.drop (w+1)).take p++List.replicate (4 - p) 48) 0
  if cZ<v then none else some (v,if p=0 then w else w+1+p)
def lu:List Int→Option (List Int × Nat)
 | []=>none
 |c::r=>
  if c≠34 then (lu r).map fun x=>(c::x.1,x.2+1)
  else match r with
   | []=>some ([],1)
   |d::r' =>if d=34 then (lu r').map fun x=>(34::x.1,x.2+2) else some ([],1)
def bI:List Int→Int→Int
 | [],v=>v
 |c::r,v=>bI r (min (26*v+(upC c - 64)) 1025)
def oq:List Int→Int→Int
 | [],v=>v
 |c::r,v=>oq r (min (10*v+(c - 48)) 1025)
def cL (l:List Int):Int × Int × Int:=
 let a:=l.takeWhile cy
 let d:=l.dropWhile cy
 if a= []∨d= []∨d.head? =some 48∨d.all aJ=false then (0,0,4)
 else if 1024<bI a 0∨1024<oq d 0 then (0,0,3)
 else (bI a 0,oq d 0,0)
def fR (c r:Int):Rct:=⟨c,r,c,r⟩
def eD:List (List Int):= [[35,68,73,86,47,48,33],[35,86,65,76,85,69,33],[35,78,85,77,33],[35,78,47,65],[35,82,69,70,33]]
def lc (l:List Int):List (List Int)→Int→Option (Int × Nat)
 | [],_=>none
 |s::r,code=>if (l.take s.length).map upC=s then some (code,s.length) else lc l r (code+1)
def fN:List (List Int × Int):= [([60,62],8),([60,61],10),([62,61],12),([43],1),([45],2),([42],3),([47],4),([94],5),([38],6),([61],7),([60],9),([62],11),([37],13)]
def opL (l:List Int):List (List Int × Int)→Option (Int × Nat)
 | []=>none
 |(s,k)::r=>if l.take s.length=s then some (k,s.length) else opL l r
def bS (c:Int):Bool:=decide (32≤c) && decide (c≤126)
theorem Cp (b:ByteArray) (i j:Nat):ap (b.extract i j)=((ap b).drop i).take (j - i):=by
 simp only [ap,ByteArray.data_extract,Array.toList_extract,List.extract_eq_take_drop,List.map_take,List.map_drop]
def iU (l:List Int):Prop:= ∀ c∈l,0≤c∧c<256
theorem nS (b:ByteArray):iU (ap b):=by
 intro c hc
 simp only [ap,Ul] at hc
 obtain ⟨u,_,rfl⟩:=hc
 have:=u.toNat_lt
 omega
theorem pF {l:List Int} (h:iU l):ap (mkB l)=l:=by
 simp only [ap,mkB,VM]
 conv=>rhs;rw [← List.map_id l]
 apply Vg
 intro c hc
 have:=h c hc
 simp only [Function.comp,id_eq,UInt8.toNat_ofNat']
 omega
theorem mH (b:ByteArray):mkB (ap b)=b:=by
 apply ByteArray.ext
 apply Array.ext'
 simp only [mkB,ap,VM]
 conv=>rhs;rw [← List.map_id b.data.toList]
 apply Vg
 intro c _
 simp [Function.comp]
theorem yd {a b:ByteArray} (h:ap a=ap b):a=b:=by rw [← mH a,← mH b,h]
theorem Nz {b:ByteArray} {l:List Int} (h:ap b=l):b=mkB l:=by rw [← h,mH]
theorem cB (p:Int→Bool): ∀ l,aG p l≤l.length
 | []=>TQ _
 |c::r=>by
  simp only [aG]
  split
  ·
   have:=cB p r;simp;omega
  ·
   exact TW _
theorem sx {p:Int→Bool} {l:List Int} {i:Nat} (h:l.length≤i):aG p (l.drop i)=0:=by
 rw [Uk h];rfl
theorem kN {p:Int→Bool}: ∀ (l:List Int) (i:Nat) (c:Int),i<aG p l→l[i]? =some c→p c=true
 | [],i,c,h,_=>by simp [aG] at h
 |a::r,i,c,h,hc=>by
  simp only [aG] at h
  split at h
  ·
   rename_i ha
   cases i with
   |zero=>simp at hc;subst hc;exact ha
   |succ i=>exact kN r i c (by omega) (by simpa using hc)
  ·
   omega
end Go.SL

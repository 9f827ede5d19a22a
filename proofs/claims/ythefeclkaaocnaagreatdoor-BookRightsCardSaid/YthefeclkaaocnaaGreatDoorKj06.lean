/-
  Lemmas and walks, put together: Sl17 Sl18 Sl19 Sl20 Md Md2 Lx Lx2 Sl21 Sl22 Sl23 Sl24.
-/
import Derived.Recover
import Derived.Laws.IdiomRangeMap
import Derived.Laws.Pointers
import Derived.Scope
import Derived.Test.YthefeclkaaocnaaGreatDoorKj05
set_option linter.unusedSimpArgs false
set_option linter.unusedVariables false
set_option maxRecDepth 20000
namespace Go.SL
open Go Go.RowKit
section
variable {P:Program} {n:Fr} {w0:World} {Q:bO} {s:az} {H:List Blk} {rest:List Oper} {ty:TypeId} {p:String} {af:Array Edge}
theorem BP {d t e m sz:Nat} {ps:List (Nat × Operand)} {vs xs zs:List Value} {ops:Array Oper} [ht:Und P t (.array m e)] [he:Size P e sz] [hz:ZeroC P t zs] (hn:Nat.blt d n.sz=true) (hps:evd s ps 0=some vs)
  (hs0:Nat.blt 0 sz=true) (hl:Nat.beq (vs.length*sz) zs.length=true) (h1:wu sz vs=true) (hx:rX (pq vs)=some xs) (k:WL P n w0 ops rest Q ((d,.agg xs.toArray)::s) H):
  WL P n w0 ops (⟨some d,.build t ps.toArray,ty,p,af,none⟩::rest) Q s H:=by
 refine sq rfl d rfl hn (fun a w hs hm=> ?_) k
 obtain ⟨it,z,i1,i2,i3⟩:=hz.out
 obtain ⟨ie,j1,j2⟩:=he.out
 have hall:=nX h1
 have hlen:=Ou hl
 have hfill:=Great.fill_whole (s:=sz) (by simpa using hs0) vs z.cells hall (by rw [i3];simp [hlen])
 rw [← sU hs hps] at hfill
 have hb:P.built t (ps.map fun (x:Nat × Operand)=>(x.1,a.eval x.2))=some (pq vs).toArray:=by
  unfold Program.built
  simp only [i1,ht.out,i2,j1,j2]
  exact hfill
 have hr:=run_build (P:=P) w t (ps.map fun (x:Nat × Operand)=>(x.1,a.eval x.2)).toArray (pq vs).toArray (by simpa using hb)
 rw [iP hx]
 simp only [execOp,Pp]
 simp only [Sem.run_bind,hr,Result.andThen_ok,Sem.run_pure]
theorem aN {d t e n' c g sz by_:Nat} {A:Option Nat} {x y:Operand} {xs news:List Value} {R:List Blk} {ops:Array Oper} [ht:Und P t (.slice e)] [he:Elem P e sz by_] (hn:Nat.blt d n.sz=true)
  (hx:ev s x=some (sl A n' c)) (hy:ev s y=some (.slice (some ⟨g,0,none⟩) 1 1)) (hsel:Sel (.own A e sz n' c xs) H R)
  (hi:In (.own (some g) e sz 1 1 news) H) (hl:news.length=sz) (h1: ∀ u∈news,u.oneCell' =true) (hby:(n' +1)*by_≤140737488355328) (h63:n' +1≤maxLen)
  (k: ∀ g' cap',WL P n w0 ops rest Q ((d,sl (some g') (n' +1) cap')::s) (.own (some g') e sz (n' +1) cap' (xs++news)::R)):
  WL P n w0 ops (⟨some d,.call { callee:= .builtin .append,args:= #[x,y],argTypes:= #[t,t] },ty,p,af,none⟩::rest) Q s H:=
 eW (m:=1) hn hx hy hsel (fun w hm=>Reads.of_own (A:=some g) hm hi) (by omega) h1 hby h63 fun A' cap' hA=>by
  obtain ⟨g',rfl⟩:=hA (by omega)
  exact k g' cap'
end
def jl (v:Value):List PanicEntry:= [{ v,recovered:=false }]
def FnP (P:Program) (f:FuncId) (args:List Value) (w0:World) (H:List Blk) (R D:Value→List Blk→Prop):Prop:=
 ∀ w,Mem w0 w H→Calls P f args.toArray w fun e w' =>(∃ v H',e= .returned v∧Mem w0 w' H' ∧R v H')∨(∃ v H',e= .panicked (jl v)∧Mem w0 w' H' ∧D v H')
theorem FnP.msub {P:Program} {f:FuncId} {args:List Value} {w0:World} {H H' :List Blk} {R D:Value→List Blk→Prop} (h:FnP P f args w0 H' R D) (hs:MSub H' H):FnP P f args w0 H R D:=fun w hm=>h w (hs.use hm)
def bi (P:Program) (fn:Func) (n:Fr) (w0:World) (R D:Value→List Blk→Prop):bO:=fun e s H=>
 bg P fn n w0 R e s H∨ ∃ v H',e= .panic (jl v)∧MSub H' H∧D v H'
section
variable {P:Program} {n:Fr} {w0:World} {Q:bO} {s:az} {H:List Blk} {l rest:List Oper} {ty:TypeId} {p:String} {af:Array Edge}
theorem bB {d:Nat} {ops:Array Oper} {f:FuncId} {xs:List Operand} {vs:List Value} {ts:Array TypeId} {R D:Value→List Blk→Prop} [Callable P f] (hn:Nat.blt d n.sz=true) (hx:evs s xs=some vs)
  (hF:FnP P f vs w0 H R D) (k: ∀ v H',R v H' →WL P n w0 ops rest Q ((d,v)::s) H') (kd: ∀ v H',D v H' →Q (.panic (jl v)) s H'):
  WL P n w0 ops (⟨some d,.call { callee:= .value (.func f),args:=xs.toArray,argTypes:=ts },ty,p,af,none⟩::rest) Q s H:=by
 intro a w hs hm
 refine wpList_plain rfl fun K hK=> ?_
 have hr:=jO (P:=P) (w:=w) (ρ:=a.eval) (d:=some d) (ty:=ty) (p:=p) (af:=af) (g:=none) (f:=f) (c:= .func f) (xs:=xs) (caps:= []) (ts:=ts) rfl (gh hs hx)
 rw [NM] at hr
 simp only [Oper.wp,hr,Oper.upon]
 refine (hF w hm).mono ?_
 rintro e w' (⟨v,H',rfl,hm',hR⟩|⟨v,H',rfl,hm',hD⟩)
 ·
  exact hK _ _ (k v H' hR _ _ (hs.put (OH ▸ hn) _) hm')
 ·
  exact ⟨s,H',hs,hm',kd v H' hD⟩
theorem GR {d:Option Tmp} {ops:Array Oper} {x:Operand} {t:TypeId} {v:Value} (hx:ev s x=some (.iface t v)) (h:Q (.panic (jl (.iface t v))) s H):
  WL P n w0 ops (⟨d,.panic x,ty,p,af,none⟩::rest) Q s H:=by
 intro a w hs hm
 refine wpList_plain rfl fun K hK=> ?_
 have hr:(execOp a.eval ⟨d,.panic x,ty,p,af,none⟩).run P w= .halt (.panic (.iface t v)) w:=by
  simp only [execOp,hs.eval x _ hx]
  rfl
 simp only [Oper.wp,hr,Oper.upon]
 exact ⟨s,H,hs,hm,h⟩
theorem MZ {K:az→List Blk→Prop} {c:List PanicEntry} (h:Q (.panic c) s H):thn K Q (.panic c) s H:=h
theorem Np {id:Nat} {c:List PanicEntry} (h:Q (.panic c) s H):blk id Q (.panic c) s H:=h
theorem Nn {ι:Type} {sI:ι→az} {HI:ι→List Blk} {ok:ι→Prop} {c:List PanicEntry} (h:Q (.panic c) s H):bG sI HI ok Q (.panic c) s H:=h
theorem M5 {fn:Func} {R D:Value→List Blk→Prop} {e:Exit} (h:bg P fn n w0 R e s H):bi P fn n w0 R D e s H:= .inl h
theorem LD {fn:Func} {R D:Value→List Blk→Prop} {v:Value} {H' :List Blk} (hs:MSub H' H) (h:D v H'):bi P fn n w0 R D (.panic (jl v)) s H:= .inr ⟨v,H',rfl,hs,h⟩
theorem uN {m:Nat} {f:FuncId} {fn:Func} {c:Code} {args:List Value} {R D:Value→List Blk→Prop} (hf:P.funcs[f]? =some fn) (hb:fn.body=some c) (hn:fn.ntmps=m) (hle:Nat.ble args.length m=true)
  (h:W P ⟨m,[]⟩ w0 c (bi P fn ⟨m,[]⟩ w0 R D) (qM args 0) H):FnP P f args w0 H R D:=by
 intro w hm
 have hle' :args.length≤m:=by simpa using hle
 refine calls_of_wp hf hb (wp_mono (h { tmps:=args.toArray++Array.replicate (fn.ntmps - args.toArray.size) undef,defers:= [] } w ⟨?_,rfl,?_⟩ hm) ?_)
 ·
  simp [hn];omega
 ·
  intro t v ht
  rw [lB] at ht
  simp only [NY,if_true,PJ] at ht
  have hlt:t<args.length:=(NV.1 ht).1
  rw [O9 (by simpa using hlt)]
  simpa using ht
 ·
  rintro e a w' ⟨s',H',hs,hm',hq⟩
  rcases hq with ⟨he,v,H'',hsub,hr,hR⟩|⟨v,H'',rfl,hsub,hD⟩
  ·
   have hp:a.defers= []∧ ∃ v,(results fn a.tmps).run P w' = .ok v w' ∧((∃ v1 H1,Ending.returned v= .returned v1∧Mem w0 w' H1∧R v1 H1)∨(∃ v1 H1,Ending.returned v= .panicked (jl v1)∧Mem w0 w' H1∧D v1 H1)):=
    ⟨hs.defers,v,hr a w' hs hm',.inl ⟨v,H'',rfl,hsub.use hm',hR⟩⟩
   rcases he with rfl|rfl<;>exact hp
  ·
   exact ⟨hs.defers,.inr ⟨v,H'',rfl,hsub.use hm',hD⟩⟩
end
section
variable {P:Program} {n:Fr} {w0:World} {Q:bO} {s:az} {H:List Blk} {l rest:List Oper} {ty:TypeId} {p:String} {af:Array Edge}
theorem Ca {t lo hi:Nat} {a:ByteArray} {x q r:Operand} {k k' :IntKind} [ht:Und P t .string] (hx:ev s x=some (.string a)) (hr:ev s r=some (.int k' (lo:Nat))) (hq:ev s q=some (.int k (hi:Nat))) (h1:lo≤hi) (h2:hi≤a.size):
  VOp P w0 s H (.slice t x (some r) (some q) none) ty (.string (a.extract lo hi)):=fun ρ w _ _ _ _ hρ _=>by
 simp [execOp,hρ x _ hx,hρ q _ hq,hρ r _ hr,Instr.sliceAt,run_underlying ht.out,Instr.slice,Instr.sliceBounds,Instr.sliceBound,asIntOf,h2,h1]
theorem tH {t lo:Nat} {a:ByteArray} {x r:Operand} {k' :IntKind} [ht:Und P t .string] (hx:ev s x=some (.string a)) (hr:ev s r=some (.int k' (lo:Nat))) (h1:lo≤a.size):
  VOp P w0 s H (.slice t x (some r) none none) ty (.string (a.extract lo a.size)):=fun ρ w _ _ _ _ hρ _=>by
 simp [execOp,hρ x _ hx,hρ r _ hr,Instr.sliceAt,run_underlying ht.out,Instr.slice,Instr.sliceBounds,Instr.sliceBound,asIntOf,h1]
theorem LY {x y:Operand} {a b:ByteArray} {t t' :TypeId} (hx:ev s x=some (.string a)) (hy:ev s y=some (.string b)) (h:a.size+b.size≤maxLen):VOp P w0 s H (.binOp .add t x y t') ty (.string (a++b)):=fun ρ w _ _ _ _ hρ _=>by
 simp only [maxLen] at h
 simp [execOp,hρ x _ hx,hρ y _ hy,eqGuard,binOp,Op.stringOp]
 omega
theorem y8 {x:Operand} {t:TypeId} {v:Value} {d:TypeDesc} [ht:Und P t d] (hd: ∀ m,d≠ .interface m) (hx:ev s x=some v):VOp P w0 s H (.makeInterface t x) ty (.iface t v):=fun ρ w _ _ _ _ hρ _=>by
 cases d<;>first|(exact absurd rfl (hd _))|simp [execOp,hρ x _ hx,Instr.makeInterface,run_underlying ht.out]
end
def uy {κ:Type} (enc:κ→Value) (e:κ × Value × Nat):MapEntry:={ key:=enc e.1,val:=e.2.1,born:=e.2.2 }
def oz {κ:Type} (enc:κ→Value) (es:List (κ × Value × Nat)) (clock:Nat):Obj:= .map (es.map (uy enc)).toArray clock
structure MapOk {κ:Type} (es:List (κ × Value × Nat)) (clock:Nat):Prop where
 born:(es.map fun e=>e.2.2).Nodup
 old: ∀ e∈es,e.2.2<clock
 keys:(es.map fun e=>e.1).Nodup
def mB {κ:Type} [DecidableEq κ] (k:κ):List (κ × Value × Nat)→Nat→Option (Nat × Value)
 | [],_=>none
 |e::es,i=>if k=e.1 then some (i,e.2.1) else mB k es (i+1)
class KLaw (P:Program) (K:TypeId) {κ:Type} [DecidableEq κ] (enc:κ→Value):Prop where
 check: ∀ e k w,(Instr.checkKey e 10000 K (enc k)).run P w= .ok () w
 find: ∀ k (es:List (κ × Value × Nat)) w,(Instr.findKey K (enc k) (es.map (uy enc))).run P w= .ok (mB k es 0) w
 stays: ∀ k w,(Instr.keyThatStays (enc k) (enc k)).run P w= .ok (enc k) w
def ye {κ:Type} [DecidableEq κ] (k:κ) (v:Value) (clock:Nat) (es:List (κ × Value × Nat)):List (κ × Value × Nat) × Nat:=
 match mB k es 0 with
 |some (i,_)=>(es.modify i fun e=>(k,v,e.2.2),clock)
 |none=>(es++ [(k,v,clock)],clock+1)
theorem wM {κ:Type} [DecidableEq κ] {k:κ}: ∀ {es:List (κ × Value × Nat)} {i j:Nat} {v:Value},mB k es i=some (j,v)→ ∃ b,i≤j∧es[j - i]? =some (k,v,b)
 | [],i,j,v,h=>by cases h
 |e::es,i,j,v,h=>by
  simp only [mB] at h
  split at h
  ·
   rename_i hk
   obtain ⟨rfl,rfl⟩:=Prod.mk.inj (Option.some.inj h)
   exact ⟨e.2.2,NJ _,by simp [hk]⟩
  ·
   obtain ⟨b,h1,h2⟩:=wM h
   refine ⟨b,by omega,?_⟩
   rw [show j - i=(j - (i+1))+1 by omega,List.getElem?_cons_succ]
   exact h2
section
variable {P:Program} {n:Fr} {w0:World} {Q:bO} {s:az} {H:List Blk} {l rest:List Oper} {ty:TypeId} {p:String} {af:Array Edge} {κ:Type} [DecidableEq κ] {enc:κ→Value}
theorem BO {κ' :Type} {d t:Nat} {ops:Array Oper} (hn:Nat.blt d n.sz=true) (enc:κ' →Value)
  (k: ∀ g,WL P n w0 ops rest Q ((d,.map (some g))::s) (.obj g (oz enc [] 0)::H)):WL P n w0 ops (⟨some d,.makeMap t none,ty,p,af,none⟩::rest) Q s H:=by
 refine qA (B:=fun g=> .obj g (oz enc [] 0)) (v:=fun g=> .map (some g)) hn (fun st w hs hm=> ?_) k
 exact ⟨w.alloc (.map #[] 0),rfl,World.grownBy_alloc w _ none,heap_alloc_new w _,rfl⟩
theorem Mem.obj_at {w:World} {g:Nat} {o:Obj} (hm:Mem w0 w H) (hi:In (.obj g o) H):w.heap[g]? =some o:=(hm.on _ hi.mem).1
theorem HR {P:Program} {E:TypeId} {z:Value} [hz:Zero P E z] (w:World):(zeroValue E).run P w= .ok z w:=by
 obtain ⟨i,h1,h2⟩:=hz.out
 simp [zeroValue,typeInfo,h1,h2]
theorem BZ {t K E g clock:Nat} {x ix:Operand} {k:κ} {es:List (κ × Value × Nat)} {z u:Value} [ht:Und P t (.map K E)] [hk:KLaw P K enc] [hz:Zero P E z] (hx:ev s x=some (.map (some g))) (hi:ev s ix=some (enc k)) (hin:In (.obj g (oz enc es clock)) H)
  (hu:(match mB k es 0 with|some (_,v)=>Value.tuple #[v,.bool true]|none=> .tuple #[z,.bool false])=u):VOp P w0 s H (.lookup t x ix true) ty u:=fun ρ w _ _ _ _ hρ hm=>by
 have hb:=hm.obj_at hin
 have hf:=hk.find k es w
 have hc:=hk.check (es.map (uy enc)).toArray.isEmpty k w
 subst hu
 simp only [oz] at hb
 have hL:(Instr.lookup t (.map (some g)) (enc k) true).run P w= .ok (match mB k es 0 with|some (_,v)=>Value.tuple #[v,.bool true]|none=> .tuple #[z,.bool false]) w:=by
  simp only [Instr.lookup,Sem.run_bind,run_underlying ht.out,Result.andThen_ok,MapKept.run_getObj_map hb,hc,hf,Sem.run_pure]
  cases h:mB k es 0 with
  |none=>simp only [Sem.run_bind,HR w,Result.andThen_ok,Sem.run_pure,if_true]
  |some r=>rfl
 simp only [execOp,hρ x _ hx,hρ ix _ hi,Sem.run_bind,hL,Result.andThen_ok,Sem.run_pure]
theorem xL (w:World) (g:Nat) (o:Obj):w.grownBy { w with heap:=w.heap.setIfInBounds g o } (some g):=
 ⟨rfl,rfl,rfl,by simp,fun k _ hk=>by
  have hne:g≠k:=fun e=>hk (by rw [← e])
  simp [PN hne]⟩
theorem Fy {w:World} {g:Nat} {o o' :Obj} (h:w.heap[g]? =some o):(w.heap.setIfInBounds g o')[g]? =some o' :=by
 have:g<w.heap.size:=(Oz.1 h).1
 simp [this]
theorem vD {t K E g clock:Nat} {k:κ} {v:Value} {es:List (κ × Value × Nat)} {w:World} [ht:Und P t (.map K E)] [hk:KLaw P K enc] (hb:w.heap[g]? =some (oz enc es clock)):
  (Instr.mapUpdate t (.map (some g)) (enc k) v).run P w= .ok () { w with heap:=w.heap.setIfInBounds g (oz enc (ye k v clock es).1 (ye k v clock es).2) }:=by
 have hf:=hk.find k es w
 have hc:=hk.check false k w
 simp only [oz] at hb
 cases h:mB k es 0 with
 |none=>
  rw [h] at hf
  simp [Instr.mapUpdate,run_underlying ht.out,getObj,setObj,Sem.run,hb,hc,hf,Result.andThen,ye,h,oz,uy]
 |some r=>
  obtain ⟨i,u⟩:=r
  rw [h] at hf
  obtain ⟨b,_,hi⟩:=wM h
  rw [PJ] at hi
  have hkey:(((es.map (uy enc)).toArray[i]?).map (·.key)).getD (enc k)=enc k:=by simp [hi,uy]
  have hst:=hk.stays k w
  have he:((es.map (uy enc)).toArray.modify i fun e=>{ e with key:=enc k,val:=v })=((es.modify i fun e=>(k,v,e.2.2)).map (uy enc)).toArray:=by
   apply Array.ext'
   simp only [Array.toList_modify]
   apply List.ext_getElem?
   intro j
   simp only [List.getElem?_modify,OU]
   cases es[j]? <;>simp [uy]<;>split<;>rfl
  simp only [Instr.mapUpdate,Sem.run_bind,run_underlying ht.out,Result.andThen_ok,getObj,setObj,Sem.run,hb,hc,hf,hkey,hst,he]
  simp [ye,h,oz]
theorem E5 {t K E g clock:Nat} {m x kx:Operand} {k:κ} {v:Value} {es:List (κ × Value × Nat)} {R:List Blk} {ops:Array Oper} [ht:Und P t (.map K E)] [hk:KLaw P K enc] (hm:ev s m=some (.map (some g))) (hkx:ev s kx=some (enc k)) (hx:ev s x=some v) (hsel:Sel (.obj g (oz enc es clock)) H R)
  (h:WL P n w0 ops rest Q s (.obj g (oz enc (ye k v clock es).1 (ye k v clock es).2)::R)):WL P n w0 ops (⟨none,.insert t m kx x,ty,p,af,none⟩::rest) Q s H:=by
 refine sn (fun a w hs hmm=> ?_) h
 have hm' :=hmm.sel hsel
 have hb:=(hm'.on _ NI).1
 refine ⟨_,?_,hm'.upd (xL w g _) (b' := .obj g _) (Fy hb) fun k hk=> .inl hk⟩
 simp [execOp,hs.eval m _ hm,hs.eval x _ hx,hs.eval kx _ hkx,vD (P:=P) (t:=t) (K:=K) (E:=E) (k:=k) (v:=v) hb]
end
theorem uJ {α β:Type} (f:α→β): ∀ {l:List α},(l.map f).Nodup→ ∀ {x y:α},x∈l→y∈l→f x=f y→x=y
 |a::l,h,x,y,hx,hy,e=>by
  have h' :=List.nodup_cons.1 h
  rcases NS.1 hx with hx|hx<;>rcases NS.1 hy with hy|hy
  ·
   rw [hx,hy]
  ·
   exact absurd (Pu.2 ⟨y,hy,by rw [← e,hx]⟩) h'.1
  ·
   exact absurd (Pu.2 ⟨x,hx,by rw [e,hy]⟩) h'.1
  ·
   exact uJ f h'.2 hx hy e
theorem IZ {P:Program} {K:TypeId} {q:IntKind} [hK:Und P K (.int q)]:KLaw P K (fun z:Int=>Value.int q z):={
 check:=fun e k w=>by
  have h: ∀ m,(Instr.checkKey e (m+1) K (.int q k)).run P w= .ok () w:=fun m=>by simp only [Instr.checkKey,Sem.run_bind,run_underlying hK.out,Result.andThen_ok,Sem.run_pure]
  exact h 9999
 find:=fun k es w=>by
  have h: ∀ (es:List (Int × Value × Nat)) (i:Nat),Instr.findNow (.int q) (.int q k) (es.map (uy fun z:Int=>Value.int q z)) i=some (mB k es i):=by
   intro es
   induction es with
   |nil=>intro i;rfl
   |cons e es ih=>
    intro i
    have hb:(k==e.1)=decide (k=e.1):=by rw [Om];simp
    simp only [Ow,Instr.findNow,uy,Instr.sameNow,if_true,mB,hb]
    by_cases hk:k=e.1
    ·
     simp [hk]
    ·
     simp only [decide_eq_false hk,hk,if_false]
     exact ih _
  simp only [Instr.findKey,Sem.run_bind,run_underlying hK.out,Result.andThen_ok,h,Sem.run_pure]
 stays:=fun k w=>by
  have h:Instr.sameBits 10000 (.int q k) (.int q k)=true:=by unfold Instr.sameBits;simp
  simp only [Instr.keyThatStays,h,if_true,Sem.run_pure] }
end Go.SL
namespace Go.SL
open Go
structure Rct where
 c1:Int
 r1:Int
 c2:Int
 r2:Int
structure Vl where
 kind:Int
 num:Int
 text:ByteArray
structure Nd where
 kind:Int
 v:Vl
 rect:Rct
 op:Int
 fn:Int
 n:Int
def bQ (r:Rct):List Value:= [.int .i64 r.c1,.int .i64 r.r1,.int .i64 r.c2,.int .i64 r.r2]
def dx (v:Vl):List Value:= [.int .u8 v.kind,.int .i64 v.num,.string v.text]
def cj (n:Nd):List Value:=
 [.int .u8 n.kind,.int .u8 n.v.kind,.int .i64 n.v.num,.string n.v.text,.int .i64 n.rect.c1,.int .i64 n.rect.r1,.int .i64 n.rect.c2,.int .i64 n.rect.r2,.int .i64 n.op,.int .u8 n.fn,.int .i64 n.n]
def valid (c r:Int):Bool:=decide (1≤c) && decide (c≤1024) && decide (1≤r) && decide (r≤1024)
def aF (r:Rct):Bool:=valid r.c1 r.r1 && valid r.c2 r.r2 && decide (r.c1≤r.c2) && decide (r.r1≤r.r2)
def dU (r:Rct):Int:=bif aF r then 0 else 3
def m7 (b:ByteArray):Bool:=b.data.toList.all fun c=>decide (32≤c.toNat) && decide (c.toNat≤126)
def gT (b:ByteArray):Int:=bif decide (256<b.size) then 5 else bif m7 b then 0 else 4
def au:ByteArray:=⟨#[]⟩
def tA (v:Vl):Bool:=
 bif decide (v.kind=0) then decide (v.num=0) && decide (v.text=au)
 else bif decide (v.kind=1) then decide (v.text=au) && decide (v.num≠ -9223372036854775808)
 else bif decide (v.kind=2) then decide (v.text=au) && decide (v.num / 2=0)
 else bif decide (v.kind=3) then decide (v.num=0) && decide (gT v.text=0)
 else bif decide (v.kind=4) then decide (v.text=au) && decide (1≤v.num) && decide (v.num≤6)
 else false
def oZ (v:Vl):Int:=bif tA v then 0 else 2
def da (fn:Int):Bool:=decide (1≤fn) && decide (fn≤50)
def iq (fn:Int):Bool:=decide (46≤fn) && decide (fn≤50)
def eQ (fn:Int):Int × Int × Int:=
 if fn=5∨fn=6∨fn=7∨fn=25∨fn=39∨fn=40∨fn=18∨fn=19∨fn=45∨fn=44 then (2,2,0)
 else if fn=20∨fn=41∨fn=43 then (2,3,0)
 else if fn=32∨fn=33 then (1,2,0)
 else if fn=34 then (3,3,0)
 else if fn=21∨fn=22∨fn=23∨fn=38∨fn=9∨fn=10∨fn=11∨fn=12∨fn=14∨fn=15∨fn=16∨fn=17 then (1,16,0)
 else if fn=30 then (2,16,0)
 else if da fn then (1,1,0) else (0,0,10)
def jK (fn i:Int):Bool × Int:=
 if (eQ fn).2.2≠0 then (false,(eQ fn).2.2)
 else if i<0∨(eQ fn).2.1≤i then (false,3)
 else if fn=9∨fn=10∨fn=11∨fn=12∨fn=14∨fn=15∨fn=16∨fn=17 then (true,0)
 else if fn=44 then (decide (i=1),0)
 else if fn=18∨fn=19∨fn=45∨fn=43∨fn=13 then (decide (i=0),0)
 else (iq fn,0)
def below (n:Nd):Int:=
 if n.kind=4∨n.kind=5 then 1 else if n.kind=6 then 2 else if n.kind=7 then n.n else 0
def aM:Rct:=⟨0,0,0,0⟩
def bK:Vl:=⟨0,0,au⟩
def dD (n:Nd):Nd:=
 if n.kind=1 then ⟨n.kind,n.v,aM,0,0,0⟩
 else if n.kind=2∨n.kind=3 then ⟨n.kind,bK,n.rect,0,0,0⟩
 else if n.kind=6 then ⟨n.kind,bK,aM,n.op,0,0⟩
 else if n.kind=7 then ⟨n.kind,bK,aM,0,n.fn,n.n⟩
 else ⟨n.kind,bK,aM,0,0,0⟩
def EL (v:Vl):Bool:=
 (if v.kind=0 then false else if v.kind=1 then decide (0≤v.num) else if v.kind=4 then decide (1≤v.num) && decide (v.num≤5) else true) && decide (oZ v=0)
def IC (r:Rct):Bool:=decide (r.c1=r.c2) && decide (r.r1=r.r2)
def kP (n:Nd):Bool:=
 if n.kind=1 then EL n.v
 else if n.kind=2∨n.kind=3 then decide (dU n.rect=0) && (IC n.rect==decide (n.kind=2))
 else if n.kind=4∨n.kind=5 then true
 else if n.kind=6 then decide (1≤n.op) && decide (n.op≤12)
 else if n.kind=7 then decide (0≤n.n)
 else false
def eqV (a b:Vl):Bool:=decide (a.kind=b.kind) && (decide (a.num=b.num) && decide (a.text=b.text))
def eqR (a b:Rct):Bool:=decide (a.c1=b.c1) && (decide (a.r1=b.r1) && (decide (a.c2=b.c2) && decide (a.r2=b.r2)))
def eqN (a b:Nd):Bool:=decide (a.kind=b.kind) && (eqV a.v b.v && (eqR a.rect b.rect && (decide (a.op=b.op) && (decide (a.fn=b.fn) && decide (a.n=b.n)))))
theorem yu {a b:Vl}:eqV a b=true↔a=b:=by
 obtain ⟨a1,a2,a3⟩:=a
 obtain ⟨b1,b2,b3⟩:=b
 simp [eqV]
theorem jy {a b:Rct}:eqR a b=true↔a=b:=by
 obtain ⟨a1,a2,a3,a4⟩:=a
 obtain ⟨b1,b2,b3,b4⟩:=b
 simp [eqR]
theorem EQ {a b:Nd}:eqN a b=true↔a=b:=by
 obtain ⟨a1,a2,a3,a4,a5,a6⟩:=a
 obtain ⟨b1,b2,b3,b4,b5,b6⟩:=b
 simp [eqN,yu,jy]
theorem si (a b:Int):(a==b)=decide (a=b):=by rw [Om];simp
def cV (n:Nd):Int:=
 if kP n=false∨eqN n (dD n)=false then 2
 else if n.kind≠7 then 0
 else if (eQ n.fn).2.2≠0 then (eQ n.fn).2.2
 else if n.n<(eQ n.fn).1∨(eQ n.fn).2.1<n.n then 11
 else 0
structure Pt where
 root:Nat
 depth:Nat
 wide:Bool
def qR (p:Pt):List Value:= [.int .i64 (p.root:Int),.int .i64 (p.depth:Int),.bool p.wide]
theorem fX (n:Nd):(cj n).length=11:=rfl
theorem nH (p:Pt):(qR p).length=3:=rfl
def kQ (L:List Nd) (i:Nat):Int:=((L[i]?).map Nd.kind).getD 0
def z7 (n:Nd) (i:Int):Bool:=if n.kind=7 then (jK n.fn i).1 else false
def uO (L:List Nd) (n:Nd) (i:Int) (p:Pt):Bool:=
 !(p.wide && !z7 n i) && !(decide (n.kind=7) && iq n.fn && decide (kQ L p.root≠2) && decide (kQ L p.root≠3))
def fk (L:List Nd) (n:Nd):Int→List Pt→Bool
 |_,[]=>true
 |i,p::r=>uO L n i p && fk L n (i+1) r
def bp (st:List Pt) (k:Nat):List Pt:=st.drop (st.length - k)
def ck (top:List Pt):Nat:=top.foldl (fun d p=>max d (p.depth+1)) 1
def mA (L:List Nd) (n:Nd) (i:Nat) (st:List Pt):Int ⊕ (List Pt × List Nat × Nat):=
 if cV n≠0 then .inl (cV n)
 else if (st.length:Int)<below n∨fk L n 0 (bp st (below n).toNat)=false then .inl 4
 else if 32<ck (bp st (below n).toNat) then .inl 9
 else .inr (st.take (st.length - (below n).toNat)++ [⟨i,ck (bp st (below n).toNat),decide (n.kind=3)⟩],(bp st (below n).toNat).map Pt.root,ck (bp st (below n).toNat))
abbrev nO:=List Nat × Nat
def iV (L:List Nd):List Nd→Nat→List Pt→List nO→Int × List nO
 | [],_,st,vs=>(if st.length=1 then 0 else 4,vs)
 |n::r,i,st,vs=>match mA L n i st with
  | .inl e=>(e,vs)
  | .inr (st',kids,d)=>iV L r (i+1) st' (vs++ [(kids,d)])
def ap (b:ByteArray):List Int:=b.data.toList.map fun c=>(c.toNat:Int)
theorem av (b:ByteArray):(ap b).length=b.size:=by simp [ap]
theorem qa (b:ByteArray) (i:Nat) (h:i<b.size):(ap b)[i]'(by rw [av];exact h)=(b[i].toNat:Int):=by
 simp [ap];rfl
instance:DecidableEq Vl:=fun a b=>decidable_of_iff (eqV a b=true) yu
instance:DecidableEq Rct:=fun a b=>decidable_of_iff (eqR a b=true) jy
instance:DecidableEq Nd:=fun a b=>decidable_of_iff (eqN a b=true) EQ
theorem EO (a b:Vl):eqV a b=decide (a=b):=by rw [Om,yu];simp
theorem EP (a b:Rct):eqR a b=decide (a=b):=by rw [Om,jy];simp
theorem ER (a b:Nd):eqN a b=decide (a=b):=by rw [Om,EQ];simp
structure Rf where
 col:Int
 row:Int
def cu (a:Rf):List Value:= [.int .i64 a.col,.int .i64 a.row]
theorem Ba (a:Rf):(cu a).length=2:=rfl
def eqF (a b:Rf):Bool:=decide (a.col=b.col) && decide (a.row=b.row)
theorem jz {a b:Rf}:eqF a b=true↔a=b:=by
 obtain ⟨a1,a2⟩:=a
 obtain ⟨b1,b2⟩:=b
 simp [eqF]
instance:DecidableEq Rf:=fun a b=>decidable_of_iff (eqF a b=true) jz
theorem ES (a b:Rf):eqF a b=decide (a=b):=by rw [Om,jz];simp
def Rf.valid (a:Rf):Bool:=Go.SL.valid a.col a.row
structure Us where
 rect:Rct
 node:Int
 fn:Int
def Nm (u:Us):List Value:= [.int .i64 u.rect.c1,.int .i64 u.rect.r1,.int .i64 u.rect.c2,.int .i64 u.rect.r2,.int .i64 u.node,.int .u8 u.fn]
structure Tk where
 kind:Int
 num:Int
 text:ByteArray
 rect:Rct
 at_:Int
def aY (t:Tk):List Value:= [.int .u8 t.kind,.int .i64 t.num,.string t.text,.int .i64 t.rect.c1,.int .i64 t.rect.r1,.int .i64 t.rect.c2,.int .i64 t.rect.r2,.int .i64 t.at_]
theorem wY (t:Tk):(aY t).length=8:=rfl
def cY:Tk:=⟨0,0,au,⟨0,0,0,0⟩,0⟩
def aC (c:Int):Bool:=decide (48≤c) && decide (c≤57)
def bN (c:Int):Bool:=(decide (65≤c) && decide (c≤90))||(decide (97≤c) && decide (c≤122))
def cL (c:Int):Bool:=bN c||aC c
def upC (c:Int):Int:=if 97≤c∧c≤122 then c - 32 else c
def aB (p:Int→Bool):List Int→Nat
 | []=>0
 |c::r=>if p c then aB p r+1 else 0
def bk:List Int→Int→Int
 | [],v=>v
 |c::r,v=>bk r (10*v+(c - 48))
def cF:Int:=9223372036854775807
def mkB (l:List Int):ByteArray:=⟨(l.map fun n=>UInt8.ofNat n.toNat).toArray⟩
def bS (l:List Int):Nat:=match l with
 |46::r=>aB aC r
 |_=>0
def kq (l:List Int):Option (Int × Nat):=
 let w:=aB aC l
 let p:=bS (l.drop w)
 if w=0∨4<p then none
 else
  let v:=bk (l.take w++(l.drop (w+1)).take p++List.replicate (4 - p) 48) 0
  if cF<v then none else some (v,if p=0 then w else w+1+p)
def j5:List Int→Option (List Int × Nat)
 | []=>none
 |c::r=>
  if c≠34 then (j5 r).map fun x=>(c::x.1,x.2+1)
  else match r with
   | []=>some ([],1)
   |d::r' =>if d=34 then (j5 r').map fun x=>(34::x.1,x.2+2) else some ([],1)
def bh:List Int→Int→Int
 | [],v=>v
 |c::r,v=>bh r (min (26*v+(upC c - 64)) 1025)
def mD:List Int→Int→Int
 | [],v=>v
 |c::r,v=>mD r (min (10*v+(c - 48)) 1025)
def bX (l:List Int):Int × Int × Int:=
 let a:=l.takeWhile bN
 let d:=l.dropWhile bN
 if a= []∨d= []∨d.head? =some 48∨d.all aC=false then (0,0,4)
 else if 1024<bh a 0∨1024<mD d 0 then (0,0,3)
 else (bh a 0,mD d 0,0)
def KF (c r:Int):Rct:=⟨c,r,c,r⟩
def dI:List (List Int):= [[35,68,73,86,47,48,33],[35,86,65,76,85,69,33],[35,78,85,77,33],[35,78,47,65],[35,82,69,70,33]]
def jV (l:List Int):List (List Int)→Int→Option (Int × Nat)
 | [],_=>none
 |s::r,code=>if (l.take s.length).map upC=s then some (code,s.length) else jV l r (code+1)
def eP:List (List Int × Int):= [([60,62],8),([60,61],10),([62,61],12),([43],1),([45],2),([42],3),([47],4),([94],5),([38],6),([61],7),([60],9),([62],11),([37],13)]
def opL (l:List Int):List (List Int × Int)→Option (Int × Nat)
 | []=>none
 |(s,k)::r=>if l.take s.length=s then some (k,s.length) else opL l r
def bq (c:Int):Bool:=decide (32≤c) && decide (c≤126)
theorem yf (b:ByteArray) (i j:Nat):ap (b.extract i j)=((ap b).drop i).take (j - i):=by
 simp only [ap,ByteArray.data_extract,Array.toList_extract,List.extract_eq_take_drop,List.map_take,List.map_drop]
def gV (l:List Int):Prop:= ∀ c∈l,0≤c∧c<256
theorem l8 (b:ByteArray):gV (ap b):=by
 intro c hc
 simp only [ap,Pu] at hc
 obtain ⟨u,_,rfl⟩:=hc
 have:=u.toNat_lt
 omega
theorem nA {l:List Int} (h:gV l):ap (mkB l)=l:=by
 simp only [ap,mkB,QE]
 conv=>rhs;rw [← List.map_id l]
 apply Pq
 intro c hc
 have:=h c hc
 simp only [Function.comp,id_eq,UInt8.toNat_ofNat']
 omega
theorem lA (b:ByteArray):mkB (ap b)=b:=by
 apply ByteArray.ext
 apply Array.ext'
 simp only [mkB,ap,QE]
 conv=>rhs;rw [← List.map_id b.data.toList]
 apply Pq
 intro c _
 simp [Function.comp]
theorem uH {a b:ByteArray} (h:ap a=ap b):a=b:=by rw [← lA a,← lA b,h]
theorem IK {b:ByteArray} {l:List Int} (h:ap b=l):b=mkB l:=by rw [← h,lA]
theorem bR (p:Int→Bool): ∀ l,aB p l≤l.length
 | []=>NJ _
 |c::r=>by
  simp only [aB]
  split
  ·
   have:=bR p r;simp;omega
  ·
   exact NY _
theorem pS {p:Int→Bool} {l:List Int} {i:Nat} (h:l.length≤i):aB p (l.drop i)=0:=by
 rw [N0 h];rfl
theorem jP {p:Int→Bool}: ∀ (l:List Int) (i:Nat) (c:Int),i<aB p l→l[i]? =some c→p c=true
 | [],i,c,h,_=>by simp [aB] at h
 |a::r,i,c,h,hc=>by
  simp only [aB] at h
  split at h
  ·
   rename_i ha
   cases i with
   |zero=>simp at hc;subst hc;exact ha
   |succ i=>exact jP r i c (by omega) (by simpa using hc)
  ·
   omega
end Go.SL
namespace Go.SL
open Go Go.RowKit
def bat (a:ByteArray) (i:Nat):Int:=(ap a).getD i 0
def sub (a:ByteArray) (lo hi:Nat):ByteArray:=a.extract lo hi
theorem dW (a:ByteArray) (lo hi:Nat):ap (sub a lo hi)=((ap a).drop lo).take (hi - lo):=yf a lo hi
theorem bW (a:ByteArray) {lo hi:Nat} (h:hi≤a.size):(sub a lo hi).size=hi - lo:=by simp [sub];omega
theorem n8 (a:ByteArray) (lo:Nat):ap (sub a lo a.size)=(ap a).drop lo:=by
 rw [dW,N9]
 simp [av]
theorem sH (a:ByteArray) (hi:Nat):ap (sub a 0 hi)=(ap a).take hi:=by
 rw [dW,O4,PJ]
theorem gj {a:ByteArray} {i:Nat} (h:i<a.size):(ap a)[i]? =some (bat a i):=by
 have hl:i<(ap a).length:=by rw [av];exact h
 rw [bat,NX,NE hl]
 rfl
theorem qY (a:ByteArray) (i:Nat):0≤bat a i∧bat a i<256:=by
 rw [bat,NX]
 cases h:(ap a)[i]? with
 |none=>simp
 |some c=>exact l8 a c (P2 h)
theorem aZ {a:ByteArray} {i:Nat} (h:i<a.size):(ap a).drop i=bat a i::(ap a).drop (i+1):=by
 have hl:i<(ap a).length:=by rw [av];exact h
 rw [NL hl]
 have:=gj h
 rw [NE hl] at this
 rw [Option.some.inj this]
theorem uI:ap au= []:=rfl
theorem I1 {a:ByteArray}:ap a= []↔a=au:=⟨fun h=>uH (h.trans uI.symm),fun h=>by rw [h];rfl⟩
theorem gJ (a b:ByteArray):ap (a++b)=ap a++ap b:=by simp [ap]
section
variable {P:Program} {n:Fr} {w0:World} {Q:bO} {s:az} {H:List Blk} {l rest:List Oper} {ty:TypeId} {p:String} {af:Array Edge}
theorem aV {x ix:Operand} {t j:Nat} {a:ByteArray} {k:IntKind} [ht:Und P t .string] (hx:ev s x=some (.string a)) (hi:ev s ix=some (.int k (j:Nat))) (hj:j<a.size):VOp P w0 s H (.index t x ix) ty (.int .u8 (bat a j)):=by
 have h:=rl (P:=P) (w0:=w0) (H:=H) (ty:=ty) (t:=t) hx hi hj
 have e:((a[j]'hj).toNat:Int)=bat a j:=by
  have h1:=gj hj
  have h2:=qa a j hj
  rw [NE (by rw [av];exact hj),h2] at h1
  exact Option.some.inj h1
 rw [← e];exact h
theorem LV {x ix:Operand} {t:Nat} {a:ByteArray} {k:IntKind} [ht:Und P t .string] (hx:ev s x=some (.string a)) (hi:ev s ix=some (.int k 0)) (hj:0<a.size):VOp P w0 s H (.index t x ix) ty (.int .u8 (bat a 0)):=aV (j:=0) hx hi hj
theorem fD {t lo hi:Nat} {a:ByteArray} {x q r:Operand} {k k' :IntKind} [ht:Und P t .string] (hx:ev s x=some (.string a)) (hr:ev s r=some (.int k' (lo:Nat))) (hq:ev s q=some (.int k (hi:Nat))) (h:lo≤hi∧hi≤a.size):
  VOp P w0 s H (.slice t x (some r) (some q) none) ty (.string (sub a lo hi)):=Ca hx hr hq h.1 h.2
theorem tB {t lo:Nat} {a:ByteArray} {x r:Operand} {k' :IntKind} [ht:Und P t .string] (hx:ev s x=some (.string a)) (hr:ev s r=some (.int k' (lo:Nat))) (h1:lo≤a.size):
  VOp P w0 s H (.slice t x (some r) none none) ty (.string (sub a lo a.size)):=tH hx hr h1
theorem J7 {t:Nat} {a:ByteArray} {x r:Operand} {k' :IntKind} [ht:Und P t .string] (hx:ev s x=some (.string a)) (hr:ev s r=some (.int k' 1)) (h1:1≤a.size):
  VOp P w0 s H (.slice t x (some r) none none) ty (.string (sub a 1 a.size)):=tH (lo:=1) hx hr h1
theorem BU {t hi:Nat} {a:ByteArray} {x q:Operand} {k:IntKind} [ht:Und P t .string] (hx:ev s x=some (.string a)) (hq:ev s q=some (.int k (hi:Nat))) (h2:hi≤a.size):
  VOp P w0 s H (.slice t x none (some q) none) ty (.string (sub a 0 hi)):=Fl hx hq h2
theorem jB {x y:Operand} {a b c:ByteArray} {t t' :TypeId} (hx:ev s x=some (.string a)) (hy:ev s y=some (.string b)) (e:a++b=c) (h:a.size+b.size≤1000000000):VOp P w0 s H (.binOp .add t x y t') ty (.string c):=e ▸ LY hx hy (by simp only [maxLen];omega)
theorem BW {x y:Operand} {k:IntKind} {a b:Int} {t t' :TypeId} (hx:ev s x=some (.int k a)) (hy:ev s y=some (.int k b)):VOp P w0 s H (.binOp .mul t x y t') ty (.int k (k.wrap (a*b))):=fun ρ w _ _ _ _ hρ _=>by
 simp [execOp,hρ x _ hx,hρ y _ hy,eqGuard,binOp,Op.intArith]
theorem bI {x:Operand} {k k' :IntKind} {a c:Int} {t t' :TypeId} {d:TypeDesc} [hs:Und P t d] [hd:Und P t' (.int k')] (hx:ev s x=some (.int k a)) (hw:k'.wrap a=c):VOp P w0 s H (.convert t t' x) ty (.int k' c):=hw ▸ Cb hx
theorem tC {x:Operand} {A:Addr} (hx:ev s x=some (.pointer (some A))):VOp P w0 s H (.nilCheck x) ty (.pointer (some A)):=fun ρ w _ _ _ _ hρ _=>by
 simp [execOp,hρ x _ hx]
theorem xz {ι:Type} {id:Nat} {ops:Array Oper} {d:Bool} {y z:Code} (sI:ι→az) (HI:ι→List Blk) (ok:ι→Prop) (h:W P n w0 (.seq (.region id ops d) y) (bG sI HI ok Q) s H) (k: ∀ i,ok i→W P n w0 z Q (sI i) (HI i)):
  W P n w0 (.seq (.region id ops d) y) (thn (W P n w0 z Q) Q) s H:=
 lN _ _ _ h k
theorem tu {ι:Type} {id:Nat} {ops:Array Oper} {d:Bool} {z:Code} (sI:ι→az) (HI:ι→List Blk) (ok:ι→Prop) (h:W P n w0 (.region id ops d) (bG sI HI ok Q) s H) (k: ∀ i,ok i→W P n w0 z Q (sI i) (HI i)):
  W P n w0 (.region id ops d) (thn (W P n w0 z Q) Q) s H:=
 lN _ _ _ h k
theorem Eb {ι:Type} {sb:az} {id:Nat} {ops:Array Oper} {d:Bool} {y z:Code} (ts:List Nat) (hk:vL s ts=some sb) (sI:ι→az) (HI:ι→List Blk) (ok:ι→Prop) (h:W P n w0 (.seq (.region id ops d) y) (bG (fun i=>sI i++sb) HI ok Q) s H) (k: ∀ i,ok i→W P n w0 z Q (sI i++sb) (HI i)):
  W P n w0 (.seq (.region id ops d) y) (thn (W P n w0 z Q) Q) s H:=
 lN _ _ _ h k
end
section
variable {P:Program} {n:Fr} {w0:World} {Q:bO} {K:az→Prop} {s:az} {H H1:List Blk} {l rest:List Oper} {k j f:Nat} {ty:TypeId} {p:String} {af:Array Edge}
theorem mF {t T g off m:Nat} {x a:Operand} {v:Value} {vs xs:List Value} {R:List Blk} [Size P t m] (ha:ev s a=some (.pointer (some ⟨g,off,none⟩))) (hx:ev s x=some v)
  (hsel:Sel (.box g T xs) H R) (hv:v.cells=vs.toArray) (hl:vs.length=m) (h1:vs.all Value.oneCell' =true) (hfit:off+m≤xs.length)
  (hnew:MSub H1 (.box g T (xs.take off++vs++xs.drop (off+m))::R)) (h:WG P n w0 l (fun D=>if D k then H1 else H) K rest (k+1) s):
  WG P n w0 l (fun D=>if D k then H1 else H) K (⟨none,.store t a x,ty,p,af,none⟩::rest) k s:=by
 refine DW (fun D ht a' w hs hm=> ?_) h
 have e1:D k=false:=ht.not
 have e2:put D k k=true:=by simp [put]
 simp only [e1,OT,if_false] at hm
 simp only [e2,if_true]
 have hm' :=hm.sel hsel
 have hb:=(hm'.on _ NI).1
 simp only [Blk.on] at hb
 have h1' : ∀ u∈vs,u.oneCell' =true:=by simpa using h1
 have hr:=js (P:=P) (t:=t) (off:=off) hv hl h1' hb (by simpa using hfit)
 simp only at hr
 refine ⟨_,?_,hnew.use (hm'.upd (gO _ _ _) (b' := .box g T (xs.take off++vs++xs.drop (off+m))) (setRow_heap _ _ _ _ _ _ hb) fun k hk=> .inl hk)⟩
 simp [execOp,hs.eval a _ ha,hs.eval x _ hx,Instr.storeAt,Instr.sureAddr,hr]
theorem ri {t T g off:Nat} {x a:Operand} {v:Value} {xs:List Value} {R:List Blk} [Size P t 1] (ha:ev s a=some (.pointer (some ⟨g,off,none⟩))) (hx:ev s x=some v)
  (hsel:Sel (.box g T xs) H R) (hv:v.oneCell' =true) (hfit:Nat.blt off xs.length=true)
  (hnew:MSub H1 (.box g T (xs.set off v)::R)) (h:WG P n w0 l (fun D=>if D k then H1 else H) K rest (k+1) s):
  WG P n w0 l (fun D=>if D k then H1 else H) K (⟨none,.store t a x,ty,p,af,none⟩::rest) k s:=by
 refine mF (m:=1) ha hx hsel (vs:= [v]) (by cases v<;>first|rfl|cases hv) rfl (by simpa using hv) (by have:=OH ▸ hfit;omega) ?_ h
 rw [pN _ _ _ (OH ▸ hfit)]
 exact hnew
theorem E9 {d:Nat} {f' :FuncId} {xs:List Operand} {vs:List Value} {v:Value} {ts:Array TypeId} [Callable P f'] (hn:Nat.blt d n.sz=true) (hr:kg l f j k=true) (hne:Nat.beq j k=false) (hx:evs s xs=some vs)
  (hF: ∀ w,Mem w0 w H→ax P f' vs w v) (h:WG P n w0 l (fun D=>if D j then H1 else H) K rest (k+1) ((d,v)::s)):
  WG P n w0 l (fun D=>if D j then H1 else H) K (⟨some d,.call { callee:= .value (.func f'),args:=xs.toArray,argTypes:=ts },ty,p,af,none⟩::rest) k s:=by
 refine GY hn hx (fun D ht w hm=> ?_) (fun D=> ?_) h
 ·
  rw [ht.late hr] at hm
  exact hF w hm
 ·
  have:put D k j=D j:=by
   unfold put
   rw [if_neg]
   intro e
   subst e
   rw [Nat.beq_refl] at hne
   cases hne
  simp only [this]
end
section
variable {P:Program} {n:Fr} {w0:World} {Q:bO} {K:az→Prop} {s:az} {H:List Blk} {l rest:List Oper} {ty:TypeId} {p:String} {af:Array Edge}
theorem Ro.of_box {w:World} {g t:Nat} {xs:List Value} (hm:Mem w0 w H) (hi:In (.box g t xs) H):Ro w g 0 xs:=⟨Blk.key_lt (hm.on _ hi.mem).1 rfl,hm.cells_box hi⟩
theorem Ro.next {w w' :World} {H' :List Blk} {g o:Nat} {xs:List Value} (h:Ro w g o xs) (hm:Mem w w' H'):Ro w' g o xs:=Ro.of_ro hm h
theorem lQ {f:FuncId} {bs:List Operand} {vs:List Value} (hc:evs s bs=some vs):VOp P w0 s H (.makeFunc (.func f) bs.toArray #[]) ty (.func (.func f) vs.toArray #[]):=fun ρ w _ _ _ _ hρ _=>by
 have h: ∀ {xs:List Operand} {vs:List Value},evs s xs=some vs→xs.map ρ=vs:=by
  intro xs
  induction xs with
  |nil=>intro vs h;simp only [evs,Option.some.injEq] at h;simp [← h]
  |cons x r ih=>
   intro vs h
   simp only [evs] at h
   split at h
   ·
    rename_i v us hv hr
    simp only [Option.some.injEq] at h
    subst h
    simp [hρ x v hv,ih hr]
   ·
    cases h
 simp [execOp,Instr.makeFunc,← h hc]
theorem wz {ρ:Operand→Value} {w:World} {d:Option Tmp} {g:Option (Nat × Bool)} {f:FuncId} {c:Operand} {xs:List Operand} {vs bs:List Value} {ts:Array TypeId} [hf:Callable P f] (hc:ρ c= .func (.func f) bs.toArray #[]) (hx:xs.map ρ=vs):
  (execOp ρ ⟨d,.call { callee:= .value c,args:=xs.toArray,argTypes:=ts },ty,p,af,g⟩).run P w= .ok (.enter f (bs++vs).toArray) w:=by
 simp [execOp,resolve,hc,Deferred.ofValue,invoke,← hx,hf.out]
theorem GU {d:Nat} {ops:Array Oper} {f:FuncId} {c:Operand} {xs:List Operand} {vs bs:List Value} {ts:Array TypeId} {R:Value→List Blk→Prop} (hn:Nat.blt d n.sz=true) (hc:ev s c=some (.func (.func f) bs.toArray #[])) (hfc:Callable P f) (hx:evs s xs=some vs)
  (hF:FnIn P f (bs++vs) w0 H R) (k: ∀ v H',R v H' →WL P n w0 ops rest Q ((d,v)::s) H'):
  WL P n w0 ops (⟨some d,.call { callee:= .value c,args:=xs.toArray,argTypes:=ts },ty,p,af,none⟩::rest) Q s H:=by
 intro a w hs hm
 refine wpList_plain rfl fun K hK=> ?_
 have hr:=wz (P:=P) (w:=w) (ρ:=a.eval) (d:=some d) (ty:=ty) (p:=p) (af:=af) (g:=none) (f:=f) (c:=c) (xs:=xs) (bs:=bs) (ts:=ts) (hs.eval c _ hc) (gh hs hx)
 simp only [Oper.wp,hr,Oper.upon]
 refine (hF w hm).mono ?_
 rintro e w' ⟨v,H',rfl,hm',hR⟩
 exact hK _ _ (k v H' hR _ _ (hs.put (OH ▸ hn) _) hm')
theorem qB {d:Nat} {ops:Array Oper} {f:FuncId} {c:Operand} {xs:List Operand} {vs bs:List Value} {v:Value} {ts:Array TypeId} (hn:Nat.blt d n.sz=true) (hc:ev s c=some (.func (.func f) bs.toArray #[])) (hfc:Callable P f) (hx:evs s xs=some vs)
  (hF: ∀ w,Mem w0 w H→ax P f (bs++vs) w v) (k:WL P n w0 ops rest Q ((d,v)::s) H):
  WL P n w0 ops (⟨some d,.call { callee:= .value c,args:=xs.toArray,argTypes:=ts },ty,p,af,none⟩::rest) Q s H:=
 GU hn hc hfc hx (FnIn.of_at hF) fun u H' ⟨H1,h1,h2⟩=>by
  subst h1
  subst h2
  exact xo ⟨H1,O7⟩ k
theorem BV {x:Operand} {t u e T m c:Nat} {A:Option Nat} {ns:List Int} [hs:Und P t (.slice e)] [he:Und P e (.int .u8)] [hd:Und P u .string] (hx:ev s x=some (sl A m c)) (hi:In (.own A T 1 m c (ns.map (Value.int .u8))) H) (hl:ns.length=m):
  VOp P w0 s H (.convert t u x) ty (.string (mkB ns)):=fun ρ w _ _ _ _ hρ hm=>by
 have h3:ns.foldl (fun r n=>r.push (UInt8.ofNat n.toNat)) ByteArray.empty=mkB ns:=by
  have h4:=wG ns ByteArray.empty
  generalize ns.foldl (fun r n=>r.push (UInt8.ofNat n.toNat)) ByteArray.empty=b at h4 ⊢
  obtain ⟨⟨l⟩⟩:=b
  simp only at h4
  simp [h4,mkB]
 have h2:(Conv.bytesToString (.slice (A.map fun g=>(⟨g,0,none⟩:Addr)) m c)).run P w= .ok (.string (mkB ns)) w:=by
  cases A with
  |none=>
   obtain ⟨_,_,_,h4,_⟩:=(hm.on _ hi.mem).1
   subst h4
   have:ns= []:=Pk.1 hl
   subst this
   rfl
  |some g=>
   have hc:=hm.cells_own hi
   have h1:=run_loadCells_list (P:=P) w ⟨g,0,none⟩ (ns.map (Value.int .u8)) (fun j v hv=>by rw [cH];exact hc j v hv)
   rw [OV,hl] at h1
   have h2:=run_bytesToString (P:=P) w ⟨g,0,none⟩ m c ns h1
   rw [h3] at h2
   exact h2
 simp only [execOp,hρ x _ hx,sl,Sem.run_bind,run_convert_bytes_string w t u e _ _ _ hs.out he.out hd.out,h2,Result.andThen_ok,Sem.run_pure]
theorem Mr {ι:Type} {sI:ι→az} {HI:ι→List Blk} {ok:ι→Prop} (h:kA Q):kA (bG sI HI ok Q):=fun c s H hq=>h c s H hq
theorem ia {K:az→Prop} {d:Nat} {ops:Array Oper} {f:FuncId} {c:Operand} {xs:List Operand} {vs caps:List Value} {v:Value} {ts:Array TypeId} (hn:Nat.blt d n.sz=true) (hc:ev s c=some (.func (.func f) #[] caps.toArray)) (hfc:Callable P f) (hx:evs s xs=some vs)
  (hF: ∀ w,Mem w0 w H→ax P f (vs++caps) w v) (k:WQ P n w0 ops rest K ((d,v)::s) H):
  WQ P n w0 ops (⟨some d,.call { callee:= .value c,args:=xs.toArray,argTypes:=ts },ty,p,af,none⟩::rest) K s H:=by
 intro a hs
 unfold wpQuiet
 simp only [Region.wanted,if_true]
 refine ⟨v,fun w hm=> ?_,k _ (hs.put (OH ▸ hn) v)⟩
 unfold Oper.quietAt
 have hr:=jO (P:=P) (w:=w) (ρ:=a.eval) (d:=some d) (ty:=ty) (p:=p) (af:=af) (g:=none) (f:=f) (c:=c) (xs:=xs) (caps:=caps) (ts:=ts) (hs.eval c _ hc) (gh hs hx)
 rw [hr]
 refine ⟨rfl,Calls.mono (hF w hm) ?_⟩
 rintro e w' ⟨u,H',rfl,hm',rfl⟩
 exact ⟨rfl,(hm.call hm').right⟩
theorem MSub.swap {H1 C:List Blk}:MSub (H1++C) (C++H1):=⟨[],by simpa using O7⟩
theorem MSub.swapN {H1 C:List Blk}:MSub (H1++(C++ [])) (C++H1):=⟨[],by simpa using O7⟩
theorem MSub.swapN' {H1 C:List Blk}:MSub (C++H1) (H1++(C++ [])):=⟨[],by simpa using O7⟩
theorem Ec {ι:Type} {sb:az} {id:Nat} {ops:Array Oper} {d:Bool} {y z:Code} (ts:List Nat) (hk:vL s ts=some sb) (sI:ι→az) (ok:ι→Prop) (h:W P n w0 (.seq (.region id ops d) y) (bG (fun i=>sI i++sb) (fun _=>H) ok Q) s H) (k: ∀ i,ok i→W P n w0 z Q (sI i++sb) H):
  W P n w0 (.seq (.region id ops d) y) (thn (W P n w0 z Q) Q) s H:=
 lN _ _ _ h k
theorem lM {ι:Type} {sb:az} {id:Nat} {ops:Array Oper} {d:Bool} {z:Code} (ts:List Nat) (hk:vL s ts=some sb) (sI:ι→az) (ok:ι→Prop) (h:W P n w0 (.region id ops d) (bG (fun i=>sI i++sb) (fun _=>H) ok Q) s H) (k: ∀ i,ok i→W P n w0 z Q (sI i++sb) H):
  W P n w0 (.region id ops d) (thn (W P n w0 z Q) Q) s H:=
 lN _ _ _ h k
theorem qH {x:Operand} {a:ByteArray} {m t:Nat} [ht:Und P t .string] (hx:ev s x=some (.string a)) (h:a.size=m):VOp P w0 s H (.call { callee:= .builtin .len,args:= #[x],argTypes:= #[t] }) ty (.int .i64 (m:Int)):=h ▸ ij hx
def scp (Q:bO):bO
 | .goto _,_,_=>False
 |e,s,H=>Q e s H
theorem iJ {c:Code} (h:W P n w0 c (scp Q) s H):W P n w0 (.scope c) Q s H:=by
 intro a w hs hm
 refine wp_scope_straight (wp_mono (h a w hs hm) ?_)
 rintro e a' w' ⟨s',H',h1,h2,h3⟩
 cases e with
 |goto l=>exact h3.elim
 |_=>exact ⟨s',H',h1,h2,h3⟩
theorem iK {i:Nat} (h:Q .normal s H):W P n w0 (.label i) Q s H:=fun _ _ hs hm=>wp_label ⟨s,H,hs,hm,h⟩
theorem oJ (h:Q .ret s H):scp Q .ret s H:=h
end
section
variable {P:Program} {n:Fr} {w0:World} {Q:bO} {s:az} {H:List Blk} {l rest:List Oper} {ty:TypeId} {p:String} {af:Array Edge}
theorem E6 {d:Nat} {ops:Array Oper} {f:FuncId} {c:Operand} {xs:List Operand} {vs bs:List Value} {ts:Array TypeId} {R D:Value→List Blk→Prop} (hn:Nat.blt d n.sz=true) (hc:ev s c=some (.func (.func f) bs.toArray #[])) (hfc:Callable P f) (hx:evs s xs=some vs)
  (hF:FnP P f (bs++vs) w0 H R D) (k: ∀ v H',R v H' →WL P n w0 ops rest Q ((d,v)::s) H') (kd: ∀ v H',D v H' →Q (.panic (jl v)) s H'):
  WL P n w0 ops (⟨some d,.call { callee:= .value c,args:=xs.toArray,argTypes:=ts },ty,p,af,none⟩::rest) Q s H:=by
 intro a w hs hm
 refine wpList_plain rfl fun K hK=> ?_
 have hr:=wz (P:=P) (w:=w) (ρ:=a.eval) (d:=some d) (ty:=ty) (p:=p) (af:=af) (g:=none) (f:=f) (c:=c) (xs:=xs) (bs:=bs) (ts:=ts) (hs.eval c _ hc) (gh hs hx)
 simp only [Oper.wp,hr,Oper.upon]
 refine (hF w hm).mono ?_
 rintro e w' (⟨v,H',rfl,hm',hR⟩|⟨v,H',rfl,hm',hD⟩)
 ·
  exact hK _ _ (k v H' hR _ _ (hs.put (OH ▸ hn) _) hm')
 ·
  exact ⟨s,H',hs,hm',kd v H' hD⟩
theorem Fz {ρ:Operand→Value} {w:World} {d:Option Tmp} {g:Option (Nat × Bool)} {f:FuncId} {c:Operand} {xs:List Operand} {vs bs caps:List Value} {ts:Array TypeId} (hf:Callable P f) (hc:ρ c= .func (.func f) bs.toArray caps.toArray) (hx:xs.map ρ=vs):
  (execOp ρ ⟨d,.call { callee:= .value c,args:=xs.toArray,argTypes:=ts },ty,p,af,g⟩).run P w= .ok (.enter f (bs++(vs++caps)).toArray) w:=by
 simp [execOp,resolve,hc,Deferred.ofValue,invoke,← hx,hf.out]
theorem vY {d:Nat} {ops:Array Oper} {f:FuncId} {c:Operand} {xs:List Operand} {vs bs caps:List Value} {ts:Array TypeId} {R D:Value→List Blk→Prop} (hn:Nat.blt d n.sz=true) (hc:ev s c=some (.func (.func f) bs.toArray caps.toArray)) (hfc:Callable P f) (hx:evs s xs=some vs)
  (hF:FnP P f (bs++(vs++caps)) w0 H R D) (k: ∀ v H',R v H' →WL P n w0 ops rest Q ((d,v)::s) H') (kd: ∀ v H',D v H' →Q (.panic (jl v)) s H'):
  WL P n w0 ops (⟨some d,.call { callee:= .value c,args:=xs.toArray,argTypes:=ts },ty,p,af,none⟩::rest) Q s H:=by
 intro a w hs hm
 refine wpList_plain rfl fun K hK=> ?_
 have hr:=Fz (P:=P) (w:=w) (ρ:=a.eval) (d:=some d) (ty:=ty) (p:=p) (af:=af) (g:=none) (f:=f) (c:=c) (xs:=xs) (bs:=bs) (caps:=caps) (ts:=ts) hfc (hs.eval c _ hc) (gh hs hx)
 simp only [Oper.wp,hr,Oper.upon]
 refine (hF w hm).mono ?_
 rintro e w' (⟨v,H',rfl,hm',hR⟩|⟨v,H',rfl,hm',hD⟩)
 ·
  exact hK _ _ (k v H' hR _ _ (hs.put (OH ▸ hn) _) hm')
 ·
  exact ⟨s,H',hs,hm',kd v H' hD⟩
class FldT (P:Program) (t f:Nat) (ft:outParam TypeId) (o:outParam Nat):Prop where
 out: ∃ fs fl,P.underlying t=some (.struct fs)∧fs[f]? =some fl∧fl.offset=o∧fl.type=ft
theorem cU {x:Operand} {t f o:Nat} {ft:TypeId} {cs:List Value} {v:Value} [hf:FldT P t f ft o] [ho:One P ft] (hx:ev s x=some (.agg cs.toArray)) (hi:cs[o]? =some v):
  VOp P w0 s H (.field t x f) ty v:=fun ρ w _ _ _ _ hρ _=>by
 obtain ⟨fs,fl,h1,h2,rfl,rfl⟩:=hf.out
 obtain ⟨d,h5,h6⟩:=ho.out
 have hp:(part fl.type cs.toArray fl.offset).run P w= .ok v w:=by
  cases d<;>simp_all [part,isAgg,run_underlying h5]
 simp [execOp,hρ x _ hx,Instr.field,run_underlying h1,h2,asAgg,hp]
end
end Go.SL

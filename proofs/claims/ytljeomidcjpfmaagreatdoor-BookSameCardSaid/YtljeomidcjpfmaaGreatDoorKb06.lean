/-
  Lemmas and walks, put together: Sl18 Sl19 Sl20 Md Md2 Lx Lx2 Sl21 Sl22 Sl23 Sl24.
-/
import Derived.Recover
import Derived.Laws.IdiomRangeMap
import Derived.Laws.Pointers
import Derived.Scope
import Derived.Test.YtljeomidcjpfmaaGreatDoorKb05
set_option linter.unusedSimpArgs false
set_option linter.unusedVariables false
set_option maxRecDepth 20000
namespace Go.SL
open Go Go.RowKit
def chain1 (v:Value):List PanicEntry:= [{ v,recovered:=false }]
def FnP (P:Program) (f:FuncId) (args:List Value) (w0:World) (H:List Blk) (R D:Value→List Blk→Prop):Prop:=
 ∀ w,Mem w0 w H→Calls P f args.toArray w fun e w' =>(∃ v H',e= .returned v∧Mem w0 w' H' ∧R v H')∨(∃ v H',e= .panicked (chain1 v)∧Mem w0 w' H' ∧D v H')
theorem FnP.msub {P:Program} {f:FuncId} {args:List Value} {w0:World} {H H' :List Blk} {R D:Value→List Blk→Prop} (h:FnP P f args w0 H' R D) (hs:MSub H' H):FnP P f args w0 H R D:=fun w hm=>h w (hs.use hm)
def retPP (P:Program) (fn:Func) (n:Fr) (w0:World) (R D:Value→List Blk→Prop):Post:=fun e s H=>
 retP P fn n w0 R e s H∨ ∃ v H',e= .panic (chain1 v)∧MSub H' H∧D v H'
section
variable {P:Program} {n:Fr} {w0:World} {Q:Post} {s:Slots} {H:List Blk} {l rest:List Oper} {ty:TypeId} {p:String} {af:Array Edge}
theorem wl_callP {d:Nat} {ops:Array Oper} {f:FuncId} {xs:List Operand} {vs:List Value} {ts:Array TypeId} {R D:Value→List Blk→Prop} [Callable P f] (hn:Nat.blt d n.sz=true) (hx:evs s xs=some vs)
  (hF:FnP P f vs w0 H R D) (k: ∀ v H',R v H' →WL P n w0 ops rest Q ((d,v)::s) H') (kd: ∀ v H',D v H' →Q (.panic (chain1 v)) s H'):
  WL P n w0 ops (⟨some d,.call { callee:= .value (.func f),args:=xs.toArray,argTypes:=ts },ty,p,af,none⟩::rest) Q s H:=by
 intro a w hs hm
 refine wpList_plain rfl fun K hK=> ?_
 have hr:=run_call (P:=P) (w:=w) (ρ:=a.eval) (d:=some d) (ty:=ty) (p:=p) (af:=af) (g:=none) (f:=f) (c:= .func f) (xs:=xs) (caps:= []) (ts:=ts) rfl (evs_map hs hx)
 rw [List.append_nil] at hr
 simp only [Oper.wp,hr,Oper.upon]
 refine (hF w hm).mono ?_
 rintro e w' (⟨v,H',rfl,hm',hR⟩|⟨v,H',rfl,hm',hD⟩)
 ·
  exact hK _ _ (k v H' hR _ _ (hs.put (Nat.blt_eq ▸ hn) _) hm')
 ·
  exact ⟨s,H',hs,hm',kd v H' hD⟩
theorem wl_panic {d:Option Tmp} {ops:Array Oper} {x:Operand} {t:TypeId} {v:Value} (hx:ev s x=some (.iface t v)) (h:Q (.panic (chain1 (.iface t v))) s H):
  WL P n w0 ops (⟨d,.panic x,ty,p,af,none⟩::rest) Q s H:=by
 intro a w hs hm
 refine wpList_plain rfl fun K hK=> ?_
 have hr:(execOp a.eval ⟨d,.panic x,ty,p,af,none⟩).run P w= .halt (.panic (.iface t v)) w:=by
  simp only [execOp,hs.eval x _ hx]
  rfl
 simp only [Oper.wp,hr,Oper.upon]
 exact ⟨s,H,hs,hm,h⟩
theorem thn_p {K:Slots→List Blk→Prop} {c:List PanicEntry} (h:Q (.panic c) s H):thn K Q (.panic c) s H:=h
theorem blk_p {id:Nat} {c:List PanicEntry} (h:Q (.panic c) s H):blk id Q (.panic c) s H:=h
theorem cut_p {ι:Type} {sI:ι→Slots} {HI:ι→List Blk} {ok:ι→Prop} {c:List PanicEntry} (h:Q (.panic c) s H):cutP sI HI ok Q (.panic c) s H:=h
theorem ret_v {fn:Func} {R D:Value→List Blk→Prop} {e:Exit} (h:retP P fn n w0 R e s H):retPP P fn n w0 R D e s H:= .inl h
theorem ret_p {fn:Func} {R D:Value→List Blk→Prop} {v:Value} {H' :List Blk} (hs:MSub H' H) (h:D v H'):retPP P fn n w0 R D (.panic (chain1 v)) s H:= .inr ⟨v,H',rfl,hs,h⟩
theorem fn_p {m:Nat} {f:FuncId} {fn:Func} {c:Code} {args:List Value} {R D:Value→List Blk→Prop} (hf:P.funcs[f]? =some fn) (hb:fn.body=some c) (hn:fn.ntmps=m) (hle:Nat.ble args.length m=true)
  (h:W P ⟨m,[]⟩ w0 c (retPP P fn ⟨m,[]⟩ w0 R D) (pars args 0) H):FnP P f args w0 H R D:=by
 intro w hm
 have hle' :args.length≤m:=by simpa using hle
 refine calls_of_wp hf hb (wp_mono (h { tmps:=args.toArray++Array.replicate (fn.ntmps - args.toArray.size) undef,defers:= [] } w ⟨?_,rfl,?_⟩ hm) ?_)
 ·
  simp [hn];omega
 ·
  intro t v ht
  rw [look_pars] at ht
  simp only [Nat.zero_le,if_true,Nat.sub_zero] at ht
  have hlt:t<args.length:=(List.getElem?_eq_some_iff.1 ht).1
  rw [Array.getElem?_append_left (by simpa using hlt)]
  simpa using ht
 ·
  rintro e a w' ⟨s',H',hs,hm',hq⟩
  rcases hq with ⟨he,v,H'',hsub,hr,hR⟩|⟨v,H'',rfl,hsub,hD⟩
  ·
   have hp:a.defers= []∧ ∃ v,(results fn a.tmps).run P w' = .ok v w' ∧((∃ v1 H1,Ending.returned v= .returned v1∧Mem w0 w' H1∧R v1 H1)∨(∃ v1 H1,Ending.returned v= .panicked (chain1 v1)∧Mem w0 w' H1∧D v1 H1)):=
    ⟨hs.defers,v,hr a w' hs hm',.inl ⟨v,H'',rfl,hsub.use hm',hR⟩⟩
   rcases he with rfl|rfl<;>exact hp
  ·
   exact ⟨hs.defers,.inr ⟨v,H'',rfl,hsub.use hm',hD⟩⟩
end
section
variable {P:Program} {n:Fr} {w0:World} {Q:Post} {s:Slots} {H:List Blk} {l rest:List Oper} {ty:TypeId} {p:String} {af:Array Edge}
theorem v_cut2_str {t lo hi:Nat} {a:ByteArray} {x q r:Operand} {k k' :IntKind} [ht:Und P t .string] (hx:ev s x=some (.string a)) (hr:ev s r=some (.int k' (lo:Nat))) (hq:ev s q=some (.int k (hi:Nat))) (h1:lo≤hi) (h2:hi≤a.size):
  VOp P w0 s H (.slice t x (some r) (some q) none) ty (.string (a.extract lo hi)):=fun ρ w _ _ _ _ hρ _=>by
 simp [execOp,hρ x _ hx,hρ q _ hq,hρ r _ hr,Instr.sliceAt,run_underlying ht.out,Instr.slice,Instr.sliceBounds,Instr.sliceBound,asIntOf,h2,h1]
theorem v_from_str {t lo:Nat} {a:ByteArray} {x r:Operand} {k' :IntKind} [ht:Und P t .string] (hx:ev s x=some (.string a)) (hr:ev s r=some (.int k' (lo:Nat))) (h1:lo≤a.size):
  VOp P w0 s H (.slice t x (some r) none none) ty (.string (a.extract lo a.size)):=fun ρ w _ _ _ _ hρ _=>by
 simp [execOp,hρ x _ hx,hρ r _ hr,Instr.sliceAt,run_underlying ht.out,Instr.slice,Instr.sliceBounds,Instr.sliceBound,asIntOf,h1]
theorem v_adds {x y:Operand} {a b:ByteArray} {t t' :TypeId} (hx:ev s x=some (.string a)) (hy:ev s y=some (.string b)) (h:a.size+b.size≤maxLen):VOp P w0 s H (.binOp .add t x y t') ty (.string (a++b)):=fun ρ w _ _ _ _ hρ _=>by
 simp only [maxLen] at h
 simp [execOp,hρ x _ hx,hρ y _ hy,eqGuard,binOp,Op.stringOp]
 omega
theorem v_makeIface {x:Operand} {t:TypeId} {v:Value} {d:TypeDesc} [ht:Und P t d] (hd: ∀ m,d≠ .interface m) (hx:ev s x=some v):VOp P w0 s H (.makeInterface t x) ty (.iface t v):=fun ρ w _ _ _ _ hρ _=>by
 cases d<;>first|(exact absurd rfl (hd _))|simp [execOp,hρ x _ hx,Instr.makeInterface,run_underlying ht.out]
end
def ment {κ:Type} (enc:κ→Value) (e:κ × Value × Nat):MapEntry:={ key:=enc e.1,val:=e.2.1,born:=e.2.2 }
def mobj {κ:Type} (enc:κ→Value) (es:List (κ × Value × Nat)) (clock:Nat):Obj:= .map (es.map (ment enc)).toArray clock
structure MapOk {κ:Type} (es:List (κ × Value × Nat)) (clock:Nat):Prop where
 born:(es.map fun e=>e.2.2).Nodup
 old: ∀ e∈es,e.2.2<clock
 keys:(es.map fun e=>e.1).Nodup
def kfind {κ:Type} [DecidableEq κ] (k:κ):List (κ × Value × Nat)→Nat→Option (Nat × Value)
 | [],_=>none
 |e::es,i=>if k=e.1 then some (i,e.2.1) else kfind k es (i+1)
class KLaw (P:Program) (K:TypeId) {κ:Type} [DecidableEq κ] (enc:κ→Value):Prop where
 check: ∀ e k w,(Instr.checkKey e 10000 K (enc k)).run P w= .ok () w
 find: ∀ k (es:List (κ × Value × Nat)) w,(Instr.findKey K (enc k) (es.map (ment enc))).run P w= .ok (kfind k es 0) w
 stays: ∀ k w,(Instr.keyThatStays (enc k) (enc k)).run P w= .ok (enc k) w
def kput {κ:Type} [DecidableEq κ] (k:κ) (v:Value) (clock:Nat) (es:List (κ × Value × Nat)):List (κ × Value × Nat) × Nat:=
 match kfind k es 0 with
 |some (i,_)=>(es.modify i fun e=>(k,v,e.2.2),clock)
 |none=>(es++ [(k,v,clock)],clock+1)
theorem kfind_get {κ:Type} [DecidableEq κ] {k:κ}: ∀ {es:List (κ × Value × Nat)} {i j:Nat} {v:Value},kfind k es i=some (j,v)→ ∃ b,i≤j∧es[j - i]? =some (k,v,b)
 | [],i,j,v,h=>by cases h
 |e::es,i,j,v,h=>by
  simp only [kfind] at h
  split at h
  ·
   rename_i hk
   obtain ⟨rfl,rfl⟩:=Prod.mk.inj (Option.some.inj h)
   exact ⟨e.2.2,Nat.le_refl _,by simp [hk]⟩
  ·
   obtain ⟨b,h1,h2⟩:=kfind_get h
   refine ⟨b,by omega,?_⟩
   rw [show j - i=(j - (i+1))+1 by omega,List.getElem?_cons_succ]
   exact h2
section
variable {P:Program} {n:Fr} {w0:World} {Q:Post} {s:Slots} {H:List Blk} {l rest:List Oper} {ty:TypeId} {p:String} {af:Array Edge} {κ:Type} [DecidableEq κ] {enc:κ→Value}
theorem wl_makeMap {κ' :Type} {d t:Nat} {ops:Array Oper} (hn:Nat.blt d n.sz=true) (enc:κ' →Value)
  (k: ∀ g,WL P n w0 ops rest Q ((d,.map (some g))::s) (.obj g (mobj enc [] 0)::H)):WL P n w0 ops (⟨some d,.makeMap t none,ty,p,af,none⟩::rest) Q s H:=by
 refine wl_new (B:=fun g=> .obj g (mobj enc [] 0)) (v:=fun g=> .map (some g)) hn (fun st w hs hm=> ?_) k
 exact ⟨w.alloc (.map #[] 0),rfl,World.grownBy_alloc w _ none,heap_alloc_new w _,rfl⟩
theorem Mem.obj_at {w:World} {g:Nat} {o:Obj} (hm:Mem w0 w H) (hi:In (.obj g o) H):w.heap[g]? =some o:=(hm.on _ hi.mem).1
theorem run_zero {P:Program} {E:TypeId} {z:Value} [hz:Zero P E z] (w:World):(zeroValue E).run P w= .ok z w:=by
 obtain ⟨i,h1,h2⟩:=hz.out
 simp [zeroValue,typeInfo,h1,h2]
theorem v_lookupOk {t K E g clock:Nat} {x ix:Operand} {k:κ} {es:List (κ × Value × Nat)} {z u:Value} [ht:Und P t (.map K E)] [hk:KLaw P K enc] [hz:Zero P E z] (hx:ev s x=some (.map (some g))) (hi:ev s ix=some (enc k)) (hin:In (.obj g (mobj enc es clock)) H)
  (hu:(match kfind k es 0 with|some (_,v)=>Value.tuple #[v,.bool true]|none=> .tuple #[z,.bool false])=u):VOp P w0 s H (.lookup t x ix true) ty u:=fun ρ w _ _ _ _ hρ hm=>by
 have hb:=hm.obj_at hin
 have hf:=hk.find k es w
 have hc:=hk.check (es.map (ment enc)).toArray.isEmpty k w
 subst hu
 simp only [mobj] at hb
 have hL:(Instr.lookup t (.map (some g)) (enc k) true).run P w= .ok (match kfind k es 0 with|some (_,v)=>Value.tuple #[v,.bool true]|none=> .tuple #[z,.bool false]) w:=by
  simp only [Instr.lookup,Sem.run_bind,run_underlying ht.out,Result.andThen_ok,MapKept.run_getObj_map hb,hc,hf,Sem.run_pure]
  cases h:kfind k es 0 with
  |none=>simp only [Sem.run_bind,run_zero w,Result.andThen_ok,Sem.run_pure,if_true]
  |some r=>rfl
 simp only [execOp,hρ x _ hx,hρ ix _ hi,Sem.run_bind,hL,Result.andThen_ok,Sem.run_pure]
theorem setObj_grown (w:World) (g:Nat) (o:Obj):w.grownBy { w with heap:=w.heap.setIfInBounds g o } (some g):=
 ⟨rfl,rfl,rfl,by simp,fun k _ hk=>by
  have hne:g≠k:=fun e=>hk (by rw [← e])
  simp [Array.getElem?_setIfInBounds_ne hne]⟩
theorem setObj_at {w:World} {g:Nat} {o o' :Obj} (h:w.heap[g]? =some o):(w.heap.setIfInBounds g o')[g]? =some o' :=by
 have:g<w.heap.size:=(Array.getElem?_eq_some_iff.1 h).1
 simp [this]
theorem run_mapUpdate {t K E g clock:Nat} {k:κ} {v:Value} {es:List (κ × Value × Nat)} {w:World} [ht:Und P t (.map K E)] [hk:KLaw P K enc] (hb:w.heap[g]? =some (mobj enc es clock)):
  (Instr.mapUpdate t (.map (some g)) (enc k) v).run P w= .ok () { w with heap:=w.heap.setIfInBounds g (mobj enc (kput k v clock es).1 (kput k v clock es).2) }:=by
 have hf:=hk.find k es w
 have hc:=hk.check false k w
 simp only [mobj] at hb
 cases h:kfind k es 0 with
 |none=>
  rw [h] at hf
  simp [Instr.mapUpdate,run_underlying ht.out,getObj,setObj,Sem.run,hb,hc,hf,Result.andThen,kput,h,mobj,ment]
 |some r=>
  obtain ⟨i,u⟩:=r
  rw [h] at hf
  obtain ⟨b,_,hi⟩:=kfind_get h
  rw [Nat.sub_zero] at hi
  have hkey:(((es.map (ment enc)).toArray[i]?).map (·.key)).getD (enc k)=enc k:=by simp [hi,ment]
  have hst:=hk.stays k w
  have he:((es.map (ment enc)).toArray.modify i fun e=>{ e with key:=enc k,val:=v })=((es.modify i fun e=>(k,v,e.2.2)).map (ment enc)).toArray:=by
   apply Array.ext'
   simp only [Array.toList_modify]
   apply List.ext_getElem?
   intro j
   simp only [List.getElem?_modify,List.getElem?_map]
   cases es[j]? <;>simp [ment]<;>split<;>rfl
  simp only [Instr.mapUpdate,Sem.run_bind,run_underlying ht.out,Result.andThen_ok,getObj,setObj,Sem.run,hb,hc,hf,hkey,hst,he]
  simp [kput,h,mobj]
theorem wl_mapIns {t K E g clock:Nat} {m x kx:Operand} {k:κ} {v:Value} {es:List (κ × Value × Nat)} {R:List Blk} {ops:Array Oper} [ht:Und P t (.map K E)] [hk:KLaw P K enc] (hm:ev s m=some (.map (some g))) (hkx:ev s kx=some (enc k)) (hx:ev s x=some v) (hsel:Sel (.obj g (mobj enc es clock)) H R)
  (h:WL P n w0 ops rest Q s (.obj g (mobj enc (kput k v clock es).1 (kput k v clock es).2)::R)):WL P n w0 ops (⟨none,.insert t m kx x,ty,p,af,none⟩::rest) Q s H:=by
 refine wl_heap (fun a w hs hmm=> ?_) h
 have hm' :=hmm.sel hsel
 have hb:=(hm'.on _ List.mem_cons_self).1
 refine ⟨_,?_,hm'.upd (setObj_grown w g _) (b' := .obj g _) (setObj_at hb) fun k hk=> .inl hk⟩
 simp [execOp,hs.eval m _ hm,hs.eval x _ hx,hs.eval kx _ hkx,run_mapUpdate (P:=P) (t:=t) (K:=K) (E:=E) (k:=k) (v:=v) hb]
end
section
variable {P:Program} {n:Fr} {w0:World} {Q:Post} {s:Slots} {H:List Blk} {l rest:List Oper} {ty:TypeId} {p:String} {af:Array Edge} {κ:Type} [DecidableEq κ] {enc:κ→Value}
end
theorem inj_of_map {α β:Type} (f:α→β): ∀ {l:List α},(l.map f).Nodup→ ∀ {x y:α},x∈l→y∈l→f x=f y→x=y
 |a::l,h,x,y,hx,hy,e=>by
  have h' :=List.nodup_cons.1 h
  rcases List.mem_cons.1 hx with hx|hx<;>rcases List.mem_cons.1 hy with hy|hy
  ·
   rw [hx,hy]
  ·
   exact absurd (List.mem_map.2 ⟨y,hy,by rw [← e,hx]⟩) h'.1
  ·
   exact absurd (List.mem_map.2 ⟨x,hx,by rw [e,hy]⟩) h'.1
  ·
   exact inj_of_map f h'.2 hx hy e
theorem klaw_int {P:Program} {K:TypeId} {q:IntKind} [hK:Und P K (.int q)]:KLaw P K (fun z:Int=>Value.int q z):={
 check:=fun e k w=>by
  have h: ∀ m,(Instr.checkKey e (m+1) K (.int q k)).run P w= .ok () w:=fun m=>by simp only [Instr.checkKey,Sem.run_bind,run_underlying hK.out,Result.andThen_ok,Sem.run_pure]
  exact h 9999
 find:=fun k es w=>by
  have h: ∀ (es:List (Int × Value × Nat)) (i:Nat),Instr.findNow (.int q) (.int q k) (es.map (ment fun z:Int=>Value.int q z)) i=some (kfind k es i):=by
   intro es
   induction es with
   |nil=>intro i;rfl
   |cons e es ih=>
    intro i
    have hb:(k==e.1)=decide (k=e.1):=by rw [Bool.eq_iff_iff];simp
    simp only [List.map_cons,Instr.findNow,ment,Instr.sameNow,if_true,kfind,hb]
    by_cases hk:k=e.1
    ·
     simp [hk]
    ·
     simp only [decide_eq_false hk,hk,if_false]
     exact ih _
  simp only [Instr.findKey,Sem.run_bind,run_underlying hK.out,Result.andThen_ok,h,Sem.run_pure]
 stays:=fun k w=>by
  have h:Instr.sameBits 10000 (.int q k) (.int q k)=true:=by unfold Instr.sameBits;simp
  simp only [Instr.keyThatStays,h,if_true,Sem.run_pure] }
end Go.SL
namespace Go.SL
open Go
structure Rct where
 c1:Int
 r1:Int
 c2:Int
 r2:Int
structure Vl where
 kind:Int
 num:Int
 text:ByteArray
structure Nd where
 kind:Int
 v:Vl
 rect:Rct
 op:Int
 fn:Int
 n:Int
def encR (r:Rct):List Value:= [.int .i64 r.c1,.int .i64 r.r1,.int .i64 r.c2,.int .i64 r.r2]
def encV (v:Vl):List Value:= [.int .u8 v.kind,.int .i64 v.num,.string v.text]
def encN (n:Nd):List Value:=
 [.int .u8 n.kind,.int .u8 n.v.kind,.int .i64 n.v.num,.string n.v.text,.int .i64 n.rect.c1,.int .i64 n.rect.r1,.int .i64 n.rect.c2,.int .i64 n.rect.r2,.int .i64 n.op,.int .u8 n.fn,.int .i64 n.n]
def valid (c r:Int):Bool:=decide (1≤c) && decide (c≤1024) && decide (1≤r) && decide (r≤1024)
def rectOk (r:Rct):Bool:=valid r.c1 r.r1 && valid r.c2 r.r2 && decide (r.c1≤r.c2) && decide (r.r1≤r.r2)
def rectE (r:Rct):Int:=bif rectOk r then 0 else 3
def plainB (b:ByteArray):Bool:=b.data.toList.all fun c=>decide (32≤c.toNat) && decide (c.toNat≤126)
def glyphE (b:ByteArray):Int:=bif decide (256<b.size) then 5 else bif plainB b then 0 else 4
def emptyB:ByteArray:=⟨#[]⟩
def valOk (v:Vl):Bool:=
 bif decide (v.kind=0) then decide (v.num=0) && decide (v.text=emptyB)
 else bif decide (v.kind=1) then decide (v.text=emptyB) && decide (v.num≠ -9223372036854775808)
 else bif decide (v.kind=2) then decide (v.text=emptyB) && decide (v.num / 2=0)
 else bif decide (v.kind=3) then decide (v.num=0) && decide (glyphE v.text=0)
 else bif decide (v.kind=4) then decide (v.text=emptyB) && decide (1≤v.num) && decide (v.num≤6)
 else false
def valE (v:Vl):Int:=bif valOk v then 0 else 2
def knownF (fn:Int):Bool:=decide (1≤fn) && decide (fn≤50)
def releasedF (fn:Int):Bool:=decide (46≤fn) && decide (fn≤50)
def arity (fn:Int):Int × Int × Int:=
 if fn=5∨fn=6∨fn=7∨fn=25∨fn=39∨fn=40∨fn=18∨fn=19∨fn=45∨fn=44 then (2,2,0)
 else if fn=20∨fn=41∨fn=43 then (2,3,0)
 else if fn=32∨fn=33 then (1,2,0)
 else if fn=34 then (3,3,0)
 else if fn=21∨fn=22∨fn=23∨fn=38∨fn=9∨fn=10∨fn=11∨fn=12∨fn=14∨fn=15∨fn=16∨fn=17 then (1,16,0)
 else if fn=30 then (2,16,0)
 else if knownF fn then (1,1,0) else (0,0,10)
def wideF (fn i:Int):Bool × Int:=
 if (arity fn).2.2≠0 then (false,(arity fn).2.2)
 else if i<0∨(arity fn).2.1≤i then (false,3)
 else if fn=9∨fn=10∨fn=11∨fn=12∨fn=14∨fn=15∨fn=16∨fn=17 then (true,0)
 else if fn=44 then (decide (i=1),0)
 else if fn=18∨fn=19∨fn=45∨fn=43∨fn=13 then (decide (i=0),0)
 else (releasedF fn,0)
def below (n:Nd):Int:=
 if n.kind=4∨n.kind=5 then 1 else if n.kind=6 then 2 else if n.kind=7 then n.n else 0
def zeroR:Rct:=⟨0,0,0,0⟩
def zeroV:Vl:=⟨0,0,emptyB⟩
def want (n:Nd):Nd:=
 if n.kind=1 then ⟨n.kind,n.v,zeroR,0,0,0⟩
 else if n.kind=2∨n.kind=3 then ⟨n.kind,zeroV,n.rect,0,0,0⟩
 else if n.kind=6 then ⟨n.kind,zeroV,zeroR,n.op,0,0⟩
 else if n.kind=7 then ⟨n.kind,zeroV,zeroR,0,n.fn,n.n⟩
 else ⟨n.kind,zeroV,zeroR,0,0,0⟩
def litOk (v:Vl):Bool:=
 (if v.kind=0 then false else if v.kind=1 then decide (0≤v.num) else if v.kind=4 then decide (1≤v.num) && decide (v.num≤5) else true) && decide (valE v=0)
def oneR (r:Rct):Bool:=decide (r.c1=r.c2) && decide (r.r1=r.r2)
def kindOk (n:Nd):Bool:=
 if n.kind=1 then litOk n.v
 else if n.kind=2∨n.kind=3 then decide (rectE n.rect=0) && (oneR n.rect==decide (n.kind=2))
 else if n.kind=4∨n.kind=5 then true
 else if n.kind=6 then decide (1≤n.op) && decide (n.op≤12)
 else if n.kind=7 then decide (0≤n.n)
 else false
def eqV (a b:Vl):Bool:=decide (a.kind=b.kind) && (decide (a.num=b.num) && decide (a.text=b.text))
def eqR (a b:Rct):Bool:=decide (a.c1=b.c1) && (decide (a.r1=b.r1) && (decide (a.c2=b.c2) && decide (a.r2=b.r2)))
def eqN (a b:Nd):Bool:=decide (a.kind=b.kind) && (eqV a.v b.v && (eqR a.rect b.rect && (decide (a.op=b.op) && (decide (a.fn=b.fn) && decide (a.n=b.n)))))
theorem eqR_iff {a b:Rct}:eqR a b=true↔a=b:=by
 obtain ⟨a1,a2,a3,a4⟩:=a
 obtain ⟨b1,b2,b3,b4⟩:=b
 simp [eqR]
theorem beqI (a b:Int):(a==b)=decide (a=b):=by rw [Bool.eq_iff_iff];simp
def fieldsE (n:Nd):Int:=
 if kindOk n=false∨eqN n (want n)=false then 2
 else if n.kind≠7 then 0
 else if (arity n.fn).2.2≠0 then (arity n.fn).2.2
 else if n.n<(arity n.fn).1∨(arity n.fn).2.1<n.n then 11
 else 0
structure Pt where
 root:Nat
 depth:Nat
 wide:Bool
def encP (p:Pt):List Value:= [.int .i64 (p.root:Int),.int .i64 (p.depth:Int),.bool p.wide]
theorem encN_len (n:Nd):(encN n).length=11:=rfl
theorem encP_len (p:Pt):(encP p).length=3:=rfl
def kindAt (L:List Nd) (i:Nat):Int:=((L[i]?).map Nd.kind).getD 0
def mayAt (n:Nd) (i:Int):Bool:=if n.kind=7 then (wideF n.fn i).1 else false
def fitOne (L:List Nd) (n:Nd) (i:Int) (p:Pt):Bool:=
 !(p.wide && !mayAt n i) && !(decide (n.kind=7) && releasedF n.fn && decide (kindAt L p.root≠2) && decide (kindAt L p.root≠3))
def fitsFrom (L:List Nd) (n:Nd):Int→List Pt→Bool
 |_,[]=>true
 |i,p::r=>fitOne L n i p && fitsFrom L n (i+1) r
def topOf (st:List Pt) (k:Nat):List Pt:=st.drop (st.length - k)
def depthOf (top:List Pt):Nat:=top.foldl (fun d p=>max d (p.depth+1)) 1
def stepT (L:List Nd) (n:Nd) (i:Nat) (st:List Pt):Int ⊕ (List Pt × List Nat × Nat):=
 if fieldsE n≠0 then .inl (fieldsE n)
 else if (st.length:Int)<below n∨fitsFrom L n 0 (topOf st (below n).toNat)=false then .inl 4
 else if 32<depthOf (topOf st (below n).toNat) then .inl 9
 else .inr (st.take (st.length - (below n).toNat)++ [⟨i,depthOf (topOf st (below n).toNat),decide (n.kind=3)⟩],(topOf st (below n).toNat).map Pt.root,depthOf (topOf st (below n).toNat))
abbrev Visit:=List Nat × Nat
def walkT (L:List Nd):List Nd→Nat→List Pt→List Visit→Int × List Visit
 | [],_,st,vs=>(if st.length=1 then 0 else 4,vs)
 |n::r,i,st,vs=>match stepT L n i st with
  | .inl e=>(e,vs)
  | .inr (st',kids,d)=>walkT L r (i+1) st' (vs++ [(kids,d)])
def ints (b:ByteArray):List Int:=b.data.toList.map fun c=>(c.toNat:Int)
theorem ints_length (b:ByteArray):(ints b).length=b.size:=by simp [ints]
theorem ints_get (b:ByteArray) (i:Nat) (h:i<b.size):(ints b)[i]'(by rw [ints_length];exact h)=(b[i].toNat:Int):=by
 simp [ints];rfl
instance:DecidableEq Rct:=fun a b=>decidable_of_iff (eqR a b=true) eqR_iff
theorem eqR_dec (a b:Rct):eqR a b=decide (a=b):=by rw [Bool.eq_iff_iff,eqR_iff];simp
structure Rf where
 col:Int
 row:Int
def encF (a:Rf):List Value:= [.int .i64 a.col,.int .i64 a.row]
def eqF (a b:Rf):Bool:=decide (a.col=b.col) && decide (a.row=b.row)
theorem eqF_iff {a b:Rf}:eqF a b=true↔a=b:=by
 obtain ⟨a1,a2⟩:=a
 obtain ⟨b1,b2⟩:=b
 simp [eqF]
instance:DecidableEq Rf:=fun a b=>decidable_of_iff (eqF a b=true) eqF_iff
theorem eqF_dec (a b:Rf):eqF a b=decide (a=b):=by rw [Bool.eq_iff_iff,eqF_iff];simp
def Rf.valid (a:Rf):Bool:=Go.SL.valid a.col a.row
structure Us where
 rect:Rct
 node:Int
 fn:Int
def encU (u:Us):List Value:= [.int .i64 u.rect.c1,.int .i64 u.rect.r1,.int .i64 u.rect.c2,.int .i64 u.rect.r2,.int .i64 u.node,.int .u8 u.fn]
structure Tk where
 kind:Int
 num:Int
 text:ByteArray
 rect:Rct
 at_:Int
def encTk (t:Tk):List Value:= [.int .u8 t.kind,.int .i64 t.num,.string t.text,.int .i64 t.rect.c1,.int .i64 t.rect.r1,.int .i64 t.rect.c2,.int .i64 t.rect.r2,.int .i64 t.at_]
theorem encTk_len (t:Tk):(encTk t).length=8:=rfl
def zeroTk:Tk:=⟨0,0,emptyB,⟨0,0,0,0⟩,0⟩
def digC (c:Int):Bool:=decide (48≤c) && decide (c≤57)
def letC (c:Int):Bool:=(decide (65≤c) && decide (c≤90))||(decide (97≤c) && decide (c≤122))
def wrdC (c:Int):Bool:=letC c||digC c
def upC (c:Int):Int:=if 97≤c∧c≤122 then c - 32 else c
def runL (p:Int→Bool):List Int→Nat
 | []=>0
 |c::r=>if p c then runL p r+1 else 0
def natOf:List Int→Int→Int
 | [],v=>v
 |c::r,v=>natOf r (10*v+(c - 48))
def mostI:Int:=9223372036854775807
def mkB (l:List Int):ByteArray:=⟨(l.map fun n=>UInt8.ofNat n.toNat).toArray⟩
def placesL (l:List Int):Nat:=match l with
 |46::r=>runL digC r
 |_=>0
def lettersL:List Int→Int→Int
 | [],v=>v
 |c::r,v=>lettersL r (min (26*v+(upC c - 64)) 1025)
def rowL:List Int→Int→Int
 | [],v=>v
 |c::r,v=>rowL r (min (10*v+(c - 48)) 1025)
def addrL (l:List Int):Int × Int × Int:=
 let a:=l.takeWhile letC
 let d:=l.dropWhile letC
 if a= []∨d= []∨d.head? =some 48∨d.all digC=false then (0,0,4)
 else if 1024<lettersL a 0∨1024<rowL d 0 then (0,0,3)
 else (lettersL a 0,rowL d 0,0)
def oneA (c r:Int):Rct:=⟨c,r,c,r⟩
def errNames:List (List Int):= [[35,68,73,86,47,48,33],[35,86,65,76,85,69,33],[35,78,85,77,33],[35,78,47,65],[35,82,69,70,33]]
def failL (l:List Int):List (List Int)→Int→Option (Int × Nat)
 | [],_=>none
 |s::r,code=>if (l.take s.length).map upC=s then some (code,s.length) else failL l r (code+1)
def opNames:List (List Int × Int):= [([60,62],8),([60,61],10),([62,61],12),([43],1),([45],2),([42],3),([47],4),([94],5),([38],6),([61],7),([60],9),([62],11),([37],13)]
def opL (l:List Int):List (List Int × Int)→Option (Int × Nat)
 | []=>none
 |(s,k)::r=>if l.take s.length=s then some (k,s.length) else opL l r
def plainC (c:Int):Bool:=decide (32≤c) && decide (c≤126)
theorem ints_extract (b:ByteArray) (i j:Nat):ints (b.extract i j)=((ints b).drop i).take (j - i):=by
 simp only [ints,ByteArray.data_extract,Array.toList_extract,List.extract_eq_take_drop,List.map_take,List.map_drop]
def bytesOk (l:List Int):Prop:= ∀ c∈l,0≤c∧c<256
theorem ints_ok (b:ByteArray):bytesOk (ints b):=by
 intro c hc
 simp only [ints,List.mem_map] at hc
 obtain ⟨u,_,rfl⟩:=hc
 have:=u.toNat_lt
 omega
theorem ints_mkB {l:List Int} (h:bytesOk l):ints (mkB l)=l:=by
 simp only [ints,mkB,List.map_map]
 conv=>rhs;rw [← List.map_id l]
 apply List.map_congr_left
 intro c hc
 have:=h c hc
 simp only [Function.comp,id_eq,UInt8.toNat_ofNat']
 omega
theorem mkB_ints (b:ByteArray):mkB (ints b)=b:=by
 apply ByteArray.ext
 apply Array.ext'
 simp only [mkB,ints,List.map_map]
 conv=>rhs;rw [← List.map_id b.data.toList]
 apply List.map_congr_left
 intro c _
 simp [Function.comp]
theorem ints_inj {a b:ByteArray} (h:ints a=ints b):a=b:=by rw [← mkB_ints a,← mkB_ints b,h]
theorem runL_le (p:Int→Bool): ∀ l,runL p l≤l.length
 | []=>Nat.le_refl _
 |c::r=>by
  simp only [runL]
  split
  ·
   have:=runL_le p r;simp;omega
  ·
   exact Nat.zero_le _
theorem runL_all {p:Int→Bool}: ∀ (l:List Int) (i:Nat) (c:Int),i<runL p l→l[i]? =some c→p c=true
 | [],i,c,h,_=>by simp [runL] at h
 |a::r,i,c,h,hc=>by
  simp only [runL] at h
  split at h
  ·
   rename_i ha
   cases i with
   |zero=>simp at hc;subst hc;exact ha
   |succ i=>exact runL_all r i c (by omega) (by simpa using hc)
  ·
   omega
end Go.SL
namespace Go.SL
open Go Go.RowKit
def bat (a:ByteArray) (i:Nat):Int:=(ints a).getD i 0
def sub (a:ByteArray) (lo hi:Nat):ByteArray:=a.extract lo hi
theorem ints_sub (a:ByteArray) (lo hi:Nat):ints (sub a lo hi)=((ints a).drop lo).take (hi - lo):=ints_extract a lo hi
theorem sub_size (a:ByteArray) {lo hi:Nat} (h:hi≤a.size):(sub a lo hi).size=hi - lo:=by simp [sub];omega
theorem ints_from (a:ByteArray) (lo:Nat):ints (sub a lo a.size)=(ints a).drop lo:=by
 rw [ints_sub,List.take_of_length_le]
 simp [ints_length]
theorem ints_to (a:ByteArray) (hi:Nat):ints (sub a 0 hi)=(ints a).take hi:=by
 rw [ints_sub,List.drop_zero,Nat.sub_zero]
theorem bat_get {a:ByteArray} {i:Nat} (h:i<a.size):(ints a)[i]? =some (bat a i):=by
 have hl:i<(ints a).length:=by rw [ints_length];exact h
 rw [bat,List.getD_eq_getElem?_getD,List.getElem?_eq_getElem hl]
 rfl
theorem bat_ok (a:ByteArray) (i:Nat):0≤bat a i∧bat a i<256:=by
 rw [bat,List.getD_eq_getElem?_getD]
 cases h:(ints a)[i]? with
 |none=>simp
 |some c=>exact ints_ok a c (List.mem_of_getElem? h)
theorem bat_drop {a:ByteArray} {i:Nat} (h:i<a.size):(ints a).drop i=bat a i::(ints a).drop (i+1):=by
 have hl:i<(ints a).length:=by rw [ints_length];exact h
 rw [List.drop_eq_getElem_cons hl]
 have:=bat_get h
 rw [List.getElem?_eq_getElem hl] at this
 rw [Option.some.inj this]
theorem ints_empty:ints emptyB= []:=rfl
theorem ints_nil {a:ByteArray}:ints a= []↔a=emptyB:=⟨fun h=>ints_inj (h.trans ints_empty.symm),fun h=>by rw [h];rfl⟩
theorem ints_append (a b:ByteArray):ints (a++b)=ints a++ints b:=by simp [ints]
section
variable {P:Program} {n:Fr} {w0:World} {Q:Post} {s:Slots} {H:List Blk} {l rest:List Oper} {ty:TypeId} {p:String} {af:Array Edge}
theorem v_idx {x ix:Operand} {t j:Nat} {a:ByteArray} {k:IntKind} [ht:Und P t .string] (hx:ev s x=some (.string a)) (hi:ev s ix=some (.int k (j:Nat))) (hj:j<a.size):VOp P w0 s H (.index t x ix) ty (.int .u8 (bat a j)):=by
 have h:=v_index_str (P:=P) (w0:=w0) (H:=H) (ty:=ty) (t:=t) hx hi hj
 have e:((a[j]'hj).toNat:Int)=bat a j:=by
  have h1:=bat_get hj
  have h2:=ints_get a j hj
  rw [List.getElem?_eq_getElem (by rw [ints_length];exact hj),h2] at h1
  exact Option.some.inj h1
 rw [← e];exact h
theorem v_idx0 {x ix:Operand} {t:Nat} {a:ByteArray} {k:IntKind} [ht:Und P t .string] (hx:ev s x=some (.string a)) (hi:ev s ix=some (.int k 0)) (hj:0<a.size):VOp P w0 s H (.index t x ix) ty (.int .u8 (bat a 0)):=v_idx (j:=0) hx hi hj
theorem v_sub2 {t lo hi:Nat} {a:ByteArray} {x q r:Operand} {k k' :IntKind} [ht:Und P t .string] (hx:ev s x=some (.string a)) (hr:ev s r=some (.int k' (lo:Nat))) (hq:ev s q=some (.int k (hi:Nat))) (h:lo≤hi∧hi≤a.size):
  VOp P w0 s H (.slice t x (some r) (some q) none) ty (.string (sub a lo hi)):=v_cut2_str hx hr hq h.1 h.2
theorem v_sub1 {t lo:Nat} {a:ByteArray} {x r:Operand} {k' :IntKind} [ht:Und P t .string] (hx:ev s x=some (.string a)) (hr:ev s r=some (.int k' (lo:Nat))) (h1:lo≤a.size):
  VOp P w0 s H (.slice t x (some r) none none) ty (.string (sub a lo a.size)):=v_from_str hx hr h1
theorem v_sub11 {t:Nat} {a:ByteArray} {x r:Operand} {k' :IntKind} [ht:Und P t .string] (hx:ev s x=some (.string a)) (hr:ev s r=some (.int k' 1)) (h1:1≤a.size):
  VOp P w0 s H (.slice t x (some r) none none) ty (.string (sub a 1 a.size)):=v_from_str (lo:=1) hx hr h1
theorem v_sub0 {t hi:Nat} {a:ByteArray} {x q:Operand} {k:IntKind} [ht:Und P t .string] (hx:ev s x=some (.string a)) (hq:ev s q=some (.int k (hi:Nat))) (h2:hi≤a.size):
  VOp P w0 s H (.slice t x none (some q) none) ty (.string (sub a 0 hi)):=v_cut_str hx hq h2
theorem v_adds_to {x y:Operand} {a b c:ByteArray} {t t' :TypeId} (hx:ev s x=some (.string a)) (hy:ev s y=some (.string b)) (e:a++b=c) (h:a.size+b.size≤1000000000):VOp P w0 s H (.binOp .add t x y t') ty (.string c):=e ▸ v_adds hx hy (by simp only [maxLen];omega)
theorem v_mulw {x y:Operand} {k:IntKind} {a b:Int} {t t' :TypeId} (hx:ev s x=some (.int k a)) (hy:ev s y=some (.int k b)):VOp P w0 s H (.binOp .mul t x y t') ty (.int k (k.wrap (a*b))):=fun ρ w _ _ _ _ hρ _=>by
 simp [execOp,hρ x _ hx,hρ y _ hy,eqGuard,binOp,Op.intArith]
theorem v_conv_to {x:Operand} {k k' :IntKind} {a c:Int} {t t' :TypeId} {d:TypeDesc} [hs:Und P t d] [hd:Und P t' (.int k')] (hx:ev s x=some (.int k a)) (hw:k'.wrap a=c):VOp P w0 s H (.convert t t' x) ty (.int k' c):=hw ▸ v_conv hx
theorem v_nilCheck {x:Operand} {A:Addr} (hx:ev s x=some (.pointer (some A))):VOp P w0 s H (.nilCheck x) ty (.pointer (some A)):=fun ρ w _ _ _ _ hρ _=>by
 simp [execOp,hρ x _ hx]
theorem w_cutR {ι:Type} {id:Nat} {ops:Array Oper} {d:Bool} {y z:Code} (sI:ι→Slots) (HI:ι→List Blk) (ok:ι→Prop) (h:W P n w0 (.seq (.region id ops d) y) (cutP sI HI ok Q) s H) (k: ∀ i,ok i→W P n w0 z Q (sI i) (HI i)):
  W P n w0 (.seq (.region id ops d) y) (thn (W P n w0 z Q) Q) s H:=
 w_cut' _ _ _ h k
theorem w_cutG {ι:Type} {id:Nat} {ops:Array Oper} {d:Bool} {z:Code} (sI:ι→Slots) (HI:ι→List Blk) (ok:ι→Prop) (h:W P n w0 (.region id ops d) (cutP sI HI ok Q) s H) (k: ∀ i,ok i→W P n w0 z Q (sI i) (HI i)):
  W P n w0 (.region id ops d) (thn (W P n w0 z Q) Q) s H:=
 w_cut' _ _ _ h k
theorem w_cutRK {ι:Type} {sb:Slots} {id:Nat} {ops:Array Oper} {d:Bool} {y z:Code} (ts:List Nat) (hk:keep s ts=some sb) (sI:ι→Slots) (HI:ι→List Blk) (ok:ι→Prop) (h:W P n w0 (.seq (.region id ops d) y) (cutP (fun i=>sI i++sb) HI ok Q) s H) (k: ∀ i,ok i→W P n w0 z Q (sI i++sb) (HI i)):
  W P n w0 (.seq (.region id ops d) y) (thn (W P n w0 z Q) Q) s H:=
 w_cut' _ _ _ h k
end
section
variable {P:Program} {n:Fr} {w0:World} {Q:Post} {K:Slots→Prop} {s:Slots} {H H1:List Blk} {l rest:List Oper} {k j f:Nat} {ty:TypeId} {p:String} {af:Array Edge}
theorem wg_lput_box {t T g off m:Nat} {x a:Operand} {v:Value} {vs xs:List Value} {R:List Blk} [Size P t m] (ha:ev s a=some (.pointer (some ⟨g,off,none⟩))) (hx:ev s x=some v)
  (hsel:Sel (.box g T xs) H R) (hv:v.cells=vs.toArray) (hl:vs.length=m) (h1:vs.all Value.oneCell' =true) (hfit:off+m≤xs.length)
  (hnew:MSub H1 (.box g T (xs.take off++vs++xs.drop (off+m))::R)) (h:WG P n w0 l (fun D=>if D k then H1 else H) K rest (k+1) s):
  WG P n w0 l (fun D=>if D k then H1 else H) K (⟨none,.store t a x,ty,p,af,none⟩::rest) k s:=by
 refine wg_heap (fun D ht a' w hs hm=> ?_) h
 have e1:D k=false:=ht.not
 have e2:put D k k=true:=by simp [put]
 simp only [e1,Bool.false_eq_true,if_false] at hm
 simp only [e2,if_true]
 have hm' :=hm.sel hsel
 have hb:=(hm'.on _ List.mem_cons_self).1
 simp only [Blk.on] at hb
 have h1' : ∀ u∈vs,u.oneCell' =true:=by simpa using h1
 have hr:=run_storeVar (P:=P) (t:=t) (off:=off) hv hl h1' hb (by simpa using hfit)
 simp only at hr
 refine ⟨_,?_,hnew.use (hm'.upd (setRow_grown _ _ _) (b' := .box g T (xs.take off++vs++xs.drop (off+m))) (setRow_heap _ _ _ _ _ _ hb) fun k hk=> .inl hk)⟩
 simp [execOp,hs.eval a _ ha,hs.eval x _ hx,Instr.storeAt,Instr.sureAddr,hr]
theorem wg_lset_box {t T g off:Nat} {x a:Operand} {v:Value} {xs:List Value} {R:List Blk} [Size P t 1] (ha:ev s a=some (.pointer (some ⟨g,off,none⟩))) (hx:ev s x=some v)
  (hsel:Sel (.box g T xs) H R) (hv:v.oneCell' =true) (hfit:Nat.blt off xs.length=true)
  (hnew:MSub H1 (.box g T (xs.set off v)::R)) (h:WG P n w0 l (fun D=>if D k then H1 else H) K rest (k+1) s):
  WG P n w0 l (fun D=>if D k then H1 else H) K (⟨none,.store t a x,ty,p,af,none⟩::rest) k s:=by
 refine wg_lput_box (m:=1) ha hx hsel (vs:= [v]) (by cases v<;>first|rfl|cases hv) rfl (by simpa using hv) (by have:=Nat.blt_eq ▸ hfit;omega) ?_ h
 rw [take_set _ _ _ (Nat.blt_eq ▸ hfit)]
 exact hnew
theorem wg_lcallp {d:Nat} {f' :FuncId} {xs:List Operand} {vs:List Value} {v:Value} {ts:Array TypeId} [Callable P f'] (hn:Nat.blt d n.sz=true) (hr:reaches l f j k=true) (hne:Nat.beq j k=false) (hx:evs s xs=some vs)
  (hF: ∀ w,Mem w0 w H→Pure P f' vs w v) (h:WG P n w0 l (fun D=>if D j then H1 else H) K rest (k+1) ((d,v)::s)):
  WG P n w0 l (fun D=>if D j then H1 else H) K (⟨some d,.call { callee:= .value (.func f'),args:=xs.toArray,argTypes:=ts },ty,p,af,none⟩::rest) k s:=by
 refine wg_callp hn hx (fun D ht w hm=> ?_) (fun D=> ?_) h
 ·
  rw [ht.late hr] at hm
  exact hF w hm
 ·
  have:put D k j=D j:=by
   unfold put
   rw [if_neg]
   intro e
   subst e
   rw [Nat.beq_refl] at hne
   cases hne
  simp only [this]
end
section
variable {P:Program} {n:Fr} {w0:World} {Q:Post} {K:Slots→Prop} {s:Slots} {H:List Blk} {l rest:List Oper} {ty:TypeId} {p:String} {af:Array Edge}
theorem Ro.of_box {w:World} {g t:Nat} {xs:List Value} (hm:Mem w0 w H) (hi:In (.box g t xs) H):Ro w g 0 xs:=⟨Blk.key_lt (hm.on _ hi.mem).1 rfl,hm.cells_box hi⟩
theorem Ro.next {w w' :World} {H' :List Blk} {g o:Nat} {xs:List Value} (h:Ro w g o xs) (hm:Mem w w' H'):Ro w' g o xs:=Ro.of_ro hm h
theorem v_makeMeth {f:FuncId} {bs:List Operand} {vs:List Value} (hc:evs s bs=some vs):VOp P w0 s H (.makeFunc (.func f) bs.toArray #[]) ty (.func (.func f) vs.toArray #[]):=fun ρ w _ _ _ _ hρ _=>by
 have h: ∀ {xs:List Operand} {vs:List Value},evs s xs=some vs→xs.map ρ=vs:=by
  intro xs
  induction xs with
  |nil=>intro vs h;simp only [evs,Option.some.injEq] at h;simp [← h]
  |cons x r ih=>
   intro vs h
   simp only [evs] at h
   split at h
   ·
    rename_i v us hv hr
    simp only [Option.some.injEq] at h
    subst h
    simp [hρ x v hv,ih hr]
   ·
    cases h
 simp [execOp,Instr.makeFunc,← h hc]
theorem run_callM {ρ:Operand→Value} {w:World} {d:Option Tmp} {g:Option (Nat × Bool)} {f:FuncId} {c:Operand} {xs:List Operand} {vs bs:List Value} {ts:Array TypeId} [hf:Callable P f] (hc:ρ c= .func (.func f) bs.toArray #[]) (hx:xs.map ρ=vs):
  (execOp ρ ⟨d,.call { callee:= .value c,args:=xs.toArray,argTypes:=ts },ty,p,af,g⟩).run P w= .ok (.enter f (bs++vs).toArray) w:=by
 simp [execOp,resolve,hc,Deferred.ofValue,invoke,← hx,hf.out]
theorem wl_callm {d:Nat} {ops:Array Oper} {f:FuncId} {c:Operand} {xs:List Operand} {vs bs:List Value} {ts:Array TypeId} {R:Value→List Blk→Prop} (hn:Nat.blt d n.sz=true) (hc:ev s c=some (.func (.func f) bs.toArray #[])) (hfc:Callable P f) (hx:evs s xs=some vs)
  (hF:FnIn P f (bs++vs) w0 H R) (k: ∀ v H',R v H' →WL P n w0 ops rest Q ((d,v)::s) H'):
  WL P n w0 ops (⟨some d,.call { callee:= .value c,args:=xs.toArray,argTypes:=ts },ty,p,af,none⟩::rest) Q s H:=by
 intro a w hs hm
 refine wpList_plain rfl fun K hK=> ?_
 have hr:=run_callM (P:=P) (w:=w) (ρ:=a.eval) (d:=some d) (ty:=ty) (p:=p) (af:=af) (g:=none) (f:=f) (c:=c) (xs:=xs) (bs:=bs) (ts:=ts) (hs.eval c _ hc) (evs_map hs hx)
 simp only [Oper.wp,hr,Oper.upon]
 refine (hF w hm).mono ?_
 rintro e w' ⟨v,H',rfl,hm',hR⟩
 exact hK _ _ (k v H' hR _ _ (hs.put (Nat.blt_eq ▸ hn) _) hm')
theorem wl_callmp {d:Nat} {ops:Array Oper} {f:FuncId} {c:Operand} {xs:List Operand} {vs bs:List Value} {v:Value} {ts:Array TypeId} (hn:Nat.blt d n.sz=true) (hc:ev s c=some (.func (.func f) bs.toArray #[])) (hfc:Callable P f) (hx:evs s xs=some vs)
  (hF: ∀ w,Mem w0 w H→Pure P f (bs++vs) w v) (k:WL P n w0 ops rest Q ((d,v)::s) H):
  WL P n w0 ops (⟨some d,.call { callee:= .value c,args:=xs.toArray,argTypes:=ts },ty,p,af,none⟩::rest) Q s H:=
 wl_callm hn hc hfc hx (FnIn.of_at hF) fun u H' ⟨H1,h1,h2⟩=>by
  subst h1
  subst h2
  exact wl_msub ⟨H1,List.perm_append_comm⟩ k
theorem v_ofBytesO {x:Operand} {t u e T m c:Nat} {A:Option Nat} {ns:List Int} [hs:Und P t (.slice e)] [he:Und P e (.int .u8)] [hd:Und P u .string] (hx:ev s x=some (sl A m c)) (hi:In (.own A T 1 m c (ns.map (Value.int .u8))) H) (hl:ns.length=m):
  VOp P w0 s H (.convert t u x) ty (.string (mkB ns)):=fun ρ w _ _ _ _ hρ hm=>by
 have h3:ns.foldl (fun r n=>r.push (UInt8.ofNat n.toNat)) ByteArray.empty=mkB ns:=by
  have h4:=push_fold ns ByteArray.empty
  generalize ns.foldl (fun r n=>r.push (UInt8.ofNat n.toNat)) ByteArray.empty=b at h4 ⊢
  obtain ⟨⟨l⟩⟩:=b
  simp only at h4
  simp [h4,mkB]
 have h2:(Conv.bytesToString (.slice (A.map fun g=>(⟨g,0,none⟩:Addr)) m c)).run P w= .ok (.string (mkB ns)) w:=by
  cases A with
  |none=>
   obtain ⟨_,_,_,h4,_⟩:=(hm.on _ hi.mem).1
   subst h4
   have:ns= []:=List.length_eq_zero_iff.1 hl
   subst this
   rfl
  |some g=>
   have hc:=hm.cells_own hi
   have h1:=run_loadCells_list (P:=P) w ⟨g,0,none⟩ (ns.map (Value.int .u8)) (fun j v hv=>by rw [addr_add];exact hc j v hv)
   rw [List.length_map,hl] at h1
   have h2:=run_bytesToString (P:=P) w ⟨g,0,none⟩ m c ns h1
   rw [h3] at h2
   exact h2
 simp only [execOp,hρ x _ hx,sl,Sem.run_bind,run_convert_bytes_string w t u e _ _ _ hs.out he.out hd.out,h2,Result.andThen_ok,Sem.run_pure]
theorem np_cut {ι:Type} {sI:ι→Slots} {HI:ι→List Blk} {ok:ι→Prop} (h:NoPanic Q):NoPanic (cutP sI HI ok Q):=fun c s H hq=>h c s H hq
theorem wq_callvp {K:Slots→Prop} {d:Nat} {ops:Array Oper} {f:FuncId} {c:Operand} {xs:List Operand} {vs caps:List Value} {v:Value} {ts:Array TypeId} (hn:Nat.blt d n.sz=true) (hc:ev s c=some (.func (.func f) #[] caps.toArray)) (hfc:Callable P f) (hx:evs s xs=some vs)
  (hF: ∀ w,Mem w0 w H→Pure P f (vs++caps) w v) (k:WQ P n w0 ops rest K ((d,v)::s) H):
  WQ P n w0 ops (⟨some d,.call { callee:= .value c,args:=xs.toArray,argTypes:=ts },ty,p,af,none⟩::rest) K s H:=by
 intro a hs
 unfold wpQuiet
 simp only [Region.wanted,if_true]
 refine ⟨v,fun w hm=> ?_,k _ (hs.put (Nat.blt_eq ▸ hn) v)⟩
 unfold Oper.quietAt
 have hr:=run_call (P:=P) (w:=w) (ρ:=a.eval) (d:=some d) (ty:=ty) (p:=p) (af:=af) (g:=none) (f:=f) (c:=c) (xs:=xs) (caps:=caps) (ts:=ts) (hs.eval c _ hc) (evs_map hs hx)
 rw [hr]
 refine ⟨rfl,Calls.mono (hF w hm) ?_⟩
 rintro e w' ⟨u,H',rfl,hm',rfl⟩
 exact ⟨rfl,(hm.call hm').right⟩
theorem MSub.swap {H1 C:List Blk}:MSub (H1++C) (C++H1):=⟨[],by simpa using List.perm_append_comm⟩
theorem MSub.swapN {H1 C:List Blk}:MSub (H1++(C++ [])) (C++H1):=⟨[],by simpa using List.perm_append_comm⟩
theorem MSub.swapN' {H1 C:List Blk}:MSub (C++H1) (H1++(C++ [])):=⟨[],by simpa using List.perm_append_comm⟩
theorem w_cutRH {ι:Type} {sb:Slots} {id:Nat} {ops:Array Oper} {d:Bool} {y z:Code} (ts:List Nat) (hk:keep s ts=some sb) (sI:ι→Slots) (ok:ι→Prop) (h:W P n w0 (.seq (.region id ops d) y) (cutP (fun i=>sI i++sb) (fun _=>H) ok Q) s H) (k: ∀ i,ok i→W P n w0 z Q (sI i++sb) H):
  W P n w0 (.seq (.region id ops d) y) (thn (W P n w0 z Q) Q) s H:=
 w_cut' _ _ _ h k
theorem v_lens_to {x:Operand} {a:ByteArray} {m t:Nat} [ht:Und P t .string] (hx:ev s x=some (.string a)) (h:a.size=m):VOp P w0 s H (.call { callee:= .builtin .len,args:= #[x],argTypes:= #[t] }) ty (.int .i64 (m:Int)):=h ▸ v_lens hx
def scp (Q:Post):Post
 | .goto _,_,_=>False
 |e,s,H=>Q e s H
theorem w_scope {c:Code} (h:W P n w0 c (scp Q) s H):W P n w0 (.scope c) Q s H:=by
 intro a w hs hm
 refine wp_scope_straight (wp_mono (h a w hs hm) ?_)
 rintro e a' w' ⟨s',H',h1,h2,h3⟩
 cases e with
 |goto l=>exact h3.elim
 |_=>exact ⟨s',H',h1,h2,h3⟩
theorem w_label {i:Nat} (h:Q .normal s H):W P n w0 (.label i) Q s H:=fun _ _ hs hm=>wp_label ⟨s,H,hs,hm,h⟩
theorem scp_r (h:Q .ret s H):scp Q .ret s H:=h
end
section
variable {P:Program} {n:Fr} {w0:World} {Q:Post} {s:Slots} {H:List Blk} {l rest:List Oper} {ty:TypeId} {p:String} {af:Array Edge}
theorem wl_callmP {d:Nat} {ops:Array Oper} {f:FuncId} {c:Operand} {xs:List Operand} {vs bs:List Value} {ts:Array TypeId} {R D:Value→List Blk→Prop} (hn:Nat.blt d n.sz=true) (hc:ev s c=some (.func (.func f) bs.toArray #[])) (hfc:Callable P f) (hx:evs s xs=some vs)
  (hF:FnP P f (bs++vs) w0 H R D) (k: ∀ v H',R v H' →WL P n w0 ops rest Q ((d,v)::s) H') (kd: ∀ v H',D v H' →Q (.panic (chain1 v)) s H'):
  WL P n w0 ops (⟨some d,.call { callee:= .value c,args:=xs.toArray,argTypes:=ts },ty,p,af,none⟩::rest) Q s H:=by
 intro a w hs hm
 refine wpList_plain rfl fun K hK=> ?_
 have hr:=run_callM (P:=P) (w:=w) (ρ:=a.eval) (d:=some d) (ty:=ty) (p:=p) (af:=af) (g:=none) (f:=f) (c:=c) (xs:=xs) (bs:=bs) (ts:=ts) (hs.eval c _ hc) (evs_map hs hx)
 simp only [Oper.wp,hr,Oper.upon]
 refine (hF w hm).mono ?_
 rintro e w' (⟨v,H',rfl,hm',hR⟩|⟨v,H',rfl,hm',hD⟩)
 ·
  exact hK _ _ (k v H' hR _ _ (hs.put (Nat.blt_eq ▸ hn) _) hm')
 ·
  exact ⟨s,H',hs,hm',kd v H' hD⟩
theorem run_callG {ρ:Operand→Value} {w:World} {d:Option Tmp} {g:Option (Nat × Bool)} {f:FuncId} {c:Operand} {xs:List Operand} {vs bs caps:List Value} {ts:Array TypeId} (hf:Callable P f) (hc:ρ c= .func (.func f) bs.toArray caps.toArray) (hx:xs.map ρ=vs):
  (execOp ρ ⟨d,.call { callee:= .value c,args:=xs.toArray,argTypes:=ts },ty,p,af,g⟩).run P w= .ok (.enter f (bs++(vs++caps)).toArray) w:=by
 simp [execOp,resolve,hc,Deferred.ofValue,invoke,← hx,hf.out]
theorem wl_callgP {d:Nat} {ops:Array Oper} {f:FuncId} {c:Operand} {xs:List Operand} {vs bs caps:List Value} {ts:Array TypeId} {R D:Value→List Blk→Prop} (hn:Nat.blt d n.sz=true) (hc:ev s c=some (.func (.func f) bs.toArray caps.toArray)) (hfc:Callable P f) (hx:evs s xs=some vs)
  (hF:FnP P f (bs++(vs++caps)) w0 H R D) (k: ∀ v H',R v H' →WL P n w0 ops rest Q ((d,v)::s) H') (kd: ∀ v H',D v H' →Q (.panic (chain1 v)) s H'):
  WL P n w0 ops (⟨some d,.call { callee:= .value c,args:=xs.toArray,argTypes:=ts },ty,p,af,none⟩::rest) Q s H:=by
 intro a w hs hm
 refine wpList_plain rfl fun K hK=> ?_
 have hr:=run_callG (P:=P) (w:=w) (ρ:=a.eval) (d:=some d) (ty:=ty) (p:=p) (af:=af) (g:=none) (f:=f) (c:=c) (xs:=xs) (bs:=bs) (caps:=caps) (ts:=ts) hfc (hs.eval c _ hc) (evs_map hs hx)
 simp only [Oper.wp,hr,Oper.upon]
 refine (hF w hm).mono ?_
 rintro e w' (⟨v,H',rfl,hm',hR⟩|⟨v,H',rfl,hm',hD⟩)
 ·
  exact hK _ _ (k v H' hR _ _ (hs.put (Nat.blt_eq ▸ hn) _) hm')
 ·
  exact ⟨s,H',hs,hm',kd v H' hD⟩
class FldT (P:Program) (t f:Nat) (ft:outParam TypeId) (o:outParam Nat):Prop where
 out: ∃ fs fl,P.underlying t=some (.struct fs)∧fs[f]? =some fl∧fl.offset=o∧fl.type=ft
theorem v_field {x:Operand} {t f o:Nat} {ft:TypeId} {cs:List Value} {v:Value} [hf:FldT P t f ft o] [ho:One P ft] (hx:ev s x=some (.agg cs.toArray)) (hi:cs[o]? =some v):
  VOp P w0 s H (.field t x f) ty v:=fun ρ w _ _ _ _ hρ _=>by
 obtain ⟨fs,fl,h1,h2,rfl,rfl⟩:=hf.out
 obtain ⟨d,h5,h6⟩:=ho.out
 have hp:(part fl.type cs.toArray fl.offset).run P w= .ok v w:=by
  cases d<;>simp_all [part,isAgg,run_underlying h5]
 simp [execOp,hρ x _ hx,Instr.field,run_underlying h1,h2,asAgg,hp]
end
end Go.SL

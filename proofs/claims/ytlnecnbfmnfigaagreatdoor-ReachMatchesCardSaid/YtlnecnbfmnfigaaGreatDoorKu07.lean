/-
  Lemmas and walks, put together: Sl20 Md Md2 Lx Lx2 Sl21 Sl22.
-/
import Derived.Laws.IdiomRangeMap
import Derived.Laws.Pointers
import Derived.Test.YtlnecnbfmnfigaaGreatDoorKu06
set_option linter.unusedSimpArgs false
set_option linter.unusedVariables false
set_option maxRecDepth 20000
namespace Go.SL
open Go Go.RowKit
def gD {κ:Type} (enc:κ→Value) (e:κ × Value × Nat):MapEntry:={ key:=enc e.1,val:=e.2.1,born:=e.2.2 }
def cw {κ:Type} (enc:κ→Value) (es:List (κ × Value × Nat)) (clock:Nat):Obj:= .map (es.map (gD enc)).toArray clock
structure MapOk {κ:Type} (es:List (κ × Value × Nat)) (clock:Nat):Prop where
 born:(es.map fun e=>e.2.2).Nodup
 old: ∀ e∈es,e.2.2<clock
 keys:(es.map fun e=>e.1).Nodup
def l3 (g clock:Nat) (seen:List Nat):Obj:= .mapIter (some g) clock seen.toArray clock
def cA {κ:Type} [DecidableEq κ] (k:κ):List (κ × Value × Nat)→Nat→Option (Nat × Value)
 | [],_=>none
 |e::es,i=>if k=e.1 then some (i,e.2.1) else cA k es (i+1)
class KLaw (P:Program) (K:TypeId) {κ:Type} [DecidableEq κ] (enc:κ→Value):Prop where
 check: ∀ e k w,(Instr.checkKey e 10000 K (enc k)).run P w= .ok () w
 find: ∀ k (es:List (κ × Value × Nat)) w,(Instr.findKey K (enc k) (es.map (gD enc))).run P w= .ok (cA k es 0) w
 stays: ∀ k w,(Instr.keyThatStays (enc k) (enc k)).run P w= .ok (enc k) w
def kT {κ:Type} [DecidableEq κ] (k:κ) (v:Value) (clock:Nat) (es:List (κ × Value × Nat)):List (κ × Value × Nat) × Nat:=
 match cA k es 0 with
 |some (i,_)=>(es.modify i fun e=>(k,v,e.2.2),clock)
 |none=>(es++ [(k,v,clock)],clock+1)
def EU {κ:Type} [DecidableEq κ] (k:κ) (es:List (κ × Value × Nat)):List (κ × Value × Nat):=
 match cA k es 0 with
 |some (i,_)=>es.eraseIdx i
 |none=>es
theorem l6 {κ:Type} [DecidableEq κ] {k:κ}: ∀ {es:List (κ × Value × Nat)} {i j:Nat} {v:Value},cA k es i=some (j,v)→ ∃ b,i≤j∧es[j - i]? =some (k,v,b)
 | [],i,j,v,h=>by cases h
 |e::es,i,j,v,h=>by
  simp only [cA] at h
  split at h
  ·
   rename_i hk
   obtain ⟨rfl,rfl⟩:=Prod.mk.inj (Option.some.inj h)
   exact ⟨e.2.2,Ph _,by simp [hk]⟩
  ·
   obtain ⟨b,h1,h2⟩:=l6 h
   refine ⟨b,by omega,?_⟩
   rw [show j - i=(j - (i+1))+1 by omega,List.getElem?_cons_succ]
   exact h2
section
variable {P:Program} {n:Fr} {w0:World} {Q:cd} {s:aB} {H:List Blk} {l rest:List Oper} {ty:TypeId} {p:String} {af:Array Edge} {κ:Type} [DecidableEq κ] {enc:κ→Value}
theorem j9 {κ' :Type} {d t:Nat} {ops:Array Oper} (hn:Nat.blt d n.sz=true) (enc:κ' →Value)
  (k: ∀ g,WL P n w0 ops rest Q ((d,.map (some g))::s) (.obj g (cw enc [] 0)::H)):WL P n w0 ops (⟨some d,.makeMap t none,ty,p,af,none⟩::rest) Q s H:=by
 refine ng (B:=fun g=> .obj g (cw enc [] 0)) (v:=fun g=> .map (some g)) hn (fun st w hs hm=> ?_) k
 exact ⟨w.alloc (.map #[] 0),rfl,World.grownBy_alloc w _ none,heap_alloc_new w _,rfl⟩
theorem Mem.obj_at {w:World} {g:Nat} {o:Obj} (hm:Mem w0 w H) (hi:In (.obj g o) H):w.heap[g]? =some o:=(hm.on _ hi.mem).1
theorem BD {P:Program} {E:TypeId} {z:Value} [hz:Zero P E z] (w:World):(zeroValue E).run P w= .ok z w:=by
 obtain ⟨i,h1,h2⟩:=hz.out
 simp [zeroValue,typeInfo,h1,h2]
theorem cH {t K E g clock:Nat} {x ix:Operand} {k:κ} {es:List (κ × Value × Nat)} {z u:Value} [ht:Und P t (.map K E)] [hk:KLaw P K enc] [hz:Zero P E z] (hx:ev s x=some (.map (some g))) (hi:ev s ix=some (enc k)) (hin:In (.obj g (cw enc es clock)) H)
  (hu:(match cA k es 0 with|some (_,v)=>v|none=>z)=u):VOp P w0 s H (.lookup t x ix false) ty u:=fun ρ w _ _ _ _ hρ hm=>by
 have hb:=hm.obj_at hin
 have hf:=hk.find k es w
 have hc:=hk.check (es.map (gD enc)).toArray.isEmpty k w
 subst hu
 simp only [cw] at hb
 have hL:(Instr.lookup t (.map (some g)) (enc k) false).run P w= .ok (match cA k es 0 with|some (_,v)=>v|none=>z) w:=by
  simp only [Instr.lookup,Sem.run_bind,run_underlying ht.out,Result.andThen_ok,MapKept.run_getObj_map hb,hc,hf,Sem.run_pure]
  cases h:cA k es 0 with
  |none=>simp only [Sem.run_bind,BD w,Result.andThen_ok,Sem.run_pure,PH,if_false]
  |some r=>rfl
 simp only [execOp,hρ x _ hx,hρ ix _ hi,Sem.run_bind,hL,Result.andThen_ok,Sem.run_pure]
theorem uH {t K E g clock:Nat} {x ix:Operand} {k:κ} {es:List (κ × Value × Nat)} {z u:Value} [ht:Und P t (.map K E)] [hk:KLaw P K enc] [hz:Zero P E z] (hx:ev s x=some (.map (some g))) (hi:ev s ix=some (enc k)) (hin:In (.obj g (cw enc es clock)) H)
  (hu:(match cA k es 0 with|some (_,v)=>Value.tuple #[v,.bool true]|none=> .tuple #[z,.bool false])=u):VOp P w0 s H (.lookup t x ix true) ty u:=fun ρ w _ _ _ _ hρ hm=>by
 have hb:=hm.obj_at hin
 have hf:=hk.find k es w
 have hc:=hk.check (es.map (gD enc)).toArray.isEmpty k w
 subst hu
 simp only [cw] at hb
 have hL:(Instr.lookup t (.map (some g)) (enc k) true).run P w= .ok (match cA k es 0 with|some (_,v)=>Value.tuple #[v,.bool true]|none=> .tuple #[z,.bool false]) w:=by
  simp only [Instr.lookup,Sem.run_bind,run_underlying ht.out,Result.andThen_ok,MapKept.run_getObj_map hb,hc,hf,Sem.run_pure]
  cases h:cA k es 0 with
  |none=>simp only [Sem.run_bind,BD w,Result.andThen_ok,Sem.run_pure,if_true]
  |some r=>rfl
 simp only [execOp,hρ x _ hx,hρ ix _ hi,Sem.run_bind,hL,Result.andThen_ok,Sem.run_pure]
theorem mF (w:World) (g:Nat) (o:Obj):w.grownBy { w with heap:=w.heap.setIfInBounds g o } (some g):=
 ⟨rfl,rfl,rfl,by simp,fun k _ hk=>by
  have hne:g≠k:=fun e=>hk (by rw [← e])
  simp [QS hne]⟩
theorem rK {w:World} {g:Nat} {o o' :Obj} (h:w.heap[g]? =some o):(w.heap.setIfInBounds g o')[g]? =some o' :=by
 have:g<w.heap.size:=(PL.1 h).1
 simp [this]
theorem o3 {t K E g clock:Nat} {k:κ} {v:Value} {es:List (κ × Value × Nat)} {w:World} [ht:Und P t (.map K E)] [hk:KLaw P K enc] (hb:w.heap[g]? =some (cw enc es clock)):
  (Instr.mapUpdate t (.map (some g)) (enc k) v).run P w= .ok () { w with heap:=w.heap.setIfInBounds g (cw enc (kT k v clock es).1 (kT k v clock es).2) }:=by
 have hf:=hk.find k es w
 have hc:=hk.check false k w
 simp only [cw] at hb
 cases h:cA k es 0 with
 |none=>
  rw [h] at hf
  simp [Instr.mapUpdate,run_underlying ht.out,getObj,setObj,Sem.run,hb,hc,hf,Result.andThen,kT,h,cw,gD]
 |some r=>
  obtain ⟨i,u⟩:=r
  rw [h] at hf
  obtain ⟨b,_,hi⟩:=l6 h
  rw [Qz] at hi
  have hkey:(((es.map (gD enc)).toArray[i]?).map (·.key)).getD (enc k)=enc k:=by simp [hi,gD]
  have hst:=hk.stays k w
  have he:((es.map (gD enc)).toArray.modify i fun e=>{ e with key:=enc k,val:=v })=((es.modify i fun e=>(k,v,e.2.2)).map (gD enc)).toArray:=by
   apply Array.ext'
   simp only [Array.toList_modify]
   apply RE
   intro j
   simp only [Sx,Pw]
   cases es[j]? <;>simp [gD]<;>split<;>rfl
  simp only [Instr.mapUpdate,Sem.run_bind,run_underlying ht.out,Result.andThen_ok,getObj,setObj,Sem.run,hb,hc,hf,hkey,hst,he]
  simp [kT,h,cw]
theorem lM {t K E g clock:Nat} {m x kx:Operand} {k:κ} {v:Value} {es:List (κ × Value × Nat)} {R:List Blk} {ops:Array Oper} [ht:Und P t (.map K E)] [hk:KLaw P K enc] (hm:ev s m=some (.map (some g))) (hkx:ev s kx=some (enc k)) (hx:ev s x=some v) (hsel:Sel (.obj g (cw enc es clock)) H R)
  (h:WL P n w0 ops rest Q s (.obj g (cw enc (kT k v clock es).1 (kT k v clock es).2)::R)):WL P n w0 ops (⟨none,.mapUpdate t m kx x,ty,p,af,none⟩::rest) Q s H:=by
 refine qa (fun a w hs hmm=> ?_) h
 have hm' :=hmm.sel hsel
 have hb:=(hm'.on _ O7).1
 refine ⟨_,?_,hm'.upd (mF w g _) (b' := .obj g _) (rK hb) fun k hk=> .inl hk⟩
 simp [execOp,hs.eval m _ hm,hs.eval x _ hx,hs.eval kx _ hkx,o3 (P:=P) (t:=t) (K:=K) (E:=E) (k:=k) (v:=v) hb]
theorem Gz {t K E g clock:Nat} {m x kx:Operand} {k:κ} {v:Value} {es:List (κ × Value × Nat)} {R:List Blk} {ops:Array Oper} [ht:Und P t (.map K E)] [hk:KLaw P K enc] (hm:ev s m=some (.map (some g))) (hkx:ev s kx=some (enc k)) (hx:ev s x=some v) (hsel:Sel (.obj g (cw enc es clock)) H R)
  (h:WL P n w0 ops rest Q s (.obj g (cw enc (kT k v clock es).1 (kT k v clock es).2)::R)):WL P n w0 ops (⟨none,.insert t m kx x,ty,p,af,none⟩::rest) Q s H:=by
 refine qa (fun a w hs hmm=> ?_) h
 have hm' :=hmm.sel hsel
 have hb:=(hm'.on _ O7).1
 refine ⟨_,?_,hm'.upd (mF w g _) (b' := .obj g _) (rK hb) fun k hk=> .inl hk⟩
 simp [execOp,hs.eval m _ hm,hs.eval x _ hx,hs.eval kx _ hkx,o3 (P:=P) (t:=t) (K:=K) (E:=E) (k:=k) (v:=v) hb]
end
section
variable {P:Program} {n:Fr} {w0:World} {Q:cd} {s:aB} {H:List Blk} {l rest:List Oper} {ty:TypeId} {p:String} {af:Array Edge} {κ:Type} [DecidableEq κ] {enc:κ→Value}
theorem mN {α β:Type} (f:α→β): ∀ (l:List α) (i:Nat),(l.eraseIdx i).map f=(l.map f).eraseIdx i
 | [],_=>rfl
 |_::_,0=>rfl
 |a::l,i+1=>by simp only [List.eraseIdx_cons_succ,PB,mN f l i]
theorem Eg {t K E g clock:Nat} {ts:Array TypeId} {k:κ} {es:List (κ × Value × Nat)} {w:World} [ht:Und P t (.map K E)] [hk:KLaw P K enc] (hb:w.heap[g]? =some (cw enc es clock)) (h0:ts[0]? =some t):
  (Builtin.delete_ ts ty #[.map (some g),enc k]).run P w= .ok (.tuple #[]) { w with heap:=w.heap.setIfInBounds g (cw enc (EU k es) clock) }:=by
 have hf:=hk.find k es w
 have hc:=hk.check (es.map (gD enc)).toArray.isEmpty k w
 simp only [cw] at hb
 have e0:(#[Value.map (some g),enc k])[0]? =some (.map (some g)):=rfl
 have e1:(#[Value.map (some g),enc k])[1]? =some (enc k):=rfl
 simp only [Builtin.delete_,h0,e0,e1,Sem.run_bind,run_underlying ht.out,Result.andThen_ok,getObj,setObj,Sem.run,hb,Result.andThen,hc,hf]
 cases h:cA k es 0 with
 |none=>simp [EU,h,hb,cw,Sem.run,Sem.run_pure]
 |some r=>
  obtain ⟨i,u⟩:=r
  have he:(es.map (gD enc)).toArray.eraseIdxIfInBounds i=((es.eraseIdx i).map (gD enc)).toArray:=by
   apply Array.ext'
   rw [Array.toList_eraseIdxIfInBounds]
   simp only
   exact (mN _ _ _).symm
  simp [EU,h,hb,cw,Sem.run,Sem.run_pure,he]
theorem GD {t K E g clock:Nat} {ts:Array TypeId} {m kx:Operand} {k:κ} {es:List (κ × Value × Nat)} {R:List Blk} {ops:Array Oper} [ht:Und P t (.map K E)] [hk:KLaw P K enc] (h0:ts[0]? =some t) (hm:ev s m=some (.map (some g))) (hkx:ev s kx=some (enc k)) (hsel:Sel (.obj g (cw enc es clock)) H R)
  (h:WL P n w0 ops rest Q s (.obj g (cw enc (EU k es) clock)::R)):WL P n w0 ops (⟨none,.call { callee:= .builtin .delete,args:= #[m,kx],argTypes:=ts },ty,p,af,none⟩::rest) Q s H:=by
 intro a w hs hmm
 have hm' :=hmm.sel hsel
 have hb:=(hm'.on _ O7).1
 refine wpList_plain rfl fun K' hK=> ?_
 have hr:(execOp a.eval ⟨none,.call { callee:= .builtin .delete,args:= #[m,kx],argTypes:=ts },ty,p,af,none⟩).run P w= .ok (.value (.tuple #[])) { w with heap:=w.heap.setIfInBounds g (cw enc (EU k es) clock) }:=by
  have hd:=Eg (P:=P) (ty:=ty) (t:=t) (K:=K) (E:=E) (k:=k) (es:=es) (w:=w) (ts:=ts) hb h0
  simp [execOp,hs.eval m _ hm,hs.eval kx _ hkx,resolve,invoke,builtin,hd]
 simp only [Oper.wp,hr,Oper.upon]
 exact hK _ _ (h _ _ (hs.put_none _) (hm'.upd (mF w g _) (b' := .obj g _) (rK hb) fun k hk=> .inl hk))
theorem mz {κ' :Type} {enc:κ' →Value} {d t K E g clock:Nat} {x:Operand} {es:List (κ' × Value × Nat)} {ops:Array Oper} [ht:Und P t (.map K E)] (hn:Nat.blt d n.sz=true) (hx:ev s x=some (.map (some g))) (hin:In (.obj g (cw enc es clock)) H)
  (k: ∀ gi,WL P n w0 ops rest Q ((d,.pointer (some ⟨gi,0,none⟩))::s) (.obj gi (l3 g clock [])::H)):WL P n w0 ops (⟨some d,.range t x,ty,p,af,none⟩::rest) Q s H:=by
 refine ng (B:=fun gi=> .obj gi (l3 g clock [])) (v:=fun gi=> .pointer (some ⟨gi,0,none⟩)) hn (fun st w hs hm=> ?_) k
 have hb:=hm.obj_at hin
 refine ⟨w.alloc (.mapIter (some g) clock #[] clock),?_,World.grownBy_alloc w _ none,heap_alloc_new w _,rfl⟩
 simp only [execOp,hs.eval x _ hx,Sem.run_bind,run_range_map w t K E g _ clock ht.out hb,Result.andThen_ok,Sem.run_pure]
theorem m9 {κ' :Type} {enc:κ' →Value} {d g gi clock:Nat} {x:Operand} {es:List (κ' × Value × Nat)} {seen:List Nat} {R:List Blk} {ops:Array Oper} (hn:Nat.blt d n.sz=true) (hx:ev s x=some (.pointer (some ⟨gi,0,none⟩))) (hsel:Sel (.obj gi (l3 g clock seen)) H R) (hin:In (.obj g (cw enc es clock)) R) (hok:MapOk es clock)
  (k1: ∀ e∈es,e.2.2∉seen→WL P n w0 ops rest Q ((d,.tuple #[.bool true,enc e.1,e.2.1])::s) (.obj gi (l3 g clock (seen++ [e.2.2]))::R))
  (k2:(∀ e∈es,e.2.2∈seen)→WL P n w0 ops rest Q ((d,.tuple #[.bool false])::s) (.obj gi (l3 g clock seen)::R)):
  WL P n w0 ops (⟨some d,.next x false,ty,p,af,none⟩::rest) Q s H:=by
 intro st w hs hm
 have hm' :=hm.sel hsel
 have hbi:=(hm'.on _ O7).1
 have hb:=hm'.tail.obj_at hin
 simp only [Blk.on,l3] at hbi
 simp only [cw] at hb
 refine wpList_plain rfl fun K hK=> ?_
 have hold: ∀ y∈(es.map (gD enc)).toArray.toList,y.born<clock:=by
  intro y hy
  simp only [Py] at hy
  obtain ⟨e,he,rfl⟩:=hy
  exact hok.old e he
 have htest:=next_test_false seen.toArray (es.map (gD enc)).toArray clock clock hold (Ph _)
 have hleft: ∀ L:Array MapEntry,L=(es.map (gD enc)).toArray.filter (fun e=> !seen.toArray.contains e.born)→L.filter (fun y=>decide (y.born<clock))=L∧L.filter (fun y=>decide (y.born≥clock))= #[]:=by
  intro L hL
  have hmem: ∀ y∈L,y.born<clock:=fun y hy=>hold y (by subst hL;simp at hy ⊢;exact hy.1)
  refine ⟨Array.filter_eq_self.2 (fun y hy=>by simpa using hmem y hy),?_⟩
  rw [Array.filter_eq_empty_iff]
  intro y hy
  have:=hmem y hy
  simp;omega
 obtain ⟨e1,e2⟩:=hleft _ rfl
 generalize hLd:(es.map (gD enc)).toArray.filter (fun e=> !seen.toArray.contains e.born)=L at e1 e2
 by_cases h0:L.size=0
 ·
  have hL0:L= #[]:=Sr h0
  have hr:(Instr.next (.pointer (some ⟨gi,0,none⟩)) false ty).run P w= .ok (.tuple #[.bool false]) w:=by
   simp only [Instr.next,getObj,Sem.run_bind,Sem.run,hbi,hb,Result.andThen,htest,PH,if_false,hLd,e1,e2,Array.append_empty]
   subst hL0
   simp [choose,Sem.run,Question.forced]
  unfold Oper.wp execOp
  simp only [Sem.run_bind,hs.eval x _ hx,hr,Result.andThen_ok,Sem.run_pure,Oper.upon]
  refine hK _ _ (k2 (fun e he=> ?_) _ _ (hs.put (PW ▸ hn) _) hm')
  rw [hL0,Array.filter_eq_empty_iff] at hLd
  have:=hLd (gD enc e) (by simp;exact ⟨e.1,e.2.1,e.2.2,he,rfl⟩)
  simpa [gD] using this
 ·
  have hne:L.isEmpty=false:=by simp [Array.isEmpty,h0]
  have hch: ∃ (j:Nat) (w1:World),j<L.size∧(w1=w∨w1=w.drew)∧(choose (Question.mapNext L.size)).run P w= .ok j w1:=by
   by_cases hf:L.size≤1
   ·
    exact ⟨0,w,by omega,.inl rfl,by simp [choose,Sem.run,Question.forced,hf]⟩
   ·
    exact ⟨_,w.drew,Nat.mod_lt _ (by omega),.inr rfl,by
     simp only [choose,Sem.run,Question.forced,decide_eq_true_eq,hf,if_false,Question.cut]
     rfl⟩
  obtain ⟨j,w1,hj,hal,hrun⟩:=hch
  have hLj: ∀ y∈L,(∃ e∈es,gD enc e=y)∧(!seen.toArray.contains y.born)=true:=by
   intro y hy
   rw [← hLd,Array.mem_filter,List.mem_toArray,Py] at hy
   exact hy
  obtain ⟨⟨e,he,hej⟩,hns⟩:=hLj _ (Array.getElem_mem hj)
  have hb1:w1.heap=w.heap:=by rcases hal with rfl|rfl<;>rfl
  have hr:(Instr.next (.pointer (some ⟨gi,0,none⟩)) false ty).run P w= .ok (.tuple #[.bool true,enc e.1,e.2.1]) { w1 with heap:=w1.heap.setIfInBounds gi (.mapIter (some g) clock (seen++ [e.2.2]).toArray clock) }:=by
   simp only [Instr.next,getObj,Sem.run_bind,Sem.run,hbi,hb,Result.andThen,htest,PH,if_false,hLd,e1,e2,Array.append_empty,hne,Array.empty_append,Array.size_map,hrun,Array.getElem?_map,Array.getElem?_eq_getElem hj,Qb,setObj,hb1,← hej]
   simp [gD]
  unfold Oper.wp execOp
  simp only [Sem.run_bind,hs.eval x _ hx,hr,Result.andThen_ok,Sem.run_pure,Oper.upon]
  have hnot:e.2.2∉seen:=by
   have:gD enc e=L[j]:=hej
   rw [← this] at hns
   simpa [gD] using hns
  have hg1:w.grownBy { w1 with heap:=w1.heap.setIfInBounds gi (.mapIter (some g) clock (seen++ [e.2.2]).toArray clock) } (some gi):=by
   have hh: ∀ k:Nat,k≠gi→(w.heap.setIfInBounds gi (.mapIter (some g) clock (seen++ [e.2.2]).toArray clock))[k]? =w.heap[k]? :=fun k hk=>by
    rw [QS (Ne.symm hk)]
   rcases hal with rfl|rfl
   ·
    exact ⟨rfl,rfl,rfl,by simp,fun k _ hk=>hh k fun e=>hk (by rw [e])⟩
   ·
    exact ⟨rfl,rfl,rfl,by simp,fun k _ hk=>hh k fun e=>hk (by rw [e])⟩
  refine hK _ _ (k1 e he hnot _ _ (hs.put (PW ▸ hn) _) (hm'.upd hg1 (b' := .obj gi _) ?_ fun k hk=> .inl hk))
  simp only [Blk.on]
  have:gi<w.heap.size:=(PL.1 hbi).1
  simp [hb1,this,l3]
theorem zo {κ' :Type} {enc:κ' →Value} {g gi clock:Nat} {x:Operand} {es:List (κ' × Value × Nat)} {seen:List Nat} {e:κ' × Value × Nat} (hx:ev s x=some (.pointer (some ⟨gi,0,none⟩))) (hin:In (.obj gi (l3 g clock (seen++ [e.2.2]))) H) (hin2:In (.obj g (cw enc es clock)) H) (he:e∈es) (hok:MapOk es clock):
  VOp P w0 s H (.entry x) ty (.tuple #[enc e.1,e.2.1]):=fun ρ w _ _ _ _ hρ hm=>by
 have hbi:=hm.obj_at hin
 have hb:=hm.obj_at hin2
 simp only [l3] at hbi
 simp only [cw] at hb
 have hf:(es.map (gD enc)).toArray.find? (fun y=>y.born==e.2.2)=some (gD enc e):=by
  rw [← Array.find?_toList]
  exact find_born (gD enc e) (es.map (gD enc)) (by rw [QQ];exact hok.born) (Py.2 ⟨e,he,rfl⟩)
 have hbk:(seen++ [e.2.2]).toArray.back? =some e.2.2:=by simp
 have hr:(Instr.entry (.pointer (some ⟨gi,0,none⟩))).run P w= .ok (.tuple #[enc e.1,e.2.1]) w:=by
  simp only [Instr.entry,getObj,Sem.run_bind,Sem.run,hbi,hb,Result.andThen,hbk,bne_self_eq_false,PH,if_false,hf]
  rfl
 simp only [execOp,hρ x _ hx,Sem.run_bind,hr,Result.andThen_ok,Sem.run_pure]
end
structure Vis {κ:Type} (es vis:List (κ × Value × Nat)):Prop where
 nodup:(vis.map fun e=>e.2.2).Nodup
 sub: ∀ e∈vis,e∈es
theorem Vis.nil {κ:Type} (es:List (κ × Value × Nat)):Vis es []:=⟨RV,fun _ h=>by cases h⟩
theorem Vis.step {κ:Type} {es vis:List (κ × Value × Nat)} (h:Vis es vis) {e:κ × Value × Nat} (he:e∈es) (hn:e.2.2∉vis.map fun e=>e.2.2):Vis es (vis++ [e]):=by
 refine ⟨?_,fun x hx=> ?_⟩
 ·
  rw [P4,RM]
  exact ⟨h.nodup,by simp,fun a ha b hb=>by simp at hb;subst hb;exact fun e' =>hn (e' ▸ ha)⟩
 ·
  rcases Pz.1 hx with hx|hx
  ·
   exact h.sub x hx
  ·
   rw [Pv.1 hx];exact he
theorem lW {α:Type}: ∀ {l m:List α},l.Nodup→(∀ x∈l,x∈m)→l.length≤m.length
 | [],_,_,_=>Pb _
 |a::l,m,hn,hs=>by
  obtain ⟨s,t,rfl⟩:=List.append_of_mem (hs a O7)
  have h1:l.length≤(s++t).length:=lW (Se.1 hn).2 fun x hx=>by
   have hne:x≠a:=fun e=>(Se.1 hn).1 (e ▸ hx)
   have:=hs x (O9 _ hx)
   simp only [Pz,PF] at this ⊢
   rcases this with h|h|h
   ·
    exact .inl h
   ·
    exact absurd h hne
   ·
    exact .inr h
  simp only [Pe,O2] at h1 ⊢
  omega
theorem Vis.len {κ:Type} {es vis:List (κ × Value × Nat)} (h:Vis es vis):vis.length≤es.length:=by
 have:=lW h.nodup (m:=es.map fun e=>e.2.2) fun x hx=>by
  obtain ⟨e,he,rfl⟩:=Py.1 hx
  exact Py.2 ⟨e,h.sub e he,rfl⟩
 simpa using this
theorem Vis.lt {κ:Type} {es vis:List (κ × Value × Nat)} (h:Vis es vis) {e:κ × Value × Nat} (he:e∈es) (hn:e.2.2∉vis.map fun e=>e.2.2):vis.length<es.length:=by
 have h1:=(h.step he hn).len
 rw [O2] at h1
 exact h1
theorem jS {α β:Type} (f:α→β) {l:List α} (h:(l.map f).Nodup):l.Nodup:=by
 rw [List.Nodup,SH] at h
 exact h.imp fun h e=>h (congrArg f e)
theorem mT {α β:Type} (f:α→β): ∀ {l:List α},(l.map f).Nodup→ ∀ {x y:α},x∈l→y∈l→f x=f y→x=y
 |a::l,h,x,y,hx,hy,e=>by
  have h' :=Se.1 h
  rcases PF.1 hx with hx|hx<;>rcases PF.1 hy with hy|hy
  ·
   rw [hx,hy]
  ·
   exact absurd (Py.2 ⟨y,hy,by rw [← e,hx]⟩) h'.1
  ·
   exact absurd (Py.2 ⟨x,hx,by rw [e,hy]⟩) h'.1
  ·
   exact mT f h'.2 hx hy e
theorem Vis.mem {κ:Type} {es vis:List (κ × Value × Nat)} {clock:Nat} [DecidableEq κ] (h:Vis es vis) (hok:MapOk es clock) (hall: ∀ e∈es,e.2.2∈vis.map fun e=>e.2.2) (e:κ × Value × Nat):e∈vis↔e∈es:=by
 refine ⟨h.sub e,fun he=> ?_⟩
 obtain ⟨e',he',heq⟩:=Py.1 (hall e he)
 exact mT _ hok.born (h.sub e' he') he heq ▸ he'
theorem iX {α:Type}: ∀ {l m:List α},l.Nodup→m.Nodup→(∀ a,a∈l↔a∈m)→l.Perm m
 | [],m,_,_,h=>by
  cases m with
  |nil=>exact .refl _
  |cons b m=>exact absurd ((h b).2 O7) (by simp)
 |a::l,m,hl,hm,h=>by
  have ha:a∈m:=(h a).1 O7
  obtain ⟨s,t,rfl⟩:=List.append_of_mem ha
  have hl' :=Se.1 hl
  have hp:(s++a::t).Perm (a::(s++t)):=QG
  have hm2:=Se.1 (hp.nodup_iff.1 hm)
  refine (List.Perm.cons a (iX hl'.2 hm2.2 fun x=> ?_)).trans hp.symm
  have hx:=h x
  rw [hp.mem_iff,PF,PF] at hx
  constructor
  ·
   intro hxl
   rcases hx.1 (.inr hxl) with e|h1
   ·
    exact absurd (e ▸ hxl) hl'.1
   ·
    exact h1
  ·
   intro hxm
   rcases hx.2 (.inr hxm) with e|h1
   ·
    exact absurd (e ▸ hxm) hm2.1
   ·
    exact h1
theorem Vis.perm {κ:Type} [DecidableEq κ] {es vis:List (κ × Value × Nat)} {clock:Nat} (h:Vis es vis) (hok:MapOk es clock) (hall: ∀ e∈es,e.2.2∈vis.map fun e=>e.2.2):vis.Perm es:=
 iX (jS _ h.nodup) (jS _ hok.born) (h.mem hok hall)
theorem Ka {P:Program} {K:TypeId} {q:IntKind} [hK:Und P K (.int q)]:KLaw P K (fun z:Int=>Value.int q z):={
 check:=fun e k w=>by
  have h: ∀ m,(Instr.checkKey e (m+1) K (.int q k)).run P w= .ok () w:=fun m=>by simp only [Instr.checkKey,Sem.run_bind,run_underlying hK.out,Result.andThen_ok,Sem.run_pure]
  exact h 9999
 find:=fun k es w=>by
  have h: ∀ (es:List (Int × Value × Nat)) (i:Nat),Instr.findNow (.int q) (.int q k) (es.map (gD fun z:Int=>Value.int q z)) i=some (cA k es i):=by
   intro es
   induction es with
   |nil=>intro i;rfl
   |cons e es ih=>
    intro i
    have hb:(k==e.1)=decide (k=e.1):=by rw [PN];simp
    simp only [PB,Instr.findNow,gD,Instr.sameNow,if_true,cA,hb]
    by_cases hk:k=e.1
    ·
     simp [hk]
    ·
     simp only [decide_eq_false hk,hk,if_false]
     exact ih _
  simp only [Instr.findKey,Sem.run_bind,run_underlying hK.out,Result.andThen_ok,h,Sem.run_pure]
 stays:=fun k w=>by
  have h:Instr.sameBits 10000 (.int q k) (.int q k)=true:=by unfold Instr.sameBits;simp
  simp only [Instr.keyThatStays,h,if_true,Sem.run_pure] }
end Go.SL
namespace Go.SL
open Go
structure Rct where
 c1:Int
 r1:Int
 c2:Int
 r2:Int
structure Vl where
 kind:Int
 num:Int
 text:ByteArray
structure Nd where
 kind:Int
 v:Vl
 rect:Rct
 op:Int
 fn:Int
 n:Int
def aH (r:Rct):List Value:= [.int .i64 r.c1,.int .i64 r.r1,.int .i64 r.c2,.int .i64 r.r2]
def dN (v:Vl):List Value:= [.int .u8 v.kind,.int .i64 v.num,.string v.text]
def bg (n:Nd):List Value:=
 [.int .u8 n.kind,.int .u8 n.v.kind,.int .i64 n.v.num,.string n.v.text,.int .i64 n.rect.c1,.int .i64 n.rect.r1,.int .i64 n.rect.c2,.int .i64 n.rect.r2,.int .i64 n.op,.int .u8 n.fn,.int .i64 n.n]
def valid (c r:Int):Bool:=decide (1≤c) && decide (c≤1024) && decide (1≤r) && decide (r≤1024)
def bh (r:Rct):Bool:=valid r.c1 r.r1 && valid r.c2 r.r2 && decide (r.c1≤r.c2) && decide (r.r1≤r.r2)
def iL (r:Rct):Int:=bif bh r then 0 else 3
def nO (b:ByteArray):Bool:=b.data.toList.all fun c=>decide (32≤c.toNat) && decide (c.toNat≤126)
def jF (b:ByteArray):Int:=bif decide (256<b.size) then 5 else bif nO b then 0 else 4
def ay:ByteArray:=⟨#[]⟩
def uE (v:Vl):Bool:=
 bif decide (v.kind=0) then decide (v.num=0) && decide (v.text=ay)
 else bif decide (v.kind=1) then decide (v.text=ay) && decide (v.num≠ -9223372036854775808)
 else bif decide (v.kind=2) then decide (v.text=ay) && decide (v.num / 2=0)
 else bif decide (v.kind=3) then decide (v.num=0) && decide (jF v.text=0)
 else bif decide (v.kind=4) then decide (v.text=ay) && decide (1≤v.num) && decide (v.num≤6)
 else false
def pH (v:Vl):Int:=bif uE v then 0 else 2
def cW (fn:Int):Bool:=decide (1≤fn) && decide (fn≤50)
def iU (fn:Int):Bool:=decide (46≤fn) && decide (fn≤50)
def eG (fn:Int):Int × Int × Int:=
 if fn=5∨fn=6∨fn=7∨fn=25∨fn=39∨fn=40∨fn=18∨fn=19∨fn=45∨fn=44 then (2,2,0)
 else if fn=20∨fn=41∨fn=43 then (2,3,0)
 else if fn=32∨fn=33 then (1,2,0)
 else if fn=34 then (3,3,0)
 else if fn=21∨fn=22∨fn=23∨fn=38∨fn=9∨fn=10∨fn=11∨fn=12∨fn=14∨fn=15∨fn=16∨fn=17 then (1,16,0)
 else if fn=30 then (2,16,0)
 else if cW fn then (1,1,0) else (0,0,10)
def kf (fn i:Int):Bool × Int:=
 if (eG fn).2.2≠0 then (false,(eG fn).2.2)
 else if i<0∨(eG fn).2.1≤i then (false,3)
 else if fn=9∨fn=10∨fn=11∨fn=12∨fn=14∨fn=15∨fn=16∨fn=17 then (true,0)
 else if fn=44 then (decide (i=1),0)
 else if fn=18∨fn=19∨fn=45∨fn=43∨fn=13 then (decide (i=0),0)
 else (iU fn,0)
def below (n:Nd):Int:=
 if n.kind=4∨n.kind=5 then 1 else if n.kind=6 then 2 else if n.kind=7 then n.n else 0
def aW:Rct:=⟨0,0,0,0⟩
def bR:Vl:=⟨0,0,ay⟩
def cP (n:Nd):Nd:=
 if n.kind=1 then ⟨n.kind,n.v,aW,0,0,0⟩
 else if n.kind=2∨n.kind=3 then ⟨n.kind,bR,n.rect,0,0,0⟩
 else if n.kind=6 then ⟨n.kind,bR,aW,n.op,0,0⟩
 else if n.kind=7 then ⟨n.kind,bR,aW,0,n.fn,n.n⟩
 else ⟨n.kind,bR,aW,0,0,0⟩
def F6 (v:Vl):Bool:=
 (if v.kind=0 then false else if v.kind=1 then decide (0≤v.num) else if v.kind=4 then decide (1≤v.num) && decide (v.num≤5) else true) && decide (pH v=0)
def JQ (r:Rct):Bool:=decide (r.c1=r.c2) && decide (r.r1=r.r2)
def eL (n:Nd):Bool:=
 if n.kind=1 then F6 n.v
 else if n.kind=2∨n.kind=3 then decide (iL n.rect=0) && (JQ n.rect==decide (n.kind=2))
 else if n.kind=4∨n.kind=5 then true
 else if n.kind=6 then decide (1≤n.op) && decide (n.op≤12)
 else if n.kind=7 then decide (0≤n.n)
 else false
def eqV (a b:Vl):Bool:=decide (a.kind=b.kind) && (decide (a.num=b.num) && decide (a.text=b.text))
def eqR (a b:Rct):Bool:=decide (a.c1=b.c1) && (decide (a.r1=b.r1) && (decide (a.c2=b.c2) && decide (a.r2=b.r2)))
def eqN (a b:Nd):Bool:=decide (a.kind=b.kind) && (eqV a.v b.v && (eqR a.rect b.rect && (decide (a.op=b.op) && (decide (a.fn=b.fn) && decide (a.n=b.n)))))
theorem z1 {a b:Vl}:eqV a b=true↔a=b:=by
 obtain ⟨a1,a2,a3⟩:=a
 obtain ⟨b1,b2,b3⟩:=b
 simp [eqV]
theorem uj {a b:Rct}:eqR a b=true↔a=b:=by
 obtain ⟨a1,a2,a3,a4⟩:=a
 obtain ⟨b1,b2,b3,b4⟩:=b
 simp [eqR]
theorem Gd {a b:Nd}:eqN a b=true↔a=b:=by
 obtain ⟨a1,a2,a3,a4,a5,a6⟩:=a
 obtain ⟨b1,b2,b3,b4,b5,b6⟩:=b
 simp [eqN,z1,uj]
theorem Kv (a b:Int):(a==b)=decide (a=b):=by rw [PN];simp
def bF (n:Nd):Int:=
 if eL n=false∨eqN n (cP n)=false then 2
 else if n.kind≠7 then 0
 else if (eG n.fn).2.2≠0 then (eG n.fn).2.2
 else if n.n<(eG n.fn).1∨(eG n.fn).2.1<n.n then 11
 else 0
structure Pt where
 root:Nat
 depth:Nat
 wide:Bool
def rZ (p:Pt):List Value:= [.int .i64 (p.root:Int),.int .i64 (p.depth:Int),.bool p.wide]
theorem cE (n:Nd):(bg n).length=11:=rfl
theorem n9 (p:Pt):(rZ p).length=3:=rfl
def ja (L:List Nd) (i:Nat):Int:=((L[i]?).map Nd.kind).getD 0
def Cq (n:Nd) (i:Int):Bool:=if n.kind=7 then (kf n.fn i).1 else false
def rW (L:List Nd) (n:Nd) (i:Int) (p:Pt):Bool:=
 !(p.wide && !Cq n i) && !(decide (n.kind=7) && iU n.fn && decide (ja L p.root≠2) && decide (ja L p.root≠3))
def d9 (L:List Nd) (n:Nd):Int→List Pt→Bool
 |_,[]=>true
 |i,p::r=>rW L n i p && d9 L n (i+1) r
def bq (st:List Pt) (k:Nat):List Pt:=st.drop (st.length - k)
def cz (top:List Pt):Nat:=top.foldl (fun d p=>max d (p.depth+1)) 1
def js (L:List Nd) (n:Nd) (i:Nat) (st:List Pt):Int ⊕ (List Pt × List Nat × Nat):=
 if bF n≠0 then .inl (bF n)
 else if (st.length:Int)<below n∨d9 L n 0 (bq st (below n).toNat)=false then .inl 4
 else if 32<cz (bq st (below n).toNat) then .inl 9
 else .inr (st.take (st.length - (below n).toNat)++ [⟨i,cz (bq st (below n).toNat),decide (n.kind=3)⟩],(bq st (below n).toNat).map Pt.root,cz (bq st (below n).toNat))
abbrev mh:=List Nat × Nat
def eQ (L:List Nd):List Nd→Nat→List Pt→List mh→Int × List mh
 | [],_,st,vs=>(if st.length=1 then 0 else 4,vs)
 |n::r,i,st,vs=>match js L n i st with
  | .inl e=>(e,vs)
  | .inr (st',kids,d)=>eQ L r (i+1) st' (vs++ [(kids,d)])
def ap (b:ByteArray):List Int:=b.data.toList.map fun c=>(c.toNat:Int)
theorem au (b:ByteArray):(ap b).length=b.size:=by simp [ap]
theorem qL (b:ByteArray) (i:Nat) (h:i<b.size):(ap b)[i]'(by rw [au];exact h)=(b[i].toNat:Int):=by
 simp [ap];rfl
instance:DecidableEq Vl:=fun a b=>decidable_of_iff (eqV a b=true) z1
instance:DecidableEq Rct:=fun a b=>decidable_of_iff (eqR a b=true) uj
instance:DecidableEq Nd:=fun a b=>decidable_of_iff (eqN a b=true) Gd
theorem Gb (a b:Vl):eqV a b=decide (a=b):=by rw [PN,z1];simp
theorem z2 (a b:Rct):eqR a b=decide (a=b):=by rw [PN,uj];simp
theorem z6 (a b:Nd):eqN a b=decide (a=b):=by rw [PN,Gd];simp
structure Rf where
 col:Int
 row:Int
def aw (a:Rf):List Value:= [.int .i64 a.col,.int .i64 a.row]
theorem dO (a:Rf):(aw a).length=2:=rfl
def eqF (a b:Rf):Bool:=decide (a.col=b.col) && decide (a.row=b.row)
theorem Ge {a b:Rf}:eqF a b=true↔a=b:=by
 obtain ⟨a1,a2⟩:=a
 obtain ⟨b1,b2⟩:=b
 simp [eqF]
instance:DecidableEq Rf:=fun a b=>decidable_of_iff (eqF a b=true) Ge
theorem oP (a b:Rf):eqF a b=decide (a=b):=by rw [PN,Ge];simp
def Rf.valid (a:Rf):Bool:=Go.SL.valid a.col a.row
structure Us where
 rect:Rct
 node:Int
 fn:Int
def bQ (u:Us):List Value:= [.int .i64 u.rect.c1,.int .i64 u.rect.r1,.int .i64 u.rect.c2,.int .i64 u.rect.r2,.int .i64 u.node,.int .u8 u.fn]
theorem gG (u:Us):(bQ u).length=6:=rfl
def eqU (a b:Us):Bool:=eqR a.rect b.rect && (decide (a.node=b.node) && decide (a.fn=b.fn))
theorem Gc {a b:Us}:eqU a b=true↔a=b:=by
 obtain ⟨a1,a2,a3⟩:=a
 obtain ⟨b1,b2,b3⟩:=b
 simp [eqU,uj]
instance:DecidableEq Us:=fun a b=>decidable_of_iff (eqU a b=true) Gc
theorem Me (a b:Us):eqU a b=decide (a=b):=by rw [PN,Gc];simp
structure Tk where
 kind:Int
 num:Int
 text:ByteArray
 rect:Rct
 at_:Int
def bk (t:Tk):List Value:= [.int .u8 t.kind,.int .i64 t.num,.string t.text,.int .i64 t.rect.c1,.int .i64 t.rect.r1,.int .i64 t.rect.c2,.int .i64 t.rect.r2,.int .i64 t.at_]
theorem yF (t:Tk):(bk t).length=8:=rfl
def dq:Tk:=⟨0,0,ay,⟨0,0,0,0⟩,0⟩
def aJ (c:Int):Bool:=decide (48≤c) && decide (c≤57)
def cf (c:Int):Bool:=(decide (65≤c) && decide (c≤90))||(decide (97≤c) && decide (c≤122))
def da (c:Int):Bool:=cf c||aJ c
def upC (c:Int):Int:=if 97≤c∧c≤122 then c - 32 else c
def aI (p:Int→Bool):List Int→Nat
 | []=>0
 |c::r=>if p c then aI p r+1 else 0
def bJ:List Int→Int→Int
 | [],v=>v
 |c::r,v=>bJ r (10*v+(c - 48))
def cQ:Int:=9223372036854775807
def mkB (l:List Int):ByteArray:=⟨(l.map fun n=>UInt8.ofNat n.toNat).toArray⟩
def cv (l:List Int):Nat:=match l with
 |46::r=>aI aJ r
 |_=>0
def lj (l:List Int):Option (Int × Nat):=
 let w:=aI aJ l
 let p:=cv (l.drop w)
 if w=0∨4<p then none
 else
  let v:=bJ (l.take w++(l.drop (w+1)).take p++List.replicate (4 - p) 48) 0
  if cQ<v then none else some (v,if p=0 then w else w+1+p)
def lc:List Int→Option (List Int × Nat)
 | []=>none
 |c::r=>
  if c≠34 then (lc r).map fun x=>(c::x.1,x.2+1)
  else match r with
   | []=>some ([],1)
   |d::r' =>if d=34 then (lc r').map fun x=>(34::x.1,x.2+2) else some ([],1)
def bC:List Int→Int→Int
 | [],v=>v
 |c::r,v=>bC r (min (26*v+(upC c - 64)) 1025)
def m8:List Int→Int→Int
 | [],v=>v
 |c::r,v=>m8 r (min (10*v+(c - 48)) 1025)
def cF (l:List Int):Int × Int × Int:=
 let a:=l.takeWhile cf
 let d:=l.dropWhile cf
 if a= []∨d= []∨d.head? =some 48∨d.all aJ=false then (0,0,4)
 else if 1024<bC a 0∨1024<m8 d 0 then (0,0,3)
 else (bC a 0,m8 d 0,0)
def bB (c r:Int):Rct:=⟨c,r,c,r⟩
def ed:List (List Int):= [[35,68,73,86,47,48,33],[35,86,65,76,85,69,33],[35,78,85,77,33],[35,78,47,65],[35,82,69,70,33]]
def kN (l:List Int):List (List Int)→Int→Option (Int × Nat)
 | [],_=>none
 |s::r,code=>if (l.take s.length).map upC=s then some (code,s.length) else kN l r (code+1)
def fk:List (List Int × Int):= [([60,62],8),([60,61],10),([62,61],12),([43],1),([45],2),([42],3),([47],4),([94],5),([38],6),([61],7),([60],9),([62],11),([37],13)]
def opL (l:List Int):List (List Int × Int)→Option (Int × Nat)
 | []=>none
 |(s,k)::r=>if l.take s.length=s then some (k,s.length) else opL l r
def bL (c:Int):Bool:=decide (32≤c) && decide (c≤126)
theorem zQ (b:ByteArray) (i j:Nat):ap (b.extract i j)=((ap b).drop i).take (j - i):=by
 simp only [ap,ByteArray.data_extract,Array.toList_extract,List.extract_eq_take_drop,List.map_take,List.map_drop]
def iC (l:List Int):Prop:= ∀ c∈l,0≤c∧c<256
theorem mR (b:ByteArray):iC (ap b):=by
 intro c hc
 simp only [ap,Py] at hc
 obtain ⟨u,_,rfl⟩:=hc
 have:=u.toNat_lt
 omega
theorem nX {l:List Int} (h:iC l):ap (mkB l)=l:=by
 simp only [ap,mkB,QQ]
 conv=>rhs;rw [← List.map_id l]
 apply Qw
 intro c hc
 have:=h c hc
 simp only [Function.comp,id_eq,UInt8.toNat_ofNat']
 omega
theorem lY (b:ByteArray):mkB (ap b)=b:=by
 apply ByteArray.ext
 apply Array.ext'
 simp only [mkB,ap,QQ]
 conv=>rhs;rw [← List.map_id b.data.toList]
 apply Qw
 intro c _
 simp [Function.comp]
theorem wg {a b:ByteArray} (h:ap a=ap b):a=b:=by rw [← lY a,← lY b,h]
theorem JY {b:ByteArray} {l:List Int} (h:ap b=l):b=mkB l:=by rw [← h,lY]
theorem co (p:Int→Bool): ∀ l,aI p l≤l.length
 | []=>Ph _
 |c::r=>by
  simp only [aI]
  split
  ·
   have:=co p r;simp;omega
  ·
   exact Pb _
theorem qw {p:Int→Bool} {l:List Int} {i:Nat} (h:l.length≤i):aI p (l.drop i)=0:=by
 rw [PA h];rfl
theorem kw {p:Int→Bool}: ∀ (l:List Int) (i:Nat) (c:Int),i<aI p l→l[i]? =some c→p c=true
 | [],i,c,h,_=>by simp [aI] at h
 |a::r,i,c,h,hc=>by
  simp only [aI] at h
  split at h
  ·
   rename_i ha
   cases i with
   |zero=>simp at hc;subst hc;exact ha
   |succ i=>exact kw r i c (by omega) (by simpa using hc)
  ·
   omega
end Go.SL
namespace Go.SL
open Go Go.RowKit
def bat (a:ByteArray) (i:Nat):Int:=(ap a).getD i 0
def sub (a:ByteArray) (lo hi:Nat):ByteArray:=a.extract lo hi
theorem eF (a:ByteArray) (lo hi:Nat):ap (sub a lo hi)=((ap a).drop lo).take (hi - lo):=zQ a lo hi
theorem cD (a:ByteArray) {lo hi:Nat} (h:hi≤a.size):(sub a lo hi).size=hi - lo:=by simp [sub];omega
theorem oI (a:ByteArray) (lo:Nat):ap (sub a lo a.size)=(ap a).drop lo:=by
 rw [eF,PM]
 simp [au]
theorem ud (a:ByteArray) (hi:Nat):ap (sub a 0 hi)=(ap a).take hi:=by
 rw [eF,Qt,Qz]
theorem gK {a:ByteArray} {i:Nat} (h:i<a.size):(ap a)[i]? =some (bat a i):=by
 have hl:i<(ap a).length:=by rw [au];exact h
 rw [bat,PE,O5 hl]
 rfl
theorem sm (a:ByteArray) (i:Nat):0≤bat a i∧bat a i<256:=by
 rw [bat,PE]
 cases h:(ap a)[i]? with
 |none=>simp
 |some c=>exact mR a c (Qs h)
theorem bn {a:ByteArray} {i:Nat} (h:i<a.size):(ap a).drop i=bat a i::(ap a).drop (i+1):=by
 have hl:i<(ap a).length:=by rw [au];exact h
 rw [Pf hl]
 have:=gK h
 rw [O5 hl] at this
 rw [Option.some.inj this]
theorem wh:ap ay= []:=rfl
theorem Kd {a:ByteArray}:ap a= []↔a=ay:=⟨fun h=>wg (h.trans wh.symm),fun h=>by rw [h];rfl⟩
theorem gW (a b:ByteArray):ap (a++b)=ap a++ap b:=by simp [ap]
section
variable {P:Program} {n:Fr} {w0:World} {Q:cd} {s:aB} {H:List Blk} {l rest:List Oper} {ty:TypeId} {p:String} {af:Array Edge}
theorem ba {x ix:Operand} {t j:Nat} {a:ByteArray} {k:IntKind} [ht:Und P t .string] (hx:ev s x=some (.string a)) (hi:ev s ix=some (.int k (j:Nat))) (hj:j<a.size):VOp P w0 s H (.index t x ix) ty (.int .u8 (bat a j)):=by
 have h:=sx (P:=P) (w0:=w0) (H:=H) (ty:=ty) (t:=t) hx hi hj
 have e:((a[j]'hj).toNat:Int)=bat a j:=by
  have h1:=gK hj
  have h2:=qL a j hj
  rw [O5 (by rw [au];exact hj),h2] at h1
  exact Option.some.inj h1
 rw [← e];exact h
theorem Nh {x ix:Operand} {t:Nat} {a:ByteArray} {k:IntKind} [ht:Und P t .string] (hx:ev s x=some (.string a)) (hi:ev s ix=some (.int k 0)) (hj:0<a.size):VOp P w0 s H (.index t x ix) ty (.int .u8 (bat a 0)):=ba (j:=0) hx hi hj
theorem fW {t lo hi:Nat} {a:ByteArray} {x q r:Operand} {k k' :IntKind} [ht:Und P t .string] (hx:ev s x=some (.string a)) (hr:ev s r=some (.int k' (lo:Nat))) (hq:ev s q=some (.int k (hi:Nat))) (h:lo≤hi∧hi≤a.size):
  VOp P w0 s H (.slice t x (some r) (some q) none) ty (.string (sub a lo hi)):=DK hx hr hq h.1 h.2
theorem uF {t lo:Nat} {a:ByteArray} {x r:Operand} {k' :IntKind} [ht:Und P t .string] (hx:ev s x=some (.string a)) (hr:ev s r=some (.int k' (lo:Nat))) (h1:lo≤a.size):
  VOp P w0 s H (.slice t x (some r) none none) ty (.string (sub a lo a.size)):=uL hx hr h1
theorem Lb {t:Nat} {a:ByteArray} {x r:Operand} {k' :IntKind} [ht:Und P t .string] (hx:ev s x=some (.string a)) (hr:ev s r=some (.int k' 1)) (h1:1≤a.size):
  VOp P w0 s H (.slice t x (some r) none none) ty (.string (sub a 1 a.size)):=uL (lo:=1) hx hr h1
theorem DD {t hi:Nat} {a:ByteArray} {x q:Operand} {k:IntKind} [ht:Und P t .string] (hx:ev s x=some (.string a)) (hq:ev s q=some (.int k (hi:Nat))) (h2:hi≤a.size):
  VOp P w0 s H (.slice t x none (some q) none) ty (.string (sub a 0 hi)):=GP hx hq h2
theorem jW {x y:Operand} {a b c:ByteArray} {t t' :TypeId} (hx:ev s x=some (.string a)) (hy:ev s y=some (.string b)) (e:a++b=c) (h:a.size+b.size≤1000000000):VOp P w0 s H (.binOp .add t x y t') ty (.string c):=e ▸ Nl hx hy (by simp only [maxLen];omega)
theorem DF {x y:Operand} {k:IntKind} {a b:Int} {t t' :TypeId} (hx:ev s x=some (.int k a)) (hy:ev s y=some (.int k b)):VOp P w0 s H (.binOp .mul t x y t') ty (.int k (k.wrap (a*b))):=fun ρ w _ _ _ _ hρ _=>by
 simp [execOp,hρ x _ hx,hρ y _ hy,eqGuard,binOp,Op.intArith]
theorem cU {x:Operand} {k k' :IntKind} {a c:Int} {t t' :TypeId} {d:TypeDesc} [hs:Und P t d] [hd:Und P t' (.int k')] (hx:ev s x=some (.int k a)) (hw:k'.wrap a=c):VOp P w0 s H (.convert t t' x) ty (.int k' c):=hw ▸ DL hx
theorem dr {x:Operand} {A:Addr} (hx:ev s x=some (.pointer (some A))):VOp P w0 s H (.nilCheck x) ty (.pointer (some A)):=fun ρ w _ _ _ _ hρ _=>by
 simp [execOp,hρ x _ hx]
theorem vG {t e:TypeId} (h:P.underlying t=some (.pointer e)):P.underlying t=some (.pointer (P.pointee t)):=by
 rw [h];simp [Program.pointee,h]
theorem Lf {x:Operand} {A:Option Addr} {t e t' :TypeId} [ht:Und P t (.pointer e)] (hx:ev s x=some (.pointer A)):VOp P w0 s H (.binOp .eql t x (.const (.pointer none)) t') ty (.bool A.isNone):=fun ρ w _ _ _ _ hρ _=>by
 have hc:=hρ (.const (.pointer none)) _ rfl
 simp [execOp,hρ x _ hx,hc,eqGuard,run_eql_pointer_nil w t A (vG ht.out)]
theorem Ld {x:Operand} {A:Option Addr} {t e t' :TypeId} [ht:Und P t (.pointer e)] (hx:ev s x=some (.pointer A)):VOp P w0 s H (.binOp .neq t x (.const (.pointer none)) t') ty (.bool A.isSome):=fun ρ w _ _ _ _ hρ _=>by
 have hc:=hρ (.const (.pointer none)) _ rfl
 simp [execOp,hρ x _ hx,hc,eqGuard,run_neq_pointer_nil w t A (vG ht.out)]
theorem zk {ι:Type} {id:Nat} {ops:Array Oper} {d:Bool} {y z:Code} (sI:ι→aB) (HI:ι→List Blk) (ok:ι→Prop) (h:W P n w0 (.seq (.region id ops d) y) (bZ sI HI ok Q) s H) (k: ∀ i,ok i→W P n w0 z Q (sI i) (HI i)):
  W P n w0 (.seq (.region id ops d) y) (thn (W P n w0 z Q) Q) s H:=
 rv _ _ _ h k
theorem ru {ι:Type} {id:Nat} {ops:Array Oper} {d:Bool} {z:Code} (sI:ι→aB) (HI:ι→List Blk) (ok:ι→Prop) (h:W P n w0 (.region id ops d) (bZ sI HI ok Q) s H) (k: ∀ i,ok i→W P n w0 z Q (sI i) (HI i)):
  W P n w0 (.region id ops d) (thn (W P n w0 z Q) Q) s H:=
 rv _ _ _ h k
theorem FI {ι:Type} {sb:aB} {id:Nat} {ops:Array Oper} {d:Bool} {y z:Code} (ts:List Nat) (hk:CI s ts=some sb) (sI:ι→aB) (HI:ι→List Blk) (ok:ι→Prop) (h:W P n w0 (.seq (.region id ops d) y) (bZ (fun i=>sI i++sb) HI ok Q) s H) (k: ∀ i,ok i→W P n w0 z Q (sI i++sb) (HI i)):
  W P n w0 (.seq (.region id ops d) y) (thn (W P n w0 z Q) Q) s H:=
 rv _ _ _ h k
end
section
variable {P:Program} {n:Fr} {w0:World} {Q:cd} {K:aB→Prop} {s:aB} {H H1:List Blk} {l rest:List Oper} {k j f:Nat} {ty:TypeId} {p:String} {af:Array Edge}
theorem sv {t T g off m:Nat} {x a:Operand} {v:Value} {vs xs:List Value} {R:List Blk} [Size P t m] (ha:ev s a=some (.pointer (some ⟨g,off,none⟩))) (hx:ev s x=some v)
  (hsel:Sel (.box g T xs) H R) (hv:v.cells=vs.toArray) (hl:vs.length=m) (h1:vs.all Value.oneCell' =true) (hfit:off+m≤xs.length)
  (hnew:MSub H1 (.box g T (xs.take off++vs++xs.drop (off+m))::R)) (h:WG P n w0 l (fun D=>if D k then H1 else H) K rest (k+1) s):
  WG P n w0 l (fun D=>if D k then H1 else H) K (⟨none,.store t a x,ty,p,af,none⟩::rest) k s:=by
 refine zg (fun D ht a' w hs hm=> ?_) h
 have e1:D k=false:=ht.not
 have e2:put D k k=true:=by simp [put]
 simp only [e1,PH,if_false] at hm
 simp only [e2,if_true]
 have hm' :=hm.sel hsel
 have hb:=(hm'.on _ O7).1
 simp only [Blk.on] at hb
 have h1' : ∀ u∈vs,u.oneCell' =true:=by simpa using h1
 have hr:=fO (P:=P) (t:=t) (off:=off) hv hl h1' hb (by simpa using hfit)
 simp only at hr
 refine ⟨_,?_,hnew.use (hm'.upd (eJ _ _ _) (b' := .box g T (xs.take off++vs++xs.drop (off+m))) (setRow_heap _ _ _ _ _ _ hb) fun k hk=> .inl hk)⟩
 simp [execOp,hs.eval a _ ha,hs.eval x _ hx,Instr.storeAt,Instr.sureAddr,hr]
theorem su {t T g off:Nat} {x a:Operand} {v:Value} {xs:List Value} {R:List Blk} [Size P t 1] (ha:ev s a=some (.pointer (some ⟨g,off,none⟩))) (hx:ev s x=some v)
  (hsel:Sel (.box g T xs) H R) (hv:v.oneCell' =true) (hfit:Nat.blt off xs.length=true)
  (hnew:MSub H1 (.box g T (xs.set off v)::R)) (h:WG P n w0 l (fun D=>if D k then H1 else H) K rest (k+1) s):
  WG P n w0 l (fun D=>if D k then H1 else H) K (⟨none,.store t a x,ty,p,af,none⟩::rest) k s:=by
 refine sv (m:=1) ha hx hsel (vs:= [v]) (by cases v<;>first|rfl|cases hv) rfl (by simpa using hv) (by have:=PW ▸ hfit;omega) ?_ h
 rw [nI _ _ _ (PW ▸ hfit)]
 exact hnew
theorem xG {d:Nat} {f' :FuncId} {xs:List Operand} {vs:List Value} {v:Value} {ts:Array TypeId} [Callable P f'] (hn:Nat.blt d n.sz=true) (hr:reaches l f j k=true) (hne:Nat.beq j k=false) (hx:evs s xs=some vs)
  (hF: ∀ w,Mem w0 w H→aF P f' vs w v) (h:WG P n w0 l (fun D=>if D j then H1 else H) K rest (k+1) ((d,v)::s)):
  WG P n w0 l (fun D=>if D j then H1 else H) K (⟨some d,.call { callee:= .value (.func f'),args:=xs.toArray,argTypes:=ts },ty,p,af,none⟩::rest) k s:=by
 refine I0 hn hx (fun D ht w hm=> ?_) (fun D=> ?_) h
 ·
  rw [ht.late hr] at hm
  exact hF w hm
 ·
  have:put D k j=D j:=by
   unfold put
   rw [if_neg]
   intro e
   subst e
   rw [SK] at hne
   cases hne
  simp only [this]
end
end Go.SL

/-
  Lemmas and walks, put together: Sl20 E1.
-/
import Derived.Test.YtpoafcnhplbkmaaGreatDoorKs03
set_option linter.unusedSimpArgs false
set_option linter.unusedVariables false
set_option maxRecDepth 20000
namespace Go.SL
open Go Go.RowKit
def ib {κ:Type} (enc:κ→Value) (e:κ × Value × Nat):MapEntry:={ key:=enc e.1,val:=e.2.1,born:=e.2.2 }
def dw {κ:Type} (enc:κ→Value) (es:List (κ × Value × Nat)) (clock:Nat):Obj:= .map (es.map (ib enc)).toArray clock
structure MapOk {κ:Type} (es:List (κ × Value × Nat)) (clock:Nat):Prop where
 born:(es.map fun e=>e.2.2).Nodup
 old: ∀ e∈es,e.2.2<clock
 keys:(es.map fun e=>e.1).Nodup
def pM (g clock:Nat) (seen:List Nat):Obj:= .mapIter (some g) clock seen.toArray clock
def cx {κ:Type} [DecidableEq κ] (k:κ):List (κ × Value × Nat)→Nat→Option (Nat × Value)
 | [],_=>none
 |e::es,i=>if k=e.1 then some (i,e.2.1) else cx k es (i+1)
class KLaw (P:Program) (K:TypeId) {κ:Type} [DecidableEq κ] (enc:κ→Value):Prop where
 check: ∀ e k w,(Instr.checkKey e 10000 K (enc k)).run P w= .ok () w
 find: ∀ k (es:List (κ × Value × Nat)) w,(Instr.findKey K (enc k) (es.map (ib enc))).run P w= .ok (cx k es 0) w
 stays: ∀ k w,(Instr.keyThatStays (enc k) (enc k)).run P w= .ok (enc k) w
def nC {κ:Type} [DecidableEq κ] (k:κ) (v:Value) (clock:Nat) (es:List (κ × Value × Nat)):List (κ × Value × Nat) × Nat:=
 match cx k es 0 with
 |some (i,_)=>(es.modify i fun e=>(k,v,e.2.2),clock)
 |none=>(es++ [(k,v,clock)],clock+1)
def FX {κ:Type} [DecidableEq κ] (k:κ) (es:List (κ × Value × Nat)):List (κ × Value × Nat):=
 match cx k es 0 with
 |some (i,_)=>es.eraseIdx i
 |none=>es
theorem oW {κ:Type} [DecidableEq κ] {k:κ}: ∀ {es:List (κ × Value × Nat)} {i j:Nat} {v:Value},cx k es i=some (j,v)→ ∃ b,i≤j∧es[j - i]? =some (k,v,b)
 | [],i,j,v,h=>by cases h
 |e::es,i,j,v,h=>by
  simp only [cx] at h;split at h
  ·rename_i hk;obtain ⟨rfl,rfl⟩:=Prod.mk.inj (Option.some.inj h);exact ⟨e.2.2,Rg _,by simp [hk]⟩
  ·obtain ⟨b,h1,h2⟩:=oW h;refine ⟨b,by omega,?_⟩;rw [show j - i=(j - (i+1))+1 by omega,Uq];exact h2
section
variable {P:Program} {n:Fr} {w0:World} {Q:bS} {s:az} {H:List Blk} {l rest:List Oper} {ty:TypeId} {p:String} {af:Array Edge} {κ:Type} [DecidableEq κ] {enc:κ→Value}
theorem mQ {κ' :Type} {d t:Nat} {ops:Array Oper} (hn:Nat.blt d n.sz=true) (enc:κ' →Value)
 (k: ∀ g,WL P n w0 ops rest Q ((d,.map (some g))::s) (.obj g (dw enc [] 0)::H)):WL P n w0 ops (⟨some d,.makeMap t none,ty,p,af,none⟩::rest) Q s H:=by
 refine nM (B:=fun g=> .obj g (dw enc [] 0)) (v:=fun g=> .map (some g)) hn (fun st w hs hm=> ?_) k;exact ⟨w.alloc (.map #[] 0),rfl,World.grownBy_alloc w _ none,heap_alloc_new w _,rfl⟩
theorem Mem.obj_at {w:World} {g:Nat} {o:Obj} (hm:Mem w0 w H) (hi:In (.obj g o) H):w.heap[g]? =some o:=(hm.on _ hi.mem).1
theorem Cv {P:Program} {E:TypeId} {z:Value} [hz:Zero P E z] (w:World):(zeroValue E).run P w= .ok z w:=by
 obtain ⟨i,h1,h2⟩:=hz.out;simp [zeroValue,typeInfo,h1,h2]
theorem nQ {t K E g clock:Nat} {x ix:Operand} {k:κ} {es:List (κ × Value × Nat)} {z u:Value} [ht:Und P t (.map K E)] [hk:KLaw P K enc] [hz:Zero P E z] (hx:ev s x=some (.map (some g))) (hi:ev s ix=some (enc k)) (hin:In (.obj g (dw enc es clock)) H)
 (hu:(match cx k es 0 with|some (_,v)=>v|none=>z)=u):VOp P w0 s H (.lookup t x ix false) ty u:=fun ρ w _ _ _ _ hρ hm=>by
 have hb:=hm.obj_at hin;have hf:=hk.find k es w;have hc:=hk.check (es.map (ib enc)).toArray.isEmpty k w;subst hu;simp only [dw] at hb;have hL:(Instr.lookup t (.map (some g)) (enc k) false).run P w= .ok (match cx k es 0 with|some (_,v)=>v|none=>z) w:=by
  simp only [Instr.lookup,Sem.run_bind,run_underlying ht.out,Result.andThen_ok,MapKept.run_getObj_map hb,hc,hf,Sem.run_pure]
  cases h:cx k es 0 with
  |none=>simp only [Sem.run_bind,Cv w,Result.andThen_ok,Sem.run_pure,RY,if_false]
  |some r=>rfl
 simp only [execOp,hρ x _ hx,hρ ix _ hi,Sem.run_bind,hL,Result.andThen_ok,Sem.run_pure]
theorem iy {t K E g clock:Nat} {x ix:Operand} {k:κ} {es:List (κ × Value × Nat)} {z u:Value} [ht:Und P t (.map K E)] [hk:KLaw P K enc] [hz:Zero P E z] (hx:ev s x=some (.map (some g))) (hi:ev s ix=some (enc k)) (hin:In (.obj g (dw enc es clock)) H)
 (hu:(match cx k es 0 with|some (_,v)=>Value.tuple #[v,.bool true]|none=> .tuple #[z,.bool false])=u):VOp P w0 s H (.lookup t x ix true) ty u:=fun ρ w _ _ _ _ hρ hm=>by
 have hb:=hm.obj_at hin;have hf:=hk.find k es w;have hc:=hk.check (es.map (ib enc)).toArray.isEmpty k w;subst hu;simp only [dw] at hb;have hL:(Instr.lookup t (.map (some g)) (enc k) true).run P w= .ok (match cx k es 0 with|some (_,v)=>Value.tuple #[v,.bool true]|none=> .tuple #[z,.bool false]) w:=by
  simp only [Instr.lookup,Sem.run_bind,run_underlying ht.out,Result.andThen_ok,MapKept.run_getObj_map hb,hc,hf,Sem.run_pure]
  cases h:cx k es 0 with
  |none=>simp only [Sem.run_bind,Cv w,Result.andThen_ok,Sem.run_pure,if_true]
  |some r=>rfl
 simp only [execOp,hρ x _ hx,hρ ix _ hi,Sem.run_bind,hL,Result.andThen_ok,Sem.run_pure]
theorem mY (w:World) (g:Nat) (o:Obj):w.grownBy { w with heap:=w.heap.setIfInBounds g o } (some g):=
 ⟨rfl,rfl,rfl,by simp,fun k _ hk=>by
  have hne:g≠k:=fun e=>hk (by rw [← e]);simp [Tu hne]⟩
theorem rW {w:World} {g:Nat} {o o' :Obj} (h:w.heap[g]? =some o):(w.heap.setIfInBounds g o')[g]? =some o' :=by
 have:g<w.heap.size:=(RQ.1 h).1;simp [this]
theorem pE {t K E g clock:Nat} {k:κ} {v:Value} {es:List (κ × Value × Nat)} {w:World} [ht:Und P t (.map K E)] [hk:KLaw P K enc] (hb:w.heap[g]? =some (dw enc es clock)):
 (Instr.mapUpdate t (.map (some g)) (enc k) v).run P w= .ok () { w with heap:=w.heap.setIfInBounds g (dw enc (nC k v clock es).1 (nC k v clock es).2) }:=by
 have hf:=hk.find k es w;have hc:=hk.check false k w;simp only [dw] at hb
 cases h:cx k es 0 with
 |none=>
  rw [h] at hf;simp [Instr.mapUpdate,run_underlying ht.out,getObj,setObj,Sem.run,hb,hc,hf,Result.andThen,nC,h,dw,ib]
 |some r=>
  obtain ⟨i,u⟩:=r;rw [h] at hf;obtain ⟨b,_,hi⟩:=oW h;rw [Td] at hi;have hkey:(((es.map (ib enc)).toArray[i]?).map (·.key)).getD (enc k)=enc k:=by simp [hi,ib]
  have hst:=hk.stays k w;have he:((es.map (ib enc)).toArray.modify i fun e=>{ e with key:=enc k,val:=v })=((es.modify i fun e=>(k,v,e.2.2)).map (ib enc)).toArray:=by
   apply Array.ext';simp only [Array.toList_modify];apply Sz;intro j;simp only [List.getElem?_modify,Rj];cases es[j]? <;>simp [ib]<;>split<;>rfl
  simp only [Instr.mapUpdate,Sem.run_bind,run_underlying ht.out,Result.andThen_ok,getObj,setObj,Sem.run,hb,hc,hf,hkey,hst,he];simp [nC,h,dw]
theorem rL {t K E g clock:Nat} {m x kx:Operand} {k:κ} {v:Value} {es:List (κ × Value × Nat)} {R:List Blk} {ops:Array Oper} [ht:Und P t (.map K E)] [hk:KLaw P K enc] (hm:ev s m=some (.map (some g))) (hkx:ev s kx=some (enc k)) (hx:ev s x=some v) (hsel:Sel (.obj g (dw enc es clock)) H R)
 (h:WL P n w0 ops rest Q s (.obj g (dw enc (nC k v clock es).1 (nC k v clock es).2)::R)):WL P n w0 ops (⟨none,.mapUpdate t m kx x,ty,p,af,none⟩::rest) Q s H:=by
 refine qA (fun a w hs hmm=> ?_) h;have hm' :=hmm.sel hsel;have hb:=(hm'.on _ QY).1;refine ⟨_,?_,hm'.upd (mY w g _) (b' := .obj g _) (rW hb) fun k hk=> .inl hk⟩;simp [execOp,hs.eval m _ hm,hs.eval x _ hx,hs.eval kx _ hkx,pE (P:=P) (t:=t) (K:=K) (E:=E) (k:=k) (v:=v) hb]
theorem HT {t K E g clock:Nat} {m x kx:Operand} {k:κ} {v:Value} {es:List (κ × Value × Nat)} {R:List Blk} {ops:Array Oper} [ht:Und P t (.map K E)] [hk:KLaw P K enc] (hm:ev s m=some (.map (some g))) (hkx:ev s kx=some (enc k)) (hx:ev s x=some v) (hsel:Sel (.obj g (dw enc es clock)) H R)
 (h:WL P n w0 ops rest Q s (.obj g (dw enc (nC k v clock es).1 (nC k v clock es).2)::R)):WL P n w0 ops (⟨none,.insert t m kx x,ty,p,af,none⟩::rest) Q s H:=by
 refine qA (fun a w hs hmm=> ?_) h;have hm' :=hmm.sel hsel;have hb:=(hm'.on _ QY).1;refine ⟨_,?_,hm'.upd (mY w g _) (b' := .obj g _) (rW hb) fun k hk=> .inl hk⟩;simp [execOp,hs.eval m _ hm,hs.eval x _ hx,hs.eval kx _ hkx,pE (P:=P) (t:=t) (K:=K) (E:=E) (k:=k) (v:=v) hb]
end
section
variable {P:Program} {n:Fr} {w0:World} {Q:bS} {s:az} {H:List Blk} {l rest:List Oper} {ty:TypeId} {p:String} {af:Array Edge} {κ:Type} [DecidableEq κ] {enc:κ→Value}
theorem nz {α β:Type} (f:α→β): ∀ (l:List α) (i:Nat),(l.eraseIdx i).map f=(l.map f).eraseIdx i
 | [],_=>rfl
 |_::_,0=>rfl
 |a::l,i+1=>by simp only [List.eraseIdx_cons_succ,RP,nz f l i]
theorem E6 {t K E g clock:Nat} {ts:Array TypeId} {k:κ} {es:List (κ × Value × Nat)} {w:World} [ht:Und P t (.map K E)] [hk:KLaw P K enc] (hb:w.heap[g]? =some (dw enc es clock)) (h0:ts[0]? =some t):
 (Builtin.delete_ ts ty #[.map (some g),enc k]).run P w= .ok (.tuple #[]) { w with heap:=w.heap.setIfInBounds g (dw enc (FX k es) clock) }:=by
 have hf:=hk.find k es w;have hc:=hk.check (es.map (ib enc)).toArray.isEmpty k w;simp only [dw] at hb;have e0:(#[Value.map (some g),enc k])[0]? =some (.map (some g)):=rfl;have e1:(#[Value.map (some g),enc k])[1]? =some (enc k):=rfl;simp only [Builtin.delete_,h0,e0,e1,Sem.run_bind,run_underlying ht.out,Result.andThen_ok,getObj,setObj,Sem.run,hb,Result.andThen,hc,hf]
 cases h:cx k es 0 with
 |none=>simp [FX,h,hb,dw,Sem.run,Sem.run_pure]
 |some r=>
  obtain ⟨i,u⟩:=r;have he:(es.map (ib enc)).toArray.eraseIdxIfInBounds i=((es.eraseIdx i).map (ib enc)).toArray:=by
   apply Array.ext';rw [Array.toList_eraseIdxIfInBounds];simp only;exact (nz _ _ _).symm
  simp [FX,h,hb,dw,Sem.run,Sem.run_pure,he]
theorem HW {t K E g clock:Nat} {ts:Array TypeId} {m kx:Operand} {k:κ} {es:List (κ × Value × Nat)} {R:List Blk} {ops:Array Oper} [ht:Und P t (.map K E)] [hk:KLaw P K enc] (h0:ts[0]? =some t) (hm:ev s m=some (.map (some g))) (hkx:ev s kx=some (enc k)) (hsel:Sel (.obj g (dw enc es clock)) H R)
 (h:WL P n w0 ops rest Q s (.obj g (dw enc (FX k es) clock)::R)):WL P n w0 ops (⟨none,.call { callee:= .builtin .delete,args:= #[m,kx],argTypes:=ts },ty,p,af,none⟩::rest) Q s H:=by
 intro a w hs hmm;have hm' :=hmm.sel hsel;have hb:=(hm'.on _ QY).1;refine wpList_plain rfl fun K' hK=> ?_;have hr:(execOp a.eval ⟨none,.call { callee:= .builtin .delete,args:= #[m,kx],argTypes:=ts },ty,p,af,none⟩).run P w= .ok (.value (.tuple #[])) { w with heap:=w.heap.setIfInBounds g (dw enc (FX k es) clock) }:=by
  have hd:=E6 (P:=P) (ty:=ty) (t:=t) (K:=K) (E:=E) (k:=k) (es:=es) (w:=w) (ts:=ts) hb h0;simp [execOp,hs.eval m _ hm,hs.eval kx _ hkx,resolve,invoke,builtin,hd]
 simp only [Oper.wp,hr,Oper.upon];exact hK _ _ (h _ _ (hs.put_none _) (hm'.upd (mY w g _) (b' := .obj g _) (rW hb) fun k hk=> .inl hk))
theorem zJ {κ' :Type} {enc:κ' →Value} {d t K E g clock:Nat} {x:Operand} {es:List (κ' × Value × Nat)} {ops:Array Oper} [ht:Und P t (.map K E)] (hn:Nat.blt d n.sz=true) (hx:ev s x=some (.map (some g))) (hin:In (.obj g (dw enc es clock)) H)
 (k: ∀ gi,WL P n w0 ops rest Q ((d,.pointer (some ⟨gi,0,none⟩))::s) (.obj gi (pM g clock [])::H)):WL P n w0 ops (⟨some d,.range t x,ty,p,af,none⟩::rest) Q s H:=by
 refine nM (B:=fun gi=> .obj gi (pM g clock [])) (v:=fun gi=> .pointer (some ⟨gi,0,none⟩)) hn (fun st w hs hm=> ?_) k;have hb:=hm.obj_at hin;refine ⟨w.alloc (.mapIter (some g) clock #[] clock),?_,World.grownBy_alloc w _ none,heap_alloc_new w _,rfl⟩;simp only [execOp,hs.eval x _ hx,Sem.run_bind,run_range_map w t K E g _ clock ht.out hb,Result.andThen_ok,Sem.run_pure]
theorem Bz {κ' :Type} {enc:κ' →Value} {d g gi clock:Nat} {x:Operand} {es:List (κ' × Value × Nat)} {seen:List Nat} {R:List Blk} {ops:Array Oper} (hn:Nat.blt d n.sz=true) (hx:ev s x=some (.pointer (some ⟨gi,0,none⟩))) (hsel:Sel (.obj gi (pM g clock seen)) H R) (hin:In (.obj g (dw enc es clock)) R) (hok:MapOk es clock)
 (k1: ∀ e∈es,e.2.2∉seen→WL P n w0 ops rest Q ((d,.tuple #[.bool true,enc e.1,e.2.1])::s) (.obj gi (pM g clock (seen++ [e.2.2]))::R))
 (k2:(∀ e∈es,e.2.2∈seen)→WL P n w0 ops rest Q ((d,.tuple #[.bool false])::s) (.obj gi (pM g clock seen)::R)):
 WL P n w0 ops (⟨some d,.next x false,ty,p,af,none⟩::rest) Q s H:=by
 intro st w hs hm;have hm' :=hm.sel hsel;have hbi:=(hm'.on _ QY).1;have hb:=hm'.tail.obj_at hin;simp only [Blk.on,pM] at hbi;simp only [dw] at hb;refine wpList_plain rfl fun K hK=> ?_;have hold: ∀ y∈(es.map (ib enc)).toArray.toList,y.born<clock:=by
  intro y hy;simp only [RG] at hy;obtain ⟨e,he,rfl⟩:=hy;exact hok.old e he
 have htest:=next_test_false seen.toArray (es.map (ib enc)).toArray clock clock hold (Rg _);have hleft: ∀ L:Array MapEntry,L=(es.map (ib enc)).toArray.filter (fun e=> !seen.toArray.contains e.born)→L.filter (fun y=>decide (y.born<clock))=L∧L.filter (fun y=>decide (y.born≥clock))= #[]:=by
  intro L hL;have hmem: ∀ y∈L,y.born<clock:=fun y hy=>hold y (by subst hL;simp at hy ⊢;exact hy.1);refine ⟨Array.filter_eq_self.2 (fun y hy=>by simpa using hmem y hy),?_⟩;rw [Array.filter_eq_empty_iff];intro y hy;have:=hmem y hy;simp;omega
 obtain ⟨e1,e2⟩:=hleft _ rfl;generalize hLd:(es.map (ib enc)).toArray.filter (fun e=> !seen.toArray.contains e.born)=L at e1 e2;by_cases h0:L.size=0
 ·have hL0:L= #[]:=UD h0;have hr:(Instr.next (.pointer (some ⟨gi,0,none⟩)) false ty).run P w= .ok (.tuple #[.bool false]) w:=by
   simp only [Instr.next,getObj,Sem.run_bind,Sem.run,hbi,hb,Result.andThen,htest,RY,if_false,hLd,e1,e2,Array.append_empty];subst hL0;simp [choose,Sem.run,Question.forced]
  unfold Oper.wp execOp;simp only [Sem.run_bind,hs.eval x _ hx,hr,Result.andThen_ok,Sem.run_pure,Oper.upon];refine hK _ _ (k2 (fun e he=> ?_) _ _ (hs.put (Sa ▸ hn) _) hm');rw [hL0,Array.filter_eq_empty_iff] at hLd;have:=hLd (ib enc e) (by simp;exact ⟨e.1,e.2.1,e.2.2,he,rfl⟩);simpa [ib] using this
 ·have hne:L.isEmpty=false:=by simp [Array.isEmpty,h0]
  have hch: ∃ (j:Nat) (w1:World),j<L.size∧(w1=w∨w1=w.drew)∧(choose (Question.mapNext L.size)).run P w= .ok j w1:=by
   by_cases hf:L.size≤1
   ·exact ⟨0,w,by omega,.inl rfl,by simp [choose,Sem.run,Question.forced,hf]⟩
   ·exact ⟨_,w.drew,Nat.mod_lt _ (by omega),.inr rfl,by
     simp only [choose,Sem.run,Question.forced,decide_eq_true_eq,hf,if_false,Question.cut]
     rfl⟩
  obtain ⟨j,w1,hj,hal,hrun⟩:=hch;have hLj: ∀ y∈L,(∃ e∈es,ib enc e=y)∧(!seen.toArray.contains y.born)=true:=by
   intro y hy;rw [← hLd,Array.mem_filter,List.mem_toArray,RG] at hy;exact hy
  obtain ⟨⟨e,he,hej⟩,hns⟩:=hLj _ (Array.getElem_mem hj);have hb1:w1.heap=w.heap:=by rcases hal with rfl|rfl<;>rfl
  have hr:(Instr.next (.pointer (some ⟨gi,0,none⟩)) false ty).run P w= .ok (.tuple #[.bool true,enc e.1,e.2.1]) { w1 with heap:=w1.heap.setIfInBounds gi (.mapIter (some g) clock (seen++ [e.2.2]).toArray clock) }:=by
   simp only [Instr.next,getObj,Sem.run_bind,Sem.run,hbi,hb,Result.andThen,htest,RY,if_false,hLd,e1,e2,Array.append_empty,hne,Array.empty_append,Array.size_map,hrun,Array.getElem?_map,Array.getElem?_eq_getElem hj,Sq,setObj,hb1,← hej];simp [ib]
  unfold Oper.wp execOp;simp only [Sem.run_bind,hs.eval x _ hx,hr,Result.andThen_ok,Sem.run_pure,Oper.upon];have hnot:e.2.2∉seen:=by
   have:ib enc e=L[j]:=hej;rw [← this] at hns;simpa [ib] using hns
  have hg1:w.grownBy { w1 with heap:=w1.heap.setIfInBounds gi (.mapIter (some g) clock (seen++ [e.2.2]).toArray clock) } (some gi):=by
   have hh: ∀ k:Nat,k≠gi→(w.heap.setIfInBounds gi (.mapIter (some g) clock (seen++ [e.2.2]).toArray clock))[k]? =w.heap[k]? :=fun k hk=>by
    rw [Tu (Ne.symm hk)]
   rcases hal with rfl|rfl
   ·exact ⟨rfl,rfl,rfl,by simp,fun k _ hk=>hh k fun e=>hk (by rw [e])⟩
   ·exact ⟨rfl,rfl,rfl,by simp,fun k _ hk=>hh k fun e=>hk (by rw [e])⟩
  refine hK _ _ (k1 e he hnot _ _ (hs.put (Sa ▸ hn) _) (hm'.upd hg1 (b' := .obj gi _) ?_ fun k hk=> .inl hk));simp only [Blk.on];have:gi<w.heap.size:=(RQ.1 hbi).1;simp [hb1,this,pM]
theorem MW {κ' :Type} {enc:κ' →Value} {g gi clock:Nat} {x:Operand} {es:List (κ' × Value × Nat)} {seen:List Nat} {e:κ' × Value × Nat} (hx:ev s x=some (.pointer (some ⟨gi,0,none⟩))) (hin:In (.obj gi (pM g clock (seen++ [e.2.2]))) H) (hin2:In (.obj g (dw enc es clock)) H) (he:e∈es) (hok:MapOk es clock):
 VOp P w0 s H (.entry x) ty (.tuple #[enc e.1,e.2.1]):=fun ρ w _ _ _ _ hρ hm=>by
 have hbi:=hm.obj_at hin;have hb:=hm.obj_at hin2;simp only [pM] at hbi;simp only [dw] at hb;have hf:(es.map (ib enc)).toArray.find? (fun y=>y.born==e.2.2)=some (ib enc e):=by
  rw [← Array.find?_toList];exact find_born (ib enc e) (es.map (ib enc)) (by rw [SZ];exact hok.born) (RG.2 ⟨e,he,rfl⟩)
 have hbk:(seen++ [e.2.2]).toArray.back? =some e.2.2:=by simp
 have hr:(Instr.entry (.pointer (some ⟨gi,0,none⟩))).run P w= .ok (.tuple #[enc e.1,e.2.1]) w:=by
  simp only [Instr.entry,getObj,Sem.run_bind,Sem.run,hbi,hb,Result.andThen,hbk,bne_self_eq_false,RY,if_false,hf]
  rfl
 simp only [execOp,hρ x _ hx,Sem.run_bind,hr,Result.andThen_ok,Sem.run_pure]
end
structure Vis {κ:Type} (es vis:List (κ × Value × Nat)):Prop where
 nodup:(vis.map fun e=>e.2.2).Nodup
 sub: ∀ e∈vis,e∈es
theorem Vis.nil {κ:Type} (es:List (κ × Value × Nat)):Vis es []:=⟨TY,fun _ h=>by cases h⟩
theorem Vis.step {κ:Type} {es vis:List (κ × Value × Nat)} (h:Vis es vis) {e:κ × Value × Nat} (he:e∈es) (hn:e.2.2∉vis.map fun e=>e.2.2):Vis es (vis++ [e]):=by
 refine ⟨?_,fun x hx=> ?_⟩
 ·rw [Sh,TS];exact ⟨h.nodup,by simp,fun a ha b hb=>by simp at hb;subst hb;exact fun e' =>hn (e' ▸ ha)⟩
 ·rcases Rz.1 hx with hx|hx
  ·exact h.sub x hx
  ·rw [Rd.1 hx];exact he
theorem mg {α:Type}: ∀ {l m:List α},l.Nodup→(∀ x∈l,x∈m)→l.length≤m.length
 | [],_,_,_=>QZ _
 |a::l,m,hn,hs=>by
  obtain ⟨s,t,rfl⟩:=List.append_of_mem (hs a QY);have h1:l.length≤(s++t).length:=mg (Te.1 hn).2 fun x hx=>by
   have hne:x≠a:=fun e=>(Te.1 hn).1 (e ▸ hx);have:=hs x (Rh _ hx);simp only [Rz,RF] at this ⊢;rcases this with h|h|h
   ·exact .inl h
   ·exact absurd h hne
   ·exact .inr h
  simp only [Rk,QT] at h1 ⊢;omega
theorem Vis.len {κ:Type} {es vis:List (κ × Value × Nat)} (h:Vis es vis):vis.length≤es.length:=by
 have:=mg h.nodup (m:=es.map fun e=>e.2.2) fun x hx=>by
  obtain ⟨e,he,rfl⟩:=RG.1 hx;exact RG.2 ⟨e,h.sub e he,rfl⟩
 simpa using this
theorem Vis.lt {κ:Type} {es vis:List (κ × Value × Nat)} (h:Vis es vis) {e:κ × Value × Nat} (he:e∈es) (hn:e.2.2∉vis.map fun e=>e.2.2):vis.length<es.length:=by
 have h1:=(h.step he hn).len;rw [QT] at h1;exact h1
theorem j9 {α β:Type} (f:α→β) {l:List α} (h:(l.map f).Nodup):l.Nodup:=by
 rw [List.Nodup,Uy] at h;exact h.imp fun h e=>h (congrArg f e)
theorem qm {α β:Type} (f:α→β): ∀ {l:List α},(l.map f).Nodup→ ∀ {x y:α},x∈l→y∈l→f x=f y→x=y
 |a::l,h,x,y,hx,hy,e=>by
  have h' :=Te.1 h;rcases RF.1 hx with hx|hx<;>rcases RF.1 hy with hy|hy
  ·rw [hx,hy]
  ·exact absurd (RG.2 ⟨y,hy,by rw [← e,hx]⟩) h'.1
  ·exact absurd (RG.2 ⟨x,hx,by rw [e,hy]⟩) h'.1
  ·exact qm f h'.2 hx hy e
theorem Vis.mem {κ:Type} {es vis:List (κ × Value × Nat)} {clock:Nat} [DecidableEq κ] (h:Vis es vis) (hok:MapOk es clock) (hall: ∀ e∈es,e.2.2∈vis.map fun e=>e.2.2) (e:κ × Value × Nat):e∈vis↔e∈es:=by
 refine ⟨h.sub e,fun he=> ?_⟩;obtain ⟨e',he',heq⟩:=RG.1 (hall e he);exact qm _ hok.born (h.sub e' he') he heq ▸ he'
theorem qf {α:Type}: ∀ {l m:List α},l.Nodup→m.Nodup→(∀ a,a∈l↔a∈m)→l.Perm m
 | [],m,_,_,h=>by
  cases m with
  |nil=>exact .refl _
  |cons b m=>exact absurd ((h b).2 QY) (by simp)
 |a::l,m,hl,hm,h=>by
  have ha:a∈m:=(h a).1 QY;obtain ⟨s,t,rfl⟩:=List.append_of_mem ha;have hl' :=Te.1 hl;have hp:(s++a::t).Perm (a::(s++t)):=TB;have hm2:=Te.1 (hp.nodup_iff.1 hm);refine (List.Perm.cons a (qf hl'.2 hm2.2 fun x=> ?_)).trans hp.symm;have hx:=h x;rw [hp.mem_iff,RF,RF] at hx;constructor
  ·intro hxl;rcases hx.1 (.inr hxl) with e|h1
   ·exact absurd (e ▸ hxl) hl'.1
   ·exact h1
  ·intro hxm;rcases hx.2 (.inr hxm) with e|h1
   ·exact absurd (e ▸ hxm) hm2.1
   ·exact h1
theorem Vis.perm {κ:Type} [DecidableEq κ] {es vis:List (κ × Value × Nat)} {clock:Nat} (h:Vis es vis) (hok:MapOk es clock) (hall: ∀ e∈es,e.2.2∈vis.map fun e=>e.2.2):vis.Perm es:=
 qf (j9 _ h.nodup) (j9 _ hok.born) (h.mem hok hall)
theorem Dv {P:Program} {K:TypeId} {q:IntKind} [hK:Und P K (.int q)]:KLaw P K (fun z:Int=>Value.int q z):={
 check:=fun e k w=>by
  have h: ∀ m,(Instr.checkKey e (m+1) K (.int q k)).run P w= .ok () w:=fun m=>by simp only [Instr.checkKey,Sem.run_bind,run_underlying hK.out,Result.andThen_ok,Sem.run_pure]
  exact h 9999
 find:=fun k es w=>by
  have h: ∀ (es:List (Int × Value × Nat)) (i:Nat),Instr.findNow (.int q) (.int q k) (es.map (ib fun z:Int=>Value.int q z)) i=some (cx k es i):=by
   intro es
   induction es with
   |nil=>intro i;rfl
   |cons e es ih=>
    intro i;have hb:(k==e.1)=decide (k=e.1):=by rw [Sc];simp
    simp only [RP,Instr.findNow,ib,Instr.sameNow,if_true,cx,hb];by_cases hk:k=e.1
    ·simp [hk]
    ·simp only [decide_eq_false hk,hk,if_false];exact ih _
  simp only [Instr.findKey,Sem.run_bind,run_underlying hK.out,Result.andThen_ok,h,Sem.run_pure]
 stays:=fun k w=>by
  have h:Instr.sameBits 10000 (.int q k) (.int q k)=true:=by unfold Instr.sameBits;simp
  simp only [Instr.keyThatStays,h,if_true,Sem.run_pure] }
end Go.SL
namespace Go.SL
open Go Go.Proofs
theorem G3 (w:World) (d:Nat) (a b:Vl):(Op.equalIn (d+3) 90 (.agg (d9 a).toArray) (.agg (d9 b).toArray)).run Tryz.prog w= .ok (eqV a b) w:=by
 rw [run_equalIn_agg w (d+2) 90 _ _ (by rw [Program.fieldsOf,Tryz.underlying90]) Tryz.stoodInHeld90];simp only [Program.fieldsOf,Tryz.underlying90];simp [Op.eqFields,d9,part,go_sem,Gj,Mj,eqV];by_cases h1:a.kind=b.kind<;>by_cases h2:a.num=b.num<;>by_cases h3:a.text=b.text<;>simp [h1,h2,h3]
theorem G5 (w:World) (d:Nat) (a b:Rct):(Op.equalIn (d+3) 61 (.agg (jp a).toArray) (.agg (jp b).toArray)).run Tryz.prog w= .ok (eqR a b) w:=by
 rw [run_equalIn_agg w (d+2) 61 _ _ (by rw [Program.fieldsOf,Tryz.underlying61]) Tryz.stoodInHeld61];simp only [Program.fieldsOf,Tryz.underlying61];simp [Op.eqFields,jp,part,go_sem,Gj,Mj,eqR];by_cases h1:a.c1=b.c1<;>by_cases h2:a.r1=b.r1<;>by_cases h3:a.c2=b.c2<;>by_cases h4:a.r2=b.r2<;>simp [h1,h2,h3,h4]
theorem uI (w:World) (d:Nat) (a b:Rf):(Op.equalIn (d+3) 28 (.agg (aB a).toArray) (.agg (aB b).toArray)).run Tryz.prog w= .ok (eqF a b) w:=by
 rw [run_equalIn_agg w (d+2) 28 _ _ (by rw [Program.fieldsOf,Tryz.underlying28]) Tryz.stoodInHeld28];simp only [Program.fieldsOf,Tryz.underlying28];simp [Op.eqFields,aB,part,go_sem,Gj,Mj,eqF];by_cases h1:a.col=b.col<;>by_cases h2:a.row=b.row<;>simp [h1,h2]
theorem G6 (w:World) (d:Nat) (a b:Nd):(Op.equalIn (d+5) 123 (.agg (bf a).toArray) (.agg (bf b).toArray)).run Tryz.prog w= .ok (eqN a b) w:=by
 rw [run_equalIn_agg w (d+4) 123 _ _ (by rw [Program.fieldsOf,Tryz.underlying123]) Tryz.stoodInHeld123];simp only [Program.fieldsOf,Tryz.underlying123];have hv: ∀ w,(Op.equalIn (d+4) 90 (.agg #[.int .u8 a.v.kind,.int .i64 a.v.num,.string a.v.text]) (.agg #[.int .u8 b.v.kind,.int .i64 b.v.num,.string b.v.text])).run Tryz.prog w= .ok (eqV a.v b.v) w:=fun w=>G3 w (d+1) a.v b.v;have hr: ∀ w,(Op.equalIn (d+4) 61 (.agg #[.int .i64 a.rect.c1,.int .i64 a.rect.r1,.int .i64 a.rect.c2,.int .i64 a.rect.r2]) (.agg #[.int .i64 b.rect.c1,.int .i64 b.rect.r1,.int .i64 b.rect.c2,.int .i64 b.rect.r2])).run Tryz.prog w= .ok (eqR a.rect b.rect) w:=fun w=>G5 w (d+1) a.rect b.rect;simp [Op.eqFields,bf,part,go_sem,Gj,Mj,eqN,hv,hr];by_cases h1:a.kind=b.kind<;>by_cases h2:eqV a.v b.v=true<;>by_cases h3:eqR a.rect b.rect=true<;>by_cases h4:a.op=b.op<;>by_cases h5:a.fn=b.fn<;>by_cases h6:a.n=b.n<;>simp [h1,h2,h3,h4,h5,h6]
theorem Nj (w:World) (d:Nat) (a b:Us):(Op.equalIn (d+5) 121 (.agg (cP a).toArray) (.agg (cP b).toArray)).run Tryz.prog w= .ok (eqU a b) w:=by
 rw [run_equalIn_agg w (d+4) 121 _ _ (by rw [Program.fieldsOf,Tryz.underlying121]) Tryz.stoodInHeld121];simp only [Program.fieldsOf,Tryz.underlying121];have hr: ∀ w,(Op.equalIn (d+4) 61 (.agg #[.int .i64 a.rect.c1,.int .i64 a.rect.r1,.int .i64 a.rect.c2,.int .i64 a.rect.r2]) (.agg #[.int .i64 b.rect.c1,.int .i64 b.rect.r1,.int .i64 b.rect.c2,.int .i64 b.rect.r2])).run Tryz.prog w= .ok (eqR a.rect b.rect) w:=fun w=>G5 w (d+1) a.rect b.rect;simp [Op.eqFields,cP,part,go_sem,Gj,Mj,eqU,hr];by_cases h1:eqR a.rect b.rect=true<;>by_cases h2:a.node=b.node<;>by_cases h3:a.fn=b.fn<;>simp [h1,h2,h3]
section
variable {w0:World} {s:az} {H:List Blk} {ty t' :TypeId} {x y:Operand}
theorem EM {a b:Vl} (hx:ev s x=some (.agg (d9 a).toArray)) (hy:ev s y=some (.agg (d9 b).toArray)):VOp Tryz.prog w0 s H (.binOp .eql 90 x y t') ty (.bool (eqV a b)):=fun ρ w _ _ _ _ hρ _=>by
 have h:=G3 w 9997 a b;simp only [Nat.reduceAdd] at h;simp only [execOp,hρ x _ hx,hρ y _ hy,Sem.run_bind,run_eqGuard_agg w _ _ _ _ _ _ Tryz.eqGuardType90,Result.andThen_ok,run_eql_struct,h,Sem.run_pure]
theorem Ks {a b:Rf} (hx:ev s x=some (.agg (aB a).toArray)) (hy:ev s y=some (.agg (aB b).toArray)):VOp Tryz.prog w0 s H (.binOp .eql 28 x y t') ty (.bool (eqF a b)):=fun ρ w _ _ _ _ hρ _=>by
 have h:=uI w 9997 a b;simp only [Nat.reduceAdd] at h;simp only [execOp,hρ x _ hx,hρ y _ hy,Sem.run_bind,run_eqGuard_agg w _ _ _ _ _ _ Tryz.eqGuardType28,Result.andThen_ok,run_eql_struct,h,Sem.run_pure]
theorem Ko {a b:Rf} (hx:ev s x=some (.agg (aB a).toArray)) (hy:ev s y=some (.agg (aB b).toArray)):VOp Tryz.prog w0 s H (.binOp .neq 28 x y t') ty (.bool (!eqF a b)):=fun ρ w _ _ _ _ hρ _=>by
 have h:=uI w 9997 a b;simp only [Nat.reduceAdd] at h;simp only [execOp,hρ x _ hx,hρ y _ hy,Sem.run_bind,run_eqGuard_agg w _ _ _ _ _ _ Tryz.eqGuardType28,Result.andThen_ok,run_neq_struct,h,Sem.run_pure]
theorem O6 {a b:Nd} (hx:ev s x=some (.agg (bf a).toArray)) (hy:ev s y=some (.agg (bf b).toArray)):VOp Tryz.prog w0 s H (.binOp .eql 123 x y t') ty (.bool (eqN a b)):=fun ρ w _ _ _ _ hρ _=>by
 have h:=G6 w 9995 a b;simp only [Nat.reduceAdd] at h;simp only [execOp,hρ x _ hx,hρ y _ hy,Sem.run_bind,run_eqGuard_agg w _ _ _ _ _ _ Tryz.eqGuardType123,Result.andThen_ok,run_eql_struct,h,Sem.run_pure]
theorem rP {a b:Nd} (hx:ev s x=some (.agg (bf a).toArray)) (hy:ev s y=some (.agg (bf b).toArray)):VOp Tryz.prog w0 s H (.binOp .neq 123 x y t') ty (.bool (!eqN a b)):=fun ρ w _ _ _ _ hρ _=>by
 have h:=G6 w 9995 a b;simp only [Nat.reduceAdd] at h;simp only [execOp,hρ x _ hx,hρ y _ hy,Sem.run_bind,run_eqGuard_agg w _ _ _ _ _ _ Tryz.eqGuardType123,Result.andThen_ok,run_neq_struct,h,Sem.run_pure]
theorem O2 {a b:Us} (hx:ev s x=some (.agg (cP a).toArray)) (hy:ev s y=some (.agg (cP b).toArray)):VOp Tryz.prog w0 s H (.binOp .neq 121 x y t') ty (.bool (!eqU a b)):=fun ρ w _ _ _ _ hρ _=>by
 have h:=Nj w 9995 a b;simp only [Nat.reduceAdd] at h;simp only [execOp,hρ x _ hx,hρ y _ hy,Sem.run_bind,run_eqGuard_agg w _ _ _ _ _ _ Tryz.eqGuardType121,Result.andThen_ok,run_neq_struct,h,Sem.run_pure]
end
instance klaw_F:KLaw Tryz.prog 28 (fun a:Rf=>Value.agg (aB a).toArray):={
 check:=fun e k w=>by
  have h: ∀ m,(Instr.checkKey e (m+2) 28 (.agg (aB k).toArray)).run Tryz.prog w= .ok () w:=fun m=>by
   simp [Instr.checkKey,aB,part,go_sem,Tryz.underlying28]
  exact h 9998
 find:=fun k es w=>by
  have hask: ∀ (es:List (Rf × Value × Nat)) (i:Nat),(Instr.findAsking 28 (.agg (aB k).toArray) (es.map (ib fun a:Rf=>Value.agg (aB a).toArray)) i).run Tryz.prog w= .ok (cx k es i) w:=by
   intro es
   induction es with
   |nil=>intro i;rfl
   |cons e es ih=>
    intro i;have h:(Op.equalIn Op.maxDepth 28 (.agg (aB k).toArray) (.agg (aB e.1).toArray)).run Tryz.prog w= .ok (eqF k e.1) w:=uI w 9997 k e.1;rw [o5] at h;simp only [RP,Instr.findAsking,ib,Op.equal,Sem.run_bind,h,Result.andThen_ok,cx];by_cases hk:k=e.1
    ·simp only [hk,decide_true,if_true,Sem.run_pure]
    ·simp only [hk,decide_false,if_false,RY];exact ih _
  have hu:=run_underlying (P:=Tryz.prog) (w:=w) Tryz.underlying28
  cases es with
  |nil=>simp only [Instr.findKey,SE,Instr.findNow,Sem.run_bind,hu,Result.andThen_ok,Sem.run_pure,cx]
  |cons e es=>
   have:=hask (e::es) 0;simp only [RP] at this ⊢;simp only [Instr.findKey,Instr.findNow,ib,Instr.sameNow,Sem.run_bind,hu,Result.andThen_ok];exact this
 stays:=fun k w=>by
  have h:Instr.sameBits 10000 (.agg (aB k).toArray) (.agg (aB k).toArray)=true:=by
   have h: ∀ m,Instr.sameBits (m+1) (.agg (aB k).toArray) (.agg (aB k).toArray)=true:=fun m=>by simp [Instr.sameBits,aB]
   exact h 9999
  simp only [Instr.keyThatStays,h,if_true,Sem.run_pure] }
end Go.SL

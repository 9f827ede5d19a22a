/-
  Lemmas and walks, put together: Sl20 Rb E1 W9.
-/
import Derived.Test.YtfeicpjdgjflaaaGreatDoorKv03
import Derived.Test.YtfeicpjdgjflaaaGreatDoorKv04
set_option linter.unusedSimpArgs false
set_option linter.unusedVariables false
set_option maxRecDepth 20000
namespace Go.SL
open Go Go.RowKit
def iS {κ:Type} (enc:κ→Value) (e:κ × Value × Nat):MapEntry:={ key:=enc e.1,val:=e.2.1,born:=e.2.2 }
def cJ {κ:Type} (enc:κ→Value) (es:List (κ × Value × Nat)) (clock:Nat):Obj:= .map (es.map (iS enc)).toArray clock
structure MapOk {κ:Type} (es:List (κ × Value × Nat)) (clock:Nat):Prop where
 born:(es.map fun e=>e.2.2).Nodup
 old: ∀ e∈es,e.2.2<clock
 keys:(es.map fun e=>e.1).Nodup
def pF (g clock:Nat) (seen:List Nat):Obj:= .mapIter (some g) clock seen.toArray clock
def co {κ:Type} [DecidableEq κ] (k:κ):List (κ × Value × Nat)→Nat→Option (Nat × Value)
 | [],_=>none
 |e::es,i=>if k=e.1 then some (i,e.2.1) else co k es (i+1)
class KLaw (P:Program) (K:TypeId) {κ:Type} [DecidableEq κ] (enc:κ→Value):Prop where
 check: ∀ e k w,(Instr.checkKey e 10000 K (enc k)).run P w= .ok () w
 find: ∀ k (es:List (κ × Value × Nat)) w,(Instr.findKey K (enc k) (es.map (iS enc))).run P w= .ok (co k es 0) w
 stays: ∀ k w,(Instr.keyThatStays (enc k) (enc k)).run P w= .ok (enc k) w
def lr {κ:Type} [DecidableEq κ] (k:κ) (v:Value) (clock:Nat) (es:List (κ × Value × Nat)):List (κ × Value × Nat) × Nat:=
 match co k es 0 with
 |some (i,_)=>(es.modify i fun e=>(k,v,e.2.2),clock)
 |none=>(es++ [(k,v,clock)],clock+1)
def Jn {κ:Type} [DecidableEq κ] (k:κ) (es:List (κ × Value × Nat)):List (κ × Value × Nat):=
 match co k es 0 with
 |some (i,_)=>es.eraseIdx i
 |none=>es
theorem n9 {κ:Type} [DecidableEq κ] {k:κ}: ∀ {es:List (κ × Value × Nat)} {i j:Nat} {v:Value},co k es i=some (j,v)→ ∃ b,i≤j∧es[j - i]? =some (k,v,b)
 | [],i,j,v,h=>by cases h
 |e::es,i,j,v,h=>by
  simp only [co] at h;split at h
  ·rename_i hk;obtain ⟨rfl,rfl⟩:=Prod.mk.inj (Option.some.inj h);exact ⟨e.2.2,VA _,by simp [hk]⟩
  ·obtain ⟨b,h1,h2⟩:=n9 h;refine ⟨b,by omega,?_⟩;rw [show j - i=(j - (i+1))+1 by omega,Yq];exact h2
section
variable {P:Program} {n:Fr} {w0:World} {Q:cd} {s:aC} {H:List Blk} {l rest:List Oper} {ty:TypeId} {p:String} {af:Array Edge} {κ:Type} [DecidableEq κ] {enc:κ→Value}
theorem lM {κ' :Type} {d t:Nat} {ops:Array Oper} (hn:Nat.blt d n.sz=true) (enc:κ' →Value)
 (k: ∀ g,WL P n w0 ops rest Q ((d,.map (some g))::s) (.obj g (cJ enc [] 0)::H)):WL P n w0 ops (⟨some d,.makeMap t none,ty,p,af,none⟩::rest) Q s H:=by
 refine pJ (B:=fun g=> .obj g (cJ enc [] 0)) (v:=fun g=> .map (some g)) hn (fun st w hs hm=> ?_) k;exact ⟨w.alloc (.map #[] 0),rfl,World.grownBy_alloc w _ none,heap_alloc_new w _,rfl⟩
theorem Mem.obj_at {w:World} {g:Nat} {o:Obj} (hm:Mem w0 w H) (hi:In (.obj g o) H):w.heap[g]? =some o:=(hm.on _ hi.mem).1
theorem Fv {P:Program} {E:TypeId} {z:Value} [hz:Zero P E z] (w:World):(zeroValue E).run P w= .ok z w:=by
 obtain ⟨i,h1,h2⟩:=hz.out;simp [zeroValue,typeInfo,h1,h2]
theorem kv {t K E g clock:Nat} {x ix:Operand} {k:κ} {es:List (κ × Value × Nat)} {z u:Value} [ht:Und P t (.map K E)] [hk:KLaw P K enc] [hz:Zero P E z] (hx:ev s x=some (.map (some g))) (hi:ev s ix=some (enc k)) (hin:In (.obj g (cJ enc es clock)) H)
 (hu:(match co k es 0 with|some (_,v)=>v|none=>z)=u):VOp P w0 s H (.lookup t x ix false) ty u:=fun ρ w _ _ _ _ hρ hm=>by
 have hb:=hm.obj_at hin;have hf:=hk.find k es w;have hc:=hk.check (es.map (iS enc)).toArray.isEmpty k w;subst hu;simp only [cJ] at hb;have hL:(Instr.lookup t (.map (some g)) (enc k) false).run P w= .ok (match co k es 0 with|some (_,v)=>v|none=>z) w:=by
  simp only [Instr.lookup,Sem.run_bind,run_underlying ht.out,Result.andThen_ok,MapKept.run_getObj_map hb,hc,hf,Sem.run_pure]
  cases h:co k es 0 with
  |none=>simp only [Sem.run_bind,Fv w,Result.andThen_ok,Sem.run_pure,V2,if_false]
  |some r=>rfl
 simp only [execOp,hρ x _ hx,hρ ix _ hi,Sem.run_bind,hL,Result.andThen_ok,Sem.run_pure]
theorem jc {t K E g clock:Nat} {x ix:Operand} {k:κ} {es:List (κ × Value × Nat)} {z u:Value} [ht:Und P t (.map K E)] [hk:KLaw P K enc] [hz:Zero P E z] (hx:ev s x=some (.map (some g))) (hi:ev s ix=some (enc k)) (hin:In (.obj g (cJ enc es clock)) H)
 (hu:(match co k es 0 with|some (_,v)=>Value.tuple #[v,.bool true]|none=> .tuple #[z,.bool false])=u):VOp P w0 s H (.lookup t x ix true) ty u:=fun ρ w _ _ _ _ hρ hm=>by
 have hb:=hm.obj_at hin;have hf:=hk.find k es w;have hc:=hk.check (es.map (iS enc)).toArray.isEmpty k w;subst hu;simp only [cJ] at hb;have hL:(Instr.lookup t (.map (some g)) (enc k) true).run P w= .ok (match co k es 0 with|some (_,v)=>Value.tuple #[v,.bool true]|none=> .tuple #[z,.bool false]) w:=by
  simp only [Instr.lookup,Sem.run_bind,run_underlying ht.out,Result.andThen_ok,MapKept.run_getObj_map hb,hc,hf,Sem.run_pure]
  cases h:co k es 0 with
  |none=>simp only [Sem.run_bind,Fv w,Result.andThen_ok,Sem.run_pure,if_true]
  |some r=>rfl
 simp only [execOp,hρ x _ hx,hρ ix _ hi,Sem.run_bind,hL,Result.andThen_ok,Sem.run_pure]
theorem oO (w:World) (g:Nat) (o:Obj):w.grownBy { w with heap:=w.heap.setIfInBounds g o } (some g):=
 ⟨rfl,rfl,rfl,by simp,fun k _ hk=>by
  have hne:g≠k:=fun e=>hk (by rw [← e]);simp [XE hne]⟩
theorem uY {w:World} {g:Nat} {o o' :Obj} (h:w.heap[g]? =some o):(w.heap.setIfInBounds g o')[g]? =some o' :=by
 have:g<w.heap.size:=(V0.1 h).1;simp [this]
theorem rA {t K E g clock:Nat} {k:κ} {v:Value} {es:List (κ × Value × Nat)} {w:World} [ht:Und P t (.map K E)] [hk:KLaw P K enc] (hb:w.heap[g]? =some (cJ enc es clock)):
 (Instr.mapUpdate t (.map (some g)) (enc k) v).run P w= .ok () { w with heap:=w.heap.setIfInBounds g (cJ enc (lr k v clock es).1 (lr k v clock es).2) }:=by
 have hf:=hk.find k es w;have hc:=hk.check false k w;simp only [cJ] at hb
 cases h:co k es 0 with
 |none=>
  rw [h] at hf;simp [Instr.mapUpdate,run_underlying ht.out,getObj,setObj,Sem.run,hb,hc,hf,Result.andThen,lr,h,cJ,iS]
 |some r=>
  obtain ⟨i,u⟩:=r;rw [h] at hf;obtain ⟨b,_,hi⟩:=n9 h;rw [WU] at hi;have hkey:(((es.map (iS enc)).toArray[i]?).map (·.key)).getD (enc k)=enc k:=by simp [hi,iS]
  have hst:=hk.stays k w;have he:((es.map (iS enc)).toArray.modify i fun e=>{ e with key:=enc k,val:=v })=((es.modify i fun e=>(k,v,e.2.2)).map (iS enc)).toArray:=by
   apply Array.ext';simp only [Array.toList_modify];apply WB;intro j;simp only [YH,VG];cases es[j]? <;>simp [iS]<;>split<;>rfl
  simp only [Instr.mapUpdate,Sem.run_bind,run_underlying ht.out,Result.andThen_ok,getObj,setObj,Sem.run,hb,hc,hf,hkey,hst,he];simp [lr,h,cJ]
theorem nD {t K E g clock:Nat} {m x kx:Operand} {k:κ} {v:Value} {es:List (κ × Value × Nat)} {R:List Blk} {ops:Array Oper} [ht:Und P t (.map K E)] [hk:KLaw P K enc] (hm:ev s m=some (.map (some g))) (hkx:ev s kx=some (enc k)) (hx:ev s x=some v) (hsel:Sel (.obj g (cJ enc es clock)) H R)
 (h:WL P n w0 ops rest Q s (.obj g (cJ enc (lr k v clock es).1 (lr k v clock es).2)::R)):WL P n w0 ops (⟨none,.mapUpdate t m kx x,ty,p,af,none⟩::rest) Q s H:=by
 refine tj (fun a w hs hmm=> ?_) h;have hm' :=hmm.sel hsel;have hb:=(hm'.on _ Vr).1;refine ⟨_,?_,hm'.upd (oO w g _) (b' := .obj g _) (uY hb) fun k hk=> .inl hk⟩;simp [execOp,hs.eval m _ hm,hs.eval x _ hx,hs.eval kx _ hkx,rA (P:=P) (t:=t) (K:=K) (E:=E) (k:=k) (v:=v) hb]
theorem K8 {t K E g clock:Nat} {m x kx:Operand} {k:κ} {v:Value} {es:List (κ × Value × Nat)} {R:List Blk} {ops:Array Oper} [ht:Und P t (.map K E)] [hk:KLaw P K enc] (hm:ev s m=some (.map (some g))) (hkx:ev s kx=some (enc k)) (hx:ev s x=some v) (hsel:Sel (.obj g (cJ enc es clock)) H R)
 (h:WL P n w0 ops rest Q s (.obj g (cJ enc (lr k v clock es).1 (lr k v clock es).2)::R)):WL P n w0 ops (⟨none,.insert t m kx x,ty,p,af,none⟩::rest) Q s H:=by
 refine tj (fun a w hs hmm=> ?_) h;have hm' :=hmm.sel hsel;have hb:=(hm'.on _ Vr).1;refine ⟨_,?_,hm'.upd (oO w g _) (b' := .obj g _) (uY hb) fun k hk=> .inl hk⟩;simp [execOp,hs.eval m _ hm,hs.eval x _ hx,hs.eval kx _ hkx,rA (P:=P) (t:=t) (K:=K) (E:=E) (k:=k) (v:=v) hb]
end
section
variable {P:Program} {n:Fr} {w0:World} {Q:cd} {s:aC} {H:List Blk} {l rest:List Oper} {ty:TypeId} {p:String} {af:Array Edge} {κ:Type} [DecidableEq κ] {enc:κ→Value}
theorem o6 {α β:Type} (f:α→β): ∀ (l:List α) (i:Nat),(l.eraseIdx i).map f=(l.map f).eraseIdx i
 | [],_=>rfl
 |_::_,0=>rfl
 |a::l,i+1=>by simp only [List.eraseIdx_cons_succ,VU,o6 f l i]
theorem Iv {t K E g clock:Nat} {ts:Array TypeId} {k:κ} {es:List (κ × Value × Nat)} {w:World} [ht:Und P t (.map K E)] [hk:KLaw P K enc] (hb:w.heap[g]? =some (cJ enc es clock)) (h0:ts[0]? =some t):
 (Builtin.delete_ ts ty #[.map (some g),enc k]).run P w= .ok (.tuple #[]) { w with heap:=w.heap.setIfInBounds g (cJ enc (Jn k es) clock) }:=by
 have hf:=hk.find k es w;have hc:=hk.check (es.map (iS enc)).toArray.isEmpty k w;simp only [cJ] at hb;have e0:(#[Value.map (some g),enc k])[0]? =some (.map (some g)):=rfl;have e1:(#[Value.map (some g),enc k])[1]? =some (enc k):=rfl;simp only [Builtin.delete_,h0,e0,e1,Sem.run_bind,run_underlying ht.out,Result.andThen_ok,getObj,setObj,Sem.run,hb,Result.andThen,hc,hf]
 cases h:co k es 0 with
 |none=>simp [Jn,h,hb,cJ,Sem.run,Sem.run_pure]
 |some r=>
  obtain ⟨i,u⟩:=r;have he:(es.map (iS enc)).toArray.eraseIdxIfInBounds i=((es.eraseIdx i).map (iS enc)).toArray:=by
   apply Array.ext';rw [Array.toList_eraseIdxIfInBounds];simp only;exact (o6 _ _ _).symm
  simp [Jn,h,hb,cJ,Sem.run,Sem.run_pure,he]
theorem Lb {t K E g clock:Nat} {ts:Array TypeId} {m kx:Operand} {k:κ} {es:List (κ × Value × Nat)} {R:List Blk} {ops:Array Oper} [ht:Und P t (.map K E)] [hk:KLaw P K enc] (h0:ts[0]? =some t) (hm:ev s m=some (.map (some g))) (hkx:ev s kx=some (enc k)) (hsel:Sel (.obj g (cJ enc es clock)) H R)
 (h:WL P n w0 ops rest Q s (.obj g (cJ enc (Jn k es) clock)::R)):WL P n w0 ops (⟨none,.call { callee:= .builtin .delete,args:= #[m,kx],argTypes:=ts },ty,p,af,none⟩::rest) Q s H:=by
 intro a w hs hmm;have hm' :=hmm.sel hsel;have hb:=(hm'.on _ Vr).1;refine wpList_plain rfl fun K' hK=> ?_;have hr:(execOp a.eval ⟨none,.call { callee:= .builtin .delete,args:= #[m,kx],argTypes:=ts },ty,p,af,none⟩).run P w= .ok (.value (.tuple #[])) { w with heap:=w.heap.setIfInBounds g (cJ enc (Jn k es) clock) }:=by
  have hd:=Iv (P:=P) (ty:=ty) (t:=t) (K:=K) (E:=E) (k:=k) (es:=es) (w:=w) (ts:=ts) hb h0;simp [execOp,hs.eval m _ hm,hs.eval kx _ hkx,resolve,invoke,builtin,hd]
 simp only [Oper.wp,hr,Oper.upon];exact hK _ _ (h _ _ (hs.put_none _) (hm'.upd (oO w g _) (b' := .obj g _) (uY hb) fun k hk=> .inl hk))
theorem s9 {κ' :Type} {enc:κ' →Value} {d t K E g clock:Nat} {x:Operand} {es:List (κ' × Value × Nat)} {ops:Array Oper} [ht:Und P t (.map K E)] (hn:Nat.blt d n.sz=true) (hx:ev s x=some (.map (some g))) (hin:In (.obj g (cJ enc es clock)) H)
 (k: ∀ gi,WL P n w0 ops rest Q ((d,.pointer (some ⟨gi,0,none⟩))::s) (.obj gi (pF g clock [])::H)):WL P n w0 ops (⟨some d,.range t x,ty,p,af,none⟩::rest) Q s H:=by
 refine pJ (B:=fun gi=> .obj gi (pF g clock [])) (v:=fun gi=> .pointer (some ⟨gi,0,none⟩)) hn (fun st w hs hm=> ?_) k;have hb:=hm.obj_at hin;refine ⟨w.alloc (.mapIter (some g) clock #[] clock),?_,World.grownBy_alloc w _ none,heap_alloc_new w _,rfl⟩;simp only [execOp,hs.eval x _ hx,Sem.run_bind,run_range_map w t K E g _ clock ht.out hb,Result.andThen_ok,Sem.run_pure]
theorem vW {κ' :Type} {enc:κ' →Value} {d g gi clock:Nat} {x:Operand} {es:List (κ' × Value × Nat)} {seen:List Nat} {R:List Blk} {ops:Array Oper} (hn:Nat.blt d n.sz=true) (hx:ev s x=some (.pointer (some ⟨gi,0,none⟩))) (hsel:Sel (.obj gi (pF g clock seen)) H R) (hin:In (.obj g (cJ enc es clock)) R) (hok:MapOk es clock)
 (k1: ∀ e∈es,e.2.2∉seen→WL P n w0 ops rest Q ((d,.tuple #[.bool true,enc e.1,e.2.1])::s) (.obj gi (pF g clock (seen++ [e.2.2]))::R))
 (k2:(∀ e∈es,e.2.2∈seen)→WL P n w0 ops rest Q ((d,.tuple #[.bool false])::s) (.obj gi (pF g clock seen)::R)):
 WL P n w0 ops (⟨some d,.next x false,ty,p,af,none⟩::rest) Q s H:=by
 intro st w hs hm;have hm' :=hm.sel hsel;have hbi:=(hm'.on _ Vr).1;have hb:=hm'.tail.obj_at hin;simp only [Blk.on,pF] at hbi;simp only [cJ] at hb;refine wpList_plain rfl fun K hK=> ?_;have hold: ∀ y∈(es.map (iS enc)).toArray.toList,y.born<clock:=by
  intro y hy;simp only [VM] at hy;obtain ⟨e,he,rfl⟩:=hy;exact hok.old e he
 have htest:=next_test_false seen.toArray (es.map (iS enc)).toArray clock clock hold (VA _);have hleft: ∀ L:Array MapEntry,L=(es.map (iS enc)).toArray.filter (fun e=> !seen.toArray.contains e.born)→L.filter (fun y=>decide (y.born<clock))=L∧L.filter (fun y=>decide (y.born≥clock))= #[]:=by
  intro L hL;have hmem: ∀ y∈L,y.born<clock:=fun y hy=>hold y (by subst hL;simp at hy ⊢;exact hy.1);refine ⟨Array.filter_eq_self.2 (fun y hy=>by simpa using hmem y hy),?_⟩;rw [Array.filter_eq_empty_iff];intro y hy;have:=hmem y hy;simp;omega
 obtain ⟨e1,e2⟩:=hleft _ rfl;generalize hLd:(es.map (iS enc)).toArray.filter (fun e=> !seen.toArray.contains e.born)=L at e1 e2;by_cases h0:L.size=0
 ·have hL0:L= #[]:=YD h0;have hr:(Instr.next (.pointer (some ⟨gi,0,none⟩)) false ty).run P w= .ok (.tuple #[.bool false]) w:=by
   simp only [Instr.next,getObj,Sem.run_bind,Sem.run,hbi,hb,Result.andThen,htest,V2,if_false,hLd,e1,e2,Array.append_empty];subst hL0;simp [choose,Sem.run,Question.forced]
  unfold Oper.wp execOp;simp only [Sem.run_bind,hs.eval x _ hx,hr,Result.andThen_ok,Sem.run_pure,Oper.upon];refine hK _ _ (k2 (fun e he=> ?_) _ _ (hs.put (Wi ▸ hn) _) hm');rw [hL0,Array.filter_eq_empty_iff] at hLd;have:=hLd (iS enc e) (by simp;exact ⟨e.1,e.2.1,e.2.2,he,rfl⟩);simpa [iS] using this
 ·have hne:L.isEmpty=false:=by simp [Array.isEmpty,h0]
  have hch: ∃ (j:Nat) (w1:World),j<L.size∧(w1=w∨w1=w.drew)∧(choose (Question.mapNext L.size)).run P w= .ok j w1:=by
   by_cases hf:L.size≤1
   ·exact ⟨0,w,by omega,.inl rfl,by simp [choose,Sem.run,Question.forced,hf]⟩
   ·exact ⟨_,w.drew,Y5 _ (by omega),.inr rfl,by
     simp only [choose,Sem.run,Question.forced,decide_eq_true_eq,hf,if_false,Question.cut]
     rfl⟩
  obtain ⟨j,w1,hj,hal,hrun⟩:=hch;have hLj: ∀ y∈L,(∃ e∈es,iS enc e=y)∧(!seen.toArray.contains y.born)=true:=by
   intro y hy;rw [← hLd,Array.mem_filter,List.mem_toArray,VM] at hy;exact hy
  obtain ⟨⟨e,he,hej⟩,hns⟩:=hLj _ (Array.getElem_mem hj);have hb1:w1.heap=w.heap:=by rcases hal with rfl|rfl<;>rfl
  have hr:(Instr.next (.pointer (some ⟨gi,0,none⟩)) false ty).run P w= .ok (.tuple #[.bool true,enc e.1,e.2.1]) { w1 with heap:=w1.heap.setIfInBounds gi (.mapIter (some g) clock (seen++ [e.2.2]).toArray clock) }:=by
   simp only [Instr.next,getObj,Sem.run_bind,Sem.run,hbi,hb,Result.andThen,htest,V2,if_false,hLd,e1,e2,Array.append_empty,hne,Array.empty_append,Array.size_map,hrun,Array.getElem?_map,Array.getElem?_eq_getElem hj,Wq,setObj,hb1,← hej];simp [iS]
  unfold Oper.wp execOp;simp only [Sem.run_bind,hs.eval x _ hx,hr,Result.andThen_ok,Sem.run_pure,Oper.upon];have hnot:e.2.2∉seen:=by
   have:iS enc e=L[j]:=hej;rw [← this] at hns;simpa [iS] using hns
  have hg1:w.grownBy { w1 with heap:=w1.heap.setIfInBounds gi (.mapIter (some g) clock (seen++ [e.2.2]).toArray clock) } (some gi):=by
   have hh: ∀ k:Nat,k≠gi→(w.heap.setIfInBounds gi (.mapIter (some g) clock (seen++ [e.2.2]).toArray clock))[k]? =w.heap[k]? :=fun k hk=>by
    rw [XE (Ne.symm hk)]
   rcases hal with rfl|rfl
   ·exact ⟨rfl,rfl,rfl,by simp,fun k _ hk=>hh k fun e=>hk (by rw [e])⟩
   ·exact ⟨rfl,rfl,rfl,by simp,fun k _ hk=>hh k fun e=>hk (by rw [e])⟩
  refine hK _ _ (k1 e he hnot _ _ (hs.put (Wi ▸ hn) _) (hm'.upd hg1 (b' := .obj gi _) ?_ fun k hk=> .inl hk));simp only [Blk.on];have:gi<w.heap.size:=(V0.1 hbi).1;simp [hb1,this,pF]
theorem Kd {κ' :Type} {enc:κ' →Value} {g gi clock:Nat} {x:Operand} {es:List (κ' × Value × Nat)} {seen:List Nat} {e:κ' × Value × Nat} (hx:ev s x=some (.pointer (some ⟨gi,0,none⟩))) (hin:In (.obj gi (pF g clock (seen++ [e.2.2]))) H) (hin2:In (.obj g (cJ enc es clock)) H) (he:e∈es) (hok:MapOk es clock):
 VOp P w0 s H (.entry x) ty (.tuple #[enc e.1,e.2.1]):=fun ρ w _ _ _ _ hρ hm=>by
 have hbi:=hm.obj_at hin;have hb:=hm.obj_at hin2;simp only [pF] at hbi;simp only [cJ] at hb;have hf:(es.map (iS enc)).toArray.find? (fun y=>y.born==e.2.2)=some (iS enc e):=by
  rw [← Array.find?_toList];exact find_born (iS enc e) (es.map (iS enc)) (by rw [Xl];exact hok.born) (VM.2 ⟨e,he,rfl⟩)
 have hbk:(seen++ [e.2.2]).toArray.back? =some e.2.2:=by simp
 have hr:(Instr.entry (.pointer (some ⟨gi,0,none⟩))).run P w= .ok (.tuple #[enc e.1,e.2.1]) w:=by
  simp only [Instr.entry,getObj,Sem.run_bind,Sem.run,hbi,hb,Result.andThen,hbk,bne_self_eq_false,V2,if_false,hf]
  rfl
 simp only [execOp,hρ x _ hx,Sem.run_bind,hr,Result.andThen_ok,Sem.run_pure]
end
structure Vis {κ:Type} (es vis:List (κ × Value × Nat)):Prop where
 nodup:(vis.map fun e=>e.2.2).Nodup
 sub: ∀ e∈vis,e∈es
theorem Vis.nil {κ:Type} (es:List (κ × Value × Nat)):Vis es []:=⟨XN,fun _ h=>by cases h⟩
theorem Vis.step {κ:Type} {es vis:List (κ × Value × Nat)} (h:Vis es vis) {e:κ × Value × Nat} (he:e∈es) (hn:e.2.2∉vis.map fun e=>e.2.2):Vis es (vis++ [e]):=by
 refine ⟨?_,fun x hx=> ?_⟩
 ·rw [Wj,Xq];exact ⟨h.nodup,by simp,fun a ha b hb=>by simp at hb;subst hb;exact fun e' =>hn (e' ▸ ha)⟩
 ·rcases VH.1 hx with hx|hx
  ·exact h.sub x hx
  ·rw [Vx.1 hx];exact he
theorem nU {α:Type}: ∀ {l m:List α},l.Nodup→(∀ x∈l,x∈m)→l.length≤m.length
 | [],_,_,_=>Vt _
 |a::l,m,hn,hs=>by
  obtain ⟨s,t,rfl⟩:=List.append_of_mem (hs a Vr);have h1:l.length≤(s++t).length:=nU (Xe.1 hn).2 fun x hx=>by
   have hne:x≠a:=fun e=>(Xe.1 hn).1 (e ▸ hx);have:=hs x (Vv _ hx);simp only [VH,VN] at this ⊢;rcases this with h|h|h
   ·exact .inl h
   ·exact absurd h hne
   ·exact .inr h
  simp only [Vw,Vn] at h1 ⊢;omega
theorem Vis.len {κ:Type} {es vis:List (κ × Value × Nat)} (h:Vis es vis):vis.length≤es.length:=by
 have:=nU h.nodup (m:=es.map fun e=>e.2.2) fun x hx=>by
  obtain ⟨e,he,rfl⟩:=VM.1 hx;exact VM.2 ⟨e,h.sub e he,rfl⟩
 simpa using this
theorem Vis.lt {κ:Type} {es vis:List (κ × Value × Nat)} (h:Vis es vis) {e:κ × Value × Nat} (he:e∈es) (hn:e.2.2∉vis.map fun e=>e.2.2):vis.length<es.length:=by
 have h1:=(h.step he hn).len;rw [Vn] at h1;exact h1
theorem lm {α β:Type} (f:α→β) {l:List α} (h:(l.map f).Nodup):l.Nodup:=by
 rw [List.Nodup,X8] at h;exact h.imp fun h e=>h (congrArg f e)
theorem pd {α β:Type} (f:α→β): ∀ {l:List α},(l.map f).Nodup→ ∀ {x y:α},x∈l→y∈l→f x=f y→x=y
 |a::l,h,x,y,hx,hy,e=>by
  have h' :=Xe.1 h;rcases VN.1 hx with hx|hx<;>rcases VN.1 hy with hy|hy
  ·rw [hx,hy]
  ·exact absurd (VM.2 ⟨y,hy,by rw [← e,hx]⟩) h'.1
  ·exact absurd (VM.2 ⟨x,hx,by rw [e,hy]⟩) h'.1
  ·exact pd f h'.2 hx hy e
theorem Vis.mem {κ:Type} {es vis:List (κ × Value × Nat)} {clock:Nat} [DecidableEq κ] (h:Vis es vis) (hok:MapOk es clock) (hall: ∀ e∈es,e.2.2∈vis.map fun e=>e.2.2) (e:κ × Value × Nat):e∈vis↔e∈es:=by
 refine ⟨h.sub e,fun he=> ?_⟩;obtain ⟨e',he',heq⟩:=VM.1 (hall e he);exact pd _ hok.born (h.sub e' he') he heq ▸ he'
theorem o3 {α:Type}: ∀ {l m:List α},l.Nodup→m.Nodup→(∀ a,a∈l↔a∈m)→l.Perm m
 | [],m,_,_,h=>by
  cases m with
  |nil=>exact .refl _
  |cons b m=>exact absurd ((h b).2 Vr) (by simp)
 |a::l,m,hl,hm,h=>by
  have ha:a∈m:=(h a).1 Vr;obtain ⟨s,t,rfl⟩:=List.append_of_mem ha;have hl' :=Xe.1 hl;have hp:(s++a::t).Perm (a::(s++t)):=XI;have hm2:=Xe.1 (hp.nodup_iff.1 hm);refine (List.Perm.cons a (o3 hl'.2 hm2.2 fun x=> ?_)).trans hp.symm;have hx:=h x;rw [hp.mem_iff,VN,VN] at hx;constructor
  ·intro hxl;rcases hx.1 (.inr hxl) with e|h1
   ·exact absurd (e ▸ hxl) hl'.1
   ·exact h1
  ·intro hxm;rcases hx.2 (.inr hxm) with e|h1
   ·exact absurd (e ▸ hxm) hm2.1
   ·exact h1
theorem Vis.perm {κ:Type} [DecidableEq κ] {es vis:List (κ × Value × Nat)} {clock:Nat} (h:Vis es vis) (hok:MapOk es clock) (hall: ∀ e∈es,e.2.2∈vis.map fun e=>e.2.2):vis.Perm es:=
 o3 (lm _ h.nodup) (lm _ hok.born) (h.mem hok hall)
theorem GH {P:Program} {K:TypeId} {q:IntKind} [hK:Und P K (.int q)]:KLaw P K (fun z:Int=>Value.int q z):={
 check:=fun e k w=>by
  have h: ∀ m,(Instr.checkKey e (m+1) K (.int q k)).run P w= .ok () w:=fun m=>by simp only [Instr.checkKey,Sem.run_bind,run_underlying hK.out,Result.andThen_ok,Sem.run_pure]
  exact h 9999
 find:=fun k es w=>by
  have h: ∀ (es:List (Int × Value × Nat)) (i:Nat),Instr.findNow (.int q) (.int q k) (es.map (iS fun z:Int=>Value.int q z)) i=some (co k es i):=by
   intro es
   induction es with
   |nil=>intro i;rfl
   |cons e es ih=>
    intro i;have hb:(k==e.1)=decide (k=e.1):=by rw [V3];simp
    simp only [VU,Instr.findNow,iS,Instr.sameNow,if_true,co,hb];by_cases hk:k=e.1
    ·simp [hk]
    ·simp only [decide_eq_false hk,hk,if_false];exact ih _
  simp only [Instr.findKey,Sem.run_bind,run_underlying hK.out,Result.andThen_ok,h,Sem.run_pure]
 stays:=fun k w=>by
  have h:Instr.sameBits 10000 (.int q k) (.int q k)=true:=by unfold Instr.sameBits;simp
  simp only [Instr.keyThatStays,h,if_true,Sem.run_pure] }
open Go.Proofs
structure Qu where
 g:Nat
 off:Nat
 k:Nat
 n:Nat
 c:Nat
 ys:List Value
def Qu.v (q:Qu):Value:= .slice (some ⟨q.g,q.off,none⟩) (q.n - q.k) (q.c - q.k)
structure Qu.ok {α:Type} (q:Qu) (enc:α→List Value) (sz:Nat) (L:List α):Prop where
 le:q.k≤q.n
 off:q.k<q.c→q.off=q.k*sz
 len:q.n - q.k=L.length
 cells:q.ys.drop (q.k*sz)=L.flatMap enc
def Qu.pop (q:Qu) (sz:Nat):Qu:={ q with off:=if q.c - q.k=1 then q.off else q.off+1*sz,k:=q.k+1 }
theorem Qu.ok.pop {α:Type} {q:Qu} {enc:α→List Value} {sz:Nat} {a:α} {L:List α} (h:q.ok enc sz (a::L)) (he:(enc a).length=sz) (hc:q.n≤q.c):(q.pop sz).ok enc sz L:=by
 have hl:=h.len;rw [Vw] at hl;have h0:=h.off (by omega);refine ⟨by simp only [Qu.pop];omega,fun hk=> ?_,by simp only [Qu.pop];omega,?_⟩
 ·simp only [Qu.pop] at hk ⊢;rw [if_neg (by omega),h0,Xm]
 ·have h1:=h.cells;simp only [Qu.pop];rw [Xm,XX,← Xi,h1,VE,← he,List.drop_left]
theorem Kl (w:World) (d:Nat) (a b:Vl):(Op.equalIn (d+3) 130 (.agg (eZ a).toArray) (.agg (eZ b).toArray)).run Tryz.prog w= .ok (eqV a b) w:=by
 rw [run_equalIn_agg w (d+2) 130 _ _ (by rw [Program.fieldsOf,Tryz.underlying130]) Tryz.stoodInHeld130];simp only [Program.fieldsOf,Tryz.underlying130];simp [Op.eqFields,eZ,part,go_sem,JH,P0,eqV];by_cases h1:a.kind=b.kind<;>by_cases h2:a.num=b.num<;>by_cases h3:a.text=b.text<;>simp [h1,h2,h3]
theorem w9 (w:World) (d:Nat) (a b:Rct):(Op.equalIn (d+3) 53 (.agg (bz a).toArray) (.agg (bz b).toArray)).run Tryz.prog w= .ok (eqR a b) w:=by
 rw [run_equalIn_agg w (d+2) 53 _ _ (by rw [Program.fieldsOf,Tryz.underlying53]) Tryz.stoodInHeld53];simp only [Program.fieldsOf,Tryz.underlying53];simp [Op.eqFields,bz,part,go_sem,JH,P0,eqR];by_cases h1:a.c1=b.c1<;>by_cases h2:a.r1=b.r1<;>by_cases h3:a.c2=b.c2<;>by_cases h4:a.r2=b.r2<;>simp [h1,h2,h3,h4]
theorem xa (w:World) (d:Nat) (a b:Rf):(Op.equalIn (d+3) 35 (.agg (aw a).toArray) (.agg (aw b).toArray)).run Tryz.prog w= .ok (eqF a b) w:=by
 rw [run_equalIn_agg w (d+2) 35 _ _ (by rw [Program.fieldsOf,Tryz.underlying35]) Tryz.stoodInHeld35];simp only [Program.fieldsOf,Tryz.underlying35];simp [Op.eqFields,aw,part,go_sem,JH,P0,eqF];by_cases h1:a.col=b.col<;>by_cases h2:a.row=b.row<;>simp [h1,h2]
theorem Km (w:World) (d:Nat) (a b:Nd):(Op.equalIn (d+5) 132 (.agg (bu a).toArray) (.agg (bu b).toArray)).run Tryz.prog w= .ok (eqN a b) w:=by
 rw [run_equalIn_agg w (d+4) 132 _ _ (by rw [Program.fieldsOf,Tryz.underlying132]) Tryz.stoodInHeld132];simp only [Program.fieldsOf,Tryz.underlying132];have hv: ∀ w,(Op.equalIn (d+4) 130 (.agg #[.int .u8 a.v.kind,.int .i64 a.v.num,.string a.v.text]) (.agg #[.int .u8 b.v.kind,.int .i64 b.v.num,.string b.v.text])).run Tryz.prog w= .ok (eqV a.v b.v) w:=fun w=>Kl w (d+1) a.v b.v;have hr: ∀ w,(Op.equalIn (d+4) 53 (.agg #[.int .i64 a.rect.c1,.int .i64 a.rect.r1,.int .i64 a.rect.c2,.int .i64 a.rect.r2]) (.agg #[.int .i64 b.rect.c1,.int .i64 b.rect.r1,.int .i64 b.rect.c2,.int .i64 b.rect.r2])).run Tryz.prog w= .ok (eqR a.rect b.rect) w:=fun w=>w9 w (d+1) a.rect b.rect;simp [Op.eqFields,bu,part,go_sem,JH,P0,eqN,hv,hr];by_cases h1:a.kind=b.kind<;>by_cases h2:eqV a.v b.v=true<;>by_cases h3:eqR a.rect b.rect=true<;>by_cases h4:a.op=b.op<;>by_cases h5:a.fn=b.fn<;>by_cases h6:a.n=b.n<;>simp [h1,h2,h3,h4,h5,h6]
theorem Rn (w:World) (d:Nat) (a b:Us):(Op.equalIn (d+5) 128 (.agg (cw a).toArray) (.agg (cw b).toArray)).run Tryz.prog w= .ok (eqU a b) w:=by
 rw [run_equalIn_agg w (d+4) 128 _ _ (by rw [Program.fieldsOf,Tryz.underlying128]) Tryz.stoodInHeld128];simp only [Program.fieldsOf,Tryz.underlying128];have hr: ∀ w,(Op.equalIn (d+4) 53 (.agg #[.int .i64 a.rect.c1,.int .i64 a.rect.r1,.int .i64 a.rect.c2,.int .i64 a.rect.r2]) (.agg #[.int .i64 b.rect.c1,.int .i64 b.rect.r1,.int .i64 b.rect.c2,.int .i64 b.rect.r2])).run Tryz.prog w= .ok (eqR a.rect b.rect) w:=fun w=>w9 w (d+1) a.rect b.rect;simp [Op.eqFields,cw,part,go_sem,JH,P0,eqU,hr];by_cases h1:eqR a.rect b.rect=true<;>by_cases h2:a.node=b.node<;>by_cases h3:a.fn=b.fn<;>simp [h1,h2,h3]
section
variable {w0:World} {s:aC} {H:List Blk} {ty t' :TypeId} {x y:Operand}
theorem H8 {a b:Vl} (hx:ev s x=some (.agg (eZ a).toArray)) (hy:ev s y=some (.agg (eZ b).toArray)):VOp Tryz.prog w0 s H (.binOp .eql 130 x y t') ty (.bool (eqV a b)):=fun ρ w _ _ _ _ hρ _=>by
 have h:=Kl w 9997 a b;simp only [Nat.reduceAdd] at h;simp only [execOp,hρ x _ hx,hρ y _ hy,Sem.run_bind,run_eqGuard_agg w _ _ _ _ _ _ Tryz.eqGuardType130,Result.andThen_ok,run_eql_struct,h,Sem.run_pure]
theorem NU {a b:Rf} (hx:ev s x=some (.agg (aw a).toArray)) (hy:ev s y=some (.agg (aw b).toArray)):VOp Tryz.prog w0 s H (.binOp .eql 35 x y t') ty (.bool (eqF a b)):=fun ρ w _ _ _ _ hρ _=>by
 have h:=xa w 9997 a b;simp only [Nat.reduceAdd] at h;simp only [execOp,hρ x _ hx,hρ y _ hy,Sem.run_bind,run_eqGuard_agg w _ _ _ _ _ _ Tryz.eqGuardType35,Result.andThen_ok,run_eql_struct,h,Sem.run_pure]
theorem NS {a b:Rf} (hx:ev s x=some (.agg (aw a).toArray)) (hy:ev s y=some (.agg (aw b).toArray)):VOp Tryz.prog w0 s H (.binOp .neq 35 x y t') ty (.bool (!eqF a b)):=fun ρ w _ _ _ _ hρ _=>by
 have h:=xa w 9997 a b;simp only [Nat.reduceAdd] at h;simp only [execOp,hρ x _ hx,hρ y _ hy,Sem.run_bind,run_eqGuard_agg w _ _ _ _ _ _ Tryz.eqGuardType35,Result.andThen_ok,run_neq_struct,h,Sem.run_pure]
theorem TB {a b:Nd} (hx:ev s x=some (.agg (bu a).toArray)) (hy:ev s y=some (.agg (bu b).toArray)):VOp Tryz.prog w0 s H (.binOp .eql 132 x y t') ty (.bool (eqN a b)):=fun ρ w _ _ _ _ hρ _=>by
 have h:=Km w 9995 a b;simp only [Nat.reduceAdd] at h;simp only [execOp,hρ x _ hx,hρ y _ hy,Sem.run_bind,run_eqGuard_agg w _ _ _ _ _ _ Tryz.eqGuardType132,Result.andThen_ok,run_eql_struct,h,Sem.run_pure]
theorem uR {a b:Nd} (hx:ev s x=some (.agg (bu a).toArray)) (hy:ev s y=some (.agg (bu b).toArray)):VOp Tryz.prog w0 s H (.binOp .neq 132 x y t') ty (.bool (!eqN a b)):=fun ρ w _ _ _ _ hρ _=>by
 have h:=Km w 9995 a b;simp only [Nat.reduceAdd] at h;simp only [execOp,hρ x _ hx,hρ y _ hy,Sem.run_bind,run_eqGuard_agg w _ _ _ _ _ _ Tryz.eqGuardType132,Result.andThen_ok,run_neq_struct,h,Sem.run_pure]
theorem Tu {a b:Us} (hx:ev s x=some (.agg (cw a).toArray)) (hy:ev s y=some (.agg (cw b).toArray)):VOp Tryz.prog w0 s H (.binOp .neq 128 x y t') ty (.bool (!eqU a b)):=fun ρ w _ _ _ _ hρ _=>by
 have h:=Rn w 9995 a b;simp only [Nat.reduceAdd] at h;simp only [execOp,hρ x _ hx,hρ y _ hy,Sem.run_bind,run_eqGuard_agg w _ _ _ _ _ _ Tryz.eqGuardType128,Result.andThen_ok,run_neq_struct,h,Sem.run_pure]
end
instance klaw_F:KLaw Tryz.prog 35 (fun a:Rf=>Value.agg (aw a).toArray):={
 check:=fun e k w=>by
  have h: ∀ m,(Instr.checkKey e (m+2) 35 (.agg (aw k).toArray)).run Tryz.prog w= .ok () w:=fun m=>by
   simp [Instr.checkKey,aw,part,go_sem,Tryz.underlying35]
  exact h 9998
 find:=fun k es w=>by
  have hask: ∀ (es:List (Rf × Value × Nat)) (i:Nat),(Instr.findAsking 35 (.agg (aw k).toArray) (es.map (iS fun a:Rf=>Value.agg (aw a).toArray)) i).run Tryz.prog w= .ok (co k es i) w:=by
   intro es
   induction es with
   |nil=>intro i;rfl
   |cons e es ih=>
    intro i;have h:(Op.equalIn Op.maxDepth 35 (.agg (aw k).toArray) (.agg (aw e.1).toArray)).run Tryz.prog w= .ok (eqF k e.1) w:=xa w 9997 k e.1;rw [qY] at h;simp only [VU,Instr.findAsking,iS,Op.equal,Sem.run_bind,h,Result.andThen_ok,co];by_cases hk:k=e.1
    ·simp only [hk,decide_true,if_true,Sem.run_pure]
    ·simp only [hk,decide_false,if_false,V2];exact ih _
  have hu:=run_underlying (P:=Tryz.prog) (w:=w) Tryz.underlying35
  cases es with
  |nil=>simp only [Instr.findKey,Wv,Instr.findNow,Sem.run_bind,hu,Result.andThen_ok,Sem.run_pure,co]
  |cons e es=>
   have:=hask (e::es) 0;simp only [VU] at this ⊢;simp only [Instr.findKey,Instr.findNow,iS,Instr.sameNow,Sem.run_bind,hu,Result.andThen_ok];exact this
 stays:=fun k w=>by
  have h:Instr.sameBits 10000 (.agg (aw k).toArray) (.agg (aw k).toArray)=true:=by
   have h: ∀ m,Instr.sameBits (m+1) (.agg (aw k).toArray) (.agg (aw k).toArray)=true:=fun m=>by simp [Instr.sameBits,aw]
   exact h 9999
  simp only [Instr.keyThatStays,h,if_true,Sem.run_pure] }
attribute [local irreducible] FnAt FnIn VOp W WA WG WL WQ aS blk thn
theorem xo {α:Type} [DecidableEq α] {L M:List α} {i:Nat} (h1:i<L.length) (h2:i<M.length):decide (L.drop i=M.drop i)=(decide (L[i]=M[i]) && decide (L.drop (i+1)=M.drop (i+1))):=by
 rw [Vy h1,Vy h2];simp only [List.cons.injEq,Bool.decide_and]
end Go.SL

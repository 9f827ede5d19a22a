/-
  Lemmas and walks, put together: Sl26 Sl27 Sl28 Sb W2.
-/
import Derived.OrdersIn
import Derived.Test.YthefeclkaaocnaaGreatDoorKl08
import Derived.Test.YthefeclkaaocnaaGreatDoorKl09
set_option linter.unusedSimpArgs false
set_option linter.unusedVariables false
set_option maxRecDepth 20000
namespace Go.SL
open Go Go.RowKit
section
variable {P:Program} {ops:Array Oper} {es ps:List Nat} {C:World→Prop}
def NormUp (P:Program) (K:Value→World→Prop):Result Next→Prop
 | .ok (.value v) w' =>K v w'
 | .ok .skip w' =>K undef w'
 | .ok (.enter f args) w' =>Calls P f args w' fun e w'' => ∃ v,e= .returned v∧K v w''
 | .ok (.row row args) w' =>Rows P row args w' fun v w'' =>K v w''
 |_=>False
theorem NormUp.mono {K K' :Value→World→Prop} {r:Result Next} (h:NormUp P K r) (hk: ∀ v w,K v w→K' v w):NormUp P K' r:=by
 cases r with
 |ok x w' =>
  cases x<;>simp only [NormUp] at h ⊢
  case value v=>exact hk _ _ h
  case skip=>exact hk _ _ h
  case enter f args=>exact h.mono fun e w'' ⟨v,he,h1⟩=>⟨v,he,hk _ _ h1⟩
  case row f args=>exact Rows.mono h fun v w'' h1=>hk _ _ h1
 |halt x w' =>exact h
theorem NormUp.ex {K:Value→World→Prop} {r:Result Next} (h:NormUp P K r): ∃ v w',K v w' :=by
 cases r with
 |ok x w' =>
  cases x<;>simp only [NormUp] at h
  case value v=>exact ⟨_,_,h⟩
  case skip=>exact ⟨_,_,h⟩
  case enter f args=>
   obtain ⟨e,w1,fr,⟨v,_,h1⟩,_⟩:=h []
   exact ⟨_,_,h1⟩
  case row f args=>
   obtain ⟨v,w1,h1,_⟩:=h (Frame.enter P 0 #[] .normal) []
   exact ⟨_,_,h1⟩
 |halt x w' =>exact h.elim
theorem NormUp.upon {K:Act→World→Prop} {Q:Exit→Act→World→Prop} {o:Oper} {a:Act} {r:Result Next} (h:NormUp P (fun v w' =>K (a.put o.dst v) w') r):o.upon P a K Q r:=by
 cases r with
 |ok x w' =>
  cases x<;>simp only [NormUp] at h<;>simp only [Oper.upon]
  case value v=>exact h
  case skip=>exact h
  case enter f args=>
   refine h.mono fun e w'' ⟨v,he,h1⟩=> ?_
   subst he
   exact h1
  case row f args=>exact h
 |halt x w' =>exact h.elim
inductive EOp (P:Program) (ops:Array Oper) (es ps:List Nat) (C:World→Prop) (K:Act→World→Prop) (i:Nat) (o:Oper) (a:Act) (w:World):Prop
 |pass (hw:Region.wanted o (yielded ops a.tmps)=false) (hk:K (a.put o.dst undef) w)
 |quiet (hw:Region.wanted o (yielded ops a.tmps)=true) (hi:i∉es) (v:Value) (hr:(execOp a.eval o).run P w= .ok (.value v) w) (hst:i∈ps∨ ∀ w1,C w1→(execOp a.eval o).run P w1= .ok (.value v) w1) (hk:K (a.put o.dst v) w)
 |eff (hw:Region.wanted o (yielded ops a.tmps)=true) (hi:i∈es) (hk:NormUp P (fun v w' =>K (a.put o.dst v) w') ((execOp a.eval o).run P w))
def AnyE (P:Program) (ops:Array Oper) (es ps:List Nat) (C:World→Prop) (Q:Act→World→Prop):Nat→Array Bool→Act→World→Prop
 |0,L,a,w=>C w∧Region.ready .any ops L= []∧Q a w
 |f+1,L,a,w=>C w∧(Region.ready .any ops L= []→Q a w)∧ ∀ i∈Region.ready .any ops L,∃ o,ops[i]? =some o∧EOp P ops es ps C (AnyE P ops es ps C Q f (L.setIfInBounds i true)) i o a w
theorem AnyE.inC {Q:Act→World→Prop} {f:Nat} {L:Array Bool} {a:Act} {w:World} (h:AnyE P ops es ps C Q f L a w):C w:=by
 cases f with
 |zero=>exact h.1
 |succ f=>exact h.1
theorem eX {Q:Act→World→Prop} {Q' :Exit→Act→World→Prop} (hQ: ∀ a w,Q a w→Q' .normal a w): ∀ (f:Nat) (L:Array Bool) (a:Act) (w:World),AnyE P ops es ps C Q f L a w→wpAny P .any ops Q' f L a w
 |0,L,a,w,h=>⟨h.2.1,hQ _ _ h.2.2⟩
 |f+1,L,a,w,h=>⟨fun h0=>hQ _ _ (h.2.1 h0),fun i hi=>by
   obtain ⟨o,ho,hg⟩:=h.2.2 i hi
   unfold wpOp
   simp only [ho]
   cases hg with
   |pass hw hk=>
    simp only [hw,MG,if_false]
    exact eX hQ f _ _ _ hk
   |quiet hw _ v hr _ hk=>
    simp only [hw,if_true]
    refine .inl ?_
    unfold Oper.wp
    rw [hr]
    exact eX hQ f _ _ _ hk
   |eff hw _ hk=>
    simp only [hw,if_true]
    refine .inl ?_
    unfold Oper.wp
    exact NormUp.upon (hk.mono fun v w' h1=>eX hQ f _ _ _ h1)⟩
def ClosedL (ops:Array Oper) (L:Array Bool):Prop:= ∀ i o,ops[i]? =some o→L.getD i false=true→ ∀ e∈o.after,Region.binds .any e=true→L.getD e.on false=true
theorem ClosedL.set {L:Array Bool} (h:ClosedL ops L) {i:Nat} (hi:i∈Region.ready .any ops L):ClosedL ops (L.setIfInBounds i true):=by
 obtain ⟨_,oi,hoi,hall⟩:=mem_ready.1 hi
 have up: ∀ j,L.getD j false=true→(L.setIfInBounds i true).getD j false=true:=fun j hj=>by
  by_cases e:i=j
  ·
   subst e
   have:i<L.size:=by
    rcases MV i L.size with h1|h1
    ·
     exact h1
    ·
     rw [L8,Nm h1] at hj;cases hj
   simp [this]
  ·
   rw [getD_set_ne false e];exact hj
 intro j o ho hj e he hb
 by_cases hij:i=j
 ·
  subst hij
  rw [hoi] at ho
  injection ho with ho
  subst ho
  exact up _ (hall e he hb)
 ·
  rw [getD_set_ne false hij] at hj
  exact up _ (h j o ho hj e he hb)
def qu (ops:Array Oper) (i j:Nat):Prop:= ∀ L,ClosedL ops L→i∈Region.ready .any ops L→j∈Region.ready .any ops L→False
theorem EOp.of_put {K K' :Act→World→Prop} {i:Nat} {oi oj:Oper} {a:Act} {w:World} {u:Value} (hap:oi.apart ops oj=true) (hsi: ∀ cs b,oi.op≠ .select cs b)
  (h:EOp P ops es ps C K i oi a w) (hk: ∀ v w',K (a.put oi.dst v) w' →K' ((a.put oj.dst u).put oi.dst v) w'):EOp P ops es ps C K' i oi (a.put oj.dst u) w:=by
 obtain ⟨h1,h2,h3⟩:=Oper.apart_spec hap
 have he:=execOp_put oi hsi a oj.dst u h3
 have hw:=wanted_put oi a oj.dst u h3
 cases h with
 |pass hw' hk' =>exact .pass (hw.trans hw') (hk _ _ hk')
 |quiet hw' hi v hr hst hk' =>exact .quiet (hw.trans hw') hi v (by rw [he];exact hr) (by rw [he];exact hst) (hk _ _ hk')
 |eff hw' hi hk' =>exact .eff (hw.trans hw') hi (by rw [he];exact hk'.mono fun v w' h=>hk _ _ h)
theorem s5 {Q:Act→World→Prop} {i:Nat} {oi:Oper} (hi:ops[i]? =some oi) (hsel: ∀ (j:Nat) (o:Oper) cs b,ops[j]? =some o→o.op≠ .select cs b)
  (hnb: ∀ x∈es,∀ y,y∈es∨y∈ps→x≠y→qu ops x y):
  ∀ (f:Nat) (L:Array Bool) (a:Act) (w:World),ClosedL ops L→C w→
   (∀ j oj,ops[j]? =some oj→j≠i→L.getD j true=false→(∀ e∈oj.after,Region.binds .any e=true→e.on≠i)→oi.apart ops oj=true)→
   i∈Region.ready .any ops L→EOp P ops es ps C (AnyE P ops es ps C Q f (L.setIfInBounds i true)) i oi a w→AnyE P ops es ps C Q (f+1) L a w
 |0,L,a,w,hcl,hC,_,hr,hy=>⟨hC,fun h=>(by rw [h] at hr;cases hr),fun j hj=>by
   by_cases hji:j=i
   ·
    subst hji;exact ⟨oi,hi,hy⟩
   ·
    exfalso
    have hne:=ready_mono hj hji
    have hE: ∃ a' w',AnyE P ops es ps C Q 0 (L.setIfInBounds i true) a' w' :=by
     cases hy with
     |pass _ hk=>exact ⟨_,_,hk⟩
     |quiet _ _ _ _ _ hk=>exact ⟨_,_,hk⟩
     |eff _ _ hk=>obtain ⟨v,w',h⟩:=hk.ex;exact ⟨_,_,h⟩
    obtain ⟨a',w',_,h0,_⟩:=hE
    rw [h0] at hne
    cases hne⟩
 |f+1,L,a,w,hcl,hC,hfree,hr,hy=>⟨hC,fun h=>(by rw [h] at hr;cases hr),fun j hj=>by
   by_cases hji:j=i
   ·
    subst hji;exact ⟨oi,hi,hy⟩
   ·
    have hj' :=ready_mono hj hji
    obtain ⟨hjun,oj,hoj,hall⟩:=mem_ready.1 hj
    have hnot: ∀ e∈oj.after,Region.binds .any e=true→e.on≠i:=fun e he hb heq=>by
     have h1:=hall e he hb
     have h0:=(mem_ready.1 hr).1
     rw [heq] at h1
     rcases MV i L.size with h' |h'
     ·
      simp [h'] at h0 h1;rw [h0] at h1;cases h1
     ·
      simp [Nm h'] at h1
    have hap:=hfree j oj hoj hji hjun hnot
    obtain ⟨h1,h2,h3⟩:=Oper.apart_spec hap
    have hsi:=fun cs b=>hsel i oi cs b hi
    have hsj:=fun cs b=>hsel j oj cs b hoj
    have hej: ∀ v,execOp (a.put oi.dst v).eval oj=execOp a.eval oj:=fun v=>execOp_put oj hsj a oi.dst v h1
    have hwj: ∀ v,Region.wanted oj (yielded ops (a.put oi.dst v).tmps)=Region.wanted oj (yielded ops a.tmps):=fun v=>wanted_put oj a oi.dst v h1
    have hcomm: ∀ v u,(a.put oi.dst v).put oj.dst u=(a.put oj.dst u).put oi.dst v:=fun v u=>Act.put_comm a v u h2
    have hset:(L.setIfInBounds i true).setIfInBounds j true=(L.setIfInBounds j true).setIfInBounds i true:=NH _ _ (Ne.symm hji)
    have hfree' : ∀ k ok,ops[k]? =some ok→k≠i→(L.setIfInBounds j true).getD k true=false→
      (∀ e∈ok.after,Region.binds .any e=true→e.on≠i)→oi.apart ops ok=true:=fun k ok hk hki hun hno=>by
     refine hfree k ok hk hki ?_ hno
     by_cases hjk:j=k
     ·
      subst hjk;exact hjun
     ·
      rw [getD_set_ne true hjk] at hun;exact hun
    have ih:=s5 (Q:=Q) hi hsel hnb f (L.setIfInBounds j true)
    have hcl' :=hcl.set hj
    have hr' :=ready_mono hr (Ne.symm hji)
    -- what comes of j behind an outcome of i
    have hJ: ∀ v w',AnyE P ops es ps C Q (f+1) (L.setIfInBounds i true) (a.put oi.dst v) w' →EOp P ops es ps C (AnyE P ops es ps C Q f ((L.setIfInBounds j true).setIfInBounds i true)) j oj (a.put oi.dst v) w' :=fun v w' h=>by
     obtain ⟨o,ho,hE⟩:=h.2.2 j hj'
     have e:o=oj:=Option.some.inj (ho.symm.trans hoj)
     subst e
     rw [hset] at hE
     exact hE
    refine ⟨oj,hoj,?_⟩
    have hstill:(∃ v,AnyE P ops es ps C Q (f+1) (L.setIfInBounds i true) (a.put oi.dst v) w∧ ∀ (u:Value) (w2:World) (K' :Act→World→Prop),C w2→(i∈ps→w2=w)→K' ((a.put oj.dst u).put oi.dst v) w2→EOp P ops es ps C K' i oi (a.put oj.dst u) w2)∨
      (Region.wanted oi (yielded ops a.tmps)=true∧i∈es∧NormUp P (fun v w' =>AnyE P ops es ps C Q (f+1) (L.setIfInBounds i true) (a.put oi.dst v) w') ((execOp a.eval oi).run P w)):=by
     cases hy with
     |pass hw hk=>exact .inl ⟨undef,hk,fun u w2 K' _ _ hk' => .pass ((wanted_put oi a oj.dst u h3).trans hw) hk'⟩
     |quiet hw hies v hrun hst hk=>
      refine .inl ⟨v,hk,fun u w2 K' hC2 hps hk' => ?_⟩
      have he:=execOp_put oi hsi a oj.dst u h3
      have hrun2:(execOp a.eval oi).run P w2= .ok (.value v) w2:=by
       rcases hst with h|h
       ·
        rw [hps h];exact hrun
       ·
        exact h w2 hC2
      exact .quiet ((wanted_put oi a oj.dst u h3).trans hw) hies v (by rw [he];exact hrun2) (by rw [he];exact hst) hk'
     |eff hw hies hk=>exact .inr ⟨hw,hies,hk⟩
    rcases hstill with ⟨v,hk,hS⟩|⟨hw,hies,hk⟩
    ·
     cases hJ v w hk with
     |pass hwj' hkj=>exact .pass ((hwj v).symm.trans hwj') (ih _ w hcl' hC hfree' hr' (hS undef w _ hC (fun _=>rfl) (by rw [← hcomm];exact hkj)))
     |quiet hwj' hjes u hrun hst hkj=>
      rw [hej] at hrun hst
      exact .quiet ((hwj v).symm.trans hwj') hjes u hrun hst (ih _ w hcl' hC hfree' hr' (hS u w _ hC (fun _=>rfl) (by rw [← hcomm];exact hkj)))
     |eff hwj' hjes hkj=>
      rw [hej] at hkj
      exact .eff ((hwj v).symm.trans hwj') hjes (hkj.mono fun u w2 hk2=>ih _ w2 hcl' hk2.inC hfree' hr' (hS u w2 _ hk2.inC (fun hps=>(hnb j hjes i (.inr hps) hji L hcl hj hr).elim) (by rw [← hcomm];exact hk2)))
    ·
     obtain ⟨v0,w1,h0⟩:=hk.ex
     cases hJ v0 w1 h0 with
     |pass hwj' hkj=>
      have hwa:=(hwj v0).symm.trans hwj'
      refine .pass hwa (ih _ w hcl' hC hfree' hr' (EOp.of_put hap hsi (.eff hw hies hk) fun v w' h=> ?_))
      cases hJ v w' h with
      |pass _ h' =>rw [← hcomm];exact h'
      |quiet hw2 _ _ _ _ _=>rw [hwj,hwa] at hw2;cases hw2
      |eff hw2 _ _=>rw [hwj,hwa] at hw2;cases hw2
     |quiet hwj' hjes u hrun hst hkj=>
      have hwa:=(hwj v0).symm.trans hwj'
      have hst2: ∀ w1,C w1→(execOp a.eval oj).run P w1= .ok (.value u) w1:=by
       rcases hst with h|h
       ·
        exact (hnb i hies j (.inr h) (Ne.symm hji) L hcl hr hj).elim
       ·
        rw [hej] at h;exact h
      refine .quiet hwa hjes u (hst2 w hC) (.inr hst2) (ih _ w hcl' hC hfree' hr' (EOp.of_put hap hsi (.eff hw hies hk) fun v w' h=> ?_))
      cases hJ v w' h with
      |pass hw2 _=>rw [hwj,hwa] at hw2;cases hw2
      |eff _ hjes2 _=>exact absurd hjes2 hjes
      |quiet _ _ u' hr2 hst' h' =>
       have hst3:(execOp a.eval oj).run P w= .ok (.value u') w:=by
        rcases hst' with h|h
        ·
         exact (hnb i hies j (.inr h) (Ne.symm hji) L hcl hr hj).elim
        ·
         have:=h w hC
         rw [hej] at this;exact this
       rw [hst2 w hC] at hst3
       injection hst3 with h4
       injection h4 with h4
       subst h4
       rw [← hcomm];exact h'
     |eff hwj' hjes hkj=>exact (hnb i hies j (.inl hjes) (Ne.symm hji) L hcl hr hj).elim⟩
def wpE (P:Program) (ops:Array Oper) (es ps:List Nat) (C:World→Prop) (Q:Act→World→Prop):List Oper→Nat→Act→World→Prop
 | [],_,a,w=>C w∧Q a w
 |o::r,k,a,w=>C w∧EOp P ops es ps C (wpE P ops es ps C Q r (k+1)) k o a w
theorem EOp.mono {K K' :Act→World→Prop} {i:Nat} {o:Oper} {a:Act} {w:World} (h:EOp P ops es ps C K i o a w) (hk: ∀ a w,K a w→K' a w):EOp P ops es ps C K' i o a w:=by
 cases h with
 |pass h1 h2=>exact .pass h1 (hk _ _ h2)
 |quiet h1 h2 v h3 h4 h5=>exact .quiet h1 h2 v h3 h4 (hk _ _ h5)
 |eff h1 h2 h3=>exact .eff h1 h2 (h3.mono fun _ _ h=>hk _ _ h)
theorem zI {Q:Act→World→Prop} (hs:Region.noSelect ops=true) (hnb: ∀ x∈es,∀ y,y∈es∨y∈ps→x≠y→qu ops x y): ∀ (l:List Oper) (k:Nat) (L:Array Bool) (a:Act) (w:World),(∀ j,l[j]? =ops[k+j]?)→ClosedL ops L→
  Region.lexFrom .any ops l.length k L=true→wpE P ops es ps C Q l k a w→AnyE P ops es ps C Q l.length L a w
 | [],_,_,_,_,_,_,hB,h=>⟨h.1,by simpa [Region.lexFrom] using hB,h.2⟩
 |o::l,k,L,a,w,hl,hcl,hB,h=>by
  have h0:ops[k]? =some o:=by simpa using (hl 0).symm
  simp only [L9,Region.lexFrom,LM] at hB
  obtain ⟨⟨hr,hf⟩,hB'⟩:=hB
  have hr' :k∈Region.ready .any ops L:=by simpa using hr
  exact s5 h0 (Region.noSelect_spec hs) hnb l.length L a w hcl h.1 (Region.free_spec h0 hf) hr'
   (h.2.mono fun a' w' h' =>zI hs hnb l (k+1) _ _ _ (fun j=>by have:=hl (j+1);simpa [M4,Ng 1 j] using this) (hcl.set hr') hB' h')
end
def before (l:List Oper) (i j:Nat):Bool:=match l[j]? with
 |some o=>(kM o).any fun q=>iE l l.length q i
 |none=>false
def BD (l:List Oper) (es ps:List Nat):Bool:=es.all fun i=>(es++ps).all fun j=>Nat.beq i j||before l i j||before l j i
theorem pT {l:List Oper} {i j:Nat} {L:Array Bool} (h:before l i j=true) (hcl:ClosedL l.toArray L) (hj:j∈Region.ready .any l.toArray L) (hi:i∈Region.ready .any l.toArray L):False:=by
 unfold before at h
 split at h
 ·
  rename_i o ho
  obtain ⟨q,hq,hr⟩:=List.any_eq_true.1 h
  obtain ⟨_,o',ho',hall⟩:=mem_ready.1 hj
  rw [Mr,ho] at ho'
  injection ho' with ho'
  subst ho'
  obtain ⟨e,he,hb,rfl⟩:=eD.1 hq
  have hd:L.getD e.on false=true:=hall e he hb
  have hi' :done L i=true:=iD (D:=done L) (fun x y hx hy z hz=>by
   obtain ⟨e',he',hb',rfl⟩:=eD.1 hz
   exact hcl x y (by simpa using hx) hy e' he' hb') _ _ _ hr hd
  have h0:=(mem_ready.1 hi).1
  unfold done at hi'
  rcases MV i L.size with h' |h'
  ·
   simp [h'] at h0 hi';rw [h0] at hi';cases hi'
  ·
   simp [Nm h'] at hi'
 ·
  cases h
theorem BC {l:List Oper} {es ps:List Nat} (h:BD l es ps=true): ∀ x∈es,∀ y,y∈es∨y∈ps→x≠y→qu l.toArray x y:=by
 intro x hx y hy hne L hcl h1 h2
 have h3:=MJ.1 (MJ.1 h x hx) y (Mo.2 hy)
 simp only [Nt] at h3
 rcases h3 with (h3|h3)|h3
 ·
  exact hne (Mf h3)
 ·
  exact pT h3 hcl h2 h1
 ·
  exact pT h3 hcl h1 h2
section
variable {P:Program} {n:Fr} {w0:World} {Q:bI} {s:az} {H S:List Blk} {l rest:List Oper} {ty:TypeId} {p:String} {af:Array Edge} {es ps:List Nat} {k:Nat} {gu:Option (Nat × Bool)}
def WC (P:Program) (n:Fr) (w0:World) (l:List Oper) (S:List Blk) (es ps:List Nat) (Q:bI) (rest:List Oper) (k:Nat) (s:az) (H:List Blk):Prop:=
 ∀ a w,St n s a→Mem w0 w H→Mem w0 w S→(∀ j,rest[j]? =l[k+j]?)→wpE P l.toArray es ps (fun w=>Mem w0 w S) (post n w0 Q .normal) rest k a w
theorem j6 {id:Nat} (es ps:List Nat) (S:List Blk) (hm:P.follows .mixedOrders=true) (hB:Region.lexB .any l.toArray=true) (hch:BD l es ps=true) (hS:MSub S H)
  (h:WC P n w0 l S es ps Q l 0 s H):W P n w0 (.region id l.toArray true) Q s H:=by
 intro a w hs hmem
 have hB' :=hB
 simp only [Region.lexB,LM] at hB'
 refine wp_region_any hm (eX (es:=es) (ps:=ps) (C:=fun w=>Mem w0 w S) (Q:=post n w0 Q .normal) (fun _ _ h=>h) _ _ _ _ ?_)
 have hcl:ClosedL l.toArray (Array.replicate l.toArray.size false):=fun i o _ hi=>by
  rw [L8,NI] at hi
  split at hi<;>cases hi
 have:=zI (P:=P) hB'.1 (BC hch) l.toArray.toList 0 (Array.replicate l.toArray.size false) a { w with drawn:=w.drawn+1 } (by simp) hcl (by simpa using hB'.2) (h a _ hs hmem.drew (hS.use hmem.drew) (by simp))
 simpa using this
theorem JH (h:Q .normal s H):WC P n w0 l S es ps Q [] k s H:=fun a w hs hm hS _=>⟨hS,s,H,hs,hm,h⟩
theorem dm {op:Op} {d:Nat} {v:Value} (hn:Nat.blt d n.sz=true) (hg:gok l s gu=some true) (hk:es.contains k=false) (hv:VOp P w0 s S op ty v) (h:WC P n w0 l S es ps Q rest (k+1) ((d,v)::s) H):
  WC P n w0 l S es ps Q (⟨some d,op,ty,p,af,gu⟩::rest) k s H:=by
 intro a w hs hm hS hl
 obtain ⟨h0,hl'⟩:=jZ hl
 refine ⟨hS,.quiet (dJ rfl hg hs) (by simpa using hk) v (hv a.eval w (some d) p af gu hs.eval hS) (.inr fun w1 h1=>hv a.eval w1 (some d) p af gu hs.eval h1) (h _ _ (hs.put (Mt ▸ hn) v) hm hS hl')⟩
theorem Lp {op:Op} {d:Nat} {v:Value} (hn:Nat.blt d n.sz=true) (hg:gok l s gu=some true) (hk:es.contains k=false) (hp:ps.contains k=true) (hv:VOp P w0 s H op ty v) (h:WC P n w0 l S es ps Q rest (k+1) ((d,v)::s) H):
  WC P n w0 l S es ps Q (⟨some d,op,ty,p,af,gu⟩::rest) k s H:=by
 intro a w hs hm hS hl
 obtain ⟨h0,hl'⟩:=jZ hl
 exact ⟨hS,.quiet (dJ rfl hg hs) (by simpa using hk) v (hv a.eval w (some d) p af gu hs.eval hm) (.inl (by simpa using hp)) (h _ _ (hs.put (Mt ▸ hn) v) hm hS hl')⟩
theorem JI {op:Op} {dst:Option Tmp} {d:Nat} (hd:dst=some d) (hn:Nat.blt d n.sz=true) (hg:gok l s gu=some false) (h:WC P n w0 l S es ps Q rest (k+1) ((d,undef)::s) H):
  WC P n w0 l S es ps Q (⟨dst,op,ty,p,af,gu⟩::rest) k s H:=by
 subst hd
 intro a w hs hm hS hl
 obtain ⟨h0,hl'⟩:=jZ hl
 exact ⟨hS,.pass (dJ rfl hg hs) (h _ _ (hs.put (Mt ▸ hn) undef) hm hS hl')⟩
theorem Dh {op:Op} {dst:Option Tmp} {j d:Nat} {db b:Bool} (_hj:gd l j=some d) (hv:look s d=some (.bool b))
  (k1:b=true→WC P n w0 l S es ps Q (⟨dst,op,ty,p,af,some (j,db)⟩::rest) k ((d,.bool true)::s) H)
  (k2:b=false→WC P n w0 l S es ps Q (⟨dst,op,ty,p,af,some (j,db)⟩::rest) k ((d,.bool false)::s) H):
  WC P n w0 l S es ps Q (⟨dst,op,ty,p,af,some (j,db)⟩::rest) k s H:=by
 intro a w hs hm hS hl
 cases b with
 |true=>exact k1 rfl a w (hs.shadow hv) hm hS hl
 |false=>exact k2 rfl a w (hs.shadow hv) hm hS hl
def ceP (S:List Blk) (K:az→List Blk→Prop):bI:=fun e s' H' =>e= .normal∧MSub S H' ∧K s' H'
theorem Jc {K:az→List Blk→Prop} (hS:MSub S H) (h:K s H):ceP S K .normal s H:=⟨rfl,hS,h⟩
theorem Ls {op:Op} {dst:Option Tmp} (hg:gok l s gu=some true) (hk:es.contains k=true) (h:WL P n w0 #[] [⟨dst,op,ty,p,af,none⟩] (ceP S (WC P n w0 l S es ps Q rest (k+1))) s H):
  WC P n w0 l S es ps Q (⟨dst,op,ty,p,af,gu⟩::rest) k s H:=by
 intro a w hs hm hS hl
 obtain ⟨h0,hl'⟩:=jZ hl
 refine ⟨hS,.eff (dJ rfl hg hs) (by simpa using hk) ?_⟩
 have h1:=h a w hs hm
 unfold wpList at h1
 simp only [Region.wanted,if_true] at h1
 replace h1:=h1.elim id fun ⟨_,a0,w1,s',H'',_,_,he,_⟩=>by cases he
 have hexec:execOp a.eval ⟨dst,op,ty,p,af,gu⟩=execOp a.eval ⟨dst,op,ty,p,af,none⟩:=rfl
 rw [hexec]
 have nxt: ∀ (a' :Act) (w' :World),wpList P #[] (post n w0 (ceP S (WC P n w0 l S es ps Q rest (k+1)))) [] a' w' →wpE P l.toArray es ps (fun w=>Mem w0 w S) (post n w0 Q .normal) rest (k+1) a' w' :=by
  rintro a' w' ⟨s',H',hs',hm',_,hSub,hK⟩
  exact hK a' w' hs' hm' (hSub.use hm') hl'
 unfold Oper.wp at h1
 generalize (execOp a.eval ⟨dst,op,ty,p,af,none⟩).run P w=r at h1 ⊢
 cases r with
 |ok x w' =>
  cases x<;>simp only [Oper.upon] at h1<;>simp only [NormUp]
  case value u=>exact nxt _ _ h1
  case skip=>exact nxt _ _ h1
  case defer dd=>
   obtain ⟨s',H'',hs',_⟩:=h1
   have h2:=congrArg List.length (hs'.defers.trans hs.defers.symm)
   cases dst<;>simp [Act.put] at h2
  case enter f args=>
   refine h1.mono fun e w'' he=> ?_
   cases e with
   |returned v=>exact ⟨v,rfl,nxt _ _ he⟩
   |panicked c=>
    obtain ⟨s',H'',_,_,he',_⟩:=he
    cases he'
   |outgrown=>
    obtain ⟨a0,w1,s',H'',_,_,he',_⟩:=he
    cases he'
  case row f args=>exact Rows.mono h1 fun u w'' he=>nxt _ _ he
 |halt x w' =>
  cases x<;>simp only [Oper.upon] at h1
  all_goals
   obtain ⟨s',H'',_,_,he',_⟩:=h1
   cases he'
end
theorem yS {s:az} {ρ:Operand→Value} (hρ: ∀ x u,ev s x=some u→ρ x=u): ∀ {ps:List (Nat × Operand)} {vs:List Value} {k:Nat},evd s ps k=some vs→(ps.map fun (x:Nat × Operand)=>(x.1,ρ x.2))=(vs.zipIdx k).map fun x=>(x.2,x.1)
 | [],vs,k,h=>by simp only [evd,Option.some.injEq] at h;simp [← h]
 |(i,x)::r,vs,k,h=>by
  simp only [evd] at h
  cases hb:Nat.beq i k with
  |false=>rw [hb] at h;cases h
  |true=>
   have hik:=Mf hb
   rw [hb] at h
   simp only [cond_true] at h
   split at h
   ·
    rename_i v vs' hv hvs
    simp only [Option.some.injEq] at h
    rw [← h,Mh,yS hρ hvs,List.zipIdx_cons,Mh,hρ x v hv,hik]
   ·
    cases h
theorem lN {P:Program} {w0:World} {s:az} {H:List Blk} {ty:TypeId} {t e m sz:Nat} {ps:List (Nat × Operand)} {vs xs zs:List Value} [ht:Und P t (.array m e)] [he:Size P e sz] [hz:ZeroC P t zs] (hps:evd s ps 0=some vs)
  (hs0:Nat.blt 0 sz=true) (hl:Nat.beq (vs.length*sz) zs.length=true) (h1:uj sz vs=true) (hx:pY (mQ vs)=some xs):VOp P w0 s H (.build t ps.toArray) ty (.agg xs.toArray):=fun ρ w _ _ _ _ hρ _=>by
 obtain ⟨it,z,i1,i2,i3⟩:=hz.out
 obtain ⟨ie,j1,j2⟩:=he.out
 have hall:=lR h1
 have hlen:=Mf hl
 have hfill:=Great.fill_whole (s:=sz) (by simpa using hs0) vs z.cells hall (by rw [i3];simp [hlen])
 rw [← yS hρ hps] at hfill
 have hb:P.built t (ps.map fun (x:Nat × Operand)=>(x.1,ρ x.2))=some (mQ vs).toArray:=by
  unfold Program.built
  simp only [i1,ht.out,i2,j1,j2]
  exact hfill
 have hr:=run_build (P:=P) w t (ps.map fun (x:Nat × Operand)=>(x.1,ρ x.2)).toArray (mQ vs).toArray (by simpa using hb)
 rw [gM hx]
 simp only [execOp,M9]
 simp only [Sem.run_bind,hr,Result.andThen_ok,Sem.run_pure]
section
variable {P:Program} {n:Fr} {w0:World} {Q:bI} {s:az} {H:List Blk} {ops:Array Oper} {l:List Oper}
theorem JJ {c:Code} (H' :List Blk) (hs:MSub H' H) (h:W P n w0 c Q s H'):W P n w0 c Q s H:=fun a w h1 h2=>h a w h1 (hs.use h2)
end
theorem pK {p:Prop} (h:p:=by (repeat first|exact .hd|apply Sel.tl|apply In.tl);(first|done|fail)):p:=h
theorem sB {p:Prop} (h:p:=by (repeat (first|exact Sub.nil _|refine Sub.cons rfl ?_));(first|done|fail)):p:=h
theorem mS {p:Prop} (h:p:=by (repeat (first|exact MSub.nil _|refine MSub.pick (by (repeat first|exact .hd|apply Sel.tl|apply In.tl)) ?_|exact MSub.refl _|refine MSub.drop .hd ?_));(first|done|fail)):p:=h
theorem vC {P:Program} {w0:World} {s:az} {H:List Blk} {op:Op} {ty:TypeId} {v:Value} (h:VOp P w0 s H op ty v:=by
 first
 |((with_reducible apply JQ);exact rfl)
 |((with_reducible apply xg);exact rfl)
 |((with_reducible apply KK);exact rfl)
 |((with_reducible apply Fe);exact rfl)
 |((with_reducible apply qL);exact rfl)
 |((with_reducible apply di);exact rfl;exact pK;exact rfl)
 |((with_reducible apply JX);exact rfl;exact rfl)
 |((with_reducible apply JS);exact rfl;exact rfl)
 |((with_reducible apply fY);exact rfl;exact rfl)
 |((with_reducible apply gW);exact rfl;exact rfl)
 |((with_reducible apply xc);exact rfl;exact pK;exact rfl)
 |((with_reducible apply xd);exact rfl;exact pK;exact rfl;exact rfl)
 |((with_reducible apply HR);(iterate 3 exact rfl))
 |((with_reducible apply E9);(iterate 3 exact rfl))
 |((with_reducible apply qH);exact rfl)
 |((with_reducible apply v_eqlpn);exact rfl)
 |((with_reducible apply v_neqpn);exact rfl)):VOp P w0 s H op ty v:=h
theorem vC2 {P:Program} {w0:World} {s:az} {H:List Blk} {op:Op} {ty:TypeId} {v:Value} (h:VOp P w0 s H op ty v:=by
 first
 |((with_reducible apply aU);exact rfl;exact rfl;(first|assumption|omega))
 |((with_reducible apply JW);exact rfl;exact rfl;(first|assumption|omega))
 |((with_reducible apply eO);(iterate 3 exact rfl);(first|assumption|omega))
 |((with_reducible apply qG);exact rfl;exact rfl;(first|assumption|omega))
 |((with_reducible apply HM);exact rfl;exact rfl;(first|assumption|omega))
 |((with_reducible apply zS);exact rfl;exact rfl;(first|assumption|omega))
 |((with_reducible apply aU (j:=4));exact rfl;exact rfl;(first|assumption|omega))
 |((with_reducible apply zS (hi:=4));exact rfl;exact rfl;(first|assumption|omega))
 |((with_reducible apply qG (lo:=1));exact rfl;exact rfl;(first|assumption|omega))
 |((with_reducible apply Dm);(iterate 3 exact rfl))
 |((with_reducible apply Dl);(iterate 3 exact rfl))):VOp P w0 s H op ty v:=h
theorem vA {P:Program} {w0:World} {s:az} {H:List Blk} {op:Op} {ty:TypeId} {v:Value} (h:VOp P w0 s H op ty v:=by
 first
 |((with_reducible apply dr);exact rfl;exact rfl;(simp only [maxLen] at*;omega))
 |((with_reducible apply Cr);exact rfl;exact rfl;(simp only [maxLen] at*;omega))
 |((with_reducible apply dc);exact rfl;exact rfl;(simp only [maxLen] at*;omega))
 |((with_reducible apply du);exact rfl;exact rfl;omega;(simp only [maxLen] at*;omega))
 |((with_reducible apply jr);exact rfl;exact rfl;omega;(simp only [maxLen] at*;omega))
 |((with_reducible apply zV);exact rfl;exact rfl)):VOp P w0 s H op ty v:=h
theorem vI {P:Program} {w0:World} {s:az} {H:List Blk} {op:Op} {ty:TypeId} {v:Value} (h:VOp P w0 s H op ty v:=by
 first
 |((with_reducible apply dZ);exact rfl;exact rfl;exact ⟨by omega,by omega⟩)
 |((with_reducible apply E6);exact rfl;exact rfl;exact ⟨by omega,by omega⟩)
 |((with_reducible apply qK);exact rfl;exact rfl;exact ⟨by omega,by omega⟩)):VOp P w0 s H op ty v:=h
theorem vR {P:Program} {w0:World} {s:az} {H:List Blk} {op:Op} {ty:TypeId} {v:Value} (h:VOp P w0 s H op ty v:=by
 first
 |((with_reducible apply aj);exact rfl;exact rfl;(first|assumption|omega))
 |((with_reducible apply aA);exact rfl;assumption;exact rfl)
 |((with_reducible apply iP);exact rfl;assumption)
 |((with_reducible apply dh);exact rfl;assumption;exact rfl)):VOp P w0 s H op ty v:=h
theorem sT {p q:Prop} (k:q) (h:q→p:=by
 first
 |(with_reducible first|exact mB|exact KV|exact Kz|exact E3|exact KA|exact JK|exact JO|exact HJ|exact KT|exact KW|exact Li|exact Lg|exact Lj|exact cut_r|exact cut_e)
 |(intro k;(with_reducible apply ak);exact rfl;exact vC;exact k)
 |(intro k;(with_reducible apply HA);exact rfl;exact rfl;exact k)
 |(intro k;(with_reducible apply EU);(iterate 4 exact rfl);exact k)
 |(intro k;(with_reducible apply ET);(iterate 3 exact rfl);exact k)
 |(intro k;(with_reducible apply s9);exact rfl;exact rfl;exact pK;(iterate 3 exact rfl);exact k)
 |(intro k;(with_reducible apply wV);exact rfl;exact rfl;exact pK;(iterate 4 exact rfl);exact k)
 |(intro k;(with_reducible apply w8);exact rfl;exact k)
 |(intro k;(with_reducible apply vD);exact rfl;exact k)
 |(intro k;(with_reducible apply Lf);exact rfl;exact k)):p:=h k
theorem sM {p:Prop} {q:Nat→Prop} (k: ∀ g,q g) (h:(∀ g,q g)→p:=by
 first
 |(intro k;(with_reducible apply HB);exact rfl;exact rfl;exact k)
 |(intro k;(with_reducible apply HC);(iterate 3 exact rfl);exact k)
 |(intro k;(with_reducible apply EY);exact rfl;exact k)
 |(intro k;(with_reducible apply tj);(iterate 7 exact rfl);exact k)):p:=h k
theorem sT2 {p q:Prop} (k:q) (h:q→p:=by exact ak rfl vC2):p:=h k
theorem sQ2 {p q:Prop} (k:q) (h:q→p:=by exact aK rfl vC2):p:=h k
theorem sS {p q:Prop} (k:q) (h:q→p:=by with_reducible first|exact HF|exact HG|exact scp_n|exact KZ|exact scp_e):p:=h k
theorem sP {p q:Prop} (k:q) (h:q→p:=by with_reducible first|exact KU|exact Lh|exact Le|exact scp_p):p:=h k
theorem sC {p q1 q2 r1 r2:Prop} (k1:q1→q2) (k2:r1→r2) (h:(q1→q2)→(r1→r2)→p:=by
 intro k1 k2
 first
 |((with_reducible apply Dc);exact rfl;exact rfl;exact fun hb=>k1 (Tidy.out hb);exact fun hb=>k2 (Tidy.out hb))
 |((with_reducible apply JP);exact rfl;exact fun hb=>k1 (Tidy.out hb);exact fun hb=>k2 (Tidy.out hb))):p:=h k1 k2
theorem cT {p:Prop} (h:p:=by (with_reducible apply cu (i:=()))<;>first|exact trivial|((repeat (first|exact Sub.nil _|refine Sub.cons rfl ?_));done)|((repeat (first|exact MSub.nil _|refine MSub.pick (by (repeat first|exact .hd|apply Sel.tl|apply In.tl)) ?_|exact MSub.refl _|refine MSub.drop .hd ?_));done)|fail):p:=h
theorem sQ {p q:Prop} (k:q) (h:q→p:=by
 first
 |(with_reducible exact JE)
 |(intro k;(with_reducible apply aK);exact rfl;exact vC;exact k)
 |(intro k;(with_reducible apply Hx);exact rfl;exact rfl;exact k)
 |(intro k;(with_reducible apply EO);(iterate 4 exact rfl);exact k)
 |(intro k;(with_reducible apply EN);(iterate 3 exact rfl);exact k)):p:=h k
theorem sCQ {p q1 q2 r1 r2:Prop} (k1:q1→q2) (k2:r1→r2) (h:(q1→q2)→(r1→r2)→p:=by
 intro k1 k2
 first
 |((with_reducible apply C8);exact rfl;exact rfl;exact fun hb=>k1 (Tidy.out hb);exact fun hb=>k2 (Tidy.out hb))):p:=h k1 k2
theorem sD {p q:Prop} (k:q) (h:q→p:=by intro k;(with_reducible apply fN);kernel_rfl;kernel_rfl;exact k):p:=h k
theorem sN {p q:Prop} (k:q) (h:q→p:=by exact ak rfl vA):p:=h k
theorem sNQ {p q:Prop} (k:q) (h:q→p:=by exact aK rfl vA):p:=h k
theorem sJ {p q:Prop} (k:q) (h:q→p:=by exact ak rfl vI):p:=h k
theorem sJQ {p q:Prop} (k:q) (h:q→p:=by exact aK rfl vI):p:=h k
theorem sJG {p q:Prop} (k:q) (h:q→p:=by exact w5 (f:=60) rfl (by decide+kernel) rfl vI):p:=h k
theorem sO {p q:Prop} (k:q) (h:q→p:=by exact ak rfl vR):p:=h k
theorem sOQ {p q:Prop} (k:q) (h:q→p:=by exact aK rfl vR):p:=h k
theorem sG {p q:Prop} (k:q) (h:q→p:=by
 first
 |(with_reducible exact vq)
 |(intro k;(with_reducible apply Df);exact rfl;(intro D ht;exact vC);exact fun _=>rfl;exact k)
 |exact zP _ _ rfl rfl (fun D=> .hd) rfl rfl rfl (fun _=>MW rfl) (fun D ht=> .refl _)
 |(intro k;(with_reducible apply w5 (f:=60));exact rfl;decide+kernel;exact rfl;exact vC;exact k)):p:=h k
theorem sX {p q:Prop} (k:q) (h:q→p:=by
 first
 |(with_reducible exact JC)
 |(intro k;(with_reducible apply wQ);(iterate 3 exact rfl);(intro D ht;exact vC);exact fun _=>rfl;exact k)
 |(intro k;(with_reducible apply wx_gno);(iterate 3 exact rfl);exact fun _=>rfl;exact k)):p:=h k
theorem sCX {p q1 q2 r1 r2:Prop} (k1:q1→q2) (k2:r1→r2) (h:(q1→q2)→(r1→r2)→p:=by
 intro k1 k2
 first
 |((with_reducible apply wx_gsplit);exact rfl;exact rfl;exact fun hb=>k1 (Tidy.out hb);exact fun hb=>k2 (Tidy.out hb))):p:=h k1 k2
theorem sXO {p q:Prop} (k:q) (h:q→p:=by exact wQ rfl rfl rfl (fun D ht=>vR) (fun _=>rfl)):p:=h k
theorem sBG {p q:Prop} (k:q) (h:q→p:=by with_reducible first|exact wl_app_c|exact wl_app_n):p:=h k
theorem sI {p q:Prop} (k:q) (h:q→p:=by first|(with_reducible exact Hz)|(intro k;(with_reducible apply Jp);exact rfl;exact rfl;exact vC;exact k)):p:=h k
theorem sR {p q:Prop} (k:q) (h:q→p:=by
 first
 |(with_reducible first|exact wr_seq|exact wr_ret|exact wr_exit|exact Hw|exact EM|exact EK|exact wR|exact wt_seq_c|exact wt_seq_b|exact wt_seq_k|exact wt_last_r|exact wS|exact wt_last_c|exact Ef|exact end_thn_r)
 |(intro k;(with_reducible apply wr_cond_true);exact rfl;exact k)
 |(intro k;(with_reducible apply wr_cond_false);exact rfl;exact k)
 |(intro k;(with_reducible apply C0);exact rfl;(repeat (first|exact DF|exact assignQ_no|apply no_thn|apply Kj|apply no_cut));exact k)):p:=h k
theorem sCR {p q1 q2 r1 r2:Prop} (k1:q1→q2) (k2:r1→r2) (h:(q1→q2)→(r1→r2)→p:=by
 intro k1 k2
 first
 |((with_reducible apply wr_cond);exact rfl;exact fun hb=>k1 (Tidy.out hb);exact fun hb=>k2 (Tidy.out hb))):p:=h k1 k2
theorem sW {p q:Prop} (k:q) (h:q→p:=by
 first
 |(with_reducible exact JH)
 |(intro k;(with_reducible apply dm);(iterate 3 exact rfl);exact vC;exact k)
 |(intro k;(with_reducible apply JI);(iterate 3 exact rfl);exact k)
 |(intro k;(with_reducible apply wc_gno0);exact rfl;exact k)
 |(intro k;(with_reducible apply Ls);exact rfl;exact rfl;exact k)
 |(intro k;(with_reducible apply Lp);(iterate 4 exact rfl);exact vC;exact k)
 |(intro k;(with_reducible apply Jc);exact mS;exact k)):p:=h k
theorem sW2 {p q:Prop} (k:q) (h:q→p:=by exact dm rfl rfl rfl vC2):p:=h k
theorem sWN {p q:Prop} (k:q) (h:q→p:=by exact dm rfl rfl rfl vA):p:=h k
theorem sWJ {p q:Prop} (k:q) (h:q→p:=by exact dm rfl rfl rfl vI):p:=h k
theorem sCW {p q1 q2 r1 r2:Prop} (k1:q1→q2) (k2:r1→r2) (h:(q1→q2)→(r1→r2)→p:=by
 intro k1 k2
 first
 |((with_reducible apply Dh);exact rfl;exact rfl;exact fun hb=>k1 (Tidy.out hb);exact fun hb=>k2 (Tidy.out hb))):p:=h k1 k2
theorem sG2 {p q:Prop} (k:q) (h:q→p:=by first|exact Df rfl (fun D ht=>vC2) (fun _=>rfl)|exact w5 (f:=60) rfl (by decide+kernel) rfl vC2):p:=h k
theorem sX2 {p q:Prop} (k:q) (h:q→p:=by exact wQ rfl rfl rfl (fun D ht=>vC2) (fun _=>rfl)):p:=h k
theorem eIO {p:Prop} (h:p:=by first|exact .inl rfl|exact .inr rfl):p:=h
theorem rT0 {p q:Prop} (k:q) (h:q→p:=by intro k;(with_reducible apply gX);exact .inl rfl;exact rfl;exact MSub.nil _;exact k):p:=h k
theorem rT1 {p q:Prop} (k:q) (h:q→p:=by intro k;(with_reducible apply cQ);exact .inl rfl;exact rfl;exact rfl;exact MSub.nil _;exact k):p:=h k
theorem rT2 {p q:Prop} (k:q) (h:q→p:=by intro k;(with_reducible apply ic);exact .inl rfl;(iterate 3 exact rfl);exact MSub.nil _;exact k):p:=h k
theorem rT3 {p q:Prop} (k:q) (h:q→p:=by intro k;(with_reducible apply lX);exact .inl rfl;(iterate 4 exact rfl);exact MSub.nil _;exact k):p:=h k
theorem eRC {p q:Prop} (k:q) (h:q→p:=by first|exact vO (.inl rfl) rfl rfl pK rfl (MSub.nil _)|exact vO (.inr rfl) rfl rfl pK rfl (MSub.nil _)):p:=h k
theorem eK {p q:Prop} (k:q) (h:q→p:=by first|exact CC (.inl rfl) rfl rfl pK rfl rfl (MSub.nil _)|exact CC (.inr rfl) rfl rfl pK rfl rfl (MSub.nil _)):p:=h k
theorem ck {p q:Prop} (k:q) (h:q→p:=by first|exact eR (.inl rfl) rfl rfl pK rfl rfl rfl (MSub.nil _)|exact eR (.inr rfl) rfl rfl pK rfl rfl rfl (MSub.nil _)):p:=h k
theorem nP {p:Prop} (h:p:=by (repeat (first|exact Kg|apply Kf|apply Ki|apply Kh));(first|done|fail)):p:=h
theorem vP {P:Program} {w0:World} {s:az} {H:List Blk} {op:Op} {ty:TypeId} {v:Value} (h:VOp P w0 s H op ty v:=by
 first|exact vC|((with_reducible apply jr);exact rfl;exact rfl;omega;omega)|((with_reducible apply E7);exact rfl;exact rfl;omega)):VOp P w0 s H op ty v:=h
end Go.SL
namespace Go.SL
open Go Go.Proofs
attribute [local irreducible] W WL WQ WG VOp thn blk bq aS FnIn
theorem lV (b:ByteArray):lD b=(ap b).map (Value.int .u8):=by simp [lD,ap]
theorem qQ {α β:Type} (f:α→α) (E:α→β) (xs:List α) (i:Nat) (h:i<xs.length):(((xs.take i).map f++xs.drop i).map E).set i (E (f xs[i]))=((xs.take (i+1)).map f++xs.drop (i+1)).map E:=by
 rw [← List.map_set,Ny _ _ (by simp;omega)]
 have e1:xs.drop i=xs[i]::xs.drop (i+1):=LJ h
 have e2:xs.take (i+1)=xs.take i++ [xs[i]]:=LQ h
 have e3:i - ((xs.take i).map f).length=0:=by simp;omega
 rw [e3,e1,e2]
 simp only [List.set_cons_zero,MT,Mh,MX,Mk,LD,LG]
set_option maxRecDepth 10000 in
theorem BB (f:FuncId) [Callable Tryz.prog f] (g:Int→Int) (hf: ∀ c w,ay Tryz.prog f [.int .u8 c] w (.int .u8 (g c))) (a:ByteArray) (ha:a.size≤1000000) (w:World):
  aS Tryz.prog 231 [.string a,.func (.func f) #[] #[]] w fun v H=> ∃ gb cap,v= .slice (some ⟨gb,0,none⟩) a.size cap∧H= [.byt gb 5 a.size cap (((ap a).map g).map (Value.int .u8))]:=by
 refine aq Tryz.func231 rfl Tryz.ntmps231 rfl ?_
 repeat' (first|(apply j0;exact rfl;exact rfl;intro gb cap)|refine sT ?_|refine sM fun _=> ?_|(refine sC ?_ ?_<;>intro hb<;>try omega)|fail)
 refine eM (fun i:Nat=> [(5,.slice (some ⟨gb,0,none⟩) a.size cap),(10,.slice (some ⟨gb,0,none⟩) a.size cap),(11,.int .i64 (a.size:Int)),(12,.int .i64 (i:Int)),(1,.func (.func f) #[] #[])])
  (fun i=> [.byt gb 5 a.size cap ((((ap a).take i).map g++(ap a).drop i).map (Value.int .u8))]) (fun i=>i≤a.size) (fun i=>a.size - i) 0 (by omega) ?_ ?_ ?_
 ·
  exact sB
 ·
  rw [lV];simp only [M0,MX,LG,MP];exact mS
 ·
  intro i hi
  have hl:=au a
  by_cases hlt:i<a.size
  ·
   have hil:i<(ap a).length:=by omega
   have hget:((((ap a).take i).map g++(ap a).drop i).map (Value.int .u8))[0+i*1]? =some (.int .u8 (ap a)[i]):=by
    rw [MD,show 0+i*1=i by omega,MC (by simp;omega)]
    simp [Nf (Nat.le_of_lt hil),MQ]
   repeat' (first|(apply ak;exact rfl;apply aj;exact rfl;exact rfl;exact hlt)|(apply ak;exact rfl;apply iO;exact rfl;exact .hd;exact hget)|(apply bC;exact rfl;exact rfl;infer_instance;exact rfl;(intro w hm;exact hf _ w))|(apply j5;exact rfl;exact rfl;exact .hd;exact rfl;(simp;omega))|(apply ak;exact rfl;apply dZ;exact rfl;exact rfl;(constructor<;>omega))|refine sT ?_|refine sM fun _=> ?_|(refine sC ?_ ?_<;>intro hb<;>try omega)|fail)
   refine ⟨i+1,by omega,by omega,?_,?_⟩
   ·
    exact sB
   ·
    rw [show 0+i*1=i by omega,qQ g (Value.int .u8) (ap a) i hil]
    exact mS
  ·
   have e:i=a.size:=by omega
   subst e
   repeat' (first|refine sT ?_|refine sM fun _=> ?_|(refine sC ?_ ?_<;>intro hb<;>try omega)|fail)
   refine cQ (.inl rfl) Tryz.results231 rfl (.refl _) ⟨gb,cap,rfl,?_⟩
   rw [Mm (by omega),L6 (by omega),LN]
def iU (c:Int):Int:=if c<32∨126<c then 0 else 32
set_option maxRecDepth 10000 in
theorem IK (c:Int) (w:World):ay Tryz.prog 232 [.int .u8 c] w (.int .u8 (iU c)):=by
 refine aq Tryz.func232 rfl Tryz.ntmps232 rfl ?_
 repeat' (first|refine sT ?_|refine sM fun _=> ?_|(refine sC ?_ ?_<;>intro hb<;>try omega)|fail)
 all_goals ((refine rT1 ?_);((try simp only [← Int.not_lt] at*);simp_all [iU, -Int.not_lt, -Int.not_le]))
set_option maxRecDepth 10000 in
theorem Ea (c:Int) (w:World):ay Tryz.prog 233 [.int .i32 c] w (.bool (decide (c=0))):=by
 refine aq Tryz.func233 rfl Tryz.ntmps233 rfl ?_
 repeat' (first|refine sT ?_|refine sM fun _=> ?_|(refine sC ?_ ?_<;>intro hb<;>try omega)|fail)
 all_goals ((refine rT1 ?_);rfl)
def iF (q:Int→Bool) (l:List Int):Int:=match l.findIdx? q with
 |some i=>(i:Int)
 |none=> -1
theorem yO {q:Int→Bool} {l:List Int} {i:Nat} (h:i<l.length) (hq:q l[i]=true) (hno: ∀ j (h:j<l.length),j<i→q l[j]=false):iF q l=(i:Int):=by
 have:l.findIdx? q=some i:=by
  rw [M6]
  exact ⟨h,hq,fun j hj=>by simpa using hno j (by omega) hj⟩
 simp [iF,this]
theorem wy {q:Int→Bool} {l:List Int} (hno: ∀ j (h:j<l.length),q l[j]=false):iF q l= -1:=by
 have:l.findIdx? q=none:=by
  rw [MU]
  intro x hx
  obtain ⟨j,hj,rfl⟩:=Nl hx
  exact hno j hj
 simp [iF,this]
set_option maxRecDepth 10000 in
theorem wq (f:FuncId) [Callable Tryz.prog f] (q:Int→Bool) (hf: ∀ c w,ay Tryz.prog f [.int .i32 c] w (.bool (q c))) (a:ByteArray) (ha:a.size≤1000000) (hasc: ∀ i (h:i<a.size),(a[i]'h).toNat<128) (w:World):
  ay Tryz.prog 274 [.string a,.func (.func f) #[] #[],.bool true] w (.int .i64 (iF q (ap a))):=by
 refine aq Tryz.func274 rfl Tryz.ntmps274 rfl ?_
 have hl:=au a
 repeat' (first|(apply vn;exact rfl;exact rfl;intro gi)|refine sT ?_|refine sM fun _=> ?_|(refine sC ?_ ?_<;>intro hb<;>try omega)|fail)
 refine eM (fun i:Nat=> [(0,.string a),(1,.func (.func f) #[] #[]),(2,.bool true),(10,.pointer (some ⟨gi,0,none⟩))])
  (fun i=> [.obj gi (.stringIter a i)]) (fun i=>i≤a.size∧ ∀ j (h:j<(ap a).length),j<i→q (ap a)[j]=false) (fun i=>a.size - i) 0 ⟨by omega,fun j _ h=>by omega⟩ ?_ ?_ ?_
 ·
  exact sB
 ·
  exact mS
 ·
  rintro i ⟨hi,hno⟩
  repeat' (first|(apply wW;exact rfl;exact rfl;exact .hd;exact hasc i;all_goals intro hb)|(apply bC;exact rfl;exact rfl;infer_instance;exact rfl;(intro w hm;exact hf _ w))|refine sT ?_|refine sM fun _=> ?_|(refine sC ?_ ?_<;>intro hb<;>try omega)|fail)
  all_goals (try simp only [beq_true] at*)
  ·
   rename_i hlt
   have hq:=hb
   refine cQ (.inl rfl) Tryz.results274 rfl (MSub.nil _) ?_
   have h1:=nO a i hlt
   rw [yO (i:=i) (by omega) (by rw [h1];exact hq) hno]
  ·
   rename_i hlt
   have hq:=hb
   refine ⟨i+1,⟨by omega,fun j hj hji=> ?_⟩,by omega,?_,?_⟩
   ·
    by_cases e:j=i
    ·
     subst e
     rw [nO a j hlt];exact hq
    ·
     exact hno j hj (by omega)
   ·
    exact sB
   ·
    exact mS
  ·
   have hge:=hb
   refine cQ (.inl rfl) Tryz.results274 rfl (MSub.nil _) ?_
   rw [wy fun j hj=>hno j hj (by omega)]
set_option maxRecDepth 10000 in
theorem wK (f:FuncId) [Callable Tryz.prog f] (q:Int→Bool) (hf: ∀ c w,ay Tryz.prog f [.int .i32 c] w (.bool (q c))) (a:ByteArray) (ha:a.size≤1000000) (hasc: ∀ i (h:i<a.size),(a[i]'h).toNat<128) (w:World):
  ay Tryz.prog 230 [.string a,.func (.func f) #[] #[]] w (.int .i64 (iF q (ap a))):=by
 refine aq Tryz.func230 rfl Tryz.ntmps230 rfl ?_
 repeat' (first|(apply aa;exact rfl;exact rfl;(intro w hm;exact wq f q hf a ha hasc w))|refine sT ?_|refine sM fun _=> ?_|(refine sC ?_ ?_<;>intro hb<;>try omega)|fail)
 all_goals ((refine rT1 ?_);rfl)
def iT (a:ByteArray):ByteArray:=⟨(((ap a).map iU).map fun n=>UInt8.ofNat n.toNat).toArray⟩
theorem lj (a:ByteArray):(iT a).size=a.size:=by
 have:(iT a).size=((ap a).map iU).length:=by simp [iT,ByteArray.size]
 rw [this];simp [au]
theorem pI (a:ByteArray):ap (iT a)=(ap a).map iU:=by
 simp only [ap,iT,Om]
 congr 1
 funext c
 simp only [Function.comp,iU]
 split<;>simp
theorem yN (q:Int→Bool) (l:List Int):decide (iF q l<0)=l.all fun c=> !q c:=by
 unfold iF
 cases h:l.findIdx? q with
 |none=>
  rw [MU] at h
  rw [Mp]
  simpa using h
 |some i=>
  rw [M6] at h
  obtain ⟨h1,h2,_⟩:=h
  rw [Mp]
  simp only [decide_eq_true_eq,MJ]
  constructor
  ·
   intro h;omega
  ·
   intro h
   have:=h _ (Mw h1)
   rw [h2] at this
   cases this
theorem yd (a:ByteArray):decide (iF (fun c=>decide (c=0)) (ap (iT a))<0)=lc a:=by
 rw [yN,pI]
 simp only [ap,List.all_map,lc]
 congr 1
 funext c
 have e:(decide (iU (c.toNat:Int)=0))= !(decide (32≤c.toNat) && decide (c.toNat≤126)):=by
  rw [Mp]
  by_cases h:(c.toNat:Int)<32∨126<(c.toNat:Int)
  ·
   simp only [iU,if_pos h];simp;omega
  ·
   simp only [iU,if_neg h];simp;omega
 simp only [Function.comp,e,Bool.not_not]
theorem wm (a:ByteArray): ∀ i (h:i<(iT a).size),((iT a)[i]'h).toNat<128:=by
 intro i h
 have h1:=nO (iT a) i h
 have h2:((iT a)[i].toNat:Int)=iU ((ap a)[i]'(by rw [au,← lj];exact h)):=by
  rw [← h1]
  simp [pI]
 have h3: ∀ x,iU x=0∨iU x=32:=fun x=>by unfold iU;split<;>simp
 rcases h3 ((ap a)[i]'(by rw [au,← lj];exact h)) with h4|h4<;>omega
set_option maxRecDepth 10000 in
theorem nC (a:ByteArray) (ha:a.size≤1000000) (w:World):ay Tryz.prog 191 [.string a] w (.bool (lc a)):=by
 refine aq Tryz.func191 rfl Tryz.ntmps191 rfl ?_
 repeat' (first|((with_reducible apply aG (R:=fun v H=> ∃ gb cap,v= .slice (some ⟨gb,0,none⟩) a.size cap∧H= [.byt gb 5 a.size cap (((ap a).map iU).map (Value.int .u8))]));exact rfl;exact rfl;(intro w hm;exact BB 232 iU IK a ha w);(rintro v H' ⟨gb,cap,rfl,rfl⟩))|(apply ak;exact rfl;apply oM;exact rfl;exact .hd;simp [au])|(apply aa;exact rfl;exact rfl;(intro w hm;exact wK 233 (fun c=>decide (c=0)) Ea (iT a) (by rw [lj];exact ha) (wm a) w))|refine sT ?_|refine sM fun _=> ?_|(refine sC ?_ ?_<;>intro hb<;>try omega)|fail)
 all_goals ((refine rT1 ?_);rw [← yd])
set_option maxRecDepth 10000 in
theorem rS (a:ByteArray) (w:World):ay Tryz.prog 150 [.string a] w (.int .i64 (fV a)):=by
 refine aq Tryz.func150 rfl Tryz.ntmps150 rfl ?_
 repeat' (first|(apply aa;exact rfl;exact rfl;(intro w hm;exact nC a (by omega) w))|refine sT ?_|refine sM fun _=> ?_|(refine sC ?_ ?_<;>intro hb<;>try omega)|fail)
 ·
  (refine rT1 ?_)
  have:decide (256<a.size)=true:=by simp;omega
  simp [fV,this]
 all_goals
  (refine rT1 ?_)
  have h256:decide (256<a.size)=false:=by simp;omega
  simp only [fV,h256,hb,cond_true,cond_false]
set_option maxRecDepth 10000 in
theorem zQ (v:Vl) (w:World):ay Tryz.prog 275 [.agg (cY v).toArray] w (.int .i64 (mD v)):=by
 refine aq Tryz.func275 rfl Tryz.ntmps275 rfl ?_
 repeat' (first|(apply aa;exact rfl;exact rfl;(intro w hm;exact rS v.text w))|(apply ak;exact rfl;exact zX (b:=⟨0,0,av⟩) rfl rfl)|refine sT ?_|refine sM fun _=> ?_|(refine sC ?_ ?_<;>intro hb<;>try omega)|fail)
 all_goals ((refine rT1 ?_);((try simp only [← Int.not_lt] at*);simp_all [mD,qF,eqV,av, -Int.not_lt, -Int.not_le,← Int.not_lt]);try (by_cases h:v.num=0<;>simp_all))
end Go.SL

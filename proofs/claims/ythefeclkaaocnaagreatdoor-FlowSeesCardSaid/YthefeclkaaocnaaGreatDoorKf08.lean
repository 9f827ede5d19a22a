/-
  Lemmas and walks, put together: Sl26 Sl27 Sl28 Sb E1.
-/
import Derived.OrdersIn
import Derived.Test.YthefeclkaaocnaaGreatDoorKf04
import Derived.Test.YthefeclkaaocnaaGreatDoorKf07
set_option linter.unusedSimpArgs false
set_option linter.unusedVariables false
set_option maxRecDepth 20000
namespace Go.SL
open Go Go.RowKit
section
variable {P:Program} {ops:Array Oper} {es ps:List Nat} {C:World→Prop}
def NormUp (P:Program) (K:Value→World→Prop):Result Next→Prop
 | .ok (.value v) w' =>K v w'
 | .ok .skip w' =>K undef w'
 | .ok (.enter f args) w' =>Calls P f args w' fun e w'' => ∃ v,e= .returned v∧K v w''
 | .ok (.row row args) w' =>Rows P row args w' fun v w'' =>K v w''
 |_=>False
theorem NormUp.mono {K K' :Value→World→Prop} {r:Result Next} (h:NormUp P K r) (hk: ∀ v w,K v w→K' v w):NormUp P K' r:=by
 cases r with
 |ok x w' =>
  cases x<;>simp only [NormUp] at h ⊢
  case value v=>exact hk _ _ h
  case skip=>exact hk _ _ h
  case enter f args=>exact h.mono fun e w'' ⟨v,he,h1⟩=>⟨v,he,hk _ _ h1⟩
  case row f args=>exact Rows.mono h fun v w'' h1=>hk _ _ h1
 |halt x w' =>exact h
theorem NormUp.ex {K:Value→World→Prop} {r:Result Next} (h:NormUp P K r): ∃ v w',K v w' :=by
 cases r with
 |ok x w' =>
  cases x<;>simp only [NormUp] at h
  case value v=>exact ⟨_,_,h⟩
  case skip=>exact ⟨_,_,h⟩
  case enter f args=>
   obtain ⟨e,w1,fr,⟨v,_,h1⟩,_⟩:=h []
   exact ⟨_,_,h1⟩
  case row f args=>
   obtain ⟨v,w1,h1,_⟩:=h (Frame.enter P 0 #[] .normal) []
   exact ⟨_,_,h1⟩
 |halt x w' =>exact h.elim
theorem NormUp.upon {K:Act→World→Prop} {Q:Exit→Act→World→Prop} {o:Oper} {a:Act} {r:Result Next} (h:NormUp P (fun v w' =>K (a.put o.dst v) w') r):o.upon P a K Q r:=by
 cases r with
 |ok x w' =>
  cases x<;>simp only [NormUp] at h<;>simp only [Oper.upon]
  case value v=>exact h
  case skip=>exact h
  case enter f args=>
   refine h.mono fun e w'' ⟨v,he,h1⟩=> ?_
   subst he
   exact h1
  case row f args=>exact h
 |halt x w' =>exact h.elim
inductive EOp (P:Program) (ops:Array Oper) (es ps:List Nat) (C:World→Prop) (K:Act→World→Prop) (i:Nat) (o:Oper) (a:Act) (w:World):Prop
 |pass (hw:Region.wanted o (yielded ops a.tmps)=false) (hk:K (a.put o.dst undef) w)
 |quiet (hw:Region.wanted o (yielded ops a.tmps)=true) (hi:i∉es) (v:Value) (hr:(execOp a.eval o).run P w= .ok (.value v) w) (hst:i∈ps∨ ∀ w1,C w1→(execOp a.eval o).run P w1= .ok (.value v) w1) (hk:K (a.put o.dst v) w)
 |eff (hw:Region.wanted o (yielded ops a.tmps)=true) (hi:i∈es) (hk:NormUp P (fun v w' =>K (a.put o.dst v) w') ((execOp a.eval o).run P w))
def AnyE (P:Program) (ops:Array Oper) (es ps:List Nat) (C:World→Prop) (Q:Act→World→Prop):Nat→Array Bool→Act→World→Prop
 |0,L,a,w=>C w∧Region.ready .any ops L= []∧Q a w
 |f+1,L,a,w=>C w∧(Region.ready .any ops L= []→Q a w)∧ ∀ i∈Region.ready .any ops L,∃ o,ops[i]? =some o∧EOp P ops es ps C (AnyE P ops es ps C Q f (L.setIfInBounds i true)) i o a w
theorem AnyE.inC {Q:Act→World→Prop} {f:Nat} {L:Array Bool} {a:Act} {w:World} (h:AnyE P ops es ps C Q f L a w):C w:=by
 cases f with
 |zero=>exact h.1
 |succ f=>exact h.1
theorem gS {Q:Act→World→Prop} {Q' :Exit→Act→World→Prop} (hQ: ∀ a w,Q a w→Q' .normal a w): ∀ (f:Nat) (L:Array Bool) (a:Act) (w:World),AnyE P ops es ps C Q f L a w→wpAny P .any ops Q' f L a w
 |0,L,a,w,h=>⟨h.2.1,hQ _ _ h.2.2⟩
 |f+1,L,a,w,h=>⟨fun h0=>hQ _ _ (h.2.1 h0),fun i hi=>by
   obtain ⟨o,ho,hg⟩:=h.2.2 i hi
   unfold wpOp
   simp only [ho]
   cases hg with
   |pass hw hk=>
    simp only [hw,Ur,if_false]
    exact gS hQ f _ _ _ hk
   |quiet hw _ v hr _ hk=>
    simp only [hw,if_true]
    refine .inl ?_
    unfold Oper.wp
    rw [hr]
    exact gS hQ f _ _ _ hk
   |eff hw _ hk=>
    simp only [hw,if_true]
    refine .inl ?_
    unfold Oper.wp
    exact NormUp.upon (hk.mono fun v w' h1=>gS hQ f _ _ _ h1)⟩
def ClosedL (ops:Array Oper) (L:Array Bool):Prop:= ∀ i o,ops[i]? =some o→L.getD i false=true→ ∀ e∈o.after,Region.binds .any e=true→L.getD e.on false=true
theorem ClosedL.set {L:Array Bool} (h:ClosedL ops L) {i:Nat} (hi:i∈Region.ready .any ops L):ClosedL ops (L.setIfInBounds i true):=by
 obtain ⟨_,oi,hoi,hall⟩:=mem_ready.1 hi
 have up: ∀ j,L.getD j false=true→(L.setIfInBounds i true).getD j false=true:=fun j hj=>by
  by_cases e:i=j
  ·
   subst e
   have:i<L.size:=by
    rcases Vq i L.size with h1|h1
    ·
     exact h1
    ·
     rw [Uz,VV h1] at hj;cases hj
   simp [this]
  ·
   rw [getD_set_ne false e];exact hj
 intro j o ho hj e he hb
 by_cases hij:i=j
 ·
  subst hij
  rw [hoi] at ho
  injection ho with ho
  subst ho
  exact up _ (hall e he hb)
 ·
  rw [getD_set_ne false hij] at hj
  exact up _ (h j o ho hj e he hb)
def wM (ops:Array Oper) (i j:Nat):Prop:= ∀ L,ClosedL ops L→i∈Region.ready .any ops L→j∈Region.ready .any ops L→False
theorem EOp.of_put {K K' :Act→World→Prop} {i:Nat} {oi oj:Oper} {a:Act} {w:World} {u:Value} (hap:oi.apart ops oj=true) (hsi: ∀ cs b,oi.op≠ .select cs b)
  (h:EOp P ops es ps C K i oi a w) (hk: ∀ v w',K (a.put oi.dst v) w' →K' ((a.put oj.dst u).put oi.dst v) w'):EOp P ops es ps C K' i oi (a.put oj.dst u) w:=by
 obtain ⟨h1,h2,h3⟩:=Oper.apart_spec hap
 have he:=execOp_put oi hsi a oj.dst u h3
 have hw:=wanted_put oi a oj.dst u h3
 cases h with
 |pass hw' hk' =>exact .pass (hw.trans hw') (hk _ _ hk')
 |quiet hw' hi v hr hst hk' =>exact .quiet (hw.trans hw') hi v (by rw [he];exact hr) (by rw [he];exact hst) (hk _ _ hk')
 |eff hw' hi hk' =>exact .eff (hw.trans hw') hi (by rw [he];exact hk'.mono fun v w' h=>hk _ _ h)
theorem yZ {Q:Act→World→Prop} {i:Nat} {oi:Oper} (hi:ops[i]? =some oi) (hsel: ∀ (j:Nat) (o:Oper) cs b,ops[j]? =some o→o.op≠ .select cs b)
  (hnb: ∀ x∈es,∀ y,y∈es∨y∈ps→x≠y→wM ops x y):
  ∀ (f:Nat) (L:Array Bool) (a:Act) (w:World),ClosedL ops L→C w→
   (∀ j oj,ops[j]? =some oj→j≠i→L.getD j true=false→(∀ e∈oj.after,Region.binds .any e=true→e.on≠i)→oi.apart ops oj=true)→
   i∈Region.ready .any ops L→EOp P ops es ps C (AnyE P ops es ps C Q f (L.setIfInBounds i true)) i oi a w→AnyE P ops es ps C Q (f+1) L a w
 |0,L,a,w,hcl,hC,_,hr,hy=>⟨hC,fun h=>(by rw [h] at hr;cases hr),fun j hj=>by
   by_cases hji:j=i
   ·
    subst hji;exact ⟨oi,hi,hy⟩
   ·
    exfalso
    have hne:=ready_mono hj hji
    have hE: ∃ a' w',AnyE P ops es ps C Q 0 (L.setIfInBounds i true) a' w' :=by
     cases hy with
     |pass _ hk=>exact ⟨_,_,hk⟩
     |quiet _ _ _ _ _ hk=>exact ⟨_,_,hk⟩
     |eff _ _ hk=>obtain ⟨v,w',h⟩:=hk.ex;exact ⟨_,_,h⟩
    obtain ⟨a',w',_,h0,_⟩:=hE
    rw [h0] at hne
    cases hne⟩
 |f+1,L,a,w,hcl,hC,hfree,hr,hy=>⟨hC,fun h=>(by rw [h] at hr;cases hr),fun j hj=>by
   by_cases hji:j=i
   ·
    subst hji;exact ⟨oi,hi,hy⟩
   ·
    have hj' :=ready_mono hj hji
    obtain ⟨hjun,oj,hoj,hall⟩:=mem_ready.1 hj
    have hnot: ∀ e∈oj.after,Region.binds .any e=true→e.on≠i:=fun e he hb heq=>by
     have h1:=hall e he hb
     have h0:=(mem_ready.1 hr).1
     rw [heq] at h1
     rcases Vq i L.size with h' |h'
     ·
      simp [h'] at h0 h1;rw [h0] at h1;cases h1
     ·
      simp [VV h'] at h1
    have hap:=hfree j oj hoj hji hjun hnot
    obtain ⟨h1,h2,h3⟩:=Oper.apart_spec hap
    have hsi:=fun cs b=>hsel i oi cs b hi
    have hsj:=fun cs b=>hsel j oj cs b hoj
    have hej: ∀ v,execOp (a.put oi.dst v).eval oj=execOp a.eval oj:=fun v=>execOp_put oj hsj a oi.dst v h1
    have hwj: ∀ v,Region.wanted oj (yielded ops (a.put oi.dst v).tmps)=Region.wanted oj (yielded ops a.tmps):=fun v=>wanted_put oj a oi.dst v h1
    have hcomm: ∀ v u,(a.put oi.dst v).put oj.dst u=(a.put oj.dst u).put oi.dst v:=fun v u=>Act.put_comm a v u h2
    have hset:(L.setIfInBounds i true).setIfInBounds j true=(L.setIfInBounds j true).setIfInBounds i true:=WH _ _ (Ne.symm hji)
    have hfree' : ∀ k ok,ops[k]? =some ok→k≠i→(L.setIfInBounds j true).getD k true=false→
      (∀ e∈ok.after,Region.binds .any e=true→e.on≠i)→oi.apart ops ok=true:=fun k ok hk hki hun hno=>by
     refine hfree k ok hk hki ?_ hno
     by_cases hjk:j=k
     ·
      subst hjk;exact hjun
     ·
      rw [getD_set_ne true hjk] at hun;exact hun
    have ih:=yZ (Q:=Q) hi hsel hnb f (L.setIfInBounds j true)
    have hcl' :=hcl.set hj
    have hr' :=ready_mono hr (Ne.symm hji)
    -- what comes of j behind an outcome of i
    have hJ: ∀ v w',AnyE P ops es ps C Q (f+1) (L.setIfInBounds i true) (a.put oi.dst v) w' →EOp P ops es ps C (AnyE P ops es ps C Q f ((L.setIfInBounds j true).setIfInBounds i true)) j oj (a.put oi.dst v) w' :=fun v w' h=>by
     obtain ⟨o,ho,hE⟩:=h.2.2 j hj'
     have e:o=oj:=Option.some.inj (ho.symm.trans hoj)
     subst e
     rw [hset] at hE
     exact hE
    refine ⟨oj,hoj,?_⟩
    have hstill:(∃ v,AnyE P ops es ps C Q (f+1) (L.setIfInBounds i true) (a.put oi.dst v) w∧ ∀ (u:Value) (w2:World) (K' :Act→World→Prop),C w2→(i∈ps→w2=w)→K' ((a.put oj.dst u).put oi.dst v) w2→EOp P ops es ps C K' i oi (a.put oj.dst u) w2)∨
      (Region.wanted oi (yielded ops a.tmps)=true∧i∈es∧NormUp P (fun v w' =>AnyE P ops es ps C Q (f+1) (L.setIfInBounds i true) (a.put oi.dst v) w') ((execOp a.eval oi).run P w)):=by
     cases hy with
     |pass hw hk=>exact .inl ⟨undef,hk,fun u w2 K' _ _ hk' => .pass ((wanted_put oi a oj.dst u h3).trans hw) hk'⟩
     |quiet hw hies v hrun hst hk=>
      refine .inl ⟨v,hk,fun u w2 K' hC2 hps hk' => ?_⟩
      have he:=execOp_put oi hsi a oj.dst u h3
      have hrun2:(execOp a.eval oi).run P w2= .ok (.value v) w2:=by
       rcases hst with h|h
       ·
        rw [hps h];exact hrun
       ·
        exact h w2 hC2
      exact .quiet ((wanted_put oi a oj.dst u h3).trans hw) hies v (by rw [he];exact hrun2) (by rw [he];exact hst) hk'
     |eff hw hies hk=>exact .inr ⟨hw,hies,hk⟩
    rcases hstill with ⟨v,hk,hS⟩|⟨hw,hies,hk⟩
    ·
     cases hJ v w hk with
     |pass hwj' hkj=>exact .pass ((hwj v).symm.trans hwj') (ih _ w hcl' hC hfree' hr' (hS undef w _ hC (fun _=>rfl) (by rw [← hcomm];exact hkj)))
     |quiet hwj' hjes u hrun hst hkj=>
      rw [hej] at hrun hst
      exact .quiet ((hwj v).symm.trans hwj') hjes u hrun hst (ih _ w hcl' hC hfree' hr' (hS u w _ hC (fun _=>rfl) (by rw [← hcomm];exact hkj)))
     |eff hwj' hjes hkj=>
      rw [hej] at hkj
      exact .eff ((hwj v).symm.trans hwj') hjes (hkj.mono fun u w2 hk2=>ih _ w2 hcl' hk2.inC hfree' hr' (hS u w2 _ hk2.inC (fun hps=>(hnb j hjes i (.inr hps) hji L hcl hj hr).elim) (by rw [← hcomm];exact hk2)))
    ·
     obtain ⟨v0,w1,h0⟩:=hk.ex
     cases hJ v0 w1 h0 with
     |pass hwj' hkj=>
      have hwa:=(hwj v0).symm.trans hwj'
      refine .pass hwa (ih _ w hcl' hC hfree' hr' (EOp.of_put hap hsi (.eff hw hies hk) fun v w' h=> ?_))
      cases hJ v w' h with
      |pass _ h' =>rw [← hcomm];exact h'
      |quiet hw2 _ _ _ _ _=>rw [hwj,hwa] at hw2;cases hw2
      |eff hw2 _ _=>rw [hwj,hwa] at hw2;cases hw2
     |quiet hwj' hjes u hrun hst hkj=>
      have hwa:=(hwj v0).symm.trans hwj'
      have hst2: ∀ w1,C w1→(execOp a.eval oj).run P w1= .ok (.value u) w1:=by
       rcases hst with h|h
       ·
        exact (hnb i hies j (.inr h) (Ne.symm hji) L hcl hr hj).elim
       ·
        rw [hej] at h;exact h
      refine .quiet hwa hjes u (hst2 w hC) (.inr hst2) (ih _ w hcl' hC hfree' hr' (EOp.of_put hap hsi (.eff hw hies hk) fun v w' h=> ?_))
      cases hJ v w' h with
      |pass hw2 _=>rw [hwj,hwa] at hw2;cases hw2
      |eff _ hjes2 _=>exact absurd hjes2 hjes
      |quiet _ _ u' hr2 hst' h' =>
       have hst3:(execOp a.eval oj).run P w= .ok (.value u') w:=by
        rcases hst' with h|h
        ·
         exact (hnb i hies j (.inr h) (Ne.symm hji) L hcl hr hj).elim
        ·
         have:=h w hC
         rw [hej] at this;exact this
       rw [hst2 w hC] at hst3
       injection hst3 with h4
       injection h4 with h4
       subst h4
       rw [← hcomm];exact h'
     |eff hwj' hjes hkj=>exact (hnb i hies j (.inl hjes) (Ne.symm hji) L hcl hr hj).elim⟩
def wpE (P:Program) (ops:Array Oper) (es ps:List Nat) (C:World→Prop) (Q:Act→World→Prop):List Oper→Nat→Act→World→Prop
 | [],_,a,w=>C w∧Q a w
 |o::r,k,a,w=>C w∧EOp P ops es ps C (wpE P ops es ps C Q r (k+1)) k o a w
theorem EOp.mono {K K' :Act→World→Prop} {i:Nat} {o:Oper} {a:Act} {w:World} (h:EOp P ops es ps C K i o a w) (hk: ∀ a w,K a w→K' a w):EOp P ops es ps C K' i o a w:=by
 cases h with
 |pass h1 h2=>exact .pass h1 (hk _ _ h2)
 |quiet h1 h2 v h3 h4 h5=>exact .quiet h1 h2 v h3 h4 (hk _ _ h5)
 |eff h1 h2 h3=>exact .eff h1 h2 (h3.mono fun _ _ h=>hk _ _ h)
theorem yY {Q:Act→World→Prop} (hs:Region.noSelect ops=true) (hnb: ∀ x∈es,∀ y,y∈es∨y∈ps→x≠y→wM ops x y): ∀ (l:List Oper) (k:Nat) (L:Array Bool) (a:Act) (w:World),(∀ j,l[j]? =ops[k+j]?)→ClosedL ops L→
  Region.lexFrom .any ops l.length k L=true→wpE P ops es ps C Q l k a w→AnyE P ops es ps C Q l.length L a w
 | [],_,_,_,_,_,_,hB,h=>⟨h.1,by simpa [Region.lexFrom] using hB,h.2⟩
 |o::l,k,L,a,w,hl,hcl,hB,h=>by
  have h0:ops[k]? =some o:=by simpa using (hl 0).symm
  simp only [TZ,Region.lexFrom,TU] at hB
  obtain ⟨⟨hr,hf⟩,hB'⟩:=hB
  have hr' :k∈Region.ready .any ops L:=by simpa using hr
  exact yZ h0 (Region.noSelect_spec hs) hnb l.length L a w hcl h.1 (Region.free_spec h0 hf) hr'
   (h.2.mono fun a' w' h' =>yY hs hnb l (k+1) _ _ _ (fun j=>by have:=hl (j+1);simpa [UV,VG 1 j] using this) (hcl.set hr') hB' h')
end
def eM (l:List Oper) (i j:Nat):Bool:=match l[j]? with
 |some o=>(rW o).any fun q=>lD l l.length q i
 |none=>false
def CM (l:List Oper) (es ps:List Nat):Bool:=es.all fun i=>(es++ps).all fun j=>Nat.beq i j||eM l i j||eM l j i
theorem vO {l:List Oper} {i j:Nat} {L:Array Bool} (h:eM l i j=true) (hcl:ClosedL l.toArray L) (hj:j∈Region.ready .any l.toArray L) (hi:i∈Region.ready .any l.toArray L):False:=by
 unfold eM at h
 split at h
 ·
  rename_i o ho
  obtain ⟨q,hq,hr⟩:=VU.1 h
  obtain ⟨_,o',ho',hall⟩:=mem_ready.1 hj
  rw [UD,ho] at ho'
  injection ho' with ho'
  subst ho'
  obtain ⟨e,he,hb,rfl⟩:=kz.1 hq
  have hd:L.getD e.on false=true:=hall e he hb
  have hi' :done L i=true:=nB (D:=done L) (fun x y hx hy z hz=>by
   obtain ⟨e',he',hb',rfl⟩:=kz.1 hz
   exact hcl x y (by simpa using hx) hy e' he' hb') _ _ _ hr hd
  have h0:=(mem_ready.1 hi).1
  unfold done at hi'
  rcases Vq i L.size with h' |h'
  ·
   simp [h'] at h0 hi';rw [h0] at hi';cases hi'
  ·
   simp [VV h'] at hi'
 ·
  cases h
theorem yR {l:List Oper} {es ps:List Nat} (h:CM l es ps=true): ∀ x∈es,∀ y,y∈es∨y∈ps→x≠y→wM l.toArray x y:=by
 intro x hx y hy hne L hcl h1 h2
 have h3:=UT.1 (UT.1 h x hx) y (Ub.2 hy)
 simp only [Vo] at h3
 rcases h3 with (h3|h3)|h3
 ·
  exact hne (UC h3)
 ·
  exact vO h3 hcl h2 h1
 ·
  exact vO h3 hcl h1 h2
section
variable {P:Program} {n:Fr} {w0:World} {Q:ck} {s:aB} {H S:List Blk} {l rest:List Oper} {ty:TypeId} {p:String} {af:Array Edge} {es ps:List Nat} {k:Nat} {gu:Option (Nat × Bool)}
def WC (P:Program) (n:Fr) (w0:World) (l:List Oper) (S:List Blk) (es ps:List Nat) (Q:ck) (rest:List Oper) (k:Nat) (s:aB) (H:List Blk):Prop:=
 ∀ a w,St n s a→Mem w0 w H→Mem w0 w S→(∀ j,rest[j]? =l[k+j]?)→wpE P l.toArray es ps (fun w=>Mem w0 w S) (post n w0 Q .normal) rest k a w
theorem fu {id:Nat} (es ps:List Nat) (S:List Blk) (hm:P.follows .mixedOrders=true) (hB:Region.lexB .any l.toArray=true) (hch:CM l es ps=true) (hS:MSub S H)
  (h:WC P n w0 l S es ps Q l 0 s H):W P n w0 (.region id l.toArray true) Q s H:=by
 intro a w hs hmem
 have hB' :=hB
 simp only [Region.lexB,TU] at hB'
 refine wp_region_any hm (gS (es:=es) (ps:=ps) (C:=fun w=>Mem w0 w S) (Q:=post n w0 Q .normal) (fun _ _ h=>h) _ _ _ _ ?_)
 have hcl:ClosedL l.toArray (Array.replicate l.toArray.size false):=fun i o _ hi=>by
  rw [Uz,V8] at hi
  split at hi<;>cases hi
 have:=yY (P:=P) hB'.1 (yR hch) l.toArray.toList 0 (Array.replicate l.toArray.size false) a { w with drawn:=w.drawn+1 } (by simp) hcl (by simpa using hB'.2) (h a _ hs hmem.drew (hS.use hmem.drew) (by simp))
 simpa using this
theorem QR (h:Q .normal s H):WC P n w0 l S es ps Q [] k s H:=fun a w hs hm hS _=>⟨hS,s,H,hs,hm,h⟩
theorem eG {op:Op} {d:Nat} {v:Value} (hn:Nat.blt d n.sz=true) (hg:gok l s gu=some true) (hk:es.contains k=false) (hv:VOp P w0 s S op ty v) (h:WC P n w0 l S es ps Q rest (k+1) ((d,v)::s) H):
  WC P n w0 l S es ps Q (⟨some d,op,ty,p,af,gu⟩::rest) k s H:=by
 intro a w hs hm hS hl
 obtain ⟨h0,hl'⟩:=ww hl
 refine ⟨hS,.quiet (jt rfl hg hs) (by simpa using hk) v (hv a.eval w (some d) p af gu hs.eval hS) (.inr fun w1 h1=>hv a.eval w1 (some d) p af gu hs.eval h1) (h _ _ (hs.put (UI ▸ hn) v) hm hS hl')⟩
theorem Ss {op:Op} {d:Nat} {v:Value} (hn:Nat.blt d n.sz=true) (hg:gok l s gu=some true) (hk:es.contains k=false) (hp:ps.contains k=true) (hv:VOp P w0 s H op ty v) (h:WC P n w0 l S es ps Q rest (k+1) ((d,v)::s) H):
  WC P n w0 l S es ps Q (⟨some d,op,ty,p,af,gu⟩::rest) k s H:=by
 intro a w hs hm hS hl
 obtain ⟨h0,hl'⟩:=ww hl
 exact ⟨hS,.quiet (jt rfl hg hs) (by simpa using hk) v (hv a.eval w (some d) p af gu hs.eval hm) (.inl (by simpa using hp)) (h _ _ (hs.put (UI ▸ hn) v) hm hS hl')⟩
theorem QS {op:Op} {dst:Option Tmp} {d:Nat} (hd:dst=some d) (hn:Nat.blt d n.sz=true) (hg:gok l s gu=some false) (h:WC P n w0 l S es ps Q rest (k+1) ((d,undef)::s) H):
  WC P n w0 l S es ps Q (⟨dst,op,ty,p,af,gu⟩::rest) k s H:=by
 subst hd
 intro a w hs hm hS hl
 obtain ⟨h0,hl'⟩:=ww hl
 exact ⟨hS,.pass (jt rfl hg hs) (h _ _ (hs.put (UI ▸ hn) undef) hm hS hl')⟩
theorem J8 {op:Op} {dst:Option Tmp} {j d:Nat} {db b:Bool} (_hj:gd l j=some d) (hv:look s d=some (.bool b))
  (k1:b=true→WC P n w0 l S es ps Q (⟨dst,op,ty,p,af,some (j,db)⟩::rest) k ((d,.bool true)::s) H)
  (k2:b=false→WC P n w0 l S es ps Q (⟨dst,op,ty,p,af,some (j,db)⟩::rest) k ((d,.bool false)::s) H):
  WC P n w0 l S es ps Q (⟨dst,op,ty,p,af,some (j,db)⟩::rest) k s H:=by
 intro a w hs hm hS hl
 cases b with
 |true=>exact k1 rfl a w (hs.shadow hv) hm hS hl
 |false=>exact k2 rfl a w (hs.shadow hv) hm hS hl
def ceP (S:List Blk) (K:aB→List Blk→Prop):ck:=fun e s' H' =>e= .normal∧MSub S H' ∧K s' H'
theorem CN {K:aB→List Blk→Prop} (hS:MSub S H) (h:K s H):ceP S K .normal s H:=⟨rfl,hS,h⟩
theorem Tx {op:Op} {dst:Option Tmp} (hg:gok l s gu=some true) (hk:es.contains k=true) (h:WL P n w0 #[] [⟨dst,op,ty,p,af,none⟩] (ceP S (WC P n w0 l S es ps Q rest (k+1))) s H):
  WC P n w0 l S es ps Q (⟨dst,op,ty,p,af,gu⟩::rest) k s H:=by
 intro a w hs hm hS hl
 obtain ⟨h0,hl'⟩:=ww hl
 refine ⟨hS,.eff (jt rfl hg hs) (by simpa using hk) ?_⟩
 have h1:=h a w hs hm
 unfold wpList at h1
 simp only [Region.wanted,if_true] at h1
 replace h1:=h1.elim id fun ⟨_,a0,w1,s',H'',_,_,he,_⟩=>by cases he
 have hexec:execOp a.eval ⟨dst,op,ty,p,af,gu⟩=execOp a.eval ⟨dst,op,ty,p,af,none⟩:=rfl
 rw [hexec]
 have nxt: ∀ (a' :Act) (w' :World),wpList P #[] (post n w0 (ceP S (WC P n w0 l S es ps Q rest (k+1)))) [] a' w' →wpE P l.toArray es ps (fun w=>Mem w0 w S) (post n w0 Q .normal) rest (k+1) a' w' :=by
  rintro a' w' ⟨s',H',hs',hm',_,hSub,hK⟩
  exact hK a' w' hs' hm' (hSub.use hm') hl'
 unfold Oper.wp at h1
 generalize (execOp a.eval ⟨dst,op,ty,p,af,none⟩).run P w=r at h1 ⊢
 cases r with
 |ok x w' =>
  cases x<;>simp only [Oper.upon] at h1<;>simp only [NormUp]
  case value u=>exact nxt _ _ h1
  case skip=>exact nxt _ _ h1
  case defer dd=>
   obtain ⟨s',H'',hs',_⟩:=h1
   have h2:=congrArg List.length (hs'.defers.trans hs.defers.symm)
   cases dst<;>simp [Act.put] at h2
  case enter f args=>
   refine h1.mono fun e w'' he=> ?_
   cases e with
   |returned v=>exact ⟨v,rfl,nxt _ _ he⟩
   |panicked c=>
    obtain ⟨s',H'',_,_,he',_⟩:=he
    cases he'
   |outgrown=>
    obtain ⟨a0,w1,s',H'',_,_,he',_⟩:=he
    cases he'
  case row f args=>exact Rows.mono h1 fun u w'' he=>nxt _ _ he
 |halt x w' =>
  cases x<;>simp only [Oper.upon] at h1
  all_goals
   obtain ⟨s',H'',_,_,he',_⟩:=h1
   cases he'
theorem ia {P:Program} {ops:Array Oper} {es ps:List Nat} {C:World→Prop} {r:Option Nat} {Q:Act→World→Prop} {Q' :Exit→Act→World→Prop} (hnd: ∀ (i:Nat) o,ops[i]? =some o→ ∀ c,o.op≠ .defer c) (hQ: ∀ a w,Q a w→Q' .normal a w): ∀ (f:Nat) (L:Array Bool) (a:Act) (w:World),AnyE P ops es ps C Q f L a w→wpAnyIn (fen r) 0 P .any ops Q' f L a w
 |0,L,a,w,h=>⟨h.2.1,hQ _ _ h.2.2⟩
 |f+1,L,a,w,h=>⟨fun h0=>hQ _ _ (h.2.1 h0),fun i hi=>by
   obtain ⟨o,ho,hg⟩:=h.2.2 i hi
   unfold wpOpIn
   simp only [ho]
   cases hg with
   |pass hw hk=>
    simp only [hw,Ur,if_false]
    exact ⟨fun _ _=>trivial,ia hnd hQ f _ _ _ hk⟩
   |quiet hw _ v hr _ hk=>
    simp only [hw,if_true]
    refine mV (hnd i o ho) (next:=wpAnyIn (fen r) 0 P .any ops Q' f (L.setIfInBounds i true)) (fun _ _ h=>h) (fun _ _ _ h=>h) (fun h=>h) ?_
    unfold Oper.wp
    rw [hr]
    exact ia hnd hQ f _ _ _ hk
   |eff hw _ hk=>
    simp only [hw,if_true]
    refine mV (hnd i o ho) (next:=wpAnyIn (fen r) 0 P .any ops Q' f (L.setIfInBounds i true)) (fun _ _ h=>h) (fun _ _ _ h=>h) (fun h=>h) ?_
    unfold Oper.wp
    exact NormUp.upon (hk.mono fun v w' h1=>ia hnd hQ f _ _ _ h1)⟩
theorem rQ {id r:Nat} (es ps:List Nat) (S:List Blk) (hm:P.follows .mixedOrders=true) (hB:Region.lexB .any l.toArray=true) (hch:CM l es ps=true) (hnd:qh l=true) (hS:MSub S H)
  (h:WC P n w0 l S es ps Q l 0 s H):WR P n w0 r (.region id l.toArray true) Q s H:=by
 intro a w hs hmem
 have hB' :=hB
 simp only [Region.lexB,TU] at hB'
 refine wpIn_region_any hm (ia (es:=es) (ps:=ps) (C:=fun w=>Mem w0 w S) (Q:=post n w0 Q .normal) (fun i o ho=>rz hnd o (Vp (by simpa using ho))) (fun _ _ h=>h) _ _ _ _ ?_)
 have hcl:ClosedL l.toArray (Array.replicate l.toArray.size false):=fun i o _ hi=>by
  rw [Uz,V8] at hi
  split at hi<;>cases hi
 have:=yY (P:=P) hB'.1 (yR hch) l.toArray.toList 0 (Array.replicate l.toArray.size false) a { w with drawn:=w.drawn+1 } (by simp) hcl (by simpa using hB'.2) (h a _ hs hmem.drew (hS.use hmem.drew) (by simp))
 simpa using this
end
theorem Fy {s:aB} {ρ:Operand→Value} (hρ: ∀ x u,ev s x=some u→ρ x=u): ∀ {ps:List (Nat × Operand)} {vs:List Value} {k:Nat},evd s ps k=some vs→(ps.map fun (x:Nat × Operand)=>(x.1,ρ x.2))=(vs.zipIdx k).map fun x=>(x.2,x.1)
 | [],vs,k,h=>by simp only [evd,Option.some.injEq] at h;simp [← h]
 |(i,x)::r,vs,k,h=>by
  simp only [evd] at h
  cases hb:Nat.beq i k with
  |false=>rw [hb] at h;cases h
  |true=>
   have hik:=UC hb
   rw [hb] at h
   simp only [cond_true] at h
   split at h
   ·
    rename_i v vs' hv hvs
    simp only [Option.some.injEq] at h
    rw [← h,Ud,Fy hρ hvs,Wn,Ud,hρ x v hv,hik]
   ·
    cases h
theorem qa {P:Program} {w0:World} {s:aB} {H:List Blk} {ty:TypeId} {t e m sz:Nat} {ps:List (Nat × Operand)} {vs xs zs:List Value} [ht:Und P t (.array m e)] [he:Size P e sz] [hz:ZeroC P t zs] (hps:evd s ps 0=some vs)
  (hs0:Nat.blt 0 sz=true) (hl:Nat.beq (vs.length*sz) zs.length=true) (h1:z6 sz vs=true) (hx:vZ (flat vs)=some xs):VOp P w0 s H (.build t ps.toArray) ty (.agg xs.toArray):=fun ρ w _ _ _ _ hρ _=>by
 obtain ⟨it,z,i1,i2,i3⟩:=hz.out
 obtain ⟨ie,j1,j2⟩:=he.out
 have hall:=qb h1
 have hlen:=UC hl
 have hfill:=Great.fill_whole (s:=sz) (by simpa using hs0) vs z.cells hall (by rw [i3];simp [hlen])
 rw [← Fy hρ hps] at hfill
 have hb:P.built t (ps.map fun (x:Nat × Operand)=>(x.1,ρ x.2))=some (flat vs).toArray:=by
  unfold Program.built
  simp only [i1,ht.out,i2,j1,j2]
  exact hfill
 have hr:=run_build (P:=P) w t (ps.map fun (x:Nat × Operand)=>(x.1,ρ x.2)).toArray (flat vs).toArray (by simpa using hb)
 rw [jC hx]
 simp only [execOp,Vs]
 simp only [Sem.run_bind,hr,Result.andThen_ok,Sem.run_pure]
section
variable {P:Program} {n:Fr} {w0:World} {Q:ck} {s:aB} {H:List Blk} {ops:Array Oper} {l:List Oper}
theorem pW (H' :List Blk) (hs:MSub H' H) (h:WL P n w0 ops l Q s H'):WL P n w0 ops l Q s H:=fun a w h1 h2=>h a w h1 (hs.use h2)
end
theorem pK {p:Prop} (h:p:=by (repeat first|exact .hd|apply Sel.tl|apply In.tl);(first|done|fail)):p:=h
theorem sB {p:Prop} (h:p:=by (repeat (first|exact Sub.nil _|refine Sub.cons rfl ?_));(first|done|fail)):p:=h
theorem mS {p:Prop} (h:p:=by (repeat (first|exact MSub.nil _|refine MSub.pick (by (repeat first|exact .hd|apply Sel.tl|apply In.tl)) ?_|exact MSub.refl _|refine MSub.drop .hd ?_));(first|done|fail)):p:=h
theorem vC {P:Program} {w0:World} {s:aB} {H:List Blk} {op:Op} {ty:TypeId} {v:Value} (h:VOp P w0 s H op ty v:=by
 first
 |((with_reducible apply QY);exact rfl)
 |((with_reducible apply Dz);exact rfl)
 |((with_reducible apply SI);exact rfl)
 |((with_reducible apply Mx);exact rfl)
 |((with_reducible apply w6);exact rfl)
 |((with_reducible apply w7);exact rfl;exact pK;exact rfl)
 |((with_reducible apply Rx);exact rfl;exact rfl)
 |((with_reducible apply Mw);exact rfl;exact rfl)
 |((with_reducible apply iW);exact rfl;exact rfl)
 |((with_reducible apply jH);exact rfl;exact rfl)
 |((with_reducible apply Dx);exact rfl;exact pK;exact rfl)
 |((with_reducible apply oH);exact rfl;exact pK;exact rfl;exact rfl)
 |((with_reducible apply Pa);(iterate 3 exact rfl))
 |((with_reducible apply I9);(iterate 3 exact rfl))
 |((with_reducible apply fU);exact rfl)
 |((with_reducible apply O7);exact rfl)
 |((with_reducible apply v_neqpn);exact rfl)):VOp P w0 s H op ty v:=h
theorem vC2 {P:Program} {w0:World} {s:aB} {H:List Blk} {op:Op} {ty:TypeId} {v:Value} (h:VOp P w0 s H op ty v:=by
 first
 |((with_reducible apply bh);exact rfl;exact rfl;(first|assumption|omega))
 |((with_reducible apply Ru);exact rfl;exact rfl;(first|assumption|omega))
 |((with_reducible apply gK);(iterate 3 exact rfl);(first|assumption|omega))
 |((with_reducible apply wZ);exact rfl;exact rfl;(first|assumption|omega))
 |((with_reducible apply O5);exact rfl;exact rfl;(first|assumption|omega))
 |((with_reducible apply Gg);exact rfl;exact rfl;(first|assumption|omega))
 |((with_reducible apply bh (j:=4));exact rfl;exact rfl;(first|assumption|omega))
 |((with_reducible apply Gg (hi:=4));exact rfl;exact rfl;(first|assumption|omega))
 |((with_reducible apply wZ (lo:=1));exact rfl;exact rfl;(first|assumption|omega))
 |((with_reducible apply Kd);(iterate 3 exact rfl))
 |((with_reducible apply Kc);(iterate 3 exact rfl))):VOp P w0 s H op ty v:=h
theorem vA {P:Program} {w0:World} {s:aB} {H:List Blk} {op:Op} {ty:TypeId} {v:Value} (h:VOp P w0 s H op ty v:=by
 first
 |((with_reducible apply lp);exact rfl;exact rfl;(simp only [maxLen] at*;omega))
 |((with_reducible apply Je);exact rfl;exact rfl;(simp only [maxLen] at*;omega))
 |((with_reducible apply dP);exact rfl;exact rfl;(simp only [maxLen] at*;omega))
 |((with_reducible apply di);exact rfl;exact rfl;omega;(simp only [maxLen] at*;omega))
 |((with_reducible apply lT);exact rfl;exact rfl;omega;(simp only [maxLen] at*;omega))
 |((with_reducible apply Gk);exact rfl;exact rfl)):VOp P w0 s H op ty v:=h
theorem vI {P:Program} {w0:World} {s:aB} {H:List Blk} {op:Op} {ty:TypeId} {v:Value} (h:VOp P w0 s H op ty v:=by
 first
 |((with_reducible apply mh);exact rfl;exact rfl;exact ⟨by omega,by omega⟩)
 |((with_reducible apply Mt);exact rfl;exact rfl;exact ⟨by omega,by omega⟩)
 |((with_reducible apply zN);exact rfl;exact rfl;exact ⟨by omega,by omega⟩)):VOp P w0 s H op ty v:=h
theorem vR {P:Program} {w0:World} {s:aB} {H:List Blk} {op:Op} {ty:TypeId} {v:Value} (h:VOp P w0 s H op ty v:=by
 first
 |((with_reducible apply aj);exact rfl;exact rfl;(first|assumption|omega))
 |((with_reducible apply aP);exact rfl;assumption;exact rfl)
 |((with_reducible apply w8);exact rfl;assumption)
 |((with_reducible apply eH);exact rfl;assumption;exact rfl)):VOp P w0 s H op ty v:=h
theorem sT {p q:Prop} (k:q) (h:q→p:=by
 first
 |(with_reducible first|exact F9|exact SQ|exact Sw|exact Mr|exact Sx|exact QT|exact QW|exact O3|exact SN|exact SS|exact Tl|exact Ti|exact Tm|exact cut_r|exact cut_e)
 |(intro k;(with_reducible apply ak);exact rfl;exact vC;exact k)
 |(intro k;(with_reducible apply OW);exact rfl;exact rfl;exact k)
 |(intro k;(with_reducible apply Me);(iterate 4 exact rfl);exact k)
 |(intro k;(with_reducible apply Mc);(iterate 3 exact rfl);exact k)
 |(intro k;(with_reducible apply y6);exact rfl;exact rfl;exact pK;(iterate 3 exact rfl);exact k)
 |(intro k;(with_reducible apply Dg);exact rfl;exact rfl;exact pK;(iterate 4 exact rfl);exact k)
 |(intro k;(with_reducible apply Du);exact rfl;exact k)
 |(intro k;(with_reducible apply BC);exact rfl;exact k)
 |(intro k;(with_reducible apply Th);exact rfl;exact k)):p:=h k
theorem sM {p:Prop} {q:Nat→Prop} (k: ∀ g,q g) (h:(∀ g,q g)→p:=by
 first
 |(intro k;(with_reducible apply OX);exact rfl;exact rfl;exact k)
 |(intro k;(with_reducible apply OY);(iterate 3 exact rfl);exact k)
 |(intro k;(with_reducible apply Mi);exact rfl;exact k)
 |(intro k;(with_reducible apply y7);(iterate 7 exact rfl);exact k)):p:=h k
theorem sT2 {p q:Prop} (k:q) (h:q→p:=by exact ak rfl vC2):p:=h k
theorem sQ2 {p q:Prop} (k:q) (h:q→p:=by exact aO rfl vC2):p:=h k
theorem sS {p q:Prop} (k:q) (h:q→p:=by with_reducible first|exact O0|exact O2|exact scp_n|exact SU|exact scp_e):p:=h k
theorem sP {p q:Prop} (k:q) (h:q→p:=by with_reducible first|exact SP|exact Tj|exact Tg|exact scp_p):p:=h k
theorem sC {p q1 q2 r1 r2:Prop} (k1:q1→q2) (k2:r1→r2) (h:(q1→q2)→(r1→r2)→p:=by
 intro k1 k2
 first
 |((with_reducible apply J1);exact rfl;exact rfl;exact fun hb=>k1 (Tidy.out hb);exact fun hb=>k2 (Tidy.out hb))
 |((with_reducible apply QX);exact rfl;exact fun hb=>k1 (Tidy.out hb);exact fun hb=>k2 (Tidy.out hb))):p:=h k1 k2
theorem cT {p:Prop} (h:p:=by (with_reducible apply cO (i:=()))<;>first|exact trivial|((repeat (first|exact Sub.nil _|refine Sub.cons rfl ?_));done)|((repeat (first|exact MSub.nil _|refine MSub.pick (by (repeat first|exact .hd|apply Sel.tl|apply In.tl)) ?_|exact MSub.refl _|refine MSub.drop .hd ?_));done)|fail):p:=h
theorem sQ {p q:Prop} (k:q) (h:q→p:=by
 first
 |(with_reducible exact QO)
 |(intro k;(with_reducible apply aO);exact rfl;exact vC;exact k)
 |(intro k;(with_reducible apply OQ);exact rfl;exact rfl;exact k)
 |(intro k;(with_reducible apply L7);(iterate 4 exact rfl);exact k)
 |(intro k;(with_reducible apply wq_gno_u);(iterate 3 exact rfl);exact k)):p:=h k
theorem sCQ {p q1 q2 r1 r2:Prop} (k1:q1→q2) (k2:r1→r2) (h:(q1→q2)→(r1→r2)→p:=by
 intro k1 k2
 first
 |((with_reducible apply JY);exact rfl;exact rfl;exact fun hb=>k1 (Tidy.out hb);exact fun hb=>k2 (Tidy.out hb))):p:=h k1 k2
theorem sD {p q:Prop} (k:q) (h:q→p:=by intro k;(with_reducible apply iw);kernel_rfl;kernel_rfl;exact k):p:=h k
theorem sN {p q:Prop} (k:q) (h:q→p:=by exact ak rfl vA):p:=h k
theorem sNQ {p q:Prop} (k:q) (h:q→p:=by exact aO rfl vA):p:=h k
theorem sJ {p q:Prop} (k:q) (h:q→p:=by exact ak rfl vI):p:=h k
theorem sJQ {p q:Prop} (k:q) (h:q→p:=by exact aO rfl vI):p:=h k
theorem sJG {p q:Prop} (k:q) (h:q→p:=by exact Dn (f:=60) rfl (by decide+kernel) rfl vI):p:=h k
theorem sO {p q:Prop} (k:q) (h:q→p:=by exact ak rfl vR):p:=h k
theorem sOQ {p q:Prop} (k:q) (h:q→p:=by exact aO rfl vR):p:=h k
theorem sG {p q:Prop} (k:q) (h:q→p:=by
 first
 |(with_reducible exact Bz)
 |(intro k;(with_reducible apply Dm);exact rfl;(intro D ht;exact vC);exact fun _=>rfl;exact k)
 |exact Gc _ _ rfl rfl (fun D=> .hd) rfl rfl rfl (fun _=>WN rfl) (fun D ht=> .refl _)
 |(intro k;(with_reducible apply Dn (f:=60));exact rfl;decide+kernel;exact rfl;exact vC;exact k)):p:=h k
theorem sX {p q:Prop} (k:q) (h:q→p:=by
 first
 |(with_reducible exact wx_nil)
 |(intro k;(with_reducible apply wx_v);(iterate 3 exact rfl);(intro D ht;exact vC);exact fun _=>rfl;exact k)
 |(intro k;(with_reducible apply wx_gno);(iterate 3 exact rfl);exact fun _=>rfl;exact k)):p:=h k
theorem sCX {p q1 q2 r1 r2:Prop} (k1:q1→q2) (k2:r1→r2) (h:(q1→q2)→(r1→r2)→p:=by
 intro k1 k2
 first
 |((with_reducible apply wx_gsplit);exact rfl;exact rfl;exact fun hb=>k1 (Tidy.out hb);exact fun hb=>k2 (Tidy.out hb))):p:=h k1 k2
theorem sXO {p q:Prop} (k:q) (h:q→p:=by exact wx_v rfl rfl rfl (fun D ht=>vR) (fun _=>rfl)):p:=h k
theorem sBG {p q:Prop} (k:q) (h:q→p:=by with_reducible first|exact wl_app_c|exact wl_app_n):p:=h k
theorem sI {p q:Prop} (k:q) (h:q→p:=by first|(with_reducible exact OU)|(intro k;(with_reducible apply IZ);exact rfl;exact rfl;exact vC;exact k)):p:=h k
theorem sR {p q:Prop} (k:q) (h:q→p:=by
 first
 |(with_reducible first|exact QN|exact wr_ret|exact wr_exit|exact OO|exact Dd|exact L6|exact oz|exact wt_seq_c|exact wt_seq_b|exact wt_seq_k|exact wt_last_r|exact Dc|exact JW|exact Lm|exact Ll)
 |(intro k;(with_reducible apply Bp);exact rfl;exact k)
 |(intro k;(with_reducible apply y5);exact rfl;exact k)
 |(intro k;(with_reducible apply JX);exact rfl;(repeat (first|exact KC|exact IG|apply RZ|apply R0|apply no_cut));exact k)):p:=h k
theorem sCR {p q1 q2 r1 r2:Prop} (k1:q1→q2) (k2:r1→r2) (h:(q1→q2)→(r1→r2)→p:=by
 intro k1 k2
 first
 |((with_reducible apply OP);exact rfl;exact fun hb=>k1 (Tidy.out hb);exact fun hb=>k2 (Tidy.out hb))):p:=h k1 k2
theorem sW {p q:Prop} (k:q) (h:q→p:=by
 first
 |(with_reducible exact QR)
 |(intro k;(with_reducible apply eG);(iterate 3 exact rfl);exact vC;exact k)
 |(intro k;(with_reducible apply QS);(iterate 3 exact rfl);exact k)
 |(intro k;(with_reducible apply wc_gno0);exact rfl;exact k)
 |(intro k;(with_reducible apply Tx);exact rfl;exact rfl;exact k)
 |(intro k;(with_reducible apply Ss);(iterate 4 exact rfl);exact vC;exact k)
 |(intro k;(with_reducible apply CN);exact mS;exact k)):p:=h k
theorem sW2 {p q:Prop} (k:q) (h:q→p:=by exact eG rfl rfl rfl vC2):p:=h k
theorem sWN {p q:Prop} (k:q) (h:q→p:=by exact eG rfl rfl rfl vA):p:=h k
theorem sWJ {p q:Prop} (k:q) (h:q→p:=by exact eG rfl rfl rfl vI):p:=h k
theorem sCW {p q1 q2 r1 r2:Prop} (k1:q1→q2) (k2:r1→r2) (h:(q1→q2)→(r1→r2)→p:=by
 intro k1 k2
 first
 |((with_reducible apply J8);exact rfl;exact rfl;exact fun hb=>k1 (Tidy.out hb);exact fun hb=>k2 (Tidy.out hb))):p:=h k1 k2
theorem sG2 {p q:Prop} (k:q) (h:q→p:=by first|exact Dm rfl (fun D ht=>vC2) (fun _=>rfl)|exact Dn (f:=60) rfl (by decide+kernel) rfl vC2):p:=h k
theorem sX2 {p q:Prop} (k:q) (h:q→p:=by exact wx_v rfl rfl rfl (fun D ht=>vC2) (fun _=>rfl)):p:=h k
theorem eIO {p:Prop} (h:p:=by first|exact .inl rfl|exact .inr rfl):p:=h
theorem rT0 {p q:Prop} (k:q) (h:q→p:=by intro k;(with_reducible apply fL);exact .inl rfl;exact rfl;exact MSub.nil _;exact k):p:=h k
theorem rT1 {p q:Prop} (k:q) (h:q→p:=by intro k;(with_reducible apply cA);exact .inl rfl;exact rfl;exact rfl;exact MSub.nil _;exact k):p:=h k
theorem rT2 {p q:Prop} (k:q) (h:q→p:=by intro k;(with_reducible apply dc);exact .inl rfl;(iterate 3 exact rfl);exact MSub.nil _;exact k):p:=h k
theorem rT3 {p q:Prop} (k:q) (h:q→p:=by intro k;(with_reducible apply qu);exact .inl rfl;(iterate 4 exact rfl);exact MSub.nil _;exact k):p:=h k
theorem eRC {p q:Prop} (k:q) (h:q→p:=by first|exact KE (.inl rfl) rfl rfl pK rfl (MSub.nil _)|exact KE (.inr rfl) rfl rfl pK rfl (MSub.nil _)):p:=h k
theorem jU {p q:Prop} (k:q) (h:q→p:=by first|exact Js (.inl rfl) rfl rfl pK rfl rfl (MSub.nil _)|exact Js (.inr rfl) rfl rfl pK rfl rfl (MSub.nil _)):p:=h k
theorem da {p q:Prop} (k:q) (h:q→p:=by first|exact gN (.inl rfl) rfl rfl pK rfl rfl rfl (MSub.nil _)|exact gN (.inr rfl) rfl rfl pK rfl rfl rfl (MSub.nil _)):p:=h k
theorem nP {p:Prop} (h:p:=by (repeat (first|exact RV|apply RU|apply RY|apply RX));(first|done|fail)):p:=h
theorem vP {P:Program} {w0:World} {s:aB} {H:List Blk} {op:Op} {ty:TypeId} {v:Value} (h:VOp P w0 s H op ty v:=by
 first|exact vC|((with_reducible apply lT);exact rfl;exact rfl;omega;omega)|((with_reducible apply rZ);exact rfl;exact rfl;omega)):VOp P w0 s H op ty v:=h
end Go.SL
namespace Go.SL
open Go Go.Proofs
theorem Jp (w:World) (d:Nat) (a b:Vl):(Op.equalIn (d+3) 172 (.agg (dV a).toArray) (.agg (dV b).toArray)).run Tryz.prog w= .ok (eqV a b) w:=by
 rw [run_equalIn_agg w (d+2) 172 _ _ (by rw [Program.fieldsOf,Tryz.underlying172]) Tryz.stoodInHeld172]
 simp only [Program.fieldsOf,Tryz.underlying172]
 simp [Op.eqFields,dV,part,go_sem,FL,LJ,eqV]
 by_cases h1:a.kind=b.kind<;>by_cases h2:a.num=b.num<;>by_cases h3:a.text=b.text<;>simp [h1,h2,h3]
theorem sv (w:World) (d:Nat) (a b:Rct):(Op.equalIn (d+3) 33 (.agg (aN a).toArray) (.agg (aN b).toArray)).run Tryz.prog w= .ok (eqR a b) w:=by
 rw [run_equalIn_agg w (d+2) 33 _ _ (by rw [Program.fieldsOf,Tryz.underlying33]) Tryz.stoodInHeld33]
 simp only [Program.fieldsOf,Tryz.underlying33]
 simp [Op.eqFields,aN,part,go_sem,FL,LJ,eqR]
 by_cases h1:a.c1=b.c1<;>by_cases h2:a.r1=b.r1<;>by_cases h3:a.c2=b.c2<;>by_cases h4:a.r2=b.r2<;>simp [h1,h2,h3,h4]
theorem wC (w:World) (d:Nat) (a b:Rf):(Op.equalIn (d+3) 51 (.agg (aC a).toArray) (.agg (aC b).toArray)).run Tryz.prog w= .ok (eqF a b) w:=by
 rw [run_equalIn_agg w (d+2) 51 _ _ (by rw [Program.fieldsOf,Tryz.underlying51]) Tryz.stoodInHeld51]
 simp only [Program.fieldsOf,Tryz.underlying51]
 simp [Op.eqFields,aC,part,go_sem,FL,LJ,eqF]
 by_cases h1:a.col=b.col<;>by_cases h2:a.row=b.row<;>simp [h1,h2]
theorem Jq (w:World) (d:Nat) (a b:Nd):(Op.equalIn (d+5) 174 (.agg (bR a).toArray) (.agg (bR b).toArray)).run Tryz.prog w= .ok (eqN a b) w:=by
 rw [run_equalIn_agg w (d+4) 174 _ _ (by rw [Program.fieldsOf,Tryz.underlying174]) Tryz.stoodInHeld174]
 simp only [Program.fieldsOf,Tryz.underlying174]
 have hv: ∀ w,(Op.equalIn (d+4) 172 (.agg #[.int .u8 a.v.kind,.int .i64 a.v.num,.string a.v.text]) (.agg #[.int .u8 b.v.kind,.int .i64 b.v.num,.string b.v.text])).run Tryz.prog w= .ok (eqV a.v b.v) w:=fun w=>Jp w (d+1) a.v b.v
 have hr: ∀ w,(Op.equalIn (d+4) 33 (.agg #[.int .i64 a.rect.c1,.int .i64 a.rect.r1,.int .i64 a.rect.c2,.int .i64 a.rect.r2]) (.agg #[.int .i64 b.rect.c1,.int .i64 b.rect.r1,.int .i64 b.rect.c2,.int .i64 b.rect.r2])).run Tryz.prog w= .ok (eqR a.rect b.rect) w:=fun w=>sv w (d+1) a.rect b.rect
 simp [Op.eqFields,bR,part,go_sem,FL,LJ,eqN,hv,hr]
 by_cases h1:a.kind=b.kind<;>by_cases h2:eqV a.v b.v=true<;>by_cases h3:eqR a.rect b.rect=true<;>by_cases h4:a.op=b.op<;>by_cases h5:a.fn=b.fn<;>by_cases h6:a.n=b.n<;>simp [h1,h2,h3,h4,h5,h6]
section
variable {w0:World} {s:aB} {H:List Blk} {ty t' :TypeId} {x y:Operand}
theorem Gt {a b:Vl} (hx:ev s x=some (.agg (dV a).toArray)) (hy:ev s y=some (.agg (dV b).toArray)):VOp Tryz.prog w0 s H (.binOp .eql 172 x y t') ty (.bool (eqV a b)):=fun ρ w _ _ _ _ hρ _=>by
 have h:=Jp w 9997 a b
 simp only [Nat.reduceAdd] at h
 simp only [execOp,hρ x _ hx,hρ y _ hy,Sem.run_bind,run_eqGuard_agg w _ _ _ _ _ _ Tryz.eqGuardType172,Result.andThen_ok,run_eql_struct,h,Sem.run_pure]
theorem Ry {a b:Rct} (hx:ev s x=some (.agg (aN a).toArray)) (hy:ev s y=some (.agg (aN b).toArray)):VOp Tryz.prog w0 s H (.binOp .eql 33 x y t') ty (.bool (eqR a b)):=fun ρ w _ _ _ _ hρ _=>by
 have h:=sv w 9997 a b
 simp only [Nat.reduceAdd] at h
 simp only [execOp,hρ x _ hx,hρ y _ hy,Sem.run_bind,run_eqGuard_agg w _ _ _ _ _ _ Tryz.eqGuardType33,Result.andThen_ok,run_eql_struct,h,Sem.run_pure]
theorem Rq {a b:Rct} (hx:ev s x=some (.agg (aN a).toArray)) (hy:ev s y=some (.agg (aN b).toArray)):VOp Tryz.prog w0 s H (.binOp .neq 33 x y t') ty (.bool (!eqR a b)):=fun ρ w _ _ _ _ hρ _=>by
 have h:=sv w 9997 a b
 simp only [Nat.reduceAdd] at h
 simp only [execOp,hρ x _ hx,hρ y _ hy,Sem.run_bind,run_eqGuard_agg w _ _ _ _ _ _ Tryz.eqGuardType33,Result.andThen_ok,run_neq_struct,h,Sem.run_pure]
theorem RA {a b:Rf} (hx:ev s x=some (.agg (aC a).toArray)) (hy:ev s y=some (.agg (aC b).toArray)):VOp Tryz.prog w0 s H (.binOp .eql 51 x y t') ty (.bool (eqF a b)):=fun ρ w _ _ _ _ hρ _=>by
 have h:=wC w 9997 a b
 simp only [Nat.reduceAdd] at h
 simp only [execOp,hρ x _ hx,hρ y _ hy,Sem.run_bind,run_eqGuard_agg w _ _ _ _ _ _ Tryz.eqGuardType51,Result.andThen_ok,run_eql_struct,h,Sem.run_pure]
theorem Rs {a b:Rf} (hx:ev s x=some (.agg (aC a).toArray)) (hy:ev s y=some (.agg (aC b).toArray)):VOp Tryz.prog w0 s H (.binOp .neq 51 x y t') ty (.bool (!eqF a b)):=fun ρ w _ _ _ _ hρ _=>by
 have h:=wC w 9997 a b
 simp only [Nat.reduceAdd] at h
 simp only [execOp,hρ x _ hx,hρ y _ hy,Sem.run_bind,run_eqGuard_agg w _ _ _ _ _ _ Tryz.eqGuardType51,Result.andThen_ok,run_neq_struct,h,Sem.run_pure]
theorem Rz {a b:Nd} (hx:ev s x=some (.agg (bR a).toArray)) (hy:ev s y=some (.agg (bR b).toArray)):VOp Tryz.prog w0 s H (.binOp .eql 174 x y t') ty (.bool (eqN a b)):=fun ρ w _ _ _ _ hρ _=>by
 have h:=Jq w 9995 a b
 simp only [Nat.reduceAdd] at h
 simp only [execOp,hρ x _ hx,hρ y _ hy,Sem.run_bind,run_eqGuard_agg w _ _ _ _ _ _ Tryz.eqGuardType174,Result.andThen_ok,run_eql_struct,h,Sem.run_pure]
theorem w5 {a b:Nd} (hx:ev s x=some (.agg (bR a).toArray)) (hy:ev s y=some (.agg (bR b).toArray)):VOp Tryz.prog w0 s H (.binOp .neq 174 x y t') ty (.bool (!eqN a b)):=fun ρ w _ _ _ _ hρ _=>by
 have h:=Jq w 9995 a b
 simp only [Nat.reduceAdd] at h
 simp only [execOp,hρ x _ hx,hρ y _ hy,Sem.run_bind,run_eqGuard_agg w _ _ _ _ _ _ Tryz.eqGuardType174,Result.andThen_ok,run_neq_struct,h,Sem.run_pure]
end
instance klaw_F:KLaw Tryz.prog 51 (fun a:Rf=>Value.agg (aC a).toArray):={
 check:=fun e k w=>by
  have h: ∀ m,(Instr.checkKey e (m+2) 51 (.agg (aC k).toArray)).run Tryz.prog w= .ok () w:=fun m=>by
   simp [Instr.checkKey,aC,part,go_sem,Tryz.underlying51]
  exact h 9998
 find:=fun k es w=>by
  have hask: ∀ (es:List (Rf × Value × Nat)) (i:Nat),(Instr.findAsking 51 (.agg (aC k).toArray) (es.map (fC fun a:Rf=>Value.agg (aC a).toArray)) i).run Tryz.prog w= .ok (bJ k es i) w:=by
   intro es
   induction es with
   |nil=>intro i;rfl
   |cons e es ih=>
    intro i
    have h:(Op.equalIn Op.maxDepth 51 (.agg (aC k).toArray) (.agg (aC e.1).toArray)).run Tryz.prog w= .ok (eqF k e.1) w:=wC w 9997 k e.1
    rw [CI] at h
    simp only [Ud,Instr.findAsking,fC,Op.equal,Sem.run_bind,h,Result.andThen_ok,bJ]
    by_cases hk:k=e.1
    ·
     simp only [hk,decide_true,if_true,Sem.run_pure]
    ·
     simp only [hk,decide_false,if_false,Ur]
     exact ih _
  have hu:=run_underlying (P:=Tryz.prog) (w:=w) Tryz.underlying51
  cases es with
  |nil=>simp only [Instr.findKey,UQ,Instr.findNow,Sem.run_bind,hu,Result.andThen_ok,Sem.run_pure,bJ]
  |cons e es=>
   have:=hask (e::es) 0
   simp only [Ud] at this ⊢
   simp only [Instr.findKey,Instr.findNow,fC,Instr.sameNow,Sem.run_bind,hu,Result.andThen_ok]
   exact this
 stays:=fun k w=>by
  have h:Instr.sameBits 10000 (.agg (aC k).toArray) (.agg (aC k).toArray)=true:=by
   have h: ∀ m,Instr.sameBits (m+1) (.agg (aC k).toArray) (.agg (aC k).toArray)=true:=fun m=>by simp [Instr.sameBits,aC]
   exact h 9999
  simp only [Instr.keyThatStays,h,if_true,Sem.run_pure] }
end Go.SL

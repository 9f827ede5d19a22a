/-
  Lemmas and walks, put together: Sl26 G1a Sl40 Sb W1 W27 W11 W30 W33 W4 B1 Px W12 W13 W28.
-/
import Derived.Test.YtfeicpjdgjflaaaGreatDoorKv07
import Derived.Test.YtfeicpjdgjflaaaGreatDoorKv08
set_option linter.unusedSimpArgs false
set_option linter.unusedVariables false
set_option maxRecDepth 20000
set_option maxHeartbeats 16000000
namespace Go.SL
open Go Go.RowKit
section
variable {P:Program} {ops:Array Oper} {es ps:List Nat} {C:World→Prop}
def NormUp (P:Program) (K:Value→World→Prop):Result Next→Prop
 | .ok (.value v) w' =>K v w'
 | .ok .skip w' =>K undef w'
 | .ok (.enter f args) w' =>Calls P f args w' fun e w'' => ∃ v,e= .returned v∧K v w''
 | .ok (.row row args) w' =>Rows P row args w' fun v w'' =>K v w''
 |_=>False
theorem NormUp.mono {K K' :Value→World→Prop} {r:Result Next} (h:NormUp P K r) (hk: ∀ v w,K v w→K' v w):NormUp P K' r:=by
 cases r with
 |ok x w' =>
  cases x<;>simp only [NormUp] at h ⊢
  case value v=>exact hk _ _ h
  case skip=>exact hk _ _ h
  case enter f args=>exact h.mono fun e w'' ⟨v,he,h1⟩=>⟨v,he,hk _ _ h1⟩
  case row f args=>exact Rows.mono h fun v w'' h1=>hk _ _ h1
 |halt x w' =>exact h
theorem NormUp.ex {K:Value→World→Prop} {r:Result Next} (h:NormUp P K r): ∃ v w',K v w' :=by
 cases r with
 |ok x w' =>
  cases x<;>simp only [NormUp] at h
  case value v=>exact ⟨_,_,h⟩
  case skip=>exact ⟨_,_,h⟩
  case enter f args=>
   obtain ⟨e,w1,fr,⟨v,_,h1⟩,_⟩:=h [];exact ⟨_,_,h1⟩
  case row f args=>
   obtain ⟨v,w1,h1,_⟩:=h (Frame.enter P 0 #[] .normal) [];exact ⟨_,_,h1⟩
 |halt x w' =>exact h.elim
theorem NormUp.upon {K:Act→World→Prop} {Q:Exit→Act→World→Prop} {o:Oper} {a:Act} {r:Result Next} (h:NormUp P (fun v w' =>K (a.put o.dst v) w') r):o.upon P a K Q r:=by
 cases r with
 |ok x w' =>
  cases x<;>simp only [NormUp] at h<;>simp only [Oper.upon]
  case value v=>exact h
  case skip=>exact h
  case enter f args=>
   refine h.mono fun e w'' ⟨v,he,h1⟩=> ?_;subst he;exact h1
  case row f args=>exact h
 |halt x w' =>exact h.elim
inductive EOp (P:Program) (ops:Array Oper) (es ps:List Nat) (C:World→Prop) (K:Act→World→Prop) (i:Nat) (o:Oper) (a:Act) (w:World):Prop
 |pass (hw:Region.wanted o (yielded ops a.tmps)=false) (hk:K (a.put o.dst undef) w)
 |quiet (hw:Region.wanted o (yielded ops a.tmps)=true) (hi:i∉es) (v:Value) (hr:(execOp a.eval o).run P w= .ok (.value v) w) (hst:i∈ps∨ ∀ w1,C w1→(execOp a.eval o).run P w1= .ok (.value v) w1) (hk:K (a.put o.dst v) w)
 |eff (hw:Region.wanted o (yielded ops a.tmps)=true) (hi:i∈es) (hk:NormUp P (fun v w' =>K (a.put o.dst v) w') ((execOp a.eval o).run P w))
def AnyE (P:Program) (ops:Array Oper) (es ps:List Nat) (C:World→Prop) (Q:Act→World→Prop):Nat→Array Bool→Act→World→Prop
 |0,L,a,w=>C w∧Region.ready .any ops L= []∧Q a w
 |f+1,L,a,w=>C w∧(Region.ready .any ops L= []→Q a w)∧ ∀ i∈Region.ready .any ops L,∃ o,ops[i]? =some o∧EOp P ops es ps C (AnyE P ops es ps C Q f (L.setIfInBounds i true)) i o a w
theorem AnyE.inC {Q:Act→World→Prop} {f:Nat} {L:Array Bool} {a:Act} {w:World} (h:AnyE P ops es ps C Q f L a w):C w:=by
 cases f with
 |zero=>exact h.1
 |succ f=>exact h.1
theorem iK {Q:Act→World→Prop} {Q' :Exit→Act→World→Prop} (hQ: ∀ a w,Q a w→Q' .normal a w): ∀ (f:Nat) (L:Array Bool) (a:Act) (w:World),AnyE P ops es ps C Q f L a w→wpAny P .any ops Q' f L a w
 |0,L,a,w,h=>⟨h.2.1,hQ _ _ h.2.2⟩
 |f+1,L,a,w,h=>⟨fun h0=>hQ _ _ (h.2.1 h0),fun i hi=>by
   obtain ⟨o,ho,hg⟩:=h.2.2 i hi;unfold wpOp;simp only [ho]
   cases hg with
   |pass hw hk=>
    simp only [hw,V2,if_false];exact iK hQ f _ _ _ hk
   |quiet hw _ v hr _ hk=>
    simp only [hw,if_true];refine .inl ?_;unfold Oper.wp;rw [hr];exact iK hQ f _ _ _ hk
   |eff hw _ hk=>
    simp only [hw,if_true];refine .inl ?_;unfold Oper.wp;exact NormUp.upon (hk.mono fun v w' h1=>iK hQ f _ _ _ h1)⟩
def ClosedL (ops:Array Oper) (L:Array Bool):Prop:= ∀ i o,ops[i]? =some o→L.getD i false=true→ ∀ e∈o.after,Region.binds .any e=true→L.getD e.on false=true
theorem ClosedL.set {L:Array Bool} (h:ClosedL ops L) {i:Nat} (hi:i∈Region.ready .any ops L):ClosedL ops (L.setIfInBounds i true):=by
 obtain ⟨_,oi,hoi,hall⟩:=mem_ready.1 hi;have up: ∀ j,L.getD j false=true→(L.setIfInBounds i true).getD j false=true:=fun j hj=>by
  by_cases e:i=j
  ·subst e;have:i<L.size:=by
    rcases WY i L.size with h1|h1
    ·exact h1
    ·rw [Wc,XT h1] at hj;cases hj
   simp [this]
  ·rw [getD_set_ne false e];exact hj
 intro j o ho hj e he hb;by_cases hij:i=j
 ·subst hij;rw [hoi] at ho;injection ho with ho;subst ho;exact up _ (hall e he hb)
 ·rw [getD_set_ne false hij] at hj;exact up _ (h j o ho hj e he hb)
def xw (ops:Array Oper) (i j:Nat):Prop:= ∀ L,ClosedL ops L→i∈Region.ready .any ops L→j∈Region.ready .any ops L→False
theorem EOp.of_put {K K' :Act→World→Prop} {i:Nat} {oi oj:Oper} {a:Act} {w:World} {u:Value} (hap:oi.apart ops oj=true) (hsi: ∀ cs b,oi.op≠ .select cs b)
 (h:EOp P ops es ps C K i oi a w) (hk: ∀ v w',K (a.put oi.dst v) w' →K' ((a.put oj.dst u).put oi.dst v) w'):EOp P ops es ps C K' i oi (a.put oj.dst u) w:=by
 obtain ⟨h1,h2,h3⟩:=Oper.apart_spec hap;have he:=execOp_put oi hsi a oj.dst u h3;have hw:=wanted_put oi a oj.dst u h3
 cases h with
 |pass hw' hk' =>exact .pass (hw.trans hw') (hk _ _ hk')
 |quiet hw' hi v hr hst hk' =>exact .quiet (hw.trans hw') hi v (by rw [he];exact hr) (by rw [he];exact hst) (hk _ _ hk')
 |eff hw' hi hk' =>exact .eff (hw.trans hw') hi (by rw [he];exact hk'.mono fun v w' h=>hk _ _ h)
theorem z2 {Q:Act→World→Prop} {i:Nat} {oi:Oper} (hi:ops[i]? =some oi) (hsel: ∀ (j:Nat) (o:Oper) cs b,ops[j]? =some o→o.op≠ .select cs b)
 (hnb: ∀ x∈es,∀ y,y∈es∨y∈ps→x≠y→xw ops x y):
 ∀ (f:Nat) (L:Array Bool) (a:Act) (w:World),ClosedL ops L→C w→
  (∀ j oj,ops[j]? =some oj→j≠i→L.getD j true=false→(∀ e∈oj.after,Region.binds .any e=true→e.on≠i)→oi.apart ops oj=true)→
  i∈Region.ready .any ops L→EOp P ops es ps C (AnyE P ops es ps C Q f (L.setIfInBounds i true)) i oi a w→AnyE P ops es ps C Q (f+1) L a w
 |0,L,a,w,hcl,hC,_,hr,hy=>⟨hC,fun h=>(by rw [h] at hr;cases hr),fun j hj=>by
   by_cases hji:j=i
   ·subst hji;exact ⟨oi,hi,hy⟩
   ·exfalso;have hne:=ready_mono hj hji;have hE: ∃ a' w',AnyE P ops es ps C Q 0 (L.setIfInBounds i true) a' w' :=by
     cases hy with
     |pass _ hk=>exact ⟨_,_,hk⟩
     |quiet _ _ _ _ _ hk=>exact ⟨_,_,hk⟩
     |eff _ _ hk=>obtain ⟨v,w',h⟩:=hk.ex;exact ⟨_,_,h⟩
    obtain ⟨a',w',_,h0,_⟩:=hE;rw [h0] at hne;cases hne⟩
 |f+1,L,a,w,hcl,hC,hfree,hr,hy=>⟨hC,fun h=>(by rw [h] at hr;cases hr),fun j hj=>by
   by_cases hji:j=i
   ·subst hji;exact ⟨oi,hi,hy⟩
   ·have hj' :=ready_mono hj hji;obtain ⟨hjun,oj,hoj,hall⟩:=mem_ready.1 hj;have hnot: ∀ e∈oj.after,Region.binds .any e=true→e.on≠i:=fun e he hb heq=>by
     have h1:=hall e he hb;have h0:=(mem_ready.1 hr).1;rw [heq] at h1;rcases WY i L.size with h' |h'
     ·simp [h'] at h0 h1;rw [h0] at h1;cases h1
     ·simp [XT h'] at h1
    have hap:=hfree j oj hoj hji hjun hnot;obtain ⟨h1,h2,h3⟩:=Oper.apart_spec hap;have hsi:=fun cs b=>hsel i oi cs b hi;have hsj:=fun cs b=>hsel j oj cs b hoj;have hej: ∀ v,execOp (a.put oi.dst v).eval oj=execOp a.eval oj:=fun v=>execOp_put oj hsj a oi.dst v h1;have hwj: ∀ v,Region.wanted oj (yielded ops (a.put oi.dst v).tmps)=Region.wanted oj (yielded ops a.tmps):=fun v=>wanted_put oj a oi.dst v h1;have hcomm: ∀ v u,(a.put oi.dst v).put oj.dst u=(a.put oj.dst u).put oi.dst v:=fun v u=>Act.put_comm a v u h2;have hset:(L.setIfInBounds i true).setIfInBounds j true=(L.setIfInBounds j true).setIfInBounds i true:=Yn _ _ (Ne.symm hji)
    have hfree' : ∀ k ok,ops[k]? =some ok→k≠i→(L.setIfInBounds j true).getD k true=false→
     (∀ e∈ok.after,Region.binds .any e=true→e.on≠i)→oi.apart ops ok=true:=fun k ok hk hki hun hno=>by
     refine hfree k ok hk hki ?_ hno;by_cases hjk:j=k
     ·subst hjk;exact hjun
     ·rw [getD_set_ne true hjk] at hun;exact hun
    have ih:=z2 (Q:=Q) hi hsel hnb f (L.setIfInBounds j true);have hcl' :=hcl.set hj;have hr' :=ready_mono hr (Ne.symm hji)
    -- what comes of j behind an outcome of i
    have hJ: ∀ v w',AnyE P ops es ps C Q (f+1) (L.setIfInBounds i true) (a.put oi.dst v) w' →EOp P ops es ps C (AnyE P ops es ps C Q f ((L.setIfInBounds j true).setIfInBounds i true)) j oj (a.put oi.dst v) w' :=fun v w' h=>by
     obtain ⟨o,ho,hE⟩:=h.2.2 j hj';have e:o=oj:=Option.some.inj (ho.symm.trans hoj);subst e;rw [hset] at hE;exact hE
    refine ⟨oj,hoj,?_⟩
    have hstill:(∃ v,AnyE P ops es ps C Q (f+1) (L.setIfInBounds i true) (a.put oi.dst v) w∧ ∀ (u:Value) (w2:World) (K' :Act→World→Prop),C w2→(i∈ps→w2=w)→K' ((a.put oj.dst u).put oi.dst v) w2→EOp P ops es ps C K' i oi (a.put oj.dst u) w2)∨
     (Region.wanted oi (yielded ops a.tmps)=true∧i∈es∧NormUp P (fun v w' =>AnyE P ops es ps C Q (f+1) (L.setIfInBounds i true) (a.put oi.dst v) w') ((execOp a.eval oi).run P w)):=by
     cases hy with
     |pass hw hk=>exact .inl ⟨undef,hk,fun u w2 K' _ _ hk' => .pass ((wanted_put oi a oj.dst u h3).trans hw) hk'⟩
     |quiet hw hies v hrun hst hk=>
      refine .inl ⟨v,hk,fun u w2 K' hC2 hps hk' => ?_⟩;have he:=execOp_put oi hsi a oj.dst u h3;have hrun2:(execOp a.eval oi).run P w2= .ok (.value v) w2:=by
       rcases hst with h|h
       ·rw [hps h];exact hrun
       ·exact h w2 hC2
      exact .quiet ((wanted_put oi a oj.dst u h3).trans hw) hies v (by rw [he];exact hrun2) (by rw [he];exact hst) hk'
     |eff hw hies hk=>exact .inr ⟨hw,hies,hk⟩
    rcases hstill with ⟨v,hk,hS⟩|⟨hw,hies,hk⟩
    ·cases hJ v w hk with
     |pass hwj' hkj=>exact .pass ((hwj v).symm.trans hwj') (ih _ w hcl' hC hfree' hr' (hS undef w _ hC (fun _=>rfl) (by rw [← hcomm];exact hkj)))
     |quiet hwj' hjes u hrun hst hkj=>
      rw [hej] at hrun hst;exact .quiet ((hwj v).symm.trans hwj') hjes u hrun hst (ih _ w hcl' hC hfree' hr' (hS u w _ hC (fun _=>rfl) (by rw [← hcomm];exact hkj)))
     |eff hwj' hjes hkj=>
      rw [hej] at hkj;exact .eff ((hwj v).symm.trans hwj') hjes (hkj.mono fun u w2 hk2=>ih _ w2 hcl' hk2.inC hfree' hr' (hS u w2 _ hk2.inC (fun hps=>(hnb j hjes i (.inr hps) hji L hcl hj hr).elim) (by rw [← hcomm];exact hk2)))
    ·obtain ⟨v0,w1,h0⟩:=hk.ex
     cases hJ v0 w1 h0 with
     |pass hwj' hkj=>
      have hwa:=(hwj v0).symm.trans hwj';refine .pass hwa (ih _ w hcl' hC hfree' hr' (EOp.of_put hap hsi (.eff hw hies hk) fun v w' h=> ?_))
      cases hJ v w' h with
      |pass _ h' =>rw [← hcomm];exact h'
      |quiet hw2 _ _ _ _ _=>rw [hwj,hwa] at hw2;cases hw2
      |eff hw2 _ _=>rw [hwj,hwa] at hw2;cases hw2
     |quiet hwj' hjes u hrun hst hkj=>
      have hwa:=(hwj v0).symm.trans hwj';have hst2: ∀ w1,C w1→(execOp a.eval oj).run P w1= .ok (.value u) w1:=by
       rcases hst with h|h
       ·exact (hnb i hies j (.inr h) (Ne.symm hji) L hcl hr hj).elim
       ·rw [hej] at h;exact h
      refine .quiet hwa hjes u (hst2 w hC) (.inr hst2) (ih _ w hcl' hC hfree' hr' (EOp.of_put hap hsi (.eff hw hies hk) fun v w' h=> ?_))
      cases hJ v w' h with
      |pass hw2 _=>rw [hwj,hwa] at hw2;cases hw2
      |eff _ hjes2 _=>exact absurd hjes2 hjes
      |quiet _ _ u' hr2 hst' h' =>
       have hst3:(execOp a.eval oj).run P w= .ok (.value u') w:=by
        rcases hst' with h|h
        ·exact (hnb i hies j (.inr h) (Ne.symm hji) L hcl hr hj).elim
        ·have:=h w hC;rw [hej] at this;exact this
       rw [hst2 w hC] at hst3;injection hst3 with h4;injection h4 with h4;subst h4;rw [← hcomm];exact h'
     |eff hwj' hjes hkj=>exact (hnb i hies j (.inl hjes) (Ne.symm hji) L hcl hr hj).elim⟩
def wpE (P:Program) (ops:Array Oper) (es ps:List Nat) (C:World→Prop) (Q:Act→World→Prop):List Oper→Nat→Act→World→Prop
 | [],_,a,w=>C w∧Q a w
 |o::r,k,a,w=>C w∧EOp P ops es ps C (wpE P ops es ps C Q r (k+1)) k o a w
theorem EOp.mono {K K' :Act→World→Prop} {i:Nat} {o:Oper} {a:Act} {w:World} (h:EOp P ops es ps C K i o a w) (hk: ∀ a w,K a w→K' a w):EOp P ops es ps C K' i o a w:=by
 cases h with
 |pass h1 h2=>exact .pass h1 (hk _ _ h2)
 |quiet h1 h2 v h3 h4 h5=>exact .quiet h1 h2 v h3 h4 (hk _ _ h5)
 |eff h1 h2 h3=>exact .eff h1 h2 (h3.mono fun _ _ h=>hk _ _ h)
theorem z1 {Q:Act→World→Prop} (hs:Region.noSelect ops=true) (hnb: ∀ x∈es,∀ y,y∈es∨y∈ps→x≠y→xw ops x y): ∀ (l:List Oper) (k:Nat) (L:Array Bool) (a:Act) (w:World),(∀ j,l[j]? =ops[k+j]?)→ClosedL ops L→
 Region.lexFrom .any ops l.length k L=true→wpE P ops es ps C Q l k a w→AnyE P ops es ps C Q l.length L a w
 | [],_,_,_,_,_,_,hB,h=>⟨h.1,by simpa [Region.lexFrom] using hB,h.2⟩
 |o::l,k,L,a,w,hl,hcl,hB,h=>by
  have h0:ops[k]? =some o:=by simpa using (hl 0).symm
  simp only [Vw,Region.lexFrom,VP] at hB;obtain ⟨⟨hr,hf⟩,hB'⟩:=hB;have hr' :k∈Region.ready .any ops L:=by simpa using hr
  exact z2 h0 (Region.noSelect_spec hs) hnb l.length L a w hcl h.1 (Region.free_spec h0 hf) hr'
   (h.2.mono fun a' w' h' =>z1 hs hnb l (k+1) _ _ _ (fun j=>by have:=hl (j+1);simpa [WF,Xx 1 j] using this) (hcl.set hr') hB' h')
end
def before (l:List Oper) (i j:Nat):Bool:=match l[j]? with
 |some o=>(pL o).any fun q=>reaches l l.length q i
 |none=>false
def Eh (l:List Oper) (es ps:List Nat):Bool:=es.all fun i=>(es++ps).all fun j=>Nat.beq i j||before l i j||before l j i
theorem wL {l:List Oper} {i j:Nat} {L:Array Bool} (h:before l i j=true) (hcl:ClosedL l.toArray L) (hj:j∈Region.ready .any l.toArray L) (hi:i∈Region.ready .any l.toArray L):False:=by
 unfold before at h;split at h
 ·rename_i o ho;obtain ⟨q,hq,hr⟩:=Xg.1 h;obtain ⟨_,o',ho',hall⟩:=mem_ready.1 hj;rw [V6,ho] at ho';injection ho' with ho';subst ho';obtain ⟨e,he,hb,rfl⟩:=gW.1 hq;have hd:L.getD e.on false=true:=hall e he hb
  have hi' :done L i=true:=lj (D:=done L) (fun x y hx hy z hz=>by
   obtain ⟨e',he',hb',rfl⟩:=gW.1 hz;exact hcl x y (by simpa using hx) hy e' he' hb') _ _ _ hr hd
  have h0:=(mem_ready.1 hi).1;unfold done at hi';rcases WY i L.size with h' |h'
  ·simp [h'] at h0 hi';rw [h0] at hi';cases hi'
  ·simp [XT h'] at hi'
 ·cases h
theorem zO {l:List Oper} {es ps:List Nat} (h:Eh l es ps=true): ∀ x∈es,∀ y,y∈es∨y∈ps→x≠y→xw l.toArray x y:=by
 intro x hx y hy hne L hcl h1 h2;have h3:=WK.1 (WK.1 h x hx) y (VH.2 hy);simp only [Xt] at h3;rcases h3 with (h3|h3)|h3
 ·exact hne (Wg h3)
 ·exact wL h3 hcl h2 h1
 ·exact wL h3 hcl h1 h2
section
variable {P:Program} {n:Fr} {w0:World} {Q:cd} {s:aC} {H S:List Blk} {l rest:List Oper} {ty:TypeId} {p:String} {af:Array Edge} {es ps:List Nat} {k:Nat} {gu:Option (Nat × Bool)}
def WC (P:Program) (n:Fr) (w0:World) (l:List Oper) (S:List Blk) (es ps:List Nat) (Q:cd) (rest:List Oper) (k:Nat) (s:aC) (H:List Blk):Prop:=
 ∀ a w,St n s a→Mem w0 w H→Mem w0 w S→(∀ j,rest[j]? =l[k+j]?)→wpE P l.toArray es ps (fun w=>Mem w0 w S) (post n w0 Q .normal) rest k a w
theorem fa {id:Nat} (es ps:List Nat) (S:List Blk) (hm:P.follows .mixedOrders=true) (hB:Region.lexB .any l.toArray=true) (hch:Eh l es ps=true) (hS:MSub S H)
 (h:WC P n w0 l S es ps Q l 0 s H):W P n w0 (.region id l.toArray true) Q s H:=by
 intro a w hs hmem;have hB' :=hB;simp only [Region.lexB,VP] at hB';refine wp_region_any hm (iK (es:=es) (ps:=ps) (C:=fun w=>Mem w0 w S) (Q:=post n w0 Q .normal) (fun _ _ h=>h) _ _ _ _ ?_);have hcl:ClosedL l.toArray (Array.replicate l.toArray.size false):=fun i o _ hi=>by
  rw [Wc,X3] at hi;split at hi<;>cases hi
 have:=z1 (P:=P) hB'.1 (zO hch) l.toArray.toList 0 (Array.replicate l.toArray.size false) a { w with drawn:=w.drawn+1 } (by simp) hcl (by simpa using hB'.2) (h a _ hs hmem.drew (hS.use hmem.drew) (by simp));simpa using this
theorem Tg (h:Q .normal s H):WC P n w0 l S es ps Q [] k s H:=fun a w hs hm hS _=>⟨hS,s,H,hs,hm,h⟩
theorem dC {op:Op} {d:Nat} {v:Value} (hn:Nat.blt d n.sz=true) (hg:gok l s gu=some true) (hk:es.contains k=false) (hv:VOp P w0 s S op ty v) (h:WC P n w0 l S es ps Q rest (k+1) ((d,v)::s) H):
 WC P n w0 l S es ps Q (⟨some d,op,ty,p,af,gu⟩::rest) k s H:=by
 intro a w hs hm hS hl;obtain ⟨h0,hl'⟩:=kT hl;refine ⟨hS,.quiet (eY rfl hg hs) (by simpa using hk) v (hv a.eval w (some d) p af gu hs.eval hS) (.inr fun w1 h1=>hv a.eval w1 (some d) p af gu hs.eval h1) (h _ _ (hs.put (Wi ▸ hn) v) hm hS hl')⟩
theorem Vc {op:Op} {d:Nat} {v:Value} (hn:Nat.blt d n.sz=true) (hg:gok l s gu=some true) (hk:es.contains k=false) (hp:ps.contains k=true) (hv:VOp P w0 s H op ty v) (h:WC P n w0 l S es ps Q rest (k+1) ((d,v)::s) H):
 WC P n w0 l S es ps Q (⟨some d,op,ty,p,af,gu⟩::rest) k s H:=by
 intro a w hs hm hS hl;obtain ⟨h0,hl'⟩:=kT hl;exact ⟨hS,.quiet (eY rfl hg hs) (by simpa using hk) v (hv a.eval w (some d) p af gu hs.eval hm) (.inl (by simpa using hp)) (h _ _ (hs.put (Wi ▸ hn) v) hm hS hl')⟩
theorem Th {op:Op} {dst:Option Tmp} {d:Nat} (hd:dst=some d) (hn:Nat.blt d n.sz=true) (hg:gok l s gu=some false) (h:WC P n w0 l S es ps Q rest (k+1) ((d,undef)::s) H):
 WC P n w0 l S es ps Q (⟨dst,op,ty,p,af,gu⟩::rest) k s H:=by
 subst hd;intro a w hs hm hS hl;obtain ⟨h0,hl'⟩:=kT hl;exact ⟨hS,.pass (eY rfl hg hs) (h _ _ (hs.put (Wi ▸ hn) undef) hm hS hl')⟩
theorem Le {op:Op} {dst:Option Tmp} {j d:Nat} {dS b:Bool} (_hj:gd l j=some d) (hv:look s d=some (.bool b))
 (k1:b=true→WC P n w0 l S es ps Q (⟨dst,op,ty,p,af,some (j,dS)⟩::rest) k ((d,.bool true)::s) H)
 (k2:b=false→WC P n w0 l S es ps Q (⟨dst,op,ty,p,af,some (j,dS)⟩::rest) k ((d,.bool false)::s) H):
 WC P n w0 l S es ps Q (⟨dst,op,ty,p,af,some (j,dS)⟩::rest) k s H:=by
 intro a w hs hm hS hl
 cases b with
 |true=>exact k1 rfl a w (hs.shadow hv) hm hS hl
 |false=>exact k2 rfl a w (hs.shadow hv) hm hS hl
def ceP (S:List Blk) (K:aC→List Blk→Prop):cd:=fun e s' H' =>e= .normal∧MSub S H' ∧K s' H'
theorem Ht {K:aC→List Blk→Prop} (hS:MSub S H) (h:K s H):ceP S K .normal s H:=⟨rfl,hS,h⟩
theorem Vd {op:Op} {dst:Option Tmp} (hg:gok l s gu=some true) (hk:es.contains k=true) (h:WL P n w0 #[] [⟨dst,op,ty,p,af,none⟩] (ceP S (WC P n w0 l S es ps Q rest (k+1))) s H):
 WC P n w0 l S es ps Q (⟨dst,op,ty,p,af,gu⟩::rest) k s H:=by
 intro a w hs hm hS hl;obtain ⟨h0,hl'⟩:=kT hl;refine ⟨hS,.eff (eY rfl hg hs) (by simpa using hk) ?_⟩;have h1:=h a w hs hm;unfold wpList at h1;simp only [Region.wanted,if_true] at h1;replace h1:=h1.elim id fun ⟨_,a0,w1,s',H'',_,_,he,_⟩=>by cases he
 have hexec:execOp a.eval ⟨dst,op,ty,p,af,gu⟩=execOp a.eval ⟨dst,op,ty,p,af,none⟩:=rfl;rw [hexec];have nxt: ∀ (a' :Act) (w' :World),wpList P #[] (post n w0 (ceP S (WC P n w0 l S es ps Q rest (k+1)))) [] a' w' →wpE P l.toArray es ps (fun w=>Mem w0 w S) (post n w0 Q .normal) rest (k+1) a' w' :=by
  rintro a' w' ⟨s',H',hs',hm',_,hSub,hK⟩;exact hK a' w' hs' hm' (hSub.use hm') hl'
 unfold Oper.wp at h1;generalize (execOp a.eval ⟨dst,op,ty,p,af,none⟩).run P w=r at h1 ⊢
 cases r with
 |ok x w' =>
  cases x<;>simp only [Oper.upon] at h1<;>simp only [NormUp]
  case value u=>exact nxt _ _ h1
  case skip=>exact nxt _ _ h1
  case defer dd=>
   obtain ⟨s',H'',hs',_⟩:=h1;have h2:=congrArg List.length (hs'.defers.trans hs.defers.symm);cases dst<;>simp [Act.put] at h2
  case enter f args=>
   refine h1.mono fun e w'' he=> ?_
   cases e with
   |returned v=>exact ⟨v,rfl,nxt _ _ he⟩
   |panicked c=>
    obtain ⟨s',H'',_,_,he',_⟩:=he;cases he'
   |outgrown=>
    obtain ⟨a0,w1,s',H'',_,_,he',_⟩:=he;cases he'
  case row f args=>exact Rows.mono h1 fun u w'' he=>nxt _ _ he
 |halt x w' =>
  cases x<;>simp only [Oper.upon] at h1
  all_goals
   obtain ⟨s',H'',_,_,he',_⟩:=h1;cases he'
theorem xH {d:Nat} {f:FuncId} {xs:List Operand} {vs:List Value} {v:Value} {ts:Array TypeId} [Callable P f] (hn:Nat.blt d n.sz=true) (hg:gok l s gu=some true) (hk:es.contains k=true) (hx:evs s xs=some vs)
 (hF: ∀ w,Mem w0 w H→aF P f vs w v) (h:WC P n w0 l S es ps Q rest (k+1) ((d,v)::s) H):
 WC P n w0 l S es ps Q (⟨some d,.call { callee:= .value (.func f),args:=xs.toArray,argTypes:=ts },ty,p,af,gu⟩::rest) k s H:=by
 intro a w hs hm hS hl;obtain ⟨h0,hl'⟩:=kT hl;refine ⟨hS,.eff (eY rfl hg hs) (by simpa using hk) ?_⟩;have hrun:=kz (P:=P) (w:=w) (ρ:=a.eval) (d:=some d) (ty:=ty) (p:=p) (af:=af) (g:=gu) (f:=f) (c:= .func f) (xs:=xs) (caps:= []) (ts:=ts) rfl (gK hs hx);rw [VB] at hrun;rw [hrun];refine Calls.mono (hF w hm) ?_;rintro e w' ⟨u,H',rfl,hm',rfl⟩;exact ⟨u,rfl,h _ _ (hs.put (Wi ▸ hn) u) (hm.call hm').right (hS.call hm').right hl'⟩
end
open Go.Proofs
attribute [local irreducible] FnAt FnP RW VOp W WA WC WG WL WLI WQ WR WT WX aS aV bg bi blk ceP scp thn
theorem FnIn.re {P:Program} {f:FuncId} {args:List Value} {w0:World} {H:List Blk} {R R' :Value→List Blk→Prop} (h:FnIn P f args w0 H R) (hr: ∀ v H,R v H→ ∃ H',MSub H' H∧R' v H'):FnIn P f args w0 H R' :=
 fun w hm=>Calls.mono (h w hm) fun _ _ ⟨v,H',h1,h2,h3⟩=>let ⟨H2,h4,h5⟩:=hr v H' h3;⟨v,H2,h1,h4.use h2,h5⟩
theorem MSub.of_perm {H H' :List Blk} (h:H'.Perm H):MSub H H' :=⟨[],by simpa using h⟩
end Go.SL
namespace Go.SL
open Go Go.RowKit
section
variable {P:Program} {n:Fr} {w0:World} {Q:cd} {s:aC} {H:List Blk} {ty:TypeId} {p:String} {af:Array Edge} {rest:List Oper}
theorem gO {d:Nat} {ops:Array Oper} {f:FuncId} {x:Operand} {name:String} {xs:List Operand} {T:TypeId} {rv rv' :Value} {vs:List Value} {ts:Array TypeId} {R:Value→List Blk→Prop} (hn:Nat.blt d n.sz=true) (hx:ev s x=some (.iface T rv)) (hxs:evs s xs=some vs)
 (hI: ∀ w,Mem w0 w H→(invoke (.fn (.method name) #[]) (Value.iface T rv::vs).toArray).run P w= .ok (.enter f (rv' ::vs).toArray) w)
 (hF:FnIn P f (rv' ::vs) w0 H R) (k: ∀ v H',R v H' →WL P n w0 ops rest Q ((d,v)::s) H'):
 WL P n w0 ops (⟨some d,.call { callee:= .invoke x name,args:=xs.toArray,argTypes:=ts },ty,p,af,none⟩::rest) Q s H:=by
 intro a w hs hm;refine wpList_plain rfl fun K hK=> ?_;have h1:a.eval x= .iface T rv:=hs.eval x _ hx;have h2:xs.map a.eval=vs:=gK hs hxs;have hr:(execOp a.eval ⟨some d,.call { callee:= .invoke x name,args:=xs.toArray,argTypes:=ts },ty,p,af,none⟩).run P w= .ok (.enter f (rv' ::vs).toArray) w:=by
  have h3:=hI w hm;simp only [execOp,resolve,Sem.run_bind,Sem.run_pure,Result.andThen_ok,h1,Xv,h2,List.append_toArray,Yy];simpa using h3
 simp only [Oper.wp,hr,Oper.upon];refine (hF w hm).mono ?_;rintro e w' ⟨v,H',rfl,hm',hR⟩;exact hK _ _ (k v H' hR _ _ (hs.put (Wi ▸ hn) _) hm')
end
section
variable {P:Program} {w0:World} {s:aC} {H:List Blk} {ty:TypeId}
theorem HY {t e hi m c sz:Nat} {A:Option Nat} {x q r:Operand} {k k' :IntKind} [ht:Und P t (.slice e)] [hz:Size P e sz] (hx:ev s x=some (sl A m c)) (hq:ev s q=some (.int k (hi:Nat))) (hr:ev s r=some (.int k' (hi:Nat))) (h2:hi≤c):
 VOp P w0 s H (.slice t x none (some q) (some r)) ty (sl A hi hi):=by
 unfold VOp;intro ρ w _ _ _ _ hρ _;obtain ⟨i,hi1,hi2⟩:=hz.out;have e2:((hi:Nat):Int)≤((c:Nat):Int):=by omega
 have e3:((0:Nat):Int)≤((hi:Nat):Int):=by omega
 have e4:(A.map fun g=>(⟨g,0,none⟩:Addr)).map (·.add 0)=A.map fun g=>⟨g,0,none⟩:=by cases A<;>simp [dR]
 unfold sl at hx ⊢;simp [execOp,hρ x _ hx,hρ q _ hq,hρ r _ hr,Instr.sliceAt,run_underlying ht.out,Instr.slice,Instr.sliceBounds,Instr.sliceBound,asIntOf,sizeOf,typeInfo,hi1,h2];intro _;cases A<;>simp [dR]
end
section
variable {P:Program} {n:Fr} {w0:World} {Q:cd} {s:aC} {H:List Blk} {ty:TypeId} {p:String} {af:Array Edge} {rest:List Oper}
theorem rq {x:Operand} {t T:TypeId} {v:Value} {d:TypeDesc} [hd:Und P T d] (hni:(match d with| .interface _=>false|_=>true)=true) (hx:ev s x=some (.iface T v)):VOp P w0 s H (.typeAssert x t T false) ty v:=by
 unfold VOp;intro ρ w _ _ _ _ hρ _;cases d<;>simp_all [execOp,hρ x _ hx,Instr.typeAssert,run_underlying hd.out]
theorem HP {ops:Array Oper} {d:Nat} {op:Op} {g:Option (Nat × Bool)} {A:Option Nat} {t sz m cap:Nat} {xs:List Value} {R:List Blk} (hsel:Sel (.own A t sz m cap xs) H R) (k:Nat) (hk:k≤m)
 (h:WL P n w0 ops (⟨some d,op,ty,p,af,g⟩::rest) Q s (.own A t sz k cap (xs.take (k*sz))::R)):WL P n w0 ops (⟨some d,op,ty,p,af,g⟩::rest) Q s H:=fun a w hs hm=>h a w hs ((hm.sel hsel).shrink hk)
end
section
variable {P:Program} {n:Fr} {w0:World} {Q:cd} {s:aC} {H:List Blk} {ty:TypeId} {p:String} {af:Array Edge} {rest:List Oper}
theorem cY {d:Nat} {ops:Array Oper} {f:FuncId} {x:Operand} {name:String} {xs:List Operand} {T:TypeId} {rv rv' v:Value} {vs:List Value} {ts:Array TypeId} (hn:Nat.blt d n.sz=true) (hx:ev s x=some (.iface T rv)) (hxs:evs s xs=some vs)
 (hI: ∀ w,Mem w0 w H→(invoke (.fn (.method name) #[]) (Value.iface T rv::vs).toArray).run P w= .ok (.enter f (rv' ::vs).toArray) w)
 (hF: ∀ w,Mem w0 w H→aF P f (rv' ::vs) w v) (k:WL P n w0 ops rest Q ((d,v)::s) H):
 WL P n w0 ops (⟨some d,.call { callee:= .invoke x name,args:=xs.toArray,argTypes:=ts },ty,p,af,none⟩::rest) Q s H:=
 gO hn hx hxs hI (R:=fun u H' =>u=v∧H' =H) (fun w hm=>Calls.mono (hF w hm) fun _ _ ⟨u,_,h1,h2,h3⟩=>⟨u,H,h1,(hm.call h2).right,h3,rfl⟩) fun u H' ⟨h1,h2⟩=>by
  subst h1;subst h2;exact k
end
theorem pK {p:Prop} (h:p:=by (repeat first|exact .hd|apply Sel.tl|apply In.tl);(first|done|fail)):p:=h
theorem sB {p:Prop} (h:p:=by (repeat (first|exact Sub.nil _|refine Sub.cons rfl ?_));(first|done|fail)):p:=h
theorem mS {p:Prop} (h:p:=by (repeat (first|exact MSub.nil _|refine MSub.pick (by (repeat first|exact .hd|apply Sel.tl|apply In.tl)) ?_|exact MSub.refl _|refine MSub.drop .hd ?_));(first|done|fail)):p:=h
theorem vC {P:Program} {w0:World} {s:aC} {H:List Blk} {op:Op} {ty:TypeId} {v:Value} (h:VOp P w0 s H op ty v:=by
 first
 |(with_reducible apply NK);exact rfl
 |(with_reducible apply EZ);exact rfl
 |(with_reducible apply UA);exact rfl
 |(with_reducible apply NT);exact rfl
 |(with_reducible apply xO);exact rfl
 |(with_reducible apply eQ);exact rfl;exact pK;exact rfl
 |(with_reducible apply Tz);exact rfl;exact rfl
 |(with_reducible apply NQ);exact rfl;exact rfl
 |(with_reducible apply jE);exact rfl;exact rfl
 |(with_reducible apply jD);exact rfl;exact rfl
 |(with_reducible apply EW);exact rfl;exact pK;exact rfl
 |(with_reducible apply EX);exact rfl;exact pK;exact rfl;exact rfl
 |(with_reducible apply QL);(iterate 3 exact rfl)
 |(with_reducible apply NL);(iterate 3 exact rfl)
 |(with_reducible apply eO);exact rfl
 |(with_reducible apply QI);exact rfl
 |((with_reducible apply QG);exact rfl)):VOp P w0 s H op ty v:=h
theorem vC2 {P:Program} {w0:World} {s:aC} {H:List Blk} {op:Op} {ty:TypeId} {v:Value} (h:VOp P w0 s H op ty v:=by
 first
 |(with_reducible apply bk);exact rfl;exact rfl;(first|assumption|omega)
 |(with_reducible apply Tx);exact rfl;exact rfl;(first|assumption|omega)
 |(with_reducible apply iD);(iterate 3 exact rfl);(first|assumption|omega)
 |(with_reducible apply xM);exact rfl;exact rfl;(first|assumption|omega)
 |(with_reducible apply QF);exact rfl;exact rfl;(first|assumption|omega)
 |(with_reducible apply HV);exact rfl;exact rfl;(first|assumption|omega)
 |(with_reducible apply bk (j:=4));exact rfl;exact rfl;(first|assumption|omega)
 |(with_reducible apply HV (hi:=4));exact rfl;exact rfl;(first|assumption|omega)
 |(with_reducible apply xM (lo:=1));exact rfl;exact rfl;(first|assumption|omega)
 |(with_reducible apply Bm);(iterate 3 exact rfl)
 |((with_reducible apply Bl);(iterate 3 exact rfl))):VOp P w0 s H op ty v:=h
theorem vA {P:Program} {w0:World} {s:aC} {H:List Blk} {op:Op} {ty:TypeId} {v:Value} (h:VOp P w0 s H op ty v:=by
 first
 |(with_reducible apply jn);exact rfl;exact rfl;simp only [maxLen] at*;omega
 |(with_reducible apply Ke);exact rfl;exact rfl;simp only [maxLen] at*;omega
 |(with_reducible apply gQ);exact rfl;exact rfl;simp only [maxLen] at*;omega
 |(with_reducible apply fE);exact rfl;exact rfl;omega;simp only [maxLen] at*;omega
 |(with_reducible apply rV);exact rfl;exact rfl;omega;simp only [maxLen] at*;omega
 |((with_reducible apply H5);exact rfl;exact rfl)):VOp P w0 s H op ty v:=h
theorem vI {P:Program} {w0:World} {s:aC} {H:List Blk} {op:Op} {ty:TypeId} {v:Value} (h:VOp P w0 s H op ty v:=by
 first
 |(with_reducible apply mC);exact rfl;exact rfl;exact ⟨by omega,by omega⟩
 |(with_reducible apply Bi);exact rfl;exact rfl;exact ⟨by omega,by omega⟩
 |((with_reducible apply Bk);exact rfl;exact rfl;exact ⟨by omega,by omega⟩)):VOp P w0 s H op ty v:=h
theorem vR {P:Program} {w0:World} {s:aC} {H:List Blk} {op:Op} {ty:TypeId} {v:Value} (h:VOp P w0 s H op ty v:=by
 first
 |(with_reducible apply aa);exact rfl;exact rfl;(first|assumption|omega)
 |(with_reducible apply bC);exact rfl;assumption;exact rfl
 |(with_reducible apply bF);exact rfl;assumption
 |((with_reducible apply eP);exact rfl;assumption;exact rfl)):VOp P w0 s H op ty v:=h
theorem sT {p q:Prop} (k:q) (h:q→p:=by
 first
 |(with_reducible first|exact rQ|exact UG|exact Uq|exact NH|exact Ur|exact Ti|exact Tn|exact QE|exact UE|exact UH|exact U8|exact U6|exact U9|exact cut_r|exact cut_e)
 |intro k;(with_reducible apply ai);exact rfl;exact vC;exact k
 |intro k;(with_reducible apply Qv);exact rfl;exact rfl;exact k
 |intro k;(with_reducible apply NA);(iterate 4 exact rfl);exact k
 |intro k;(with_reducible apply Nz);(iterate 3 exact rfl);exact k
 |intro k;(with_reducible apply Ad);exact rfl;exact rfl;exact pK;(iterate 3 exact rfl);exact k
 |intro k;(with_reducible apply EI);exact rfl;exact rfl;exact pK;(iterate 4 exact rfl);exact k
 |intro k;(with_reducible apply ES);exact rfl;exact k
 |intro k;(with_reducible apply C0);exact rfl;exact k
 |(intro k;(with_reducible apply U5);exact rfl;exact k)):p:=h k
theorem sM {p:Prop} {q:Nat→Prop} (k: ∀ g,q g) (h:(∀ g,q g)→p:=by
 first
 |intro k;(with_reducible apply Qw);exact rfl;exact rfl;exact k
 |intro k;(with_reducible apply Qx);(iterate 3 exact rfl);exact k
 |intro k;(with_reducible apply EL);exact rfl;exact k
 |(intro k;(with_reducible apply Ae);(iterate 7 exact rfl);exact k)):p:=h k
theorem sT2 {p q:Prop} (k:q) (h:q→p:=by exact ai rfl vC2):p:=h k
theorem sQ2 {p q:Prop} (k:q) (h:q→p:=by exact aY rfl vC2):p:=h k
theorem sS {p q:Prop} (k:q) (h:q→p:=by with_reducible first|exact QA|exact QC|exact scp_n|exact UQ|exact scp_e):p:=h k
theorem sP {p q:Prop} (k:q) (h:q→p:=by with_reducible first|exact UF|exact U7|exact U3|exact scp_p):p:=h k
theorem sC {p q1 q2 r1 r2:Prop} (k1:q1→q2) (k2:r1→r2) (h:(q1→q2)→(r1→r2)→p:=by
 intro k1 k2
 first
 |(with_reducible apply K9);exact rfl;exact rfl;exact fun hb=>k1 (Tidy.out hb);exact fun hb=>k2 (Tidy.out hb)
 |((with_reducible apply Tp);exact rfl;exact fun hb=>k1 (Tidy.out hb);exact fun hb=>k2 (Tidy.out hb))):p:=h k1 k2
theorem cT {p:Prop} (h:p:=by (with_reducible apply dH (i:=()))<;>first|exact trivial|((repeat (first|exact Sub.nil _|refine Sub.cons rfl ?_));done)|((repeat (first|exact MSub.nil _|refine MSub.pick (by (repeat first|exact .hd|apply Sel.tl|apply In.tl)) ?_|exact MSub.refl _|refine MSub.drop .hd ?_));done)|fail):p:=h
theorem sQ {p q:Prop} (k:q) (h:q→p:=by
 first
 |with_reducible exact Tc
 |intro k;(with_reducible apply aY);exact rfl;exact vC;exact k
 |intro k;(with_reducible apply Qq);exact rfl;exact rfl;exact k
 |intro k;(with_reducible apply Nt);(iterate 4 exact rfl);exact k
 |(intro k;(with_reducible apply wq_gno_u);(iterate 3 exact rfl);exact k)):p:=h k
theorem sCQ {p q1 q2 r1 r2:Prop} (k1:q1→q2) (k2:r1→r2) (h:(q1→q2)→(r1→r2)→p:=by
 intro k1 k2
 first
 |((with_reducible apply K5);exact rfl;exact rfl;exact fun hb=>k1 (Tidy.out hb);exact fun hb=>k2 (Tidy.out hb))):p:=h k1 k2
theorem sD {p q:Prop} (k:q) (h:q→p:=by intro k;(with_reducible apply rS);kernel_rfl;kernel_rfl;exact k):p:=h k
theorem sN {p q:Prop} (k:q) (h:q→p:=by exact ai rfl vA):p:=h k
theorem sNQ {p q:Prop} (k:q) (h:q→p:=by exact aY rfl vA):p:=h k
theorem sJ {p q:Prop} (k:q) (h:q→p:=by exact ai rfl vI):p:=h k
theorem sJQ {p q:Prop} (k:q) (h:q→p:=by exact aY rfl vI):p:=h k
theorem sJG {p q:Prop} (k:q) (h:q→p:=by exact fU (f:=60) rfl (by decide+kernel) rfl vI):p:=h k
theorem sO {p q:Prop} (k:q) (h:q→p:=by exact ai rfl vR):p:=h k
theorem sOQ {p q:Prop} (k:q) (h:q→p:=by exact aY rfl vR):p:=h k
theorem sG {p q:Prop} (k:q) (h:q→p:=by
 first
 |with_reducible exact CV
 |intro k;(with_reducible apply EM);exact rfl;intro D ht;exact vC;exact fun _=>rfl;exact k
 |exact HQ _ _ rfl rfl (fun D=> .hd) rfl rfl rfl (fun _=>YY rfl) (fun D ht=> .refl _)
 |(intro k;(with_reducible apply fU (f:=60));exact rfl;decide+kernel;exact rfl;exact vC;exact k)):p:=h k
theorem sX {p q:Prop} (k:q) (h:q→p:=by
 first
 |with_reducible exact S9
 |intro k;(with_reducible apply CO);(iterate 3 exact rfl);intro D ht;exact vC;exact fun _=>rfl;exact k
 |(intro k;(with_reducible apply wx_gno);(iterate 3 exact rfl);exact fun _=>rfl;exact k)):p:=h k
theorem sCX {p q1 q2 r1 r2:Prop} (k1:q1→q2) (k2:r1→r2) (h:(q1→q2)→(r1→r2)→p:=by
 intro k1 k2
 first
 |((with_reducible apply wx_gsplit);exact rfl;exact rfl;exact fun hb=>k1 (Tidy.out hb);exact fun hb=>k2 (Tidy.out hb))):p:=h k1 k2
theorem sXO {p q:Prop} (k:q) (h:q→p:=by exact CO rfl rfl rfl (fun D ht=>vR) (fun _=>rfl)):p:=h k
theorem sBG {p q:Prop} (k:q) (h:q→p:=by with_reducible first|exact wl_app_c|exact wl_app_n):p:=h k
theorem sI {p q:Prop} (k:q) (h:q→p:=by first|(with_reducible exact Qs)|(intro k;(with_reducible apply Nv);exact rfl;exact rfl;exact vC;exact k)):p:=h k
theorem sR {p q:Prop} (k:q) (h:q→p:=by
 first
 |(with_reducible first|exact Tb|exact wr_ret|exact wr_exit|exact Qo|exact Ns|exact Nr|exact s6|exact wt_seq_c|exact wt_seq_b|exact wt_seq_k|exact wt_last_r|exact EF|exact K3|exact MQ|exact MP)
 |intro k;(with_reducible apply CP);exact rfl;exact k
 |intro k;(with_reducible apply z8);exact rfl;exact k
 |(intro k;(with_reducible apply K4);exact rfl;(repeat (first|exact LV|exact JI|apply TW|apply TX|apply no_cut));exact k)):p:=h k
theorem sCR {p q1 q2 r1 r2:Prop} (k1:q1→q2) (k2:r1→r2) (h:(q1→q2)→(r1→r2)→p:=by
 intro k1 k2
 first
 |((with_reducible apply Qp);exact rfl;exact fun hb=>k1 (Tidy.out hb);exact fun hb=>k2 (Tidy.out hb))):p:=h k1 k2
theorem sW {p q:Prop} (k:q) (h:q→p:=by
 first
 |with_reducible exact Tg
 |intro k;(with_reducible apply dC);(iterate 3 exact rfl);exact vC;exact k
 |intro k;(with_reducible apply Th);(iterate 3 exact rfl);exact k
 |intro k;(with_reducible apply wc_gno0);exact rfl;exact k
 |intro k;(with_reducible apply Vd);exact rfl;exact rfl;exact k
 |intro k;(with_reducible apply Vc);(iterate 4 exact rfl);exact vC;exact k
 |(intro k;(with_reducible apply Ht);exact mS;exact k)):p:=h k
theorem sW2 {p q:Prop} (k:q) (h:q→p:=by exact dC rfl rfl rfl vC2):p:=h k
theorem sWN {p q:Prop} (k:q) (h:q→p:=by exact dC rfl rfl rfl vA):p:=h k
theorem sWJ {p q:Prop} (k:q) (h:q→p:=by exact dC rfl rfl rfl vI):p:=h k
theorem sCW {p q1 q2 r1 r2:Prop} (k1:q1→q2) (k2:r1→r2) (h:(q1→q2)→(r1→r2)→p:=by
 intro k1 k2
 first
 |((with_reducible apply Le);exact rfl;exact rfl;exact fun hb=>k1 (Tidy.out hb);exact fun hb=>k2 (Tidy.out hb))):p:=h k1 k2
theorem sG2 {p q:Prop} (k:q) (h:q→p:=by first|exact EM rfl (fun D ht=>vC2) (fun _=>rfl)|exact fU (f:=60) rfl (by decide+kernel) rfl vC2):p:=h k
theorem sX2 {p q:Prop} (k:q) (h:q→p:=by exact CO rfl rfl rfl (fun D ht=>vC2) (fun _=>rfl)):p:=h k
theorem zZA {p q:Prop} (k:q) (h:q→p:=by first|exact fun k=>sT k|exact fun k=>sS k|exact fun k=>sN k|fail):p:=h k
theorem zZB {p q:Prop} (k:q) (h:q→p:=by first|exact fun k=>sT k|exact fun k=>sS k|fail):p:=h k
theorem zZC {p q:Prop} (k:q) (h:q→p:=by first|exact fun k=>sT k|exact fun k=>sS k|exact fun k=>sT2 k|exact fun k=>sN k|fail):p:=h k
theorem zZD {p q:Prop} (k:q) (h:q→p:=by first|exact fun k=>sT k|exact fun k=>sP k|fail):p:=h k
theorem zZE {p q:Prop} (k:q) (h:q→p:=by first|exact fun k=>sT k|exact fun k=>sT2 k|fail):p:=h k
theorem zZF {p q:Prop} (k:q) (h:q→p:=by first|exact fun k=>sT k|exact fun k=>sS k|exact fun k=>sT2 k|fail):p:=h k
theorem zZG {p q:Prop} (k:q) (h:q→p:=by first|exact fun k=>sT k|exact fun k=>sS k|exact fun k=>sQ k|exact fun k=>sN k|exact fun k=>sNQ k|exact fun k=>sD k|fail):p:=h k
theorem zZH {p q:Prop} (k:q) (h:q→p:=by first|exact fun k=>sT k|exact fun k=>sT2 k|exact fun k=>sN k|fail):p:=h k
theorem zZI {p q:Prop} (k:q) (h:q→p:=by first|exact fun k=>sT k|exact fun k=>sS k|exact fun k=>sW k|exact fun k=>sN k|exact fun k=>sWN k|fail):p:=h k
theorem zZJ {p q:Prop} (k:q) (h:q→p:=by first|exact fun k=>sT k|exact fun k=>sN k|exact fun k=>sO k|fail):p:=h k
theorem zZK {p q:Prop} (k:q) (h:q→p:=by first|exact fun k=>sT k|exact fun k=>sS k|exact fun k=>sW k|fail):p:=h k
theorem zZL {p q:Prop} (k:q) (h:q→p:=by first|exact fun k=>sT k|exact fun k=>sR k|fail):p:=h k
theorem zZM {p q:Prop} (k:q) (h:q→p:=by first|exact fun k=>sT k|exact fun k=>sS k|exact fun k=>sJ k|fail):p:=h k
theorem zZN {p q:Prop} (k:q) (h:q→p:=by first|exact fun k=>sT k|exact fun k=>sS k|exact fun k=>sX k|fail):p:=h k
theorem zZO {p q:Prop} (k:q) (h:q→p:=by first|exact fun k=>sT k|exact fun k=>sS k|exact fun k=>sG k|fail):p:=h k
theorem zZP {p q:Prop} (k:q) (h:q→p:=by first|exact fun k=>sT k|exact fun k=>sT2 k|exact fun k=>sG2 k|exact fun k=>sJ k|exact fun k=>sJG k|exact fun k=>sG k|fail):p:=h k
theorem zZQ {p q:Prop} (k:q) (h:q→p:=by first|exact fun k=>sT k|exact fun k=>sI k|exact fun k=>sQ k|exact fun k=>sT2 k|exact fun k=>sQ2 k|exact fun k=>sN k|exact fun k=>sNQ k|exact fun k=>sD k|fail):p:=h k
theorem zZR {p q:Prop} (k:q) (h:q→p:=by first|exact fun k=>sT k|exact fun k=>sS k|exact fun k=>sQ k|exact fun k=>sN k|exact fun k=>sNQ k|fail):p:=h k
theorem eIO {p:Prop} (h:p:=by first|exact .inl rfl|exact .inr rfl):p:=h
theorem rT0 {p q:Prop} (k:q) (h:q→p:=by intro k;(with_reducible apply iO);exact .inl rfl;exact rfl;exact MSub.nil _;exact k):p:=h k
theorem rT1 {p q:Prop} (k:q) (h:q→p:=by intro k;(with_reducible apply bp);exact .inl rfl;exact rfl;exact rfl;exact MSub.nil _;exact k):p:=h k
theorem rT2 {p q:Prop} (k:q) (h:q→p:=by intro k;(with_reducible apply dm);exact .inl rfl;(iterate 3 exact rfl);exact MSub.nil _;exact k):p:=h k
theorem rT3 {p q:Prop} (k:q) (h:q→p:=by intro k;(with_reducible apply sj);exact .inl rfl;(iterate 4 exact rfl);exact MSub.nil _;exact k):p:=h k
theorem eRC {p q:Prop} (k:q) (h:q→p:=by first|exact IA (.inl rfl) rfl rfl pK rfl (MSub.nil _)|exact IA (.inr rfl) rfl rfl pK rfl (MSub.nil _)):p:=h k
theorem nz {p q:Prop} (k:q) (h:q→p:=by first|exact BI (.inl rfl) rfl rfl pK rfl rfl (MSub.nil _)|exact BI (.inr rfl) rfl rfl pK rfl rfl (MSub.nil _)):p:=h k
theorem dz {p q:Prop} (k:q) (h:q→p:=by first|exact iF (.inl rfl) rfl rfl pK rfl rfl rfl (MSub.nil _)|exact iF (.inr rfl) rfl rfl pK rfl rfl rfl (MSub.nil _)):p:=h k
theorem nP {p:Prop} (h:p:=by (repeat (first|exact TT|apply TS|apply TV|apply TU));(first|done|fail)):p:=h
theorem vP {P:Program} {w0:World} {s:aC} {H:List Blk} {op:Op} {ty:TypeId} {v:Value} (h:VOp P w0 s H op ty v:=by
 first|exact vC|(with_reducible apply rV);exact rfl;exact rfl;omega;omega|(with_reducible apply EU);exact rfl;exact rfl;omega):VOp P w0 s H op ty v:=h
open Go.Proofs
attribute [local irreducible] FnAt FnIn VOp W WG WL WQ aS blk thn
theorem nH (c r:Int) (w:World):aF Tryz.prog 90 [.agg #[.int .i64 c,.int .i64 r]] w (.bool (valid c r)):=by
 refine aA Tryz.func90 rfl Tryz.ntmps90 rfl ?_;repeat' (first|refine sT ?_|refine sM fun _=>?_|refine sC ?_ ?_<;>intro hb<;>try omega|fail)
 all_goals ((refine rT1 ?_);((try simp only [← Int.not_lt] at*);simp_all [valid, -Int.not_lt, -Int.not_le,← Int.not_lt]))
theorem JD (r:Rct) (w:World):aF Tryz.prog 96 [.agg (bz r).toArray] w (.tuple #[.agg #[.int .i64 r.c1,.int .i64 r.r1],.agg #[.int .i64 r.c2,.int .i64 r.r2]]):=by
 refine aA Tryz.func96 rfl Tryz.ntmps96 rfl ?_;repeat' (first|refine sT ?_|refine sM fun _=>?_|refine sC ?_ ?_<;>intro hb<;>try omega|fail)
 rename_i g1 g2 g3;refine w8 (fun D=> [.box g2 35 [.int .i64 (bif D 10 then r.c1 else 0),.int .i64 (bif D 10 then r.r1 else 0)],.box g3 35 [.int .i64 (bif D 11 then r.c2 else 0),.int .i64 (bif D 11 then r.r2 else 0)],.box g1 53 (bz r)]) (by kernel_rfl) (by kernel_rfl) (.pick (.tl .hd) (.pick .hd (.refl _))) ?_;repeat' (first|refine sT ?_|refine sG ?_|refine sM fun _=>?_|refine sC ?_ ?_<;>intro hb<;>try omega|fail)
 refine HQ _ _ rfl rfl (fun D=> .tl .hd) rfl rfl rfl (fun _=>VA _) (fun D ht=> .pick (.tl .hd) (.pick .hd (.refl _))) ?_;refine CV fun D hD=> ?_;have h10:=hD 10 (by decide);have h11:=hD 11 (by decide);simp only [h10,h11,cond_true];repeat' (first|refine sT ?_|refine sM fun _=>?_|refine sC ?_ ?_<;>intro hb<;>try omega|fail)
 refine UR (.inl rfl) Tryz.results96 rfl .hd rfl rfl (.tl .hd) rfl (MSub.nil _) ?_
 rfl
theorem lh (r:Rct) (w:World):aF Tryz.prog 36 [.agg (bz r).toArray] w (.int .i64 (jr r)):=by
 refine aA Tryz.func36 rfl Tryz.ntmps36 rfl ?_;repeat' (first|apply ag;exact rfl;exact rfl;intro w hm;exact JD r w|apply ag;exact rfl;exact rfl;intro w hm;exact nH r.c1 r.r1 w|apply ag;exact rfl;exact rfl;intro w hm;exact nH r.c2 r.r2 w|refine sT ?_|refine sM fun _=>?_|refine sC ?_ ?_<;>intro hb<;>try omega|fail)
 all_goals ((refine rT1 ?_);((try simp only [← Int.not_lt] at*);simp_all [jr,bW, -Int.not_lt, -Int.not_le,← Int.not_lt]))
theorem Ph (fn:Int) (w:World):aF Tryz.prog 401 [.int .u8 fn] w (.bool (dF fn)):=by
 refine aA Tryz.func401 rfl Tryz.ntmps401 rfl ?_;repeat' (first|refine sT ?_|refine sM fun _=>?_|refine sC ?_ ?_<;>intro hb<;>try omega|fail)
 all_goals ((refine rT1 ?_);((try simp only [← Int.not_lt] at*);simp_all [dF, -Int.not_lt, -Int.not_le,← Int.not_lt]))
theorem wm (fn:Int) (w:World):aF Tryz.prog 382 [.int .u8 fn] w (.bool (jM fn)):=by
 refine aA Tryz.func382 rfl Tryz.ntmps382 rfl ?_;repeat' (first|refine sT ?_|refine sM fun _=>?_|refine sC ?_ ?_<;>intro hb<;>try omega|fail)
 all_goals ((refine rT1 ?_);((try simp only [← Int.not_lt] at*);simp_all [jM, -Int.not_lt, -Int.not_le,← Int.not_lt]))
theorem P2 (n:Nd) (w:World):aF Tryz.prog 355 [.agg (bu n).toArray] w (.int .i64 (below n)):=by
 refine aA Tryz.func355 rfl Tryz.ntmps355 rfl ?_;repeat' (first|refine sT ?_|refine sM fun _=>?_|refine sC ?_ ?_<;>intro hb<;>try omega|fail)
 all_goals ((refine rT1 ?_);simp_all [below])
theorem zR (fn:Int) (w:World):aF Tryz.prog 380 [.int .u8 fn] w (.tuple #[.int .i64 (fO fn).1,.int .i64 (fO fn).2.1,.int .i64 (fO fn).2.2]):=by
 refine aA Tryz.func380 rfl Tryz.ntmps380 rfl ?_;repeat' (first|apply ag;exact rfl;exact rfl;intro w hm;exact Ph fn w|refine sT ?_|refine sM fun _=>?_|refine sC ?_ ?_<;>intro hb<;>try omega|fail)
 all_goals ((refine rT3 ?_);simp_all [fO])
theorem J2 (fn i:Int) (w:World):aF Tryz.prog 381 [.int .u8 fn,.int .i64 i] w (.tuple #[.bool (lN fn i).1,.int .i64 (lN fn i).2]):=by
 refine aA Tryz.func381 rfl Tryz.ntmps381 rfl ?_;repeat' (first|apply ag;exact rfl;exact rfl;intro w hm;exact zR fn w|apply ag;exact rfl;exact rfl;intro w hm;exact wm fn w|refine sT ?_|refine sM fun _=>?_|refine sC ?_ ?_<;>intro hb<;>try omega|fail)
 all_goals ((refine rT2 ?_);((try simp only [← Int.not_lt] at*);simp_all [lN, -Int.not_lt, -Int.not_le,← Int.not_lt]))
attribute [local irreducible] WA bg
def ik (n:Nd):Bool:=decide (n.kind=2)||decide (n.kind=3)
theorem LZ (n:Nd) (w:World):aF Tryz.prog 233 [.agg (bu n).toArray] w (.bool (ik n)):=by
 refine aA Tryz.func233 rfl Tryz.ntmps233 rfl ?_;repeat' (first|refine sT ?_|refine sM fun _=>?_|refine sC ?_ ?_<;>intro hb<;>try omega|fail)
 all_goals
  (refine rT1 ?_);simp [ik, *]
def pE (a b:Rct):Rct:=⟨if a.c1<b.c1 then b.c1 else a.c1,if a.r1<b.r1 then b.r1 else a.r1,if b.c2<a.c2 then b.c2 else a.c2,if b.r2<a.r2 then b.r2 else a.r2⟩
def qf (a b:Rct):Rct × Bool:=if [a,b,pE a b].all bW=true then (pE a b,true) else (aZ,false)
end Go.SL
namespace Go.SL
open Go Go.Proofs
attribute [local irreducible] W WL WQ WG WA VOp thn blk aS FnAt FnIn
def d9:List ByteArray:= [
 ⟨#[65,66,83]⟩,⟨#[83,73,71,78]⟩,⟨#[73,78,84]⟩,⟨#[84,82,85,78,67]⟩,⟨#[82,79,85,78,68]⟩,
 ⟨#[77,79,68]⟩,⟨#[80,79,87,69,82]⟩,⟨#[83,81,82,84]⟩,⟨#[83,85,77]⟩,⟨#[80,82,79,68,85,67,84]⟩,
 ⟨#[67,79,85,78,84]⟩,⟨#[67,79,85,78,84,65]⟩,⟨#[67,79,85,78,84,66,76,65,78,75]⟩,⟨#[65,86,69,82,65,71,69]⟩,⟨#[77,73,78]⟩,
 ⟨#[77,65,88]⟩,⟨#[77,69,68,73,65,78]⟩,⟨#[76,65,82,71,69]⟩,⟨#[83,77,65,76,76]⟩,⟨#[73,70]⟩,
 ⟨#[65,78,68]⟩,⟨#[79,82]⟩,⟨#[88,79,82]⟩,⟨#[78,79,84]⟩,⟨#[73,70,69,82,82,79,82]⟩,
 ⟨#[73,83,69,82,82,79,82]⟩,⟨#[73,83,66,76,65,78,75]⟩,⟨#[73,83,78,85,77,66,69,82]⟩,⟨#[73,83,84,69,88,84]⟩,⟨#[67,72,79,79,83,69]⟩,
 ⟨#[76,69,78]⟩,⟨#[76,69,70,84]⟩,⟨#[82,73,71,72,84]⟩,⟨#[77,73,68]⟩,⟨#[85,80,80,69,82]⟩,
 ⟨#[76,79,87,69,82]⟩,⟨#[84,82,73,77]⟩,⟨#[67,79,78,67,65,84]⟩,⟨#[82,69,80,84]⟩,⟨#[69,88,65,67,84]⟩,
 ⟨#[70,73,78,68]⟩,⟨#[86,65,76,85,69]⟩,⟨#[73,78,68,69,88]⟩,⟨#[77,65,84,67,72]⟩,⟨#[67,79,85,78,84,73,70]⟩,
 ⟨#[68,83,85,77]⟩,⟨#[68,67,79,85,78,84]⟩,⟨#[68,65,86,71]⟩,⟨#[68,77,73,78]⟩,⟨#[68,77,65,88]⟩]
theorem OY (w:World):aF Tryz.prog 429 [] w (.agg (d9.map Value.string).toArray):=by
 refine aA Tryz.func429 rfl Tryz.ntmps429 rfl ?_;repeat' (first|apply EK;(iterate 5 exact rfl)|refine sT ?_|refine sM fun _=>?_|refine sC ?_ ?_<;>intro hb<;>try omega|fail)
 exact IA (.inl rfl) Tryz.results429 rfl .hd rfl (MSub.nil _) rfl
theorem Ro.str1 {w:World} {g o:Nat} {L:List ByteArray} (h:Ro w g o (L.map Value.string)) (i:Nat) (hi:i<L.length):Ro w g (o+i*1) [Value.string L[i]]:=by
 have h1:=(h.drop (k:=i)).take (k:=1);rw [← List.map_drop,← List.map_take,Vy hi] at h1;rw [Wd];exact h1
def fF:List ByteArray→ByteArray→Int→Int
 | [],_,_=> -1
 |a::r,s,i=>if s=a then i else fF r s (i+1)
theorem Qh (L:List ByteArray) (b:ByteArray) (tv:Value) (w:World) (ht:Reads w tv L.length (L.map Value.string)):aF Tryz.prog 430 [tv,.string b] w (.int .i64 (fF L b 0)):=by
 obtain ⟨Al,cl,rfl,hl1,hl2,hl3⟩:=ht;refine aA Tryz.func430 rfl Tryz.ntmps430 rfl ?_;repeat' (first|refine sT ?_|refine sM fun _=>?_|refine sC ?_ ?_<;>intro hb<;>try omega|fail)
 refine fP (fun i:Nat=> [(0,.slice Al L.length cl),(1,.string b),(7,.int .i64 (L.length:Int)),(8,.int .i64 (i:Int))]) (fun _=> []) (fun i=>i≤L.length∧fF L b 0=fF (L.drop i) b (i:Int)) (fun i=>L.length - i) 0 ⟨by omega,rfl⟩ ?_ ?_ ?_
 ·exact sB
 ·exact mS
 ·rintro i ⟨hi,hrec⟩;by_cases hlt:i<L.length
  ·obtain ⟨gl,ol,rfl,hrl⟩:=hl3 (by omega);have he:=hrl.str1 i hlt;rw [Vy hlt,fF] at hrec;repeat' (first|apply ai;exact rfl;apply aa;exact rfl;exact rfl;exact hlt|apply ai;exact rfl;apply bF;exact rfl;exact he|apply ai;exact rfl;apply jn;exact rfl;exact rfl;simp only [maxLen] at*;omega|refine sT ?_|refine sM fun _=>?_|refine sC ?_ ?_<;>intro hb<;>try omega|fail)
   ·(refine rT1 ?_);rw [hrec,if_pos hb]
   ·refine ⟨i+1,⟨by omega,?_⟩,by omega,?_,?_⟩
    ·rw [hrec,if_neg hb]
     rfl
    ·exact sB
    ·exact mS
  ·have e:i=L.length:=by omega
   subst e;repeat' (first|refine sT ?_|refine sM fun _=>?_|refine sC ?_ ?_<;>intro hb<;>try omega|fail)
   (refine rT1 ?_);rw [hrec,V8,fF]
theorem kf:d9.length=50:=rfl
theorem kn (L:List ByteArray) (b:ByteArray) (i:Int) (h:0≤i):fF L b i= -1∨(i≤fF L b i∧fF L b i<i+L.length):=by
 induction L generalizing i with
 |nil=>exact .inl rfl
 |cons a r ih=>
  unfold fF;rw [Vw];split
  ·right;omega
  ·rcases ih (i+1) (by omega) with h1|h1
   ·exact .inl h1
   ·right;omega
def bo (b:ByteArray):Int × Int:=if fF d9 b 0<0 then (0,6) else (fF d9 b 0+1,0)
theorem HG (b:ByteArray) (w:World):aF Tryz.prog 424 [.string b] w (.tuple #[.int .u8 (bo b).1,.int .i64 (bo b).2]):=by
 refine aA Tryz.func424 rfl Tryz.ntmps424 rfl ?_;have hb1:=kn d9 b 0 (by omega);rw [kf] at hb1;have hix:=fun w tv (h:Reads w tv (d9.map Value.string).length (d9.map Value.string))=>Qh d9 b tv w h;unfold bo;generalize fF d9 b 0=r at hb1 hix;repeat' (first|apply ag;exact rfl;exact rfl;intro w hm;exact OY w|apply ai;exact rfl;apply ET;exact rfl|apply ag;exact rfl;exact rfl;intro w' hm;exact hix w' _ (Reads.of_box hm pK rfl)|apply ai;exact rfl;apply fH;exact rfl;exact rfl;exact I64.wrap ⟨by omega,by omega⟩|apply ai;exact rfl;apply Bp;exact rfl;exact gG (by omega) (by omega)|refine sT ?_|refine sM fun _=>?_|refine sC ?_ ?_<;>intro hb<;>try omega|fail)
 ·refine dm (.inl rfl) Tryz.results424 rfl rfl (.nil _) ?_;rw [if_pos hb]
 ·refine dm (.inl rfl) Tryz.results424 rfl rfl (.nil _) ?_;rw [if_neg (by omega)]
attribute [local irreducible] WLI WR WT bg bi py r9 wK
def lS (r:Rct) (u:Us):Bool:=(qf u.rect r).2
end Go.SL
namespace Go.SL
open Go Go.Proofs
attribute [local irreducible] W WL WQ WG WA VOp thn blk bg aS FnAt FnIn Qi
theorem yu (r:Rct):bW r=true↔1≤r.c1∧r.c1≤1024∧1≤r.r1∧r.r1≤1024∧1≤r.c2∧r.c2≤1024∧1≤r.r2∧r.r2≤1024∧r.c1≤r.c2∧r.r1≤r.r2:=by
 simp only [bW,valid,VP,decide_eq_true_eq];omega
theorem Lz (r:Rct) (u:Us):lS r u=true↔bW u.rect=true∧bW r=true∧u.rect.c1≤r.c2∧r.c1≤u.rect.c2∧u.rect.r1≤r.r2∧r.r1≤u.rect.r2:=by
 have h:lS r u= [u.rect,r,pE u.rect r].all bW:=by
  unfold lS qf;cases [u.rect,r,pE u.rect r].all bW<;>simp
 rw [h];simp only [XM,List.all_nil,WO,VP,yu];generalize u.rect=a;unfold pE;dsimp only;repeat' split
 all_goals omega
end Go.SL
namespace Go.SL
open Go Go.Proofs
attribute [local irreducible] W WL WQ WG WA VOp thn blk aS FnAt FnIn
theorem jR {L:List Nd} {i:Nat} (h:i<L.length):jS L i=L[i].kind:=by simp [jS,h]
theorem Sa (L:List Nd) (n:Nd) (ps:List Pt) (tv lv:Value) (w:World) (ht:Reads w tv L.length (L.flatMap bu)) (hp:Reads w lv ps.length (ps.flatMap vF)) (hroot: ∀ p∈ps,p.root<L.length) (hlen:ps.length≤1000000):
 aF Tryz.prog 356 [tv,.agg (bu n).toArray,lv] w (.bool (fu L n 0 ps)):=by
 obtain ⟨At,ct,rfl,ht1,ht2,ht3⟩:=ht;obtain ⟨Al,cl,rfl,hl1,hl2,hl3⟩:=hp;refine aA Tryz.func356 rfl Tryz.ntmps356 rfl ?_;repeat' (first|refine sT ?_|refine sM fun _=>?_|refine sC ?_ ?_<;>intro hb<;>try omega|fail)
 rename_i gn
 refine fP (fun i:Nat=> [(0,.slice At L.length ct),(4,.pointer (some ⟨gn,0,none⟩)),(11,.slice Al ps.length cl),(12,.int .i64 (ps.length:Int)),(13,.int .i64 (i:Int))])
  (fun i=> [.box gn 132 (bu n)]) (fun i=>i≤ps.length∧fu L n 0 ps=fu L n (i:Int) (ps.drop i)) (fun i=>ps.length - i) 0 ⟨by omega,rfl⟩ ?_ ?_ ?_
 ·exact sB
 ·exact mS
 ·rintro i ⟨hi,hrec⟩;by_cases hlt:i<ps.length
  ·obtain ⟨g,o,rfl,hro⟩:=hl3 (by omega);have hrp:=hro.elem qx i hlt;have hr0:=hroot ps[i] (VL hlt);obtain ⟨gt,ot,rfl,hrt⟩:=ht3 (by omega);have hrn:=hrt.elem cR ps[i].root hr0;rw [Vy hlt,fu,vD,jR hr0] at hrec;repeat' (first|(apply ai;exact rfl;apply aa;exact rfl;exact rfl;first|exact hlt|exact hr0)|apply ai;exact rfl;apply bC;exact rfl;exact hrp;exact rfl|apply ai;exact rfl;apply eP;exact rfl;exact hrn;exact rfl|apply ai;exact rfl;apply mC;exact rfl;exact rfl;constructor<;>omega|apply ag;exact rfl;exact rfl;intro w hm;exact J2 n.fn (i:Int) w|apply ag;exact rfl;exact rfl;intro w hm;exact wm n.fn w|refine sT ?_|refine sM fun _=>?_|refine sC ?_ ?_<;>intro hb<;>try omega|fail)
   all_goals first
    |(refine rT1 ?_);rw [hrec];simp_all [Gt];done
    |refine ⟨i+1,⟨by omega,?_⟩,by omega,?_,?_⟩;(focus (rw [hrec,Int.natCast_add];simp [Gt, *]));(focus exact sB);(focus exact mS)
  ·have e:i=ps.length:=by omega
   subst e;rw [V8,fu] at hrec;repeat' (first|refine sT ?_|refine sM fun _=>?_|refine sC ?_ ?_<;>intro hb<;>try omega|fail)
   (refine rT1 ?_);rw [hrec]
attribute [local irreducible] WLI WR WT WX bg bi scp
theorem mQ (c:Int) (w:World):aF Tryz.prog 339 [.int .u8 c] w (.bool (aL c)):=by
 refine aA Tryz.func339 rfl Tryz.ntmps339 rfl ?_;repeat' (first|refine sT ?_|refine sM fun _=>?_|refine sC ?_ ?_<;>intro hb<;>try omega|fail)
 all_goals ((refine rT1 ?_);((try simp only [← Int.not_lt] at*);simp_all [aL, -Int.not_lt, -Int.not_le,← Int.not_lt]))
theorem tX (c:Int) (w:World):aF Tryz.prog 341 [.int .u8 c] w (.bool (cz c)):=by
 refine aA Tryz.func341 rfl Tryz.ntmps341 rfl ?_;repeat' (first|refine sT ?_|refine sM fun _=>?_|refine sC ?_ ?_<;>intro hb<;>try omega|fail)
 all_goals ((refine rT1 ?_);(try simp only [← Int.not_lt] at*);simp_all [cz, -Int.not_lt, -Int.not_le,← Int.not_lt];try omega)
theorem MC (c:Int) (w:World):aF Tryz.prog 375 [.int .u8 c] w (.bool (dI c)):=by
 refine aA Tryz.func375 rfl Tryz.ntmps375 rfl ?_;repeat' (first|apply ag;exact rfl;exact rfl;intro w hm;exact tX c w|apply ag;exact rfl;exact rfl;intro w hm;exact mQ c w|refine sT ?_|refine sM fun _=>?_|refine sC ?_ ?_<;>intro hb<;>try omega|fail)
 all_goals ((refine rT1 ?_);simp_all [dI])
def jN (p:Int→Bool) (l:List Int):List Int:=l.take (aK p l)
theorem F7 {p:Int→Bool} {c:Int} {r:List Int} (h:p c=true):jN p (c::r)=c::jN p r:=by simp [jN,aK,h]
theorem F6 {p:Int→Bool} {c:Int} {r:List Int} (h:p c=false):jN p (c::r)= []:=by simp [jN,aK,h]
theorem AG (p:Int→Bool) (l:List Int):(jN p l).length=aK p l:=by
 simp [jN,Xs (cH p l)]
theorem Mc (a:ByteArray) (ha:a.size≤1000000) (i0:Nat) (hi0:i0≤a.size) (fis:FuncId) [Callable Tryz.prog fis] (p:Int→Bool) (hf: ∀ c w,aF Tryz.prog fis [.int .u8 c] w (.bool (p c))) (w0:World) (g4 g3 g5:Nat):
 SD Tryz.prog 395 [.pointer (some ⟨g4,0,none⟩),.pointer (some ⟨g3,0,none⟩),.pointer (some ⟨g5,0,none⟩)] w0 [.box g4 3 [.int .i64 (i0:Int)],.box g3 9 [.string a],.box g5 446 [.func (.func fis) #[] #[]]] (jN p ((ap a).drop i0)) (fun c=> [.int .u8 c]):=by
 intro l I J H0 hy h0;refine FnIn.msub (H' := [.box g4 3 [.int .i64 (i0:Int)],.box g3 9 [.string a],.box g5 446 [.func (.func fis) #[] #[]]]++H0) ?_ MSub.swap;refine bE Tryz.func395 rfl Tryz.ntmps395 rfl ?_;repeat' (first|refine zZE ?_|refine sM fun _=>?_|refine sC ?_ ?_<;>intro hb<;>try omega|fail)
 refine fP (fun y:Nat × List Int × List Blk=> [(0,.func (.yield l) #[] #[]),(1,.pointer (some ⟨g4,0,none⟩)),(2,.pointer (some ⟨g3,0,none⟩)),(3,.pointer (some ⟨g5,0,none⟩)),(5,.int .i64 (y.1:Int))])
  (fun y=> [.box g4 3 [.int .i64 (i0:Int)],.box g3 9 [.string a],.box g5 446 [.func (.func fis) #[] #[]]]++y.2.2)
  (fun y=>y.1≤a.size∧jN p ((ap a).drop i0)=y.2.1++jN p ((ap a).drop y.1)∧I y.2.1 y.2.2) (fun y=>a.size - y.1) (i0,[],H0) ⟨hi0,rfl,h0⟩ sB (MSub.refl _) ?_
 rintro ⟨i,pre,H1⟩ ⟨hi,hus,hI⟩;dsimp only at hi hus hI ⊢;by_cases hlt:i<a.size
 ·rw [bA hlt] at hus;have hfc:=fun w=>hf (bat a i) w;cases hp:p (bat a i)
  ·rw [hp] at hfc;rw [F6 hp,VB] at hus;repeat' (first|apply Bd;exact rfl;exact rfl;infer_instance;exact rfl;intro w' _;exact hfc w'|refine zZQ ?_|refine sM fun _=>?_|refine sC ?_ ?_<;>intro hb<;>try omega|refine sCQ ?_ ?_<;>intro hb<;>try omega|fail)
   exact iO (.inr rfl) rfl (.refl _) ⟨H1,.inl (hus ▸ hI),MSub.swap⟩
  ·rw [hp] at hfc;rw [F7 hp] at hus;repeat' (first|apply Bd;exact rfl;exact rfl;infer_instance;exact rfl;intro w' _;exact hfc w'|apply nG (id:=3)|apply Nv;exact rfl;exact rfl;apply bk;exact rfl;exact rfl;exact hlt|refine zZQ ?_|refine sM fun _=>?_|refine sC ?_ ?_<;>intro hb<;>try omega|refine sCQ ?_ ?_<;>intro hb<;>try omega|fail)
   (with_reducible apply lK)
   ·exact rfl
   ·exact rfl
   ·exact rfl
   ·exact MSub.swapN
   ·exact fun w hm=>hy pre (bat a i) _ hus H1 [] hI w hm
   intro bb H2 hq;cases bb
   ·repeat' first|refine sT ?_|refine sI ?_|refine sT2 ?_|refine sM fun _=>?_|refine sC ?_ ?_<;>intro hb<;>try omega|fail
    exact iO eIO rfl (.refl _) ⟨H2,.inr ⟨_,hq⟩,by rw [VB];exact .refl _⟩
   ·repeat' first|refine sT ?_|refine sI ?_|refine sT2 ?_|refine sN ?_|refine sM fun _=>?_|refine sC ?_ ?_<;>intro hb<;>try omega|fail
    refine ⟨(i+1,_,H2),⟨hlt,hus.trans (by rw [List.append_assoc];rfl),hq⟩,(by dsimp only;omega),sB,?_⟩;exact MSub.swapN'
 ·have e:i=a.size:=by omega
  subst e;have hl:=az a;rw [VY (i:=a.size) (by omega),show jN p []= [] from rfl,VB] at hus;repeat' (first|refine zZQ ?_|refine sM fun _=>?_|refine sC ?_ ?_<;>intro hb<;>try omega|refine sCQ ?_ ?_<;>intro hb<;>try omega|fail)
  exact iO (.inr rfl) rfl (.refl _) ⟨H1,.inl (hus ▸ hI),MSub.swap⟩
theorem OG (a:ByteArray) (i0:Nat) (fis:FuncId) (w:World):
 FnAt Tryz.prog 374 [.string a,.int .i64 (i0:Int),.func (.func fis) #[] #[]] w fun v H=> ∃ g4 g3 g5,v= .func (.func 395) #[] #[.pointer (some ⟨g4,0,none⟩),.pointer (some ⟨g3,0,none⟩),.pointer (some ⟨g5,0,none⟩)]∧H= [.box g4 3 [.int .i64 (i0:Int)],.box g3 9 [.string a],.box g5 446 [.func (.func fis) #[] #[]]]:=by
 refine aA Tryz.func374 rfl Tryz.ntmps374 rfl ?_;repeat' (first|refine sT ?_|refine sM fun _=>?_|refine sC ?_ ?_<;>intro hb<;>try omega|fail)
 rename_i g3 g4 g5;exact bp (.inl rfl) rfl rfl (H' := [.box g4 3 [.int .i64 (i0:Int)],.box g3 9 [.string a],.box g5 446 [.func (.func fis) #[] #[]]]) mS ⟨g4,g3,g5,rfl,rfl⟩
theorem vu (a:ByteArray) (ha:a.size≤1000000) (i0:Nat) (hi0:i0≤a.size) (fis:FuncId) [Callable Tryz.prog fis] (p:Int→Bool) (hf: ∀ c w,aF Tryz.prog fis [.int .u8 c] w (.bool (p c))) (w:World):
 aF Tryz.prog 338 [.string a,.int .i64 (i0:Int),.func (.func fis) #[] #[]] w (.int .i64 (aK p ((ap a).drop i0):Int)):=by
 refine wF Tryz.func338 rfl Tryz.ntmps338 (by rfl) ?_;refine s6 ?_;repeat' (first|apply aJ;exact rfl;exact rfl;intro w' hm;exact OG a i0 fis w';rintro v H' ⟨g4,g3,g5,rfl,rfl⟩|refine zZL ?_|refine sM fun _=>?_|refine sC ?_ ?_<;>intro hb<;>try omega|refine sCR ?_ ?_<;>intro hb<;>try omega|fail)
 rename_i gn;have hpl:=AG p ((ap a).drop i0);have hll:=az a;have hrl:=cH p ((ap a).drop i0);rw [VS] at hrl;rw [← hpl]
 refine xz (ps:= [12]) (us:=jN p ((ap a).drop i0)) (encs:=fun c=> [.int .u8 c]) (Hc:= [.box g4 3 [.int .i64 (i0:Int)],.box g3 9 [.string a],.box g5 446 [.func (.func fis) #[] #[]]]) (HU0:= [.box gn 3 [.int .i64 0]]) rfl (fun _=>rfl) rfl (Mc a ha i0 hi0 fis p hf w g4 g3 g5)
  (fun pre HU=>HU= [.box gn 3 [.int .i64 (pre.length:Int)]]) (fun _=>False) MSub.swap rfl ?_ ?_ ?_
 ·rintro l pre u post hus _ rfl F F';have hlu:=congrArg List.length hus;simp only [Vn,Vw] at hlu;change WR _ _ _ l _ _ ((12,Value.int .u8 u)::_) (.box gn 3 [.int .i64 (pre.length:Int)]::F);repeat' (first|refine zZL ?_|refine sM fun _=>?_|refine sC ?_ ?_<;>intro hb<;>try omega|refine sCR ?_ ?_<;>intro hb<;>try omega|fail)
  refine zQ ⟨[.box gn 3 [.int .i64 (pre.length:Int)]],MSub.refl _,?_⟩;change WR _ _ _ l _ _ _ (.box gn 3 [.int .i64 (pre.length:Int)]::F');repeat' (first|refine sT ?_|refine sR ?_|refine sN ?_|refine sM fun _=>?_|refine sC ?_ ?_<;>intro hb<;>try omega|refine sCR ?_ ?_<;>intro hb<;>try omega|fail)
  refine qK [.box gn 3 [.int .i64 ((pre.length+1:Nat):Int)]] ?_ (by rw [Vn];rfl);change MSub (_::F') _;exact mS
 ·rintro D _ rfl;change bi _ _ _ _ _ (kM D:: .box gn 3 [.int .i64 ((jN p ((ap a).drop i0)).length:Int)]::_);repeat' (first|refine zZL ?_|refine sM fun _=>?_|refine sC ?_ ?_<;>intro hb<;>try omega|refine sCR ?_ ?_<;>intro hb<;>try omega|fail)
  refine zw .hd ?_;exact bp (.inl rfl) rfl rfl (MSub.nil _) rfl
 ·rintro D HU h;exact h.elim
def jh (op:Int):Int:=
 if 7≤op∧op≤12 then 1 else if op=6 then 2 else if op=1∨op=2 then 3 else if op=3∨op=4 then 4 else if op=5 then 6 else if op=13 then 7 else 0
structure PS where
 l:List Tk
 out:List Nd
def hdT (fin:Int) (l:List Tk):Tk:=l.headD { dY with at_:=fin }
def PS.skip (p:PS):PS:=⟨p.l.tail,p.out⟩
def PS.put (p:PS) (n:Nd):PS:=⟨p.l,p.out++ [n]⟩
inductive Job where
 |level (k:Int)
 |loop (k:Int)
 |sign
 |pct
 |pctl
 |prim
 |args (fn:Int) (n:Nat)
abbrev Out:=Except (Int × Int) (Nat × PS)
def eW (kind op:Int):Nd:=⟨kind,bX,aZ,op,0,0⟩
def iB (r:Option Out) (k:Nat→PS→Option Out):Option Out:=
 match r with
 |some (.ok (n,p))=>k n p
 |r=>r
def o7 (t:Tk):Nd:=
 ⟨1,if t.kind=1 then ⟨1,t.num,aB⟩ else if t.kind=2 then ⟨3,0,t.text⟩ else if t.kind=3 then ⟨2,t.num,aB⟩ else ⟨4,t.num,aB⟩,aZ,0,0,0⟩
def dX (fin:Int) (name:Tk) (fn:Int) (n:Nat) (p:PS):Option Out:=
 let t:=hdT fin p.l
 if t.kind≠10 then some (.error (t.at_,4))
 else if (n:Int)<(fO fn).1∨(fO fn).2.1<(n:Int) then some (.error (name.at_,11))
 else if 46≤fn∧(p.out.getLast?.map fun x=>decide (x.kind=2∨x.kind=3))≠some true then some (.error (name.at_,4))
 else some (.ok (0,p.skip.put ⟨7,bX,aZ,0,fn,n⟩))
def bK (fin:Int):Nat→Job→PS→Option Out
 |0,_,_=>none
 |f+1,.level k,p=>if k=5 then bK fin f .sign p else iB (bK fin f (.level (k+1)) p) fun _ p=>bK fin f (.loop k) p
 |f+1,.loop k,p=>
  let t:=hdT fin p.l
  if t.kind=8∧jh t.num=k then iB (bK fin f (.level (k+1)) p.skip) fun _ p=>bK fin f (.loop k) (p.put (eW 6 t.num))
  else some (.ok (0,p))
 |f+1,.sign,p=>
  let t:=hdT fin p.l
  if t.kind=8∧t.num=2 then iB (bK fin f .sign p.skip) fun _ p=>some (.ok (0,p.put (eW 4 0)))
  else iB (bK fin f .pct p) fun _ p=>
   let u:=hdT fin p.l
   if u.kind=8∧u.num=5 then iB (bK fin f .sign p.skip) fun _ p=>some (.ok (0,p.put (eW 6 5)))
   else some (.ok (0,p))
 |f+1,.pct,p=>iB (bK fin f .prim p) fun _ p=>bK fin f .pctl p
 |f+1,.pctl,p=>
  let t:=hdT fin p.l
  if t.kind=8∧t.num=13 then bK fin f .pctl (p.skip.put (eW 5 0)) else some (.ok (0,p))
 |f+1,.prim,p=>
  let t:=hdT fin p.l
  if 1≤t.kind∧t.kind≤4 then some (.ok (0,p.skip.put (o7 t)))
  else if t.kind=5 then some (.ok (0,p.skip.put ⟨2,bX,t.rect,0,0,0⟩))
  else if t.kind=9 then iB (bK fin f (.level 1) p.skip) fun _ p=>
   let u:=hdT fin p.l
   if u.kind≠10 then some (.error (u.at_,4)) else some (.ok (0,p.skip))
  else if t.kind=7 then
   if (bo t.text).2≠0 then some (.error (t.at_,10))
   else
    let u:=hdT fin p.skip.l
    if u.kind≠9 then some (.error (u.at_,4))
    else if (hdT fin p.skip.skip.l).kind=10 then dX fin t (bo t.text).1 0 p.skip.skip
    else iB (bK fin f (.args (bo t.text).1 0) p.skip.skip) fun n p=>dX fin t (bo t.text).1 n p
  else some (.error (t.at_,4))
 |f+1,.args fn n,p=>
  let t:=hdT fin p.l;let go:=fun (p:PS)=>if (hdT fin p.l).kind=11 then bK fin f (.args fn (n+1)) p.skip else some (.ok (n+1,p))
  if t.kind≠6 then iB (bK fin f (.level 1) p) fun _ p=>go p
  else if (lN fn n).1=false∨(lN fn n).2≠0 then some (.error (t.at_,4))
  else go (p.skip.put ⟨3,bX,t.rect,0,0,0⟩)
end Go.SL
namespace Go.SL
open Go Go.Proofs
attribute [local irreducible] W WL WQ WG WA VOp thn blk aS FnAt FnIn
def iP (fn:Int):ByteArray:=if 51≤fn then aB else (aB::d9).getD fn.toNat aB
theorem wrap_i64 {a:Int} (h1:0≤a) (h2:a≤255):IntKind.i64.wrap a=a:=I64.wrap ⟨by omega,by omega⟩
theorem oU (fn:Int) (h0:0≤fn) (h1:fn≤255) (w:World):aF Tryz.prog 390 [.int .u8 fn] w (.string (iP fn)):=by
 obtain ⟨j,rfl⟩:=Yu h0;refine aA Tryz.func390 rfl Tryz.ntmps390 rfl ?_;have hg: ∀ h:j<51,((aB::d9).map Value.string)[0+j*1]? =some (.string ((aB::d9).getD j aB)):=by
  intro h;have:j<(aB::d9).length:=h;rw [show 0+j*1=j by omega];simp only [VG,VX,Vo this]
  rfl
 repeat' first|apply ai;exact rfl;apply Bp;exact rfl;exact wrap_i64 h0 h1|apply ai;exact rfl;apply aa (j:=j);exact rfl;exact rfl;omega|apply ai;exact rfl;apply aq;exact rfl;exact pK;exact hg (by omega)|refine sT ?_|refine sM fun _=>?_|refine sC ?_ ?_<;>intro hb<;>try omega|fail
 ·(refine rT1 ?_);rw [iP,if_pos (by omega)]
  rfl
 ·(refine rT1 ?_);rw [iP,if_neg (by omega)]
  rfl
theorem FG {i:Nat} (h:i<50):iP ((i:Int)+1)=d9[i]'h:=by
 have h2:i<d9.length:=h;rw [iP,if_neg (by omega),show ((i:Int)+1).toNat=i+1 by omega];simp [h2]
 rfl
theorem yp (b:ByteArray) (w:World):aF Tryz.prog 420 [.string b] w (.tuple #[.int .u8 (bo b).1,.int .i64 (bo b).2]):=by
 refine aA Tryz.func420 rfl Tryz.ntmps420 rfl ?_;repeat' (first|refine sT ?_|refine sM fun _=>?_|refine sC ?_ ?_<;>intro hb<;>try omega|fail)
 refine fP (fun i:Nat=> [(0,.string b),(4,.int .u8 ((i:Int)+1))]) (fun _=> []) (fun i=>i≤50∧fF d9 b 0=fF (d9.drop i) b (i:Int)) (fun i=>50 - i) 0 ⟨by omega,rfl⟩ ?_ ?_ ?_
 ·exact sB
 ·exact mS
 ·rintro i ⟨hi,hrec⟩;by_cases hlt:i<50
  ·have hl:i<d9.length:=hlt;have hr: ∀ w,aF Tryz.prog 390 [.int .u8 ((i:Int)+1)] w (.string (d9[i]'hl)):=fun w=>FG hlt ▸ oU _ (by omega) (by omega) w;rw [Vy hl,fF] at hrec;repeat' (first|apply ag;exact rfl;exact rfl;intro w hm;exact hr w|apply ai;exact rfl;apply fH (c:=((i+1:Nat):Int)+1);exact rfl;exact rfl;exact gG (by omega) (by omega)|refine sT ?_|refine sM fun _=>?_|refine sC ?_ ?_<;>intro hb<;>try omega|fail)
   ·refine dm (.inl rfl) Tryz.results420 rfl rfl (.nil _) ?_;rw [bo,hrec,if_pos hb.symm,if_neg (by omega)]
   ·refine ⟨i+1,⟨by omega,?_⟩,by omega,?_,?_⟩
    ·rw [hrec,if_neg (fun h=>hb h.symm)]
     rfl
    ·exact sB
    ·exact mS
  ·have e:i=50:=by omega
   subst e;repeat' (first|refine sT ?_|refine sM fun _=>?_|refine sC ?_ ?_<;>intro hb<;>try omega|fail)
   refine dm (.inl rfl) Tryz.results420 rfl rfl (.nil _) ?_;rw [bo,hrec]
   rfl
def cg (fn:Int):Int × Int:=
 if fn=5∨fn=6∨fn=7∨fn=25∨fn=39∨fn=40∨fn=18∨fn=19∨fn=45∨fn=44 then (2,2)
 else if fn=20∨fn=41∨fn=43 then (2,3)
 else if fn=32∨fn=33 then (1,2)
 else if fn=34 then (3,3)
 else if fn=21∨fn=22∨fn=23∨fn=38∨fn=9∨fn=10∨fn=11∨fn=12∨fn=14∨fn=15∨fn=16∨fn=17 then (1,16)
 else if fn=30 then (2,16)
 else (1,1)
theorem mH (fn:Int) (w:World):aF Tryz.prog 391 [.int .u8 fn] w (.tuple #[.int .i64 (cg fn).1,.int .i64 (cg fn).2]):=by
 refine aA Tryz.func391 rfl Tryz.ntmps391 rfl ?_;repeat' (first|refine sT ?_|refine sM fun _=>?_|refine sC ?_ ?_<;>intro hb<;>try omega|fail)
 all_goals ((refine rT2 ?_);simp_all [cg])
def gT (fn i:Int):Bool:=
 if i<0∨(cg fn).2≤i then false
 else if fn=9∨fn=10∨fn=11∨fn=12∨fn=14∨fn=15∨fn=16∨fn=17 then true
 else if fn=13∨fn=18∨fn=19∨fn=45∨fn=43 then decide (i=0)
 else if fn=44 then decide (i=1)
 else decide (46≤fn) && decide (fn≤50)
theorem ym (fn i:Int) (w:World):aF Tryz.prog 409 [.int .u8 fn,.int .i64 i] w (.bool (gT fn i)):=by
 refine aA Tryz.func409 rfl Tryz.ntmps409 rfl ?_;repeat' (first|apply ag;exact rfl;exact rfl;intro w hm;exact mH fn w|refine sT ?_|refine sM fun _=>?_|refine sC ?_ ?_<;>intro hb<;>try omega|fail)
 all_goals ((refine rT1 ?_);((try simp only [← Int.not_lt] at*);simp_all [gT, -Int.not_lt, -Int.not_le,← Int.not_lt]))
theorem OX: ∀ j,j<50→d9.getD j aB≠aB∧bo (d9.getD j aB)=((j:Int)+1,0):=by decide+kernel
theorem mY {fn:Int} (h:dF fn=true):fO fn=((cg fn).1,(cg fn).2,0):=by
 unfold fO cg;(repeat' split)<;>simp_all
theorem rM {fn:Int} (h:dF fn=false):fO fn=(0,0,10):=by
 simp only [dF,Xp,decide_eq_false_iff_not] at h;have hk:dF fn=false:=by simp only [dF,Xp,decide_eq_false_iff_not];exact h
 unfold fO;(repeat' split)<;>first|omega|simp_all;done|rfl
theorem xE {fn:Int} (h:dF fn=true) (i:Int):lN fn i=(gT fn i,if i<0∨(cg fn).2≤i then 3 else 0):=by
 unfold lN gT;rw [mY h];simp only [ne_eq,not_true_eq_false,if_false];by_cases h1:i<0∨(cg fn).2≤i
 ·simp only [if_pos h1]
 ·simp only [if_neg h1];by_cases h2:fn=9∨fn=10∨fn=11∨fn=12∨fn=14∨fn=15∨fn=16∨fn=17
  ·simp only [if_pos h2]
  ·simp only [if_neg h2];by_cases h3:fn=44
   ·subst h3;simp
   ·simp only [if_neg h3];by_cases h4:fn=18∨fn=19∨fn=45∨fn=43∨fn=13
    ·rw [if_pos h4,if_pos (by omega)]
    ·rw [if_neg h4,if_neg (by omega)]
     rfl
attribute [local irreducible] WLI bg
def pP (n:Nd) (i:Nat) (r:List Nd):Us:=match r with
 |m::_=>if m.kind=7∧46≤m.fn then ⟨n.rect,((i+1:Nat):Int),m.fn⟩ else ⟨n.rect, -1,0⟩
 | []=>⟨n.rect, -1,0⟩
def eR:List Nd→Nat→List Us
 | [],_=> []
 |n::r,i=>bif ik n then pP n i r::eR r (i+1) else eR r (i+1)
def fp (L:List Nd):List Us:=eR L 0
theorem NV (L:List Nd) (tv:Value) (w0:World) (ht:Reads w0 tv L.length (L.flatMap bu)) (hlen:L.length≤1000000) (g:Nat):
 SD Tryz.prog 232 [.pointer (some ⟨g,0,none⟩)] w0 [.box g 122 [tv]] (fp L) (fun u=> [.agg (cw u).toArray]):=by
 obtain ⟨Al,cl,rfl,hl1,hl2,hl3⟩:=ht;intro l I J H0 hy h0;refine FnIn.msub (H' := .box g 122 [.slice Al L.length cl]::H0) ?_ (MSub.rot (MSub.refl _));refine bE Tryz.func232 rfl Tryz.ntmps232 rfl ?_;repeat' (first|refine sT ?_|refine sM fun _=>?_|refine sC ?_ ?_<;>intro hb<;>try omega|fail)
 refine fP (fun y:Nat × List Us × List Blk=> [(0,.func (.yield l) #[] #[]),(1,.pointer (some ⟨g,0,none⟩)),(6,.slice Al L.length cl),(7,.int .i64 (L.length:Int)),(8,.int .i64 (y.1:Int))])
  (fun y=> .box g 122 [.slice Al L.length cl]::y.2.2)
  (fun y=>y.1≤L.length∧fp L=y.2.1++eR (L.drop y.1) y.1∧I y.2.1 y.2.2) (fun y=>L.length - y.1) (0,[],H0) ⟨by omega,rfl,h0⟩ ?_ ?_ ?_
 ·exact sB
 ·exact MSub.refl _
 rintro ⟨i,pre,H1⟩ ⟨hi,hus,hI⟩;dsimp only at hi hus hI ⊢;by_cases hlt:i<L.length
 ·obtain ⟨gl,ol,rfl,hrl⟩:=hl3 (by omega);have he:=hrl.elem cR i hlt;rw [Vy hlt,eR] at hus;generalize hn:L[i]=n at hus he;have hran:=fun w=>LZ n w;have next: ∀ (us:List Us) (HU:List Blk),fp L=us++eR (L.drop (i+1)) (i+1)→I us HU→i+1≤L.length∧fp L=us++eR (L.drop (i+1)) (i+1)∧I us HU:=fun us HU h1 h2=>⟨hlt,h1,h2⟩
  generalize ik n=q at hus hran;cases q
  ·rw [cond_false] at hus;repeat' (first|apply ag;exact rfl;exact rfl;intro w hm;exact hran w|refine zZJ ?_|refine sM fun _=>?_|refine sC ?_ ?_<;>intro hb<;>try omega|fail)
   refine ⟨(i+1,pre,H1),next _ _ hus hI,(by dsimp only;omega),?_,?_⟩
   ·exact sB
   ·exact mS
  rw [cond_true] at hus;by_cases hn1:i+1<L.length
  ·have he1:=hrl.elem cR (i+1) hn1;have hd:=Vy hn1;generalize L[i+1]=m at he1 hd;by_cases hrel:m.kind=7∧46≤m.fn
   ·have hu:pP n i (L.drop (i+1))=⟨n.rect,((i+1:Nat):Int),m.fn⟩:=by rw [hd];simp only [pP,if_pos hrel]
    rw [hu] at hus;repeat' (first|apply ag;exact rfl;exact rfl;intro w hm;exact hran w|apply nG (id:=7)|(with_reducible apply tr (id:=6) (T:=128) (fun D=> [.int .i64 n.rect.c1,.int .i64 n.rect.r1,.int .i64 n.rect.c2,.int .i64 n.rect.r2,.int .i64 (bif D 9 then ((i+1:Nat):Int) else -1),.int .u8 (bif D 11 then m.fn else 0)]) (xs' := [.int .i64 n.rect.c1,.int .i64 n.rect.r1,.int .i64 n.rect.c2,.int .i64 n.rect.r2,.int .i64 ((i+1:Nat):Int),.int .u8 m.fn]));kernel_rfl;kernel_rfl;exact .hd;exact rfl;intro D hD;simp only [hD 9 (by decide),hD 11 (by decide),cond_true]|apply EM;exact rfl;(intro D ht;first|apply jn;exact rfl;exact rfl;simp only [maxLen] at*;omega|apply aa;exact rfl;exact rfl;(first|assumption|omega)|apply eP;exact rfl;assumption;exact rfl);exact fun _=>rfl|refine sT ?_|refine sI ?_|refine sN ?_|refine sO ?_|refine sG ?_|refine sM fun _=>?_|refine sC ?_ ?_<;>intro hb<;>try omega|fail)
    (with_reducible apply lK)
    ·exact rfl
    ·exact rfl
    ·exact rfl
    ·exact MSub.app3
    ·exact fun w hm=>hy pre ⟨n.rect,((i+1:Nat):Int),m.fn⟩ _ hus H1 _ hI w hm
    intro bb H2 hq;cases bb
    ·repeat' first|refine sT ?_|refine sI ?_|refine sM fun _=>?_|refine sC ?_ ?_<;>intro hb<;>try omega|fail
     exact iO eIO Tryz.results232 (H' :=H2++ [.box g 122 [.slice (some ⟨gl,ol,none⟩) L.length cl]]) MSub.app3r ⟨H2,.inr ⟨_,hq⟩,MSub.refl _⟩
    ·repeat' first|refine sT ?_|refine sI ?_|refine sN ?_|refine sM fun _=>?_|refine sC ?_ ?_<;>intro hb<;>try omega|fail
     refine ⟨(i+1,_,H2),next _ _ (hus.trans (by rw [List.append_assoc];rfl)) hq,(by dsimp only;omega),?_,?_⟩
     ·exact sB
     ·exact MSub.app3'
   ·have hu:pP n i (L.drop (i+1))=⟨n.rect, -1,0⟩:=by rw [hd];simp only [pP,if_neg hrel]
    rw [hu] at hus;repeat' (first|apply ag;exact rfl;exact rfl;intro w hm;exact hran w|apply nG (id:=7)|refine sT ?_|refine sI ?_|refine sN ?_|refine sO ?_|refine sM fun _=>?_|refine sC ?_ ?_<;>intro hb<;>try omega|fail)
    all_goals
     (with_reducible apply lK)
     ·exact rfl
     ·exact rfl
     ·exact rfl
     ·exact MSub.app3
     ·exact fun w hm=>hy pre ⟨n.rect, -1,0⟩ _ hus H1 _ hI w hm
     intro bb H2 hq;cases bb
     ·repeat' first|refine sT ?_|refine sI ?_|refine sM fun _=>?_|refine sC ?_ ?_<;>intro hb<;>try omega|fail
      exact iO eIO Tryz.results232 (H' :=H2++ [.box g 122 [.slice (some ⟨gl,ol,none⟩) L.length cl]]) MSub.app3r ⟨H2,.inr ⟨_,hq⟩,MSub.refl _⟩
     ·repeat' first|refine sT ?_|refine sI ?_|refine sN ?_|refine sM fun _=>?_|refine sC ?_ ?_<;>intro hb<;>try omega|fail
      refine ⟨(i+1,_,H2),next _ _ (hus.trans (by rw [List.append_assoc];rfl)) hq,(by dsimp only;omega),?_,?_⟩
      ·exact sB
      ·exact MSub.app3'
  ·have hu:pP n i (L.drop (i+1))=⟨n.rect, -1,0⟩:=by rw [VY (by omega)];rfl
   rw [hu] at hus;repeat' (first|apply ag;exact rfl;exact rfl;intro w hm;exact hran w|apply nG (id:=7)|refine sT ?_|refine sI ?_|refine sN ?_|refine sO ?_|refine sM fun _=>?_|refine sC ?_ ?_<;>intro hb<;>try omega|fail)
   (with_reducible apply lK)
   ·exact rfl
   ·exact rfl
   ·exact rfl
   ·exact MSub.app3
   ·exact fun w hm=>hy pre ⟨n.rect, -1,0⟩ _ hus H1 _ hI w hm
   intro bb H2 hq;cases bb
   ·repeat' first|refine sT ?_|refine sI ?_|refine sM fun _=>?_|refine sC ?_ ?_<;>intro hb<;>try omega|fail
    exact iO eIO Tryz.results232 (H' :=H2++ [.box g 122 [.slice (some ⟨gl,ol,none⟩) L.length cl]]) MSub.app3r ⟨H2,.inr ⟨_,hq⟩,MSub.refl _⟩
   ·repeat' first|refine sT ?_|refine sI ?_|refine sN ?_|refine sM fun _=>?_|refine sC ?_ ?_<;>intro hb<;>try omega|fail
    refine ⟨(i+1,_,H2),next _ _ (hus.trans (by rw [List.append_assoc];rfl)) hq,(by dsimp only;omega),?_,?_⟩
    ·exact sB
    ·exact MSub.app3'
 ·have e:i=L.length:=by omega
  subst e;rw [V8,eR,VB] at hus;repeat' (first|refine sT ?_|refine sM fun _=>?_|refine sC ?_ ?_<;>intro hb<;>try omega|fail)
  refine iO (.inr rfl) Tryz.results232 (H' := .box g 122 [.slice Al L.length cl]::H1) mS ⟨H1,.inl (hus ▸ hI),?_⟩;exact MSub.snoc .hd (MSub.refl _)
end Go.SL

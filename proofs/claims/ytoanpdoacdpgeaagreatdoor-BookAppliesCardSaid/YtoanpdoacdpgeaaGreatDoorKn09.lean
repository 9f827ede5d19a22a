/-
  Lemmas and walks, put together: Sl13 Sl22 Sl31 Sl20.
-/
import Derived.Deep.AppendSrc
import Derived.Test.YtoanpdoacdpgeaaGreatDoorKn06
set_option linter.unusedSimpArgs false
set_option linter.unusedVariables false
set_option maxRecDepth 20000
namespace Go.SL
open Go Go.RowKit
theorem FH {P:Program} {f:FuncId} {args:Array Value} {w:World} {u v:Value} {A B:World→Prop} (hi:P.inits.idxOf? f=none) (h1:Calls P f args w fun e w' =>e= .returned u∧A w') (h2:Calls P f args w fun e w' =>e= .returned v∧B w'):u=v:=by
 obtain ⟨e1,w1,fr1,⟨rfl,_⟩,⟨n1,s1⟩,f1,l1⟩:=h1 []
 obtain ⟨e2,w2,fr2,⟨rfl,_⟩,⟨n2,s2⟩,f2,l2⟩:=h2 []
 have d1:=step_leave_done l1 (by rw [f1];exact hi)
 have d2:=step_leave_done l2 (by rw [f2];exact hi)
 have key: ∀ (a b:Nat) (m x y:Machine) (o:Outcome) (w:World),a≤b→runN P a m= .next x→runN P b m= .next y→step P x= .ended o w→x=y:=by
  intro a b m x y o w hab hx hy hd
  obtain ⟨c,rfl⟩:=Nat.exists_eq_add_of_le hab
  rw [runN_add,hx] at hy
  cases c with
  |zero=>simp only [runN,Stepped.next.injEq] at hy;exact hy
  |succ c=>simp [runN,hd] at hy
 have hm:lone fr1 [] w1=lone fr2 [] w2:=by
  rcases Nat.le_total n1 n2 with h|h
  ·
   exact key _ _ _ _ _ _ _ h s1 s2 d1
  ·
   exact (key _ _ _ _ _ _ _ h s2 s1 d2).symm
 rw [hm,d2] at d1
 simp only [Stepped.ended.injEq,Outcome.done.injEq] at d1
 exact d1.1.symm
abbrev Gh:=Option Nat × Nat
def upd (γ:Nat→Gh) (k:Nat) (g:Gh):Nat→Gh:=fun i=>if i=k then g else γ i
section
variable {P:Program} {ops:Array Oper} {md:Region.Mode}
def D9 (P:Program) (D:World→Prop) (v:Value):Result Next→Prop
 | .ok (.value u) w' =>u=v∧D w'
 | .ok .skip w' =>v=undef∧D w'
 | .ok (.enter f args) w' =>P.inits.idxOf? f=none∧Calls P f args w' fun e w'' =>e= .returned v∧D w''
 |_=>False
def uC (P:Program) (φ:Gh→Value) (D:Gh→World→Prop):Result Next→Prop
 | .ok (.value u) w' => ∃ g,u=φ g∧D g w'
 | .ok .skip w' => ∃ g,undef=φ g∧D g w'
 | .ok (.enter f args) w' =>Calls P f args w' fun e w'' => ∃ g,e= .returned (φ g)∧D g w''
 | .ok (.row row args) w' =>Rows P row args w' fun u w'' => ∃ g,u=φ g∧D g w''
 |_=>False
variable (V:Nat→Option (Gh→Value)) (C:(Nat→Gh)→Array Bool→World→Prop)
inductive GX (P:Program) (md:Region.Mode) (ops:Array Oper) (V:Nat→Option (Gh→Value)) (C:(Nat→Gh)→Array Bool→World→Prop) (γ:Nat→Gh) (i:Nat) (o:Oper) (v:Value) (a:Act):Prop
 |pass (hw:Region.wanted o (yielded ops a.tmps)=false) (hv:v=undef) (hC: ∀ L w,i∈Region.ready md ops L→C γ L w→C γ (L.setIfInBounds i true) w)
 |det (hw:Region.wanted o (yielded ops a.tmps)=true) (hV:V i=none) (hC: ∀ L w,i∈Region.ready md ops L→C γ L w→D9 P (C γ (L.setIfInBounds i true)) v ((execOp a.eval o).run P w))
 |non (hw:Region.wanted o (yielded ops a.tmps)=true) (φ:Gh→Value) (hV:V i=some φ) (hv:v=φ (γ i)) (hC: ∀ L w,i∈Region.ready md ops L→C γ L w→uC P φ (fun g=>C (upd γ i g) (L.setIfInBounds i true)) ((execOp a.eval o).run P w))
variable {V C}
theorem GX.of_same {γ:Nat→Gh} {i:Nat} {o:Oper} {v:Value} {a a' :Act} (hy:GX P md ops V C γ i o v a) (he:execOp a'.eval o=execOp a.eval o)
  (hw:Region.wanted o (yielded ops a'.tmps)=Region.wanted o (yielded ops a.tmps)):GX P md ops V C γ i o v a' :=by
 cases hy with
 |pass h1 h2 h3=>exact .pass (hw.trans h1) h2 h3
 |det h1 h2 h3=>exact .det (hw.trans h1) h2 (by rw [he];exact h3)
 |non h1 φ h2 h3 h4=>exact .non (hw.trans h1) φ h2 h3 (by rw [he];exact h4)
def xOp (P:Program) (md:Region.Mode) (ops:Array Oper) (V:Nat→Option (Gh→Value)) (C:(Nat→Gh)→Array Bool→World→Prop) (γ:Nat→Gh) (i:Nat) (K:Act→Prop) (a:Act):Prop:=
 ∃ o v,ops[i]? =some o∧GX P md ops V C γ i o v a∧K (a.put o.dst v)
def A0 (P:Program) (md:Region.Mode) (ops:Array Oper) (V:Nat→Option (Gh→Value)) (C:(Nat→Gh)→Array Bool→World→Prop) (γ:Nat→Gh) (Q:Act→Prop):Nat→Array Bool→Act→Prop
 |0,L,a=>Region.ready md ops L= []∧Q a
 |f+1,L,a=>(Region.ready md ops L= []→Q a)∧ ∀ i∈Region.ready md ops L,xOp P md ops V C γ i (A0 P md ops V C γ Q f (L.setIfInBounds i true)) a
theorem FW {γ:Nat→Gh} {i:Nat} {a:Act} {K K' :Act→Prop} (h: ∀ a,K a→K' a) (hh:xOp P md ops V C γ i K a):xOp P md ops V C γ i K' a:=
 let ⟨o,v,h1,h2,h3⟩:=hh
 ⟨o,v,h1,h2,h _ h3⟩
theorem Jf {γ:Nat→Gh} {i j:Nat} {oi oj:Oper} {v:Value} (hj:ops[j]? =some oj) (hap:oi.apart ops oj=true)
  (hsi: ∀ cs b,oi.op≠ .select cs b) (hsj: ∀ cs b,oj.op≠ .select cs b) {K:Act→Prop} {a:Act}
  (hy:GX P md ops V C γ i oi v a) (h:xOp P md ops V C γ j K (a.put oi.dst v)):
  xOp P md ops V C γ j (fun a' =>GX P md ops V C γ i oi v a' ∧K (a'.put oi.dst v)) a:=by
 obtain ⟨h1,h2,h3⟩:=Oper.apart_spec hap
 obtain ⟨o,u,ho,hg,hk⟩:=h
 have e:o=oj:=Option.some.inj (ho.symm.trans hj)
 subst e
 refine ⟨o,u,ho,hg.of_same (execOp_put o hsj a oi.dst v h1).symm (wanted_put o a oi.dst v h1).symm,hy.of_same (execOp_put oi hsi a o.dst u h3) (wanted_put oi a o.dst u h3),?_⟩
 rw [← Act.put_comm a v u h2]
 exact hk
theorem uF {γ:Nat→Gh} {Q:Act→Prop} {i:Nat} {oi:Oper} {v:Value} (hi:ops[i]? =some oi) (hsel: ∀ (j:Nat) (o:Oper) cs b,ops[j]? =some o→o.op≠ .select cs b):
  ∀ (f:Nat) (L:Array Bool) (a:Act),
   (∀ j oj,ops[j]? =some oj→j≠i→L.getD j true=false→(∀ e∈oj.after,Region.binds md e=true→e.on≠i)→oi.apart ops oj=true)→
   i∈Region.ready md ops L→GX P md ops V C γ i oi v a→A0 P md ops V C γ Q f (L.setIfInBounds i true) (a.put oi.dst v)→A0 P md ops V C γ Q (f+1) L a
 |0,L,a,_,hr,hy,H=>⟨fun h=>(by rw [h] at hr;cases hr),fun j hj=>by
   by_cases hji:j=i
   ·
    subst hji;exact ⟨oi,v,hi,hy,H⟩
   ·
    have:=ready_mono hj hji
    rw [H.1] at this
    cases this⟩
 |f+1,L,a,hfree,hr,hy,H=>⟨fun h=>(by rw [h] at hr;cases hr),fun j hj=>by
   by_cases hji:j=i
   ·
    subst hji;exact ⟨oi,v,hi,hy,H⟩
   ·
    have h1:=H.2 j (ready_mono hj hji)
    obtain ⟨hjun,oj,hoj,hall⟩:=mem_ready.1 hj
    have hnot: ∀ e∈oj.after,Region.binds md e=true→e.on≠i:=fun e he hb heq=>by
     have h1:=hall e he hb
     have h0:=(mem_ready.1 hr).1
     rw [heq] at h1
     rcases OO i L.size with h' |h'
     ·
      simp [h'] at h0 h1;rw [h0] at h1;cases h1
     ·
      simp [O9 h'] at h1
    have h2:=Jf hoj (hfree j oj hoj hji hjun hnot) (fun cs b=>hsel i oi cs b hi) (fun cs b=>hsel j oj cs b hoj) hy h1
    have hfree' : ∀ k ok,ops[k]? =some ok→k≠i→(L.setIfInBounds j true).getD k true=false→
      (∀ e∈ok.after,Region.binds md e=true→e.on≠i)→oi.apart ops ok=true:=fun k ok hk hki hun hno=>by
     refine hfree k ok hk hki ?_ hno
     by_cases hjk:j=k
     ·
      subst hjk;exact hjun
     ·
      rw [getD_set_ne true hjk] at hun;exact hun
    refine FW (fun a' h3=>uF hi hsel f (L.setIfInBounds j true) a' hfree' (ready_mono hr (Ne.symm hji)) h3.1 ?_) h2
    rw [PB _ _ hji]
    exact h3.2⟩
def wpX (P:Program) (md:Region.Mode) (ops:Array Oper) (V:Nat→Option (Gh→Value)) (C:(Nat→Gh)→Array Bool→World→Prop) (γ:Nat→Gh) (Q:Act→Prop):List Oper→Nat→Act→Prop
 | [],_,a=>Q a
 |o::r,k,a=> ∃ v,GX P md ops V C γ k o v a∧wpX P md ops V C γ Q r (k+1) (a.put o.dst v)
theorem AZ {γ:Nat→Gh} {Q:Act→Prop} (hs:Region.noSelect ops=true): ∀ (l:List Oper) (k:Nat) (L:Array Bool) (a:Act),(∀ j,l[j]? =ops[k+j]?)→
  Region.lexFrom md ops l.length k L=true→wpX P md ops V C γ Q l k a→A0 P md ops V C γ Q l.length L a
 | [],_,_,_,_,hB,h=>⟨by simpa [Region.lexFrom] using hB,h⟩
 |o::l,k,L,a,hl,hB,h=>by
  have h0:ops[k]? =some o:=by simpa using (hl 0).symm
  simp only [NB,Region.lexFrom,Nm] at hB
  obtain ⟨⟨hr,hf⟩,hB'⟩:=hB
  obtain ⟨v,hy,hK⟩:=h
  exact uF h0 (Region.noSelect_spec hs) l.length L a (Region.free_spec h0 hf) (by simpa using hr) hy
   (AZ hs l (k+1) _ _ (fun j=>by have:=hl (j+1);simpa [OK,O3 1 j] using this) hB' hK)
def nn (L:Array Bool) (γ γ' :Nat→Gh):Prop:= ∀ i,L.getD i false=true→γ i=γ' i
theorem cK {Q:(Nat→Gh)→Act→Prop} {Q' :Exit→Act→World→Prop} (hloc: ∀ L γ γ' w,nn L γ γ' →C γ L w→C γ' L w) (hsz: ∀ γ L w,C γ L w→L.size=ops.size) (hQ: ∀ γ L a w,Region.ready md ops L= []→C γ L w→Q γ a→Q' .normal a w):
  ∀ (f:Nat) (L:Array Bool) (a:Act) (w:World) (γ:Nat→Gh),C γ L w→(∀ γ',nn L γ γ' →A0 P md ops V C γ' (Q γ') f L a)→wpAny P md ops Q' f L a w
 |0,L,a,w,γ,hC,h=>⟨(h γ fun _ _=>rfl).1,hQ γ L a w (h γ fun _ _=>rfl).1 hC (h γ fun _ _=>rfl).2⟩
 |f+1,L,a,w,γ,hC,h=>⟨fun h0=>hQ γ L a w h0 hC ((h γ fun _ _=>rfl).1 h0),fun i hi=>by
   obtain ⟨o,v,ho,hg,hk⟩:=(h γ fun _ _=>rfl).2 i hi
   obtain ⟨hun,_⟩:=mem_ready.1 hi
   have hlt:i<L.size:=by
    rw [hsz γ L w hC]
    exact (NH.1 ho).1
   have hi0:L.getD i false=false:=by
    simp [hlt] at hun ⊢;exact hun
   have hsub: ∀ γ' γ'',nn (L.setIfInBounds i true) γ' γ'' →nn L γ' γ'' :=fun γ' γ'' hag j hj=>by
    refine hag j ?_
    by_cases e:i=j
    ·
     subst e;rw [hi0] at hj;cases hj
    ·
     rw [getD_set_ne false e];exact hj
   have hat: ∀ γ' γ'',nn (L.setIfInBounds i true) γ' γ'' →γ' i=γ'' i:=fun γ' γ'' hag=>hag i (by simp [hlt])
   have hupd: ∀ g,nn L γ (upd γ i g):=fun g j hj=>by
    have:j≠i:=fun e=>by subst e;rw [hi0] at hj;cases hj
    simp [upd,this]
   -- what another prophecy says of this operation
   have other: ∀ γ'',nn L γ γ'' → ∃ v'',GX P md ops V C γ'' i o v'' a∧A0 P md ops V C γ'' (Q γ'') f (L.setIfInBounds i true) (a.put o.dst v''):=fun γ'' hag=>by
    obtain ⟨o'',v'',ho'',hg'',hk''⟩:=(h γ'' hag).2 i hi
    have e:o'' =o:=Option.some.inj (ho''.symm.trans ho)
    subst e
    exact ⟨v'',hg'',hk''⟩
   unfold wpOp
   simp only [ho]
   cases hg with
   |pass hw hv hc=>
    subst hv
    simp only [hw,Oo,if_false]
    refine cK hloc hsz hQ f _ _ _ γ (hc L w hi hC) fun γ'' hag=> ?_
    obtain ⟨v'',hg'',hk''⟩:=other γ'' (hsub _ _ hag)
    cases hg'' with
    |pass _ hv'' _=>subst hv'';exact hk''
    |det hw'' _ _=>rw [hw] at hw'';cases hw''
    |non hw'' _ _ _ _=>rw [hw] at hw'';cases hw''
   |det hw hV hc=>
    simp only [hw,if_true]
    refine .inl ?_
    have h1:=hc L w hi hC
    have h2: ∀ γ'',nn L γ γ'' → ∃ v'',D9 P (C γ'' (L.setIfInBounds i true)) v'' ((execOp a.eval o).run P w)∧A0 P md ops V C γ'' (Q γ'') f (L.setIfInBounds i true) (a.put o.dst v''):=fun γ'' hag=>by
     obtain ⟨v'',hg'',hk''⟩:=other γ'' hag
     cases hg'' with
     |pass hw'' _ _=>rw [hw] at hw'';cases hw''
     |det _ _ hc'' =>exact ⟨v'',hc'' L w hi (hloc L γ γ'' w hag hC),hk''⟩
     |non _ _ hV'' _ _=>rw [hV] at hV'';cases hV''
    unfold Oper.wp
    generalize (execOp a.eval o).run P w=r at h1 h2 ⊢
    cases r with
    |ok x w' =>
     cases x<;>simp only [D9] at h1 h2<;>simp only [Oper.upon]
     case value u=>
      obtain ⟨rfl,h3⟩:=h1
      refine cK hloc hsz hQ f _ _ _ γ h3 fun γ'' hag=> ?_
      obtain ⟨v'',⟨rfl,_⟩,hk''⟩:=h2 γ'' (hsub _ _ hag)
      exact hk''
     case skip=>
      obtain ⟨rfl,h3⟩:=h1
      refine cK hloc hsz hQ f _ _ _ γ h3 fun γ'' hag=> ?_
      obtain ⟨v'',⟨rfl,_⟩,hk''⟩:=h2 γ'' (hsub _ _ hag)
      exact hk''
     case enter g args=>
      obtain ⟨hin,h3⟩:=h1
      refine h3.mono fun e w'' ⟨he,h4⟩=> ?_
      subst he
      refine cK hloc hsz hQ f _ _ _ γ h4 fun γ'' hag=> ?_
      obtain ⟨v'',⟨_,h5⟩,hk''⟩:=h2 γ'' (hsub _ _ hag)
      rw [FH hin h3 h5]
      exact hk''
    |halt x w' =>simp only [D9] at h1
   |non hw φ hV hv hc=>
    simp only [hw,if_true]
    refine .inl ?_
    have h1:=hc L w hi hC
    have h2: ∀ g γ'',nn (L.setIfInBounds i true) (upd γ i g) γ'' →A0 P md ops V C γ'' (Q γ'') f (L.setIfInBounds i true) (a.put o.dst (φ g)):=fun g γ'' hag=>by
     have hag' :nn L γ γ'' :=fun j hj=>(hupd g j hj).trans (hsub _ _ hag j hj)
     have hgi:γ'' i=g:=by rw [← hat _ _ hag];simp [upd]
     obtain ⟨v'',hg'',hk''⟩:=other γ'' hag'
     cases hg'' with
     |pass hw'' _ _=>rw [hw] at hw'';cases hw''
     |det _ hV'' _=>rw [hV] at hV'';cases hV''
     |non _ φ'' hV'' hv'' _=>
      rw [hV] at hV''
      injection hV'' with hV''
      subst hV''
      rw [hv'',hgi] at hk''
      exact hk''
    unfold Oper.wp
    generalize (execOp a.eval o).run P w=r at h1 ⊢
    cases r with
    |ok x w' =>
     cases x<;>simp only [uC] at h1<;>simp only [Oper.upon]
     case value u=>
      obtain ⟨g,rfl,h3⟩:=h1
      exact cK hloc hsz hQ f _ _ _ (upd γ i g) h3 fun γ'' hag=>h2 g γ'' hag
     case skip=>
      obtain ⟨g,hg,h3⟩:=h1
      rw [hg]
      exact cK hloc hsz hQ f _ _ _ (upd γ i g) h3 fun γ'' hag=>h2 g γ'' hag
     case enter k args=>
      refine h1.mono fun e w'' ⟨g,he,h4⟩=> ?_
      subst he
      exact cK hloc hsz hQ f _ _ _ (upd γ i g) h4 fun γ'' hag=>h2 g γ'' hag
     case row k args=>
      refine Rows.mono h1 fun u w'' ⟨g,he,h4⟩=> ?_
      subst he
      exact cK hloc hsz hQ f _ _ _ (upd γ i g) h4 fun γ'' hag=>h2 g γ'' hag
    |halt x w' =>simp only [uC] at h1⟩
end
section
variable {P:Program} {n:Fr} {w0:World} {Q:bQ} {s:az} {H:List Blk} {l rest:List Oper} {ty:TypeId} {p:String} {af:Array Edge}
def Mb (w0:World) (l:List Oper) (HL:fW→(Nat→Gh)→List Blk) (γ:Nat→Gh) (L:Array Bool) (w:World):Prop:=Cls w0 l (fun D=>HL D γ) L w
def WX (P:Program) (n:Fr) (w0:World) (l:List Oper) (V:Nat→Option (Gh→Value)) (HL:fW→(Nat→Gh)→List Blk) (γ:Nat→Gh) (K:az→Prop) (rest:List Oper) (k:Nat) (s:az):Prop:=
 ∀ a,St n s a→(∀ j,rest[j]? =l[k+j]?)→wpX P .any l.toArray V (Mb w0 l HL) γ (fun a' => ∃ s',St n s' a' ∧K s') rest k a
def I8 (HL:fW→(Nat→Gh)→List Blk):Prop:= ∀ (D:fW) (γ γ' :Nat→Gh),(∀ i,D i=true→γ i=γ' i)→HL D γ=HL D γ'
theorem Jv {id:Nat} (V:Nat→Option (Gh→Value)) (HL:fW→(Nat→Gh)→List Blk) (hm:P.follows .mixedOrders=true) (hB:Region.lexB .any l.toArray=true) (hloc:I8 HL) (h0: ∀ γ,MSub (HL (fun _=>false) γ) H)
  (h: ∀ γ,WX P n w0 l V HL γ (fun s' => ∀ D:fW,(∀ i,i<l.length→D i=true)→Q .normal s' (HL D γ)) l 0 s):W P n w0 (.region id l.toArray true) Q s H:=by
 intro a w hs hmem
 have hrep:done (Array.replicate l.toArray.size false)=fun _=>false:=by
  funext i
  unfold done
  rw [ND,PE]
  split<;>rfl
 let γ0:Nat→Gh:=fun _=>(none,0)
 have hB' :=hB
 simp only [Region.lexB,Nm] at hB'
 refine wp_region_any hm ?_
 refine cK (V:=V) (C:=Mb w0 l HL) (Q:=fun γ a' => ∃ s',St n s' a' ∧ ∀ D:fW,(∀ i,i<l.length→D i=true)→Q .normal s' (HL D γ)) ?_ ?_ ?_ _ _ _ _ γ0 ?_ ?_
 ·
  rintro L γ γ' w' hag ⟨h1,h2,h3⟩
  refine ⟨h1,h2,?_⟩
  show Mem w0 w' (HL (done L) γ')
  rw [hloc (done L) γ' γ fun i hi=>(hag i hi).symm]
  exact h3
 ·
  rintro γ L w' ⟨h1,_⟩
  simpa using h1
 ·
  rintro γ L a' w' hr ⟨hsz,hcl,hmem'⟩ ⟨s',h2,h3⟩
  refine ⟨s',HL (done L) γ,h2,hmem',h3 _ fun i hi=> ?_⟩
  -- nothing is ready:all is done
  have all: ∀ i,i<l.length→done L i=true:=by
   intro i
   induction i using Nat.strongRecOn with
   |_ i ih=>
    intro hi
    cases hd:done L i with
    |true=>rfl
    |false=>
     exfalso
     have hlx: ∀ (f k:Nat) (L0:Array Bool),Region.lexFrom .any l.toArray f k L0=true→ ∀ j o,k≤j→j<k+f→l[j]? =some o→ ∀ x∈lu o,L0.getD x false=true∨(k≤x∧x<j):=by
      intro f
      induction f with
      |zero=>intro k L0 _ j o h1 h2;omega
      |succ f ihf=>
       intro k L0 hlex j o h1 h2 ho x hx
       simp only [Region.lexFrom,Nm] at hlex
       obtain ⟨⟨hrk,_⟩,hrest⟩:=hlex
       by_cases hjk:j=k
       ·
        subst hjk
        obtain ⟨_,o',ho',hall⟩:=mem_ready.1 (by simpa using hrk:j∈Region.ready .any l.toArray L0)
        rw [NZ,ho] at ho'
        injection ho' with ho'
        subst ho'
        obtain ⟨e,he,hb,rfl⟩:=eX.1 hx
        exact .inl (hall e he hb)
       ·
        rcases ihf (k+1) _ hrest j o (by omega) (by omega) ho x hx with h|⟨h3,h4⟩
        ·
         by_cases hxk:k=x
         ·
          subst hxk;right;omega
         ·
          rw [getD_set_ne false hxk] at h;exact .inl h
        ·
         right;omega
     obtain ⟨o,ho⟩: ∃ o,l[i]? =some o:=⟨_,Nc hi⟩
     have hmem:i∈Region.ready .any l.toArray L:=by
      refine mem_ready.2 ⟨?_,o,by simpa using ho,fun e he hb=> ?_⟩
      ·
       have:i<L.size:=by omega
       unfold done at hd
       simp [this] at hd ⊢;exact hd
      ·
       have hx:=hlx l.toArray.size 0 _ hB'.2 i o (Ns _) (by simpa using hi) ho e.on (eX.2 ⟨e,he,hb,rfl⟩)
       rcases hx with h|⟨_,h⟩
       ·
        have:(done (Array.replicate l.toArray.size false)) e.on=true:=h
        rw [hrep] at this;cases this
       ·
        exact ih e.on h (by omega)
     rw [hr] at hmem
     cases hmem
  exact all i hi
 ·
  refine ⟨by simp,fun i o _ hi=>(by rw [hrep] at hi;cases hi),?_⟩
  rw [hrep]
  exact (h0 γ0).use hmem.drew
 ·
  intro γ' _
  have h1:=h γ' a hs (by simp)
  have:=AZ (md:= .any) hB'.1 l.toArray.toList 0 (Array.replicate l.toArray.size false) a (by simp) (by simpa using hB'.2) (by simpa using h1)
  simpa using this
variable {V:Nat→Option (Gh→Value)} {HL:fW→(Nat→Gh)→List Blk} {γ:Nat→Gh} {K:az→Prop} {k:Nat}
theorem KW (h:K s):WX P n w0 l V HL γ K [] k s:=fun _ hs _=>⟨s,hs,h⟩
theorem kD {o:Oper} (hl: ∀ j,(o::rest)[j]? =l[k+j]?):l[k]? =some o∧ ∀ j,rest[j]? =l[k+1+j]? :=
 ⟨by simpa using (hl 0).symm,fun j=>by have:=hl (j+1);simpa [OK,O3 1 j] using this⟩
def Hz:Blk:= .own none 0 0 0 0 []
def gat (D:fW) (γ:Nat→Gh):Nat→Gh:=fun i=>bif D i then γ i else (none,0)
theorem Cv (HX:fW→(Nat→Gh)→List Blk):I8 fun D γ=>HX D (gat D γ):=fun D γ γ' h=>by
 have:gat D γ=gat D γ' :=by
  funext i
  unfold gat
  cases hi:D i with
  |false=>rfl
  |true=>exact h i hi
 show HX D (gat D γ)=HX D (gat D γ')
 rw [this]
def gok (l:List Oper) (s:az):Option (Nat × Bool)→Option Bool
 |none=>some true
 |some (j,dq)=>match gd l j with
  |none=>none
  |some d=>match look s d with
   |none=>none
   |some v=>some (jZ v==some dq)
theorem dW {o:Oper} {g:Option (Nat × Bool)} {b:Bool} {a:Act} (hg:o.guard=g) (h:gok l s g=some b) (hs:St n s a):Region.wanted o (yielded l.toArray a.tmps)=b:=by
 unfold Region.wanted
 rw [hg]
 cases g with
 |none=>simp only [gok,Option.some.injEq] at h;exact h
 |some x=>
  obtain ⟨j,dq⟩:=x
  simp only [gok] at h
  split at h
  ·
   cases h
  ·
   rename_i d hd
   split at h
   ·
    cases h
   ·
    rename_i v hv
    simp only [Option.some.injEq] at h
    simp only [jg hs hd hv]
    exact h
theorem Gk {id:Nat} (V:Nat→Option (Gh→Value)) (HX:fW→(Nat→Gh)→List Blk) (hm:P.follows .mixedOrders=true) (hB:Region.lexB .any l.toArray=true) (h0: ∀ γ,MSub (HX (fun _=>false) (gat (fun _=>false) γ)) H)
  (h: ∀ γ,WX P n w0 l V (fun D γ=>HX D (gat D γ)) γ (fun s' => ∀ D:fW,(∀ i,i<l.length→D i=true)→Q .normal s' (HX D (gat D γ))) l 0 s):W P n w0 (.region id l.toArray true) Q s H:=
 Jv V _ hm hB (Cv HX) h0 h
theorem Turn.early {o:Oper} {D:fW} (ht:Turn l k o D) {i f:Nat} (h:(lu o).any (fun j=>iW l f j i)=true):D i=true:=by
 obtain ⟨j,hj,hr⟩:=List.any_eq_true.1 h
 exact iV ht.closed f j i hr (ht.before j hj)
variable {gu:Option (Nat × Bool)}
theorem yc {op:Op} {d:Nat} {v:Value} (hn:Nat.blt d n.sz=true) (hg:gok l s gu=some true) (hV:V k=none) (hv: ∀ D,Turn l k ⟨some d,op,ty,p,af,gu⟩ D→VOp P w0 s (HL D γ) op ty v) (hk: ∀ D,HL (put D k) γ=HL D γ) (h:WX P n w0 l V HL γ K rest (k+1) ((d,v)::s)):
  WX P n w0 l V HL γ K (⟨some d,op,ty,p,af,gu⟩::rest) k s:=by
 intro a hs hl
 obtain ⟨h0,hl'⟩:=kD hl
 refine ⟨v,.det (dW rfl hg hs) hV fun L w hr hc=> ?_,h _ (hs.put (N7 ▸ hn) v) hl'⟩
 obtain ⟨ht,hd,hnext⟩:=mC h0 hr hc
 have h1:=hv _ ht a.eval w (some d) p af gu hs.eval hc.2.2
 rw [h1]
 exact ⟨rfl,hnext w (by rw [hk];exact hc.2.2)⟩
theorem zE {op:Op} {d:Nat} {φ:Gh→Value} {a:Act} {w:World} {H' :List Blk} {B:Gh→List Blk} (hdn:d<n.sz) (hs:St n s a) (hm:Mem w0 w H')
  (h:WL P n w0 #[] [⟨some d,op,ty,p,af,none⟩] (fun e s' H' =>e= .normal∧ ∃ g,look s' d=some (φ g)∧MSub (B g) H') s H'):uC P φ (fun g w' =>Mem w0 w' (B g)) ((execOp a.eval ⟨some d,op,ty,p,af,gu⟩).run P w):=by
 have h1:=h a w hs hm
 unfold wpList at h1
 simp only [Region.wanted,if_true] at h1
 refine h1.elim (fun h1=> ?_) (fun ⟨_,a0,w1,s',H'',_,_,he,_⟩=>by cases he)
 have hsz:d<a.tmps.size:=by rw [hs.size];exact hdn
 have nxt: ∀ (v:Value) (w' :World) (a' :Act),a'.tmps[d]? =some v→wpList P #[] (post n w0 fun e s' H' =>e= .normal∧ ∃ g,look s' d=some (φ g)∧MSub (B g) H') [] a' w' → ∃ g,v=φ g∧Mem w0 w' (B g):=by
  rintro v w' a' ha' ⟨s',H'',hs',hm',_,g,hg,hsub⟩
  have:=hs'.has d _ hg
  rw [ha'] at this
  exact ⟨g,Option.some.inj this,hsub.use hm'⟩
 have hput: ∀ (a' :Act) (v:Value),a'.tmps.size=a.tmps.size→(a'.put (some d) v).tmps[d]? =some v:=fun a' v h=>by simp [Act.put,h,hsz]
 have hexec:execOp a.eval ⟨some d,op,ty,p,af,gu⟩=execOp a.eval ⟨some d,op,ty,p,af,none⟩:=rfl
 rw [hexec]
 unfold Oper.wp at h1
 generalize (execOp a.eval ⟨some d,op,ty,p,af,none⟩).run P w=r at h1 ⊢
 cases r with
 |ok x w' =>
  cases x<;>simp only [Oper.upon] at h1<;>simp only [uC]
  case value u=>exact nxt u w' _ (hput a u rfl) h1
  case skip=>exact nxt undef w' _ (hput a undef rfl) h1
  case defer dd=>
   obtain ⟨s',H'',hs',_⟩:=h1
   have h2:=congrArg List.length (hs'.defers.trans hs.defers.symm)
   simp [Act.put] at h2
  case enter k args=>
   refine h1.mono fun e w'' he=> ?_
   cases e with
   |returned v=>
    obtain ⟨g,hv,hg⟩:=nxt v w'' _ (hput a v rfl) he
    exact ⟨g,by rw [hv],hg⟩
   |panicked c=>
    obtain ⟨s',H'',_,_,he',_⟩:=he
    cases he'
   |outgrown=>
    obtain ⟨a0,w1,s',H'',_,_,he',_⟩:=he
    cases he'
  case row k args=>exact Rows.mono h1 fun u w'' he=>nxt u w'' _ (hput a u rfl) he
 |halt x w' =>
  cases x<;>simp only [Oper.upon] at h1
  all_goals
   obtain ⟨s',H'',_,_,he',_⟩:=h1
   cases he'
theorem rF {op:Op} {d:Nat} {φ:Gh→Value} (hn:Nat.blt d n.sz=true) (hg:gok l s gu=some true) (hV:V k=some φ)
  (h: ∀ D,Turn l k ⟨some d,op,ty,p,af,gu⟩ D→WL P n w0 #[] [⟨some d,op,ty,p,af,none⟩] (fun e s' H' =>e= .normal∧ ∃ g,look s' d=some (φ g)∧MSub (HL (put D k) (upd γ k g)) H') s (HL D γ))
  (h' :WX P n w0 l V HL γ K rest (k+1) ((d,φ (γ k))::s)):WX P n w0 l V HL γ K (⟨some d,op,ty,p,af,gu⟩::rest) k s:=by
 intro a hs hl
 obtain ⟨h0,hl'⟩:=kD hl
 refine ⟨φ (γ k),.non (dW rfl hg hs) φ hV rfl fun L w hr hc=> ?_,h' _ (hs.put (N7 ▸ hn) _) hl'⟩
 obtain ⟨ht,hd,hnext⟩:=mC h0 hr hc
 have h1:=zE (gu:=gu) (N7 ▸ hn) hs hc.2.2 (h _ ht)
 have hm2: ∀ g w',Mem w0 w' (HL (put (done L) k) (upd γ k g))→Mb w0 l HL (upd γ k g) (L.setIfInBounds k true) w' :=fun g w' hm' =>by
  obtain ⟨hsz,hcl,_⟩:=hc
  have hlt:k<L.size:=by rw [hsz];exact (Nw.1 h0).1
  have hcl' : ∀ i x,l[i]? =some x→done (L.setIfInBounds k true) i=true→ ∀ e∈x.after,Region.binds .any e=true→done (L.setIfInBounds k true) e.on=true:=by
   intro i x hx hi e he hb
   rw [hd] at hi ⊢
   by_cases hik:i=k
   ·
    subst hik
    rw [h0] at hx
    injection hx with hx
    have h2:=ht.before e.on (eX.2 ⟨e,by rw [hx];exact he,hb,rfl⟩)
    unfold put
    split
    ·
     rfl
    ·
     exact h2
   ·
    have hi' :done L i=true:=by unfold put at hi;rwa [if_neg hik] at hi
    have:=hcl i x hx hi' e he hb
    unfold put
    split
    ·
     rfl
    ·
     exact this
  exact ⟨by simpa using hsz,hcl',by rw [hd];exact hm'⟩
 generalize (execOp a.eval ⟨some d,op,ty,p,af,gu⟩).run P w=r at h1 ⊢
 cases r with
 |ok x w' =>
  cases x<;>simp only [uC] at h1 ⊢
  case value u=>obtain ⟨g,hv,hg⟩:=h1;exact ⟨g,hv,hm2 g w' hg⟩
  case skip=>obtain ⟨g,hv,hg⟩:=h1;exact ⟨g,hv,hm2 g w' hg⟩
  case enter k args=>exact h1.mono fun e w'' ⟨g,hv,hg⟩=>⟨g,hv,hm2 g w'' hg⟩
  case row k args=>exact Rows.mono h1 fun u w'' ⟨g,hv,hg⟩=>⟨g,hv,hm2 g w'' hg⟩
 |halt x w' =>simp only [uC] at h1
theorem Jg {op:Op} (hg:gok l s gu=some true) (hV:V k=none) (hv: ∀ D,Turn l k ⟨none,op,ty,p,af,gu⟩ D→ ∀ a w,St n s a→Mem w0 w (HL D γ)→ ∃ w',(execOp a.eval ⟨none,op,ty,p,af,gu⟩).run P w= .ok .skip w' ∧Mem w0 w' (HL (put D k) γ)) (h:WX P n w0 l V HL γ K rest (k+1) s):
  WX P n w0 l V HL γ K (⟨none,op,ty,p,af,gu⟩::rest) k s:=by
 intro a hs hl
 obtain ⟨h0,hl'⟩:=kD hl
 refine ⟨undef,.det (dW rfl hg hs) hV fun L w hr hc=> ?_,h _ (hs.put_none _) hl'⟩
 obtain ⟨ht,hd,hnext⟩:=mC h0 hr hc
 obtain ⟨w',hr',hm'⟩:=hv _ ht a w hs hc.2.2
 rw [hr']
 exact ⟨rfl,hnext w' hm'⟩
theorem rE {t T g off m:Nat} {x a:Operand} {v:Value} {vs:List Value} [Size P t m] (hg:gok l s gu=some true) (hV:V k=none) (ha:ev s a=some (.pointer (some ⟨g,off,none⟩))) (hx:ev s x=some v) (hv:v.cells=vs.toArray) (hl:vs.length=m) (h1:vs.all Value.oneCell' =true)
  (hnew: ∀ D,Turn l k ⟨none,.store t a x,ty,p,af,gu⟩ D→ ∃ xs R,Sel (.box g T xs) (HL D γ) R∧off+m≤xs.length∧MSub (HL (put D k) γ) (.box g T (xs.take off++vs++xs.drop (off+m))::R)) (h:WX P n w0 l V HL γ K rest (k+1) s):
  WX P n w0 l V HL γ K (⟨none,.store t a x,ty,p,af,gu⟩::rest) k s:=by
 refine Jg hg hV (fun D ht a' w hs hm=> ?_) h
 obtain ⟨xs,R,hsel,hfit,hsub⟩:=hnew D ht
 have hm' :=hm.sel hsel
 have hb:=(hm'.on _ Nj).1
 simp only [Blk.on] at hb
 have h1' : ∀ u∈vs,u.oneCell' =true:=by simpa using h1
 have hr:=gk (P:=P) (t:=t) (off:=off) hv hl h1' hb (by simpa using hfit)
 simp only at hr
 refine ⟨_,?_,hsub.use (hm'.upd (eZ _ _ _) (b' := .box g T (xs.take off++vs++xs.drop (off+m))) (setRow_heap _ _ _ _ _ _ hb) fun k hk=> .inl hk)⟩
 simp [execOp,hs.eval a _ ha,hs.eval x _ hx,Instr.storeAt,Instr.sureAddr,hr]
end
section
variable {P:Program} {n:Fr} {w0:World} {Q:bQ} {K:az→Prop} {s:az} {H H1:List Blk} {l rest:List Oper} {k j f:Nat} {ty:TypeId} {p:String} {af:Array Edge}
theorem lp {t T g off m:Nat} {x a:Operand} {v:Value} {vs xs:List Value} {R:List Blk} [Size P t m] (ha:ev s a=some (.pointer (some ⟨g,off,none⟩))) (hx:ev s x=some v)
  (hsel:Sel (.box g T xs) H R) (hv:v.cells=vs.toArray) (hl:vs.length=m) (h1:vs.all Value.oneCell' =true) (hfit:off+m≤xs.length)
  (hnew:MSub H1 (.box g T (xs.take off++vs++xs.drop (off+m))::R)) (h:WG P n w0 l (fun D=>if D k then H1 else H) K rest (k+1) s):
  WG P n w0 l (fun D=>if D k then H1 else H) K (⟨none,.store t a x,ty,p,af,none⟩::rest) k s:=by
 refine Dh (fun D ht a' w hs hm=> ?_) h
 have e1:D k=false:=ht.not
 have e2:put D k k=true:=by simp [put]
 simp only [e1,Oo,if_false] at hm
 simp only [e2,if_true]
 have hm' :=hm.sel hsel
 have hb:=(hm'.on _ Nj).1
 simp only [Blk.on] at hb
 have h1' : ∀ u∈vs,u.oneCell' =true:=by simpa using h1
 have hr:=gk (P:=P) (t:=t) (off:=off) hv hl h1' hb (by simpa using hfit)
 simp only at hr
 refine ⟨_,?_,hnew.use (hm'.upd (eZ _ _ _) (b' := .box g T (xs.take off++vs++xs.drop (off+m))) (setRow_heap _ _ _ _ _ _ hb) fun k hk=> .inl hk)⟩
 simp [execOp,hs.eval a _ ha,hs.eval x _ hx,Instr.storeAt,Instr.sureAddr,hr]
theorem qg {t T g off:Nat} {x a:Operand} {v:Value} {xs:List Value} {R:List Blk} [Size P t 1] (ha:ev s a=some (.pointer (some ⟨g,off,none⟩))) (hx:ev s x=some v)
  (hsel:Sel (.box g T xs) H R) (hv:v.oneCell' =true) (hfit:Nat.blt off xs.length=true)
  (hnew:MSub H1 (.box g T (xs.set off v)::R)) (h:WG P n w0 l (fun D=>if D k then H1 else H) K rest (k+1) s):
  WG P n w0 l (fun D=>if D k then H1 else H) K (⟨none,.store t a x,ty,p,af,none⟩::rest) k s:=by
 refine lp (m:=1) ha hx hsel (vs:= [v]) (by cases v<;>first|rfl|cases hv) rfl (by simpa using hv) (by have:=N7 ▸ hfit;omega) ?_ h
 rw [oD _ _ _ (N7 ▸ hfit)]
 exact hnew
theorem Ek {d:Nat} {f' :FuncId} {xs:List Operand} {vs:List Value} {v:Value} {ts:Array TypeId} [Callable P f'] (hn:Nat.blt d n.sz=true) (hr:iW l f j k=true) (hne:Nat.beq j k=false) (hx:evs s xs=some vs)
  (hF: ∀ w,Mem w0 w H→ay P f' vs w v) (h:WG P n w0 l (fun D=>if D j then H1 else H) K rest (k+1) ((d,v)::s)):
  WG P n w0 l (fun D=>if D j then H1 else H) K (⟨some d,.call { callee:= .value (.func f'),args:=xs.toArray,argTypes:=ts },ty,p,af,none⟩::rest) k s:=by
 refine Ge hn hx (fun D ht w hm=> ?_) (fun D=> ?_) h
 ·
  rw [ht.late hr] at hm
  exact hF w hm
 ·
  have:put D k j=D j:=by
   unfold put
   rw [if_neg]
   intro e
   subst e
   rw [Nat.beq_refl] at hne
   cases hne
  simp only [this]
end
theorem uI (z:Array Value) (n:Nat) (u:Value) (h:u∈(Builtin.zeroCells z n).toList):u∈z.toList:=by
 rw [Array.mem_toList_iff,Builtin.zeroCells,Array.mem_map] at h
 obtain ⟨i,hi,rfl⟩:=h
 rw [Array.mem_range] at hi
 have hz:0<z.size:=by
  rcases N9 z.size with h|h
  ·
   rw [h] at hi;simp at hi
  ·
   exact h
 have hl:i % z.size<z.size:=Nat.mod_lt _ hz
 rw [getElem!_pos z (i % z.size) hl,Array.mem_toList_iff]
 exact Array.getElem_mem hl
theorem yn {P:Program} {n:Fr} {w0:World} {Q:bQ} {s:az} {H:List Blk} {rest:List Oper} {ty:TypeId} {p:String} {af:Array Edge} {t e k n' c cx g sz:Nat} {x:Operand} {xs:List Value} {R:List Blk} {ops:Array Oper} {z:Value} [ht:Und P t (.slice e)] [hz:Zero P e z]
  (hx:ev s x=some (.slice (some ⟨g,k*sz,none⟩) (n' - k) cx)) (hk:k<n') (hsel:Sel (.own (some g) e sz n' c xs) H R) (hz1: ∀ u∈z.cells.toList,u.oneCell' =true) (hzs:z.cells.size=sz)
  (K:WL P n w0 ops rest Q s (.own (some g) e sz k c (xs.take (k*sz))::R)):
  WL P n w0 ops (⟨none,.call { callee:= .builtin .clear,args:= #[x],argTypes:= #[t] },ty,p,af,none⟩::rest) Q s H:=by
 intro a w hs hm
 have hm' :=hm.sel hsel
 obtain ⟨i,i1,i2⟩:=hz.out
 obtain ⟨b1,b2,b3,junk,b4,b5⟩:=(hm'.on _ Nj).1
 have hzl:(Builtin.zeroCells z.cells (n' - k)).toList.length=(n' - k)*sz:=by rw [Array.length_toList,size_zeroCells,hzs]
 have hkn:k*sz+(n' - k)*sz=n' *sz:=by rw [← Pw];congr 1;omega
 have hst:=run_storeCells_at (P:=P) g (k*sz) e (Builtin.zeroCells z.cells (n' - k)).toList 0 _ w b5 (by simp only [PI,Na,hzl];omega) (fun u hu=>hz1 u (uI _ _ _ hu))
 simp only [O2,hzl,hkn] at hst
 have hn0: ¬ n' - k=0:=by omega
 obtain ⟨m,hm2⟩: ∃ m,n' - k=m+1:=⟨n' - k - 1,by omega⟩
 have hrun:(Builtin.clear_ #[t] ty #[.slice (some ⟨g,k*sz,none⟩) (n' - k) cx]).run P w= .ok (.tuple #[]) (w.setRow g ((xs++junk).take (k*sz)++(Builtin.zeroCells z.cells (n' - k)).toList++(xs++junk).drop (n' *sz)).toArray):=by
  rw [hm2] at hst ⊢
  simp [Builtin.clear_,run_underlying ht.out,zeroValue,typeInfo,i1,i2,hst]
 refine wpList_plain rfl fun K' hK=> ?_
 unfold Oper.wp execOp
 simp only [resolve,invoke,builtin,Sem.run_bind,Sem.run_pure,Result.andThen_ok,OZ,NM,OD,hs.eval x _ hx,hrun,Oper.upon]
 refine hK _ _ (K _ _ (hs.put_none _) (hm'.upd (eZ _ _ _) (b' := .own (some g) e sz k c (xs.take (k*sz))) ⟨?_,by omega,b3,(Builtin.zeroCells z.cells (n' - k)).toList++(xs++junk).drop (n' *sz),?_,?_⟩ fun k hk=> .inl hk))
 ·
  rw [Nu,b1];omega
 ·
  have hle:n' *sz≤c*sz:=Nat.mul_le_mul_right _ b2
  simp only [Na,Nu,Nq,hzl]
  rw [Na] at b4
  omega
 ·
  rw [Po (by omega)]
  rw [← NG]
  exact setRow_heap _ _ _ _ _ _ b5
def tB {κ:Type} (enc:κ→Value) (e:κ × Value × Nat):MapEntry:={ key:=enc e.1,val:=e.2.1,born:=e.2.2 }
def mN {κ:Type} (enc:κ→Value) (es:List (κ × Value × Nat)) (clock:Nat):Obj:= .map (es.map (tB enc)).toArray clock
structure MapOk {κ:Type} (es:List (κ × Value × Nat)) (clock:Nat):Prop where
 born:(es.map fun e=>e.2.2).Nodup
 old: ∀ e∈es,e.2.2<clock
 keys:(es.map fun e=>e.1).Nodup
def lg {κ:Type} [DecidableEq κ] (k:κ):List (κ × Value × Nat)→Nat→Option (Nat × Value)
 | [],_=>none
 |e::es,i=>if k=e.1 then some (i,e.2.1) else lg k es (i+1)
class KLaw (P:Program) (K:TypeId) {κ:Type} [DecidableEq κ] (enc:κ→Value):Prop where
 check: ∀ e k w,(Instr.checkKey e 10000 K (enc k)).run P w= .ok () w
 find: ∀ k (es:List (κ × Value × Nat)) w,(Instr.findKey K (enc k) (es.map (tB enc))).run P w= .ok (lg k es 0) w
 stays: ∀ k w,(Instr.keyThatStays (enc k) (enc k)).run P w= .ok (enc k) w
def xD {κ:Type} [DecidableEq κ] (k:κ) (v:Value) (clock:Nat) (es:List (κ × Value × Nat)):List (κ × Value × Nat) × Nat:=
 match lg k es 0 with
 |some (i,_)=>(es.modify i fun e=>(k,v,e.2.2),clock)
 |none=>(es++ [(k,v,clock)],clock+1)
theorem vW {κ:Type} [DecidableEq κ] {k:κ}: ∀ {es:List (κ × Value × Nat)} {i j:Nat} {v:Value},lg k es i=some (j,v)→ ∃ b,i≤j∧es[j - i]? =some (k,v,b)
 | [],i,j,v,h=>by cases h
 |e::es,i,j,v,h=>by
  simp only [lg] at h
  split at h
  ·
   rename_i hk
   obtain ⟨rfl,rfl⟩:=Prod.mk.inj (Option.some.inj h)
   exact ⟨e.2.2,Ni _,by simp [hk]⟩
  ·
   obtain ⟨b,h1,h2⟩:=vW h
   refine ⟨b,by omega,?_⟩
   rw [show j - i=(j - (i+1))+1 by omega,List.getElem?_cons_succ]
   exact h2
section
variable {P:Program} {n:Fr} {w0:World} {Q:bQ} {s:az} {H:List Blk} {l rest:List Oper} {ty:TypeId} {p:String} {af:Array Edge} {κ:Type} [DecidableEq κ] {enc:κ→Value}
theorem Bg {κ' :Type} {d t:Nat} {ops:Array Oper} (hn:Nat.blt d n.sz=true) (enc:κ' →Value)
  (k: ∀ g,WL P n w0 ops rest Q ((d,.map (some g))::s) (.obj g (mN enc [] 0)::H)):WL P n w0 ops (⟨some d,.makeMap t none,ty,p,af,none⟩::rest) Q s H:=by
 refine pL (B:=fun g=> .obj g (mN enc [] 0)) (v:=fun g=> .map (some g)) hn (fun st w hs hm=> ?_) k
 exact ⟨w.alloc (.map #[] 0),rfl,World.grownBy_alloc w _ none,heap_alloc_new w _,rfl⟩
theorem Mem.obj_at {w:World} {g:Nat} {o:Obj} (hm:Mem w0 w H) (hi:In (.obj g o) H):w.heap[g]? =some o:=(hm.on _ hi.mem).1
theorem GN {P:Program} {E:TypeId} {z:Value} [hz:Zero P E z] (w:World):(zeroValue E).run P w= .ok z w:=by
 obtain ⟨i,h1,h2⟩:=hz.out
 simp [zeroValue,typeInfo,h1,h2]
theorem Bw {t K E g clock:Nat} {x ix:Operand} {k:κ} {es:List (κ × Value × Nat)} {z u:Value} [ht:Und P t (.map K E)] [hk:KLaw P K enc] [hz:Zero P E z] (hx:ev s x=some (.map (some g))) (hi:ev s ix=some (enc k)) (hin:In (.obj g (mN enc es clock)) H)
  (hu:(match lg k es 0 with|some (_,v)=>Value.tuple #[v,.bool true]|none=> .tuple #[z,.bool false])=u):VOp P w0 s H (.lookup t x ix true) ty u:=fun ρ w _ _ _ _ hρ hm=>by
 have hb:=hm.obj_at hin
 have hf:=hk.find k es w
 have hc:=hk.check (es.map (tB enc)).toArray.isEmpty k w
 subst hu
 simp only [mN] at hb
 have hL:(Instr.lookup t (.map (some g)) (enc k) true).run P w= .ok (match lg k es 0 with|some (_,v)=>Value.tuple #[v,.bool true]|none=> .tuple #[z,.bool false]) w:=by
  simp only [Instr.lookup,Sem.run_bind,run_underlying ht.out,Result.andThen_ok,MapKept.run_getObj_map hb,hc,hf,Sem.run_pure]
  cases h:lg k es 0 with
  |none=>simp only [Sem.run_bind,GN w,Result.andThen_ok,Sem.run_pure,if_true]
  |some r=>rfl
 simp only [execOp,hρ x _ hx,hρ ix _ hi,Sem.run_bind,hL,Result.andThen_ok,Sem.run_pure]
theorem wZ (w:World) (g:Nat) (o:Obj):w.grownBy { w with heap:=w.heap.setIfInBounds g o } (some g):=
 ⟨rfl,rfl,rfl,by simp,fun k _ hk=>by
  have hne:g≠k:=fun e=>hk (by rw [← e])
  simp [Pj hne]⟩
theorem EK {w:World} {g:Nat} {o o' :Obj} (h:w.heap[g]? =some o):(w.heap.setIfInBounds g o')[g]? =some o' :=by
 have:g<w.heap.size:=(NH.1 h).1
 simp [this]
theorem uQ {t K E g clock:Nat} {k:κ} {v:Value} {es:List (κ × Value × Nat)} {w:World} [ht:Und P t (.map K E)] [hk:KLaw P K enc] (hb:w.heap[g]? =some (mN enc es clock)):
  (Instr.mapUpdate t (.map (some g)) (enc k) v).run P w= .ok () { w with heap:=w.heap.setIfInBounds g (mN enc (xD k v clock es).1 (xD k v clock es).2) }:=by
 have hf:=hk.find k es w
 have hc:=hk.check false k w
 simp only [mN] at hb
 cases h:lg k es 0 with
 |none=>
  rw [h] at hf
  simp [Instr.mapUpdate,run_underlying ht.out,getObj,setObj,Sem.run,hb,hc,hf,Result.andThen,xD,h,mN,tB]
 |some r=>
  obtain ⟨i,u⟩:=r
  rw [h] at hf
  obtain ⟨b,_,hi⟩:=vW h
  rw [Pa] at hi
  have hkey:(((es.map (tB enc)).toArray[i]?).map (·.key)).getD (enc k)=enc k:=by simp [hi,tB]
  have hst:=hk.stays k w
  have he:((es.map (tB enc)).toArray.modify i fun e=>{ e with key:=enc k,val:=v })=((es.modify i fun e=>(k,v,e.2.2)).map (tB enc)).toArray:=by
   apply Array.ext'
   simp only [Array.toList_modify]
   apply List.ext_getElem?
   intro j
   simp only [List.getElem?_modify,Om]
   cases es[j]? <;>simp [tB]<;>split<;>rfl
  simp only [Instr.mapUpdate,Sem.run_bind,run_underlying ht.out,Result.andThen_ok,getObj,setObj,Sem.run,hb,hc,hf,hkey,hst,he]
  simp [xD,h,mN]
theorem Ee {t K E g clock:Nat} {m x kx:Operand} {k:κ} {v:Value} {es:List (κ × Value × Nat)} {R:List Blk} {ops:Array Oper} [ht:Und P t (.map K E)] [hk:KLaw P K enc] (hm:ev s m=some (.map (some g))) (hkx:ev s kx=some (enc k)) (hx:ev s x=some v) (hsel:Sel (.obj g (mN enc es clock)) H R)
  (h:WL P n w0 ops rest Q s (.obj g (mN enc (xD k v clock es).1 (xD k v clock es).2)::R)):WL P n w0 ops (⟨none,.insert t m kx x,ty,p,af,none⟩::rest) Q s H:=by
 refine rj (fun a w hs hmm=> ?_) h
 have hm' :=hmm.sel hsel
 have hb:=(hm'.on _ Nj).1
 refine ⟨_,?_,hm'.upd (wZ w g _) (b' := .obj g _) (EK hb) fun k hk=> .inl hk⟩
 simp [execOp,hs.eval m _ hm,hs.eval x _ hx,hs.eval kx _ hkx,uQ (P:=P) (t:=t) (K:=K) (E:=E) (k:=k) (v:=v) hb]
end
theorem tO {α β:Type} (f:α→β): ∀ {l:List α},(l.map f).Nodup→ ∀ {x y:α},x∈l→y∈l→f x=f y→x=y
 |a::l,h,x,y,hx,hy,e=>by
  have h' :=List.nodup_cons.1 h
  rcases NA.1 hx with hx|hx<;>rcases NA.1 hy with hy|hy
  ·
   rw [hx,hy]
  ·
   exact absurd (OQ.2 ⟨y,hy,by rw [← e,hx]⟩) h'.1
  ·
   exact absurd (OQ.2 ⟨x,hx,by rw [e,hy]⟩) h'.1
  ·
   exact tO f h'.2 hx hy e
theorem HR {P:Program} {K:TypeId} {q:IntKind} [hK:Und P K (.int q)]:KLaw P K (fun z:Int=>Value.int q z):={
 check:=fun e k w=>by
  have h: ∀ m,(Instr.checkKey e (m+1) K (.int q k)).run P w= .ok () w:=fun m=>by simp only [Instr.checkKey,Sem.run_bind,run_underlying hK.out,Result.andThen_ok,Sem.run_pure]
  exact h 9999
 find:=fun k es w=>by
  have h: ∀ (es:List (Int × Value × Nat)) (i:Nat),Instr.findNow (.int q) (.int q k) (es.map (tB fun z:Int=>Value.int q z)) i=some (lg k es i):=by
   intro es
   induction es with
   |nil=>intro i;rfl
   |cons e es ih=>
    intro i
    have hb:(k==e.1)=decide (k=e.1):=by rw [NL];simp
    simp only [NM,Instr.findNow,tB,Instr.sameNow,if_true,lg,hb]
    by_cases hk:k=e.1
    ·
     simp [hk]
    ·
     simp only [decide_eq_false hk,hk,if_false]
     exact ih _
  simp only [Instr.findKey,Sem.run_bind,run_underlying hK.out,Result.andThen_ok,h,Sem.run_pure]
 stays:=fun k w=>by
  have h:Instr.sameBits 10000 (.int q k) (.int q k)=true:=by unfold Instr.sameBits;simp
  simp only [Instr.keyThatStays,h,if_true,Sem.run_pure] }
end Go.SL

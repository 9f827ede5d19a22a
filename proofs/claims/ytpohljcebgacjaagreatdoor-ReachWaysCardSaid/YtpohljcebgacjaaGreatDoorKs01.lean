/-
  Lemmas and walks, put together: Ty Sl13 Sl28 L1 Fd Pl4 Pl5 Pl6 Rn Rq Rs.
-/
import Derived.Test.YtpohljcebgacjaaGreatDoorKr31
set_option linter.unusedSimpArgs false
set_option linter.unusedVariables false
set_option maxRecDepth 20000
namespace Go.SL
open Go Go.Proofs
instance:Callable Tryz.prog 57:=⟨fun args w=>Tryz.call57 args w⟩
end Go.SL
namespace Go.SL
open Go Go.RowKit
theorem calls_det {P:Program} {f:FuncId} {args:Array Value} {w:World} {u v:Value} {A B:World→Prop} (hi:P.inits.idxOf? f=none) (h1:Calls P f args w fun e w' =>e= .returned u∧A w') (h2:Calls P f args w fun e w' =>e= .returned v∧B w'):u=v:=by
 obtain ⟨e1,w1,fr1,⟨rfl,_⟩,⟨n1,s1⟩,f1,l1⟩:=h1 []
 obtain ⟨e2,w2,fr2,⟨rfl,_⟩,⟨n2,s2⟩,f2,l2⟩:=h2 []
 have d1:=step_leave_done l1 (by rw [f1];exact hi)
 have d2:=step_leave_done l2 (by rw [f2];exact hi)
 have key: ∀ (a b:Nat) (m x y:Machine) (o:Outcome) (w:World),a≤b→runN P a m= .next x→runN P b m= .next y→step P x= .ended o w→x=y:=by
  intro a b m x y o w hab hx hy hd
  obtain ⟨c,rfl⟩:=Nat.exists_eq_add_of_le hab
  rw [runN_add,hx] at hy
  cases c with
  |zero=>simp only [runN,Stepped.next.injEq] at hy;exact hy
  |succ c=>simp [runN,hd] at hy
 have hm:lone fr1 [] w1=lone fr2 [] w2:=by
  rcases Nat.le_total n1 n2 with h|h
  ·
   exact key _ _ _ _ _ _ _ h s1 s2 d1
  ·
   exact (key _ _ _ _ _ _ _ h s2 s1 d2).symm
 rw [hm,d2] at d1
 simp only [Stepped.ended.injEq,Outcome.done.injEq] at d1
 exact d1.1.symm
section
variable {P:Program} {ops:Array Oper} {md:Region.Mode}
variable (V:Nat→Option (Gh→Value)) (C:(Nat→Gh)→Array Bool→World→Prop)
variable {V C}
theorem GX.of_same {γ:Nat→Gh} {i:Nat} {o:Oper} {v:Value} {a a' :Act} (hy:GX P md ops V C γ i o v a) (he:execOp a'.eval o=execOp a.eval o)
  (hw:Region.wanted o (yielded ops a'.tmps)=Region.wanted o (yielded ops a.tmps)):GX P md ops V C γ i o v a' :=by
 cases hy with
 |pass h1 h2 h3=>exact .pass (hw.trans h1) h2 h3
 |det h1 h2 h3=>exact .det (hw.trans h1) h2 (by rw [he];exact h3)
 |non h1 φ h2 h3 h4=>exact .non (hw.trans h1) φ h2 h3 (by rw [he];exact h4)
def xOp (P:Program) (md:Region.Mode) (ops:Array Oper) (V:Nat→Option (Gh→Value)) (C:(Nat→Gh)→Array Bool→World→Prop) (γ:Nat→Gh) (i:Nat) (K:Act→Prop) (a:Act):Prop:=
 ∃ o v,ops[i]? =some o∧GX P md ops V C γ i o v a∧K (a.put o.dst v)
def AnyX (P:Program) (md:Region.Mode) (ops:Array Oper) (V:Nat→Option (Gh→Value)) (C:(Nat→Gh)→Array Bool→World→Prop) (γ:Nat→Gh) (Q:Act→Prop):Nat→Array Bool→Act→Prop
 |0,L,a=>Region.ready md ops L= []∧Q a
 |f+1,L,a=>(Region.ready md ops L= []→Q a)∧ ∀ i∈Region.ready md ops L,xOp P md ops V C γ i (AnyX P md ops V C γ Q f (L.setIfInBounds i true)) a
theorem xOp_mono {γ:Nat→Gh} {i:Nat} {a:Act} {K K' :Act→Prop} (h: ∀ a,K a→K' a) (hh:xOp P md ops V C γ i K a):xOp P md ops V C γ i K' a:=
 let ⟨o,v,h1,h2,h3⟩:=hh
 ⟨o,v,h1,h2,h _ h3⟩
theorem xOp_put {γ:Nat→Gh} {i j:Nat} {oi oj:Oper} {v:Value} (hj:ops[j]? =some oj) (hap:oi.apart ops oj=true)
  (hsi: ∀ cs b,oi.op≠ .select cs b) (hsj: ∀ cs b,oj.op≠ .select cs b) {K:Act→Prop} {a:Act}
  (hy:GX P md ops V C γ i oi v a) (h:xOp P md ops V C γ j K (a.put oi.dst v)):
  xOp P md ops V C γ j (fun a' =>GX P md ops V C γ i oi v a' ∧K (a'.put oi.dst v)) a:=by
 obtain ⟨h1,h2,h3⟩:=Oper.apart_spec hap
 obtain ⟨o,u,ho,hg,hk⟩:=h
 have e:o=oj:=Option.some.inj (ho.symm.trans hj)
 subst e
 refine ⟨o,u,ho,hg.of_same (execOp_put o hsj a oi.dst v h1).symm (wanted_put o a oi.dst v h1).symm,hy.of_same (execOp_put oi hsi a o.dst u h3) (wanted_put oi a o.dst u h3),?_⟩
 rw [← Act.put_comm a v u h2]
 exact hk
theorem AnyX_first {γ:Nat→Gh} {Q:Act→Prop} {i:Nat} {oi:Oper} {v:Value} (hi:ops[i]? =some oi) (hsel: ∀ (j:Nat) (o:Oper) cs b,ops[j]? =some o→o.op≠ .select cs b):
  ∀ (f:Nat) (L:Array Bool) (a:Act),
   (∀ j oj,ops[j]? =some oj→j≠i→L.getD j true=false→(∀ e∈oj.after,Region.binds md e=true→e.on≠i)→oi.apart ops oj=true)→
   i∈Region.ready md ops L→GX P md ops V C γ i oi v a→AnyX P md ops V C γ Q f (L.setIfInBounds i true) (a.put oi.dst v)→AnyX P md ops V C γ Q (f+1) L a
 |0,L,a,_,hr,hy,H=>⟨fun h=>(by rw [h] at hr;cases hr),fun j hj=>by
   by_cases hji:j=i
   ·
    subst hji;exact ⟨oi,v,hi,hy,H⟩
   ·
    have:=ready_mono hj hji
    rw [H.1] at this
    cases this⟩
 |f+1,L,a,hfree,hr,hy,H=>⟨fun h=>(by rw [h] at hr;cases hr),fun j hj=>by
   by_cases hji:j=i
   ·
    subst hji;exact ⟨oi,v,hi,hy,H⟩
   ·
    have h1:=H.2 j (ready_mono hj hji)
    obtain ⟨hjun,oj,hoj,hall⟩:=mem_ready.1 hj
    have hnot: ∀ e∈oj.after,Region.binds md e=true→e.on≠i:=fun e he hb heq=>by
     have h1:=hall e he hb
     have h0:=(mem_ready.1 hr).1
     rw [heq] at h1
     rcases Nat.lt_or_ge i L.size with h' |h'
     ·
      simp [h'] at h0 h1;rw [h0] at h1;cases h1
     ·
      simp [Array.getElem?_eq_none h'] at h1
    have h2:=xOp_put hoj (hfree j oj hoj hji hjun hnot) (fun cs b=>hsel i oi cs b hi) (fun cs b=>hsel j oj cs b hoj) hy h1
    have hfree' : ∀ k ok,ops[k]? =some ok→k≠i→(L.setIfInBounds j true).getD k true=false→
      (∀ e∈ok.after,Region.binds md e=true→e.on≠i)→oi.apart ops ok=true:=fun k ok hk hki hun hno=>by
     refine hfree k ok hk hki ?_ hno
     by_cases hjk:j=k
     ·
      subst hjk;exact hjun
     ·
      rw [getD_set_ne true hjk] at hun;exact hun
    refine xOp_mono (fun a' h3=>AnyX_first hi hsel f (L.setIfInBounds j true) a' hfree' (ready_mono hr (Ne.symm hji)) h3.1 ?_) h2
    rw [Array.setIfInBounds_comm _ _ hji]
    exact h3.2⟩
theorem AnyX_lex {γ:Nat→Gh} {Q:Act→Prop} (hs:Region.noSelect ops=true): ∀ (l:List Oper) (k:Nat) (L:Array Bool) (a:Act),(∀ j,l[j]? =ops[k+j]?)→
  Region.lexFrom md ops l.length k L=true→wpX P md ops V C γ Q l k a→AnyX P md ops V C γ Q l.length L a
 | [],_,_,_,_,hB,h=>⟨by simpa [Region.lexFrom] using hB,h⟩
 |o::l,k,L,a,hl,hB,h=>by
  have h0:ops[k]? =some o:=by simpa using (hl 0).symm
  simp only [List.length_cons,Region.lexFrom,Bool.and_eq_true] at hB
  obtain ⟨⟨hr,hf⟩,hB'⟩:=hB
  obtain ⟨v,hy,hK⟩:=h
  exact AnyX_first h0 (Region.noSelect_spec hs) l.length L a (Region.free_spec h0 hf) (by simpa using hr) hy
   (AnyX_lex hs l (k+1) _ _ (fun j=>by have:=hl (j+1);simpa [Nat.add_assoc,Nat.add_comm 1 j] using this) hB' hK)
def agree (L:Array Bool) (γ γ' :Nat→Gh):Prop:= ∀ i,L.getD i false=true→γ i=γ' i
theorem wpAny_of_AnyX {Q:(Nat→Gh)→Act→Prop} {Q' :Exit→Act→World→Prop} (hloc: ∀ L γ γ' w,agree L γ γ' →C γ L w→C γ' L w) (hsz: ∀ γ L w,C γ L w→L.size=ops.size) (hQ: ∀ γ L a w,Region.ready md ops L= []→C γ L w→Q γ a→Q' .normal a w):
  ∀ (f:Nat) (L:Array Bool) (a:Act) (w:World) (γ:Nat→Gh),C γ L w→(∀ γ',agree L γ γ' →AnyX P md ops V C γ' (Q γ') f L a)→wpAny P md ops Q' f L a w
 |0,L,a,w,γ,hC,h=>⟨(h γ fun _ _=>rfl).1,hQ γ L a w (h γ fun _ _=>rfl).1 hC (h γ fun _ _=>rfl).2⟩
 |f+1,L,a,w,γ,hC,h=>⟨fun h0=>hQ γ L a w h0 hC ((h γ fun _ _=>rfl).1 h0),fun i hi=>by
   obtain ⟨o,v,ho,hg,hk⟩:=(h γ fun _ _=>rfl).2 i hi
   obtain ⟨hun,_⟩:=mem_ready.1 hi
   have hlt:i<L.size:=by
    rw [hsz γ L w hC]
    exact (Array.getElem?_eq_some_iff.1 ho).1
   have hi0:L.getD i false=false:=by
    simp [hlt] at hun ⊢;exact hun
   have hsub: ∀ γ' γ'',agree (L.setIfInBounds i true) γ' γ'' →agree L γ' γ'' :=fun γ' γ'' hag j hj=>by
    refine hag j ?_
    by_cases e:i=j
    ·
     subst e;rw [hi0] at hj;cases hj
    ·
     rw [getD_set_ne false e];exact hj
   have hat: ∀ γ' γ'',agree (L.setIfInBounds i true) γ' γ'' →γ' i=γ'' i:=fun γ' γ'' hag=>hag i (by simp [hlt])
   have hupd: ∀ g,agree L γ (upd γ i g):=fun g j hj=>by
    have:j≠i:=fun e=>by subst e;rw [hi0] at hj;cases hj
    simp [upd,this]
   -- what another prophecy says of this operation
   have other: ∀ γ'',agree L γ γ'' → ∃ v'',GX P md ops V C γ'' i o v'' a∧AnyX P md ops V C γ'' (Q γ'') f (L.setIfInBounds i true) (a.put o.dst v''):=fun γ'' hag=>by
    obtain ⟨o'',v'',ho'',hg'',hk''⟩:=(h γ'' hag).2 i hi
    have e:o'' =o:=Option.some.inj (ho''.symm.trans ho)
    subst e
    exact ⟨v'',hg'',hk''⟩
   unfold wpOp
   simp only [ho]
   cases hg with
   |pass hw hv hc=>
    subst hv
    simp only [hw,Bool.false_eq_true,if_false]
    refine wpAny_of_AnyX hloc hsz hQ f _ _ _ γ (hc L w hi hC) fun γ'' hag=> ?_
    obtain ⟨v'',hg'',hk''⟩:=other γ'' (hsub _ _ hag)
    cases hg'' with
    |pass _ hv'' _=>subst hv'';exact hk''
    |det hw'' _ _=>rw [hw] at hw'';cases hw''
    |non hw'' _ _ _ _=>rw [hw] at hw'';cases hw''
   |det hw hV hc=>
    simp only [hw,if_true]
    refine .inl ?_
    have h1:=hc L w hi hC
    have h2: ∀ γ'',agree L γ γ'' → ∃ v'',DetUp P (C γ'' (L.setIfInBounds i true)) v'' ((execOp a.eval o).run P w)∧AnyX P md ops V C γ'' (Q γ'') f (L.setIfInBounds i true) (a.put o.dst v''):=fun γ'' hag=>by
     obtain ⟨v'',hg'',hk''⟩:=other γ'' hag
     cases hg'' with
     |pass hw'' _ _=>rw [hw] at hw'';cases hw''
     |det _ _ hc'' =>exact ⟨v'',hc'' L w hi (hloc L γ γ'' w hag hC),hk''⟩
     |non _ _ hV'' _ _=>rw [hV] at hV'';cases hV''
    unfold Oper.wp
    generalize (execOp a.eval o).run P w=r at h1 h2 ⊢
    cases r with
    |ok x w' =>
     cases x<;>simp only [DetUp] at h1 h2<;>simp only [Oper.upon]
     case value u=>
      obtain ⟨rfl,h3⟩:=h1
      refine wpAny_of_AnyX hloc hsz hQ f _ _ _ γ h3 fun γ'' hag=> ?_
      obtain ⟨v'',⟨rfl,_⟩,hk''⟩:=h2 γ'' (hsub _ _ hag)
      exact hk''
     case skip=>
      obtain ⟨rfl,h3⟩:=h1
      refine wpAny_of_AnyX hloc hsz hQ f _ _ _ γ h3 fun γ'' hag=> ?_
      obtain ⟨v'',⟨rfl,_⟩,hk''⟩:=h2 γ'' (hsub _ _ hag)
      exact hk''
     case enter g args=>
      obtain ⟨hin,h3⟩:=h1
      refine h3.mono fun e w'' ⟨he,h4⟩=> ?_
      subst he
      refine wpAny_of_AnyX hloc hsz hQ f _ _ _ γ h4 fun γ'' hag=> ?_
      obtain ⟨v'',⟨_,h5⟩,hk''⟩:=h2 γ'' (hsub _ _ hag)
      rw [calls_det hin h3 h5]
      exact hk''
    |halt x w' =>simp only [DetUp] at h1
   |non hw φ hV hv hc=>
    simp only [hw,if_true]
    refine .inl ?_
    have h1:=hc L w hi hC
    have h2: ∀ g γ'',agree (L.setIfInBounds i true) (upd γ i g) γ'' →AnyX P md ops V C γ'' (Q γ'') f (L.setIfInBounds i true) (a.put o.dst (φ g)):=fun g γ'' hag=>by
     have hag' :agree L γ γ'' :=fun j hj=>(hupd g j hj).trans (hsub _ _ hag j hj)
     have hgi:γ'' i=g:=by rw [← hat _ _ hag];simp [upd]
     obtain ⟨v'',hg'',hk''⟩:=other γ'' hag'
     cases hg'' with
     |pass hw'' _ _=>rw [hw] at hw'';cases hw''
     |det _ hV'' _=>rw [hV] at hV'';cases hV''
     |non _ φ'' hV'' hv'' _=>
      rw [hV] at hV''
      injection hV'' with hV''
      subst hV''
      rw [hv'',hgi] at hk''
      exact hk''
    unfold Oper.wp
    generalize (execOp a.eval o).run P w=r at h1 ⊢
    cases r with
    |ok x w' =>
     cases x<;>simp only [NonUp] at h1<;>simp only [Oper.upon]
     case value u=>
      obtain ⟨g,rfl,h3⟩:=h1
      exact wpAny_of_AnyX hloc hsz hQ f _ _ _ (upd γ i g) h3 fun γ'' hag=>h2 g γ'' hag
     case skip=>
      obtain ⟨g,hg,h3⟩:=h1
      rw [hg]
      exact wpAny_of_AnyX hloc hsz hQ f _ _ _ (upd γ i g) h3 fun γ'' hag=>h2 g γ'' hag
     case enter k args=>
      refine h1.mono fun e w'' ⟨g,he,h4⟩=> ?_
      subst he
      exact wpAny_of_AnyX hloc hsz hQ f _ _ _ (upd γ i g) h4 fun γ'' hag=>h2 g γ'' hag
     case row k args=>
      refine Rows.mono h1 fun u w'' ⟨g,he,h4⟩=> ?_
      subst he
      exact wpAny_of_AnyX hloc hsz hQ f _ _ _ (upd γ i g) h4 fun γ'' hag=>h2 g γ'' hag
    |halt x w' =>simp only [NonUp] at h1⟩
end
section
variable {P:Program} {n:Fr} {w0:World} {Q:Post} {s:Slots} {H:List Blk} {l rest:List Oper} {ty:TypeId} {p:String} {af:Array Edge}
def LocalX (HL:Done→(Nat→Gh)→List Blk):Prop:= ∀ (D:Done) (γ γ' :Nat→Gh),(∀ i,D i=true→γ i=γ' i)→HL D γ=HL D γ'
theorem w_drawX {id:Nat} (V:Nat→Option (Gh→Value)) (HL:Done→(Nat→Gh)→List Blk) (hm:P.follows .mixedOrders=true) (hB:Region.lexB .any l.toArray=true) (hloc:LocalX HL) (h0: ∀ γ,MSub (HL (fun _=>false) γ) H)
  (h: ∀ γ,WX P n w0 l V HL γ (fun s' => ∀ D:Done,(∀ i,i<l.length→D i=true)→Q .normal s' (HL D γ)) l 0 s):W P n w0 (.region id l.toArray true) Q s H:=by
 intro a w hs hmem
 have hrep:done (Array.replicate l.toArray.size false)=fun _=>false:=by
  funext i
  unfold done
  rw [Array.getD_eq_getD_getElem?,Array.getElem?_replicate]
  split<;>rfl
 let γ0:Nat→Gh:=fun _=>(none,0)
 have hB' :=hB
 simp only [Region.lexB,Bool.and_eq_true] at hB'
 refine wp_region_any hm ?_
 refine wpAny_of_AnyX (V:=V) (C:=ClsX w0 l HL) (Q:=fun γ a' => ∃ s',St n s' a' ∧ ∀ D:Done,(∀ i,i<l.length→D i=true)→Q .normal s' (HL D γ)) ?_ ?_ ?_ _ _ _ _ γ0 ?_ ?_
 ·
  rintro L γ γ' w' hag ⟨h1,h2,h3⟩
  refine ⟨h1,h2,?_⟩
  show Mem w0 w' (HL (done L) γ')
  rw [hloc (done L) γ' γ fun i hi=>(hag i hi).symm]
  exact h3
 ·
  rintro γ L w' ⟨h1,_⟩
  simpa using h1
 ·
  rintro γ L a' w' hr ⟨hsz,hcl,hmem'⟩ ⟨s',h2,h3⟩
  refine ⟨s',HL (done L) γ,h2,hmem',h3 _ fun i hi=> ?_⟩
  -- nothing is ready:all is done
  have all: ∀ i,i<l.length→done L i=true:=by
   intro i
   induction i using Nat.strongRecOn with
   |_ i ih=>
    intro hi
    cases hd:done L i with
    |true=>rfl
    |false=>
     exfalso
     have hlx: ∀ (f k:Nat) (L0:Array Bool),Region.lexFrom .any l.toArray f k L0=true→ ∀ j o,k≤j→j<k+f→l[j]? =some o→ ∀ x∈waits o,L0.getD x false=true∨(k≤x∧x<j):=by
      intro f
      induction f with
      |zero=>intro k L0 _ j o h1 h2;omega
      |succ f ihf=>
       intro k L0 hlex j o h1 h2 ho x hx
       simp only [Region.lexFrom,Bool.and_eq_true] at hlex
       obtain ⟨⟨hrk,_⟩,hrest⟩:=hlex
       by_cases hjk:j=k
       ·
        subst hjk
        obtain ⟨_,o',ho',hall⟩:=mem_ready.1 (by simpa using hrk:j∈Region.ready .any l.toArray L0)
        rw [List.getElem?_toArray,ho] at ho'
        injection ho' with ho'
        subst ho'
        obtain ⟨e,he,hb,rfl⟩:=waits_mem.1 hx
        exact .inl (hall e he hb)
       ·
        rcases ihf (k+1) _ hrest j o (by omega) (by omega) ho x hx with h|⟨h3,h4⟩
        ·
         by_cases hxk:k=x
         ·
          subst hxk;right;omega
         ·
          rw [getD_set_ne false hxk] at h;exact .inl h
        ·
         right;omega
     obtain ⟨o,ho⟩: ∃ o,l[i]? =some o:=⟨_,List.getElem?_eq_getElem hi⟩
     have hmem:i∈Region.ready .any l.toArray L:=by
      refine mem_ready.2 ⟨?_,o,by simpa using ho,fun e he hb=> ?_⟩
      ·
       have:i<L.size:=by omega
       unfold done at hd
       simp [this] at hd ⊢;exact hd
      ·
       have hx:=hlx l.toArray.size 0 _ hB'.2 i o (Nat.zero_le _) (by simpa using hi) ho e.on (waits_mem.2 ⟨e,he,hb,rfl⟩)
       rcases hx with h|⟨_,h⟩
       ·
        have:(done (Array.replicate l.toArray.size false)) e.on=true:=h
        rw [hrep] at this;cases this
       ·
        exact ih e.on h (by omega)
     rw [hr] at hmem
     cases hmem
  exact all i hi
 ·
  refine ⟨by simp,fun i o _ hi=>(by rw [hrep] at hi;cases hi),?_⟩
  rw [hrep]
  exact (h0 γ0).use hmem.drew
 ·
  intro γ' _
  have h1:=h γ' a hs (by simp)
  have:=AnyX_lex (md:= .any) hB'.1 l.toArray.toList 0 (Array.replicate l.toArray.size false) a (by simp) (by simpa using hB'.2) (by simpa using h1)
  simpa using this
variable {V:Nat→Option (Gh→Value)} {HL:Done→(Nat→Gh)→List Blk} {γ:Nat→Gh} {K:Slots→Prop} {k:Nat}
theorem wx_nil (h:K s):WX P n w0 l V HL γ K [] k s:=fun _ hs _=>⟨s,hs,h⟩
def nilB:Blk:= .own none 0 0 0 0 []
def gat (D:Done) (γ:Nat→Gh):Nat→Gh:=fun i=>bif D i then γ i else (none,0)
theorem localX_gat (HX:Done→(Nat→Gh)→List Blk):LocalX fun D γ=>HX D (gat D γ):=fun D γ γ' h=>by
 have:gat D γ=gat D γ' :=by
  funext i
  unfold gat
  cases hi:D i with
  |false=>rfl
  |true=>exact h i hi
 show HX D (gat D γ)=HX D (gat D γ')
 rw [this]
theorem w_drawXg {id:Nat} (V:Nat→Option (Gh→Value)) (HX:Done→(Nat→Gh)→List Blk) (hm:P.follows .mixedOrders=true) (hB:Region.lexB .any l.toArray=true) (h0: ∀ γ,MSub (HX (fun _=>false) (gat (fun _=>false) γ)) H)
  (h: ∀ γ,WX P n w0 l V (fun D γ=>HX D (gat D γ)) γ (fun s' => ∀ D:Done,(∀ i,i<l.length→D i=true)→Q .normal s' (HX D (gat D γ))) l 0 s):W P n w0 (.region id l.toArray true) Q s H:=
 w_drawX V _ hm hB (localX_gat HX) h0 h
theorem Turn.early {o:Oper} {D:Done} (ht:Turn l k o D) {i f:Nat} (h:(waits o).any (fun j=>reaches l f j i)=true):D i=true:=by
 obtain ⟨j,hj,hr⟩:=List.any_eq_true.1 h
 exact reaches_done ht.closed f j i hr (ht.before j hj)
variable {gu:Option (Nat × Bool)}
theorem wx_v {op:Op} {d:Nat} {v:Value} (hn:Nat.blt d n.sz=true) (hg:gok l s gu=some true) (hV:V k=none) (hv: ∀ D,Turn l k ⟨some d,op,ty,p,af,gu⟩ D→VOp P w0 s (HL D γ) op ty v) (hk: ∀ D,HL (put D k) γ=HL D γ) (h:WX P n w0 l V HL γ K rest (k+1) ((d,v)::s)):
  WX P n w0 l V HL γ K (⟨some d,op,ty,p,af,gu⟩::rest) k s:=by
 intro a hs hl
 obtain ⟨h0,hl'⟩:=wx_head hl
 refine ⟨v,.det (gok_wanted rfl hg hs) hV fun L w hr hc=> ?_,h _ (hs.put (Nat.blt_eq ▸ hn) v) hl'⟩
 obtain ⟨ht,hd,hnext⟩:=turn_of h0 hr hc
 have h1:=hv _ ht a.eval w (some d) p af gu hs.eval hc.2.2
 rw [h1]
 exact ⟨rfl,hnext w (by rw [hk];exact hc.2.2)⟩
theorem wx_callp {d:Nat} {f:FuncId} {xs:List Operand} {vs:List Value} {v:Value} {ts:Array TypeId} [Callable P f] (hn:Nat.blt d n.sz=true) (hg:gok l s gu=some true) (hV:V k=none) (hin:P.inits.idxOf? f=none) (hx:evs s xs=some vs)
  (hF: ∀ D,Turn l k ⟨some d,.call { callee:= .value (.func f),args:=xs.toArray,argTypes:=ts },ty,p,af,gu⟩ D→ ∀ w,Mem w0 w (HL D γ)→Pure P f vs w v) (hk: ∀ D,HL (put D k) γ=HL D γ) (h:WX P n w0 l V HL γ K rest (k+1) ((d,v)::s)):
  WX P n w0 l V HL γ K (⟨some d,.call { callee:= .value (.func f),args:=xs.toArray,argTypes:=ts },ty,p,af,gu⟩::rest) k s:=by
 intro a hs hl
 obtain ⟨h0,hl'⟩:=wx_head hl
 refine ⟨v,.det (gok_wanted rfl hg hs) hV fun L w hr hc=> ?_,h _ (hs.put (Nat.blt_eq ▸ hn) v) hl'⟩
 obtain ⟨ht,hd,hnext⟩:=turn_of h0 hr hc
 have hrun:=run_call (P:=P) (w:=w) (ρ:=a.eval) (d:=some d) (ty:=ty) (p:=p) (af:=af) (g:=gu) (f:=f) (c:= .func f) (xs:=xs) (caps:= []) (ts:=ts) rfl (evs_map hs hx)
 rw [List.append_nil] at hrun
 rw [hrun]
 refine ⟨hin,Calls.mono (hF _ ht w hc.2.2) ?_⟩
 rintro e w' ⟨u,H',rfl,hm',rfl⟩
 exact ⟨rfl,hnext w' (by rw [hk];exact (hc.2.2.call hm').right)⟩
theorem nonUp_of_wl {op:Op} {d:Nat} {φ:Gh→Value} {a:Act} {w:World} {H' :List Blk} {B:Gh→List Blk} (hdn:d<n.sz) (hs:St n s a) (hm:Mem w0 w H')
  (h:WL P n w0 #[] [⟨some d,op,ty,p,af,none⟩] (fun e s' H' =>e= .normal∧ ∃ g,look s' d=some (φ g)∧MSub (B g) H') s H'):NonUp P φ (fun g w' =>Mem w0 w' (B g)) ((execOp a.eval ⟨some d,op,ty,p,af,gu⟩).run P w):=by
 have h1:=h a w hs hm
 unfold wpList at h1
 simp only [Region.wanted,if_true] at h1
 refine h1.elim (fun h1=> ?_) (fun ⟨_,a0,w1,s',H'',_,_,he,_⟩=>by cases he)
 have hsz:d<a.tmps.size:=by rw [hs.size];exact hdn
 have nxt: ∀ (v:Value) (w' :World) (a' :Act),a'.tmps[d]? =some v→wpList P #[] (post n w0 fun e s' H' =>e= .normal∧ ∃ g,look s' d=some (φ g)∧MSub (B g) H') [] a' w' → ∃ g,v=φ g∧Mem w0 w' (B g):=by
  rintro v w' a' ha' ⟨s',H'',hs',hm',_,g,hg,hsub⟩
  have:=hs'.has d _ hg
  rw [ha'] at this
  exact ⟨g,Option.some.inj this,hsub.use hm'⟩
 have hput: ∀ (a' :Act) (v:Value),a'.tmps.size=a.tmps.size→(a'.put (some d) v).tmps[d]? =some v:=fun a' v h=>by simp [Act.put,h,hsz]
 have hexec:execOp a.eval ⟨some d,op,ty,p,af,gu⟩=execOp a.eval ⟨some d,op,ty,p,af,none⟩:=rfl
 rw [hexec]
 unfold Oper.wp at h1
 generalize (execOp a.eval ⟨some d,op,ty,p,af,none⟩).run P w=r at h1 ⊢
 cases r with
 |ok x w' =>
  cases x<;>simp only [Oper.upon] at h1<;>simp only [NonUp]
  case value u=>exact nxt u w' _ (hput a u rfl) h1
  case skip=>exact nxt undef w' _ (hput a undef rfl) h1
  case defer dd=>
   obtain ⟨s',H'',hs',_⟩:=h1
   have h2:=congrArg List.length (hs'.defers.trans hs.defers.symm)
   simp [Act.put] at h2
  case enter k args=>
   refine h1.mono fun e w'' he=> ?_
   cases e with
   |returned v=>
    obtain ⟨g,hv,hg⟩:=nxt v w'' _ (hput a v rfl) he
    exact ⟨g,by rw [hv],hg⟩
   |panicked c=>
    obtain ⟨s',H'',_,_,he',_⟩:=he
    cases he'
   |outgrown=>
    obtain ⟨a0,w1,s',H'',_,_,he',_⟩:=he
    cases he'
  case row k args=>exact Rows.mono h1 fun u w'' he=>nxt u w'' _ (hput a u rfl) he
 |halt x w' =>
  cases x<;>simp only [Oper.upon] at h1
  all_goals
   obtain ⟨s',H'',_,_,he',_⟩:=h1
   cases he'
theorem wx_non {op:Op} {d:Nat} {φ:Gh→Value} (hn:Nat.blt d n.sz=true) (hg:gok l s gu=some true) (hV:V k=some φ)
  (h: ∀ D,Turn l k ⟨some d,op,ty,p,af,gu⟩ D→WL P n w0 #[] [⟨some d,op,ty,p,af,none⟩] (fun e s' H' =>e= .normal∧ ∃ g,look s' d=some (φ g)∧MSub (HL (put D k) (upd γ k g)) H') s (HL D γ))
  (h' :WX P n w0 l V HL γ K rest (k+1) ((d,φ (γ k))::s)):WX P n w0 l V HL γ K (⟨some d,op,ty,p,af,gu⟩::rest) k s:=by
 intro a hs hl
 obtain ⟨h0,hl'⟩:=wx_head hl
 refine ⟨φ (γ k),.non (gok_wanted rfl hg hs) φ hV rfl fun L w hr hc=> ?_,h' _ (hs.put (Nat.blt_eq ▸ hn) _) hl'⟩
 obtain ⟨ht,hd,hnext⟩:=turn_of h0 hr hc
 have h1:=nonUp_of_wl (gu:=gu) (Nat.blt_eq ▸ hn) hs hc.2.2 (h _ ht)
 have hm2: ∀ g w',Mem w0 w' (HL (put (done L) k) (upd γ k g))→ClsX w0 l HL (upd γ k g) (L.setIfInBounds k true) w' :=fun g w' hm' =>by
  obtain ⟨hsz,hcl,_⟩:=hc
  have hlt:k<L.size:=by rw [hsz];exact (List.getElem?_eq_some_iff.1 h0).1
  have hcl' : ∀ i x,l[i]? =some x→done (L.setIfInBounds k true) i=true→ ∀ e∈x.after,Region.binds .any e=true→done (L.setIfInBounds k true) e.on=true:=by
   intro i x hx hi e he hb
   rw [hd] at hi ⊢
   by_cases hik:i=k
   ·
    subst hik
    rw [h0] at hx
    injection hx with hx
    have h2:=ht.before e.on (waits_mem.2 ⟨e,by rw [hx];exact he,hb,rfl⟩)
    unfold put
    split
    ·
     rfl
    ·
     exact h2
   ·
    have hi' :done L i=true:=by unfold put at hi;rwa [if_neg hik] at hi
    have:=hcl i x hx hi' e he hb
    unfold put
    split
    ·
     rfl
    ·
     exact this
  exact ⟨by simpa using hsz,hcl',by rw [hd];exact hm'⟩
 generalize (execOp a.eval ⟨some d,op,ty,p,af,gu⟩).run P w=r at h1 ⊢
 cases r with
 |ok x w' =>
  cases x<;>simp only [NonUp] at h1 ⊢
  case value u=>obtain ⟨g,hv,hg⟩:=h1;exact ⟨g,hv,hm2 g w' hg⟩
  case skip=>obtain ⟨g,hv,hg⟩:=h1;exact ⟨g,hv,hm2 g w' hg⟩
  case enter k args=>exact h1.mono fun e w'' ⟨g,hv,hg⟩=>⟨g,hv,hm2 g w'' hg⟩
  case row k args=>exact Rows.mono h1 fun u w'' ⟨g,hv,hg⟩=>⟨g,hv,hm2 g w'' hg⟩
 |halt x w' =>simp only [NonUp] at h1
theorem wx_heap {op:Op} (hg:gok l s gu=some true) (hV:V k=none) (hv: ∀ D,Turn l k ⟨none,op,ty,p,af,gu⟩ D→ ∀ a w,St n s a→Mem w0 w (HL D γ)→ ∃ w',(execOp a.eval ⟨none,op,ty,p,af,gu⟩).run P w= .ok .skip w' ∧Mem w0 w' (HL (put D k) γ)) (h:WX P n w0 l V HL γ K rest (k+1) s):
  WX P n w0 l V HL γ K (⟨none,op,ty,p,af,gu⟩::rest) k s:=by
 intro a hs hl
 obtain ⟨h0,hl'⟩:=wx_head hl
 refine ⟨undef,.det (gok_wanted rfl hg hs) hV fun L w hr hc=> ?_,h _ (hs.put_none _) hl'⟩
 obtain ⟨ht,hd,hnext⟩:=turn_of h0 hr hc
 obtain ⟨w',hr',hm'⟩:=hv _ ht a w hs hc.2.2
 rw [hr']
 exact ⟨rfl,hnext w' hm'⟩
theorem wx_put {t T g off m:Nat} {x a:Operand} {v:Value} {vs:List Value} [Size P t m] (hg:gok l s gu=some true) (hV:V k=none) (ha:ev s a=some (.pointer (some ⟨g,off,none⟩))) (hx:ev s x=some v) (hv:v.cells=vs.toArray) (hl:vs.length=m) (h1:vs.all Value.oneCell' =true)
  (hnew: ∀ D,Turn l k ⟨none,.store t a x,ty,p,af,gu⟩ D→ ∃ xs R,Sel (.box g T xs) (HL D γ) R∧off+m≤xs.length∧MSub (HL (put D k) γ) (.box g T (xs.take off++vs++xs.drop (off+m))::R)) (h:WX P n w0 l V HL γ K rest (k+1) s):
  WX P n w0 l V HL γ K (⟨none,.store t a x,ty,p,af,gu⟩::rest) k s:=by
 refine wx_heap hg hV (fun D ht a' w hs hm=> ?_) h
 obtain ⟨xs,R,hsel,hfit,hsub⟩:=hnew D ht
 have hm' :=hm.sel hsel
 have hb:=(hm'.on _ List.mem_cons_self).1
 simp only [Blk.on] at hb
 have h1' : ∀ u∈vs,u.oneCell' =true:=by simpa using h1
 have hr:=run_storeVar (P:=P) (t:=t) (off:=off) hv hl h1' hb (by simpa using hfit)
 simp only at hr
 refine ⟨_,?_,hsub.use (hm'.upd (setRow_grown _ _ _) (b' := .box g T (xs.take off++vs++xs.drop (off+m))) (setRow_heap _ _ _ _ _ _ hb) fun k hk=> .inl hk)⟩
 simp [execOp,hs.eval a _ ha,hs.eval x _ hx,Instr.storeAt,Instr.sureAddr,hr]
end
section
variable {P:Program} {n:Fr} {w0:World} {Q:Post} {s:Slots} {H:List Blk} {ops:Array Oper} {l:List Oper}
theorem w_subH {c:Code} (H' :List Blk) (hs:MSub H' H) (h:W P n w0 c Q s H'):W P n w0 c Q s H:=fun a w h1 h2=>h a w h1 (hs.use h2)
end
end Go.SL
namespace Go.SL
open Go Go.Proofs
attribute [local irreducible] W WL WQ WG WA WX WLI WR WT WC VOp RW thn blk cutP scp retP retPP endB FnAt FnIn FnP ceP
theorem Pu.valid (p:Pu):p.ref.valid=true:=by
 have:=p.range
 exact valid_iff.2 (by omega)
end Go.SL
namespace Go.SL
open Go Go.Proofs Go.ChangeShapes Go.WideShapes Go.ChangeAt Go.RowKit Go.Deep
section
variable {H:Type} {enc:TypeId × Value→H} {P:Program} {w:World} {base:Nat} {spare:Nat→Bool} {held:Bool}
end
section
variable {H:Type} {enc:TypeId × Value→H} {w:World} {base:Nat} {spare:Nat→Bool} {held:Bool}
set_option maxRecDepth 100000 in
theorem open_put {v:Value} {d:DataW H} {p:List MemPlace} (hv:Value.okWide Tryz.prog w .any base 73 v) (h:DataW.Trod enc Tryz.prog w 0 spare held 73 v d p): ∃ r:Pu,v= .agg (encPu r).toArray∧okPu r:=by
 obtain ⟨fuel,hf⟩:=h
 obtain ⟨cs,rfl,_⟩:=okWide_struct Tryz.underlying73 hv
 obtain ⟨r,e,hr⟩:=trod_put hf
 exact ⟨r,by rw [← e];simp [Value.cells],hr⟩
end
end Go.SL
namespace Go.SL
open Go
section
variable {G:Gr} {b:Rf}
theorem Wy.pos {n:Nat} {c:Rf} (h:Wy G b n c):0<n:=by cases h<;>omega
theorem farF_key {c:Rf} (h:disF G b c≠0):c∈keysG G:=(farF_wy.1 h).choose_spec.key
end
section
variable {G:Gr} {b:Rf}
theorem wayF_step {n:Nat} {c d:Rf} (hn:n≠0) (h:nxtF G b n c=some d):wayF G b (n+1) c=c::wayF G b n d:=by
 rw [wayF,tailF,if_neg hn,h]
 rfl
structure WayOk (G:Gr) (b:Rf) (n:Nat) (p:List Rf):Prop where
 len:p.length=n+1
 far: ∀ i x,i<n→p[i]? =some x→disF G b x=n - i
 use: ∀ i x y,p[i]? =some x→p[i+1]? =some y→x∈keysG G∧touchesU (usesG G x) (oneA y.col y.row)=true
theorem way_ok: ∀ n c,disF G b c=n→n≠0→WayOk G b n (wayF G b n c)∧(wayF G b n c)[n]? =some b:=fun n=>by
 induction n with
 |zero=>intro c _ h;exact absurd rfl h
 |succ n ih=>
  intro c hc _
  by_cases hn:n=0
  ·
   subst hn
   have hw:=farF_way (G:=G) (b:=b) (c:=c) (by omega)
   rw [hc] at hw
   rw [wayF_one]
   refine ⟨⟨rfl,fun i x hi hx=> ?_,fun i x y hx hy=> ?_⟩,rfl⟩
   ·
    have:i=0:=by omega
    subst this
    cases hx
    exact hc
   ·
    match i,hx,hy with
    |0,hx,hy=>
     cases hx;cases hy
     cases hw with
     |one h1 h2=>exact ⟨h1,h2⟩
     |more _ _ _ k=>exact absurd k.pos (by omega)
    |i+1,hx,hy=>simp at hy
  ·
   obtain ⟨d,h1,h2,h3,h4⟩:=stepF_some hc hn
   rw [wayF_step hn h1]
   obtain ⟨⟨i1,i2,i3⟩,i4⟩:=ih d h3 hn
   refine ⟨⟨by rw [List.length_cons,i1],fun i x hi hx=> ?_,fun i x y hx hy=> ?_⟩,by rw [List.getElem?_cons_succ];exact i4⟩
   ·
    match i,hx with
    |0,hx=>cases hx;rw [hc];rfl
    |i+1,hx=>
     rw [List.getElem?_cons_succ] at hx
     rw [i2 i x (by omega) hx];omega
   ·
    match i,hx,hy with
    |0,hx,hy=>
     cases hx
     rw [List.getElem?_cons_succ,wayF] at hy
     cases hy
     exact ⟨farF_key (b:=b) (by omega),h4⟩
    |i+1,hx,hy=>
     rw [List.getElem?_cons_succ] at hx hy
     exact i3 i x y hx hy
theorem WayOk.once {n:Nat} {p:List Rf} (h:WayOk G b n p) {i j:Nat} {x:Rf} (hi:i<n) (hj:j<i) (hx:p[i]? =some x):p[j]? ≠some x:=fun e=>by
 have h1:=h.far i x hi hx
 have h2:=h.far j x (by omega) e
 omega
theorem WayOk.notb {n:Nat} {p:List Rf} (h:WayOk G b n p) {i:Nat} (hi:i+1<n):p[i+1]? ≠some b:=fun e=>by
 have hl:=h.len
 have hx:p[i]? =some p[i]:=List.getElem?_eq_getElem (by omega)
 have h1:=h.far i _ (by omega) hx
 have h2:=h.use i _ _ hx e
 have:=farF_least (Wy.one h2.1 h2.2)
 omega
end
open Classical in
open Classical in
open Classical in
section
variable {G:Gr} (hG:GrOk G)
include hG
theorem near_one {b c:Rf} (hb:b.valid=true):c∈usersG G (oneA b.col b.row)↔Wy G b 1 c:=by
 rw [users_iff hG hb]
 constructor
 ·
  rintro ⟨h1,h2⟩;exact .one h1 h2
 ·
  intro h
  cases h with
  |one h1 h2=>exact ⟨h1,h2⟩
  |more _ _ _ k=>exact absurd k.pos (by omega)
theorem near_more {b:Rf} {n:Nat} (hn:n≠0) {M:List Rf} (hM: ∀ c,c∈M↔Wy G b n c) (c:Rf):c∈M.flatMap (fun d=>usersG G (oneA d.col d.row))↔Wy G b (n+1) c:=by
 rw [List.mem_flatMap]
 constructor
 ·
  rintro ⟨d,hd,hc⟩
  have hw:=(hM d).1 hd
  obtain ⟨h1,h2⟩:=(users_iff hG (key_valid hG hw.key)).1 hc
  exact .more h1 hw.key h2 hw
 ·
  intro h
  generalize hm:n+1=m at h
  cases h with
  |one=>omega
  | @more _ d k h1 h2 h3 h4=>
   have:k=n:=by omega
   subst this
   exact ⟨d,(hM d).2 h4,(users_iff hG (key_valid hG h2)).2 ⟨h1,h3⟩⟩
end
section
open Classical in
theorem far_reach {G:Gr} {a b:Rf}:decide (disF G b a≠0)=reachF G a b:=by
 unfold reachF
 rw [Bool.eq_iff_iff,decide_eq_true_eq,decide_eq_true_eq,farF_rc]
end
end Go.SL
namespace Go.SL
open Go Go.Proofs Go.Sort Go.Shelf
attribute [local irreducible] W WL WQ WG WA WX WLI WR WT WC WE VOp RW thn blk cutP scp retP retPP endB FnAt FnIn FnP ceP
set_option maxHeartbeats 1000000 in
theorem few_in (L : List Rf) (A : Option Nat) (cap : Nat) (hL : L.length ≤ 1000000) (R : List Blk) (w0 : World) :
    FnIn Tryz.prog 57 [sl A L.length cap] w0 (.own A 38 2 L.length cap (L.flatMap encF) :: R) fun v H => ∃ (M : List Rf) (A' : Option Nat) (c' : Nat), M.Nodup ∧ (∀ x, x ∈ M ↔ x ∈ L) ∧ v = sl A' M.length c' ∧ H = .own A' 38 2 M.length c' (M.flatMap encF) :: .own A 38 2 L.length cap (L.flatMap encF) :: R := by
  refine fn_in Tryz.func57 rfl Tryz.ntmps57 rfl ?_
  refine w_nilrow 38 2 ?_
  repeat' (first | refine sT ?_ | refine sS ?_ | refine sM fun _ => ?_ | (refine sC ?_ ?_ <;> intro hb <;> try omega) | fail)
  refine w_loopK [0] rfl (fun y : Nat × List Rf × Option Nat × Nat => [(3, sl y.2.2.1 y.2.1.length y.2.2.2), (4, .int .i64 (y.1 : Int))]) (fun y => .own y.2.2.1 38 2 y.2.1.length y.2.2.2 (y.2.1.flatMap encF) :: .own A 38 2 L.length cap (L.flatMap encF) :: R) (fun y => y.1 ≤ L.length ∧ y.2.1.length ≤ y.1 ∧ y.2.1.Nodup ∧ ∀ x, x ∈ y.2.1 ↔ x ∈ L.take y.1) (fun y => L.length - y.1) (0, [], none, 0) ⟨Nat.zero_le _, Nat.zero_le _, List.nodup_nil, fun x => by simp⟩ sB mS ?_
  rintro ⟨i, M, A', c'⟩ ⟨hi, hMl, hMn, hMm⟩
  dsimp only at hi hMl hMn hMm ⊢
  by_cases hlt : i < L.length
  · refine w_some (A := A) pK (by omega) fun gk hA => ?_
    subst hA
    have hread := refF hlt
    have htk : ∀ x, x ∈ L.take (i + 1) ↔ x ∈ M ∨ x = L[i] := fun x => by
      rw [List.take_succ_eq_append_getElem hlt, List.mem_append, List.mem_singleton, hMm]
    generalize L[i] = a at hread htk
    by_cases haM : a ∈ M
    · have hhas := fun lv w hl => has23_at M a lv w hl
      rw [decide_eq_true haM] at hhas
      repeat' (first | ((with_reducible apply wl_v); exact rfl; (with_reducible apply v_indexAddr (j := i)); exact rfl; exact rfl; exact hlt) | ((with_reducible apply wl_v); exact rfl; (with_reducible apply v_loads_own); exact rfl; exact pK; exact hread; exact rfl) | ((with_reducible apply wl_callp (f := 56)); exact rfl; exact rfl; (intro w' hm; exact hhas _ w' (Reads.of_own hm pK))) | refine sT ?_ | refine sS ?_ | refine sN ?_ | refine sM fun _ => ?_ | (refine sC ?_ ?_ <;> intro hb <;> try omega) | fail)
      all_goals first
        | (exfalso; omega)
        | (refine ⟨(i + 1, M, A', c'), ⟨hlt, by dsimp only; omega, hMn, fun x => ?_⟩, by dsimp only; omega, by exact sB, by exact sB, by exact mS⟩
           rw [htk]
           exact ⟨.inl, fun h => h.elim id fun e => e ▸ haM⟩)
        | trace_state
    · have hhas := fun lv w hl => has23_at M a lv w hl
      rw [decide_eq_false haM] at hhas
      repeat' (first | ((with_reducible apply wl_v); exact rfl; (with_reducible apply v_indexAddr (j := i)); exact rfl; exact rfl; exact hlt) | ((with_reducible apply wl_v); exact rfl; (with_reducible apply v_loads_own); exact rfl; exact pK; exact hread; exact rfl) | ((with_reducible apply wl_callp (f := 56)); exact rfl; exact rfl; (intro w' hm; exact hhas _ w' (Reads.of_own hm pK))) | ((with_reducible apply wl_append); (iterate 3 exact rfl); (repeat first | exact .hd | apply Sel.tl | apply In.tl); (intro w hm; exact hm.cells_own (by (repeat first | exact .hd | apply Sel.tl | apply In.tl))); exact rfl; (simp [Value.oneCell', sl]); omega; (simp only [maxLen]; omega); (intro A2 cap2 hA2)) | refine sT ?_ | refine sS ?_ | refine sN ?_ | refine sM fun _ => ?_ | (refine sC ?_ ?_ <;> intro hb <;> try omega) | fail)
      all_goals first
        | (exfalso; omega)
        | (refine ⟨(i + 1, M ++ [a], A2, cap2), ⟨hlt, by dsimp only; rw [List.length_append, List.length_singleton]; omega, List.nodup_append.2 ⟨hMn, by simp, fun x hx y hy e => haM (by rw [← List.mem_singleton.1 hy, ← e]; exact hx)⟩, fun x => ?_⟩, by dsimp only; omega, ?_, ?_, ?_⟩
           · rw [htk, List.mem_append, List.mem_singleton]
           · dsimp only; rw [List.length_append]; exact sB
           · exact sB
           · dsimp only; rw [List.length_append, List.flatMap_append, List.flatMap_cons, List.flatMap_nil, List.append_nil]; exact mS)
        | trace_state
  · have hi2 : i = L.length := by omega
    subst hi2
    rw [List.take_length] at hMm
    repeat' (first | refine sT ?_ | refine sS ?_ | refine sN ?_ | refine sM fun _ => ?_ | (refine sC ?_ ?_ <;> intro hb <;> try omega) | fail)
    all_goals first
      | (exfalso; omega)
      | (exact ret1 eIO rfl rfl mS ⟨M, A', c', hMn, hMm, rfl, rfl⟩)
      | trace_state
end Go.SL
namespace Go.SL
open Go Go.Proofs
attribute [local irreducible] W WL WQ WG WA WX WLI WR WT WC WE VOp RW thn blk cutP scp retP retPP endB FnAt FnIn FnP ceP
theorem has23_to {M:List Rf} {a:Rf} {y:Bool} (h:decide (a∈M)=y) {lv:Value} {w:World} (hl:Reads w lv M.length (M.flatMap encF)):Pure Tryz.prog 56 [lv,.agg (encF a).toArray] w (.bool y):=by
 have:=has23_at M a lv w hl
 rwa [h] at this
theorem ck_two {a b:Rf} (ha:a.valid=true) (hb:b.valid=true):checkR [a,b] []=0:=by
 unfold checkR
 rw [if_pos]
 simp [ha,hb]
theorem reads_pre {w0 w:World} {H:List Blk} {A:Option Nat} {t c i:Nat} {P:List Rf} (hm:Mem w0 w H) (hi:In (.own A t 2 P.length c (P.flatMap encF)) H) (h:i≤P.length):Reads w (sl A i c) (P.take i).length ((P.take i).flatMap encF):=by
 have h1:=Reads.of_own_take (k:=i) hm hi h
 rw [flat_take encF_len] at h1
 rw [List.length_take,Nat.min_eq_left h]
 exact h1
def moreF (G:Gr) (M:List Rf) (i:Nat):List Rf:=(M.take i).flatMap fun d=>usersG G (oneA d.col d.row)
theorem moreF_succ {G:Gr} {M:List Rf} {i:Nat} (h:i<M.length):moreF G M (i+1)=moreF G M i++usersG G (oneA M[i].col M[i].row):=by
 unfold moreF
 rw [List.take_succ_eq_append_getElem h,List.flatMap_append]
 simp
theorem moreF_len {G:Gr} {M:List Rf}: ∀ i,(moreF G M i).length≤i*G.length
 |0=>by simp [moreF]
 |i+1=>by
  have ih:=moreF_len (G:=G) (M:=M) i
  by_cases h:i<M.length
  ·
   have:=users_len (G:=G) (r:=oneA M[i].col M[i].row)
   rw [moreF_succ h,List.length_append,Nat.add_mul,Nat.one_mul]
   omega
  ·
   unfold moreF at ih ⊢
   rw [List.take_of_length_le (by omega)] at ih ⊢
   rw [Nat.add_mul];omega
theorem encFs_one (L:List Rf): ∀ u∈L.flatMap encF,u.oneCell' =true:=fun u hu=>by
 obtain ⟨a,_,h⟩:=List.mem_flatMap.1 hu
 simp [encF] at h
 rcases h with rfl|rfl<;>rfl
theorem v_lss_no {P:Program} {w0:World} {s:Slots} {H:List Blk} {ty t t' :TypeId} {x y:Operand} {a b:Nat} (h: ¬ a<b) (hx:ev s x=some (.int .i64 (a:Nat))) (hy:ev s y=some (.int .i64 (b:Nat))):VOp P w0 s H (.binOp .lss t x y t') ty (.bool false):=by
 have h1:=v_lss (P:=P) (w0:=w0) (H:=H) (ty:=ty) (t:=t) (t' :=t') hx hy
 rwa [decide_eq_false (show ¬ ((a:Nat):Int)<((b:Nat):Int) by omega)] at h1
theorem v_lss_yes {P:Program} {w0:World} {s:Slots} {H:List Blk} {ty t t' :TypeId} {x y:Operand} {a b:Nat} (h:a<b) (hx:ev s x=some (.int .i64 (a:Nat))) (hy:ev s y=some (.int .i64 (b:Nat))):VOp P w0 s H (.binOp .lss t x y t') ty (.bool true):=by
 have h1:=v_lss (P:=P) (w0:=w0) (H:=H) (ty:=ty) (t:=t) (t' :=t') hx hy
 rwa [decide_eq_true (show ((a:Nat):Int)<((b:Nat):Int) by omega)] at h1
theorem two_first (c a b:Blk) (X:List Blk):MSub (a::b::c::X) (c::(X++ [a,b])):=by
 have h:(c::(X++ [a,b])).Perm (a::b::c::X):=
  ((List.perm_append_comm (l₁:=X) (l₂:= [a,b])).cons c).trans ((List.Perm.swap a c (b::X)).trans ((List.Perm.swap b c X).cons a))
 first|exact MSub.of_perm h|exact MSub.of_perm h.symm
set_option maxHeartbeats 8000000 in
theorem ReachWays_at (L : List Pu) (p q : Pu) (tv : Value) (w : World) (ht : Reads w tv L.length (L.flatMap encPu)) (hW : Words w) :
    Pure Tryz.prog 12 [tv, .agg (encPu p).toArray, .agg (encPu q).toArray] w (.bool true) := by
  have ht' := ht
  obtain ⟨At, ct, rfl, ht1, ht2, ht3⟩ := ht
  refine fn_at Tryz.func12 rfl Tryz.ntmps12 rfl ?_
  have hcut := ht'.cut (lo := 0) (hi := min L.length 25) (sz := 3) (by omega) (by omega)
  generalize hm : min L.length 25 = m at hcut
  have hm2 : m ≤ 25 := by omega
  have hmL : m ≤ L.length := by omega
  have hl1 : (L.take m).length = m := by simp; omega
  have hl2 : ((L.flatMap encPu).drop (0 * 3)).take ((m - 0) * 3) = (L.take m).flatMap encPu := by
    rw [Nat.zero_mul, List.drop_zero, Nat.sub_zero, flat_take encPu_len]
  rw [hl2, Nat.sub_zero] at hcut
  generalize L.take m = M at hl1 hcut
  subst hl1
  have hS := fun (w' : World) (H : List Blk) (hm : Mem w w' H) => StartP_at M _ w' (hcut.of_w0 hm) (hW.next hm)
  have hGl := startG_len M
  generalize startG M = G at hS hGl
  have hAp := fun w => puAt_at p w
  have hAq := fun w => puAt_at q w
  have hva := p.valid
  have hvb := q.valid
  generalize p.ref = a at hAp hva
  generalize q.ref = b at hAq hvb
  repeat' (first | ((with_reducible apply wl_v); exact rfl; (with_reducible apply v_minN (a := L.length) (b := 25)); exact rfl; exact rfl; exact hm) | ((with_reducible apply wl_v); exact rfl; (with_reducible apply v_slice (lo := 0) (hi := M.length)); exact rfl; exact rfl; exact ⟨_, rfl⟩; omega; omega) | ((with_reducible apply wl_call (f := 14)); exact rfl; exact rfl; (intro w' hm; exact hS w' _ hm); rintro _ _ ⟨x, rfl, rfl, hx⟩) | refine sT ?_ | refine sS ?_ | refine sJ ?_ | refine sM fun _ => ?_ | (refine sC ?_ ?_ <;> intro hb <;> try omega) | fail)
  rename_i g4 g5 g7
  refine w_subH _ (two_first _ _ _ _) ?_
  refine w_nilrow 0 0 ?_
  refine w_nilrow 0 0 ?_
  refine w_drawXg (id := 4) (fun | 4 => some fun g => .pointer (some ⟨g.2, 0, none⟩) | 5 => some fun g => .pointer (some ⟨g.2, 0, none⟩) | _ => none)
    (fun (D : Done) (q' : Nat → Gh) => (bif D 4 then Blk.box (q' 4).2 38 (bif D 6 then encF a else [.int .i64 0, .int .i64 0]) else nilB) :: (bif D 5 then Blk.box (q' 5).2 38 (bif D 7 then encF b else [.int .i64 0, .int .i64 0]) else nilB) :: .box g5 73 (encPu q) :: .box g4 73 (encPu p) :: .box g7 28 [x.pa, x.pb] :: x.H) ?_ ?_ ?_ ?_
  · kernel_rfl
  · kernel_rfl
  · intro γ
    exact mS
  intro γ
  repeat' (first | ((with_reducible apply wx_callp (f := 44)); (iterate 3 exact rfl); (decide +kernel); exact rfl; (intro D ht w hm; first | exact hAp w | exact hAq w); exact fun _ => rfl) | refine sT ?_ | refine sS ?_ | refine sX ?_ | refine sM fun _ => ?_ | (refine sC ?_ ?_ <;> intro hb <;> try omega) | (refine sCX ?_ ?_ <;> intro hb <;> try omega) | fail)
  refine wx_non rfl rfl rfl (fun D ht => ?_) ?_
  · have n4 : D 4 = false := ht.not
    have n6 : D 6 = false := ht.late (j := 6) (f := 60) (by decide +kernel)
    have n7 : D 7 = false := ht.late (j := 7) (f := 60) (by decide +kernel)
    cases n5 : D 5
    all_goals
      (simp only [gat, put, upd, Nat.reduceEqDiff, Nat.reduceAdd, reduceIte, n4, n5, n6, n7, cond_true, cond_false, List.nil_append, List.cons_append, Bool.and_true, Bool.and_false, Bool.true_and, Bool.false_and])
      (with_reducible apply wl_alloc); exact rfl; intro g
      refine wl_nil ⟨rfl, (none, g), rfl, ?_⟩
      (simp only [gat, put, upd, Nat.reduceEqDiff, Nat.reduceAdd, reduceIte, n4, n5, n6, n7, cond_true, cond_false, List.nil_append, List.cons_append, Bool.and_true, Bool.and_false, Bool.true_and, Bool.false_and])
      exact mS
  refine wx_non rfl rfl rfl (fun D ht => ?_) ?_
  · have n5 : D 5 = false := ht.not
    have n6 : D 6 = false := ht.late (j := 6) (f := 60) (by decide +kernel)
    have n7 : D 7 = false := ht.late (j := 7) (f := 60) (by decide +kernel)
    cases n4 : D 4
    all_goals
      (simp only [gat, put, upd, Nat.reduceEqDiff, Nat.reduceAdd, reduceIte, n4, n5, n6, n7, cond_true, cond_false, List.nil_append, List.cons_append, Bool.and_true, Bool.and_false, Bool.true_and, Bool.false_and])
      (with_reducible apply wl_alloc); exact rfl; intro g
      refine wl_nil ⟨rfl, (none, g), rfl, ?_⟩
      (simp only [gat, put, upd, Nat.reduceEqDiff, Nat.reduceAdd, reduceIte, n4, n5, n6, n7, cond_true, cond_false, List.nil_append, List.cons_append, Bool.and_true, Bool.and_false, Bool.true_and, Bool.false_and])
      exact mS
  refine wx_put (T := 38) (vs := encF a) rfl rfl rfl rfl rfl rfl rfl (fun D ht => ?_) ?_
  · have n6 : D 6 = false := ht.not
    have n4 : D 4 = true := ht.early (i := 4) (f := 60) (by decide +kernel)
    have n5 : D 5 = true := ht.early (i := 5) (f := 60) (by decide +kernel)
    have n7 : D 7 = false := ht.late (j := 7) (f := 60) (by decide +kernel)
    (simp only [gat, put, upd, Nat.reduceEqDiff, Nat.reduceAdd, reduceIte, n4, n5, n6, n7, cond_true, cond_false, List.nil_append, List.cons_append, Bool.and_true, Bool.and_false, Bool.true_and, Bool.false_and])
    refine ⟨_, _, .hd, ?_, ?_⟩
    · exact Nat.le_of_ble_eq_true rfl
    · exact mS
  refine wx_put (T := 38) (vs := encF b) rfl rfl rfl rfl rfl rfl rfl (fun D ht => ?_) ?_
  · have n7 : D 7 = false := ht.not
    have n4 : D 4 = true := ht.early (i := 4) (f := 60) (by decide +kernel)
    have n5 : D 5 = true := ht.early (i := 5) (f := 60) (by decide +kernel)
    have n6 : D 6 = true := ht.early (i := 6) (f := 60) (by decide +kernel)
    (simp only [gat, put, upd, Nat.reduceEqDiff, Nat.reduceAdd, reduceIte, n4, n5, n6, n7, cond_true, cond_false, List.nil_append, List.cons_append, Bool.and_true, Bool.and_false, Bool.true_and, Bool.false_and])
    refine ⟨_, _, .tl .hd, ?_, ?_⟩
    · exact Nat.le_of_ble_eq_true rfl
    · exact mS
  repeat' (first | refine sT ?_ | refine sS ?_ | refine sX ?_ | refine sM fun _ => ?_ | (refine sC ?_ ?_ <;> intro hb <;> try omega) | (refine sCX ?_ ?_ <;> intro hb <;> try omega) | fail)
  intro D hD
  have n4 := hD 4 (by decide)
  have n5 := hD 5 (by decide)
  have n6 := hD 6 (by decide)
  have n7 := hD 7 (by decide)
  (simp only [gat, put, upd, Nat.reduceEqDiff, Nat.reduceAdd, reduceIte, n4, n5, n6, n7, cond_true, cond_false, List.nil_append, List.cons_append, Bool.and_true, Bool.and_false, Bool.true_and, Bool.false_and])
  generalize (γ 4).2 = g9
  generalize (γ 5).2 = g10
  have hl' : G.length ≤ 900 := by omega
  have hg := hx.g
  have hrd := x.rdr hx hl' w
  have hU := fun (r : Rct) (H : List Blk) (hs : MSub x.H H) => x.users G hx hs w hl' r
  have hc2 := ck_two hva hvb
  obtain ⟨N, hN⟩ : ∃ N, disF G b a = N := ⟨_, rfl⟩
  have hNl := farF_le G b a
  rw [hN] at hNl
  have hP : pathR G a b = pathF G a b := by rw [pathR, if_pos hc2]
  have hPB : pathB G a b = decide (disF G b a ≠ 0) := by rw [pathB, decide_eq_true hc2, Bool.true_and]
  have hRR : reachesR G a b = decide (disF G b a ≠ 0) := by rw [reachesR, decide_eq_true hc2, Bool.true_and, far_reach]
  by_cases hN0 : N = 0
  · have e0 : disF G b a = 0 := hN.trans hN0
    have hP0 : pathR G a b = [] := by rw [hP, pathF, if_pos e0]
    have hPB0 : pathB G a b = false := by rw [hPB, decide_eq_false (fun h => h e0)]
    have hR0 : reachesR G a b = false := by rw [hRR, decide_eq_false (fun h => h e0)]
    repeat' (first | ((with_reducible apply wl_callin (f := 50)); exact rfl; exact rfl; exact hrd.path_to mS hP0 hPB0 hc2; rintro _ _ ⟨A11, c11, rfl, rfl⟩) | ((with_reducible apply wl_callin (f := 49)); exact rfl; exact rfl; exact hrd.reaches_to mS hR0 hc2; rintro _ _ ⟨rfl, rfl⟩) | ((with_reducible apply wl_callp (f := 53)); exact rfl; exact rfl; (intro w' hm; exact awake23_at w' (hW.next hm))) | refine sT ?_ | refine sS ?_ | refine sM fun _ => ?_ | (refine sC ?_ ?_ <;> intro hb <;> try omega) | fail)
    all_goals first
      | (exfalso; omega)
      | ((refine rT1 ?_); rfl)
      | trace_state
  have e1 : disF G b a ≠ 0 := fun e => hN0 (hN.symm.trans e)
  have hP1 : pathR G a b = wayF G b N a := by rw [hP, pathF, if_neg e1, hN]
  have hPB1 : pathB G a b = true := by rw [hPB, decide_eq_true e1]
  have hR1 : reachesR G a b = true := by rw [hRR, decide_eq_true e1]
  obtain ⟨hok, hlast⟩ := way_ok (G := G) (b := b) N a hN hN0
  have h0 : (wayF G b N a)[0]? = some a := rfl
  generalize wayF G b N a = P at hP1 hok hlast h0
  have hPl := hok.len
  have hr0 : ((P.flatMap encF).drop (0 + 0 * 2)).take 2 = encF a := by
    have h1 := refF (L := P) (k := 0) (by omega)
    rw [List.getElem?_eq_getElem (by omega)] at h0
    rw [h1, Option.some.inj h0]
  have hrN : ((P.flatMap encF).drop (0 + (P.length - 1) * 2)).take 2 = encF b := by
    have h1 := refF (L := P) (k := P.length - 1) (by omega)
    have h2 : P[P.length - 1]? = some b := by rw [show P.length - 1 = N by omega]; exact hlast
    rw [List.getElem?_eq_getElem (by omega)] at h2
    rw [h1, Option.some.inj h2]
  have hval : ∀ i (h : i < P.length), P[i].valid = true := fun i h => by
    by_cases hi : i < N
    · have h1 := hok.far i P[i] hi (List.getElem?_eq_getElem h)
      exact key_valid hg (farF_key (b := b) (by omega))
    · have h2 : P[i]? = some b := by rw [show i = N by omega]; exact hlast
      rw [List.getElem?_eq_getElem h] at h2
      rw [Option.some.inj h2]; exact hvb
  have hstep : ∀ i (h : i < P.length) (h1 : 1 ≤ i), P[i - 1]'(by omega) ∈ usersG G (oneA P[i].col P[i].row) := fun i h h1 => by
    refine (users_iff hg (hval i h)).2 (hok.use (i - 1) _ _ (List.getElem?_eq_getElem (by omega)) ?_)
    rw [show i - 1 + 1 = i by omega]
    exact List.getElem?_eq_getElem h
  have honce : ∀ i (h : i < P.length), i < N → decide (P[i] ∈ P.take i) = false := fun i h hi => by
    refine decide_eq_false fun hm => ?_
    obtain ⟨j, hj, he⟩ := List.getElem_of_mem hm
    rw [List.length_take] at hj
    rw [List.getElem_take] at he
    exact hok.once hi (show j < i by omega) (List.getElem?_eq_getElem h) (by rw [List.getElem?_eq_getElem (by omega), he])
  have hnotb : ∀ i (h : i < P.length), 1 ≤ i → i < N → decide (P[i] = b) = false := fun i h h1 hi => by
    refine decide_eq_false fun he => hok.notb (i := i - 1) (by omega) ?_
    rw [show i - 1 + 1 = i by omega, List.getElem?_eq_getElem h, he]
  repeat' (first | ((with_reducible apply wl_callin (f := 50)); exact rfl; exact rfl; exact hrd.path_to mS hP1 hPB1 hc2; rintro _ _ ⟨A11, c11, rfl, rfl⟩) | ((with_reducible apply wl_callin (f := 49)); exact rfl; exact rfl; exact hrd.reaches_to mS hR1 hc2; rintro _ _ ⟨rfl, rfl⟩) | refine sT ?_ | refine sS ?_ | refine sM fun _ => ?_ | (refine sC ?_ ?_ <;> intro hb <;> try omega) | fail)
  all_goals first | (exfalso; omega) | skip
  refine w_some (A := A11) pK (by omega) fun gP hA => ?_
  subst hA
  refine w_le (A := some gP) pK fun hle11 => ?_
  repeat' (first | ((with_reducible apply w_draw (id := 11)); kernel_rfl; kernel_rfl) | ((with_reducible apply wq_v (d := 77)); exact rfl; (with_reducible apply v_indexAddr (j := 0)); exact rfl; exact rfl; omega) | ((with_reducible apply wq_v (d := 78)); exact rfl; (with_reducible apply v_loads_own); exact rfl; exact pK; exact hr0; exact rfl) | ((with_reducible apply wq_v (d := 80)); exact rfl; (with_reducible apply v_neqF_to (a := a) (b := a) (c := false) (by simp)); exact rfl; exact rfl) | ((with_reducible apply wq_v (d := 86)); exact rfl; (with_reducible apply v_predN); exact rfl; exact rfl; omega; (simp only [maxLen]; omega)) | ((with_reducible apply wq_v (d := 87)); exact rfl; (with_reducible apply v_indexAddr (j := P.length - 1)); exact rfl; exact rfl; omega) | ((with_reducible apply wq_v (d := 88)); exact rfl; (with_reducible apply v_loads_own); exact rfl; exact pK; exact hrN; exact rfl) | ((with_reducible apply wq_v (d := 90)); exact rfl; (with_reducible apply v_neqF_to (a := b) (b := b) (c := false) (by simp)); exact rfl; exact rfl) | refine sT ?_ | refine sS ?_ | refine sQ ?_ | refine sN ?_ | refine sNQ ?_ | refine sD ?_ | refine sM fun _ => ?_ | (refine sC ?_ ?_ <;> intro hb <;> try omega) | (refine sCQ ?_ ?_ <;> intro hb <;> try omega) | fail)
  all_goals first | (exfalso; omega) | skip
  refine w_loopK [7, 9, 10, 11] rfl (fun i : Nat => [(16, .int .i64 (i : Int))]) (fun _ => .own (some gP) 38 2 P.length c11 (P.flatMap encF) :: .box g9 38 (encF a) :: .box g10 38 (encF b) :: .box g7 28 [x.pa, x.pb] :: x.H) (fun i => 1 ≤ i ∧ i ≤ P.length) (fun i => P.length - i) 1 ⟨Nat.le_refl _, by omega⟩ sB mS ?_
  rintro i ⟨hi1, hi⟩
  by_cases hlt : i < P.length
  · have hri := refF hlt
    have hrp := refF (L := P) (k := i - 1) (by omega)
    have hst := hstep i hlt hi1
    have hon := honce i hlt
    have hnb := hnotb i hlt hi1
    have hpre := fun w' H (hm : Mem w w' H) (hin : In (.own (some gP) 38 2 P.length c11 (P.flatMap encF)) H) => reads_pre (i := i) hm hin (by omega)
    generalize P[i] = y at hri hst hon hnb
    generalize P[i - 1]'(by omega) = z at hrp hst
    have hUy := hU (oneA y.col y.row)
    have hh1 := fun lv w hl => has23_to (decide_eq_true hst) (lv := lv) (w := w) hl
    generalize usersG G (oneA y.col y.row) = Uy at hUy hh1 hst
    clear hst
    repeat' (first | refine sT ?_ | refine sS ?_ | refine sN ?_ | refine sM fun _ => ?_ | (refine sC ?_ ?_ <;> intro hb <;> try omega) | fail)
    all_goals first | (exfalso; omega) | skip
    refine w_drawC (id := 16) [6, 7, 13, 29] [] [.own (some gP) 38 2 P.length c11 (P.flatMap encF), .box g10 38 (encF b), .box g7 28 [x.pa, x.pb]] (by kernel_rfl) (by kernel_rfl) (by kernel_rfl) mS ?_
    by_cases hiN : i < N
    · have hon' := hon hiN
      have hnb' := hnb hiN
      repeat' (first | ((with_reducible apply wc_v (d := 102)); (iterate 3 exact rfl); (with_reducible apply v_indexAddr (j := i)); exact rfl; exact rfl; exact hlt) | ((with_reducible apply wc_v (d := 103)); (iterate 3 exact rfl); (with_reducible apply v_loads_own); exact rfl; exact pK; exact hri; exact rfl) | ((with_reducible apply wc_v (d := 108)); (iterate 3 exact rfl); (with_reducible apply v_predN); exact rfl; exact rfl; omega; (simp only [maxLen]; omega)) | ((with_reducible apply wc_v (d := 109)); (iterate 3 exact rfl); (with_reducible apply v_indexAddr (j := i - 1)); exact rfl; exact rfl; omega) | ((with_reducible apply wc_v (d := 110)); (iterate 3 exact rfl); (with_reducible apply v_loads_own); exact rfl; exact pK; exact hrp; exact rfl) | ((with_reducible apply wc_v (d := 117)); (iterate 3 exact rfl); (with_reducible apply v_predN); exact rfl; exact rfl; omega; (simp only [maxLen]; omega)) | ((with_reducible apply wc_v (d := 118)); (iterate 3 exact rfl); (with_reducible apply v_lss_yes (a := i) (b := P.length - 1) (by omega)); exact rfl; exact rfl) | ((with_reducible apply wc_v (d := 122)); (iterate 3 exact rfl); (with_reducible apply v_sliceHi (hi := i)); exact rfl; exact rfl; omega) | ((with_reducible apply wc_v (d := 125)); (iterate 3 exact rfl); (with_reducible apply v_indexAddr (j := i)); exact rfl; exact rfl; exact hlt) | ((with_reducible apply wc_v (d := 126)); (iterate 3 exact rfl); (with_reducible apply v_loads_own); exact rfl; exact pK; exact hri; exact rfl) | ((with_reducible apply wc_v (d := 131)); (iterate 3 exact rfl); (with_reducible apply v_indexAddr (j := i)); exact rfl; exact rfl; exact hlt) | ((with_reducible apply wc_v (d := 132)); (iterate 3 exact rfl); (with_reducible apply v_loads_own); exact rfl; exact pK; exact hri; exact rfl) | ((with_reducible apply wc_v (d := 134)); (iterate 3 exact rfl); (with_reducible apply v_eqlF_to hnb'); exact rfl; exact rfl) | ((with_reducible apply wc_callp); (iterate 4 exact rfl); (intro w hm; exact One_at _ w)) | ((with_reducible apply wl_callin (f := 16)); exact rfl; exact rfl; exact hUy _ mS; rintro _ _ ⟨A21, c21, rfl, rfl⟩) | ((with_reducible apply wl_callp (f := 56) (d := 111)); exact rfl; exact rfl; (intro w' hm; exact hh1 _ w' (Reads.of_own hm .hd))) | ((with_reducible apply wl_callp (f := 56) (d := 127)); exact rfl; exact rfl; (intro w' hm; exact has23_to hon' (hpre w' _ hm pK))) | refine sT ?_ | refine sS ?_ | refine sW ?_ | refine sN ?_ | refine sWN ?_ | refine sM fun _ => ?_ | (refine sC ?_ ?_ <;> intro hb <;> try omega) | (refine sCW ?_ ?_ <;> intro hb <;> try omega) | fail)
      all_goals first
        | (exfalso; omega)
        | (refine ⟨i + 1, ⟨by omega, hlt⟩, by omega, by exact sB, by exact sB, by exact mS⟩; done)
        | trace_state
    · repeat' (first | ((with_reducible apply wc_v (d := 102)); (iterate 3 exact rfl); (with_reducible apply v_indexAddr (j := i)); exact rfl; exact rfl; exact hlt) | ((with_reducible apply wc_v (d := 103)); (iterate 3 exact rfl); (with_reducible apply v_loads_own); exact rfl; exact pK; exact hri; exact rfl) | ((with_reducible apply wc_v (d := 108)); (iterate 3 exact rfl); (with_reducible apply v_predN); exact rfl; exact rfl; omega; (simp only [maxLen]; omega)) | ((with_reducible apply wc_v (d := 109)); (iterate 3 exact rfl); (with_reducible apply v_indexAddr (j := i - 1)); exact rfl; exact rfl; omega) | ((with_reducible apply wc_v (d := 110)); (iterate 3 exact rfl); (with_reducible apply v_loads_own); exact rfl; exact pK; exact hrp; exact rfl) | ((with_reducible apply wc_v (d := 117)); (iterate 3 exact rfl); (with_reducible apply v_predN); exact rfl; exact rfl; omega; (simp only [maxLen]; omega)) | ((with_reducible apply wc_v (d := 118)); (iterate 3 exact rfl); (with_reducible apply v_lss_no (a := i) (b := P.length - 1) (by omega)); exact rfl; exact rfl) | ((with_reducible apply wc_callp); (iterate 4 exact rfl); (intro w hm; exact One_at _ w)) | ((with_reducible apply wl_callin (f := 16)); exact rfl; exact rfl; exact hUy _ mS; rintro _ _ ⟨A21, c21, rfl, rfl⟩) | ((with_reducible apply wl_callp (f := 56) (d := 111)); exact rfl; exact rfl; (intro w' hm; exact hh1 _ w' (Reads.of_own hm .hd))) | refine sT ?_ | refine sS ?_ | refine sW ?_ | refine sN ?_ | refine sWN ?_ | refine sM fun _ => ?_ | (refine sC ?_ ?_ <;> intro hb <;> try omega) | (refine sCW ?_ ?_ <;> intro hb <;> try omega) | fail)
      all_goals first
        | (exfalso; omega)
        | (refine ⟨i + 1, ⟨by omega, hlt⟩, by omega, by exact sB, by exact sB, by exact mS⟩; done)
        | trace_state
  · have hi2 : i = P.length := by omega
    subst hi2
    have hUb := hU (oneA b.col b.row)
    have hn1 := fun c => near_one hg hvb (c := c)
    have hul : (usersG G (oneA b.col b.row)).length ≤ G.length := users_len
    generalize usersG G (oneA b.col b.row) = U1 at hUb hn1 hul
    repeat' (first | refine sT ?_ | refine sS ?_ | refine sN ?_ | refine sM fun _ => ?_ | (refine sC ?_ ?_ <;> intro hb <;> try omega) | fail)
    all_goals first | (exfalso; omega) | skip
    refine w_drawC (id := 18) [3, 4] [] [.box g10 38 (encF b), .box g7 28 [x.pa, x.pb]] (by kernel_rfl) (by kernel_rfl) (by kernel_rfl) mS ?_
    repeat' (first | ((with_reducible apply wc_callp); (iterate 4 exact rfl); (intro w hm; exact One_at _ w)) | ((with_reducible apply wl_callin (f := 16)); exact rfl; exact rfl; exact hUb _ mS; rintro _ _ ⟨A17, c17, rfl, rfl⟩) | refine sT ?_ | refine sS ?_ | refine sW ?_ | refine sN ?_ | refine sWN ?_ | refine sM fun _ => ?_ | (refine sC ?_ ?_ <;> intro hb <;> try omega) | (refine sCW ?_ ?_ <;> intro hb <;> try omega) | fail)
    all_goals first | (exfalso; omega) | skip
    refine w_loopK [7, 9, 10, 11] rfl (fun v : Nat × List Rf × Option Nat × Nat => [(17, sl v.2.2.1 v.2.1.length v.2.2.2), (18, .int .i64 (v.1 : Int))]) (fun v => .own v.2.2.1 38 2 v.2.1.length v.2.2.2 (v.2.1.flatMap encF) :: .own (some gP) 38 2 P.length c11 (P.flatMap encF) :: .box g9 38 (encF a) :: .box g10 38 (encF b) :: .box g7 28 [x.pa, x.pb] :: x.H) (fun v => (1 ≤ v.1 ∧ v.1 ≤ N) ∧ (∀ c, c ∈ v.2.1 ↔ Wy G b v.1 c) ∧ v.2.1.length ≤ 40) (fun v => N - v.1) (1, U1, A17, c17) ⟨⟨Nat.le_refl _, by omega⟩, hn1, by dsimp only; omega⟩ sB mS ?_
    rintro ⟨n, Mx, A, cA⟩ ⟨⟨hn, hnN⟩, hMx, hMl⟩
    dsimp only at hn hnN hMx hMl ⊢
    by_cases hlN : n < N
    · have hno : decide (a ∈ Mx) = false := decide_eq_false fun h => by
        have := farF_least ((hMx a).1 h)
        omega
      repeat' (first | ((with_reducible apply wl_callp (f := 56)); exact rfl; exact rfl; (intro w' hm; exact has23_to hno (Reads.of_own hm .hd))) | refine sT ?_ | refine sS ?_ | refine sN ?_ | refine sM fun _ => ?_ | (refine sC ?_ ?_ <;> intro hb <;> try omega) | fail)
      all_goals first | (exfalso; omega) | skip
      have hmore := fun c => near_more hg (b := b) (n := n) (by omega) hMx c
      refine w_nilrow 38 2 ?_
      refine w_loopK [7, 9, 10, 11, 17, 18] rfl (fun v : Nat × Option Nat × Nat => [(19, sl v.2.1 (moreF G Mx v.1).length v.2.2), (20, .int .i64 (v.1 : Int))]) (fun v => .own v.2.1 38 2 (moreF G Mx v.1).length v.2.2 ((moreF G Mx v.1).flatMap encF) :: .own A 38 2 Mx.length cA (Mx.flatMap encF) :: .own (some gP) 38 2 P.length c11 (P.flatMap encF) :: .box g9 38 (encF a) :: .box g10 38 (encF b) :: .box g7 28 [x.pa, x.pb] :: x.H) (fun v => v.1 ≤ Mx.length) (fun v => Mx.length - v.1) (0, none, 0) (Nat.zero_le _) sB mS ?_
      rintro ⟨k, A19, c19⟩ hk
      dsimp only at hk ⊢
      have hml := moreF_len (G := G) (M := Mx) k
      have hml2 : (moreF G Mx k).length ≤ 1600 := Nat.le_trans hml (Nat.mul_le_mul (show k ≤ 40 by omega) hGl)
      by_cases hlk : k < Mx.length
      · refine w_some (A := A) pK (by omega) fun gA hA => ?_
        subst hA
        have hrk := refF hlk
        have hsu := moreF_succ (G := G) hlk
        generalize Mx[k] = d at hrk hsu
        have hUd := hU (oneA d.col d.row)
        have hul2 : (usersG G (oneA d.col d.row)).length ≤ G.length := users_len
        generalize usersG G (oneA d.col d.row) = Ud at hUd hsu hul2
        have hfl : (Ud.flatMap encF).length = Ud.length * 2 := flat_length' encF_len Ud
        generalize moreF G Mx k = mo at hml2 hsu
        repeat' (first | refine sT ?_ | refine sS ?_ | refine sN ?_ | refine sM fun _ => ?_ | (refine sC ?_ ?_ <;> intro hb <;> try omega) | fail)
        all_goals first | (exfalso; omega) | skip
        refine w_drawC (id := 28) [7, 8, 9] [] [.own (some gA) 38 2 Mx.length cA (Mx.flatMap encF), .box g7 28 [x.pa, x.pb]] (by kernel_rfl) (by kernel_rfl) (by kernel_rfl) mS ?_
        repeat' (first | ((with_reducible apply wc_v (d := 164)); (iterate 3 exact rfl); (with_reducible apply v_indexAddr (j := k)); exact rfl; exact rfl; exact hlk) | ((with_reducible apply wc_v (d := 165)); (iterate 3 exact rfl); (with_reducible apply v_loads_own); exact rfl; exact pK; exact hrk; exact rfl) | ((with_reducible apply wc_callp); (iterate 4 exact rfl); (intro w hm; exact One_at _ w)) | ((with_reducible apply wl_callin (f := 16)); exact rfl; exact rfl; exact hUd _ mS; rintro _ _ ⟨A21, c21, rfl, rfl⟩) | ((with_reducible apply wl_appendR (n' := mo.length) (A := A19) (m := Ud.length)); (iterate 3 exact rfl); exact pK; (intro w hm; exact Reads.of_own hm .hd); exact hfl; exact encFs_one Ud; omega; (simp only [maxLen]; omega); intro A' cap' hA) | refine sT ?_ | refine sS ?_ | refine sW ?_ | refine sN ?_ | refine sWN ?_ | refine sM fun _ => ?_ | (refine sC ?_ ?_ <;> intro hb <;> try omega) | (refine sCW ?_ ?_ <;> intro hb <;> try omega) | fail)
        all_goals first
          | (exfalso; omega)
          | (refine ⟨(k + 1, A', cap'), hlk, by dsimp only; omega, ?_, by exact sB, ?_⟩
             · dsimp only; rw [hsu, List.length_append]; exact sB
             · dsimp only; rw [hsu, List.length_append, List.flatMap_append]; exact mS)
          | trace_state
      · have hk2 : k = Mx.length := by omega
        subst hk2
        have hme : moreF G Mx Mx.length = Mx.flatMap fun d => usersG G (oneA d.col d.row) := by rw [moreF, List.take_length]
        rw [hme] at hml2 ⊢
        generalize (Mx.flatMap fun d => usersG G (oneA d.col d.row)) = mo at hml2 hmore ⊢
        have hfew := fun R => few_in mo A19 c19 (by omega) R w
        repeat' (first | ((with_reducible apply wl_callin (f := 57)); exact rfl; exact rfl; exact FnIn.msub (hfew _) (MSub.pick pK (MSub.refl _)); rintro _ _ ⟨M2, A2, c2, hM2n, hM2m, rfl, rfl⟩) | refine sT ?_ | refine sS ?_ | refine sN ?_ | refine sM fun _ => ?_ | (refine sC ?_ ?_ <;> intro hb <;> try omega) | fail)
        all_goals first
          | (exfalso; omega)
          | (refine ⟨(n + 1, M2, A2, c2), ⟨⟨by dsimp only; omega, by dsimp only; omega⟩, fun c => (hM2m c).trans (hmore c), ?_⟩, by dsimp only; omega, by exact sB, by exact sB, by exact mS⟩
             have := keys_len hg hM2n fun c hc => ((hmore c).1 ((hM2m c).1 hc)).key
             dsimp only
             omega)
          | trace_state
    · have hnN2 : n = N := by omega
      subst hnN2
      have hyes : decide (a ∈ Mx) = true := decide_eq_true ((hMx a).2 (by have := farF_way e1; rwa [hN] at this))
      repeat' (first | ((with_reducible apply wl_callp (f := 56)); exact rfl; exact rfl; (intro w' hm; exact has23_to hyes (Reads.of_own hm .hd))) | ((with_reducible apply wl_callp (f := 53)); exact rfl; exact rfl; (intro w' hm; exact awake23_at w' (hW.next hm))) | refine sT ?_ | refine sS ?_ | refine sN ?_ | refine sM fun _ => ?_ | (refine sC ?_ ?_ <;> intro hb <;> try omega) | fail)
      all_goals first
        | (exfalso; omega)
        | ((refine rT1 ?_); rfl)
        | trace_state
end Go.SL

/-
  Lemmas and walks,put together:ReachPaths.
-/
import Derived.Test.YtpohljcebgacjaaGreatDoorKr31
set_option linter.unusedSimpArgs false
set_option linter.unusedVariables false
set_option maxRecDepth 20000
namespace Go.SL
open Go Go.RowKit
section
variable {P:Program} {n:Fr} {w0:World} {Q:Post} {s:Slots} {H:List Blk} {l rest:List Oper} {ty:TypeId} {p:String} {af:Array Edge} {f:Nat} {L:Array Bool}
theorem wl_makeSlice {d t e sz by_ c:Nat} {x y:Operand} {kx ky:IntKind} {zs:List Value} {ops:Array Oper} [ht:Und P t (.slice e)] [he:Elem P e sz by_] [hz:ZeroC P e zs] (hn:Nat.blt d n.sz=true) (hx:ev s x=some (.int kx (c:Nat))) (hy:ev s y=some (.int ky (c:Nat))) (hb:by_*c≤281474976710656) (hc:c≤maxLen)
  (k: ∀ g,WL P n w0 ops rest Q ((d,.slice (some ⟨g,0,none⟩) c c)::s) (.own (some g) e sz c c ((List.range (c*sz)).map fun i=>zs[i % zs.length]!)::H)):
  WL P n w0 ops (⟨some d,.makeSlice t x y,ty,p,af,none⟩::rest) Q s H:=by
 refine wl_new (B:=fun g=> .own (some g) e sz c c ((List.range (c*sz)).map fun i=>zs[i % zs.length]!)) (v:=fun g=> .slice (some ⟨g,0,none⟩) c c) hn (fun a w hs hm=> ?_) k
 obtain ⟨i,z,h1,h2,h3,h4,h5,h6⟩:=he.out
 obtain ⟨i',z',j1,j2,j3⟩:=hz.out
 rw [h1] at j1
 injection j1 with j1
 subst j1
 rw [h4] at j2
 injection j2 with j2
 subst j2
 have hmx:c≤9223372036854775807:=by simp only [maxLen] at hc;omega
 have hb' :(i.bytes:Int)*(c:Int)≤281474976710656:=by
  rw [h3]
  have h:((by_*c:Nat):Int)≤281474976710656:=by omega
  rwa [Int.natCast_mul] at h
 have hr:=run_make (P:=P) w t e i z ht.out h1 h4 kx ky c c (by omega) (Int.le_refl _) hb' (by omega)
 simp only [Int.toNat_natCast] at hr
 have hmade:madeCells z.cells (c*i.size)=((List.range (c*sz)).map fun i=>zs[i % zs.length]!).toArray:=by
  rw [j3,h2]
  apply Array.ext'
  simp [madeCells]
 rw [hmade] at hr
 refine ⟨_,?_,World.grownBy_alloc w _ none,Blk.own_of (heap_alloc_new w _) (by simp) rfl hc,rfl⟩
 simp [execOp,hs.eval x _ hx,hs.eval y _ hy,hr]
end
section
variable {α:Type} {enc:α→List Value} {m:Nat}
end
end Go.SL
namespace Go.SL
open Go Go.Proofs
instance:One Tryz.prog 26:=⟨_,Tryz.underlying26,rfl⟩
instance:Fld Tryz.prog 28 1 1:=⟨_,_,_,Tryz.underlying28,rfl,rfl,info_of Tryz.type26,by decide⟩
instance:Fld Tryz.prog 132 2 3:=⟨_,_,_,Tryz.underlying132,rfl,rfl,info_of Tryz.type40,by decide⟩
instance:Callable Tryz.prog 54:=⟨fun args w=>Tryz.call54 args w⟩
instance:Callable Tryz.prog 81:=⟨fun args w=>Tryz.call81 args w⟩
instance:Callable Tryz.prog 83:=⟨fun args w=>Tryz.call83 args w⟩
instance:Callable Tryz.prog 102:=⟨fun args w=>Tryz.call102 args w⟩
instance:Callable Tryz.prog 103:=⟨fun args w=>Tryz.call103 args w⟩
instance:Callable Tryz.prog 127:=⟨fun args w=>Tryz.call127 args w⟩
end Go.SL
namespace Go.SL
open Go Go.RowKit
theorem calls_det {P:Program} {f:FuncId} {args:Array Value} {w:World} {u v:Value} {A B:World→Prop} (hi:P.inits.idxOf? f=none) (h1:Calls P f args w fun e w' =>e= .returned u∧A w') (h2:Calls P f args w fun e w' =>e= .returned v∧B w'):u=v:=by
 obtain ⟨e1,w1,fr1,⟨rfl,_⟩,⟨n1,s1⟩,f1,l1⟩:=h1 []
 obtain ⟨e2,w2,fr2,⟨rfl,_⟩,⟨n2,s2⟩,f2,l2⟩:=h2 []
 have d1:=step_leave_done l1 (by rw [f1];exact hi)
 have d2:=step_leave_done l2 (by rw [f2];exact hi)
 have key: ∀ (a b:Nat) (m x y:Machine) (o:Outcome) (w:World),a≤b→runN P a m= .next x→runN P b m= .next y→step P x= .ended o w→x=y:=by
  intro a b m x y o w hab hx hy hd
  obtain ⟨c,rfl⟩:=Nat.exists_eq_add_of_le hab
  rw [runN_add,hx] at hy
  cases c with
  |zero=>simp only [runN,Stepped.next.injEq] at hy;exact hy
  |succ c=>simp [runN,hd] at hy
 have hm:lone fr1 [] w1=lone fr2 [] w2:=by
  rcases Nat.le_total n1 n2 with h|h
  ·
   exact key _ _ _ _ _ _ _ h s1 s2 d1
  ·
   exact (key _ _ _ _ _ _ _ h s2 s1 d2).symm
 rw [hm,d2] at d1
 simp only [Stepped.ended.injEq,Outcome.done.injEq] at d1
 exact d1.1.symm
section
variable {P:Program} {ops:Array Oper} {md:Region.Mode}
variable (V:Nat→Option (Gh→Value)) (C:(Nat→Gh)→Array Bool→World→Prop)
variable {V C}
theorem GX.of_same {γ:Nat→Gh} {i:Nat} {o:Oper} {v:Value} {a a' :Act} (hy:GX P md ops V C γ i o v a) (he:execOp a'.eval o=execOp a.eval o)
  (hw:Region.wanted o (yielded ops a'.tmps)=Region.wanted o (yielded ops a.tmps)):GX P md ops V C γ i o v a' :=by
 cases hy with
 |pass h1 h2 h3=>exact .pass (hw.trans h1) h2 h3
 |det h1 h2 h3=>exact .det (hw.trans h1) h2 (by rw [he];exact h3)
 |non h1 φ h2 h3 h4=>exact .non (hw.trans h1) φ h2 h3 (by rw [he];exact h4)
def xOp (P:Program) (md:Region.Mode) (ops:Array Oper) (V:Nat→Option (Gh→Value)) (C:(Nat→Gh)→Array Bool→World→Prop) (γ:Nat→Gh) (i:Nat) (K:Act→Prop) (a:Act):Prop:=
 ∃ o v,ops[i]? =some o∧GX P md ops V C γ i o v a∧K (a.put o.dst v)
def AnyX (P:Program) (md:Region.Mode) (ops:Array Oper) (V:Nat→Option (Gh→Value)) (C:(Nat→Gh)→Array Bool→World→Prop) (γ:Nat→Gh) (Q:Act→Prop):Nat→Array Bool→Act→Prop
 |0,L,a=>Region.ready md ops L= []∧Q a
 |f+1,L,a=>(Region.ready md ops L= []→Q a)∧ ∀ i∈Region.ready md ops L,xOp P md ops V C γ i (AnyX P md ops V C γ Q f (L.setIfInBounds i true)) a
theorem xOp_mono {γ:Nat→Gh} {i:Nat} {a:Act} {K K' :Act→Prop} (h: ∀ a,K a→K' a) (hh:xOp P md ops V C γ i K a):xOp P md ops V C γ i K' a:=
 let ⟨o,v,h1,h2,h3⟩:=hh
 ⟨o,v,h1,h2,h _ h3⟩
theorem xOp_put {γ:Nat→Gh} {i j:Nat} {oi oj:Oper} {v:Value} (hj:ops[j]? =some oj) (hap:oi.apart ops oj=true)
  (hsi: ∀ cs b,oi.op≠ .select cs b) (hsj: ∀ cs b,oj.op≠ .select cs b) {K:Act→Prop} {a:Act}
  (hy:GX P md ops V C γ i oi v a) (h:xOp P md ops V C γ j K (a.put oi.dst v)):
  xOp P md ops V C γ j (fun a' =>GX P md ops V C γ i oi v a' ∧K (a'.put oi.dst v)) a:=by
 obtain ⟨h1,h2,h3⟩:=Oper.apart_spec hap
 obtain ⟨o,u,ho,hg,hk⟩:=h
 have e:o=oj:=Option.some.inj (ho.symm.trans hj)
 subst e
 refine ⟨o,u,ho,hg.of_same (execOp_put o hsj a oi.dst v h1).symm (wanted_put o a oi.dst v h1).symm,hy.of_same (execOp_put oi hsi a o.dst u h3) (wanted_put oi a o.dst u h3),?_⟩
 rw [← Act.put_comm a v u h2]
 exact hk
theorem AnyX_first {γ:Nat→Gh} {Q:Act→Prop} {i:Nat} {oi:Oper} {v:Value} (hi:ops[i]? =some oi) (hsel: ∀ (j:Nat) (o:Oper) cs b,ops[j]? =some o→o.op≠ .select cs b):
  ∀ (f:Nat) (L:Array Bool) (a:Act),
   (∀ j oj,ops[j]? =some oj→j≠i→L.getD j true=false→(∀ e∈oj.after,Region.binds md e=true→e.on≠i)→oi.apart ops oj=true)→
   i∈Region.ready md ops L→GX P md ops V C γ i oi v a→AnyX P md ops V C γ Q f (L.setIfInBounds i true) (a.put oi.dst v)→AnyX P md ops V C γ Q (f+1) L a
 |0,L,a,_,hr,hy,H=>⟨fun h=>(by rw [h] at hr;cases hr),fun j hj=>by
   by_cases hji:j=i
   ·
    subst hji;exact ⟨oi,v,hi,hy,H⟩
   ·
    have:=ready_mono hj hji
    rw [H.1] at this
    cases this⟩
 |f+1,L,a,hfree,hr,hy,H=>⟨fun h=>(by rw [h] at hr;cases hr),fun j hj=>by
   by_cases hji:j=i
   ·
    subst hji;exact ⟨oi,v,hi,hy,H⟩
   ·
    have h1:=H.2 j (ready_mono hj hji)
    obtain ⟨hjun,oj,hoj,hall⟩:=mem_ready.1 hj
    have hnot: ∀ e∈oj.after,Region.binds md e=true→e.on≠i:=fun e he hb heq=>by
     have h1:=hall e he hb
     have h0:=(mem_ready.1 hr).1
     rw [heq] at h1
     rcases Nat.lt_or_ge i L.size with h' |h'
     ·
      simp [h'] at h0 h1;rw [h0] at h1;cases h1
     ·
      simp [Array.getElem?_eq_none h'] at h1
    have h2:=xOp_put hoj (hfree j oj hoj hji hjun hnot) (fun cs b=>hsel i oi cs b hi) (fun cs b=>hsel j oj cs b hoj) hy h1
    have hfree' : ∀ k ok,ops[k]? =some ok→k≠i→(L.setIfInBounds j true).getD k true=false→
      (∀ e∈ok.after,Region.binds md e=true→e.on≠i)→oi.apart ops ok=true:=fun k ok hk hki hun hno=>by
     refine hfree k ok hk hki ?_ hno
     by_cases hjk:j=k
     ·
      subst hjk;exact hjun
     ·
      rw [getD_set_ne true hjk] at hun;exact hun
    refine xOp_mono (fun a' h3=>AnyX_first hi hsel f (L.setIfInBounds j true) a' hfree' (ready_mono hr (Ne.symm hji)) h3.1 ?_) h2
    rw [Array.setIfInBounds_comm _ _ hji]
    exact h3.2⟩
theorem AnyX_lex {γ:Nat→Gh} {Q:Act→Prop} (hs:Region.noSelect ops=true): ∀ (l:List Oper) (k:Nat) (L:Array Bool) (a:Act),(∀ j,l[j]? =ops[k+j]?)→
  Region.lexFrom md ops l.length k L=true→wpX P md ops V C γ Q l k a→AnyX P md ops V C γ Q l.length L a
 | [],_,_,_,_,hB,h=>⟨by simpa [Region.lexFrom] using hB,h⟩
 |o::l,k,L,a,hl,hB,h=>by
  have h0:ops[k]? =some o:=by simpa using (hl 0).symm
  simp only [List.length_cons,Region.lexFrom,Bool.and_eq_true] at hB
  obtain ⟨⟨hr,hf⟩,hB'⟩:=hB
  obtain ⟨v,hy,hK⟩:=h
  exact AnyX_first h0 (Region.noSelect_spec hs) l.length L a (Region.free_spec h0 hf) (by simpa using hr) hy
   (AnyX_lex hs l (k+1) _ _ (fun j=>by have:=hl (j+1);simpa [Nat.add_assoc,Nat.add_comm 1 j] using this) hB' hK)
def agree (L:Array Bool) (γ γ' :Nat→Gh):Prop:= ∀ i,L.getD i false=true→γ i=γ' i
theorem wAX {Q:(Nat→Gh)→Act→Prop} {Q' :Exit→Act→World→Prop} (hloc: ∀ L γ γ' w,agree L γ γ' →C γ L w→C γ' L w) (hsz: ∀ γ L w,C γ L w→L.size=ops.size) (hQ: ∀ γ L a w,Region.ready md ops L= []→C γ L w→Q γ a→Q' .normal a w):
  ∀ (f:Nat) (L:Array Bool) (a:Act) (w:World) (γ:Nat→Gh),C γ L w→(∀ γ',agree L γ γ' →AnyX P md ops V C γ' (Q γ') f L a)→wpAny P md ops Q' f L a w
 |0,L,a,w,γ,hC,h=>⟨(h γ fun _ _=>rfl).1,hQ γ L a w (h γ fun _ _=>rfl).1 hC (h γ fun _ _=>rfl).2⟩
 |f+1,L,a,w,γ,hC,h=>⟨fun h0=>hQ γ L a w h0 hC ((h γ fun _ _=>rfl).1 h0),fun i hi=>by
   obtain ⟨o,v,ho,hg,hk⟩:=(h γ fun _ _=>rfl).2 i hi
   obtain ⟨hun,_⟩:=mem_ready.1 hi
   have hlt:i<L.size:=by
    rw [hsz γ L w hC]
    exact (Array.getElem?_eq_some_iff.1 ho).1
   have hi0:L.getD i false=false:=by
    simp [hlt] at hun ⊢;exact hun
   have hsub: ∀ γ' γ'',agree (L.setIfInBounds i true) γ' γ'' →agree L γ' γ'' :=fun γ' γ'' hag j hj=>by
    refine hag j ?_
    by_cases e:i=j
    ·
     subst e;rw [hi0] at hj;cases hj
    ·
     rw [getD_set_ne false e];exact hj
   have hat: ∀ γ' γ'',agree (L.setIfInBounds i true) γ' γ'' →γ' i=γ'' i:=fun γ' γ'' hag=>hag i (by simp [hlt])
   have hupd: ∀ g,agree L γ (upd γ i g):=fun g j hj=>by
    have:j≠i:=fun e=>by subst e;rw [hi0] at hj;cases hj
    simp [upd,this]
   -- what another prophecy says of this operation
   have other: ∀ γ'',agree L γ γ'' → ∃ v'',GX P md ops V C γ'' i o v'' a∧AnyX P md ops V C γ'' (Q γ'') f (L.setIfInBounds i true) (a.put o.dst v''):=fun γ'' hag=>by
    obtain ⟨o'',v'',ho'',hg'',hk''⟩:=(h γ'' hag).2 i hi
    have e:o'' =o:=Option.some.inj (ho''.symm.trans ho)
    subst e
    exact ⟨v'',hg'',hk''⟩
   unfold wpOp
   simp only [ho]
   cases hg with
   |pass hw hv hc=>
    subst hv
    simp only [hw,Bool.false_eq_true,if_false]
    refine wAX hloc hsz hQ f _ _ _ γ (hc L w hi hC) fun γ'' hag=> ?_
    obtain ⟨v'',hg'',hk''⟩:=other γ'' (hsub _ _ hag)
    cases hg'' with
    |pass _ hv'' _=>subst hv'';exact hk''
    |det hw'' _ _=>rw [hw] at hw'';cases hw''
    |non hw'' _ _ _ _=>rw [hw] at hw'';cases hw''
   |det hw hV hc=>
    simp only [hw,if_true]
    refine .inl ?_
    have h1:=hc L w hi hC
    have h2: ∀ γ'',agree L γ γ'' → ∃ v'',DetUp P (C γ'' (L.setIfInBounds i true)) v'' ((execOp a.eval o).run P w)∧AnyX P md ops V C γ'' (Q γ'') f (L.setIfInBounds i true) (a.put o.dst v''):=fun γ'' hag=>by
     obtain ⟨v'',hg'',hk''⟩:=other γ'' hag
     cases hg'' with
     |pass hw'' _ _=>rw [hw] at hw'';cases hw''
     |det _ _ hc'' =>exact ⟨v'',hc'' L w hi (hloc L γ γ'' w hag hC),hk''⟩
     |non _ _ hV'' _ _=>rw [hV] at hV'';cases hV''
    unfold Oper.wp
    generalize (execOp a.eval o).run P w=r at h1 h2 ⊢
    cases r with
    |ok x w' =>
     cases x<;>simp only [DetUp] at h1 h2<;>simp only [Oper.upon]
     case value u=>
      obtain ⟨rfl,h3⟩:=h1
      refine wAX hloc hsz hQ f _ _ _ γ h3 fun γ'' hag=> ?_
      obtain ⟨v'',⟨rfl,_⟩,hk''⟩:=h2 γ'' (hsub _ _ hag)
      exact hk''
     case skip=>
      obtain ⟨rfl,h3⟩:=h1
      refine wAX hloc hsz hQ f _ _ _ γ h3 fun γ'' hag=> ?_
      obtain ⟨v'',⟨rfl,_⟩,hk''⟩:=h2 γ'' (hsub _ _ hag)
      exact hk''
     case enter g args=>
      obtain ⟨hin,h3⟩:=h1
      refine h3.mono fun e w'' ⟨he,h4⟩=> ?_
      subst he
      refine wAX hloc hsz hQ f _ _ _ γ h4 fun γ'' hag=> ?_
      obtain ⟨v'',⟨_,h5⟩,hk''⟩:=h2 γ'' (hsub _ _ hag)
      rw [calls_det hin h3 h5]
      exact hk''
    |halt x w' =>simp only [DetUp] at h1
   |non hw φ hV hv hc=>
    simp only [hw,if_true]
    refine .inl ?_
    have h1:=hc L w hi hC
    have h2: ∀ g γ'',agree (L.setIfInBounds i true) (upd γ i g) γ'' →AnyX P md ops V C γ'' (Q γ'') f (L.setIfInBounds i true) (a.put o.dst (φ g)):=fun g γ'' hag=>by
     have hag' :agree L γ γ'' :=fun j hj=>(hupd g j hj).trans (hsub _ _ hag j hj)
     have hgi:γ'' i=g:=by rw [← hat _ _ hag];simp [upd]
     obtain ⟨v'',hg'',hk''⟩:=other γ'' hag'
     cases hg'' with
     |pass hw'' _ _=>rw [hw] at hw'';cases hw''
     |det _ hV'' _=>rw [hV] at hV'';cases hV''
     |non _ φ'' hV'' hv'' _=>
      rw [hV] at hV''
      injection hV'' with hV''
      subst hV''
      rw [hv'',hgi] at hk''
      exact hk''
    unfold Oper.wp
    generalize (execOp a.eval o).run P w=r at h1 ⊢
    cases r with
    |ok x w' =>
     cases x<;>simp only [NonUp] at h1<;>simp only [Oper.upon]
     case value u=>
      obtain ⟨g,rfl,h3⟩:=h1
      exact wAX hloc hsz hQ f _ _ _ (upd γ i g) h3 fun γ'' hag=>h2 g γ'' hag
     case skip=>
      obtain ⟨g,hg,h3⟩:=h1
      rw [hg]
      exact wAX hloc hsz hQ f _ _ _ (upd γ i g) h3 fun γ'' hag=>h2 g γ'' hag
     case enter k args=>
      refine h1.mono fun e w'' ⟨g,he,h4⟩=> ?_
      subst he
      exact wAX hloc hsz hQ f _ _ _ (upd γ i g) h4 fun γ'' hag=>h2 g γ'' hag
     case row k args=>
      refine Rows.mono h1 fun u w'' ⟨g,he,h4⟩=> ?_
      subst he
      exact wAX hloc hsz hQ f _ _ _ (upd γ i g) h4 fun γ'' hag=>h2 g γ'' hag
    |halt x w' =>simp only [NonUp] at h1⟩
end
section
variable {P:Program} {n:Fr} {w0:World} {Q:Post} {s:Slots} {H:List Blk} {l rest:List Oper} {ty:TypeId} {p:String} {af:Array Edge}
def LocalX (HL:Done→(Nat→Gh)→List Blk):Prop:= ∀ (D:Done) (γ γ' :Nat→Gh),(∀ i,D i=true→γ i=γ' i)→HL D γ=HL D γ'
theorem w_drawX {id:Nat} (V:Nat→Option (Gh→Value)) (HL:Done→(Nat→Gh)→List Blk) (hm:P.follows .mixedOrders=true) (hB:Region.lexB .any l.toArray=true) (hloc:LocalX HL) (h0: ∀ γ,MSub (HL (fun _=>false) γ) H)
  (h: ∀ γ,WX P n w0 l V HL γ (fun s' => ∀ D:Done,(∀ i,i<l.length→D i=true)→Q .normal s' (HL D γ)) l 0 s):W P n w0 (.region id l.toArray true) Q s H:=by
 intro a w hs hmem
 have hrep:done (Array.replicate l.toArray.size false)=fun _=>false:=by
  funext i
  unfold done
  rw [Array.getD_eq_getD_getElem?,Array.getElem?_replicate]
  split<;>rfl
 let γ0:Nat→Gh:=fun _=>(none,0)
 have hB' :=hB
 simp only [Region.lexB,Bool.and_eq_true] at hB'
 refine wp_region_any hm ?_
 refine wAX (V:=V) (C:=ClsX w0 l HL) (Q:=fun γ a' => ∃ s',St n s' a' ∧ ∀ D:Done,(∀ i,i<l.length→D i=true)→Q .normal s' (HL D γ)) ?_ ?_ ?_ _ _ _ _ γ0 ?_ ?_
 ·
  rintro L γ γ' w' hag ⟨h1,h2,h3⟩
  refine ⟨h1,h2,?_⟩
  show Mem w0 w' (HL (done L) γ')
  rw [hloc (done L) γ' γ fun i hi=>(hag i hi).symm]
  exact h3
 ·
  rintro γ L w' ⟨h1,_⟩
  simpa using h1
 ·
  rintro γ L a' w' hr ⟨hsz,hcl,hmem'⟩ ⟨s',h2,h3⟩
  refine ⟨s',HL (done L) γ,h2,hmem',h3 _ fun i hi=> ?_⟩
  -- nothing is ready:all is done
  have all: ∀ i,i<l.length→done L i=true:=by
   intro i
   induction i using Nat.strongRecOn with
   |_ i ih=>
    intro hi
    cases hd:done L i with
    |true=>rfl
    |false=>
     exfalso
     have hlx: ∀ (f k:Nat) (L0:Array Bool),Region.lexFrom .any l.toArray f k L0=true→ ∀ j o,k≤j→j<k+f→l[j]? =some o→ ∀ x∈waits o,L0.getD x false=true∨(k≤x∧x<j):=by
      intro f
      induction f with
      |zero=>intro k L0 _ j o h1 h2;omega
      |succ f ihf=>
       intro k L0 hlex j o h1 h2 ho x hx
       simp only [Region.lexFrom,Bool.and_eq_true] at hlex
       obtain ⟨⟨hrk,_⟩,hrest⟩:=hlex
       by_cases hjk:j=k
       ·
        subst hjk
        obtain ⟨_,o',ho',hall⟩:=mem_ready.1 (by simpa using hrk:j∈Region.ready .any l.toArray L0)
        rw [List.getElem?_toArray,ho] at ho'
        injection ho' with ho'
        subst ho'
        obtain ⟨e,he,hb,rfl⟩:=waits_mem.1 hx
        exact .inl (hall e he hb)
       ·
        rcases ihf (k+1) _ hrest j o (by omega) (by omega) ho x hx with h|⟨h3,h4⟩
        ·
         by_cases hxk:k=x
         ·
          subst hxk;right;omega
         ·
          rw [getD_set_ne false hxk] at h;exact .inl h
        ·
         right;omega
     obtain ⟨o,ho⟩: ∃ o,l[i]? =some o:=⟨_,List.getElem?_eq_getElem hi⟩
     have hmem:i∈Region.ready .any l.toArray L:=by
      refine mem_ready.2 ⟨?_,o,by simpa using ho,fun e he hb=> ?_⟩
      ·
       have:i<L.size:=by omega
       unfold done at hd
       simp [this] at hd ⊢;exact hd
      ·
       have hx:=hlx l.toArray.size 0 _ hB'.2 i o (Nat.zero_le _) (by simpa using hi) ho e.on (waits_mem.2 ⟨e,he,hb,rfl⟩)
       rcases hx with h|⟨_,h⟩
       ·
        have:(done (Array.replicate l.toArray.size false)) e.on=true:=h
        rw [hrep] at this;cases this
       ·
        exact ih e.on h (by omega)
     rw [hr] at hmem
     cases hmem
  exact all i hi
 ·
  refine ⟨by simp,fun i o _ hi=>(by rw [hrep] at hi;cases hi),?_⟩
  rw [hrep]
  exact (h0 γ0).use hmem.drew
 ·
  intro γ' _
  have h1:=h γ' a hs (by simp)
  have:=AnyX_lex (md:= .any) hB'.1 l.toArray.toList 0 (Array.replicate l.toArray.size false) a (by simp) (by simpa using hB'.2) (by simpa using h1)
  simpa using this
variable {V:Nat→Option (Gh→Value)} {HL:Done→(Nat→Gh)→List Blk} {γ:Nat→Gh} {K:Slots→Prop} {k:Nat}
theorem wx_nil (h:K s):WX P n w0 l V HL γ K [] k s:=fun _ hs _=>⟨s,hs,h⟩
def nilB:Blk:= .own none 0 0 0 0 []
def gat (D:Done) (γ:Nat→Gh):Nat→Gh:=fun i=>bif D i then γ i else (none,0)
theorem localX_gat (HX:Done→(Nat→Gh)→List Blk):LocalX fun D γ=>HX D (gat D γ):=fun D γ γ' h=>by
 have:gat D γ=gat D γ' :=by
  funext i
  unfold gat
  cases hi:D i with
  |false=>rfl
  |true=>exact h i hi
 show HX D (gat D γ)=HX D (gat D γ')
 rw [this]
theorem w_drawXg {id:Nat} (V:Nat→Option (Gh→Value)) (HX:Done→(Nat→Gh)→List Blk) (hm:P.follows .mixedOrders=true) (hB:Region.lexB .any l.toArray=true) (h0: ∀ γ,MSub (HX (fun _=>false) (gat (fun _=>false) γ)) H)
  (h: ∀ γ,WX P n w0 l V (fun D γ=>HX D (gat D γ)) γ (fun s' => ∀ D:Done,(∀ i,i<l.length→D i=true)→Q .normal s' (HX D (gat D γ))) l 0 s):W P n w0 (.region id l.toArray true) Q s H:=
 w_drawX V _ hm hB (localX_gat HX) h0 h
theorem Turn.early {o:Oper} {D:Done} (ht:Turn l k o D) {i f:Nat} (h:(waits o).any (fun j=>reaches l f j i)=true):D i=true:=by
 obtain ⟨j,hj,hr⟩:=List.any_eq_true.1 h
 exact reaches_done ht.closed f j i hr (ht.before j hj)
variable {gu:Option (Nat × Bool)}
theorem wx_v {op:Op} {d:Nat} {v:Value} (hn:Nat.blt d n.sz=true) (hg:gok l s gu=some true) (hV:V k=none) (hv: ∀ D,Turn l k ⟨some d,op,ty,p,af,gu⟩ D→VOp P w0 s (HL D γ) op ty v) (hk: ∀ D,HL (put D k) γ=HL D γ) (h:WX P n w0 l V HL γ K rest (k+1) ((d,v)::s)):
  WX P n w0 l V HL γ K (⟨some d,op,ty,p,af,gu⟩::rest) k s:=by
 intro a hs hl
 obtain ⟨h0,hl'⟩:=wx_head hl
 refine ⟨v,.det (gok_wanted rfl hg hs) hV fun L w hr hc=> ?_,h _ (hs.put (Nat.blt_eq ▸ hn) v) hl'⟩
 obtain ⟨ht,hd,hnext⟩:=turn_of h0 hr hc
 have h1:=hv _ ht a.eval w (some d) p af gu hs.eval hc.2.2
 rw [h1]
 exact ⟨rfl,hnext w (by rw [hk];exact hc.2.2)⟩
theorem wx_callp {d:Nat} {f:FuncId} {xs:List Operand} {vs:List Value} {v:Value} {ts:Array TypeId} [Callable P f] (hn:Nat.blt d n.sz=true) (hg:gok l s gu=some true) (hV:V k=none) (hin:P.inits.idxOf? f=none) (hx:evs s xs=some vs)
  (hF: ∀ D,Turn l k ⟨some d,.call { callee:= .value (.func f),args:=xs.toArray,argTypes:=ts },ty,p,af,gu⟩ D→ ∀ w,Mem w0 w (HL D γ)→Pure P f vs w v) (hk: ∀ D,HL (put D k) γ=HL D γ) (h:WX P n w0 l V HL γ K rest (k+1) ((d,v)::s)):
  WX P n w0 l V HL γ K (⟨some d,.call { callee:= .value (.func f),args:=xs.toArray,argTypes:=ts },ty,p,af,gu⟩::rest) k s:=by
 intro a hs hl
 obtain ⟨h0,hl'⟩:=wx_head hl
 refine ⟨v,.det (gok_wanted rfl hg hs) hV fun L w hr hc=> ?_,h _ (hs.put (Nat.blt_eq ▸ hn) v) hl'⟩
 obtain ⟨ht,hd,hnext⟩:=turn_of h0 hr hc
 have hrun:=run_call (P:=P) (w:=w) (ρ:=a.eval) (d:=some d) (ty:=ty) (p:=p) (af:=af) (g:=gu) (f:=f) (c:= .func f) (xs:=xs) (caps:= []) (ts:=ts) rfl (evs_map hs hx)
 rw [List.append_nil] at hrun
 rw [hrun]
 refine ⟨hin,Calls.mono (hF _ ht w hc.2.2) ?_⟩
 rintro e w' ⟨u,H',rfl,hm',rfl⟩
 exact ⟨rfl,hnext w' (by rw [hk];exact (hc.2.2.call hm').right)⟩
theorem nonUp_of_wl {op:Op} {d:Nat} {φ:Gh→Value} {a:Act} {w:World} {H' :List Blk} {B:Gh→List Blk} (hdn:d<n.sz) (hs:St n s a) (hm:Mem w0 w H')
  (h:WL P n w0 #[] [⟨some d,op,ty,p,af,none⟩] (fun e s' H' =>e= .normal∧ ∃ g,look s' d=some (φ g)∧MSub (B g) H') s H'):NonUp P φ (fun g w' =>Mem w0 w' (B g)) ((execOp a.eval ⟨some d,op,ty,p,af,gu⟩).run P w):=by
 have h1:=h a w hs hm
 unfold wpList at h1
 simp only [Region.wanted,if_true] at h1
 refine h1.elim (fun h1=> ?_) (fun ⟨_,a0,w1,s',H'',_,_,he,_⟩=>by cases he)
 have hsz:d<a.tmps.size:=by rw [hs.size];exact hdn
 have nxt: ∀ (v:Value) (w' :World) (a' :Act),a'.tmps[d]? =some v→wpList P #[] (post n w0 fun e s' H' =>e= .normal∧ ∃ g,look s' d=some (φ g)∧MSub (B g) H') [] a' w' → ∃ g,v=φ g∧Mem w0 w' (B g):=by
  rintro v w' a' ha' ⟨s',H'',hs',hm',_,g,hg,hsub⟩
  have:=hs'.has d _ hg
  rw [ha'] at this
  exact ⟨g,Option.some.inj this,hsub.use hm'⟩
 have hput: ∀ (a' :Act) (v:Value),a'.tmps.size=a.tmps.size→(a'.put (some d) v).tmps[d]? =some v:=fun a' v h=>by simp [Act.put,h,hsz]
 have hexec:execOp a.eval ⟨some d,op,ty,p,af,gu⟩=execOp a.eval ⟨some d,op,ty,p,af,none⟩:=rfl
 rw [hexec]
 unfold Oper.wp at h1
 generalize (execOp a.eval ⟨some d,op,ty,p,af,none⟩).run P w=r at h1 ⊢
 cases r with
 |ok x w' =>
  cases x<;>simp only [Oper.upon] at h1<;>simp only [NonUp]
  case value u=>exact nxt u w' _ (hput a u rfl) h1
  case skip=>exact nxt undef w' _ (hput a undef rfl) h1
  case defer dd=>
   obtain ⟨s',H'',hs',_⟩:=h1
   have h2:=congrArg List.length (hs'.defers.trans hs.defers.symm)
   simp [Act.put] at h2
  case enter k args=>
   refine h1.mono fun e w'' he=> ?_
   cases e with
   |returned v=>
    obtain ⟨g,hv,hg⟩:=nxt v w'' _ (hput a v rfl) he
    exact ⟨g,by rw [hv],hg⟩
   |panicked c=>
    obtain ⟨s',H'',_,_,he',_⟩:=he
    cases he'
   |outgrown=>
    obtain ⟨a0,w1,s',H'',_,_,he',_⟩:=he
    cases he'
  case row k args=>exact Rows.mono h1 fun u w'' he=>nxt u w'' _ (hput a u rfl) he
 |halt x w' =>
  cases x<;>simp only [Oper.upon] at h1
  all_goals
   obtain ⟨s',H'',_,_,he',_⟩:=h1
   cases he'
theorem wx_non {op:Op} {d:Nat} {φ:Gh→Value} (hn:Nat.blt d n.sz=true) (hg:gok l s gu=some true) (hV:V k=some φ)
  (h: ∀ D,Turn l k ⟨some d,op,ty,p,af,gu⟩ D→WL P n w0 #[] [⟨some d,op,ty,p,af,none⟩] (fun e s' H' =>e= .normal∧ ∃ g,look s' d=some (φ g)∧MSub (HL (put D k) (upd γ k g)) H') s (HL D γ))
  (h' :WX P n w0 l V HL γ K rest (k+1) ((d,φ (γ k))::s)):WX P n w0 l V HL γ K (⟨some d,op,ty,p,af,gu⟩::rest) k s:=by
 intro a hs hl
 obtain ⟨h0,hl'⟩:=wx_head hl
 refine ⟨φ (γ k),.non (gok_wanted rfl hg hs) φ hV rfl fun L w hr hc=> ?_,h' _ (hs.put (Nat.blt_eq ▸ hn) _) hl'⟩
 obtain ⟨ht,hd,hnext⟩:=turn_of h0 hr hc
 have h1:=nonUp_of_wl (gu:=gu) (Nat.blt_eq ▸ hn) hs hc.2.2 (h _ ht)
 have hm2: ∀ g w',Mem w0 w' (HL (put (done L) k) (upd γ k g))→ClsX w0 l HL (upd γ k g) (L.setIfInBounds k true) w' :=fun g w' hm' =>by
  obtain ⟨hsz,hcl,_⟩:=hc
  have hlt:k<L.size:=by rw [hsz];exact (List.getElem?_eq_some_iff.1 h0).1
  have hcl' : ∀ i x,l[i]? =some x→done (L.setIfInBounds k true) i=true→ ∀ e∈x.after,Region.binds .any e=true→done (L.setIfInBounds k true) e.on=true:=by
   intro i x hx hi e he hb
   rw [hd] at hi ⊢
   by_cases hik:i=k
   ·
    subst hik
    rw [h0] at hx
    injection hx with hx
    have h2:=ht.before e.on (waits_mem.2 ⟨e,by rw [hx];exact he,hb,rfl⟩)
    unfold put
    split
    ·
     rfl
    ·
     exact h2
   ·
    have hi' :done L i=true:=by unfold put at hi;rwa [if_neg hik] at hi
    have:=hcl i x hx hi' e he hb
    unfold put
    split
    ·
     rfl
    ·
     exact this
  exact ⟨by simpa using hsz,hcl',by rw [hd];exact hm'⟩
 generalize (execOp a.eval ⟨some d,op,ty,p,af,gu⟩).run P w=r at h1 ⊢
 cases r with
 |ok x w' =>
  cases x<;>simp only [NonUp] at h1 ⊢
  case value u=>obtain ⟨g,hv,hg⟩:=h1;exact ⟨g,hv,hm2 g w' hg⟩
  case skip=>obtain ⟨g,hv,hg⟩:=h1;exact ⟨g,hv,hm2 g w' hg⟩
  case enter k args=>exact h1.mono fun e w'' ⟨g,hv,hg⟩=>⟨g,hv,hm2 g w'' hg⟩
  case row k args=>exact Rows.mono h1 fun u w'' ⟨g,hv,hg⟩=>⟨g,hv,hm2 g w'' hg⟩
 |halt x w' =>simp only [NonUp] at h1
theorem wx_heap {op:Op} (hg:gok l s gu=some true) (hV:V k=none) (hv: ∀ D,Turn l k ⟨none,op,ty,p,af,gu⟩ D→ ∀ a w,St n s a→Mem w0 w (HL D γ)→ ∃ w',(execOp a.eval ⟨none,op,ty,p,af,gu⟩).run P w= .ok .skip w' ∧Mem w0 w' (HL (put D k) γ)) (h:WX P n w0 l V HL γ K rest (k+1) s):
  WX P n w0 l V HL γ K (⟨none,op,ty,p,af,gu⟩::rest) k s:=by
 intro a hs hl
 obtain ⟨h0,hl'⟩:=wx_head hl
 refine ⟨undef,.det (gok_wanted rfl hg hs) hV fun L w hr hc=> ?_,h _ (hs.put_none _) hl'⟩
 obtain ⟨ht,hd,hnext⟩:=turn_of h0 hr hc
 obtain ⟨w',hr',hm'⟩:=hv _ ht a w hs hc.2.2
 rw [hr']
 exact ⟨rfl,hnext w' hm'⟩
theorem wx_put {t T g off m:Nat} {x a:Operand} {v:Value} {vs:List Value} [Size P t m] (hg:gok l s gu=some true) (hV:V k=none) (ha:ev s a=some (.pointer (some ⟨g,off,none⟩))) (hx:ev s x=some v) (hv:v.cells=vs.toArray) (hl:vs.length=m) (h1:vs.all Value.oneCell' =true)
  (hnew: ∀ D,Turn l k ⟨none,.store t a x,ty,p,af,gu⟩ D→ ∃ xs R,Sel (.box g T xs) (HL D γ) R∧off+m≤xs.length∧MSub (HL (put D k) γ) (.box g T (xs.take off++vs++xs.drop (off+m))::R)) (h:WX P n w0 l V HL γ K rest (k+1) s):
  WX P n w0 l V HL γ K (⟨none,.store t a x,ty,p,af,gu⟩::rest) k s:=by
 refine wx_heap hg hV (fun D ht a' w hs hm=> ?_) h
 obtain ⟨xs,R,hsel,hfit,hsub⟩:=hnew D ht
 have hm' :=hm.sel hsel
 have hb:=(hm'.on _ List.mem_cons_self).1
 simp only [Blk.on] at hb
 have h1' : ∀ u∈vs,u.oneCell' =true:=by simpa using h1
 have hr:=run_storeVar (P:=P) (t:=t) (off:=off) hv hl h1' hb (by simpa using hfit)
 simp only at hr
 refine ⟨_,?_,hsub.use (hm'.upd (setRow_grown _ _ _) (b' := .box g T (xs.take off++vs++xs.drop (off+m))) (setRow_heap _ _ _ _ _ _ hb) fun k hk=> .inl hk)⟩
 simp [execOp,hs.eval a _ ha,hs.eval x _ hx,Instr.storeAt,Instr.sureAddr,hr]
end
section
variable {P:Program} {n:Fr} {w0:World} {Q:Post} {s:Slots} {H:List Blk} {ops:Array Oper} {l:List Oper}
theorem w_subH {c:Code} (H' :List Blk) (hs:MSub H' H) (h:W P n w0 c Q s H'):W P n w0 c Q s H:=fun a w h1 h2=>h a w h1 (hs.use h2)
end
end Go.SL
namespace Go.SL
open Go Go.Proofs
attribute [local irreducible] W WL WQ WG WA WX VOp thn blk cutP retP FnAt FnIn Held
theorem refMeet_at (a b:Rct) (w:World):Pure Tryz.prog 127 [.agg (encR a).toArray,.agg (encR b).toArray] w (.tuple #[.agg (encR (meetR a b).1).toArray,.bool (meetR a b).2]):=by
 refine fn_at Tryz.func127 rfl Tryz.ntmps127 rfl ?_
 have h1:=fun w=>refRect_at a w
 have h2:=fun w=>refRect_at b w
 have h3:=fun w=>refRect_at (meetM a b) w
 unfold meetR
 have hall: [a,b,meetM a b].all rectOk=(rectOk a && (rectOk b && rectOk (meetM a b))):=by simp
 rw [hall]
 unfold rectE at h1 h2 h3
 generalize rectOk a=q1 at*
 generalize rectOk b=q2 at*
 generalize rectOk (meetM a b)=q3 at*
 cases q1<;>cases q2<;>cases q3
 all_goals
  dsimp only [cond_true,cond_false] at h1 h2 h3
  repeat' (first|((with_reducible apply wl_callp);exact rfl;exact rfl;(intro w hm;exact h1 w))|((with_reducible apply wl_callp);exact rfl;exact rfl;(intro w hm;exact h2 w))|((with_reducible apply wl_callp);exact rfl;exact rfl;(intro w hm;exact h3 w))|refine sT ?_|refine sM fun _=> ?_|(refine sC ?_ ?_<;>intro hb<;>try omega)|fail)
  refine retct (.inl rfl) Tryz.results127 rfl pK rfl rfl (MSub.nil _) ?_
  rfl
end Go.SL
namespace Go.SL
open Go Go.Proofs
attribute [local irreducible] W WL WQ WG WA WX WLI WR WT WC VOp RW thn blk cutP scp retP retPP endB FnAt FnIn FnP ceP
def idxQ (L:List En) (a:Rf):Int:=match L.findIdx? (fun e=>decide (e.at_=a)) with|some i=>(i:Int)|none=> -1
theorem idxQ_at {L:List En} {a:Rf} {i:Nat} (h:i<L.length) (ha:L[i].at_=a) (hno: ∀ j (h:j<L.length),j<i→L[j].at_≠a):idxQ L a=(i:Int):=by
 unfold idxQ
 rw [List.findIdx?_eq_some_iff_getElem.2 ⟨h,by simpa using ha,fun j hj=>by simpa using hno j (by omega) hj⟩]
theorem idxQ_no {L:List En} {a:Rf} (hno: ∀ j (h:j<L.length),L[j].at_≠a):idxQ L a= -1:=by
 unfold idxQ
 rw [List.findIdx?_eq_none_iff.2]
 intro e he
 obtain ⟨j,hj,rfl⟩:=List.getElem_of_mem he
 simpa using hno j hj
structure RGm (w:World) (g:Nat) (Al:Option Addr) (cl:Nat) (L:List En):Prop where
 box:Ro w g 0 [.slice Al L.length cl]
 row:0<L.length→ ∃ gl ol,Al=some ⟨gl,ol,none⟩∧Ro w gl ol (L.flatMap encQ)
theorem RGm.of {g:Nat} {A:Option Nat} {cap:Nat} {L:List En} {H:List Blk} {w0 w:World} (hH:MSub (rgB g A cap L) H) (hm:Mem w0 w H):RGm w g (A.map fun g=>⟨g,0,none⟩) cap L:=by
 have hm' :=hH.use hm
 refine ⟨Ro.of_box hm' .hd,fun hpos=> ?_⟩
 obtain ⟨Al,cl,hv,_,_,hl3⟩:=Reads.of_own hm' (.tl .hd)
 unfold sl at hv
 injection hv with hv1 hv2 hv3
 rw [hv1]
 exact hl3 hpos
set_option maxHeartbeats 1000000 in
theorem rIndex_at (g:Nat) (Al:Option Addr) (cl:Nat) (L:List En) (a:Rf) (w:World) (hr:RGm w g Al cl L) (hlen:L.length≤1000000):
    Pure Tryz.prog 81 [.pointer (some ⟨g,0,none⟩),keyF a] w (.int .i64 (idxQ L a)):=by
  obtain ⟨hr,hl3⟩:=hr
  refine fn_at Tryz.func81 rfl Tryz.ntmps81 rfl ?_
  repeat' (first|refine sT ?_|refine sS ?_|refine sM fun _=> ?_|(refine sC ?_ ?_<;>intro hb<;>try omega)|fail)
  rename_i g3
  refine w_loopK [0,3] rfl (fun i:Nat=> [(5,.int .i64 (i:Int))]) (fun _=> [.box g3 38 (encF a)]) (fun i=>i≤L.length∧ ∀ j (h:j<L.length),j<i→L[j].at_≠a) (fun i=>L.length - i) 0 ⟨by omega,fun j _ h=>by omega⟩ sB mS ?_
  rintro i ⟨hi,hno⟩
  by_cases hlt:i<L.length
  · obtain ⟨gl,ol,rfl,hrl⟩:=hl3 (by omega)
    have he:=hrl.elem encQ_len i hlt
    have hno1:=fun (h:L[i].at_≠a) (j:Nat) (hj:j<L.length) (hji:j<i+1)=>(show L[j].at_≠a from by
      rcases (by omega:j<i∨j=i) with h1|rfl
      · exact hno j hj h1
      · exact h)
    have hat:=fun h=>idxQ_at hlt h hno
    generalize L[i]=e at he hno1 hat
    obtain ⟨c,hc⟩: ∃ c,decide (e.at_=a)=c:=⟨_,rfl⟩
    repeat' (first|((with_reducible apply wl_v (d:=10));exact rfl;(with_reducible apply v_load_ro (o:=0) (off:=0));exact hr;exact rfl;exact rfl)|((with_reducible apply wq_v (d:=18));exact rfl;(with_reducible apply v_load_ro (o:=0) (off:=0));exact hr;exact rfl;exact rfl)|((with_reducible apply wq_v (d:=20));exact rfl;(with_reducible apply v_indexAddr (j:=i));exact rfl;exact rfl;exact hlt)|((with_reducible apply wq_v (d:=22));exact rfl;(with_reducible apply v_loads_ro (off:=0) (ys:=encF e.at_) he);(iterate 3 exact rfl))|((with_reducible apply wq_v (d:=24));exact rfl;(with_reducible apply v_eqlF_to);exact hc;exact rfl;exact rfl)|refine sT ?_|refine sS ?_|refine sQ ?_|refine sN ?_|refine sNQ ?_|refine sD ?_|refine sM fun _=> ?_|(refine sC ?_ ?_<;>intro hb<;>try omega)|(refine sCQ ?_ ?_<;>intro hb<;>try omega)|fail)
    all_goals first|(exfalso;omega)|skip
    · refine ret1 eIO rfl rfl (.nil _) ?_
      rw [hat (by simp_all)]
    · refine ⟨i+1,?_,(by first|omega|(dsimp only;omega)),sB,sB,mS⟩
      exact ⟨hlt,hno1 (by simp_all)⟩
  · have e2:i=L.length:=by omega
    subst e2
    repeat' (first|((with_reducible apply wl_v (d:=10));exact rfl;(with_reducible apply v_load_ro (o:=0) (off:=0));exact hr;exact rfl;exact rfl)|refine sT ?_|refine sS ?_|refine sN ?_|refine sM fun _=> ?_|(refine sC ?_ ?_<;>intro hb<;>try omega)|fail)
    all_goals first
      |(exfalso;omega)
      | (refine ret1 eIO rfl rfl (.nil _) ?_
         rw [idxQ_no fun j hj=>hno j hj hj])
set_option maxHeartbeats 1000000 in
theorem rTouches_at (e:En) (r:Rct) (w:World) (ht:Reads w e.uv e.uses.length (e.uses.flatMap encU)) (hlen:e.uses.length≤1000000):
  Pure Tryz.prog 83 [.agg (encQ e).toArray,.agg (encR r).toArray] w (.bool (touchesU e.uses r)):=by
 obtain ⟨Al,cl,hv,hl1,hl2,hl3⟩:=ht
 refine fn_at Tryz.func83 rfl Tryz.ntmps83 rfl ?_
 have he:encQ e= [.int .i64 e.at_.col,.int .i64 e.at_.row,e.tv,.slice Al e.uses.length cl]:=by rw [← hv];rfl
 rw [he]
 generalize e.tv=tv
 generalize e.uses=L at hl1 hl3 hlen
 repeat' (first|refine sT ?_|refine sS ?_|refine sM fun _=> ?_|(refine sC ?_ ?_<;>intro hb<;>try omega)|fail)
 rename_i g2 g3
 refine w_loopK [2,3] rfl (fun i:Nat=> [(5,.int .i64 (i:Int))]) (fun _=> [.box g3 24 (encR r),.box g2 132 [.int .i64 e.at_.col,.int .i64 e.at_.row,tv,.slice Al L.length cl]]) (fun i=>i≤L.length∧touchesU L r=touchesU (L.drop i) r) (fun i=>L.length - i) 0 ⟨by omega,rfl⟩ sB mS ?_
 rintro i ⟨hi,hrec⟩
 by_cases hlt:i<L.length
 ·
  obtain ⟨gl,ol,rfl,hrl⟩:=hl3 (by omega)
  have hu:=hrl.elem encU_len i hlt
  rw [List.drop_eq_getElem_cons hlt] at hrec
  unfold touchesU at hrec
  rw [List.any_cons] at hrec
  unfold touchesU
  generalize L[i]=u at hu hrec
  have hM:=fun w=>refMeet_at u.rect r w
  unfold touch at hrec
  generalize meetR u.rect r=mr at hM hrec
  obtain ⟨m1,m2⟩:=mr
  dsimp only at hM
  repeat' (first|refine sT ?_|refine sS ?_|refine sN ?_|refine sM fun _=> ?_|(refine sC ?_ ?_<;>intro hb<;>try omega)|fail)
  all_goals first|(exfalso;omega)|skip
  refine w_nilrow 0 0 ?_
  refine w_drawXg (id:=4) (fun|11=>some fun g=> .pointer (some ⟨g.2,0,none⟩)|_=>none)
   (fun (D:Done) (q:Nat→Gh)=>(bif D 11 then Blk.box (q 11).2 24 (bif D 12 then encR m1 else [.int .i64 0,.int .i64 0,.int .i64 0,.int .i64 0]) else nilB):: .box g3 24 (encR r):: .box g2 132 [.int .i64 e.at_.col,.int .i64 e.at_.row,tv,.slice (some ⟨gl,ol,none⟩) L.length cl]:: []) ?_ ?_ ?_ ?_
  ·
   kernel_rfl
  ·
   kernel_rfl
  ·
   intro γ
   exact mS
  intro γ
  repeat' (first|((with_reducible apply wx_v (d:=19));(iterate 3 exact rfl);(intro D ht;(with_reducible apply v_indexAddr (j:=i));exact rfl;exact rfl;exact hlt);exact fun _=>rfl)|((with_reducible apply wx_v (d:=21));(iterate 3 exact rfl);(intro D ht;(with_reducible apply v_loads_ro (off:=0) (ys:=encR u.rect) hu);(iterate 3 exact rfl));exact fun _=>rfl)|((with_reducible apply wx_callp (f:=127));(iterate 3 exact rfl);(decide+kernel);exact rfl;(intro D ht w hm;exact hM w);exact fun _=>rfl)|refine sT ?_|refine sS ?_|refine sX ?_|refine sM fun _=> ?_|(refine sC ?_ ?_<;>intro hb<;>try omega)|(refine sCX ?_ ?_<;>intro hb<;>try omega)|fail)
  refine wx_non rfl rfl rfl (fun D ht=> ?_) ?_
  ·
   have n10:D 11=false:=ht.not
   have n11:D 12=false:=ht.late (j:=12) (f:=60) (by decide+kernel)
   (simp only [gat,put,upd,Nat.reduceEqDiff,Nat.reduceAdd,reduceIte,n10,n11,cond_true,cond_false,List.nil_append,List.cons_append,Bool.and_true,Bool.and_false,Bool.true_and,Bool.false_and])
   (with_reducible apply wl_alloc);exact rfl;intro g
   refine wl_nil ⟨rfl,(none,g),rfl,?_⟩
   (simp only [gat,put,upd,Nat.reduceEqDiff,Nat.reduceAdd,reduceIte,n10,n11,cond_true,cond_false,List.nil_append,List.cons_append,Bool.and_true,Bool.and_false,Bool.true_and,Bool.false_and])
   exact mS
  refine wx_put (T:=24) (vs:=encR m1) rfl rfl rfl rfl rfl rfl rfl (fun D ht=> ?_) ?_
  ·
   have n11:D 12=false:=ht.not
   have n10:D 11=true:=ht.early (i:=11) (f:=60) (by decide+kernel)
   (simp only [gat,put,upd,Nat.reduceEqDiff,Nat.reduceAdd,reduceIte,n10,n11,cond_true,cond_false,List.nil_append,List.cons_append,Bool.and_true,Bool.and_false,Bool.true_and,Bool.false_and])
   refine ⟨_,_,.hd,?_,?_⟩
   ·
    exact Nat.le_of_ble_eq_true rfl
   ·
    exact mS
  repeat' (first|refine sT ?_|refine sS ?_|refine sX ?_|refine sM fun _=> ?_|(refine sC ?_ ?_<;>intro hb<;>try omega)|(refine sCX ?_ ?_<;>intro hb<;>try omega)|fail)
  intro D hD
  have n10:=hD 11 (by decide)
  have n11:=hD 12 (by decide)
  (simp only [gat,put,upd,Nat.reduceEqDiff,Nat.reduceAdd,reduceIte,n10,n11,cond_true,cond_false,List.nil_append,List.cons_append,Bool.and_true,Bool.and_false,Bool.true_and,Bool.false_and])
  cases m2
  ·
   repeat' (first|refine sT ?_|refine sS ?_|refine sN ?_|refine sM fun _=> ?_|(refine sC ?_ ?_<;>intro hb<;>try omega)|fail)
   refine ⟨i+1,⟨hlt,hrec⟩,by omega,?_,?_,?_⟩
   ·
    exact sB
   ·
    exact sB
   ·
    exact mS
  ·
   repeat' (first|refine sT ?_|refine sS ?_|refine sN ?_|refine sM fun _=> ?_|(refine sC ?_ ?_<;>intro hb<;>try omega)|fail)
   refine ret1 eIO rfl rfl (.nil _) ?_
   rw [show L.any (touch r)=true from hrec]
 ·
  have e2:i=L.length:=by omega
  subst e2
  rw [List.drop_length] at hrec
  rw [hrec]
  repeat' (first|refine sT ?_|refine sS ?_|refine sN ?_|refine sM fun _=> ?_|(refine sC ?_ ?_<;>intro hb<;>try omega)|fail)
  all_goals first
   |(exfalso;omega)
   |exact ret1 eIO rfl rfl (.nil _) rfl
theorem found_cases (L:List En) (a:Rf):(idxQ L a= -1∧findE L a=none)∨ ∃ (i:Nat) (h:i<L.length),idxQ L a=(i:Int)∧findE L a=some L[i]:=by
 unfold idxQ findE
 cases hf:L.findIdx? (fun e=>decide (e.at_=a)) with
 |none=>
  left
  refine ⟨rfl,?_⟩
  rw [List.findIdx?_eq_none_iff] at hf
  rw [List.find?_eq_none]
  exact fun e he=>by simpa using hf e he
 |some i=>
  right
  obtain ⟨h,h1,h2⟩:=List.findIdx?_eq_some_iff_getElem.1 hf
  exact ⟨i,h,rfl,List.find?_eq_some_iff_getElem.2 ⟨h1,i,h,rfl,fun j hj=>by simpa using h2 j hj⟩⟩
theorem RGOk.keys {R:List Blk} {L:List En} {G:Gr} (h:RGOk R L G):L.map En.at_=keysG G:=by
 rw [keysG,← h.rel,List.map_map];rfl
end Go.SL
namespace Go.SL
open Go Go.Proofs Go.ChangeShapes Go.WideShapes Go.ChangeAt Go.RowKit Go.Deep
section
variable {H:Type} {enc:TypeId × Value→H} {P:Program} {w:World} {base:Nat} {spare:Nat→Bool} {held:Bool}
end
section
variable {H:Type} {enc:TypeId × Value→H} {w:World} {base:Nat} {spare:Nat→Bool} {held:Bool}
set_option maxRecDepth 100000 in
theorem open_put {v:Value} {d:DataW H} {p:List MemPlace} (hv:Value.okWide Tryz.prog w .any base 73 v) (h:DataW.Trod enc Tryz.prog w 0 spare held 73 v d p): ∃ r:Pu,v= .agg (encPu r).toArray∧okPu r:=by
 obtain ⟨fuel,hf⟩:=h
 obtain ⟨cs,rfl,_⟩:=okWide_struct Tryz.underlying73 hv
 obtain ⟨r,e,hr⟩:=trod_put hf
 exact ⟨r,by rw [← e];simp [Value.cells],hr⟩
end
end Go.SL
namespace Go.SL
open Go Go.Proofs
attribute [local irreducible] W WL WQ WG WA WX WLI WR WT WC VOp RW thn blk cutP scp retP retPP endB FnAt FnP ceP
section
variable {R:List Blk} {E:List En} {clock:Nat} {G:Gr} (h:GOk R E clock G) (gg gm:Nat) {H:List Blk} (hs:MSub (gB gg gm (E.map En.m) clock++R) H) (w0:World)
include h hs
variable (hl:G.length≤900)
include hl
variable (hG:GrOk G)
include hG
end
section
variable {R:List Blk} {Q:List En} {G:Gr} (h:RGOk R Q G) (hl:G.length≤900) (gr:Nat) (Ar:Option Nat) (cr:Nat) {H:List Blk} (hs:MSub (rgB gr Ar cr Q++R) H) (w0:World)
include h hl hs
variable (hG:GrOk G)
include hG
end
theorem Gp.subB (x:Gp):MSub (rgB x.gr x.A x.cap x.Q++x.R) x.H:=MSub.appR _ _
section
variable (x:Gp) (G:Gr) (h:x.ok G) {H:List Blk} (hs:MSub x.H H) (w0:World)
include h hs
variable (hl:G.length≤900)
include hl
end
end Go.SL
namespace Go.SL
open Go Go.Proofs
attribute [local irreducible] W WL WQ WG WA WX WLI WR WT WC WE VOp RW thn blk cutP scp retP retPP endB FnAt FnIn FnP ceP
set_option maxHeartbeats 1000000 in
theorem check23_at (g:Nat) (A:List Rf) (L:List Rct) (av lv:Value) (w:World) (ha:Reads w av A.length (A.flatMap encF)) (hl:Reads w lv L.length (L.flatMap encR)) (hA:A.length≤1000000) (hL:L.length≤1000000):
  Pure Tryz.prog 102 [.pointer (some ⟨g,0,none⟩),av,lv] w (.int .i64 (checkR A L)):=by
 obtain ⟨Aa,ca,rfl,ha1,ha2,ha3⟩:=ha
 obtain ⟨Al,cl,rfl,hl1,hl2,hl3⟩:=hl
 refine fn_at Tryz.func102 rfl Tryz.ntmps102 rfl ?_
 repeat' (first|refine sT ?_|refine sS ?_|refine sM fun _=> ?_|(refine sC ?_ ?_<;>intro hb<;>try omega)|fail)
 refine w_loopK [1,2] rfl (fun i:Nat=> [(7,.int .i64 (i:Int))]) (fun _=> []) (fun i=>i≤A.length∧A.all (fun a=>a.valid)=(A.drop i).all (fun a=>a.valid)) (fun i=>A.length - i) 0 ⟨Nat.zero_le _,rfl⟩ sB (MSub.refl _) ?_
 rintro i ⟨hi,hrec⟩
 by_cases hlt:i<A.length
 ·
  obtain ⟨gl,ol,rfl,hrl⟩:=ha3 (by omega)
  have he:=hrl.elem encF_len i hlt
  rw [List.drop_eq_getElem_cons hlt,List.all_cons] at hrec
  generalize A[i]=a at he hrec
  have hV: ∀ w',Pure Tryz.prog 76 [.agg (encF a).toArray] w' (.bool a.valid):=fun w' =>refValid_at a.col a.row w'
  generalize a.valid=b at hV hrec
  repeat' (first|((with_reducible apply wl_v);exact rfl;(with_reducible apply v_indexAddr (j:=i));exact rfl;exact rfl;exact hlt)|((with_reducible apply wl_v);exact rfl;(with_reducible apply v_loadw_ro);exact rfl;exact he;exact rfl)|((with_reducible apply wl_callp);exact rfl;exact rfl;(intro w hm;exact hV w))|refine sT ?_|refine sS ?_|refine sN ?_|refine sM fun _=> ?_|(refine sC ?_ ?_<;>intro hb<;>try omega)|fail)
  all_goals first
   |(exfalso;omega)
   |(refine ret1 eIO rfl rfl (.nil _) ?_;rw [checkR,hrec];simp_all;done)
   |(refine ⟨i+1,⟨hlt,?_⟩,by omega,by exact sB,by exact sB,MSub.refl _⟩;simp_all;done)
 ·
  rw [List.drop_eq_nil_of_le (show A.length≤i by omega)] at hrec
  repeat' (first|refine sT ?_|refine sS ?_|refine sN ?_|refine sM fun _=> ?_|(refine sC ?_ ?_<;>intro hb<;>try omega)|fail)
  all_goals first|(exfalso;omega)|skip
  refine w_loopK [2] rfl (fun i:Nat=> [(8,.int .i64 (i:Int))]) (fun _=> []) (fun i=>i≤L.length∧L.all rectOk=(L.drop i).all rectOk) (fun i=>L.length - i) 0 ⟨Nat.zero_le _,rfl⟩ sB (MSub.refl _) ?_
  rintro i ⟨hi,hrec2⟩
  by_cases hlt:i<L.length
  ·
   obtain ⟨gl,ol,rfl,hrl⟩:=hl3 (by omega)
   have he:=hrl.elem encR_len i hlt
   rw [List.drop_eq_getElem_cons hlt,List.all_cons] at hrec2
   generalize L[i]=r at he hrec2
   have hV:=fun w' =>refRect_at r w'
   have hz:=rectE_zero r
   generalize rectE r=re at hV hz
   generalize rectOk r=b at hz hrec2
   repeat' (first|((with_reducible apply wl_v);exact rfl;(with_reducible apply v_indexAddr (j:=i));exact rfl;exact rfl;exact hlt)|((with_reducible apply wl_v);exact rfl;(with_reducible apply v_loadw_ro);exact rfl;exact he;exact rfl)|((with_reducible apply wl_callp);exact rfl;exact rfl;(intro w hm;exact hV w))|refine sT ?_|refine sS ?_|refine sN ?_|refine sM fun _=> ?_|(refine sC ?_ ?_<;>intro hb<;>try omega)|fail)
   all_goals first
    |(exfalso;omega)
    |(refine ret1 eIO rfl rfl (.nil _) ?_;rw [checkR,hrec,hrec2];simp_all;done)
    |(refine ⟨i+1,⟨hlt,?_⟩,by omega,by exact sB,by exact sB,MSub.refl _⟩;simp_all;done)
  ·
   rw [List.drop_eq_nil_of_le (show L.length≤i by omega)] at hrec2
   repeat' (first|refine sT ?_|refine sS ?_|refine sN ?_|refine sM fun _=> ?_|(refine sC ?_ ?_<;>intro hb<;>try omega)|fail)
   all_goals first
    |(exfalso;omega)
    |(refine ret1 eIO rfl rfl (.nil _) ?_;rw [checkR,hrec,hrec2];rfl)
end Go.SL
namespace Go.SL
open Go
section
variable {G:Gr} {b:Rf}
theorem farF_key {c:Rf} (h:disF G b c≠0):c∈keysG G:=(farF_wy.1 h).choose_spec.key
end
section
variable {G:Gr} (hG:GrOk G)
include hG
end
section
open Classical in
theorem far_reach {G:Gr} {a b:Rf}:decide (disF G b a≠0)=reachF G a b:=by
 unfold reachF
 rw [Bool.eq_iff_iff,decide_eq_true_eq,decide_eq_true_eq,farF_rc]
end
def tchB (G:Gr) (i k:Nat):Bool:=match (keysG G)[i]?,(keysG G)[k]? with
 |some c,some d=>touchesU (usesG G c) (oneA d.col d.row)
 |_,_=>false
section
variable {G:Gr}
theorem tchB_iff {i k:Nat}:tchB G i k=true↔ ∃ c d,(keysG G)[i]? =some c∧(keysG G)[k]? =some d∧touchesU (usesG G c) (oneA d.col d.row)=true:=by
 unfold tchB
 constructor
 ·
  intro h
  split at h
  ·
   rename_i c d h1 h2;exact ⟨c,d,h1,h2,h⟩
  ·
   cases h
 ·
  rintro ⟨c,d,h1,h2,h⟩
  rw [h1,h2];exact h
end
end Go.SL
namespace Go.SL
open Go Go.Proofs
attribute [local irreducible] W WL WQ WG WA WX WLI WR WT WC WE VOp RW thn blk cutP scp retP retPP endB FnAt FnIn FnP ceP
theorem tchB_at {R:List Blk} {L:List En} {G:Gr} (h:RGOk R L G) (hG:GrOk G) {i k:Nat} (hi:i<L.length) (hk:k<L.length):tchB G i k=touchesU L[i].uses (oneA L[k].at_.col L[k].at_.row):=by
 have hki: ∀ j (hj:j<L.length),(keysG G)[j]? =some L[j].at_:=fun j hj=>by
  rw [← h.keys,List.getElem?_map,List.getElem?_eq_getElem hj];rfl
 have hu:usesG G L[i].at_=L[i].uses:=by
  have hm:L[i].abs∈G:=by rw [← h.rel];exact List.mem_map.2 ⟨L[i],List.getElem_mem hi,rfl⟩
  exact usesG_mem hG.sort hm
 unfold tchB
 rw [hki i hi,hki k hk]
 simp only
 rw [hu]
theorem found_at {L:List En} {a:Rf} {e:En} (h:findE L a=some e):e.at_=a:=by
 have:=List.find?_some h
 simpa using this
theorem found_none {R:List Blk} {L:List En} {G:Gr} (hR:RGOk R L G) {a:Rf} (h:findE L a=none):a∉keysG G:=fun hm=>by
 rw [← hR.keys] at hm
 obtain ⟨e,he,h1⟩:=List.mem_map.1 hm
 have:=List.find?_eq_none.1 h e he
 simp [h1] at this
end Go.SL
namespace Go.SL
open Go
def natC (n:Nat) (f:Nat→Nat):List Value:=(List.range n).map fun k=> .int .i64 (f k:Int)
theorem natC_len (n:Nat) (f:Nat→Nat):(natC n f).length=n:=by simp [natC]
theorem nCg {n:Nat} {f:Nat→Nat} {k:Nat} (h:k<n):(natC n f)[0+k*1]? =some (.int .i64 (f k:Int)):=by
 unfold natC
 rw [Nat.zero_add,Nat.mul_one,List.getElem?_map,List.getElem?_range h];rfl
theorem nCs {n:Nat} {f:Nat→Nat} {k v:Nat}:(natC n f).set (0+k*1) (.int .i64 (v:Int))=natC n (fun j=>if j=k then v else f j):=by
 rw [Nat.zero_add,Nat.mul_one]
 apply List.ext_getElem?
 intro j
 unfold natC
 by_cases hj:j<n
 ·
  by_cases e:k=j
  ·
   subst e
   rw [List.getElem?_set_self (by simpa using hj),List.getElem?_map,List.getElem?_range hj]
   simp
  ·
   rw [List.getElem?_set_ne e,List.getElem?_map,List.getElem?_map,List.getElem?_range hj]
   have e2: ¬ j=k:=fun h=>e h.symm
   simp [e2]
 ·
  rw [List.getElem?_eq_none (by simp;omega),List.getElem?_eq_none (by simp;omega)]
theorem nCc {n:Nat} {f g:Nat→Nat} (h: ∀ k,k<n→f k=g k):natC n f=natC n g:=by
 unfold natC
 exact List.map_congr_left fun k hk=>by rw [h k (List.mem_range.1 hk)]
theorem natC_zero (n:Nat):((List.range (n*1)).map fun i=> [Value.int .i64 0][i % [Value.int .i64 0].length]!)=natC n fun _=>0:=by
 simp [natC,Nat.mod_one]
def dT (G:Gr) (b:Rf) (m j:Nat):Nat:=match (keysG G)[j]? with
 |some c=>farN G b m c
 |none=>0
def dMid (G:Gr) (b:Rf) (m i j:Nat):Nat:=if j<i then dT G b (m+1) j else dT G b m j
def dHit (G:Gr) (b:Rf) (m i k:Nat):Bool:=(List.range k).any fun a=>decide (dT G b m a=m) && tchB G i a
def dOne (G:Gr) (b:Rf) (i:Nat):Bool:=match (keysG G)[i]? with
 |some c=>touchesU (usesG G c) (oneA b.col b.row)
 |none=>false
section
variable {G:Gr} {b:Rf}
theorem dT_zero (j:Nat):dT G b 0 j=0:=by unfold dT;split<;>rfl
theorem dT_keep {m j:Nat} (h:dT G b m j≠0):dT G b (m+1) j=dT G b m j:=by
 unfold dT at*
 split at h
 ·
  rename_i c hc
  exact farN_keep h
 ·
  exact absurd rfl h
theorem dT_new {m i:Nat} (hi:i<G.length) (h:dT G b m i=0):dT G b (m+1) i=if m=0 then (if dOne G b i then 1 else 0) else (if dHit G b m i G.length then m+1 else 0):=by
 have hk:i<(keysG G).length:=by rw [keysG,List.length_map];exact hi
 have hkc:(keysG G)[i]? =some (keysG G)[i]:=List.getElem?_eq_getElem hk
 have hmem:=List.getElem_mem hk
 unfold dT at h ⊢
 rw [hkc] at h ⊢
 simp only at h ⊢
 rw [farN,if_neg (by omega)]
 by_cases hm:m=0
 ·
  subst hm
  rw [if_pos rfl]
  have e:hitF G b (farN G b 0) 0 (keysG G)[i]=dOne G b i:=by unfold hitF dOne;rw [if_pos rfl,hkc]
  rw [e]
  cases dOne G b i<;>simp [hmem]
 ·
  rw [if_neg hm]
  have e:hitF G b (farN G b m) m (keysG G)[i]=dHit G b m i G.length:=by
   unfold hitF dHit
   rw [if_neg hm,Bool.eq_iff_iff,List.any_eq_true,List.any_eq_true]
   constructor
   ·
    rintro ⟨d,hd,h1⟩
    rw [Bool.and_eq_true,decide_eq_true_eq] at h1
    obtain ⟨a,ha,rfl⟩:=List.getElem_of_mem hd
    have hac:(keysG G)[a]? =some (keysG G)[a]:=List.getElem?_eq_getElem ha
    refine ⟨a,List.mem_range.2 (by rw [keysG,List.length_map] at ha;exact ha),?_⟩
    rw [Bool.and_eq_true,decide_eq_true_eq]
    exact ⟨by unfold dT;rw [hac];exact h1.1,tchB_iff.2 ⟨_,_,hkc,hac,h1.2⟩⟩
   ·
    rintro ⟨a,ha,h1⟩
    rw [Bool.and_eq_true,decide_eq_true_eq] at h1
    obtain ⟨c,d,h2,h3,h4⟩:=tchB_iff.1 h1.2
    rw [hkc] at h2
    cases h2
    refine ⟨d,List.mem_of_getElem? h3,?_⟩
    rw [Bool.and_eq_true,decide_eq_true_eq]
    have h5:=h1.1
    unfold dT at h5
    rw [h3] at h5
    exact ⟨h5,h4⟩
  rw [e]
  cases dHit G b m i G.length<;>simp [hmem]
theorem dMid_eq {m i k:Nat} (hm:m≠0):(dMid G b m i k=m)↔(dT G b m k=m):=by
 unfold dMid
 split
 ·
  constructor
  ·
   intro h
   by_cases h0:dT G b m k=0
   ·
    exfalso
    have h1:dT G b (m+1) k=m:=h
    unfold dT at h1 h0
    split at h1
    ·
     rename_i c hc
     have h2:=(farN_lev h1 hm).1
     rw [hc] at h0
     simp only at h0
     omega
    ·
     omega
   ·
    rw [dT_keep h0] at h;exact h
  ·
   intro h
   rw [dT_keep (by omega)];exact h
 ·
  exact Iff.rfl
theorem dHit_succ {m i k:Nat}:dHit G b m i (k+1)=(dHit G b m i k||(decide (dT G b m k=m) && tchB G i k)):=by
 unfold dHit
 rw [List.range_succ,List.any_append]
 simp
theorem dMid_next {m i n:Nat} {v:Nat} (hv:v=dT G b (m+1) i):natC n (fun j=>if j=i then v else dMid G b m i j)=natC n (dMid G b m (i+1)):=nCc fun j _=>by
 unfold dMid
 by_cases e:j=i
 ·
  subst e;rw [if_pos rfl,if_pos (by omega)];exact hv
 ·
  rw [if_neg e]
  by_cases h:j<i
  ·
   rw [if_pos h,if_pos (by omega)]
  ·
   rw [if_neg h,if_neg (by omega)]
theorem dMid_zero (m n:Nat):natC n (dMid G b m 0)=natC n (dT G b m):=nCc fun j _=>by unfold dMid;rw [if_neg (by omega)]
theorem dMid_full (m n:Nat):natC n (dMid G b m n)=natC n (dT G b (m+1)):=nCc fun j h=>by unfold dMid;rw [if_pos h]
end
end Go.SL
namespace Go.SL
open Go Go.Proofs
attribute [local irreducible] W WL WQ WG WA WX WLI WR WT WC WE VOp RW thn blk cutP scp retP retPP endB FnAt FnIn FnP ceP
theorem dMid_skip {G:Gr} {b:Rf} {m i n:Nat} (h:dT G b (m+1) i=dT G b m i):natC n (dMid G b m i)=natC n (dMid G b m (i+1)):=nCc fun j _=>by
 unfold dMid
 by_cases e:j=i
 ·
  subst e;rw [if_neg (by omega),if_pos (by omega)];exact h.symm
 ·
  by_cases h1:j<i
  ·
   rw [if_pos h1,if_pos (by omega)]
  ·
   rw [if_neg h1,if_neg (by omega)]
def dRow (G:Gr) (b:Rf) (m i:Nat) (v:Nat):Nat→Nat:=fun j=>if j=i then v else dMid G b m i j
theorem dRow_same {G:Gr} {b:Rf} {m i n:Nat} (h:dT G b m i=0):natC n (dMid G b m i)=natC n (dRow G b m i 0):=nCc fun j _=>by
 unfold dRow
 by_cases e:j=i
 ·
  subst e;rw [if_pos rfl];unfold dMid;rw [if_neg (by omega)];exact h
 ·
  rw [if_neg e]
theorem dRow_set {G:Gr} {b:Rf} {m i n v w:Nat}:natC n (fun j=>if j=i then w else dRow G b m i v j)=natC n (dRow G b m i w):=nCc fun j _=>by
 unfold dRow
 by_cases e:j=i
 ·
  rw [if_pos e,if_pos e]
 ·
  rw [if_neg e,if_neg e,if_neg e]
theorem dRow_get {G:Gr} {b:Rf} {m i v k:Nat} (hm:m≠0) (h:dT G b m i=0) (hv:v=0∨v=m+1):(dRow G b m i v k=m)↔(dT G b m k=m):=by
 unfold dRow
 by_cases e:k=i
 ·
  subst e
  rw [if_pos rfl,h]
  rcases hv with rfl|rfl<;>omega
 ·
  rw [if_neg e];exact dMid_eq hm
set_option maxHeartbeats 8000000 in
theorem rfar_in (g : Nat) (A : Option Nat) (cap : Nat) (L : List En) (G : Gr) (b : Rf) (R : List Blk) (w0 : World) (hR : RGOk R L G) (hG : GrOk G) (hlen : L.length ≤ 900) :
    FnIn Tryz.prog 103 [.pointer (some ⟨g,0,none⟩),keyF b] w0 (rgB g A cap L++R) fun v H=> ∃ gd,v= .slice (some ⟨gd,0,none⟩) L.length L.length∧H= .own (some gd) 3 1 L.length L.length (natC L.length (dT G b (G.length+1)))::(rgB g A cap L++R):=by
  refine fn_in Tryz.func103 rfl Tryz.ntmps103 rfl ?_
  have hGn:=hR.len
  have htch:=fun i k hi hk=>tchB_at (i:=i) (k:=k) hR hG hi hk
  have hki: ∀ j (hj:j<L.length),(keysG G)[j]? =some L[j].at_:=fun j hj=>by
    rw [← hR.keys,List.getElem?_map,List.getElem?_eq_getElem hj];rfl
  have hui: ∀ j (hj:j<L.length),usesG G L[j].at_=L[j].uses:=fun j hj=>by
    have hm:L[j].abs∈G:=by rw [← hR.rel];exact List.mem_map.2 ⟨L[j],List.getElem_mem hj,rfl⟩
    exact usesG_mem hG.sort hm
  have hone: ∀ j (hj:j<L.length),dOne G b j=touchesU L[j].uses (oneA b.col b.row):=fun j hj=>by
    unfold dOne;rw [hki j hj];simp only;rw [hui j hj]
  unfold rgB
  simp only [List.append_eq,List.cons_append,List.nil_append]
  generalize hn:L.length=n at hlen hGn ⊢
  repeat' (first|((with_reducible apply wl_makeSlice (c:=n));(iterate 3 exact rfl);omega;(simp only [maxLen];omega);intro gd)|refine sT ?_|refine sS ?_|refine sM fun _=> ?_|(refine sC ?_ ?_<;>intro hb<;>try omega)|fail)
  rename_i g3
  refine w_subH (.own (some gd) 3 1 n n (natC n (dT G b 0)):: .box g3 38 (encF b):: .box g 129 [sl A n cap]:: .own A 132 4 n cap (L.flatMap encQ)::R) (by rw [show natC n (dT G b 0)=natC n (fun _=>0) from nCc fun j _=>dT_zero j,← natC_zero];exact mS) ?_
  refine w_loopK [0,3,5] rfl (fun m:Nat=> [(6,.int .i64 ((m+1:Nat):Int))]) (fun m=> .own (some gd) 3 1 n n (natC n (dT G b m)):: .box g3 38 (encF b):: .box g 129 [sl A n cap]:: .own A 132 4 n cap (L.flatMap encQ)::R) (fun m=>m≤n+1) (fun m=>n+1 - m) 0 (Nat.zero_le _) sB mS ?_
  rintro m hm
  by_cases hlm:m<n+1
  · repeat' (first | refine sT ?_ | refine sS ?_ | refine sN ?_ | refine sM fun _ => ?_ | (refine sC ?_ ?_ <;> intro hb <;> try omega) | fail)
    all_goals first|(exfalso;omega)|skip
    rw [← dMid_zero (m:=m)]
    refine w_loopK [0,3,5,6] rfl (fun i:Nat=> [(7,.int .i64 (i:Int))]) (fun i=> .own (some gd) 3 1 n n (natC n (dMid G b m i)):: .box g3 38 (encF b):: .box g 129 [sl A n cap]:: .own A 132 4 n cap (L.flatMap encQ)::R) (fun i=>i≤n) (fun i=>n - i) 0 (Nat.zero_le _) sB mS ?_
    rintro i hi
    by_cases hlt:i<n
    · refine w_some (A:=A) pK (by omega) fun gl hA=> ?_
      subst hA
      have hdi:=nCg (f:=dMid G b m i) hlt
      rw [show dMid G b m i i=dT G b m i by unfold dMid;rw [if_neg (by omega)]] at hdi
      by_cases hd0:dT G b m i=0
      · have hnew := dT_new (b := b) (m := m) (i := i) (by omega) hd0
        rw [hd0] at hdi
        have hli:i<L.length:=by omega
        have hai:=encQ_all hli
        have hoke:=hR.en L[i] (List.getElem_mem hli)
        have hT:=fun (r:Rct) (H' :List Blk) (hs:MSub R H') (w' :World) (hm:Mem w0 w' H')=>rTouches_at L[i] r w' (hoke.uses _ w' (hs.use hm)) (by have:=hoke.ul;omega)
        have hTb:=hT (oneA b.col b.row)
        rw [← hone i hli] at hTb
        have htk:=fun k (hk:k<L.length)=>htch i k hli hk
        generalize L[i]=e at hai hoke hT hTb htk
        rw [dRow_same hd0]
        by_cases hm0:m=0
        · subst hm0
          rw [if_pos rfl] at hnew
          have hset:=nCs (n:=n) (f:=dRow G b 0 i 0) (k:=i) (v:=1)
          rw [dRow_set] at hset
          have hfin:natC n (dRow G b 0 i (if dOne G b i=true then 1 else 0))=natC n (dMid G b 0 (i+1)):=dMid_next hnew.symm
          have hd1:=nCg (f:=dRow G b 0 i 0) hlt
          rw [show dRow G b 0 i 0 i=0 by unfold dRow;rw [if_pos rfl]] at hd1
          generalize hon:dOne G b i=on at hTb hfin
          have hset' :(natC n (dRow G b 0 i 0)).set (0+i*1) (.int .i64 1)=natC n (dRow G b 0 i 1):=hset
          clear hset
          have hset:=hset'
          have hjoin: ∀ v,v=(if on=true then 1 else 0)→natC n (dRow G b 0 i v)=natC n (dMid G b 0 (i+1)):=fun v hv=>by rw [hv];exact hfin
          cases on
          all_goals (
            repeat' (first|((with_reducible apply wl_v (d:=36));exact rfl;(with_reducible apply v_indexAddr (j:=i));exact rfl;exact rfl;exact hlt)|((with_reducible apply wl_v (d:=37));exact rfl;(with_reducible apply v_load_own);exact rfl;exact pK;exact hd1)|((with_reducible apply w_draw (id:=9));kernel_rfl;kernel_rfl)|((with_reducible apply wq_v (d:=47));exact rfl;(with_reducible apply v_indexAddr (j:=i));exact rfl;exact rfl;exact hlt)|((with_reducible apply wq_v (d:=48));exact rfl;(with_reducible apply v_loads_own (ys:=encQ e));exact rfl;exact pK;exact hai;exact rfl)|((with_reducible apply wq_callp (f:=104));exact rfl;exact rfl;(intro w' hm;exact refOne_at _ w'))|((with_reducible apply wq_callp (f:=83));exact rfl;exact rfl;exact fun w' hm=>hTb _ mS w' hm)|((with_reducible apply wl_v (d:=55));exact rfl;(with_reducible apply v_indexAddr (j:=i));exact rfl;exact rfl;exact hlt)|((with_reducible apply wl_store_own (g:=gd));exact rfl;exact rfl;exact pK;exact rfl;(rw [natC_len];omega);rw [hset])|refine sT ?_|refine sS ?_|refine sQ ?_|refine sN ?_|refine sNQ ?_|refine sD ?_|refine sM fun _=> ?_|(refine sC ?_ ?_<;>intro hb<;>try omega)|(refine sCQ ?_ ?_<;>intro hb<;>try omega)|fail)
            )
          all_goals first|(exfalso;omega)|skip
          · refine w_loopK [0,3,5,6,7] rfl (fun k:Nat=> [(8,.int .i64 (k:Int))]) (fun _=> .own (some gd) 3 1 n n (natC n (dRow G b 0 i 0)):: .box g3 38 (encF b):: .box g 129 [sl (some gl) n cap]:: .own (some gl) 132 4 n cap (L.flatMap encQ)::R) (fun k=>k≤n) (fun k=>n - k) 0 (Nat.zero_le _) sB mS ?_
            rintro k hk
            by_cases hlk:k<n
            · repeat' (first|((with_reducible apply w_draw (id:=14));kernel_rfl;kernel_rfl)|refine sT ?_|refine sS ?_|refine sQ ?_|refine sN ?_|refine sNQ ?_|refine sD ?_|refine sM fun _=> ?_|(refine sC ?_ ?_<;>intro hb<;>try omega)|(refine sCQ ?_ ?_<;>intro hb<;>try omega)|fail)
              all_goals first
                |(exfalso;omega)
                |(refine ⟨k+1,hlk,by omega,by exact sB,by exact sB,by exact mS⟩;done)
                |trace_state
            · rw [hjoin 0 rfl]
              repeat' (first|refine sT ?_|refine sS ?_|refine sN ?_|refine sM fun _=> ?_|(refine sC ?_ ?_<;>intro hb<;>try omega)|fail)
              all_goals first
                |(exfalso;omega)
                |(refine ⟨i+1,hlt,by omega,by exact sB,by exact sB,by exact mS⟩;done)
                |trace_state
          · refine w_loopK [0,3,5,6,7] rfl (fun k:Nat=> [(8,.int .i64 (k:Int))]) (fun _=> .own (some gd) 3 1 n n (natC n (dRow G b 0 i 1)):: .box g3 38 (encF b):: .box g 129 [sl (some gl) n cap]:: .own (some gl) 132 4 n cap (L.flatMap encQ)::R) (fun k=>k≤n) (fun k=>n - k) 0 (Nat.zero_le _) sB mS ?_
            rintro k hk
            by_cases hlk:k<n
            · repeat' (first|((with_reducible apply w_draw (id:=14));kernel_rfl;kernel_rfl)|refine sT ?_|refine sS ?_|refine sQ ?_|refine sN ?_|refine sNQ ?_|refine sD ?_|refine sM fun _=> ?_|(refine sC ?_ ?_<;>intro hb<;>try omega)|(refine sCQ ?_ ?_<;>intro hb<;>try omega)|fail)
              all_goals first
                |(exfalso;omega)
                |(refine ⟨k+1,hlk,by omega,by exact sB,by exact sB,by exact mS⟩;done)
                |trace_state
            · rw [hjoin 1 rfl]
              repeat' (first|refine sT ?_|refine sS ?_|refine sN ?_|refine sM fun _=> ?_|(refine sC ?_ ?_<;>intro hb<;>try omega)|fail)
              all_goals first
                |(exfalso;omega)
                |(refine ⟨i+1,hlt,by omega,by exact sB,by exact sB,by exact mS⟩;done)
                |trace_state
        · rw [if_neg hm0] at hnew
          have hd1:=nCg (f:=dRow G b m i 0) hlt
          rw [show dRow G b m i 0 i=0 by unfold dRow;rw [if_pos rfl]] at hd1
          repeat' (first|((with_reducible apply wl_v (d:=36));exact rfl;(with_reducible apply v_indexAddr (j:=i));exact rfl;exact rfl;exact hlt)|((with_reducible apply wl_v (d:=37));exact rfl;(with_reducible apply v_load_own);exact rfl;exact pK;exact hd1)|((with_reducible apply w_draw (id:=9));kernel_rfl;kernel_rfl)|refine sT ?_|refine sS ?_|refine sQ ?_|refine sN ?_|refine sNQ ?_|refine sD ?_|refine sM fun _=> ?_|(refine sC ?_ ?_<;>intro hb<;>try omega)|(refine sCQ ?_ ?_<;>intro hb<;>try omega)|fail)
          all_goals first|(exfalso;omega)|skip
          refine w_loopK [0,3,5,6,7] rfl (fun k:Nat=> [(8,.int .i64 (k:Int))]) (fun k=> .own (some gd) 3 1 n n (natC n (dRow G b m i (if dHit G b m i k then m+1 else 0))):: .box g3 38 (encF b):: .box g 129 [sl (some gl) n cap]:: .own (some gl) 132 4 n cap (L.flatMap encQ)::R) (fun k=>k≤n) (fun k=>n - k) 0 (Nat.zero_le _) sB (by rw [show dHit G b m i 0=false from rfl];exact mS) ?_
          rintro k hk
          by_cases hlk:k<n
          · have hlk' :k<L.length:=by omega
            have hsu:=dHit_succ (G:=G) (b:=b) (m:=m) (i:=i) (k:=k)
            have hck:=encQ_cell hlk'
            have htc:=htk k hlk'
            have hTk:=hT (oneA L[k].at_.col L[k].at_.row)
            rw [← htc] at hTk
            generalize L[k]=d at hck hTk
            generalize tchB G i k=tt at hTk hsu
            obtain ⟨v,hv⟩: ∃ v,v=(if dHit G b m i k then m+1 else 0):=⟨_,rfl⟩
            have hv2:v=0∨v=m+1:=by rw [hv];split<;>simp
            have hgk:=nCg (f:=dRow G b m i v) hlk
            have hset:=nCs (n:=n) (f:=dRow G b m i v) (k:=i) (v:=m+1)
            rw [dRow_set] at hset
            have hiff:=dRow_get (k:=k) hm0 hd0 hv2
            rw [← hv]
            have hsu2:dHit G b m i (k+1)=(dHit G b m i k||(decide (dRow G b m i v k=m) && tt)):=by rw [hsu,decide_eq_decide.2 hiff]
            clear hsu hiff
            generalize dRow G b m i v k=xx at hgk hsu2
            repeat' (first|((with_reducible apply w_draw (id:=14));kernel_rfl;kernel_rfl)|((with_reducible apply wq_v (d:=70));exact rfl;(with_reducible apply v_indexAddr (j:=k));exact rfl;exact rfl;exact hlk)|((with_reducible apply wq_v (d:=71));exact rfl;(with_reducible apply v_load_own);exact rfl;exact pK;exact hgk)|((with_reducible apply wq_v (d:=73));exact rfl;(with_reducible apply v_predN);exact rfl;exact rfl;omega;(simp only [maxLen];omega))|((with_reducible apply wq_v (d:=82));exact rfl;(with_reducible apply v_indexAddr (j:=i));exact rfl;exact rfl;exact hlt)|((with_reducible apply wq_v (d:=83));exact rfl;(with_reducible apply v_loads_own (ys:=encQ e));exact rfl;exact pK;exact hai;exact rfl)|((with_reducible apply wq_v (d:=89));exact rfl;(with_reducible apply v_indexAddr (j:=k));exact rfl;exact rfl;exact hlk)|((with_reducible apply wq_v (d:=91));exact rfl;(with_reducible apply v_loads_own (ys:=encF d.at_));exact rfl;exact pK;exact hck;exact rfl)|((with_reducible apply wq_callp (f:=104));exact rfl;exact rfl;(intro w' hm;exact refOne_at _ w'))|((with_reducible apply wq_callp (f:=83));exact rfl;exact rfl;exact fun w' hm=>hTk _ mS w' hm)|((with_reducible apply wl_v (d:=98));exact rfl;(with_reducible apply v_indexAddr (j:=i));exact rfl;exact rfl;exact hlt)|((with_reducible apply wl_store_own (g:=gd));exact rfl;exact rfl;exact pK;exact rfl;(rw [natC_len];omega);rw [hset])|refine sT ?_|refine sS ?_|refine sQ ?_|refine sN ?_|refine sNQ ?_|refine sD ?_|refine sM fun _=> ?_|(refine sC ?_ ?_<;>intro hb<;>try omega)|(refine sCQ ?_ ?_<;>intro hb<;>try omega)|fail)
            all_goals first
              |(exfalso;omega)
              | (have h3 : dHit G b m i (k + 1) = true := by
                   rw [hsu2,hb,decide_eq_true (show xx=m by omega)];simp
                 refine ⟨k+1,hlk,by omega,by exact sB,by exact sB,by rw [h3,if_pos rfl];exact mS⟩;done)
              | (have h3 : dHit G b m i (k + 1) = dHit G b m i k := by
                   rw [hsu2]
                   first
                     |(rw [decide_eq_false (show ¬ xx=m by omega)];simp;done)
                     |(rw [hb];simp;done)
                 refine ⟨k+1,hlk,by omega,by exact sB,by exact sB,by rw [h3,← hv];exact mS⟩;done)
              |trace_state
          · have hk2:k=n:=by omega
            subst hk2
            have hf:natC k (dRow G b m i (if dHit G b m i k=true then m+1 else 0))=natC k (dMid G b m (i+1)):=dMid_next (by rw [hnew,hGn])
            rw [hf]
            repeat' (first|refine sT ?_|refine sS ?_|refine sN ?_|refine sM fun _=> ?_|(refine sC ?_ ?_<;>intro hb<;>try omega)|fail)
            all_goals first
              |(exfalso;omega)
              |(refine ⟨i+1,hlt,by omega,by exact sB,by exact sB,by exact mS⟩;done)
              |trace_state
      · have hd1:dT G b (m+1) i=dT G b m i:=dT_keep hd0
        have hnz: ¬ ((dT G b m i:Nat):Int)≤0:=by omega
        rw [dMid_skip hd1]
        generalize dT G b m i=dv at hdi hnz
        rw [dMid_skip hd1] at hdi
        repeat' (first|((with_reducible apply wl_v (d:=36));exact rfl;(with_reducible apply v_indexAddr (j:=i));exact rfl;exact rfl;exact hlt)|((with_reducible apply wl_v (d:=37));exact rfl;(with_reducible apply v_load_own);exact rfl;exact pK;exact hdi)|refine sT ?_|refine sS ?_|refine sN ?_|refine sM fun _=> ?_|(refine sC ?_ ?_<;>intro hb<;>try omega)|fail)
        all_goals first
          |(exfalso;omega)
          |(refine ⟨i+1,hlt,by omega,by exact sB,by exact sB,by exact mS⟩;done)
          |trace_state
    · have hi2:i=n:=by omega
      subst hi2
      rw [dMid_full]
      repeat' (first|refine sT ?_|refine sS ?_|refine sN ?_|refine sM fun _=> ?_|(refine sC ?_ ?_<;>intro hb<;>try omega)|fail)
      all_goals first
        |(exfalso;omega)
        |(refine ⟨m+1,by omega,by omega,by exact sB,by exact sB,by exact mS⟩;done)
        |trace_state
  · have hm2:m=n+1:=by omega
    subst hm2
    rw [hGn]
    repeat' (first|refine sT ?_|refine sS ?_|refine sN ?_|refine sM fun _=> ?_|(refine sC ?_ ?_<;>intro hb<;>try omega)|fail)
    all_goals first
      |(exfalso;omega)
      |(exact ret1 eIO rfl rfl mS ⟨gd,rfl,rfl⟩)
      |trace_state
theorem dT_full {G:Gr} {b c:Rf} {j:Nat} (h:(keysG G)[j]? =some c):dT G b (G.length+1) j=disF G b c:=by unfold dT;rw [h];rfl
set_option maxHeartbeats 8000000 in
theorem rPath_in (g:Nat) (A:Option Nat) (cap:Nat) (L:List En) (G:Gr) (a b:Rf) (R:List Blk) (w0:World) (hR:RGOk R L G) (hG:GrOk G) (hlen:L.length≤900):
    FnIn Tryz.prog 54 [.pointer (some ⟨g,0,none⟩),keyF a,keyF b] w0 (rgB g A cap L++R) fun v H=> ∃ A' c',v= .tuple #[sl A' (pathR G a b).length c',.bool (pathB G a b),.int .i64 (checkR [a,b] [])]∧H= .own A' 38 2 (pathR G a b).length c' ((pathR G a b).flatMap encF)::(rgB g A cap L++R):=by
  refine fn_in Tryz.func54 rfl Tryz.ntmps54 rfl ?_
  have hck:=fun w (v:Value) (hr:Reads w v 2 (encF a++encF b))=>check23_at g [a,b] [] v (.slice none 0 0) w (by simpa using hr) (reads_nil w) (by simp) (by simp)
  have hI:=fun (H' :List Blk) (hs:MSub (rgB g A cap L) H') (w' :World) (hm:Mem w0 w' H')=>rIndex_at g _ cap L a w' (RGm.of hs hm) (by omega)
  have hfar:=fun c:Blk=>fun d:Blk=>fun e:Blk=>rfar_in g A cap L G b (c::d::e::R) w0 (hR.sub (MSub.drop .hd (MSub.drop .hd (MSub.drop .hd (MSub.refl _))))) hG hlen
  have hGn:=hR.len
  have hki: ∀ j (hj:j<L.length),(keysG G)[j]? =some L[j].at_:=fun j hj=>by
    rw [← hR.keys,List.getElem?_map,List.getElem?_eq_getElem hj];rfl
  have hui: ∀ j (hj:j<L.length),usesG G L[j].at_=L[j].uses:=fun j hj=>by
    have hm:L[j].abs∈G:=by rw [← hR.rel];exact List.mem_map.2 ⟨L[j],List.getElem_mem hj,rfl⟩
    exact usesG_mem hG.sort hm
  have hdg: ∀ j (hj:j<L.length),(natC L.length (dT G b (G.length+1)))[0+j*1]? =some (.int .i64 (disF G b L[j].at_:Int)):=fun j hj=>by
    rw [nCg hj,dT_full (hki j hj)]
  unfold pathR pathB
  refine w_nilrow 38 2 ?_
  by_cases hc0:checkR [a,b] []=0
  · rw [if_pos hc0]
    rw [hc0] at hck ⊢
    rw [decide_eq_true rfl,Bool.true_and]
    unfold pathF
    rcases found_cases L a with ⟨hidx,hf⟩|⟨i0,hlt0,hidx,hf⟩
    · have h0:disF G b a=0:=Classical.byContradiction fun h=>found_none hR hf (farF_key h)
      rw [hidx] at hI
      rw [if_pos h0,decide_eq_false (fun h=>h h0)]
      unfold rgB at hI hfar ⊢
      simp only [List.append_eq,List.cons_append,List.nil_append] at hI hfar ⊢
      repeat' (first|((with_reducible apply wl_callp (f:=102));exact rfl;exact rfl;(intro w' hm;exact hck w' _ (Reads.of_own (A:=some _) hm pK)))|((with_reducible apply wl_callin (f:=103));exact rfl;exact rfl;exact FnIn.msub (hfar (.own none 38 2 0 0 []) (.box _ 38 (encF b)) (.box _ 38 (encF a))) mS;rintro _ _ ⟨gd,rfl,rfl⟩)|((with_reducible apply wl_callp (f:=81));exact rfl;exact rfl;exact fun w' hm=>hI _ mS w' hm)|refine sT ?_|refine sS ?_|refine sM fun _=> ?_|(refine sC ?_ ?_<;>intro hb<;>try omega)|fail)
      all_goals first
        |(exfalso;omega)
        |(exact ret3 eIO rfl rfl rfl rfl mS ⟨none,0,rfl,rfl⟩)
        |trace_state
    · have hat:=found_at hf
      have hd0:=hdg i0 hlt0
      rw [hat] at hd0
      rw [hidx] at hI
      obtain ⟨N,hN⟩: ∃ N,disF G b a=N:=⟨_,rfl⟩
      have hfl:=farF_le G b a
      have hw:=wayF_len (G:=G) (b:=b) N a
      rw [hN] at hd0 hfl ⊢
      unfold rgB at hI hfar ⊢
      simp only [List.append_eq,List.cons_append,List.nil_append] at hI hfar ⊢
      by_cases hN0:N=0
      · subst hN0
        rw [if_pos rfl,decide_eq_false (fun h=>h rfl)]
        repeat' (first|((with_reducible apply wl_callp (f:=102));exact rfl;exact rfl;(intro w' hm;exact hck w' _ (Reads.of_own (A:=some _) hm pK)))|((with_reducible apply wl_callin (f:=103));exact rfl;exact rfl;exact FnIn.msub (hfar (.own none 38 2 0 0 []) (.box _ 38 (encF b)) (.box _ 38 (encF a))) mS;rintro _ _ ⟨gd,rfl,rfl⟩)|((with_reducible apply wl_callp (f:=81));exact rfl;exact rfl;exact fun w' hm=>hI _ mS w' hm)|((with_reducible apply wl_v (d:=35));exact rfl;(with_reducible apply v_indexAddr (j:=i0));exact rfl;exact rfl;exact hlt0)|((with_reducible apply wl_v (d:=36));exact rfl;(with_reducible apply v_load_own);exact rfl;exact pK;exact hd0)|refine sT ?_|refine sS ?_|refine sM fun _=> ?_|(refine sC ?_ ?_<;>intro hb<;>try omega)|fail)
        all_goals first
          |(exfalso;omega)
          |(exact ret3 eIO rfl rfl rfl rfl mS ⟨none,0,rfl,rfl⟩)
          |trace_state
      · rw [if_neg hN0,decide_eq_true hN0]
        have hKl:(keysG G).length=L.length:=by rw [keysG,List.length_map,hGn]
        have hstp: ∀ n i (hi:i<L.length),disF G b L[i].at_=n+2→ ∃ j,∃ h:j<L.length,nxtF G b (n+1) L[i].at_=some L[j].at_∧disF G b L[j].at_=n+1∧tchB G i j=true∧ ∀ k (hk:k<L.length),k<j→(decide (disF G b L[k].at_=n+1) && tchB G i k)=false:=fun n i hi hc=>by
          obtain ⟨d,h1,h2,h3,h4⟩:=stepF_some hc (by omega)
          have h5:=h1
          unfold nxtF at h5
          obtain ⟨h6,j,h7,rfl,h8⟩:=List.find?_eq_some_iff_getElem.1 h5
          have hj:j<L.length:=by omega
          have hKj: ∀ k (hk:k<L.length),(keysG G)[k]'(by omega)=L[k].at_:=fun k hk=>by
            have:=hki k hk
            rw [List.getElem?_eq_getElem (by omega)] at this
            exact Option.some.inj this
          rw [hKj j hj] at h1 h3 h4
          have htc: ∀ k (hk:k<L.length),tchB G i k=touchesU (usesG G L[i].at_) (oneA L[k].at_.col L[k].at_.row):=fun k hk=>by unfold tchB;rw [hki i hi,hki k hk]
          refine ⟨j,hj,h1,h3,by rw [htc j hj];exact h4,fun k hk hkj=> ?_⟩
          have:=h8 k hkj
          rw [hKj k hk] at this
          rw [htc k hk]
          rwa [Bool.not_eq_true'] at this
        have htch:=fun i k hi hk=>tchB_at (i:=i) (k:=k) hR hG hi hk
        repeat' (first|((with_reducible apply wl_callp (f:=102));exact rfl;exact rfl;(intro w' hm;exact hck w' _ (Reads.of_own (A:=some _) hm pK)))|((with_reducible apply wl_callin (f:=103));exact rfl;exact rfl;exact FnIn.msub (hfar (.own none 38 2 0 0 []) (.box _ 38 (encF b)) (.box _ 38 (encF a))) mS;rintro _ _ ⟨gd,rfl,rfl⟩)|((with_reducible apply wl_callp (f:=81));exact rfl;exact rfl;exact fun w' hm=>hI _ mS w' hm)|((with_reducible apply wl_v (d:=35));exact rfl;(with_reducible apply v_indexAddr (j:=i0));exact rfl;exact rfl;exact hlt0)|((with_reducible apply wl_v (d:=36));exact rfl;(with_reducible apply v_load_own);exact rfl;exact pK;exact hd0)|((with_reducible apply wl_v (d:=43));exact rfl;(with_reducible apply v_indexAddr (j:=i0));exact rfl;exact rfl;exact hlt0)|((with_reducible apply wl_v (d:=44));exact rfl;(with_reducible apply v_load_own);exact rfl;exact pK;exact hd0)|refine sT ?_|refine sS ?_|refine sM fun _=> ?_|(refine sC ?_ ?_<;>intro hb<;>try omega)|fail)
        all_goals first|(exfalso;omega)|skip
        rename_i g4 g5 gq g12
        refine w_loopK [0,5,10] rfl (fun y:Nat × List Rf × Option Nat × Nat × Nat=> [(11,.int .i64 (y.1:Int)),(12,sl y.2.2.1 y.2.1.length y.2.2.2.1),(13,.int .i64 (y.2.2.2.2:Int))]) (fun y=> .own y.2.2.1 38 2 y.2.1.length y.2.2.2.1 (y.2.1.flatMap encF):: .own (some gd) 3 1 L.length L.length (natC L.length (dT G b (G.length+1))):: .box g 129 [sl A L.length cap]:: .own A 132 4 L.length cap (L.flatMap encQ):: .box g5 38 (encF b)::R) (fun y=>y.2.2.2.2≠0∧ ∃ h:y.1<L.length,disF G b L[y.1].at_=y.2.2.2.2∧wayF G b N a=y.2.1++(tailF G b y.2.2.2.2 L[y.1].at_++ [b])) (fun y=>y.2.2.2.2) (i0,[a],some g12,1,N) ⟨hN0,hlt0,by dsimp only;rw [hat];exact hN,by dsimp only;rw [hat];rfl⟩ sB mS ?_
        rintro ⟨i,out,A9,c9,n⟩ ⟨hn0,hi,hdi,hway⟩
        dsimp only at hn0 hi hdi hway ⊢
        have hol:out.length≤1000:=by
          have:=congrArg List.length hway
          rw [List.length_append] at this
          omega
        have hnl:=farF_le G b L[i].at_
        rw [hdi] at hnl
        by_cases hn1:n=1
        · subst hn1
          rw [tailF_one,List.nil_append] at hway
          have hwl:(out++ [b]).length=out.length+1:=by simp
          rw [hway]
          repeat' (first|((with_reducible apply wl_append);(iterate 3 exact rfl);(repeat first|exact .hd|apply Sel.tl|apply In.tl);(intro w hm;exact hm.cells_own (by (repeat first|exact .hd|apply Sel.tl|apply In.tl)));exact rfl;(simp [Value.oneCell',sl]);omega;(simp only [maxLen];omega);(intro A2 cap2 hA2))|refine sT ?_|refine sS ?_|refine sN ?_|refine sM fun _=> ?_|(refine sC ?_ ?_<;>intro hb<;>try omega)|fail)
          all_goals first
            |(exfalso;omega)
            | (refine ret3 eIO rfl rfl rfl rfl (H' := .own A2 38 2 (out.length + 1) cap2 (out.flatMap encF ++ encF b) :: .box g 129 [sl A L.length cap] :: .own A 132 4 L.length cap (L.flatMap encQ) :: R) mS ⟨A2, cap2, by rw [hwl], ?_⟩
               rw [hwl,List.flatMap_append,List.flatMap_cons,List.flatMap_nil,List.append_nil])
            |trace_state
        · obtain ⟨n,rfl⟩: ∃ m,n=m+2:=⟨n - 2,by omega⟩
          obtain ⟨j,hj,hs1,hs2,hs3,hs4⟩:=hstp n i hi hdi
          have hway2:wayF G b N a=(out++ [L[j].at_])++(tailF G b (n+1) L[j].at_++ [b]):=by
            rw [hway,show tailF G b (n+2) L[i].at_=L[j].at_::tailF G b (n+1) L[j].at_ by rw [tailF,if_neg (by omega),hs1]]
            simp
          refine w_some (A:=A) pK (by omega) fun gl hA=> ?_
          subst hA
          repeat' (first|refine sT ?_|refine sS ?_|refine sN ?_|refine sM fun _=> ?_|(refine sC ?_ ?_<;>intro hb<;>try omega)|fail)
          all_goals first|(exfalso;omega)|skip
          refine w_loopK [0,5,10,11,12,13] rfl (fun y:Nat × Int=> [(15,.int .i64 (y.1:Int)),(14,.int .i64 y.2)]) (fun _=> .own A9 38 2 out.length c9 (out.flatMap encF):: .own (some gd) 3 1 L.length L.length (natC L.length (dT G b (G.length+1))):: .box g 129 [sl (some gl) L.length cap]:: .own (some gl) 132 4 L.length cap (L.flatMap encQ):: .box g5 38 (encF b)::R) (fun y=>(y.1≤j∧y.2= -1)∨(y.1=j+1∧y.2=(j:Int))) (fun y=>L.length - y.1) (0, -1) (.inl ⟨Nat.zero_le _,rfl⟩) sB mS ?_
          rintro ⟨k,nx⟩ hk
          dsimp only at hk ⊢
          have hoke:=hR.en L[i] (List.getElem_mem hi)
          have hT:=fun (r:Rct) (H' :List Blk) (hs:MSub R H') (w' :World) (hm:Mem w0 w' H')=>rTouches_at L[i] r w' (hoke.uses _ w' (hs.use hm)) (by have:=hoke.ul;omega)
          rcases hk with ⟨hkj,rfl⟩|⟨rfl,rfl⟩
          · have hkl:k<L.length:=by omega
            have hgk:=hdg k hkl
            have hTk:=hT (oneA L[k].at_.col L[k].at_.row)
            rw [← htch i k hi hkl] at hTk
            have hcase:(decide (disF G b L[k].at_=n+1) && tchB G i k)=decide (k=j):=by
              by_cases hke:k=j
              · subst hke;rw [hs2,hs3];simp
              · rw [hs4 k hkl (by omega),decide_eq_false hke]
            generalize tchB G i k=tt at hTk hcase
            generalize disF G b L[k].at_=dv at hgk hcase
            repeat' (first|((with_reducible apply w_draw (id:=16));kernel_rfl;kernel_rfl)|((with_reducible apply wq_v (d:=64));exact rfl;(with_reducible apply v_indexAddr (j:=k));exact rfl;exact rfl;exact hkl)|((with_reducible apply wq_v (d:=65));exact rfl;(with_reducible apply v_load_own);exact rfl;exact pK;exact hgk)|((with_reducible apply wq_v (d:=67));exact rfl;(with_reducible apply v_predN);exact rfl;exact rfl;omega;(simp only [maxLen];omega))|((with_reducible apply wq_v (d:=75));exact rfl;(with_reducible apply v_indexAddr (j:=i));exact rfl;exact rfl;exact hi)|((with_reducible apply wq_v (d:=76));exact rfl;(with_reducible apply v_loads_own (ys:=encQ L[i]));exact rfl;exact pK;exact encQ_all hi;exact rfl)|((with_reducible apply wq_v (d:=82));exact rfl;(with_reducible apply v_indexAddr (j:=k));exact rfl;exact rfl;exact hkl)|((with_reducible apply wq_v (d:=84));exact rfl;(with_reducible apply v_loads_own (ys:=encF L[k].at_));exact rfl;exact pK;exact encQ_cell hkl;exact rfl)|((with_reducible apply wq_callp (f:=104));exact rfl;exact rfl;(intro w' hm;exact refOne_at _ w'))|((with_reducible apply wq_callp (f:=83));exact rfl;exact rfl;exact fun w' hm=>hTk _ mS w' hm)|refine sT ?_|refine sS ?_|refine sQ ?_|refine sN ?_|refine sNQ ?_|refine sD ?_|refine sM fun _=> ?_|(refine sC ?_ ?_<;>intro hb<;>try omega)|(refine sCQ ?_ ?_<;>intro hb<;>try omega)|fail)
            all_goals first
              |(exfalso;omega)
              | (have hj2 : k = j := by
                   rw [hb,decide_eq_true (show dv=n+1 by omega)] at hcase
                   simpa using hcase.symm
                 subst hj2
                 refine ⟨(k+1,(k:Int)),.inr ⟨rfl,rfl⟩,by dsimp only;omega,by exact sB,by exact sB,by exact mS⟩;done)
              | (have hj2 : ¬ k = j := fun e => by
                   rw [decide_eq_true e,Bool.and_eq_true,decide_eq_true_eq] at hcase
                   first|omega|(rw [hcase.2] at hb;cases hb)
                 refine ⟨(k+1, -1),.inl ⟨by dsimp only;omega,rfl⟩,by dsimp only;omega,by exact sB,by exact sB,by exact mS⟩;done)
              |trace_state
          · have hcj:=encQ_cell hj
            have hnn: ¬ (j:Int)<0:=by omega
            repeat' (first|((with_reducible apply wl_v (d:=96));exact rfl;(with_reducible apply v_indexAddr (j:=j));exact rfl;exact rfl;exact hj)|((with_reducible apply wl_v (d:=98));exact rfl;(with_reducible apply v_loads_own (ys:=encF L[j].at_));exact rfl;exact pK;exact hcj;exact rfl)|((with_reducible apply wl_v (d:=48));exact rfl;(with_reducible apply v_predN);exact rfl;exact rfl;omega;(simp only [maxLen];omega))|((with_reducible apply wl_append);(iterate 3 exact rfl);(repeat first|exact .hd|apply Sel.tl|apply In.tl);(intro w hm;exact hm.cells_own (by (repeat first|exact .hd|apply Sel.tl|apply In.tl)));exact rfl;(simp [Value.oneCell',sl]);omega;(simp only [maxLen];omega);(intro A2 cap2 hA2))|refine sT ?_|refine sS ?_|refine sN ?_|refine sM fun _=> ?_|(refine sC ?_ ?_<;>intro hb<;>try omega)|fail)
            all_goals first
              |(exfalso;omega)
              | (refine ⟨(j, out ++ [L[j].at_], A2, cap2, n + 2 - 1), ⟨by dsimp only; omega, hj, hs2, hway2⟩, by dsimp only; omega, ?_, by exact sB, ?_⟩
                 · dsimp only;rw [List.length_append];exact sB
                 · dsimp only;rw [List.length_append,List.flatMap_append,List.flatMap_cons,List.flatMap_nil,List.append_nil];exact mS)
              |trace_state
  · rw [if_neg hc0,decide_eq_false hc0,Bool.false_and]
    unfold rgB
    simp only [List.append_eq,List.cons_append,List.nil_append]
    repeat' (first|((with_reducible apply wl_callp (f:=102));exact rfl;exact rfl;(intro w' hm;exact hck w' _ (Reads.of_own (A:=some _) hm pK)))|refine sT ?_|refine sS ?_|refine sM fun _=> ?_|(refine sC ?_ ?_<;>intro hb<;>try omega)|fail)
    all_goals first
      |(exfalso;omega)
      |(exact ret3 eIO rfl rfl rfl rfl mS ⟨none,0,rfl,rfl⟩)
      |trace_state
theorem Gp.rpath (x:Gp) {G:Gr} (h:x.ok G) {H:List Blk} (hs:MSub x.H H) (w0:World) (hl:G.length≤900) (a b:Rf):
  FnIn Tryz.prog 54 [x.pb,keyF a,keyF b] w0 H fun v H' => ∃ A cap,v= .tuple #[sl A (pathR G a b).length cap,.bool (pathB G a b),.int .i64 (checkR [a,b] [])]∧H' = .own A 38 2 (pathR G a b).length cap ((pathR G a b).flatMap encF)::H:=by
 refine rd_any (B:=rgB x.gr x.A x.cap x.Q++x.R) (φ:=fun v A cap=>v= .tuple #[sl A (pathR G a b).length cap,.bool (pathB G a b),.int .i64 (checkR [a,b] [])]) (fun F=> ?_) (MSub.trans x.subB hs)
 have h1:=rPath_in x.gr x.A x.cap x.Q G a b (x.R++F) w0 (h.b.sub (MSub.appL x.R F)) h.g (by rw [h.b.len];exact hl)
 rw [List.append_assoc]
 exact h1
theorem one_first (b:Blk) (X:List Blk):MSub (b::X) (X++ [b]):=by
 have h:(X++ [b]).Perm (b::X):=List.perm_append_comm (l₁:=X) (l₂:= [b])
 first|exact MSub.of_perm h|exact MSub.of_perm h.symm
theorem path_reach (G:Gr) (a b:Rf):reachesR G a b=pathB G a b:=by
 unfold reachesR pathB
 rw [far_reach]
set_option maxHeartbeats 8000000 in
theorem ReachPaths_at (L:List Pu) (p:Pu) (tv:Value) (w:World) (ht:Reads w tv L.length (L.flatMap encPu)) (hW:Words w):
  Pure Tryz.prog 10 [tv,.agg (encPu p).toArray] w (.bool true):=by
 have ht' :=ht
 obtain ⟨At,ct,rfl,ht1,ht2,ht3⟩:=ht
 refine fn_at Tryz.func10 rfl Tryz.ntmps10 rfl ?_
 have hcut:=ht'.cut (lo:=0) (hi:=min L.length 25) (sz:=3) (by omega) (by omega)
 generalize hm:min L.length 25=m at hcut
 have hm2:m≤25:=by omega
 have hmL:m≤L.length:=by omega
 have hl1:(L.take m).length=m:=by simp;omega
 have hl2:((L.flatMap encPu).drop (0*3)).take ((m - 0)*3)=(L.take m).flatMap encPu:=by
  rw [Nat.zero_mul,List.drop_zero,Nat.sub_zero,flat_take encPu_len]
 rw [hl2,Nat.sub_zero] at hcut
 generalize L.take m=M at hl1 hcut
 subst hl1
 have hS:=fun (w' :World) (H:List Blk) (hm:Mem w w' H)=>StartP_at M _ w' (hcut.of_w0 hm) (hW.next hm)
 have hGl:=startG_len M
 generalize startG M=G at hS hGl
 have hAp:=fun w=>puAt_at p w
 generalize p.ref=a at hAp
 repeat' (first|((with_reducible apply wl_v);exact rfl;(with_reducible apply v_minN (a:=L.length) (b:=25));exact rfl;exact rfl;exact hm)|((with_reducible apply wl_v);exact rfl;(with_reducible apply v_slice (lo:=0) (hi:=M.length));exact rfl;exact rfl;exact ⟨_,rfl⟩;omega;omega)|((with_reducible apply wl_call (f:=14));exact rfl;exact rfl;(intro w' hm;exact hS w' _ hm);rintro _ _ ⟨x,rfl,rfl,hx⟩;refine wl_subH _ (one_first _ _) ?_)|((with_reducible apply wl_callp);exact rfl;exact rfl;(intro w hm;exact hAp w))|refine sT ?_|refine sS ?_|refine sJ ?_|refine sM fun _=> ?_|(refine sC ?_ ?_<;>intro hb<;>try omega)|fail)
 rename_i g3 g5 g7
 have hl' :G.length≤900:=by omega
 have hrd:=x.rdr hx hl' w
 refine w_loopK [5,7] rfl (fun row:Int=> [(8,.int .i64 row)]) (fun _=> .box g7 38 (encF a):: .box g5 28 [x.pa,x.pb]::x.H) (fun row=>1≤row∧row≤8) (fun row=>(8 - row).toNat) 1 ⟨by omega,by omega⟩ sB mS ?_
 rintro row ⟨hr1,hr2⟩
 by_cases hrow:row≤7
 ·
  repeat' (first|refine sT ?_|refine sS ?_|refine sN ?_|refine sJ ?_|refine sM fun _=> ?_|(refine sC ?_ ?_<;>intro hb<;>try omega)|fail)
  all_goals first|(exfalso;omega)|skip
  refine w_loopK [5,7,8] rfl (fun col:Int=> [(9,.int .i64 col)]) (fun _=> .box g7 38 (encF a):: .box g5 28 [x.pa,x.pb]::x.H) (fun col=>1≤col∧col≤6) (fun col=>(6 - col).toNat) 1 ⟨by omega,by omega⟩ sB mS ?_
  rintro col ⟨hc1,hc2⟩
  by_cases hcol:col≤5
  ·
   have hP:=fun (H:List Blk) (hs:MSub x.H H)=>hrd.path hs a ⟨col,row⟩
   have hQ:=fun (H:List Blk) (hs:MSub x.H H)=>x.rpath hx hs w hl' a ⟨col,row⟩
   have hR:=fun (H:List Blk) (hs:MSub x.H H)=>hrd.reaches hs a ⟨col,row⟩
   rw [path_reach] at hR
   generalize pathR G a ⟨col,row⟩=P at hP hQ
   generalize pathB G a ⟨col,row⟩=y at hP hQ hR
   generalize checkR [a,⟨col,row⟩] []=er at hP hQ hR
   repeat' (first|((with_reducible apply wl_v);exact rfl;(with_reducible apply v_neq_same);exact rfl;exact rfl)|((with_reducible apply wl_v);exact rfl;(with_reducible apply v_neqb_alike);exact rfl;exact rfl)|((with_reducible apply wl_callin (f:=50));exact rfl;exact rfl;exact hP _ mS;rintro _ _ ⟨A11,c11,rfl,rfl⟩)|((with_reducible apply wl_callin (f:=54));exact rfl;exact rfl;exact hQ _ mS;rintro _ _ ⟨A14,c14,rfl,rfl⟩)|((with_reducible apply wl_callin (f:=49));exact rfl;exact rfl;exact hR _ mS;rintro _ _ ⟨rfl,rfl⟩)|((with_reducible apply wl_callp (f:=34));exact rfl;exact rfl;(intro w' hm;exact EqualRefs_to rfl (Reads.of_own (A:=A11) (c:=c11) hm pK) (Reads.of_own (A:=A14) (c:=c14) hm pK)))|refine sT ?_|refine sS ?_|refine sN ?_|refine sJ ?_|refine sM fun _=> ?_|(refine sC ?_ ?_<;>intro hb<;>try omega)|fail)
   all_goals first
    |(exfalso;omega)
    |(refine ⟨col+1,⟨by omega,by omega⟩,by omega,by exact sB,by exact sB,by exact mS⟩;done)
    |trace_state
  ·
   repeat' (first|refine sT ?_|refine sS ?_|refine sN ?_|refine sJ ?_|refine sM fun _=> ?_|(refine sC ?_ ?_<;>intro hb<;>try omega)|fail)
   all_goals first
    |(exfalso;omega)
    |(refine ⟨row+1,⟨by omega,by omega⟩,by omega,by exact sB,by exact sB,by exact mS⟩;done)
    |trace_state
 ·
  repeat' (first|((with_reducible apply wl_callp (f:=53));exact rfl;exact rfl;(intro w' hm;exact awake23_at w' (hW.next hm)))|refine sT ?_|refine sS ?_|refine sN ?_|refine sJ ?_|refine sM fun _=> ?_|(refine sC ?_ ?_<;>intro hb<;>try omega)|fail)
  all_goals first
   |(exfalso;omega)
   |((refine rT1 ?_);rfl)
   |trace_state
end Go.SL

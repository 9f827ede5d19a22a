/-
  Lemmas and walks, put together: Sl13.
-/
import Derived.Test.YthgjiibbmkiplaaGreatDoorKw16
set_option linter.unusedSimpArgs false
set_option linter.unusedVariables false
set_option maxRecDepth 20000
namespace Go.SL
open Go Go.RowKit
theorem MP {P:Program} {f:FuncId} {args:Array Value} {w:World} {u v:Value} {A B:World→Prop} (hi:P.inits.idxOf? f=none) (h1:Calls P f args w fun e w' =>e= .returned u∧A w') (h2:Calls P f args w fun e w' =>e= .returned v∧B w'):u=v:=by
 obtain ⟨e1,w1,fr1,⟨rfl,_⟩,⟨n1,s1⟩,f1,l1⟩:=h1 [];obtain ⟨e2,w2,fr2,⟨rfl,_⟩,⟨n2,s2⟩,f2,l2⟩:=h2 [];have d1:=step_leave_done l1 (by rw [f1];exact hi);have d2:=step_leave_done l2 (by rw [f2];exact hi);have key: ∀ (a b:Nat) (m x y:Machine) (o:Outcome) (w:World),a≤b→runN P a m= .next x→runN P b m= .next y→step P x= .ended o w→x=y:=by
  intro a b m x y o w hab hx hy hd;obtain ⟨c,rfl⟩:=Nat.exists_eq_add_of_le hab;rw [runN_add,hx] at hy
  cases c with
  |zero=>simp only [runN,Stepped.next.injEq] at hy;exact hy
  |succ c=>simp [runN,hd] at hy
 have hm:lone fr1 [] w1=lone fr2 [] w2:=by
  rcases Nat.le_total n1 n2 with h|h
  ·exact key _ _ _ _ _ _ _ h s1 s2 d1
  ·exact (key _ _ _ _ _ _ _ h s2 s1 d2).symm
 rw [hm,d2] at d1;simp only [Stepped.ended.injEq,Outcome.done.injEq] at d1;exact d1.1.symm
section
variable {P:Program} {ops:Array Oper} {md:Region.Mode}
variable (V:Nat→Option (Gh→Value)) (C:(Nat→Gh)→Array Bool→World→Prop)
variable {V C}
theorem GX.of_same {γ:Nat→Gh} {i:Nat} {o:Oper} {v:Value} {a a' :Act} (hy:GX P md ops V C γ i o v a) (he:execOp a'.eval o=execOp a.eval o)
 (hw:Region.wanted o (yielded ops a'.tmps)=Region.wanted o (yielded ops a.tmps)):GX P md ops V C γ i o v a' :=by
 cases hy with
 |pass h1 h2 h3=>exact .pass (hw.trans h1) h2 h3
 |det h1 h2 h3=>exact .det (hw.trans h1) h2 (by rw [he];exact h3)
 |non h1 φ h2 h3 h4=>exact .non (hw.trans h1) φ h2 h3 (by rw [he];exact h4)
def xOp (P:Program) (md:Region.Mode) (ops:Array Oper) (V:Nat→Option (Gh→Value)) (C:(Nat→Gh)→Array Bool→World→Prop) (γ:Nat→Gh) (i:Nat) (K:Act→Prop) (a:Act):Prop:=
 ∃ o v,ops[i]? =some o∧GX P md ops V C γ i o v a∧K (a.put o.dst v)
def HM (P:Program) (md:Region.Mode) (ops:Array Oper) (V:Nat→Option (Gh→Value)) (C:(Nat→Gh)→Array Bool→World→Prop) (γ:Nat→Gh) (Q:Act→Prop):Nat→Array Bool→Act→Prop
 |0,L,a=>Region.ready md ops L= []∧Q a
 |f+1,L,a=>(Region.ready md ops L= []→Q a)∧ ∀ i∈Region.ready md ops L,xOp P md ops V C γ i (HM P md ops V C γ Q f (L.setIfInBounds i true)) a
theorem Nf {γ:Nat→Gh} {i:Nat} {a:Act} {K K' :Act→Prop} (h: ∀ a,K a→K' a) (hh:xOp P md ops V C γ i K a):xOp P md ops V C γ i K' a:=
 let ⟨o,v,h1,h2,h3⟩:=hh
 ⟨o,v,h1,h2,h _ h3⟩
theorem QD {γ:Nat→Gh} {i j:Nat} {oi oj:Oper} {v:Value} (hj:ops[j]? =some oj) (hap:oi.apart ops oj=true)
 (hsi: ∀ cs b,oi.op≠ .select cs b) (hsj: ∀ cs b,oj.op≠ .select cs b) {K:Act→Prop} {a:Act}
 (hy:GX P md ops V C γ i oi v a) (h:xOp P md ops V C γ j K (a.put oi.dst v)):
 xOp P md ops V C γ j (fun a' =>GX P md ops V C γ i oi v a' ∧K (a'.put oi.dst v)) a:=by
 obtain ⟨h1,h2,h3⟩:=Oper.apart_spec hap;obtain ⟨o,u,ho,hg,hk⟩:=h;have e:o=oj:=Option.some.inj (ho.symm.trans hj);subst e;refine ⟨o,u,ho,hg.of_same (execOp_put o hsj a oi.dst v h1).symm (wanted_put o a oi.dst v h1).symm,hy.of_same (execOp_put oi hsi a o.dst u h3) (wanted_put oi a o.dst u h3),?_⟩;rw [← Act.put_comm a v u h2];exact hk
theorem zx {γ:Nat→Gh} {Q:Act→Prop} {i:Nat} {oi:Oper} {v:Value} (hi:ops[i]? =some oi) (hsel: ∀ (j:Nat) (o:Oper) cs b,ops[j]? =some o→o.op≠ .select cs b):
 ∀ (f:Nat) (L:Array Bool) (a:Act),
  (∀ j oj,ops[j]? =some oj→j≠i→L.getD j true=false→(∀ e∈oj.after,Region.binds md e=true→e.on≠i)→oi.apart ops oj=true)→
  i∈Region.ready md ops L→GX P md ops V C γ i oi v a→HM P md ops V C γ Q f (L.setIfInBounds i true) (a.put oi.dst v)→HM P md ops V C γ Q (f+1) L a
 |0,L,a,_,hr,hy,H=>⟨fun h=>(by rw [h] at hr;cases hr),fun j hj=>by
   by_cases hji:j=i
   ·subst hji;exact ⟨oi,v,hi,hy,H⟩
   ·have:=ready_mono hj hji;rw [H.1] at this;cases this⟩
 |f+1,L,a,hfree,hr,hy,H=>⟨fun h=>(by rw [h] at hr;cases hr),fun j hj=>by
   by_cases hji:j=i
   ·subst hji;exact ⟨oi,v,hi,hy,H⟩
   ·have h1:=H.2 j (ready_mono hj hji);obtain ⟨hjun,oj,hoj,hall⟩:=mem_ready.1 hj;have hnot: ∀ e∈oj.after,Region.binds md e=true→e.on≠i:=fun e he hb heq=>by
     have h1:=hall e he hb;have h0:=(mem_ready.1 hr).1;rw [heq] at h1;rcases Y1 i L.size with h' |h'
     ·simp [h'] at h0 h1;rw [h0] at h1;cases h1
     ·simp [Zr h'] at h1
    have h2:=QD hoj (hfree j oj hoj hji hjun hnot) (fun cs b=>hsel i oi cs b hi) (fun cs b=>hsel j oj cs b hoj) hy h1
    have hfree' : ∀ k ok,ops[k]? =some ok→k≠i→(L.setIfInBounds j true).getD k true=false→
     (∀ e∈ok.after,Region.binds md e=true→e.on≠i)→oi.apart ops ok=true:=fun k ok hk hki hun hno=>by
     refine hfree k ok hk hki ?_ hno;by_cases hjk:j=k
     ·subst hjk;exact hjun
     ·rw [getD_set_ne true hjk] at hun;exact hun
    refine Nf (fun a' h3=>zx hi hsel f (L.setIfInBounds j true) a' hfree' (ready_mono hr (Ne.symm hji)) h3.1 ?_) h2;rw [ZR _ _ hji];exact h3.2⟩
theorem HK {γ:Nat→Gh} {Q:Act→Prop} (hs:Region.noSelect ops=true): ∀ (l:List Oper) (k:Nat) (L:Array Bool) (a:Act),(∀ j,l[j]? =ops[k+j]?)→
 Region.lexFrom md ops l.length k L=true→wpX P md ops V C γ Q l k a→HM P md ops V C γ Q l.length L a
 | [],_,_,_,_,hB,h=>⟨by simpa [Region.lexFrom] using hB,h⟩
 |o::l,k,L,a,hl,hB,h=>by
  have h0:ops[k]? =some o:=by simpa using (hl 0).symm
  simp only [Xs,Region.lexFrom,Xo] at hB;obtain ⟨⟨hr,hf⟩,hB'⟩:=hB;obtain ⟨v,hy,hK⟩:=h
  exact zx h0 (Region.noSelect_spec hs) l.length L a (Region.free_spec h0 hf) (by simpa using hr) hy
   (HK hs l (k+1) _ _ (fun j=>by have:=hl (j+1);simpa [Y8,Zu 1 j] using this) hB' hK)
def qY (L:Array Bool) (γ γ' :Nat→Gh):Prop:= ∀ i,L.getD i false=true→γ i=γ' i
theorem cP {Q:(Nat→Gh)→Act→Prop} {Q' :Exit→Act→World→Prop} (hloc: ∀ L γ γ' w,qY L γ γ' →C γ L w→C γ' L w) (hsz: ∀ γ L w,C γ L w→L.size=ops.size) (hQ: ∀ γ L a w,Region.ready md ops L= []→C γ L w→Q γ a→Q' .normal a w):
 ∀ (f:Nat) (L:Array Bool) (a:Act) (w:World) (γ:Nat→Gh),C γ L w→(∀ γ',qY L γ γ' →HM P md ops V C γ' (Q γ') f L a)→wpAny P md ops Q' f L a w
 |0,L,a,w,γ,hC,h=>⟨(h γ fun _ _=>rfl).1,hQ γ L a w (h γ fun _ _=>rfl).1 hC (h γ fun _ _=>rfl).2⟩
 |f+1,L,a,w,γ,hC,h=>⟨fun h0=>hQ γ L a w h0 hC ((h γ fun _ _=>rfl).1 h0),fun i hi=>by
   obtain ⟨o,v,ho,hg,hk⟩:=(h γ fun _ _=>rfl).2 i hi;obtain ⟨hun,_⟩:=mem_ready.1 hi;have hlt:i<L.size:=by
    rw [hsz γ L w hC];exact (XK.1 ho).1
   have hi0:L.getD i false=false:=by
    simp [hlt] at hun ⊢;exact hun
   have hsub: ∀ γ' γ'',qY (L.setIfInBounds i true) γ' γ'' →qY L γ' γ'' :=fun γ' γ'' hag j hj=>by
    refine hag j ?_;by_cases e:i=j
    ·subst e;rw [hi0] at hj;cases hj
    ·rw [getD_set_ne false e];exact hj
   have hat: ∀ γ' γ'',qY (L.setIfInBounds i true) γ' γ'' →γ' i=γ'' i:=fun γ' γ'' hag=>hag i (by simp [hlt]);have hupd: ∀ g,qY L γ (upd γ i g):=fun g j hj=>by
    have:j≠i:=fun e=>by subst e;rw [hi0] at hj;cases hj
    simp [upd,this]
   -- what another prophecy says of this operation
   have other: ∀ γ'',qY L γ γ'' → ∃ v'',GX P md ops V C γ'' i o v'' a∧HM P md ops V C γ'' (Q γ'') f (L.setIfInBounds i true) (a.put o.dst v''):=fun γ'' hag=>by
    obtain ⟨o'',v'',ho'',hg'',hk''⟩:=(h γ'' hag).2 i hi;have e:o'' =o:=Option.some.inj (ho''.symm.trans ho);subst e;exact ⟨v'',hg'',hk''⟩
   unfold wpOp;simp only [ho]
   cases hg with
   |pass hw hv hc=>
    subst hv;simp only [hw,X3,if_false];refine cP hloc hsz hQ f _ _ _ γ (hc L w hi hC) fun γ'' hag=> ?_;obtain ⟨v'',hg'',hk''⟩:=other γ'' (hsub _ _ hag)
    cases hg'' with
    |pass _ hv'' _=>subst hv'';exact hk''
    |det hw'' _ _=>rw [hw] at hw'';cases hw''
    |non hw'' _ _ _ _=>rw [hw] at hw'';cases hw''
   |det hw hV hc=>
    simp only [hw,if_true];refine .inl ?_;have h1:=hc L w hi hC;have h2: ∀ γ'',qY L γ γ'' → ∃ v'',KM P (C γ'' (L.setIfInBounds i true)) v'' ((execOp a.eval o).run P w)∧HM P md ops V C γ'' (Q γ'') f (L.setIfInBounds i true) (a.put o.dst v''):=fun γ'' hag=>by
     obtain ⟨v'',hg'',hk''⟩:=other γ'' hag
     cases hg'' with
     |pass hw'' _ _=>rw [hw] at hw'';cases hw''
     |det _ _ hc'' =>exact ⟨v'',hc'' L w hi (hloc L γ γ'' w hag hC),hk''⟩
     |non _ _ hV'' _ _=>rw [hV] at hV'';cases hV''
    unfold Oper.wp;generalize (execOp a.eval o).run P w=r at h1 h2 ⊢
    cases r with
    |ok x w' =>
     cases x<;>simp only [KM] at h1 h2<;>simp only [Oper.upon]
     case value u=>
      obtain ⟨rfl,h3⟩:=h1;refine cP hloc hsz hQ f _ _ _ γ h3 fun γ'' hag=> ?_;obtain ⟨v'',⟨rfl,_⟩,hk''⟩:=h2 γ'' (hsub _ _ hag);exact hk''
     case skip=>
      obtain ⟨rfl,h3⟩:=h1;refine cP hloc hsz hQ f _ _ _ γ h3 fun γ'' hag=> ?_;obtain ⟨v'',⟨rfl,_⟩,hk''⟩:=h2 γ'' (hsub _ _ hag);exact hk''
     case enter g args=>
      obtain ⟨hin,h3⟩:=h1;refine h3.mono fun e w'' ⟨he,h4⟩=> ?_;subst he;refine cP hloc hsz hQ f _ _ _ γ h4 fun γ'' hag=> ?_;obtain ⟨v'',⟨_,h5⟩,hk''⟩:=h2 γ'' (hsub _ _ hag);rw [MP hin h3 h5];exact hk''
    |halt x w' =>simp only [KM] at h1
   |non hw φ hV hv hc=>
    simp only [hw,if_true];refine .inl ?_;have h1:=hc L w hi hC;have h2: ∀ g γ'',qY (L.setIfInBounds i true) (upd γ i g) γ'' →HM P md ops V C γ'' (Q γ'') f (L.setIfInBounds i true) (a.put o.dst (φ g)):=fun g γ'' hag=>by
     have hag' :qY L γ γ'' :=fun j hj=>(hupd g j hj).trans (hsub _ _ hag j hj);have hgi:γ'' i=g:=by rw [← hat _ _ hag];simp [upd]
     obtain ⟨v'',hg'',hk''⟩:=other γ'' hag'
     cases hg'' with
     |pass hw'' _ _=>rw [hw] at hw'';cases hw''
     |det _ hV'' _=>rw [hV] at hV'';cases hV''
     |non _ φ'' hV'' hv'' _=>
      rw [hV] at hV'';injection hV'' with hV'';subst hV'';rw [hv'',hgi] at hk'';exact hk''
    unfold Oper.wp;generalize (execOp a.eval o).run P w=r at h1 ⊢
    cases r with
    |ok x w' =>
     cases x<;>simp only [zq] at h1<;>simp only [Oper.upon]
     case value u=>
      obtain ⟨g,rfl,h3⟩:=h1;exact cP hloc hsz hQ f _ _ _ (upd γ i g) h3 fun γ'' hag=>h2 g γ'' hag
     case skip=>
      obtain ⟨g,hg,h3⟩:=h1;rw [hg];exact cP hloc hsz hQ f _ _ _ (upd γ i g) h3 fun γ'' hag=>h2 g γ'' hag
     case enter k args=>
      refine h1.mono fun e w'' ⟨g,he,h4⟩=> ?_;subst he;exact cP hloc hsz hQ f _ _ _ (upd γ i g) h4 fun γ'' hag=>h2 g γ'' hag
     case row k args=>
      refine Rows.mono h1 fun u w'' ⟨g,he,h4⟩=> ?_;subst he;exact cP hloc hsz hQ f _ _ _ (upd γ i g) h4 fun γ'' hag=>h2 g γ'' hag
    |halt x w' =>simp only [zq] at h1⟩
end
section
variable {P:Program} {n:Fr} {w0:World} {Q:bK} {s:az} {H:List Blk} {l rest:List Oper} {ty:TypeId} {p:String} {af:Array Edge}
def Qx (HL:gX→(Nat→Gh)→List Blk):Prop:= ∀ (D:gX) (γ γ' :Nat→Gh),(∀ i,D i=true→γ i=γ' i)→HL D γ=HL D γ'
theorem QS {id:Nat} (V:Nat→Option (Gh→Value)) (HL:gX→(Nat→Gh)→List Blk) (hm:P.follows .mixedOrders=true) (hB:Region.lexB .any l.toArray=true) (hloc:Qx HL) (h0: ∀ γ,MSub (HL (fun _=>false) γ) H)
 (h: ∀ γ,WX P n w0 l V HL γ (fun s' => ∀ D:gX,(∀ i,i<l.length→D i=true)→Q .normal s' (HL D γ)) l 0 s):W P n w0 (.region id l.toArray true) Q s H:=by
 intro a w hs hmem;have hrep:done (Array.replicate l.toArray.size false)=fun _=>false:=by
  funext i;unfold done;rw [XZ,ZA];split<;>rfl
 let γ0:Nat→Gh:=fun _=>(none,0);have hB' :=hB;simp only [Region.lexB,Xo] at hB';refine wp_region_any hm ?_;refine cP (V:=V) (C:=U2 w0 l HL) (Q:=fun γ a' => ∃ s',St n s' a' ∧ ∀ D:gX,(∀ i,i<l.length→D i=true)→Q .normal s' (HL D γ)) ?_ ?_ ?_ _ _ _ _ γ0 ?_ ?_
 ·rintro L γ γ' w' hag ⟨h1,h2,h3⟩;refine ⟨h1,h2,?_⟩;show Mem w0 w' (HL (done L) γ');rw [hloc (done L) γ' γ fun i hi=>(hag i hi).symm];exact h3
 ·rintro γ L w' ⟨h1,_⟩;simpa using h1
 ·rintro γ L a' w' hr ⟨hsz,hcl,hmem'⟩ ⟨s',h2,h3⟩;refine ⟨s',HL (done L) γ,h2,hmem',h3 _ fun i hi=> ?_⟩
  -- nothing is ready:all is done
  have all: ∀ i,i<l.length→done L i=true:=by
   intro i
   induction i using Nat.strongRecOn with
   |_ i ih=>
    intro hi
    cases hd:done L i with
    |true=>rfl
    |false=>
     exfalso;have hlx: ∀ (f k:Nat) (L0:Array Bool),Region.lexFrom .any l.toArray f k L0=true→ ∀ j o,k≤j→j<k+f→l[j]? =some o→ ∀ x∈oD o,L0.getD x false=true∨(k≤x∧x<j):=by
      intro f
      induction f with
      |zero=>intro k L0 _ j o h1 h2;omega
      |succ f ihf=>
       intro k L0 hlex j o h1 h2 ho x hx;simp only [Region.lexFrom,Xo] at hlex;obtain ⟨⟨hrk,_⟩,hrest⟩:=hlex;by_cases hjk:j=k
       ·subst hjk;obtain ⟨_,o',ho',hall⟩:=mem_ready.1 (by simpa using hrk:j∈Region.ready .any l.toArray L0);rw [X4,ho] at ho';injection ho' with ho';subst ho';obtain ⟨e,he,hb,rfl⟩:=fX.1 hx;exact .inl (hall e he hb)
       ·rcases ihf (k+1) _ hrest j o (by omega) (by omega) ho x hx with h|⟨h3,h4⟩
        ·by_cases hxk:k=x
         ·subst hxk;right;omega
         ·rw [getD_set_ne false hxk] at h;exact .inl h
        ·right;omega
     obtain ⟨o,ho⟩: ∃ o,l[i]? =some o:=⟨_,Xf hi⟩;have hmem:i∈Region.ready .any l.toArray L:=by
      refine mem_ready.2 ⟨?_,o,by simpa using ho,fun e he hb=> ?_⟩
      ·have:i<L.size:=by omega
       unfold done at hd;simp [this] at hd ⊢;exact hd
      ·have hx:=hlx l.toArray.size 0 _ hB'.2 i o (Xn _) (by simpa using hi) ho e.on (fX.2 ⟨e,he,hb,rfl⟩);rcases hx with h|⟨_,h⟩
       ·have:(done (Array.replicate l.toArray.size false)) e.on=true:=h;rw [hrep] at this;cases this
       ·exact ih e.on h (by omega)
     rw [hr] at hmem;cases hmem
  exact all i hi
 ·refine ⟨by simp,fun i o _ hi=>(by rw [hrep] at hi;cases hi),?_⟩;rw [hrep];exact (h0 γ0).use hmem.drew
 ·intro γ' _;have h1:=h γ' a hs (by simp);have:=HK (md:= .any) hB'.1 l.toArray.toList 0 (Array.replicate l.toArray.size false) a (by simp) (by simpa using hB'.2) (by simpa using h1);simpa using this
variable {V:Nat→Option (Gh→Value)} {HL:gX→(Nat→Gh)→List Blk} {γ:Nat→Gh} {K:az→Prop} {k:Nat}
theorem TK (h:K s):WX P n w0 l V HL γ K [] k s:=fun _ hs _=>⟨s,hs,h⟩
def OU:Blk:= .own none 0 0 0 0 []
def gat (D:gX) (γ:Nat→Gh):Nat→Gh:=fun i=>bif D i then γ i else (none,0)
theorem I0 (HX:gX→(Nat→Gh)→List Blk):Qx fun D γ=>HX D (gat D γ):=fun D γ γ' h=>by
 have:gat D γ=gat D γ' :=by
  funext i;unfold gat
  cases hi:D i with
  |false=>rfl
  |true=>exact h i hi
 show HX D (gat D γ)=HX D (gat D γ');rw [this]
theorem NB {id:Nat} (V:Nat→Option (Gh→Value)) (HX:gX→(Nat→Gh)→List Blk) (hm:P.follows .mixedOrders=true) (hB:Region.lexB .any l.toArray=true) (h0: ∀ γ,MSub (HX (fun _=>false) (gat (fun _=>false) γ)) H)
 (h: ∀ γ,WX P n w0 l V (fun D γ=>HX D (gat D γ)) γ (fun s' => ∀ D:gX,(∀ i,i<l.length→D i=true)→Q .normal s' (HX D (gat D γ))) l 0 s):W P n w0 (.region id l.toArray true) Q s H:=
 QS V _ hm hB (I0 HX) h0 h
theorem Turn.early {o:Oper} {D:gX} (ht:Turn l k o D) {i f:Nat} (h:(oD o).any (fun j=>reaches l f j i)=true):D i=true:=by
 obtain ⟨j,hj,hr⟩:=XQ.1 h;exact j0 ht.closed f j i hr (ht.before j hj)
variable {gu:Option (Nat × Bool)}
theorem DW {op:Op} {d:Nat} {v:Value} (hn:Nat.blt d n.sz=true) (hg:gok l s gu=some true) (hV:V k=none) (hv: ∀ D,Turn l k ⟨some d,op,ty,p,af,gu⟩ D→VOp P w0 s (HL D γ) op ty v) (hk: ∀ D,HL (put D k) γ=HL D γ) (h:WX P n w0 l V HL γ K rest (k+1) ((d,v)::s)):
 WX P n w0 l V HL γ K (⟨some d,op,ty,p,af,gu⟩::rest) k s:=by
 intro a hs hl;obtain ⟨h0,hl'⟩:=mW hl;refine ⟨v,.det (eQ rfl hg hs) hV fun L w hr hc=> ?_,h _ (hs.put (Yg ▸ hn) v) hl'⟩;obtain ⟨ht,hd,hnext⟩:=p6 h0 hr hc;have h1:=hv _ ht a.eval w (some d) p af gu hs.eval hc.2.2;rw [h1];exact ⟨rfl,hnext w (by rw [hk];exact hc.2.2)⟩
theorem FP {op:Op} {d:Nat} {φ:Gh→Value} {a:Act} {w:World} {H' :List Blk} {B:Gh→List Blk} (hdn:d<n.sz) (hs:St n s a) (hm:Mem w0 w H')
 (h:WL P n w0 #[] [⟨some d,op,ty,p,af,none⟩] (fun e s' H' =>e= .normal∧ ∃ g,look s' d=some (φ g)∧MSub (B g) H') s H'):zq P φ (fun g w' =>Mem w0 w' (B g)) ((execOp a.eval ⟨some d,op,ty,p,af,gu⟩).run P w):=by
 have h1:=h a w hs hm;unfold wpList at h1;simp only [Region.wanted,if_true] at h1;refine h1.elim (fun h1=> ?_) (fun ⟨_,a0,w1,s',H'',_,_,he,_⟩=>by cases he);have hsz:d<a.tmps.size:=by rw [hs.size];exact hdn
 have nxt: ∀ (v:Value) (w' :World) (a' :Act),a'.tmps[d]? =some v→wpList P #[] (post n w0 fun e s' H' =>e= .normal∧ ∃ g,look s' d=some (φ g)∧MSub (B g) H') [] a' w' → ∃ g,v=φ g∧Mem w0 w' (B g):=by
  rintro v w' a' ha' ⟨s',H'',hs',hm',_,g,hg,hsub⟩;have:=hs'.has d _ hg;rw [ha'] at this;exact ⟨g,Option.some.inj this,hsub.use hm'⟩
 have hput: ∀ (a' :Act) (v:Value),a'.tmps.size=a.tmps.size→(a'.put (some d) v).tmps[d]? =some v:=fun a' v h=>by simp [Act.put,h,hsz]
 have hexec:execOp a.eval ⟨some d,op,ty,p,af,gu⟩=execOp a.eval ⟨some d,op,ty,p,af,none⟩:=rfl;rw [hexec];unfold Oper.wp at h1;generalize (execOp a.eval ⟨some d,op,ty,p,af,none⟩).run P w=r at h1 ⊢
 cases r with
 |ok x w' =>
  cases x<;>simp only [Oper.upon] at h1<;>simp only [zq]
  case value u=>exact nxt u w' _ (hput a u rfl) h1
  case skip=>exact nxt undef w' _ (hput a undef rfl) h1
  case defer dd=>
   obtain ⟨s',H'',hs',_⟩:=h1;have h2:=congrArg List.length (hs'.defers.trans hs.defers.symm);simp [Act.put] at h2
  case enter k args=>
   refine h1.mono fun e w'' he=> ?_
   cases e with
   |returned v=>
    obtain ⟨g,hv,hg⟩:=nxt v w'' _ (hput a v rfl) he;exact ⟨g,by rw [hv],hg⟩
   |panicked c=>
    obtain ⟨s',H'',_,_,he',_⟩:=he;cases he'
   |outgrown=>
    obtain ⟨a0,w1,s',H'',_,_,he',_⟩:=he;cases he'
  case row k args=>exact Rows.mono h1 fun u w'' he=>nxt u w'' _ (hput a u rfl) he
 |halt x w' =>
  cases x<;>simp only [Oper.upon] at h1
  all_goals
   obtain ⟨s',H'',_,_,he',_⟩:=h1;cases he'
theorem xj {op:Op} {d:Nat} {φ:Gh→Value} (hn:Nat.blt d n.sz=true) (hg:gok l s gu=some true) (hV:V k=some φ)
 (h: ∀ D,Turn l k ⟨some d,op,ty,p,af,gu⟩ D→WL P n w0 #[] [⟨some d,op,ty,p,af,none⟩] (fun e s' H' =>e= .normal∧ ∃ g,look s' d=some (φ g)∧MSub (HL (put D k) (upd γ k g)) H') s (HL D γ))
 (h' :WX P n w0 l V HL γ K rest (k+1) ((d,φ (γ k))::s)):WX P n w0 l V HL γ K (⟨some d,op,ty,p,af,gu⟩::rest) k s:=by
 intro a hs hl;obtain ⟨h0,hl'⟩:=mW hl;refine ⟨φ (γ k),.non (eQ rfl hg hs) φ hV rfl fun L w hr hc=> ?_,h' _ (hs.put (Yg ▸ hn) _) hl'⟩;obtain ⟨ht,hd,hnext⟩:=p6 h0 hr hc;have h1:=FP (gu:=gu) (Yg ▸ hn) hs hc.2.2 (h _ ht);have hm2: ∀ g w',Mem w0 w' (HL (put (done L) k) (upd γ k g))→U2 w0 l HL (upd γ k g) (L.setIfInBounds k true) w' :=fun g w' hm' =>by
  obtain ⟨hsz,hcl,_⟩:=hc;have hlt:k<L.size:=by rw [hsz];exact (XJ.1 h0).1
  have hcl' : ∀ i x,l[i]? =some x→done (L.setIfInBounds k true) i=true→ ∀ e∈x.after,Region.binds .any e=true→done (L.setIfInBounds k true) e.on=true:=by
   intro i x hx hi e he hb;rw [hd] at hi ⊢;by_cases hik:i=k
   ·subst hik;rw [h0] at hx;injection hx with hx;have h2:=ht.before e.on (fX.2 ⟨e,by rw [hx];exact he,hb,rfl⟩);unfold put;split
    ·rfl
    ·exact h2
   ·have hi' :done L i=true:=by unfold put at hi;rwa [if_neg hik] at hi
    have:=hcl i x hx hi' e he hb;unfold put;split
    ·rfl
    ·exact this
  exact ⟨by simpa using hsz,hcl',by rw [hd];exact hm'⟩
 generalize (execOp a.eval ⟨some d,op,ty,p,af,gu⟩).run P w=r at h1 ⊢
 cases r with
 |ok x w' =>
  cases x<;>simp only [zq] at h1 ⊢
  case value u=>obtain ⟨g,hv,hg⟩:=h1;exact ⟨g,hv,hm2 g w' hg⟩
  case skip=>obtain ⟨g,hv,hg⟩:=h1;exact ⟨g,hv,hm2 g w' hg⟩
  case enter k args=>exact h1.mono fun e w'' ⟨g,hv,hg⟩=>⟨g,hv,hm2 g w'' hg⟩
  case row k args=>exact Rows.mono h1 fun u w'' ⟨g,hv,hg⟩=>⟨g,hv,hm2 g w'' hg⟩
 |halt x w' =>simp only [zq] at h1
theorem QE {op:Op} (hg:gok l s gu=some true) (hV:V k=none) (hv: ∀ D,Turn l k ⟨none,op,ty,p,af,gu⟩ D→ ∀ a w,St n s a→Mem w0 w (HL D γ)→ ∃ w',(execOp a.eval ⟨none,op,ty,p,af,gu⟩).run P w= .ok .skip w' ∧Mem w0 w' (HL (put D k) γ)) (h:WX P n w0 l V HL γ K rest (k+1) s):
 WX P n w0 l V HL γ K (⟨none,op,ty,p,af,gu⟩::rest) k s:=by
 intro a hs hl;obtain ⟨h0,hl'⟩:=mW hl;refine ⟨undef,.det (eQ rfl hg hs) hV fun L w hr hc=> ?_,h _ (hs.put_none _) hl'⟩;obtain ⟨ht,hd,hnext⟩:=p6 h0 hr hc;obtain ⟨w',hr',hm'⟩:=hv _ ht a w hs hc.2.2;rw [hr'];exact ⟨rfl,hnext w' hm'⟩
theorem xg {t T g off m:Nat} {x a:Operand} {v:Value} {vs:List Value} [Size P t m] (hg:gok l s gu=some true) (hV:V k=none) (ha:ev s a=some (.pointer (some ⟨g,off,none⟩))) (hx:ev s x=some v) (hv:v.cells=vs.toArray) (hl:vs.length=m) (h1:vs.all Value.oneCell' =true)
 (hnew: ∀ D,Turn l k ⟨none,.store t a x,ty,p,af,gu⟩ D→ ∃ xs R,Sel (.box g T xs) (HL D γ) R∧off+m≤xs.length∧MSub (HL (put D k) γ) (.box g T (xs.take off++vs++xs.drop (off+m))::R)) (h:WX P n w0 l V HL γ K rest (k+1) s):
 WX P n w0 l V HL γ K (⟨none,.store t a x,ty,p,af,gu⟩::rest) k s:=by
 refine QE hg hV (fun D ht a' w hs hm=> ?_) h;obtain ⟨xs,R,hsel,hfit,hsub⟩:=hnew D ht;have hm' :=hm.sel hsel;have hb:=(hm'.on _ Xb).1;simp only [Blk.on] at hb;have h1' : ∀ u∈vs,u.oneCell' =true:=by simpa using h1
 have hr:=f9 (P:=P) (t:=t) (off:=off) hv hl h1' hb (by simpa using hfit);simp only at hr;refine ⟨_,?_,hsub.use (hm'.upd (dP _ _ _) (b' := .box g T (xs.take off++vs++xs.drop (off+m))) (setRow_heap _ _ _ _ _ _ hb) fun k hk=> .inl hk)⟩;simp [execOp,hs.eval a _ ha,hs.eval x _ hx,Instr.storeAt,Instr.sureAddr,hr]
end
end Go.SL

/-
  Lemmas and walks, put together: Sl6 Sv Sl7 W9 W10 Sl12 Sl10 Sl16.
-/
import Derived.Test.YtoanpdoacdpgeaaGreatDoorKn02
set_option linter.unusedSimpArgs false
set_option linter.unusedVariables false
set_option maxRecDepth 20000
namespace Go.SL
open Go Go.RowKit
section
variable {P:Program} {ops:Array Oper} {md:Region.Mode} {C:Array Bool→World→Prop}
def xY (P:Program) (D:World→Prop) (v:Value):Result Next→Prop
 | .ok (.value u) w' =>u=v∧D w'
 | .ok .skip w' =>v=undef∧D w'
 | .ok (.enter f args) w' =>Calls P f args w' fun e w'' =>e= .returned v∧D w''
 |_=>False
def Gives (P:Program) (md:Region.Mode) (ops:Array Oper) (C:Array Bool→World→Prop) (i:Nat) (o:Oper) (v:Value) (a:Act):Prop:=
 (Region.wanted o (yielded ops a.tmps)=true∧ ∀ L w,i∈Region.ready md ops L→C L w→xY P (C (L.setIfInBounds i true)) v ((execOp a.eval o).run P w))∨
 (Region.wanted o (yielded ops a.tmps)=false∧v=undef∧ ∀ L w,i∈Region.ready md ops L→C L w→C (L.setIfInBounds i true) w)
theorem Gives.of_same {i:Nat} {o:Oper} {v:Value} {a a' :Act} (hy:Gives P md ops C i o v a) (he:execOp a'.eval o=execOp a.eval o)
  (hw:Region.wanted o (yielded ops a'.tmps)=Region.wanted o (yielded ops a.tmps)):Gives P md ops C i o v a' :=by
 unfold Gives at*
 rw [he,hw]
 exact hy
def gOp (P:Program) (md:Region.Mode) (ops:Array Oper) (C:Array Bool→World→Prop) (i:Nat) (K:Act→Prop) (a:Act):Prop:=
 ∃ o v,ops[i]? =some o∧Gives P md ops C i o v a∧K (a.put o.dst v)
def Je (P:Program) (md:Region.Mode) (ops:Array Oper) (C:Array Bool→World→Prop) (Q:Array Bool→Act→Prop):Nat→Array Bool→Act→Prop
 |0,L,a=>Region.ready md ops L= []∧Q L a
 |f+1,L,a=>(Region.ready md ops L= []→Q L a)∧ ∀ i∈Region.ready md ops L,gOp P md ops C i (Je P md ops C Q f (L.setIfInBounds i true)) a
theorem fF {Q:Array Bool→Act→Prop} {Q' :Exit→Act→World→Prop} (hQ: ∀ L a w,Region.ready md ops L= []→C L w→Q L a→Q' .normal a w): ∀ (f:Nat) (L:Array Bool) (a:Act) (w:World),C L w→
  Je P md ops C Q f L a→wpAny P md ops Q' f L a w
 |0,L,a,w,hC,h=>⟨h.1,hQ L a w h.1 hC h.2⟩
 |f+1,L,a,w,hC,h=>⟨fun h0=>hQ L a w h0 hC (h.1 h0),fun i hi=>by
   obtain ⟨o,v,ho,hg,hk⟩:=h.2 i hi
   unfold wpOp
   simp only [ho]
   rcases hg with ⟨hw,hg⟩|⟨hw,rfl,hg⟩
   ·
    simp only [hw,if_true]
    refine .inl ?_
    have h1:=hg L w hi hC
    unfold Oper.wp
    generalize (execOp a.eval o).run P w=r at h1 ⊢
    cases r with
    |ok x w' =>
     cases x<;>simp only [xY] at h1<;>simp only [Oper.upon]
     case value u=>obtain ⟨rfl,h2⟩:=h1;exact fF hQ f _ _ _ h2 hk
     case skip=>obtain ⟨rfl,h2⟩:=h1;exact fF hQ f _ _ _ h2 hk
     case enter g args=>exact h1.mono fun e w'' ⟨he,h2⟩=>by subst he;exact fF hQ f _ _ _ h2 hk
    |halt x w' =>simp only [xY] at h1
   ·
    simp only [hw,Oo,if_false]
    exact fF hQ f _ _ _ (hg L w hi hC) hk⟩
theorem H5 {i:Nat} {a:Act} {K K' :Act→Prop} (h: ∀ a,K a→K' a) (hh:gOp P md ops C i K a):gOp P md ops C i K' a:=
 let ⟨o,v,h1,h2,h3⟩:=hh
 ⟨o,v,h1,h2,h _ h3⟩
theorem Kh {i j:Nat} {oi oj:Oper} {v:Value} (hj:ops[j]? =some oj) (hap:oi.apart ops oj=true)
  (hsi: ∀ cs b,oi.op≠ .select cs b) (hsj: ∀ cs b,oj.op≠ .select cs b) {K:Act→Prop} {a:Act}
  (hy:Gives P md ops C i oi v a) (h:gOp P md ops C j K (a.put oi.dst v)):
  gOp P md ops C j (fun a' =>Gives P md ops C i oi v a' ∧K (a'.put oi.dst v)) a:=by
 obtain ⟨h1,h2,h3⟩:=Oper.apart_spec hap
 obtain ⟨o,u,ho,hg,hk⟩:=h
 have e:o=oj:=Option.some.inj (ho.symm.trans hj)
 subst e
 refine ⟨o,u,ho,hg.of_same (execOp_put o hsj a oi.dst v h1).symm (wanted_put o a oi.dst v h1).symm,hy.of_same (execOp_put oi hsi a o.dst u h3) (wanted_put oi a o.dst u h3),?_⟩
 rw [← Act.put_comm a v u h2]
 exact hk
theorem uG {Q:Array Bool→Act→Prop} {i:Nat} {oi:Oper} {v:Value} (hi:ops[i]? =some oi) (hsel: ∀ (j:Nat) (o:Oper) cs b,ops[j]? =some o→o.op≠ .select cs b):
  ∀ (f:Nat) (L:Array Bool) (a:Act),
   (∀ j oj,ops[j]? =some oj→j≠i→L.getD j true=false→(∀ e∈oj.after,Region.binds md e=true→e.on≠i)→oi.apart ops oj=true)→
   i∈Region.ready md ops L→Gives P md ops C i oi v a→Je P md ops C Q f (L.setIfInBounds i true) (a.put oi.dst v)→Je P md ops C Q (f+1) L a
 |0,L,a,_,hr,hy,H=>⟨fun h=>(by rw [h] at hr;cases hr),fun j hj=>by
   by_cases hji:j=i
   ·
    subst hji;exact ⟨oi,v,hi,hy,H⟩
   ·
    have:=ready_mono hj hji
    rw [H.1] at this
    cases this⟩
 |f+1,L,a,hfree,hr,hy,H=>⟨fun h=>(by rw [h] at hr;cases hr),fun j hj=>by
   by_cases hji:j=i
   ·
    subst hji;exact ⟨oi,v,hi,hy,H⟩
   ·
    have h1:=H.2 j (ready_mono hj hji)
    obtain ⟨hjun,oj,hoj,hall⟩:=mem_ready.1 hj
    have hnot: ∀ e∈oj.after,Region.binds md e=true→e.on≠i:=fun e he hb heq=>by
     have h1:=hall e he hb
     have h0:=(mem_ready.1 hr).1
     rw [heq] at h1
     rcases OO i L.size with h' |h'
     ·
      simp [h'] at h0 h1;rw [h0] at h1;cases h1
     ·
      simp [O9 h'] at h1
    have h2:=Kh hoj (hfree j oj hoj hji hjun hnot) (fun cs b=>hsel i oi cs b hi) (fun cs b=>hsel j oj cs b hoj) hy h1
    have hfree' : ∀ k ok,ops[k]? =some ok→k≠i→(L.setIfInBounds j true).getD k true=false→
      (∀ e∈ok.after,Region.binds md e=true→e.on≠i)→oi.apart ops ok=true:=fun k ok hk hki hun hno=>by
     refine hfree k ok hk hki ?_ hno
     by_cases hjk:j=k
     ·
      subst hjk;exact hjun
     ·
      rw [getD_set_ne true hjk] at hun;exact hun
    refine H5 (fun a' h3=>uG hi hsel f (L.setIfInBounds j true) a' hfree' (ready_mono hr (Ne.symm hji)) h3.1 ?_) h2
    rw [PB _ _ hji]
    exact h3.2⟩
def wpG (P:Program) (md:Region.Mode) (ops:Array Oper) (C:Array Bool→World→Prop) (Q:Act→Prop):List Oper→Nat→Act→Prop
 | [],_,a=>Q a
 |o::r,k,a=> ∃ v,Gives P md ops C k o v a∧wpG P md ops C Q r (k+1) (a.put o.dst v)
theorem Bb {Q:Act→Prop} (hs:Region.noSelect ops=true): ∀ (l:List Oper) (k:Nat) (L:Array Bool) (a:Act),(∀ j,l[j]? =ops[k+j]?)→
  Region.lexFrom md ops l.length k L=true→wpG P md ops C Q l k a→Je P md ops C (fun _ a=>Q a) l.length L a
 | [],_,_,_,_,hB,h=>⟨by simpa [Region.lexFrom] using hB,h⟩
 |o::l,k,L,a,hl,hB,h=>by
  have h0:ops[k]? =some o:=by simpa using (hl 0).symm
  simp only [NB,Region.lexFrom,Nm] at hB
  obtain ⟨⟨hr,hf⟩,hB'⟩:=hB
  obtain ⟨v,hy,hK⟩:=h
  exact uG h0 (Region.noSelect_spec hs) l.length L a (Region.free_spec h0 hf) (by simpa using hr) hy
   (Bb hs l (k+1) _ _ (fun j=>by have:=hl (j+1);simpa [OK,O3 1 j] using this) hB' hK)
theorem yf {id:Nat} {Q:Exit→Act→World→Prop} {a:Act} {w:World} (hm:P.follows .mixedOrders=true) (hB:Region.lexB .any ops=true) (hC:C (Array.replicate ops.size false) { w with drawn:=w.drawn+1 })
  (h:wpG P .any ops C (fun a' => ∀ L w',Region.ready .any ops L= []→C L w' →Q .normal a' w') ops.toList 0 a):(Code.region id ops true).wp P Q a w:=by
 simp only [Region.lexB,Nm] at hB
 refine wp_region_any hm (fF (Q:=fun _ a' => ∀ L w',Region.ready .any ops L= []→C L w' →Q .normal a' w') (fun L a' w' hr hw' h=>h L w' hr hw') _ _ _ _ hC ?_)
 have:=Bb (C:=C) (md:= .any) hB.1 ops.toList 0 (Array.replicate ops.size false) a (by simp) (by simpa using hB.2) h
 simpa using this
end
abbrev fW:=Nat→Bool
def done (L:Array Bool):fW:=fun i=>L.getD i false
section
variable {P:Program} {n:Fr} {w0:World} {Q:bQ} {s:az} {H:List Blk} {l rest:List Oper} {ty:TypeId} {p:String} {af:Array Edge}
def Cls (w0:World) (l:List Oper) (HL:fW→List Blk) (L:Array Bool) (w:World):Prop:=
 L.size=l.length∧(∀ i o,l[i]? =some o→done L i=true→ ∀ e∈o.after,Region.binds .any e=true→done L e.on=true)∧Mem w0 w (HL (done L))
def lu (o:Oper):List Nat:=o.after.toList.filterMap fun e=>if Region.binds .any e then some e.on else none
structure Turn (l:List Oper) (k:Nat) (o:Oper) (D:fW):Prop where
 not:D k=false
 before: ∀ i∈lu o,D i=true
 closed: ∀ i x,l[i]? =some x→D i=true→ ∀ j∈lu x,D j=true
def put (D:fW) (k:Nat):fW:=fun i=>if i=k then true else D i
def WG (P:Program) (n:Fr) (w0:World) (l:List Oper) (HL:fW→List Blk) (K:az→Prop) (rest:List Oper) (k:Nat) (s:az):Prop:=
 ∀ a,St n s a→(∀ j,rest[j]? =l[k+j]?)→wpG P .any l.toArray (Cls w0 l HL) (fun a' => ∃ s',St n s' a' ∧K s') rest k a
theorem eX {o:Oper} {i:Nat}:i∈lu o↔ ∃ e∈o.after,Region.binds .any e=true∧e.on=i:=by
 unfold lu
 rw [List.mem_filterMap]
 constructor
 ·
  rintro ⟨e,he,h⟩
  split at h
  ·
   rename_i hb
   injection h with h
   exact ⟨e,by simpa using he,hb,h⟩
  ·
   cases h
 ·
  rintro ⟨e,he,hb,h⟩
  exact ⟨e,by simpa using he,by simp [hb,h]⟩
theorem mC {HL:fW→List Blk} {k:Nat} {o:Oper} {L:Array Bool} {w:World} (hk:l[k]? =some o) (hr:k∈Region.ready .any l.toArray L) (hc:Cls w0 l HL L w):Turn l k o (done L)∧done (L.setIfInBounds k true)=put (done L) k∧(∀ w',Mem w0 w' (HL (put (done L) k))→Cls w0 l HL (L.setIfInBounds k true) w'):=by
 obtain ⟨hsz,hcl,_⟩:=hc
 obtain ⟨h0,o',ho',hall⟩:=mem_ready.1 hr
 have e:o' =o:=by
  rw [NZ,hk] at ho'
  exact (Option.some.inj ho').symm
 subst e
 have hlt:k<L.size:=by rw [hsz];exact (Nw.1 hk).1
 have hd:done (L.setIfInBounds k true)=put (done L) k:=by
  funext i
  unfold done put
  by_cases hik:i=k
  ·
   subst hik;simp [hlt]
  ·
   rw [if_neg hik,getD_set_ne false (Ne.symm hik)]
 have hcl' : ∀ i x,l[i]? =some x→done L i=true→ ∀ j∈lu x,done L j=true:=fun i x hx hi j hj=>by
  obtain ⟨e,he,hb,rfl⟩:=eX.1 hj
  exact hcl i x hx hi e he hb
 refine ⟨⟨?_,fun i hi=> ?_,hcl'⟩,hd,fun w' hm=>⟨by simpa using hsz,fun i x hx hi e he hb=> ?_,hd ▸ hm⟩⟩
 ·
  unfold done;simp [hlt] at h0 ⊢;exact h0
 ·
  obtain ⟨e,he,hb,rfl⟩:=eX.1 hi
  exact hall e he hb
 ·
  rw [hd] at hi ⊢
  by_cases hik:i=k
  ·
   subst hik
   rw [hk] at hx
   injection hx with hx
   subst hx
   have h1:=hall e he hb
   unfold put
   split
   ·
    rfl
   ·
    exact h1
  ·
   have hi' :done L i=true:=by unfold put at hi;rwa [if_neg hik] at hi
   have:=hcl i x hx hi' e he hb
   unfold put
   split
   ·
    rfl
   ·
    exact this
theorem rl {id:Nat} (HL:fW→List Blk) (hm:P.follows .mixedOrders=true) (hB:Region.lexB .any l.toArray=true) (h0:MSub (HL fun _=>false) H)
  (h:WG P n w0 l HL (fun s' => ∀ D:fW,(∀ i,i<l.length→D i=true)→Q .normal s' (HL D)) l 0 s):W P n w0 (.region id l.toArray true) Q s H:=by
 intro a w hs hmem
 have hrep:done (Array.replicate l.toArray.size false)=fun _=>false:=by
  funext i
  unfold done
  rw [ND,PE]
  split<;>rfl
 refine yf (C:=Cls w0 l HL) hm hB ⟨by simp,fun i o _ hi=>(by rw [hrep] at hi;cases hi),by rw [hrep];exact h0.use hmem.drew⟩ ?_
 have h1:=h a hs (by simp)
 have mono: ∀ (r:List Oper) (k:Nat) (a:Act) (K K' :Act→Prop),(∀ a,K a→K' a)→wpG P .any l.toArray (Cls w0 l HL) K r k a→wpG P .any l.toArray (Cls w0 l HL) K' r k a:=by
  intro r
  induction r with
  |nil=>intro k a K K' hk h;exact hk _ h
  |cons o r ih=>
   rintro k a K K' hk ⟨v,h1,h2⟩
   exact ⟨v,h1,ih _ _ K K' hk h2⟩
 simp only [Py]
 refine mono _ _ _ _ _ ?_ h1
 rintro a' ⟨s',h2,h3⟩ L w' hr ⟨hsz,hcl,hmem'⟩
 refine ⟨s',HL (done L),h2,hmem',h3 _ fun i hi=> ?_⟩
 -- nothing is ready:all is done
 have all: ∀ i,i<l.length→done L i=true:=by
  intro i
  induction i using Nat.strongRecOn with
  |_ i ih=>
   intro hi
   cases hd:done L i with
   |true=>rfl
   |false=>
    exfalso
    have hlx: ∀ (f k:Nat) (L0:Array Bool),Region.lexFrom .any l.toArray f k L0=true→ ∀ j o,k≤j→j<k+f→l[j]? =some o→ ∀ x∈lu o,L0.getD x false=true∨(k≤x∧x<j):=by
     intro f
     induction f with
     |zero=>intro k L0 _ j o h1 h2;omega
     |succ f ihf=>
      intro k L0 hlex j o h1 h2 ho x hx
      simp only [Region.lexFrom,Nm] at hlex
      obtain ⟨⟨hrk,_⟩,hrest⟩:=hlex
      by_cases hjk:j=k
      ·
       subst hjk
       obtain ⟨_,o',ho',hall⟩:=mem_ready.1 (by simpa using hrk:j∈Region.ready .any l.toArray L0)
       rw [NZ,ho] at ho'
       injection ho' with ho'
       subst ho'
       obtain ⟨e,he,hb,rfl⟩:=eX.1 hx
       exact .inl (hall e he hb)
      ·
       rcases ihf (k+1) _ hrest j o (by omega) (by omega) ho x hx with h|⟨h3,h4⟩
       ·
        by_cases hxk:k=x
        ·
         subst hxk;right;omega
        ·
         rw [getD_set_ne false hxk] at h;exact .inl h
       ·
        right;omega
    simp only [Region.lexB,Nm] at hB
    obtain ⟨o,ho⟩: ∃ o,l[i]? =some o:=⟨_,Nc hi⟩
    have hmem:i∈Region.ready .any l.toArray L:=by
     refine mem_ready.2 ⟨?_,o,by simpa using ho,fun e he hb=> ?_⟩
     ·
      have:i<L.size:=by omega
      unfold done at hd
      simp [this] at hd ⊢;exact hd
     ·
      have hx:=hlx l.toArray.size 0 _ hB.2 i o (Ns _) (by simpa using hi) ho e.on (eX.2 ⟨e,he,hb,rfl⟩)
      rcases hx with h|⟨_,h⟩
      ·
       have:(done (Array.replicate l.toArray.size false)) e.on=true:=h
       rw [hrep] at this;cases this
      ·
       exact ih e.on h (by omega)
    rw [hr] at hmem
    cases hmem
 exact all i hi
variable {HL:fW→List Blk} {K:az→Prop} {k:Nat}
theorem wN (h:K s):WG P n w0 l HL K [] k s:=fun _ hs _=>⟨s,hs,h⟩
theorem Ej {op:Op} {d:Nat} {v:Value} (hn:Nat.blt d n.sz=true) (hv: ∀ D,Turn l k ⟨some d,op,ty,p,af,none⟩ D→VOp P w0 s (HL D) op ty v) (hk: ∀ D,HL (put D k)=HL D) (h:WG P n w0 l HL K rest (k+1) ((d,v)::s)):
  WG P n w0 l HL K (⟨some d,op,ty,p,af,none⟩::rest) k s:=by
 intro a hs hl
 have h0:l[k]? =some ⟨some d,op,ty,p,af,none⟩:=by simpa using (hl 0).symm
 refine ⟨v,.inl ⟨rfl,fun L w hr hc=> ?_⟩,h _ (hs.put (N7 ▸ hn) v) fun j=>by have:=hl (j+1);simpa [OK,O3 1 j] using this⟩
 obtain ⟨ht,hd,hnext⟩:=mC h0 hr hc
 rw [hv _ ht a.eval w _ _ _ _ hs.eval hc.2.2]
 exact ⟨rfl,hnext w (by rw [hk];exact hc.2.2)⟩
theorem Ge {d:Nat} {f:FuncId} {xs:List Operand} {vs:List Value} {v:Value} {ts:Array TypeId} [Callable P f] (hn:Nat.blt d n.sz=true) (hx:evs s xs=some vs)
  (hF: ∀ D,Turn l k ⟨some d,.call { callee:= .value (.func f),args:=xs.toArray,argTypes:=ts },ty,p,af,none⟩ D→ ∀ w,Mem w0 w (HL D)→ay P f vs w v) (hk: ∀ D,HL (put D k)=HL D) (h:WG P n w0 l HL K rest (k+1) ((d,v)::s)):
  WG P n w0 l HL K (⟨some d,.call { callee:= .value (.func f),args:=xs.toArray,argTypes:=ts },ty,p,af,none⟩::rest) k s:=by
 intro a hs hl
 have h0:=(hl 0).symm
 simp only [O2,P4] at h0
 refine ⟨v,.inl ⟨rfl,fun L w hr hc=> ?_⟩,h _ (hs.put (N7 ▸ hn) v) fun j=>by have:=hl (j+1);simpa [OK,O3 1 j] using this⟩
 obtain ⟨ht,hd,hnext⟩:=mC h0 hr hc
 have hrun:=j9 (P:=P) (w:=w) (ρ:=a.eval) (d:=some d) (ty:=ty) (p:=p) (af:=af) (g:=none) (f:=f) (c:= .func f) (xs:=xs) (caps:= []) (ts:=ts) rfl (gF hs hx)
 rw [Nl] at hrun
 rw [hrun]
 refine Calls.mono (hF _ ht w hc.2.2) ?_
 rintro e w' ⟨u,H',rfl,hm',rfl⟩
 exact ⟨rfl,hnext w' (by rw [hk];exact (hc.2.2.call hm').right)⟩
theorem Dh {op:Op} (hv: ∀ D,Turn l k ⟨none,op,ty,p,af,none⟩ D→ ∀ a w,St n s a→Mem w0 w (HL D)→ ∃ w',(execOp a.eval ⟨none,op,ty,p,af,none⟩).run P w= .ok .skip w' ∧Mem w0 w' (HL (put D k))) (h:WG P n w0 l HL K rest (k+1) s):
  WG P n w0 l HL K (⟨none,op,ty,p,af,none⟩::rest) k s:=by
 intro a hs hl
 have h0:l[k]? =some ⟨none,op,ty,p,af,none⟩:=by simpa using (hl 0).symm
 refine ⟨undef,.inl ⟨rfl,fun L w hr hc=> ?_⟩,h _ (hs.put_none _) fun j=>by have:=hl (j+1);simpa [OK,O3 1 j] using this⟩
 obtain ⟨ht,hd,hnext⟩:=mC h0 hr hc
 obtain ⟨w',hr',hm'⟩:=hv _ ht a w hs hc.2.2
 rw [hr']
 exact ⟨rfl,hnext w' hm'⟩
theorem Bj {t T g off m:Nat} {x a:Operand} {v:Value} {vs:List Value} [Size P t m] (xs:fW→List Value) (R:fW→List Blk) (ha:ev s a=some (.pointer (some ⟨g,off,none⟩))) (hx:ev s x=some v)
  (hsel: ∀ D,Sel (.box g T (xs D)) (HL D) (R D)) (hv:v.cells=vs.toArray) (hl:vs.length=m) (h1:vs.all Value.oneCell' =true) (hfit: ∀ D,off+m≤(xs D).length)
  (hnew: ∀ D,Turn l k ⟨none,.store t a x,ty,p,af,none⟩ D→MSub (HL (put D k)) (.box g T ((xs D).take off++vs++(xs D).drop (off+m))::R D)) (h:WG P n w0 l HL K rest (k+1) s):
  WG P n w0 l HL K (⟨none,.store t a x,ty,p,af,none⟩::rest) k s:=by
 refine Dh (fun D ht a' w hs hm=> ?_) h
 have hm' :=hm.sel (hsel D)
 have hb:=(hm'.on _ Nj).1
 simp only [Blk.on] at hb
 have h1' : ∀ u∈vs,u.oneCell' =true:=by simpa using h1
 have hr:=gk (P:=P) (t:=t) (off:=off) hv hl h1' hb (by simpa using hfit D)
 simp only at hr
 refine ⟨_,?_,(hnew D ht).use (hm'.upd (eZ _ _ _) (b' := .box g T ((xs D).take off++vs++(xs D).drop (off+m))) (setRow_heap _ _ _ _ _ _ hb) fun k hk=> .inl hk)⟩
 simp [execOp,hs.eval a _ ha,hs.eval x _ hx,Instr.storeAt,Instr.sureAddr,hr]
theorem kp {w:World} {t T T' g m:Nat} {xs:List Value} {a:Act} [Agg P T m] (hs:St n s a) (hm:Mem w0 w H) (ht:look s t=some (.pointer (some ⟨g,0,none⟩))) (hi:In (.box g T' xs) H) (hl:Nat.beq xs.length m=true):
  (do let b ← asAddr (a.tmps.getD t undef);loadVar T b).run P w= .ok (.agg xs.toArray) w:=by
 have h1:=hs.has t _ ht
 have h2:=iT (P:=P) (t:=T) (NP hl) (hm.cells_box hi)
 simp [ND,h1,asAddr,h2]
section res
variable {fn:Func} {R:Value→List Blk→Prop} {e:Exit} {t u T U T' U' g h m q:Nat} {xs ys:List Value} {v:Value}
theorem w6 (he:e= .ret∨e= .normal) (hr:fn.results= #[.cell t T]) [Agg P T m] (ht:look s t=some (.pointer (some ⟨g,0,none⟩))) (hi:In (.box g T' xs) H) (hl:Nat.beq xs.length m=true) {H' :List Blk} (hs:MSub H' H) (hR:R (.agg xs.toArray) H'):ba P fn n w0 R e s H:=
 ⟨he,_,H',hs,fun a w hst hm=>by
  have h1:=kp (P:=P) (T:=T) hst hm ht hi hl
  simp only [results,hr]
  simp only [Pr,NN,NT,Sem.run_bind,Sem.run_map] at h1 ⊢
  simp only [h1,Result.andThen_ok,Sem.run_pure]
  rfl,hR⟩
theorem DE (he:e= .ret∨e= .normal) (hr:fn.results= #[.cell t T,.tmp u]) [Agg P T m] (ht:look s t=some (.pointer (some ⟨g,0,none⟩))) (hi:In (.box g T' xs) H) (hl:Nat.beq xs.length m=true) (hu:look s u=some v) {H' :List Blk} (hs:MSub H' H) (hR:R (.tuple #[.agg xs.toArray,v]) H'):ba P fn n w0 R e s H:=
 ⟨he,_,H',hs,fun a w hst hm=>by
  have h1:=kp (P:=P) (T:=T) hst hm ht hi hl
  have h2:a.tmps.getD u undef=v:=by simp [ND,hst.has u _ hu]
  simp only [results,hr]
  simp only [Pr,NN,NT,Sem.run_bind,Sem.run_map] at h1 ⊢
  simp only [h1,Result.andThen_ok,Sem.run_pure,h2]
  rfl,hR⟩
theorem MC (he:e= .ret∨e= .normal) (hr:fn.results= #[.cell t T,.cell u U]) [Agg P T m] [Agg P U q] (ht:look s t=some (.pointer (some ⟨g,0,none⟩))) (hi:In (.box g T' xs) H) (hl:Nat.beq xs.length m=true) (hu:look s u=some (.pointer (some ⟨h,0,none⟩))) (hi' :In (.box h U' ys) H) (hl' :Nat.beq ys.length q=true) {H' :List Blk} (hs:MSub H' H) (hR:R (.tuple #[.agg xs.toArray,.agg ys.toArray]) H'):ba P fn n w0 R e s H:=
 ⟨he,_,H',hs,fun a w hst hm=>by
  have h1:=kp (P:=P) (T:=T) hst hm ht hi hl
  have h2:=kp (P:=P) (T:=U) hst hm hu hi' hl'
  simp only [results,hr]
  simp only [Pr,NN,NT,Sem.run_bind,Sem.run_map] at h1 h2 ⊢
  simp only [h1,h2,Result.andThen_ok,Sem.run_pure]
  rfl,hR⟩
end res
theorem bI {d:Nat} {ops:Array Oper} {f:FuncId} {c:Operand} {xs:List Operand} {vs caps:List Value} {v:Value} {ts:Array TypeId} (hn:Nat.blt d n.sz=true) (hc:ev s c=some (.func (.func f) #[] caps.toArray)) (hfc:Callable P f) (hx:evs s xs=some vs)
  (hF: ∀ w,Mem w0 w H→ay P f (vs++caps) w v) (k:WL P n w0 ops rest Q ((d,v)::s) H):
  WL P n w0 ops (⟨some d,.call { callee:= .value c,args:=xs.toArray,argTypes:=ts },ty,p,af,none⟩::rest) Q s H:=
 j0 hn hc hfc hx (FnIn.of_at hF) fun u H' ⟨H1,h1,h2⟩=>by
  subst h1;subst h2
  exact wL ⟨H1,OG⟩ k
theorem wP {id T g:Nat} {xs xs' :List Value} {R:List Blk} (f:fW→List Value) (hm:P.follows .mixedOrders=true) (hB:Region.lexB .any l.toArray=true) (hsel:Sel (.box g T xs) H R) (h0:f (fun _=>false)=xs)
  (h1: ∀ D:fW,(∀ i,i<l.length→D i=true)→f D=xs') (h:WG P n w0 l (fun D=> .box g T (f D)::R) (fun s' =>Q .normal s' (.box g T xs' ::R)) l 0 s):W P n w0 (.region id l.toArray true) Q s H:=by
 subst h0
 refine rl (fun D=> .box g T (f D)::R) hm hB ⟨[],by simpa using hsel.perm⟩ fun a hs hl=> ?_
 have mono: ∀ (r:List Oper) (k:Nat) (a:Act) (K K' :Act→Prop),(∀ a,K a→K' a)→wpG P .any l.toArray (Cls w0 l fun D=> .box g T (f D)::R) K r k a→wpG P .any l.toArray (Cls w0 l fun D=> .box g T (f D)::R) K' r k a:=by
  intro r
  induction r with
  |nil=>intro k a K K' hk h;exact hk _ h
  |cons o r ih=>
   rintro k a K K' hk ⟨v,h1,h2⟩
   exact ⟨v,h1,ih _ _ K K' hk h2⟩
 refine mono _ _ _ _ _ ?_ (h a hs hl)
 rintro a' ⟨s',h2,h3⟩
 exact ⟨s',h2,fun D hD=>by rw [h1 D hD];exact h3⟩
end
def Mh:BinOp→Int→Int→Option Value
 | .lss,a,b=>some (.bool (decide (a<b)))
 | .leq,a,b=>some (.bool (decide (a≤b)))
 | .gtr,a,b=>some (.bool (decide (b<a)))
 | .geq,a,b=>some (.bool (decide (b≤a)))
 | .eql,a,b=>some (.bool (decide (a=b)))
 | .neq,a,b=>some (.bool (decide (a≠b)))
 |_,_,_=>none
def Mg:BinOp→ByteArray→ByteArray→Option Value
 | .eql,a,b=>some (.bool (decide (a=b)))
 | .neq,a,b=>some (.bool (decide (a≠b)))
 |_,_,_=>none
def Mi (o:BinOp):Value→Value→Option Value
 | .int k a,.int k' b=>match decide (k=k') with
  |true=>Mh o a b
  |false=>none
 | .string a,.string b=>Mg o a b
 |_,_=>none
def vop (s:az):Op→Option Value
 | .move x=>ev s x
 | .assign x=>ev s x
 | .pick c a b=>match ev s c with
  |some (.bool true)=>ev s a
  |some (.bool false)=>ev s b
  |_=>none
 | .unOp .not _ x=>match ev s x with
  |some (.bool b)=>some (.bool (!b))
  |_=>none
 | .binOp o _ x y _=>match ev s x,ev s y with
  |some u,some v=>Mi o u v
  |_,_=>none
 | .extract x i=>match ev s x with
  |some (.tuple vs)=>vs.toList[i]?
  |_=>none
 |_=>none
theorem Ld {P:Program} {w0:World} {s:az} {H:List Blk} {op:Op} {ty:TypeId} {v:Value} (h:vop s op=some v):VOp P w0 s H op ty v:=by
 cases op<;>simp only [vop] at h<;>try (cases h;done)
 case move x=>exact Lh h
 case assign x=>exact eJ h
 case pick c a b=>
  split at h
  ·
   exact Gu (by assumption) h
  ·
   exact Gv (by assumption) h
  ·
   cases h
 case binOp o t x y t' =>
  split at h
  ·
   rename_i u v' hu hv
   unfold Mi at h
   split at h
   ·
    rename_i k a k' b
    split at h
    ·
     rename_i hk
     have hk:=of_decide_eq_true hk
     subst hk
     cases o<;>simp only [Mh] at h<;>first|(cases h;done)|skip
     all_goals (injection h with h;subst h)
     ·
      exact Mr hu hv
     ·
      exact KK hu hv
     ·
      exact Mm hu hv
     ·
      exact Mo hu hv
     ·
      exact Mp hu hv
     ·
      exact Mq hu hv
    ·
     cases h
   ·
    rename_i a b
    cases o<;>simp only [Mg] at h<;>first|(cases h;done)|skip
    all_goals (injection h with h;subst h)
    ·
     exact pR hu hv
    ·
     exact rS hu hv
   ·
    cases h
  ·
   cases h
 case unOp o t x=>
  cases o<;>simp only at h<;>first|(cases h;done)|skip
  split at h
  ·
   injection h with h
   subst h
   exact Ml (by assumption)
  ·
   cases h
 case extract x i=>
  split at h
  ·
   rename_i vs hx
   exact Eu (vs:=vs.toList) (by simpa using hx) h
  ·
   cases h
class Tidy (p:Prop) (q:outParam Prop):Prop where
 out:p→q
instance (priority:=10) tidySame {p:Prop}:Tidy p p:=⟨id⟩
instance tidyT {p q:Prop} [Decidable p] [h:Tidy p q]:Tidy (decide p=true) q:=⟨fun k=>h.out (of_decide_eq_true k)⟩
instance tidyF {p q:Prop} [Decidable p] [h:Tidy (¬ p) q]:Tidy (decide p=false) q:=⟨fun k=>h.out (of_decide_eq_false k)⟩
instance tidyNT {b:Bool} {q:Prop} [h:Tidy (b=false) q]:Tidy ((!b)=true) q:=⟨fun k=>h.out (by simpa using k)⟩
instance tidyNF {b:Bool} {q:Prop} [h:Tidy (b=true) q]:Tidy ((!b)=false) q:=⟨fun k=>h.out (by simpa using k)⟩
instance tidyLt {a b:Int}:Tidy (¬ a<b) (b≤a):=⟨Int.not_lt.1⟩
instance tidyLe {a b:Int}:Tidy (¬ a≤b) (b<a):=⟨Int.not_le.1⟩
section
variable {P:Program} {n:Fr} {w0:World} {Q:bQ} {s:az} {H:List Blk} {l rest:List Oper} {ty:TypeId} {p:String} {af:Array Edge} {f:Nat} {L:Array Bool}
def WA (P:Program) (n:Fr) (w0:World) (l:List Oper) (Q:bQ) (f:Nat) (L:Array Bool) (s:az) (H:List Blk):Prop:=
 ∀ a w,St n s a→Mem w0 w H→wpAny P .any l.toArray (post n w0 Q) f L a w
theorem iP {id:Nat} (N:Nat) (hN:l.length=N) (hm:P.follows .mixedOrders=true) (h:WA P n w0 l Q N (Array.replicate N false) s H):W P n w0 (.region id l.toArray true) Q s H:=by
 intro a w hs hmem
 subst hN
 refine wp_region_any hm ?_
 simpa using h a _ hs hmem.drew
theorem iO (hr:Region.ready .any l.toArray L= []) (h:Q .normal s H):WA P n w0 l Q f L s H:=by
 intro a w hs hm
 cases f with
 |zero=>exact ⟨hr,s,H,hs,hm,h⟩
 |succ f=>exact ⟨fun _=>⟨s,H,hs,hm,h⟩,fun i hi=>by rw [hr] at hi;cases hi⟩
def jO (Q:bQ):Prop:= ∀ c s H,¬ Q (.panic c) s H
theorem LL {K:az→List Blk→Prop} (h:jO Q):jO (thn K Q):=fun c s H hq=>h c s H hq
theorem LO {id:Nat} (h:jO Q):jO (blk id Q):=fun c s H hq=>h c s H hq
theorem LM {fn:Func} {R:Value→List Blk→Prop}:jO (ba P fn n w0 R):=fun c s H hq=>by
 obtain ⟨h|h,_⟩:=hq<;>cases h
theorem aR {i:Nat} {op:Op} {d:Nat} {v:Value} (hi:l[i]? =some ⟨some d,op,ty,p,af,none⟩) (hn:Nat.blt d n.sz=true) (hsel:Region.noSelect l.toArray=true) (hr:(Region.ready .any l.toArray L).contains i=true) (hf:Region.free .any l.toArray L i=true)
  (hnp:jO Q) (hv: ∀ w0 H,VOp P w0 s H op ty v) (h:WA P n w0 l Q f (L.setIfInBounds i true) ((d,v)::s) H):WA P n w0 l Q (f+1) L s H:=by
 intro a w hs hm
 have hi' :l.toArray[i]? =some ⟨some d,op,ty,p,af,none⟩:=by simpa using hi
 refine wpAny_first hi' (Region.noSelect_spec hsel) (v:=v) (fun c a' w' hq=> ?_) f L a w (Region.free_spec hi' hf) (by simpa using hr) (.inl ⟨rfl,fun w' =>hv w' [] a.eval w' _ _ _ _ hs.eval (Mem.refl w')⟩) (h _ _ (hs.put (N7 ▸ hn) v) hm)
 obtain ⟨s',H',h1,h2,h3⟩:=hq
 exact (hnp c s' H' h3).elim
theorem vD {o:Oper} {a:Act} {next next' :Act→World→Prop} {Q1 Q2:Exit→Act→World→Prop} {r:Result Next} (hn: ∀ a w,next a w→next' a w) (hp: ∀ c a w,Q1 (.panic c) a w→Q2 (.panic c) a w) (ho: ∀ a w,Q1 .outgrown a w→Q2 .outgrown a w) (h:o.upon P a next Q1 r):o.upon P a next' Q2 r:=by
  cases r with
  |ok x w' =>
    cases x<;>simp only [Oper.upon] at h ⊢ <;>first
      |exact hn _ _ h
      | (refine Calls.mono h fun e w'' he => ?_
         cases e with
         |returned v=>exact hn _ _ he
         |panicked c=>exact hp _ _ _ he
         |outgrown=>obtain ⟨a0,w0,h0⟩:=he;exact ⟨a0,w0,ho _ _ h0⟩)
      |exact Rows.mono h fun v w'' he=>hn _ _ he
  |halt x w' =>cases x<;>simp only [Oper.upon] at h ⊢ <;>exact hp _ _ _ h
theorem aJ {i:Nat} {o:Oper} (hi:l[i]? =some o) (hr:Region.ready .any l.toArray L= [i]) (h:WL P n w0 l.toArray [o] (thn (WA P n w0 l Q f (L.setIfInBounds i true)) Q) s H):WA P n w0 l Q (f+1) L s H:=by
 intro a w hs hm
 refine ⟨fun h0=>(by rw [hr] at h0;cases h0),fun j hj=> ?_⟩
 rw [hr] at hj
 have e:j=i:=by simpa using hj
 subst e
 have h1:=h a w hs hm
 have hi' :l.toArray[j]? =some o:=by simpa using hi
 unfold wpOp
 simp only [hi']
 unfold wpList at h1
 have hnext: ∀ a w,wpList P l.toArray (post n w0 (thn (WA P n w0 l Q f (L.setIfInBounds j true)) Q)) [] a w→wpAny P .any l.toArray (post n w0 Q) f (L.setIfInBounds j true) a w:=by
  rintro a w ⟨s',H',h1,h2,h3⟩
  exact h3 a w h1 h2
 split
 ·
  rename_i hw
  rw [if_pos hw] at h1
  refine h1.imp (fun h2=>vD hnext (fun c a w h=>h) (fun a w h=>h) h2) fun ⟨h2,a0,w0,h3⟩=>⟨h2,a0,w0,h3⟩
 ·
  rename_i hw
  rw [if_neg hw] at h1
  exact hnext _ _ h1
theorem iQ {t e lo hi m c sz:Nat} {A:Option Addr} {x:Operand} {xl xh:Option Operand} [ht:Und P t (.slice e)] [hz:Size P e sz] (hx:ev s x=some (.slice A m c))
  (hxl:match xl with|none=>lo=0|some q=> ∃ k,ev s q=some (.int k (lo:Nat))) (hxh:match xh with|none=>hi=m|some q=> ∃ k,ev s q=some (.int k (hi:Nat))) (h1:lo≤hi) (h2:hi≤c):
  VOp P w0 s H (.slice t x xl xh none) ty (.slice (if c=lo then A else A.map (·.add (lo*sz))) (hi - lo) (c - lo)):=fun ρ w _ _ _ _ hρ _=>by
 obtain ⟨i,hi1,hi2⟩:=hz.out
 have e1:((lo:Nat):Int)≤((hi:Nat):Int):=by omega
 have e2:((hi:Nat):Int)≤((c:Nat):Int):=by omega
 have e3:((0:Nat):Int)≤((hi:Nat):Int):=by omega
 cases xl with
 |none=>
  cases xh with
  |none=>
   simp only at hxl hxh
   subst hxl hxh
   simp [execOp,hρ x _ hx,Instr.sliceAt,run_underlying ht.out,Instr.slice,Instr.sliceBounds,sizeOf,typeInfo,hi1]
  |some q=>
   simp only at hxl hxh
   subst hxl
   obtain ⟨kk,hq⟩:=hxh
   simp [execOp,hρ x _ hx,hρ q _ hq,Instr.sliceAt,run_underlying ht.out,Instr.slice,Instr.sliceBounds,Instr.sliceBound,asIntOf,sizeOf,typeInfo,hi1,h2]
 |some ql=>
  obtain ⟨kl,hql⟩:=hxl
  cases xh with
  |none=>
   simp only at hxh
   subst hxh
   simp [execOp,hρ x _ hx,hρ ql _ hql,Instr.sliceAt,run_underlying ht.out,Instr.slice,Instr.sliceBounds,Instr.sliceBound,asIntOf,sizeOf,typeInfo,hi1,hi2,h1]
  |some q=>
   obtain ⟨kk,hq⟩:=hxh
   simp [execOp,hρ x _ hx,hρ q _ hq,hρ ql _ hql,Instr.sliceAt,run_underlying ht.out,Instr.slice,Instr.sliceBounds,Instr.sliceBound,asIntOf,sizeOf,typeInfo,hi1,hi2,h1,h2]
def Reads (w:World) (v:Value) (m:Nat) (xs:List Value):Prop:=
 ∃ A cap,v= .slice A m cap∧m≤cap∧cap≤maxLen∧(0<m→ ∃ g o,A=some ⟨g,o,none⟩∧Ro w g o xs)
theorem Ro.of_own {w:World} {g t sz m c:Nat} {xs:List Value} (hm:Mem w0 w H) (hi:In (.own (some g) t sz m c xs) H):Ro w g 0 xs:=by
 have h1:=hm.cells_own hi
 refine ⟨?_,h1⟩
 obtain ⟨_,_,_,junk,_,h2⟩:=(hm.on _ hi.mem).1
 exact (NH.1 h2).1
theorem Ro.of_ro {w:World} {g o:Nat} {xs:List Value} (hm:Mem w0 w H) (h:Ro w0 g o xs):Ro w g o xs:=
 ⟨Nat.lt_of_lt_of_le h.lt hm.below.size,h.later hm⟩
theorem Ro.drop {w:World} {g o k:Nat} {xs:List Value} (h:Ro w g o xs):Ro w g (o+k) (xs.drop k):=⟨h.lt,h.cells.drop⟩
theorem Ro.take {w:World} {g o k:Nat} {xs:List Value} (h:Ro w g o xs):Ro w g o (xs.take k):=⟨h.lt,h.cells.take⟩
theorem Reads.of_own {w:World} {A:Option Nat} {t sz m c:Nat} {xs:List Value} (hm:Mem w0 w H) (hi:In (.own A t sz m c xs) H):Reads w (sl A m c) m xs:=by
 obtain ⟨h1,h2,h3,h4⟩:=(hm.on _ hi.mem).1
 refine ⟨_,c,rfl,h2,h3,fun hpos=> ?_⟩
 cases A with
 |none=>obtain ⟨rfl,_⟩:=h4;omega
 |some g=>exact ⟨g,0,rfl,Ro.of_own hm hi⟩
theorem Reads.of_w0 {w:World} {v:Value} {m:Nat} {xs:List Value} (hm:Mem w0 w H) (h:Reads w0 v m xs):Reads w v m xs:=by
 obtain ⟨A,cap,rfl,h1,h2,h3⟩:=h
 exact ⟨A,cap,rfl,h1,h2,fun hp=>let ⟨g,o,hA,hr⟩:=h3 hp;⟨g,o,hA,Ro.of_ro hm hr⟩⟩
theorem Reads.cut {w:World} {A:Option Addr} {m cap lo hi sz:Nat} {xs:List Value} (h:Reads w (.slice A m cap) m xs) (h1:lo≤hi) (h2:hi≤m):
  Reads w (.slice (if cap=lo then A else A.map (·.add (lo*sz))) (hi - lo) (cap - lo)) (hi - lo) ((xs.drop (lo*sz)).take ((hi - lo)*sz)):=by
 obtain ⟨A',cap',he,hm,hc,hr⟩:=h
 injection he with e1 e2 e3
 subst e1;subst e3
 refine ⟨_,_,rfl,by omega,by omega,fun hp=> ?_⟩
 obtain ⟨g,o,rfl,hro⟩:=hr (by omega)
 rw [if_neg (by omega)]
 exact ⟨g,o+lo*sz,by simp [cE],hro.drop.take⟩
theorem eG {c:Code} {A:Option Nat} {t sz m cap:Nat} {xs:List Value} (hi:In (.own A t sz m cap xs) H) (hm:0<m) (h: ∀ g,A=some g→W P n w0 c Q s H):W P n w0 c Q s H:=fun a w hs hmem=>by
 obtain ⟨_,_,_,h4⟩:=(hmem.on _ hi.mem).1
 cases A with
 |none=>obtain ⟨rfl,_⟩:=h4;omega
 |some g=>exact h g rfl a w hs hmem
theorem Gg {c:Code} {A:Option Nat} {t sz m cap:Nat} {xs:List Value} (hi:In (.own A t sz m cap xs) H) (h:xs.length=m*sz→m≤cap→cap≤maxLen→W P n w0 c Q s H):W P n w0 c Q s H:=fun a w hs hmem=>by
 obtain ⟨h1,h2,h3,_⟩:=(hmem.on _ hi.mem).1
 exact h h1 h2 h3 a w hs hmem
theorem Mem.shrink {w:World} {A:Option Nat} {t sz m cap k:Nat} {xs:List Value} (hm:Mem w0 w (.own A t sz m cap xs::H)) (hk:k≤m):Mem w0 w (.own A t sz k cap (xs.take (k*sz))::H):=by
 have h0:=hm.on _ Nj
 obtain ⟨⟨h1,h2,h3,h4⟩,h5⟩:=h0
 have hlen:k*sz≤m*sz:=Nat.mul_le_mul_right _ hk
 refine ⟨hm.below,fun b hb=> ?_,NR.2 ⟨fun x hx=>(NR.1 hm.apart).1 x hx,(NR.1 hm.apart).2⟩⟩
 rcases NA.1 hb with rfl|hb
 ·
  refine ⟨⟨by rw [Nu];omega,by omega,h3,?_⟩,h5⟩
  cases A with
  |none=>obtain ⟨rfl,rfl⟩:=h4;exact ⟨by omega,rfl⟩
  |some g=>
   obtain ⟨junk,j1,j2⟩:=h4
   exact ⟨xs.drop (k*sz)++junk,by rw [← NG,N8];exact j1,by rw [← NG,N8];exact j2⟩
 ·
  exact hm.on b (Nv _ hb)
theorem Gf {c:Code} {A:Option Nat} {t sz m cap:Nat} {xs:List Value} {R:List Blk} (hsel:Sel (.own A t sz m cap xs) H R) (k:Nat) (hk:k≤m) (h:W P n w0 c Q s (.own A t sz k cap (xs.take (k*sz))::R)):W P n w0 c Q s H:=
 fun a w hs hm=>h a w hs ((hm.sel hsel).shrink hk)
theorem Dl {ι:Type} {c:Code} (I:ι→az→List Blk→Prop) (μ:ι→Nat) (i0:ι) (h0: ∃ s0 H0,Sub s0 s∧MSub H0 H∧I i0 s0 H0)
  (round: ∀ i s H,I i s H→W P n w0 c (thn (fun s' H' => ∃ i' s1 H1,μ i' <μ i∧Sub s1 s' ∧MSub H1 H' ∧I i' s1 H1) Q) s H):W P n w0 (.loop c) Q s H:=by
 intro a w hs hm
 obtain ⟨s0,H0,hs0,hH0,hI⟩:=h0
 refine wp_loop_ghost (fun k a' w' => ∃ i s1 H1,I i s1 H1∧μ i=k∧St n s1 a' ∧Mem w0 w' H1) (μ i0) ⟨i0,s0,H0,hI,rfl,hs.sub hs0,hH0.use hm⟩ ?_
 rintro k a1 w1 ⟨i,s1,H1,hI1,rfl,hs1,hm1⟩
 refine wp_mono (round i s1 H1 hI1 a1 w1 hs1 hm1) ?_
 rintro e a' w' ⟨s',H',h1,h2,h3⟩
 cases e with
 |normal=>
  obtain ⟨i',s2,H2,hlt,hsub,hms,hI2⟩:=h3
  exact ⟨μ i',hlt,i',s2,H2,hI2,rfl,h1.sub hsub,hms.use h2⟩
 |_=>exact ⟨s',H',h1,h2,h3⟩
theorem Gl {t e hi m c sz:Nat} {A:Option Nat} {x q:Operand} {k:IntKind} [ht:Und P t (.slice e)] [hz:Size P e sz] (hx:ev s x=some (sl A m c)) (hq:ev s q=some (.int k (hi:Nat))) (h2:hi≤c):
  VOp P w0 s H (.slice t x none (some q) none) ty (sl A hi c):=by
 have h:=iQ (P:=P) (w0:=w0) (H:=H) (ty:=ty) (t:=t) (xl:=none) (xh:=some q) (lo:=0) (hi:=hi) hx rfl ⟨k,hq⟩ (Ns _) h2
 have e:(if c=0 then (A.map fun g=>(⟨g,0,none⟩:Addr)) else (A.map fun g=>(⟨g,0,none⟩:Addr)).map (·.add (0*sz)))=A.map fun g=>⟨g,0,none⟩:=by
  split
  ·
   rfl
  ·
   cases A<;>simp [cE]
 unfold sl at h ⊢
 rw [e,Pa,Pa] at h
 exact h
theorem dI {d t e sz by_:Nat} {ops:Array Oper} [ht:Und P t (.slice e)] [he:Elem P e sz by_] (hn:Nat.blt d n.sz=true)
  (k: ∀ g,WL P n w0 ops rest Q ((d,.slice (some ⟨g,0,none⟩) 0 0)::s) (.own (some g) e sz 0 0 []::H)):WL P n w0 ops (⟨some d,.buildSlice t 0 #[],ty,p,af,none⟩::rest) Q s H:=by
 refine pL (B:=fun g=> .own (some g) e sz 0 0 []) (v:=fun g=> .slice (some ⟨g,0,none⟩) 0 0) hn (fun a w hs hm=> ?_) k
 obtain ⟨i,z,h1,h2,h3,h4,h5,h6⟩:=he.out
 refine ⟨w.alloc (.cells #[] e),?_,World.grownBy_alloc w _ none,Blk.own_of (xs:= []) (heap_alloc_new w _) (by simp) rfl (Ns _),rfl⟩
 have h0:Array.range 0= #[]:=rfl
 simp [execOp,Instr.buildSlice,run_underlying ht.out,sizeOf,typeInfo,h1,Instr.fill,newRow,h0]
theorem lB {t e m c:Nat} {A:Option Addr} {x:Operand} {t' :TypeId} [ht:Und P t (.slice e)] (hx:ev s x=some (.slice A m c)):VOp P w0 s H (.binOp .eql t x (.const (.slice none 0 0)) t') ty (.bool A.isNone):=fun ρ w _ _ _ _ hρ _=>by
 have hc:=hρ (.const (.slice none 0 0)) _ rfl
 simp [execOp,hρ x _ hx,hc,eqGuard,Lib.run_eql_slice_nil w t e A m c 0 0 ht.out]
theorem MSub.snoc {c:Blk} {K T U:List Blk} (hs:Sel c T U) (h:MSub K U):MSub (K++ [c]) T:=by
 obtain ⟨X,hp⟩:=h
 refine ⟨X,hs.perm.trans ((hp.cons c).trans ?_)⟩
 rw [NG]
 exact (List.perm_middle (l₁:=K) (a:=c) (l₂:=X)).symm
theorem MSub.rot {c:Blk} {K T:List Blk} (h:MSub (K++ [c]) T):MSub (c::K) T:=by
 obtain ⟨X,hp⟩:=h
 exact ⟨X,hp.trans ((OG (l₁:=K) (l₂:= [c])).append_right X)⟩
theorem jP {x y:Operand} {a b:Nat} {t t' :TypeId} (hx:ev s x=some (.int .i64 (a:Nat))) (hy:ev s y=some (.int .i64 (b:Nat))) (h:b≤a) (ha:a≤maxLen):VOp P w0 s H (.binOp .sub t x y t') ty (.int .i64 ((a - b:Nat):Int)):=by
 have e:((a - b:Nat):Int)=(a:Int) - (b:Int):=by omega
 rw [e]
 exact Dp hx hy ⟨by omega,by simp only [maxLen] at ha;omega⟩
theorem dr {x y:Operand} {a b:Nat} {t t' :TypeId} (hx:ev s x=some (.int .i64 (a:Nat))) (hy:ev s y=some (.int .i64 (b:Nat))) (ha:a+b≤maxLen):VOp P w0 s H (.binOp .add t x y t') ty (.int .i64 ((a+b:Nat):Int)):=by
 rw [Int.natCast_add]
 exact da hx hy ⟨by omega,by simp only [maxLen] at ha;omega⟩
theorem gj {x y:Operand} {a:Nat} {t t' :TypeId} (hx:ev s x=some (.int .i64 (a:Nat))) (hy:ev s y=some (.int .i64 1)) (ha:a+1≤maxLen):VOp P w0 s H (.binOp .add t x y t') ty (.int .i64 ((a+1:Nat):Int)):=dr (b:=1) hx hy ha
theorem dG {x y:Operand} {a:Nat} {t t' :TypeId} (hx:ev s x=some (.int .i64 (a:Nat))) (hy:ev s y=some (.int .i64 1)) (h:1≤a) (ha:a≤maxLen):VOp P w0 s H (.binOp .sub t x y t') ty (.int .i64 ((a - 1:Nat):Int)):=jP (b:=1) hx hy h ha
theorem Bu {x y:Operand} {a b:Nat} {ts:Array TypeId} (hx:ev s x=some (.int .i64 (a:Nat))) (hy:ev s y=some (.int .i64 (b:Nat))):
  VOp P w0 s H (.call { callee:= .builtin .max,args:= #[x,y],argTypes:=ts }) ty (.int .i64 ((max a b:Nat):Int)):=by
 have h:=gJ (P:=P) (w0:=w0) (H:=H) (ty:=ty) (ts:=ts) hx hy
 have e:(if (a:Int)<(b:Int) then (b:Int) else (a:Int))=((max a b:Nat):Int):=by split<;>omega
 rw [← e]
 exact h
theorem FnIn.msub {f:FuncId} {args:List Value} {H' :List Blk} {R:Value→List Blk→Prop} (h:FnIn P f args w0 H' R) (hs:MSub H' H):FnIn P f args w0 H R:=fun w hm=>h w (hs.use hm)
theorem aA {x:Operand} {t g o m:Nat} {xs:List Value} [Agg P t m] (hx:ev s x=some (.pointer (some ⟨g,o,none⟩))) (hr:Ro w0 g o xs) (hl:Nat.beq xs.length m=true):VOp P w0 s H (.load t x) ty (.agg xs.toArray):=by
 have hm:=NP hl
 exact eH (off:=0) hr hx (by rw [OC,← hm,N0]) hm
theorem dh {x:Operand} {t g o:Nat} {v:Value} [One P t] (hx:ev s x=some (.pointer (some ⟨g,o,none⟩))) (hr:Ro w0 g o [v]):VOp P w0 s H (.load t x) ty v:=aL (off:=0) hr hx rfl
theorem dB {x:Operand} {t g o off:Nat} {xs:List Value} {v:Value} [One P t] (hx:ev s x=some (.pointer (some ⟨g,o+off,none⟩))) (hr:Ro w0 g o xs) (hv:xs[off]? =some v):VOp P w0 s H (.load t x) ty v:=aL hr hx hv
theorem yD {x:Operand} {t T g off m n' c sz:Nat} {xs ys:List Value} [Agg P t m] (hx:ev s x=some (.pointer (some ⟨g,off,none⟩))) (hi:In (.own (some g) T sz n' c xs) H) (hv:(xs.drop off).take m=ys) (hl:Nat.beq ys.length m=true):
  VOp P w0 s H (.load t x) ty (.agg ys.toArray):=aQ hx hi hv (NP hl)
end
section
variable {α:Type} {enc:α→List Value} {m:Nat}
theorem je (h: ∀ a,(enc a).length=m): ∀ (L:List α) (i:Nat),(L.flatMap enc).drop (i*m)=(L.drop i).flatMap enc
 | [],i=>by simp
 |a::L,0=>by simp
 |a::L,i+1=>by
  rw [Np,PA,← je h L i,show (i+1)*m=(enc a).length+i*m by rw [h a,Pw,P3,O3],List.drop_append]
  simp
theorem jd (h: ∀ a,(enc a).length=m): ∀ (L:List α) (i:Nat),(L.flatMap enc).take (i*m)=(L.take i).flatMap enc
 | [],i=>by simp
 |a::L,0=>by simp
 |a::L,i+1=>by
  rw [Np,Oe,Np,← jd h L i,show (i+1)*m=(enc a).length+i*m by rw [h a,Pw,P3,O3],List.take_append,NQ (Nat.le_add_right _ _)]
  simp
theorem aK (h: ∀ a,(enc a).length=m) (L:List α):(L.flatMap enc).length=L.length*m:=by
 induction L with
 |nil=>simp
 |cons a L ih=>rw [Np,Na,h a,ih,NB,Pw,P3,O3]
theorem ed (h: ∀ a,(enc a).length=m) (L:List α) (i:Nat) (hi:i<L.length):((L.flatMap enc).drop (i*m)).take m=enc L[i]:=by
 rw [je h,Nn hi,Np,Po (by rw [h];exact Ni _),← h L[i],N0]
theorem v7 (h: ∀ a,(enc a).length=m) (L:List α) (i k:Nat) (hi:i<L.length) (hk:k<m):(L.flatMap enc)[i*m+k]? =(enc L[i])[k]? :=by
 have h1:=ed h L i hi
 rw [← h1,List.getElem?_take,if_pos hk,OE]
theorem zT (h: ∀ a,(enc a).length=m) (L:List α) (i:Nat) (hi:i<L.length) (a:α):(L.flatMap enc).take (i*m)++enc a++(L.flatMap enc).drop (i*m+m)=(L.set i a).flatMap enc:=by
 rw [show i*m+m=(i+1)*m by rw [Pw,P3],jd h,je h,List.set_eq_take_append_cons_drop,if_pos hi]
 simp
theorem Ro.elem {w:World} {g o:Nat} (h: ∀ a,(enc a).length=m) {L:List α} (hr:Ro w g o (L.flatMap enc)) (i:Nat) (hi:i<L.length):Ro w g (o+i*m) (enc L[i]):=by
 rw [← ed h L i hi]
 exact hr.drop.take
end
end Go.SL
namespace Go.SL
open Go Go.Proofs
attribute [local irreducible] W WL WQ WG WA VOp thn blk ba aP FnIn
theorem o6 {α:Type} [DecidableEq α] {L M:List α} {i:Nat} (h1:i<L.length) (h2:i<M.length):decide (L.drop i=M.drop i)=(decide (L[i]=M[i]) && decide (L.drop (i+1)=M.drop (i+1))):=by
 rw [Nn h1,Nn h2]
 simp only [List.cons.injEq,Bool.decide_and]
def k1:Nd:=⟨1,⟨1,50000,au⟩,aO,0,0,0⟩
def k2:Nd:=⟨2,bK,⟨1,1,1,1⟩,0,0,0⟩
def k3:Nd:=⟨3,bK,⟨1,1,2,2⟩,0,0,0⟩
def k6:Nd:=⟨6,bK,aO,1,0,0⟩
def j7:Nd:=⟨7,bK,aO,0,46,1⟩
theorem Reads.of_row {w0 w:World} {H:List Blk} {g t sz m c:Nat} {xs:List Value} (hm:Mem w0 w H) (hi:In (.own (some g) t sz m c xs) H):Reads w (.slice (some ⟨g,0,none⟩) m c) m xs:=Reads.of_own hm hi
end Go.SL
namespace Go.SL
open Go Go.RowKit
section
variable {α:Type} {enc:α→List Value} {w0:World}
def M8 (enc:α→List Value) (w0:World) (F:List Blk) (vals:List Value) (Ts:List (List α)):Prop:=
 vals.length=Ts.length∧ ∀ (j:Nat) (x:Value) (T:List α),vals[j]? =some x→Ts[j]? =some T→ ∀ w,Mem w0 w F→Reads w x T.length (T.flatMap enc)
end
theorem jy {α:Type} {enc:α→List Value} {m:Nat} {P:Program} {w0:World} {s:az} {H:List Blk} {ty:TypeId} {x:Operand} {t T g n' c sz i k:Nat} {L:List α} {a:α} {v:Value} [One P t] (henc: ∀ a,(enc a).length=m) (hx:ev s x=some (.pointer (some ⟨g,0+i*m+k,none⟩))) (hi:In (.own (some g) T sz n' c (L.flatMap enc)) H) (hk:k<m) (ha:L[i]? =some a) (hv:(enc a)[k]? =some v):
  VOp P w0 s H (.load t x) ty v:=by
 obtain ⟨hlt,rfl⟩:=Nw.1 ha
 rw [Ny] at hx
 exact bN hx hi (by rw [v7 henc L i k hlt hk];exact hv)
section
variable {P:Program} {n:Fr} {w0:World} {Q:bQ} {s:az} {H:List Blk} {l:List Oper} {f:Nat} {L:Array Bool}
theorem Dk {i:Nat} {o:Oper} (hi:l[i]? =some o) (h:WL P n w0 l.toArray [o] (thn (WA P n w0 l Q f (L.setIfInBounds i true)) Q) s H) (a:Act) (w:World) (hs:St n s a) (hm:Mem w0 w H):
  wpOp P l.toArray (post n w0 Q) i (wpAny P .any l.toArray (post n w0 Q) f (L.setIfInBounds i true)) a w:=by
 have h1:=h a w hs hm
 have hi' :l.toArray[i]? =some o:=by simpa using hi
 unfold wpOp
 simp only [hi']
 unfold wpList at h1
 have hnext: ∀ a w,wpList P l.toArray (post n w0 (thn (WA P n w0 l Q f (L.setIfInBounds i true)) Q)) [] a w→wpAny P .any l.toArray (post n w0 Q) f (L.setIfInBounds i true) a w:=by
  rintro a w ⟨s',H',h1,h2,h3⟩
  exact h3 a w h1 h2
 split
 ·
  rename_i hw
  rw [if_pos hw] at h1
  refine h1.imp (fun h2=>vD hnext (fun c a w h=>h) (fun a w h=>h) h2) fun ⟨h2,a0,w0,h3⟩=>⟨h2,a0,w0,h3⟩
 ·
  rename_i hw
  rw [if_neg hw] at h1
  exact hnext _ _ h1
theorem cM {i j:Nat} {oi oj:Oper} (hi:l[i]? =some oi) (hj:l[j]? =some oj) (hr:Region.ready .any l.toArray L= [i,j]) (h1:WL P n w0 l.toArray [oi] (thn (WA P n w0 l Q f (L.setIfInBounds i true)) Q) s H)
  (h2:WL P n w0 l.toArray [oj] (thn (WA P n w0 l Q f (L.setIfInBounds j true)) Q) s H):WA P n w0 l Q (f+1) L s H:=by
 intro a w hs hm
 refine ⟨fun h0=>(by rw [hr] at h0;cases h0),fun k hk=> ?_⟩
 rw [hr] at hk
 rcases NA.1 hk with e|hk
 ·
  subst e
  exact Dk hi h1 a w hs hm
 ·
  have e:k=j:=by simpa using hk
  subst e
  exact Dk hj h2 a w hs hm
end
section
variable {P:Program} {n:Fr} {w0:World} {Q:bQ} {s:az} {H:List Blk} {ty:TypeId}
theorem rV {x ix:Operand} {t e g off m j sz:Nat} {k:IntKind} [ht:Und P t (.array m e)] [hs:Size P e sz] (hx:ev s x=some (.pointer (some ⟨g,off,none⟩))) (hi:ev s ix=some (.int k (j:Nat)))
  (hj:j<m):VOp P w0 s H (.indexAddr t x ix) ty (.pointer (some ⟨g,off+j*sz,none⟩)):=fun ρ w _ _ _ _ hρ _=>by
 obtain ⟨i,h1,h2⟩:=hs.out
 have hj' :(j:Int)<(m:Int):=by omega
 have h0:(0:Int)≤(j:Int):=by omega
 have hadd:(⟨g,off,none⟩:Addr).add (j*sz)=⟨g,off+j*sz,none⟩:=by
  unfold Addr.add;split<;>simp_all
 simp [execOp,hρ x _ hx,hρ ix _ hi,Instr.indexAt,run_underlying ht.out,asIntOf,sizeOf,typeInfo,h1,h2,hadd,Instr.sureAddr]
 try omega
theorem Es {x ix:Operand} {t e g off m sz:Nat} {k:IntKind} [ht:Und P t (.array m e)] [hs:Size P e sz] (hx:ev s x=some (.pointer (some ⟨g,off,none⟩))) (hi:ev s ix=some (.int k 0)) (hj:Nat.blt 0 m=true):
  VOp P w0 s H (.indexAddr t x ix) ty (.pointer (some ⟨g,off,none⟩)):=by
 have h:=rV (P:=P) (w0:=w0) (H:=H) (ty:=ty) (t:=t) (j:=0) hx hi (by simpa using hj)
 rwa [Nat.zero_mul,O2] at h
theorem Er {x ix:Operand} {t e g off m sz:Nat} {k:IntKind} [ht:Und P t (.array m e)] [hs:Size P e sz] (hx:ev s x=some (.pointer (some ⟨g,off,none⟩))) (hi:ev s ix=some (.int k 1)) (hj:Nat.blt 1 m=true):
  VOp P w0 s H (.indexAddr t x ix) ty (.pointer (some ⟨g,off+sz,none⟩)):=by
 have h:=rV (P:=P) (w0:=w0) (H:=H) (ty:=ty) (t:=t) (j:=1) hx hi (by simpa using hj)
 rwa [P3] at h
theorem Fs {α:Type} {enc:α→List Value} {m:Nat} (h: ∀ a,(enc a).length=m) (L:List α) (i k:Nat) (hi:i<L.length) (hk:k<m) (v:Value) (a:α) (ha:(enc L[i]).set k v=enc a):
  (L.flatMap enc).set (i*m+k) v=(L.set i a).flatMap enc:=by
 rw [← zT h L i hi a]
 have hl:((L.flatMap enc).take (i*m)).length=i*m:=by
  have h1:=aK h L
  have h2:i*m≤L.length*m:=Nat.mul_le_mul_right _ (by omega)
  rw [Nu];omega
 have h1:L.flatMap enc=(L.flatMap enc).take (i*m)++(enc L[i]++(L.flatMap enc).drop (i*m+m)):=by
  rw [← ed h L i hi]
  conv=>lhs;rw [← N8 (i*m) (L.flatMap enc)]
  congr 1
  conv=>lhs;rw [← N8 m ((L.flatMap enc).drop (i*m))]
  rw [Ow]
 generalize (L.flatMap enc).take (i*m)=X at h1 hl
 generalize (L.flatMap enc).drop (i*m+m)=S at h1
 rw [h1,Pp _ _ (by omega),hl,Nat.add_sub_cancel_left,List.set_append_left _ _ (by rw [h];exact hk),ha]
 simp
end
end Go.SL

/-
  Lemmas and walks, put together: Sl8 Sl17 Sl13 Sl22 Sl31 Sl30.
-/
import Derived.Test.YthgjiibbmkiplaaGreatDoorKw02
set_option linter.unusedSimpArgs false
set_option linter.unusedVariables false
set_option maxRecDepth 20000
namespace Go.SL
open Go Go.RowKit
def reaches (l:List Oper):Nat→Nat→Nat→Bool
 |0,j,k=>Nat.beq j k
 |f+1,j,k=>Nat.beq j k||match l[j]? with
  |none=>false
  |some x=>(oD x).any fun i=>reaches l f i k
theorem j0 {l:List Oper} {D:gX} (hc: ∀ i x,l[i]? =some x→D i=true→ ∀ j∈oD x,D j=true): ∀ (f j k:Nat),reaches l f j k=true→D j=true→D k=true
 |0,j,k,h,hj=>by
  have:=X7 h;subst this;exact hj
 |f+1,j,k,h,hj=>by
  simp only [reaches,Zn] at h;rcases h with h|h
  ·have:=X7 h;subst this;exact hj
  ·cases hx:l[j]? with
   |none=>rw [hx] at h;cases h
   |some x=>
    rw [hx] at h;obtain ⟨i,hi,hr⟩:=XQ.1 h;exact j0 hc f i k hr (hc j x hx hj i hi)
section
variable {P:Program} {n:Fr} {w0:World} {Q:bK} {K:az→Prop} {s:az} {H H1:List Blk} {l rest:List Oper} {k j f:Nat} {ty:TypeId} {p:String} {af:Array Edge}
theorem Turn.late {o:Oper} {D:gX} (ht:Turn l k o D) (h:reaches l f j k=true):D j=false:=by
 cases hD:D j
 ·rfl
 ·have:=j0 ht.closed f j k h hD;rw [ht.not] at this;cases this
theorem mZ {id:Nat} (j:Nat) (H1:List Blk) (hm:P.follows .mixedOrders=true) (hB:Region.lexB .any l.toArray=true) (hj:Nat.blt j l.length=true)
 (h:WG P n w0 l (fun D=>if D j then H1 else H) (fun s' =>Q .normal s' H1) l 0 s):W P n w0 (.region id l.toArray true) Q s H:=by
 refine wT (fun D=>if D j then H1 else H) hm hB (by simp only [X3,if_false];exact .refl _) fun a hs hl=> ?_;have mono: ∀ (r:List Oper) (k:Nat) (a:Act) (K K' :Act→Prop),(∀ a,K a→K' a)→wpG P .any l.toArray (Cls w0 l fun D=>if D j then H1 else H) K r k a→wpG P .any l.toArray (Cls w0 l fun D=>if D j then H1 else H) K' r k a:=by
  intro r
  induction r with
  |nil=>intro k a K K' hk h;exact hk _ h
  |cons o r ih=>
   rintro k a K K' hk ⟨v,h1,h2⟩;exact ⟨v,h1,ih _ _ K K' hk h2⟩
 refine mono _ _ _ _ _ ?_ (h a hs hl);rintro a' ⟨s',h2,h3⟩;refine ⟨s',h2,fun D hD=> ?_⟩;rw [if_pos (hD j (Yg ▸ hj))];exact h3
theorem ru {op:Op} {d:Nat} {v:Value} (hn:Nat.blt d n.sz=true) (hr:reaches l f j k=true) (hne:Nat.beq j k=false) (hv:VOp P w0 s H op ty v) (h:WG P n w0 l (fun D=>if D j then H1 else H) K rest (k+1) ((d,v)::s)):
 WG P n w0 l (fun D=>if D j then H1 else H) K (⟨some d,op,ty,p,af,none⟩::rest) k s:=by
 refine HY hn (fun D ht=> ?_) (fun D=> ?_) h
 ·rw [ht.late hr];exact hv
 ·have:put D k j=D j:=by
   unfold put;rw [if_neg];intro e;subst e;rw [Nat.beq_refl] at hne;cases hne
  simp only [this]
theorem xq {d t e n' c m c' sz by_:Nat} {a2:Addr} {A:Option Nat} {x y:Operand} {xs news:List Value} {R:List Blk} {ops:Array Oper} [ht:Und P t (.slice e)] [he:Elem P e sz by_] (hn:Nat.blt d n.sz=true)
 (hx:ev s x=some (sl A n' c)) (hy:ev s y=some (.slice (some a2) m c')) (hsel:Sel (.own A e sz n' c xs) H R)
 (hnews: ∀ w,Mem w0 w H→ ∀ j u,news[j]? =some u→w.cell? (a2.add j)=some u) (hl:news.length=m*sz) (h1: ∀ u∈news,u.oneCell' =true) (hby:(n' +m)*by_≤140737488355328) (h63:n' +m≤maxLen)
 (k: ∀ A' cap',(0<n' +m→ ∃ g,A' =some g)→WL P n w0 ops rest Q ((d,sl A' (n' +m) cap')::s) (.own A' e sz (n' +m) cap' (xs++news)::R)):
 WL P n w0 ops (⟨some d,.call { callee:= .builtin .append,args:= #[x,y],argTypes:= #[t,t] },ty,p,af,none⟩::rest) Q s H:=by
 intro a w hs hm;have hm' :=hm.sel hsel;obtain ⟨i,z,i1,i2,i3,i4,i5,i6⟩:=he.out;have hb:=(hm'.on _ Xb);have hown:w.ownsRow w0.heap.size e sz (sl A n' c) n' xs:=by
  obtain ⟨⟨b1,b2,b3,b4⟩,b5⟩:=hb;refine ⟨b1,?_⟩
  cases A with
  |none=>obtain ⟨rfl,rfl⟩:=b4;exact .inl ⟨rfl,rfl⟩
  |some g=>
   obtain ⟨junk,j1,j2⟩:=b4;refine .inr ⟨g,c,_,rfl,b5 g rfl,j2,b2,b3,by simpa using j1,?_⟩;simp only [ZB];rw [← b1,ZL]
 obtain ⟨v',w',hr,h2,h3,h4,h5⟩:=run_append_own_at (P:=P) w w0.heap.size t ty e i z sz by_ ht.out i1 i4 i2 i3 i5 i6 (sl A n' c) n' xs hown a2 m c' news hl
  (hnews w hm) h1 h63 hby hm.below.size
 have hsh: ∃ A' cap',v' =sl A' (n' +m) cap' ∧(Blk.own A' e sz (n' +m) cap' (xs++news)).on w' ∧(0<n' +m→ ∃ g,A' =some g):=by
  obtain ⟨q1,q2⟩:=h2;rcases q2 with ⟨rfl,q3⟩|⟨g,cap,cur,rfl,_,q4,q5,q6,q7,q8⟩
  ·refine ⟨none,0,by rw [q3];rfl,⟨q1,by omega,Xn _,q3,rfl⟩,fun h=>by omega⟩
  ·refine ⟨some g,cap,rfl,⟨q1,q5,q6,cur.toList.drop ((n' +m)*sz),?_,?_⟩,fun _=>⟨g,rfl⟩⟩
   ·rw [← q8,YD];simpa using q7
   ·rw [← q8,YD];simpa using q4
 obtain ⟨A',cap',rfl,hon,hsome⟩:=hsh;refine wpList_plain rfl fun K hK=> ?_;unfold Oper.wp execOp;simp only [resolve,invoke,builtin,Sem.run_bind,Sem.run_pure,Result.andThen_ok,Y0,XD,XR,hs.eval x _ hx,hs.eval y _ hy,hr,Oper.upon];have hkey: ∀ (B:Option Nat) (q r:Nat),(sl B q r).ownBlock=B:=fun B q r=>by cases B<;>rfl
 rw [hkey] at h3;refine hK _ _ (k A' cap' hsome _ _ (hs.put (Yg ▸ hn) _) (hm'.upd h3 hon fun j hj=> ?_));rw [hkey,hkey] at h5;simp only [Blk.key] at hj ⊢;rcases h5 with h5|h5
 ·left;rw [← h5];exact hj
 ·right;rw [h5] at hj;injection hj with hj;omega
theorem wH (w:World) (t ty e:TypeId) (i:TypeInfo) (ht:P.underlying t=some (.slice e)) (hi:P.info? e=some i) (B:Option Addr) (m c c' :Nat) (h:m≤c):
 (Builtin.append_ #[t,t] ty #[.slice B m c,.slice none 0 c']).run P w= .ok (.slice B m c) w:=by
 cases B<;>simp [Builtin.append_,run_underlying ht,sizeOf,typeInfo,hi,Builtin.lenOf,Builtin.firstCells,h,storeCells]
theorem dz {d t e n' c m sz by_:Nat} {A:Option Nat} {x y:Operand} {yv:Value} {xs news:List Value} {R:List Blk} {ops:Array Oper} [ht:Und P t (.slice e)] [he:Elem P e sz by_] (hn:Nat.blt d n.sz=true)
 (hx:ev s x=some (sl A n' c)) (hy:ev s y=some yv) (hsel:Sel (.own A e sz n' c xs) H R)
 (hnews: ∀ w,Mem w0 w H→Reads w yv m news) (hl:news.length=m*sz) (h1: ∀ u∈news,u.oneCell' =true) (hby:(n' +m)*by_≤140737488355328) (h63:n' +m≤maxLen)
 (k: ∀ A' cap',(0<m→ ∃ g,A' =some g)→WL P n w0 ops rest Q ((d,sl A' (n' +m) cap')::s) (.own A' e sz (n' +m) cap' (xs++news)::R)):
 WL P n w0 ops (⟨some d,.call { callee:= .builtin .append,args:= #[x,y],argTypes:= #[t,t] },ty,p,af,none⟩::rest) Q s H:=by
 intro a w hs hm;have hm' :=hm.sel hsel;have hb:=(hm'.on _ Xb).1;obtain ⟨B,c',rfl,h2,h3,h4⟩:=hnews w hm;by_cases h0:m=0
 ·subst h0;have hnil:news= []:=ZC (by simpa using hl);subst hnil
  cases B with
  |some a2=>exact xq hn hx hy hsel (fun w hm j u hu=>by simp at hu) hl h1 hby h63 (fun A' cap' hA=>k A' cap' (fun h=>by omega)) a w hs hm
  |none=>
   obtain ⟨i,z,i1,i2,i3,i4,i5,i6⟩:=he.out;have hr:=wH (P:=P) w t ty e i ht.out i1 (A.map fun g=>⟨g,0,none⟩) n' c c' hb.2.1;refine wpList_plain rfl fun K hK=> ?_;unfold Oper.wp execOp;simp only [resolve,invoke,builtin,Sem.run_bind,Sem.run_pure,Result.andThen_ok,Y0,XD,XR,hs.eval x _ hx,hs.eval y _ hy,sl,hr,Oper.upon];refine hK _ _ (k A c (fun h=>by omega) _ _ (hs.put (Yg ▸ hn) _) ?_);simpa using hm'
 ·obtain ⟨g,o,rfl,hro⟩:=h4 (by omega)
  exact aN hn hx hy hsel (fun w' hm2=>by
   obtain ⟨B,c'',e1,e2,e3,e4⟩:=hnews w' hm2;obtain ⟨g',o',e5,hro'⟩:=e4 (by omega);injection e1 with e1 e1' e1'';subst e1;injection e5 with e5;injection e5 with e5 e6;subst e5;subst e6;exact hro'.cells) hl h1 hby h63 (fun A' cap' hA=>k A' cap' (fun h=>hA (by omega))) a w hs hm
end
theorem AB {P:Program} {w0:World} {s:az} {H:List Blk} {ty t hi:Nat} {a:ByteArray} {x q:Operand} {k:IntKind} [ht:Und P t .string] (hx:ev s x=some (.string a)) (hq:ev s q=some (.int k (hi:Nat))) (h2:hi≤a.size):
 VOp P w0 s H (.slice t x none (some q) none) ty (.string (a.extract 0 hi)):=fun ρ w _ _ _ _ hρ _=>by
 have e2:((hi:Nat):Int)≤((a.size:Nat):Int):=by omega
 simp [execOp,hρ x _ hx,hρ q _ hq,Instr.sliceAt,run_underlying ht.out,Instr.slice,Instr.sliceBounds,Instr.sliceBound,asIntOf,h2]
section
variable {P:Program} {n:Fr} {w0:World} {Q:bK} {s:az} {H:List Blk} {rest:List Oper} {ty:TypeId} {p:String} {af:Array Edge}
theorem HT {d t e m sz:Nat} {ps:List (Nat × Operand)} {vs xs zs:List Value} {ops:Array Oper} [ht:Und P t (.array m e)] [he:Size P e sz] [hz:ZeroC P t zs] (hn:Nat.blt d n.sz=true) (hps:evd s ps 0=some vs)
 (hs0:Nat.blt 0 sz=true) (hl:Nat.beq (vs.length*sz) zs.length=true) (h1:AP sz vs=true) (hx:wK (rS vs)=some xs) (k:WL P n w0 ops rest Q ((d,.agg xs.toArray)::s) H):
 WL P n w0 ops (⟨some d,.build t ps.toArray,ty,p,af,none⟩::rest) Q s H:=by
 refine wQ rfl d rfl hn (fun a w hs hm=> ?_) k;obtain ⟨it,z,i1,i2,i3⟩:=hz.out;obtain ⟨ie,j1,j2⟩:=he.out;have hall:=p9 h1;have hlen:=X7 hl;have hfill:=Great.fill_whole (s:=sz) (by simpa using hs0) vs z.cells hall (by rw [i3];simp [hlen]);rw [← w8 hs hps] at hfill;have hb:P.built t (ps.map fun (x:Nat × Operand)=>(x.1,a.eval x.2))=some (rS vs).toArray:=by
  unfold Program.built;simp only [i1,ht.out,i2,j1,j2];exact hfill
 have hr:=run_build (P:=P) w t (ps.map fun (x:Nat × Operand)=>(x.1,a.eval x.2)).toArray (rS vs).toArray (by simpa using hb);rw [jD hx];simp only [execOp,Y0];simp only [Sem.run_bind,hr,Result.andThen_ok,Sem.run_pure]
theorem mY {d t e n' c g sz by_:Nat} {A:Option Nat} {x y:Operand} {xs news:List Value} {R:List Blk} {ops:Array Oper} [ht:Und P t (.slice e)] [he:Elem P e sz by_] (hn:Nat.blt d n.sz=true)
 (hx:ev s x=some (sl A n' c)) (hy:ev s y=some (.slice (some ⟨g,0,none⟩) 1 1)) (hsel:Sel (.own A e sz n' c xs) H R)
 (hi:In (.own (some g) e sz 1 1 news) H) (hl:news.length=sz) (h1: ∀ u∈news,u.oneCell' =true) (hby:(n' +1)*by_≤140737488355328) (h63:n' +1≤maxLen)
 (k: ∀ g' cap',WL P n w0 ops rest Q ((d,sl (some g') (n' +1) cap')::s) (.own (some g') e sz (n' +1) cap' (xs++news)::R)):
 WL P n w0 ops (⟨some d,.call { callee:= .builtin .append,args:= #[x,y],argTypes:= #[t,t] },ty,p,af,none⟩::rest) Q s H:=
 dz (m:=1) hn hx hy hsel (fun w hm=>Reads.of_own (A:=some g) hm hi) (by omega) h1 hby h63 fun A' cap' hA=>by
  obtain ⟨g',rfl⟩:=hA (by omega);exact k g' cap'
end
abbrev Gh:=Option Nat × Nat
def upd (γ:Nat→Gh) (k:Nat) (g:Gh):Nat→Gh:=fun i=>if i=k then g else γ i
section
variable {P:Program} {ops:Array Oper} {md:Region.Mode}
def KM (P:Program) (D:World→Prop) (v:Value):Result Next→Prop
 | .ok (.value u) w' =>u=v∧D w'
 | .ok .skip w' =>v=undef∧D w'
 | .ok (.enter f args) w' =>P.inits.idxOf? f=none∧Calls P f args w' fun e w'' =>e= .returned v∧D w''
 |_=>False
def zq (P:Program) (φ:Gh→Value) (D:Gh→World→Prop):Result Next→Prop
 | .ok (.value u) w' => ∃ g,u=φ g∧D g w'
 | .ok .skip w' => ∃ g,undef=φ g∧D g w'
 | .ok (.enter f args) w' =>Calls P f args w' fun e w'' => ∃ g,e= .returned (φ g)∧D g w''
 | .ok (.row row args) w' =>Rows P row args w' fun u w'' => ∃ g,u=φ g∧D g w''
 |_=>False
variable (V:Nat→Option (Gh→Value)) (C:(Nat→Gh)→Array Bool→World→Prop)
inductive GX (P:Program) (md:Region.Mode) (ops:Array Oper) (V:Nat→Option (Gh→Value)) (C:(Nat→Gh)→Array Bool→World→Prop) (γ:Nat→Gh) (i:Nat) (o:Oper) (v:Value) (a:Act):Prop
 |pass (hw:Region.wanted o (yielded ops a.tmps)=false) (hv:v=undef) (hC: ∀ L w,i∈Region.ready md ops L→C γ L w→C γ (L.setIfInBounds i true) w)
 |det (hw:Region.wanted o (yielded ops a.tmps)=true) (hV:V i=none) (hC: ∀ L w,i∈Region.ready md ops L→C γ L w→KM P (C γ (L.setIfInBounds i true)) v ((execOp a.eval o).run P w))
 |non (hw:Region.wanted o (yielded ops a.tmps)=true) (φ:Gh→Value) (hV:V i=some φ) (hv:v=φ (γ i)) (hC: ∀ L w,i∈Region.ready md ops L→C γ L w→zq P φ (fun g=>C (upd γ i g) (L.setIfInBounds i true)) ((execOp a.eval o).run P w))
variable {V C}
def wpX (P:Program) (md:Region.Mode) (ops:Array Oper) (V:Nat→Option (Gh→Value)) (C:(Nat→Gh)→Array Bool→World→Prop) (γ:Nat→Gh) (Q:Act→Prop):List Oper→Nat→Act→Prop
 | [],_,a=>Q a
 |o::r,k,a=> ∃ v,GX P md ops V C γ k o v a∧wpX P md ops V C γ Q r (k+1) (a.put o.dst v)
end
section
variable {P:Program} {n:Fr} {w0:World} {Q:bK} {s:az} {H:List Blk} {l rest:List Oper} {ty:TypeId} {p:String} {af:Array Edge}
def U2 (w0:World) (l:List Oper) (HL:gX→(Nat→Gh)→List Blk) (γ:Nat→Gh) (L:Array Bool) (w:World):Prop:=Cls w0 l (fun D=>HL D γ) L w
def WX (P:Program) (n:Fr) (w0:World) (l:List Oper) (V:Nat→Option (Gh→Value)) (HL:gX→(Nat→Gh)→List Blk) (γ:Nat→Gh) (K:az→Prop) (rest:List Oper) (k:Nat) (s:az):Prop:=
 ∀ a,St n s a→(∀ j,rest[j]? =l[k+j]?)→wpX P .any l.toArray V (U2 w0 l HL) γ (fun a' => ∃ s',St n s' a' ∧K s') rest k a
variable {V:Nat→Option (Gh→Value)} {HL:gX→(Nat→Gh)→List Blk} {γ:Nat→Gh} {K:az→Prop} {k:Nat}
theorem mW {o:Oper} (hl: ∀ j,(o::rest)[j]? =l[k+j]?):l[k]? =some o∧ ∀ j,rest[j]? =l[k+1+j]? :=
 ⟨by simpa using (hl 0).symm,fun j=>by have:=hl (j+1);simpa [Y8,Zu 1 j] using this⟩
def gok (l:List Oper) (s:az):Option (Nat × Bool)→Option Bool
 |none=>some true
 |some (j,dg)=>match gd l j with
  |none=>none
  |some d=>match look s d with
   |none=>none
   |some v=>some (lz v==some dg)
theorem eQ {o:Oper} {g:Option (Nat × Bool)} {b:Bool} {a:Act} (hg:o.guard=g) (h:gok l s g=some b) (hs:St n s a):Region.wanted o (yielded l.toArray a.tmps)=b:=by
 unfold Region.wanted;rw [hg]
 cases g with
 |none=>simp only [gok,Option.some.injEq] at h;exact h
 |some x=>
  obtain ⟨j,dg⟩:=x;simp only [gok] at h;split at h
  ·cases h
  ·rename_i d hd;split at h
   ·cases h
   ·rename_i v hv;simp only [Option.some.injEq] at h;simp only [ia hs hd hv];exact h
variable {gu:Option (Nat × Bool)}
end
section
variable {P:Program} {n:Fr} {w0:World} {Q:bK} {K:az→Prop} {s:az} {H H1:List Blk} {l rest:List Oper} {k j f:Nat} {ty:TypeId} {p:String} {af:Array Edge}
theorem oC {t T g off m:Nat} {x a:Operand} {v:Value} {vs xs:List Value} {R:List Blk} [Size P t m] (ha:ev s a=some (.pointer (some ⟨g,off,none⟩))) (hx:ev s x=some v)
 (hsel:Sel (.box g T xs) H R) (hv:v.cells=vs.toArray) (hl:vs.length=m) (h1:vs.all Value.oneCell' =true) (hfit:off+m≤xs.length)
 (hnew:MSub H1 (.box g T (xs.take off++vs++xs.drop (off+m))::R)) (h:WG P n w0 l (fun D=>if D k then H1 else H) K rest (k+1) s):
 WG P n w0 l (fun D=>if D k then H1 else H) K (⟨none,.store t a x,ty,p,af,none⟩::rest) k s:=by
 refine Cx (fun D ht a' w hs hm=> ?_) h;have e1:D k=false:=ht.not;have e2:put D k k=true:=by simp [put]
 simp only [e1,X3,if_false] at hm;simp only [e2,if_true];have hm' :=hm.sel hsel;have hb:=(hm'.on _ Xb).1;simp only [Blk.on] at hb;have h1' : ∀ u∈vs,u.oneCell' =true:=by simpa using h1
 have hr:=f9 (P:=P) (t:=t) (off:=off) hv hl h1' hb (by simpa using hfit);simp only at hr;refine ⟨_,?_,hnew.use (hm'.upd (dP _ _ _) (b' := .box g T (xs.take off++vs++xs.drop (off+m))) (setRow_heap _ _ _ _ _ _ hb) fun k hk=> .inl hk)⟩;simp [execOp,hs.eval a _ ha,hs.eval x _ hx,Instr.storeAt,Instr.sureAddr,hr]
theorem u5 {t T g off:Nat} {x a:Operand} {v:Value} {xs:List Value} {R:List Blk} [Size P t 1] (ha:ev s a=some (.pointer (some ⟨g,off,none⟩))) (hx:ev s x=some v)
 (hsel:Sel (.box g T xs) H R) (hv:v.oneCell' =true) (hfit:Nat.blt off xs.length=true)
 (hnew:MSub H1 (.box g T (xs.set off v)::R)) (h:WG P n w0 l (fun D=>if D k then H1 else H) K rest (k+1) s):
 WG P n w0 l (fun D=>if D k then H1 else H) K (⟨none,.store t a x,ty,p,af,none⟩::rest) k s:=by
 refine oC (m:=1) ha hx hsel (vs:= [v]) (by cases v<;>first|rfl|cases hv) rfl (by simpa using hv) (by have:=Yg ▸ hfit;omega) ?_ h;rw [oI _ _ _ (Yg ▸ hfit)];exact hnew
theorem K4 {d:Nat} {f' :FuncId} {xs:List Operand} {vs:List Value} {v:Value} {ts:Array TypeId} [Callable P f'] (hn:Nat.blt d n.sz=true) (hr:reaches l f j k=true) (hne:Nat.beq j k=false) (hx:evs s xs=some vs)
 (hF: ∀ w,Mem w0 w H→aL P f' vs w v) (h:WG P n w0 l (fun D=>if D j then H1 else H) K rest (k+1) ((d,v)::s)):
 WG P n w0 l (fun D=>if D j then H1 else H) K (⟨some d,.call { callee:= .value (.func f'),args:=xs.toArray,argTypes:=ts },ty,p,af,none⟩::rest) k s:=by
 refine Nu hn hx (fun D ht w hm=> ?_) (fun D=> ?_) h
 ·rw [ht.late hr] at hm;exact hF w hm
 ·have:put D k j=D j:=by
   unfold put;rw [if_neg];intro e;subst e;rw [Nat.beq_refl] at hne;cases hne
  simp only [this]
end
theorem zB (z:Array Value) (n:Nat) (u:Value) (h:u∈(Builtin.zeroCells z n).toList):u∈z.toList:=by
 rw [Array.mem_toList_iff,Builtin.zeroCells,Array.mem_map] at h;obtain ⟨i,hi,rfl⟩:=h;rw [Array.mem_range] at hi;have hz:0<z.size:=by
  rcases Y6 z.size with h|h
  ·rw [h] at hi;simp at hi
  ·exact h
 have hl:i % z.size<z.size:=Nat.mod_lt _ hz;rw [getElem!_pos z (i % z.size) hl,Array.mem_toList_iff];exact Array.getElem_mem hl
theorem Ee {P:Program} {n:Fr} {w0:World} {Q:bK} {s:az} {H:List Blk} {rest:List Oper} {ty:TypeId} {p:String} {af:Array Edge} {t e k n' c cx g sz:Nat} {x:Operand} {xs:List Value} {R:List Blk} {ops:Array Oper} {z:Value} [ht:Und P t (.slice e)] [hz:Zero P e z]
 (hx:ev s x=some (.slice (some ⟨g,k*sz,none⟩) (n' - k) cx)) (hk:k<n') (hsel:Sel (.own (some g) e sz n' c xs) H R) (hz1: ∀ u∈z.cells.toList,u.oneCell' =true) (hzs:z.cells.size=sz)
 (K:WL P n w0 ops rest Q s (.own (some g) e sz k c (xs.take (k*sz))::R)):
 WL P n w0 ops (⟨none,.call { callee:= .builtin .clear,args:= #[x],argTypes:= #[t] },ty,p,af,none⟩::rest) Q s H:=by
 intro a w hs hm;have hm' :=hm.sel hsel;obtain ⟨i,i1,i2⟩:=hz.out;obtain ⟨b1,b2,b3,junk,b4,b5⟩:=(hm'.on _ Xb).1;have hzl:(Builtin.zeroCells z.cells (n' - k)).toList.length=(n' - k)*sz:=by rw [Array.length_toList,size_zeroCells,hzs]
 have hkn:k*sz+(n' - k)*sz=n' *sz:=by rw [← Y7];congr 1;omega
 have hst:=run_storeCells_at (P:=P) g (k*sz) e (Builtin.zeroCells z.cells (n' - k)).toList 0 _ w b5 (by simp only [YR,Xa,hzl];omega) (fun u hu=>hz1 u (zB _ _ _ hu));simp only [ZP,hzl,hkn] at hst;have hn0: ¬ n' - k=0:=by omega
 obtain ⟨m,hm2⟩: ∃ m,n' - k=m+1:=⟨n' - k - 1,by omega⟩;have hrun:(Builtin.clear_ #[t] ty #[.slice (some ⟨g,k*sz,none⟩) (n' - k) cx]).run P w= .ok (.tuple #[]) (w.setRow g ((xs++junk).take (k*sz)++(Builtin.zeroCells z.cells (n' - k)).toList++(xs++junk).drop (n' *sz)).toArray):=by
  rw [hm2] at hst ⊢;simp [Builtin.clear_,run_underlying ht.out,zeroValue,typeInfo,i1,i2,hst]
 refine wpList_plain rfl fun K' hK=> ?_;unfold Oper.wp execOp;simp only [resolve,invoke,builtin,Sem.run_bind,Sem.run_pure,Result.andThen_ok,Y0,XD,XR,hs.eval x _ hx,hrun,Oper.upon];refine hK _ _ (K _ _ (hs.put_none _) (hm'.upd (dP _ _ _) (b' := .own (some g) e sz k c (xs.take (k*sz))) ⟨?_,by omega,b3,(Builtin.zeroCells z.cells (n' - k)).toList++(xs++junk).drop (n' *sz),?_,?_⟩ fun k hk=> .inl hk))
 ·rw [XA,b1];omega
 ·have hle:n' *sz≤c*sz:=Zc _ b2;simp only [Xa,XA,Ya,hzl];rw [Xa] at b4;omega
 ·rw [YP (by omega)];rw [← XE];exact setRow_heap _ _ _ _ _ _ b5
theorem x8 {P:Program} (w:World) (base:Nat) (t ty e:TypeId) (i:TypeInfo) (z:Value) (size bytes:Nat) (ht:P.underlying t=some (.slice e)) (hi:P.info? e=some i) (hz:i.zero=some z)
 (hsize:i.size=size) (hby:i.bytes=bytes) (hzs:z.cells.size=size) (hsz:0<size)
 (g n cap k off:Nat) (hk:k≤n) (hoff:k<cap→off=k*size) (xs:List Value) (hown:w.ownsRow base e size (.slice (some ⟨g,0,none⟩) n cap) n xs)
 (a:Addr) (m c:Nat) (news:List Value) (hl:news.length=m*size) (hnews: ∀ j u,news[j]? =some u→w.cell? (a.add j)=some u) (h1: ∀ u∈news,u.oneCell' =true) (hm0:0<m)
 (h63:n+m≤maxLen) (hbytes:(n+m)*bytes≤140737488355328) (hbase:base≤w.heap.size):
 ∃ v' w',(Builtin.append_ #[t,t] ty #[.slice (some ⟨g,off,none⟩) (n - k) (cap - k),.slice (some a) m c]).run P w= .ok v' w' ∧w.grownBy w' (some g)∧
  ((v' = .slice (some ⟨g, off, none⟩) (n - k + m) (cap - k) ∧ n + m ≤ cap ∧ w'.ownsRow base e size (.slice (some ⟨g, 0, none⟩) (n + m) cap) (n + m) (xs ++ news)) ∨
   (∃ cap',v' = .slice (some ⟨w.heap.size,0,none⟩) (n - k+m) cap' ∧w'.ownsRow base e size v' (n - k+m) (xs.drop (k*size)++news))):=by
 subst hsize;subst hby;obtain ⟨hxl,hown2⟩:=hown;rcases hown2 with ⟨h0,_⟩|⟨g',cap',cur,hv,hbg,hg,hnc,hcm,hcs,htake⟩
 ·cases h0
 injection hv with e1 e2 e3;injection e1 with e1;injection e1 with e1;subst e1;subst e3;have hsrc:Src P i.size t (.slice (some a) m c) m news w:=Src.ofSlice w ht a m c news hl hnews h1;have hlen:(xs++news).length=(n+m)*i.size:=by rw [Xa,hxl,hl,Y7]
 by_cases hroom:n+m≤cap
 ·have hoff' :=hoff (by omega);subst hoff';have hfit:n*i.size+news.length≤cur.size:=by rw [hl,hcs,← Y7];exact Zc _ hroom
  have hkn:k*i.size+(n - k)*i.size=n*i.size:=by
   rw [← Y7];congr 1;omega
  have hr0:=run_append_room (P:=P) w t ty e i ht hi g n cap cur hg a m c news hl hnews h1 hroom hfit;have hcell: ∀ j,j<news.length→(w.cell? ⟨g,n*i.size+j,none⟩).isSome=true:=fun j hj=>by
   simp only [World.cell?,hg];rw [Array.getElem?_eq_getElem (by omega)]
   rfl
  have hfro: ∀ j,j<news.length→w.frozen? ⟨g,n*i.size+j,none⟩=false:=fun j hj=>by
   simp [World.frozen?,hg]
  have hr1:=run_append_room_src (P:=P) w t t ty e i ht hi g 0 n cap (.slice (some a) m c) m news hsrc hroom (by simpa using hcell) (by simpa using hfro);have hr2:=run_append_room_src (P:=P) w t t ty e i ht hi g (k*i.size) (n - k) (cap - k) (.slice (some a) m c) m news hsrc (by omega) (by rw [hkn];exact hcell) (by rw [hkn];exact hfro);rw [hkn] at hr2;rw [Xv] at hr1;have hw:=hr0.symm.trans hr1;injection hw with hw1 hw2;rw [← hw2] at hr2;refine ⟨_,_,hr2,⟨rfl,rfl,rfl,by simp,fun j _ hj=>setRow_other w g j _ (fun e=>hj (by rw [e]))⟩,.inl ⟨rfl,hroom,hlen,.inr ⟨g,cap,_,rfl,hbg,setRow_heap w g cur _ e _ hg,hroom,hcm,?_,?_⟩⟩⟩
  ·simp only [YR,Xa,XA,Ya,Array.length_toList];omega
  ·rw [htake,← hlen];exact ZL
 ·have hol:(xs.drop (k*i.size)).length=(n - k)*i.size:=by rw [Ya,hxl,← Nat.sub_mul]
  have hold:(Builtin.firstCells i.size (n - k) (.slice (some ⟨g,off,none⟩) (n - k) (cap - k))).run P w.drew= .ok (xs.drop (k*i.size)).toArray w.drew:=by
   by_cases hkn:n=k
   ·subst hkn;have e0:xs.drop (n*i.size)= []:=ZC (by rw [hol];simp);rw [e0];exact run_firstCells_some w.drew i.size (n - n) ⟨g,off,none⟩ (n - n) (cap - n) [] (by simp) (fun j u hu=>by simp at hu)
   ·have hoff' :=hoff (by omega);subst hoff';refine run_firstCells_some w.drew i.size (n - k) ⟨g,k*i.size,none⟩ (n - k) (cap - k) _ hol fun j u hu=> ?_;have hcc:w.cell? ((⟨g,0,none⟩:Addr).add (k*i.size+j))=some u:=by
     have hu' :xs[k*i.size+j]? =some u:=by rw [← Zo];exact hu
     exact World.ownsRow.cells (w:=w) (base:=base) (e:=e) (size:=i.size) (v:= .slice (some ⟨g,0,none⟩) n cap) (n:=n) (xs:=xs) ⟨hxl,.inr ⟨g,cap,cur,rfl,hbg,hg,hnc,hcm,hcs,htake⟩⟩ (g:=g) rfl _ _ hu'
    rw [cH] at hcc ⊢;simpa using hcc
  have hfits:Builtin.nextslicecap (n - k+m) (cap - k)*i.bytes≤281474976710656:=growslice_fits (by omega) (XU (Zc _ (by omega)) hbytes);have hr:=run_append_grow_src (P:=P) w t t ty e i z ht hi hz (some ⟨g,off,none⟩) (n - k) (cap - k) (xs.drop (k*i.size)) hold (.slice (some a) m c) m news hsrc (by omega) (by simp only [maxLen] at h63;omega) hfits;have hge:=grownCap_ge w (n - k+m) (cap - k) e;have hcm2:grownCap w (n - k+m) (cap - k) e≤maxLen:=grownCap_le_maxLen w (n - k+m) (cap - k) e (by omega);have hlen2:(xs.drop (k*i.size)++news).length=(n - k+m)*i.size:=by rw [Xa,hol,hl,Y7]
  refine ⟨_,_,hr,⟨rfl,rfl,rfl,by simp,fun k hk _=>heap_alloc_old w.drew _ hk⟩,.inr ⟨_,rfl,hlen2,.inr ⟨w.heap.size,_,_,rfl,hbase,heap_alloc_new w.drew _,hge,hcm2,?_,?_⟩⟩⟩
  ·simp only [aah,YR,size_zeroCells,hzs,hlen2,← Y7];congr 1;omega
  ·simp only [Array.toList_append,XE];rw [← XE,← hlen2];exact ZL
section
variable {P:Program} {n:Fr} {w0:World} {Q:bK} {s:az} {H:List Blk} {rest:List Oper} {ty:TypeId} {p:String} {af:Array Edge}
theorem rr {d t e n' c k off g g2 sz by_:Nat} {x y:Operand} {xs news:List Value} {R:List Blk} {ops:Array Oper} [ht:Und P t (.slice e)] [he:Elem P e sz by_] (hn:Nat.blt d n.sz=true)
 (hx:ev s x=some (.slice (some ⟨g,off,none⟩) (n' - k) (c - k))) (hk:k≤n') (hoff:k<c→off=k*sz) (hy:ev s y=some (.slice (some ⟨g2,0,none⟩) 1 1)) (hsel:Sel (.own (some g) e sz n' c xs) H R)
 (hi:In (.own (some g2) e sz 1 1 news) H) (hl:news.length=sz) (h1: ∀ u∈news,u.oneCell' =true) (hby:(n' +1)*by_≤140737488355328) (h63:n' +1≤maxLen)
 (K: ∀ g' off' k' n2 c2 ys,k' ≤n2→(k' <c2→off' =k' *sz)→n2 - k' =n' - k+1→n2≤n' +1→ys.drop (k' *sz)=xs.drop (k*sz)++news→WL P n w0 ops rest Q ((d,.slice (some ⟨g',off',none⟩) (n2 - k') (c2 - k'))::s) (.own (some g') e sz n2 c2 ys::R)):
 WL P n w0 ops (⟨some d,.call { callee:= .builtin .append,args:= #[x,y],argTypes:= #[t,t] },ty,p,af,none⟩::rest) Q s H:=by
 intro a w hs hm;have hm' :=hm.sel hsel;obtain ⟨i,z,i1,i2,i3,i4,i5,i6⟩:=he.out;have hb:=(hm'.on _ Xb);have hown:w.ownsRow w0.heap.size e sz (.slice (some ⟨g,0,none⟩) n' c) n' xs:=by
  obtain ⟨⟨b1,b2,b3,b4⟩,b5⟩:=hb;refine ⟨b1,?_⟩;obtain ⟨junk,j1,j2⟩:=b4;refine .inr ⟨g,c,_,rfl,b5 g rfl,j2,b2,b3,by simpa using j1,?_⟩;simp only [ZB];rw [← b1,ZL]
 have hxl:=hown.1
 obtain ⟨v',w',hr,hgr,hcase⟩:=x8 (P:=P) w w0.heap.size t ty e i z sz by_ ht.out i1 i4 i2 i3 i5 i6 g n' c k off hk hoff xs hown ⟨g2,0,none⟩ 1 1 news (by omega)
  (fun j u hu=>by rw [cH];exact hm.cells_own hi j u hu) h1 (by omega) h63 hby hm.below.size
 have key: ∀ (G' N2 C2:Nat) (ys:List Value),w'.ownsRow w0.heap.size e sz (.slice (some ⟨G',0,none⟩) N2 C2) N2 ys→(Blk.own (some G') e sz N2 C2 ys).on w' :=by
  intro G' N2 C2 ys ho;obtain ⟨q1,q2⟩:=ho;rcases q2 with ⟨h0,_⟩|⟨g3,cap3,cur,hv,_,q4,q5,q6,q7,q8⟩
  ·cases h0
  ·injection hv with e1 e2 e3;injection e1 with e1;injection e1 with e1;subst e1;subst e3;refine ⟨q1,q5,q6,cur.toList.drop (N2*sz),?_,?_⟩
   ·rw [← q8,YD];simpa using q7
   ·rw [← q8,YD];simpa using q4
 refine wpList_plain rfl fun K' hK' => ?_;unfold Oper.wp execOp;simp only [resolve,invoke,builtin,Sem.run_bind,Sem.run_pure,Result.andThen_ok,Y0,XD,XR,hs.eval x _ hx,hs.eval y _ hy,hr,Oper.upon];rcases hcase with ⟨rfl,hroom,ho⟩|⟨cap',rfl,ho⟩
 ·have e1:n' - k+1=n' +1 - k:=by omega
  rw [e1] at*;refine hK' _ _ (K g off k (n' +1) c (xs++news) (by omega) hoff (by omega) (Xy _) ?_ _ _ (hs.put (Yg ▸ hn) _) (hm'.upd hgr (key _ _ _ _ ho) fun j hj=> .inl hj));exact ZD (by rw [hxl];exact Zc _ hk)
 ·refine hK' _ _ (K w.heap.size 0 0 (n' - k+1) cap' (xs.drop (k*sz)++news) (Xn _) (fun _=>by simp) (by omega) (by omega) (by simp) _ _ (hs.put (Yg ▸ hn) _) (hm'.upd hgr (key _ _ _ _ (by simpa using ho)) fun j hj=> ?_))
  right
  simp only [Blk.key] at hj;injection hj with hj;omega
end
end Go.SL

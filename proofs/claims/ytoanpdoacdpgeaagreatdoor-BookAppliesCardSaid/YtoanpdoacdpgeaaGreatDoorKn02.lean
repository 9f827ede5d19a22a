/-
  Lemmas and walks, put together: Sl3 Sl27 Tr Tr2 Sl4.
-/
import Derived.Test.YtoanpdoacdpgeaaGreatDoorKn01
set_option linter.unusedSimpArgs false
set_option linter.unusedVariables false
set_option maxRecDepth 20000
namespace Go.SL
open Go Go.RowKit
section
variable {P:Program} {n:Fr} {w0:World} {Q:bQ} {s:az} {H:List Blk} {l rest:List Oper} {ty:TypeId} {p:String} {af:Array Edge}
def gd:List Oper→Nat→Option Nat
 | [],_=>none
 |o::_,0=>o.dst
 |_::r,j+1=>gd r j
theorem MI (l:List Oper) (j:Nat):(l.toArray[j]?).bind (·.dst)=gd l j:=by
 rw [NZ]
 induction l generalizing j with
 |nil=>simp [gd]
 |cons o l ih=>cases j with
  |zero=>simp [gd]
  |succ j=>simpa [gd] using ih j
def jZ:Value→Option Bool
 | .bool b=>some b
 |_=>none
theorem jg {a:Act} {j d:Nat} {v:Value} (hs:St n s a) (hj:gd l j=some d) (hv:look s d=some v):
  yielded l.toArray a.tmps j=jZ v:=by
 unfold yielded
 rw [MI,hj]
 simp [hs.has d v hv]
 cases v<;>rfl
theorem Jp {op:Op} {dst:Option Tmp} {j d:Nat} {dq:Bool} (hj:gd l j=some d) (hv:look s d=some (.bool dq))
  (k:WL P n w0 l.toArray (⟨dst,op,ty,p,af,none⟩::rest) Q s H):WL P n w0 l.toArray (⟨dst,op,ty,p,af,some (j,dq)⟩::rest) Q s H:=by
 intro a w hs hm
 have h:=k a w hs hm
 have hy:=jg hs hj hv
 simp only [wpList,Region.wanted,if_true] at h
 simp only [wpList,Region.wanted,hy,jZ,beq_self_eq_true,if_true]
 exact h
theorem Ga {op:Op} {dst j d:Nat} {dq:Bool} {v:Value} (hj:gd l j=some d) (hv:look s d=some v) (hw:jZ v≠some dq) (hn:Nat.blt dst n.sz=true)
  (k:WL P n w0 l.toArray rest Q ((dst,undef)::s) H):WL P n w0 l.toArray (⟨some dst,op,ty,p,af,some (j,dq)⟩::rest) Q s H:=by
 intro a w hs hm
 have hy:=jg hs hj hv
 have:(yielded l.toArray a.tmps j==some dq)=false:=by rw [hy];simpa using hw
 simp only [wpList,Region.wanted,this]
 exact k _ _ (hs.put (N7 ▸ hn) _) hm
theorem St.shadow {a:Act} {d:Nat} {v:Value} (hs:St n s a) (hv:look s d=some v):St n ((d,v)::s) a:=
 ⟨hs.size,hs.defers,fun t u hu=>by
  rw [gW] at hu
  by_cases e:d=t
  ·
   subst e;rw [if_pos rfl] at hu;exact hs.has d u (hv.trans hu)
  ·
   rw [if_neg e] at hu;exact hs.has t u hu⟩
theorem Ef {op:Op} {dst:Option Tmp} {j d:Nat} {dq b:Bool} (_hj:gd l j=some d) (hv:look s d=some (.bool b))
  (k1:b=true→WL P n w0 l.toArray (⟨dst,op,ty,p,af,some (j,dq)⟩::rest) Q ((d,.bool true)::s) H)
  (k2:b=false→WL P n w0 l.toArray (⟨dst,op,ty,p,af,some (j,dq)⟩::rest) Q ((d,.bool false)::s) H):
  WL P n w0 l.toArray (⟨dst,op,ty,p,af,some (j,dq)⟩::rest) Q s H:=by
 intro a w hs hm
 cases b with
 |true=>exact k1 rfl a w (hs.shadow hv) hm
 |false=>exact k2 rfl a w (hs.shadow hv) hm
theorem rj {op:Op} {H' :List Blk} {ops:Array Oper} (h: ∀ a w,St n s a→Mem w0 w H→ ∃ w',(execOp a.eval ⟨none,op,ty,p,af,none⟩).run P w= .ok .skip w' ∧Mem w0 w' H')
  (k:WL P n w0 ops rest Q s H'):WL P n w0 ops (⟨none,op,ty,p,af,none⟩::rest) Q s H:=by
 intro a w hs hm
 obtain ⟨w',hr,hm'⟩:=h a w hs hm
 refine wpList_plain rfl fun K hK=> ?_
 simp only [Oper.wp,hr,Oper.upon]
 exact hK _ _ (k _ _ (hs.put_none _) hm')
theorem gk {w:World} {t T g off:Nat} {cur:Array Value} {v:Value} {vs:List Value} {m:Nat} [hz:Size P t m] (hv:v.cells=vs.toArray) (hl:vs.length=m) (h1: ∀ u∈vs,u.oneCell' =true)
  (hg:w.heap[g]? =some (.cells cur T (0,0))) (hfit:off+m≤cur.size):
  (storeVar t ⟨g,off,none⟩ v).run P w= .ok () (w.setRow g (cur.toList.take off++vs++cur.toList.drop (off+m)).toArray):=by
 obtain ⟨i,hi,hs⟩:=hz.out
 have hst:=run_storeCells_at P g off T vs 0 cur w hg (by simpa [hl] using hfit) h1
 simp only [O2,hl] at hst
 have hsz:v.cells.size=i.size:=by rw [hv,hs,← hl];simp
 have hsz' :vs.length=i.size:=hl.trans hs.symm
 simp [storeVar,sizeOf,typeInfo,hi,hsz',hv,hst]
theorem eZ (w:World) (g:Nat) (cs:Array Value):w.grownBy (w.setRow g cs) (some g):=
 ⟨rfl,rfl,rfl,by simp,fun k _ hk=>setRow_other w g k _ (fun e=>hk (by rw [e]))⟩
theorem rJ {ops:Array Oper} {t T g off m:Nat} {x a:Operand} {xs vs:List Value} {v:Value} {R:List Blk} [Size P t m] (ha:ev s a=some (.pointer (some ⟨g,off,none⟩))) (hx:ev s x=some v)
  (hsel:Sel (.box g T xs) H R) (hv:v.cells=vs.toArray) (hl:vs.length=m) (h1: ∀ u∈vs,u.oneCell' =true) (hfit:off+m≤xs.length)
  (k:WL P n w0 ops rest Q s (.box g T (xs.take off++vs++xs.drop (off+m))::R)):WL P n w0 ops (⟨none,.store t a x,ty,p,af,none⟩::rest) Q s H:=by
 refine rj (fun a' w hs hm=> ?_) k
 have hm' :=hm.sel hsel
 have hb:=(hm'.on _ Nj).1
 simp only [Blk.on] at hb
 have hr:=gk (P:=P) (t:=t) (off:=off) hv hl h1 hb (by simpa using hfit)
 simp only at hr
 refine ⟨_,?_,hm'.upd (eZ _ _ _) (b' := .box g T (xs.take off++vs++xs.drop (off+m))) (setRow_heap _ _ _ _ _ _ hb) fun k hk=> .inl hk⟩
 simp [execOp,hs.eval a _ ha,hs.eval x _ hx,Instr.storeAt,Instr.sureAddr,hr]
theorem oD (xs:List Value) (off:Nat) (v:Value) (h:off<xs.length):xs.take off++ [v]++xs.drop (off+1)=xs.set off v:=by
 rw [List.set_eq_take_append_cons_drop,if_pos h]
 simp
theorem wI {ops:Array Oper} {t T g off:Nat} {x a:Operand} {xs:List Value} {v:Value} {R:List Blk} [Size P t 1] (ha:ev s a=some (.pointer (some ⟨g,off,none⟩))) (hx:ev s x=some v)
  (hsel:Sel (.box g T xs) H R) (hv:v.oneCell' =true) (hfit:Nat.blt off xs.length=true)
  (k:WL P n w0 ops rest Q s (.box g T (xs.set off v)::R)):WL P n w0 ops (⟨none,.store t a x,ty,p,af,none⟩::rest) Q s H:=by
 have hf:off<xs.length:=by simpa using hfit
 refine rJ (m:=1) ha hx hsel (vs:= [v]) (by cases v<;>first|rfl|cases hv) rfl (by simpa using hv) (by omega) ?_
 rw [oD _ _ _ hf]
 exact k
theorem rI {ops:Array Oper} {t T g off m sz n' c:Nat} {x a:Operand} {xs vs:List Value} {v:Value} {R:List Blk} [Size P t m] (ha:ev s a=some (.pointer (some ⟨g,off,none⟩))) (hx:ev s x=some v)
  (hsel:Sel (.own (some g) T sz n' c xs) H R) (hv:v.cells=vs.toArray) (hl:vs.length=m) (h1: ∀ u∈vs,u.oneCell' =true) (hfit:off+m≤xs.length)
  (k:WL P n w0 ops rest Q s (.own (some g) T sz n' c (xs.take off++vs++xs.drop (off+m))::R)):WL P n w0 ops (⟨none,.store t a x,ty,p,af,none⟩::rest) Q s H:=by
 refine rj (fun a' w hs hm=> ?_) k
 have hm' :=hm.sel hsel
 obtain ⟨h2,h3,h4,junk,h5,hb⟩:=(hm'.on _ Nj).1
 have hr:=gk (P:=P) (t:=t) (off:=off) hv hl h1 hb (by simp;omega)
 simp only at hr
 have he:(xs++junk).take off++vs++(xs++junk).drop (off+m)=(xs.take off++vs++xs.drop (off+m))++junk:=by
  rw [Po (by omega),List.drop_append_of_le_length hfit]
  simp
 rw [he] at hr
 have hlen:(xs.take off++vs++xs.drop (off+m)).length=xs.length:=by simp;omega
 refine ⟨_,?_,hm'.upd (eZ _ _ _) (b' := .own (some g) T sz n' c (xs.take off++vs++xs.drop (off+m)))
  ⟨hlen.trans h2,h3,h4,junk,by rw [Na,hlen,← Na];exact h5,setRow_heap _ _ _ _ _ _ hb⟩ fun k hk=> .inl hk⟩
 simp [execOp,hs.eval a _ ha,hs.eval x _ hx,Instr.storeAt,Instr.sureAddr,hr]
theorem dQ {ops:Array Oper} {t T g off sz n' c:Nat} {x a:Operand} {xs:List Value} {v:Value} {R:List Blk} [Size P t 1] (ha:ev s a=some (.pointer (some ⟨g,off,none⟩))) (hx:ev s x=some v)
  (hsel:Sel (.own (some g) T sz n' c xs) H R) (hv:v.oneCell' =true) (hfit:off<xs.length)
  (k:WL P n w0 ops rest Q s (.own (some g) T sz n' c (xs.set off v)::R)):WL P n w0 ops (⟨none,.store t a x,ty,p,af,none⟩::rest) Q s H:=by
 refine rI (m:=1) ha hx hsel (vs:= [v]) (by cases v<;>first|rfl|cases hv) rfl (by simpa using hv) (by omega) ?_
 rw [oD _ _ _ hfit]
 exact k
theorem pL {op:Op} {d:Nat} {ops:Array Oper} (hn:Nat.blt d n.sz=true) {B:Nat→Blk} {v:Nat→Value}
  (h: ∀ a w,St n s a→Mem w0 w H→ ∃ w',(execOp a.eval ⟨some d,op,ty,p,af,none⟩).run P w= .ok (.value (v w.heap.size)) w' ∧w.grownBy w' none∧(B w.heap.size).on w' ∧(B w.heap.size).key=some w.heap.size)
  (k: ∀ g,WL P n w0 ops rest Q ((d,v g)::s) (B g::H)):WL P n w0 ops (⟨some d,op,ty,p,af,none⟩::rest) Q s H:=by
 intro a w hs hm
 obtain ⟨w',hr,hg,hb,hk⟩:=h a w hs hm
 refine wpList_plain rfl fun K hK=> ?_
 simp only [Oper.wp,hr,Oper.upon]
 refine hK _ _ (k w.heap.size _ _ (hs.put (N7 ▸ hn) _) (hm.new hg hb fun k hk' => ?_))
 rw [hk] at hk'
 injection hk' with hk'
 omega
class ZeroC (P:Program) (t:TypeId) (zs:outParam (List Value)):Prop where
 out: ∃ i z,P.info? t=some i∧i.zero=some z∧z.cells=zs.toArray
theorem Gd {d t:Nat} {zs:List Value} {ops:Array Oper} [hz:ZeroC P t zs] (hn:Nat.blt d n.sz=true)
  (k: ∀ g,WL P n w0 ops rest Q ((d,.pointer (some ⟨g,0,none⟩))::s) (.box g t zs::H)):WL P n w0 ops (⟨some d,.alloc t,ty,p,af,none⟩::rest) Q s H:=by
 refine pL (B:=fun g=> .box g t zs) (v:=fun g=> .pointer (some ⟨g,0,none⟩)) hn (fun a w hs hm=> ?_) k
 obtain ⟨i,z,h1,h2,h3⟩:=hz.out
 refine ⟨w.alloc (.cells z.cells t),?_,World.grownBy_alloc w _ none,?_,rfl⟩
 ·
  simp [execOp,Instr.alloc,zeroValue,typeInfo,h1,h2,newVar,newRow]
 ·
  simp only [Blk.on,← h3]
  exact heap_alloc_new w _
theorem Gc {d t:Nat} {x:Operand} {v:Value} {vs:List Value} {ops:Array Oper} (hn:Nat.blt d n.sz=true) (hx:ev s x=some v) (hv:v.cells=vs.toArray)
  (k: ∀ g,WL P n w0 ops rest Q ((d,.pointer (some ⟨g,0,none⟩))::s) (.box g t vs::H)):WL P n w0 ops (⟨some d,.box t x,ty,p,af,none⟩::rest) Q s H:=by
 refine pL (B:=fun g=> .box g t vs) (v:=fun g=> .pointer (some ⟨g,0,none⟩)) hn (fun a w hs hm=> ?_) k
 refine ⟨w.alloc (.cells v.cells t),?_,World.grownBy_alloc w _ none,?_,rfl⟩
 ·
  simp [execOp,hs.eval x _ hx,Instr.box,newVar,newRow]
 ·
  simp only [Blk.on,← hv]
  exact heap_alloc_new w _
theorem Jq {d t:Nat} {x:Operand} {vs:List Value} {ops:Array Oper} (hn:Nat.blt d n.sz=true) (hx:ev s x=some (.agg vs.toArray))
  (k: ∀ g,WL P n w0 ops rest Q ((d,.pointer (some ⟨g,0,none⟩))::s) (.box g t vs::H)):WL P n w0 ops (⟨some d,.box t x,ty,p,af,none⟩::rest) Q s H:=
 Gc hn hx rfl k
theorem Jr {d t:Nat} {x:Operand} {v:Value} {ops:Array Oper} (hn:Nat.blt d n.sz=true) (hx:ev s x=some v) (hv:v.oneCell' =true)
  (k: ∀ g,WL P n w0 ops rest Q ((d,.pointer (some ⟨g,0,none⟩))::s) (.box g t [v]::H)):WL P n w0 ops (⟨some d,.box t x,ty,p,af,none⟩::rest) Q s H:=
 Gc hn hx (by cases v<;>first|rfl|cases hv) k
theorem Blk.own_of {w:World} {g e sz m c:Nat} {xs:List Value} (hg:w.heap[g]? =some (.cells xs.toArray e (0,0))) (hl:xs.length=m*sz) (hc:m=c) (hm:c≤maxLen):(Blk.own (some g) e sz m c xs).on w:=by
 subst hc
 exact ⟨hl,Ni _,hm,[],by simpa using hl,by simpa using hg⟩
def qX:List Value→Option (List Value)
 | []=>some []
 |x::r=>match qX r with
  |some r' =>some (x::r')
  |none=>none
theorem ik: ∀ {xs ys:List Value},qX xs=some ys→ys=xs
 | [],ys,h=>by simp only [qX,Option.some.injEq] at h;exact h.symm
 |x::r,ys,h=>by
  simp only [qX] at h
  split at h
  ·
   rename_i r' hr
   simp only [Option.some.injEq] at h
   rw [← h,ik hr]
  ·
   cases h
def evd (s:az):List (Nat × Operand)→Nat→Option (List Value)
 | [],_=>some []
 |(i,x)::r,k=>bif Nat.beq i k then (match ev s x,evd s r (k+1) with|some v,some vs=>some (v::vs)|_,_=>none) else none
theorem rA {a:Act} (hs:St n s a): ∀ {ps:List (Nat × Operand)} {vs:List Value} {k:Nat},evd s ps k=some vs→(ps.map fun (x:Nat × Operand)=>(x.1,a.eval x.2))=(vs.zipIdx k).map fun x=>(x.2,x.1)
 | [],vs,k,h=>by simp only [evd,Option.some.injEq] at h;simp [← h]
 |(i,x)::r,vs,k,h=>by
  simp only [evd] at h
  cases hb:Nat.beq i k with
  |false=>rw [hb] at h;cases h
  |true=>
   have hik:=NP hb
   rw [hb] at h
   simp only [cond_true] at h
   split at h
   ·
    rename_i v vs' hv hvs
    simp only [Option.some.injEq] at h
    rw [← h,NM,rA hs hvs,List.zipIdx_cons,NM,hs.eval x v hv,hik]
   ·
    cases h
def nT (vs:List Value):List Value:=vs.flatMap fun v=>v.cells.toList
def vF (sz:Nat):List Value→Bool
 | []=>true
 |v::r=>Nat.beq v.cells.size sz && vF sz r
theorem mD {sz:Nat}: ∀ {vs:List Value},vF sz vs=true→ ∀ v∈vs,v.cells.size=sz
 | [],_,v,hv=>by cases hv
 |u::r,h,v,hv=>by
  simp only [vF,Nm] at h
  rcases NA.1 hv with rfl|hv
  ·
   exact NP h.1
  ·
   exact mD h.2 v hv
theorem qH {sz:Nat}: ∀ {vs:List Value},(∀ v∈vs,v.cells.size=sz)→(nT vs).length=vs.length*sz
 | [],_=>by simp [nT]
 |v::r,h=>by
  have ih:=qH (vs:=r) (fun u hu=>h u (Nv _ hu))
  have hv:=h v Nj
  simp only [nT,Np,Na,Array.length_toList,NB,Pw,P3] at ih ⊢
  omega
theorem uL {d t e m sz by_:Nat} {ps:List (Nat × Operand)} {vs xs:List Value} {ops:Array Oper} [ht:Und P t (.slice e)] [he:Elem P e sz by_] (hn:Nat.blt d n.sz=true) (hps:evd s ps 0=some vs)
  (hl:vs.length=m) (hsz:vF sz vs=true) (hx:qX (nT vs)=some xs) (hm0:Nat.blt 0 m=true) (hsm:Nat.ble (m*sz) 16777216=true)
  (k: ∀ g,WL P n w0 ops rest Q ((d,.slice (some ⟨g,0,none⟩) m m)::s) (.own (some g) e sz m m xs::H)):WL P n w0 ops (⟨some d,.buildSlice t m ps.toArray,ty,p,af,none⟩::rest) Q s H:=by
 refine pL (B:=fun g=> .own (some g) e sz m m xs) (v:=fun g=> .slice (some ⟨g,0,none⟩) m m) hn (fun a w hs hm=> ?_) k
 obtain ⟨i,z,h1,h2,h3,h4,h5,h6⟩:=he.out
 have hm1:0<m:=by simpa using hm0
 have hsm1:m*sz≤16777216:=by simpa using hsm
 have hall:=mD hsz
 have hlen:xs.length=m*sz:=by rw [ik hx,qH hall,hl]
 have hfill:=Great.fill_whole h6 vs ((Array.range (m*i.size)).map (z.cells[· % z.cells.size]!)) hall (by simp [hl,h2])
 rw [← rA hs hps] at hfill
 have hr:=run_buildSlice (P:=P) w t e m (ps.map fun x=>(x.1,a.eval x.2)).toArray _ i z ht.out h1 h4 (by rw [h2];omega) (by rw [h2];exact Nat.ne_of_gt (Nat.mul_pos hm1 h6)) (by rw [h2] at hfill ⊢;exact hfill)
 refine ⟨_,?_,World.grownBy_alloc w _ none,Blk.own_of (e:=e) (xs:=xs) (by rw [ik hx];exact heap_alloc_new w _) hlen rfl ?_,rfl⟩
 ·
  simp only [execOp,OZ]
  simp only [Sem.run_bind,hr,Result.andThen_ok,Sem.run_pure,nT]
 ·
  have:m≤m*sz:=Nat.le_mul_of_pos_right m h6
  simp only [maxLen];omega
theorem bA {d t e n' c m c' g2 o2 sz by_:Nat} {A:Option Nat} {x y:Operand} {xs news:List Value} {R:List Blk} {ops:Array Oper} [ht:Und P t (.slice e)] [he:Elem P e sz by_] (hn:Nat.blt d n.sz=true)
  (hx:ev s x=some (sl A n' c)) (hy:ev s y=some (.slice (some ⟨g2,o2,none⟩) m c')) (hsel:Sel (.own A e sz n' c xs) H R)
  (hnews: ∀ w,Mem w0 w H→Cells w g2 o2 news) (hl:news.length=m*sz) (h1: ∀ u∈news,u.oneCell' =true) (hby:(n' +m)*by_≤140737488355328) (h63:n' +m≤maxLen)
  (k: ∀ A' cap',(0<n' +m→ ∃ g,A' =some g)→WL P n w0 ops rest Q ((d,sl A' (n' +m) cap')::s) (.own A' e sz (n' +m) cap' (xs++news)::R)):
  WL P n w0 ops (⟨some d,.call { callee:= .builtin .append,args:= #[x,y],argTypes:= #[t,t] },ty,p,af,none⟩::rest) Q s H:=by
 intro a w hs hm
 have hm' :=hm.sel hsel
 obtain ⟨i,z,i1,i2,i3,i4,i5,i6⟩:=he.out
 have hb:=(hm'.on _ Nj)
 have hown:w.ownsRow w0.heap.size e sz (sl A n' c) n' xs:=by
  obtain ⟨⟨b1,b2,b3,b4⟩,b5⟩:=hb
  refine ⟨b1,?_⟩
  cases A with
  |none=>obtain ⟨rfl,rfl⟩:=b4;exact .inl ⟨rfl,rfl⟩
  |some g=>
   obtain ⟨junk,j1,j2⟩:=b4
   refine .inr ⟨g,c,_,rfl,b5 g rfl,j2,b2,b3,by simpa using j1,?_⟩
   simp only [Py]
   rw [← b1,List.take_left]
 obtain ⟨v',w',hr,h2,h3,h4,h5⟩:=run_append_own_at (P:=P) w w0.heap.size t ty e i z sz by_ ht.out i1 i4 i2 i3 i5 i6 (sl A n' c) n' xs hown ⟨g2,o2,none⟩ m c' news hl
  (fun j u hu=>by rw [cE];exact hnews w hm j u hu) h1 h63 hby hm.below.size
 have hsh: ∃ A' cap',v' =sl A' (n' +m) cap' ∧(Blk.own A' e sz (n' +m) cap' (xs++news)).on w' ∧(0<n' +m→ ∃ g,A' =some g):=by
  obtain ⟨q1,q2⟩:=h2
  rcases q2 with ⟨rfl,q3⟩|⟨g,cap,cur,rfl,_,q4,q5,q6,q7,q8⟩
  ·
   refine ⟨none,0,by rw [q3];rfl,⟨q1,by omega,Ns _,q3,rfl⟩,fun h=>by omega⟩
  ·
   refine ⟨some g,cap,rfl,⟨q1,q5,q6,cur.toList.drop ((n' +m)*sz),?_,?_⟩,fun _=>⟨g,rfl⟩⟩
   ·
    rw [← q8,N8];simpa using q7
   ·
    rw [← q8,N8];simpa using q4
 obtain ⟨A',cap',rfl,hon,hsome⟩:=hsh
 refine wpList_plain rfl fun K hK=> ?_
 unfold Oper.wp execOp
 simp only [resolve,invoke,builtin,Sem.run_bind,Sem.run_pure,Result.andThen_ok,OZ,NM,OD,hs.eval x _ hx,hs.eval y _ hy,hr,Oper.upon]
 have hkey: ∀ (B:Option Nat) (q r:Nat),(sl B q r).ownBlock=B:=fun B q r=>by cases B<;>rfl
 rw [hkey] at h3
 refine hK _ _ (k A' cap' hsome _ _ (hs.put (N7 ▸ hn) _) (hm'.upd h3 hon fun j hj=> ?_))
 rw [hkey,hkey] at h5
 simp only [Blk.key] at hj ⊢
 rcases h5 with h5|h5
 ·
  left;rw [← h5];exact hj
 ·
  right;rw [h5] at hj;injection hj with hj;omega
theorem aD {c:Code} (e sz:Nat) (k:W P n w0 c Q s (.own none e sz 0 0 []::H)):W P n w0 c Q s H:=fun a w hs hm=>
 k a w hs (hm.new (b:= .own none e sz 0 0 []) ⟨rfl,rfl,rfl,Ni _,fun _ _ _=>rfl⟩ ⟨by simp,Ni _,Ns _,rfl,rfl⟩ (fun k hk=>by cases hk))
theorem wL {ops:Array Oper} {H' :List Blk} (hH:MSub H' H) (h:WL P n w0 ops rest Q s H'):WL P n w0 ops rest Q s H:=
 fun a w hst hm=>h a w hst (hH.use hm)
theorem F6 {d t e lo hi m c sz:Nat} {A:Option Addr} {x:Operand} {xl xh:Option Operand} {ops:Array Oper} [ht:Und P t (.slice e)] [hz:Size P e sz] (hn:Nat.blt d n.sz=true) (hx:ev s x=some (.slice A m c))
  (hxl:match xl with|none=>lo=0|some q=> ∃ k,ev s q=some (.int k (lo:Nat))) (hxh:match xh with|none=>hi=m|some q=> ∃ k,ev s q=some (.int k (hi:Nat))) (h1:lo≤hi) (h2:hi≤c)
  (k: ∀ B,(B=if c=lo then A else A.map (·.add (lo*sz)))→WL P n w0 ops rest Q ((d,.slice B (hi - lo) (c - lo))::s) H):WL P n w0 ops (⟨some d,.slice t x xl xh none,ty,p,af,none⟩::rest) Q s H:=by
 refine rk rfl d rfl hn (fun a w hs hm=> ?_) (k _ rfl)
 obtain ⟨i,hi1,hi2⟩:=hz.out
 have e1:((lo:Nat):Int)≤((hi:Nat):Int):=by omega
 have e2:((hi:Nat):Int)≤((c:Nat):Int):=by omega
 have e3:((0:Nat):Int)≤((hi:Nat):Int):=by omega
 cases xl with
 |none=>
  cases xh with
  |none=>
   simp only at hxl hxh
   subst hxl hxh
   simp [execOp,hs.eval x _ hx,Instr.sliceAt,run_underlying ht.out,Instr.slice,Instr.sliceBounds,sizeOf,typeInfo,hi1]
  |some q=>
   simp only at hxl hxh
   subst hxl
   obtain ⟨kk,hq⟩:=hxh
   simp [execOp,hs.eval x _ hx,hs.eval q _ hq,Instr.sliceAt,run_underlying ht.out,Instr.slice,Instr.sliceBounds,Instr.sliceBound,asIntOf,sizeOf,typeInfo,hi1,h2]
 |some ql=>
  obtain ⟨kl,hql⟩:=hxl
  cases xh with
  |none=>
   simp only at hxh
   subst hxh
   simp [execOp,hs.eval x _ hx,hs.eval ql _ hql,Instr.sliceAt,run_underlying ht.out,Instr.slice,Instr.sliceBounds,Instr.sliceBound,asIntOf,sizeOf,typeInfo,hi1,hi2,h1]
  |some q=>
   obtain ⟨kk,hq⟩:=hxh
   simp [execOp,hs.eval x _ hx,hs.eval q _ hq,hs.eval ql _ hql,Instr.sliceAt,run_underlying ht.out,Instr.slice,Instr.sliceBounds,Instr.sliceBound,asIntOf,sizeOf,typeInfo,hi1,hi2,h1,h2]
end
theorem zZ {s:az} {ρ:Operand→Value} (hρ: ∀ x u,ev s x=some u→ρ x=u): ∀ {ps:List (Nat × Operand)} {vs:List Value} {k:Nat},evd s ps k=some vs→(ps.map fun (x:Nat × Operand)=>(x.1,ρ x.2))=(vs.zipIdx k).map fun x=>(x.2,x.1)
 | [],vs,k,h=>by simp only [evd,Option.some.injEq] at h;simp [← h]
 |(i,x)::r,vs,k,h=>by
  simp only [evd] at h
  cases hb:Nat.beq i k with
  |false=>rw [hb] at h;cases h
  |true=>
   have hik:=NP hb
   rw [hb] at h
   simp only [cond_true] at h
   split at h
   ·
    rename_i v vs' hv hvs
    simp only [Option.some.injEq] at h
    rw [← h,NM,zZ hρ hvs,List.zipIdx_cons,NM,hρ x v hv,hik]
   ·
    cases h
theorem mB {P:Program} {w0:World} {s:az} {H:List Blk} {ty:TypeId} {t e m sz:Nat} {ps:List (Nat × Operand)} {vs xs zs:List Value} [ht:Und P t (.array m e)] [he:Size P e sz] [hz:ZeroC P t zs] (hps:evd s ps 0=some vs)
  (hs0:Nat.blt 0 sz=true) (hl:Nat.beq (vs.length*sz) zs.length=true) (h1:vF sz vs=true) (hx:qX (nT vs)=some xs):VOp P w0 s H (.build t ps.toArray) ty (.agg xs.toArray):=fun ρ w _ _ _ _ hρ _=>by
 obtain ⟨it,z,i1,i2,i3⟩:=hz.out
 obtain ⟨ie,j1,j2⟩:=he.out
 have hall:=mD h1
 have hlen:=NP hl
 have hfill:=Great.fill_whole (s:=sz) (by simpa using hs0) vs z.cells hall (by rw [i3];simp [hlen])
 rw [← zZ hρ hps] at hfill
 have hb:P.built t (ps.map fun (x:Nat × Operand)=>(x.1,ρ x.2))=some (nT vs).toArray:=by
  unfold Program.built
  simp only [i1,ht.out,i2,j1,j2]
  exact hfill
 have hr:=run_build (P:=P) w t (ps.map fun (x:Nat × Operand)=>(x.1,ρ x.2)).toArray (nT vs).toArray (by simpa using hb)
 rw [ik hx]
 simp only [execOp,OZ]
 simp only [Sem.run_bind,hr,Result.andThen_ok,Sem.run_pure]
end Go.SL
namespace Go.SL
open Go
structure STree where
 ns:List Nd
 d:Nat
def STree.kind (S:STree):Int:=((S.ns.getLast?).map Nd.kind).getD 0
def M4 (n:Nd) (i:Int) (k:Int):Bool:= !(decide (k=3) && !zF n i) && !(decide (n.kind=7) && gS n.fn && decide (k≠2) && decide (k≠3))
def H8 (n:Nd):Int→List STree→Bool
 |_,[]=>true
 |i,S::r=>M4 n i S.kind && H8 n (i+1) r
def HN (st:List STree) (k:Nat):List STree:=st.drop (st.length - k)
def CM (top:List STree):Nat:=top.foldl (fun d S=>max d (S.d+1)) 1
def v8 (st:List STree):List Nd:=st.flatMap STree.ns
def DM (n:Nd) (top:List STree):STree:=⟨v8 top++ [n],CM top⟩
def MA (n:Nd) (st:List STree):Int ⊕ (List STree × List STree):=
 if cQ n≠0 then .inl (cQ n)
 else if (st.length:Int)<below n∨H8 n 0 (HN st (below n).toNat)=false then .inl 4
 else if 32<CM (HN st (below n).toNat) then .inl 9
 else .inr (st.take (st.length - (below n).toNat),HN st (below n).toNat)
abbrev C8:=List (List STree × STree)
def KJ:List Nd→List STree→C8→Int × List STree × C8
 | [],st,h=>(if st.length=1 then 0 else 4,st,h)
 |n::r,st,h=>match MA n st with
  | .inl e=>(e,st,h)
  | .inr (lo,top)=>KJ r (lo++ [DM n top]) (h++ [(top,DM n top)])
inductive Good:STree→Prop
 |mk (n:Nd) (top:List STree) (hg: ∀ S∈top,Good S) (hf:cQ n=0) (hb:(top.length:Int)=Go.SL.below n) (hfit:H8 n 0 top=true) (hd:CM top≤32):Good (DM n top)
def ko:Nat→List STree→List Nat
 |_,[]=> []
 |o,S::r=>(o+S.ns.length - 1)::ko (o+S.ns.length) r
def lo (i:Nat) (x:List STree × STree):Nat:=i+1 - x.2.ns.length
def tJ (i:Nat) (x:List STree × STree):List Nat:=ko (lo i x) x.1
structure Inv (dn:List Nd) (st:List STree) (h:C8):Prop where
 nT:v8 st=dn
 good: ∀ S∈st,Good S
 len:h.length=dn.length
 node: ∀ i x,h[i]? =some x→ ∃ n,dn[i]? =some n∧x.2=DM n x.1∧(∀ T∈x.1,Good T)∧Good x.2∧x.2.ns.length≤i+1∧(dn.take (i+1)).drop (lo i x)=x.2.ns
 deep: ∀ x∈h,∃ S∈st,x.2.d≤S.d
 cut: ∀ a b,st=a++b→ ∀ j x,h[j]? =some x→(v8 a).length≤j→(v8 a).length≤lo j x
 lam: ∀ i j x y,h[i]? =some x→h[j]? =some y→j≤i→lo i x≤j→lo i x≤lo j y
 mid: ∀ i j x y,h[i]? =some x→h[j]? =some y→ ∀ k∈tJ j y,k<i→i<j→k<lo i x
 up: ∀ k<h.length,k∈ko 0 st∨ ∃ j y,h[j]? =some y∧k∈tJ j y
 apart: ∀ j y,h[j]? =some y→ ∀ k∈tJ j y,k∉ko 0 st
 one: ∀ i j x y,h[i]? =some x→h[j]? =some y→ ∀ k,k∈tJ i x→k∈tJ j y→i=j
structure RootOk (st:List STree) (h:C8):Prop where
 root: ∀ a S b,st=a++S::b→ ∃ top,h[(v8 a).length+S.ns.length - 1]? =some (top,S)
 kid: ∀ j y,h[j]? =some y→ ∀ a S b,y.1=a++S::b→ ∃ top,h[lo j y+(v8 a).length+S.ns.length - 1]? =some (top,S)
def Lt (o:List Int) (ks:List Nat) (v:Int):List Int:=ks.foldl (fun o k=>o.set k v) o
def J4 (o:List Int) (x:(List STree × STree) × Nat):List Int:=Lt (o++ [-1]) (tJ x.2 x.1) (x.2:Int)
def LA (h:C8):List Int:=h.zipIdx.foldl J4 []
structure ParOk (st:List STree) (h:C8):Prop where
 len:(LA h).length=h.length
 kid: ∀ j y,h[j]? =some y→ ∀ k∈tJ j y,(LA h)[k]? =some (j:Int)
 root: ∀ k∈ko 0 st,(LA h)[k]? =some (-1)
structure Whole (L:List Nd) (S:STree) (h:C8):Prop where
 walk:KJ L [] []=(0,[S],h)
 ns:S.ns=L
 good:Good S
 inv:Inv L [S] h
 rootOk:RootOk [S] h
 parOk:ParOk [S] h
 pos:0<L.length
 last: ∃ top,h[L.length - 1]? =some (top,S)
end Go.SL
namespace Go.SL
open Go Go.RowKit
def aP (P:Program) (f:FuncId) (args:List Value) (w:World) (R:Value→List Blk→Prop):Prop:=
 Calls P f args.toArray w fun e w' => ∃ v H',e= .returned v∧Mem w w' H' ∧R v H'
def ay (P:Program) (f:FuncId) (args:List Value) (w:World) (v:Value):Prop:=aP P f args w fun u _=>u=v
def FnIn (P:Program) (f:FuncId) (args:List Value) (w0:World) (H:List Blk) (R:Value→List Blk→Prop):Prop:=
 ∀ w,Mem w0 w H→Calls P f args.toArray w fun e w' => ∃ v H',e= .returned v∧Mem w0 w' H' ∧R v H'
theorem FnIn.mono {P:Program} {f:FuncId} {args:List Value} {w0:World} {H:List Blk} {R R' :Value→List Blk→Prop} (h:FnIn P f args w0 H R) (hr: ∀ v H,R v H→R' v H):FnIn P f args w0 H R' :=
 fun w hm=>Calls.mono (h w hm) fun _ _ ⟨v,H',h1,h2,h3⟩=>⟨v,H',h1,h2,hr _ _ h3⟩
theorem FnIn.of_at {P:Program} {f:FuncId} {args:List Value} {w0:World} {H:List Blk} {R:Value→List Blk→Prop} (h: ∀ w,Mem w0 w H→aP P f args w R):
  FnIn P f args w0 H fun v H' => ∃ H1,R v H1∧H' =H1++H:=
 fun w hm=>Calls.mono (h w hm) fun _ _ ⟨v,H',h1,h2,h3⟩=>⟨v,H' ++H,h1,hm.call h2,H',h3,rfl⟩
def evs (s:az):List Operand→Option (List Value)
 | []=>some []
 |x::r=>match ev s x,evs s r with
  |some v,some vs=>some (v::vs)
  |_,_=>none
section
variable {P:Program} {n:Fr} {w0:World} {Q:bQ} {s:az} {H:List Blk} {l rest:List Oper} {ty:TypeId} {p:String} {af:Array Edge}
theorem gF {a:Act} (hs:St n s a): ∀ {xs:List Operand} {vs:List Value},evs s xs=some vs→xs.map a.eval=vs
 | [],vs,h=>by simp only [evs,Option.some.injEq] at h;simp [← h]
 |x::r,vs,h=>by
  simp only [evs] at h
  split at h
  ·
   rename_i v vs' hv hvs
   simp only [Option.some.injEq] at h
   rw [← h,NM,gF hs hvs,hs.eval x v hv]
  ·
   cases h
theorem j9 {ρ:Operand→Value} {w:World} {d:Option Tmp} {g:Option (Nat × Bool)} {f:FuncId} {c:Operand} {xs:List Operand} {vs caps:List Value} {ts:Array TypeId} [hf:Callable P f] (hc:ρ c= .func (.func f) #[] caps.toArray) (hx:xs.map ρ=vs):
  (execOp ρ ⟨d,.call { callee:= .value c,args:=xs.toArray,argTypes:=ts },ty,p,af,g⟩).run P w= .ok (.enter f (vs++caps).toArray) w:=by
 simp [execOp,resolve,hc,Deferred.ofValue,invoke,← hx,hf.out]
theorem aw {d:Nat} {ops:Array Oper} {f:FuncId} {xs:List Operand} {vs:List Value} {ts:Array TypeId} {R:Value→List Blk→Prop} [Callable P f] (hn:Nat.blt d n.sz=true) (hx:evs s xs=some vs)
  (hF:FnIn P f vs w0 H R) (k: ∀ v H',R v H' →WL P n w0 ops rest Q ((d,v)::s) H'):
  WL P n w0 ops (⟨some d,.call { callee:= .value (.func f),args:=xs.toArray,argTypes:=ts },ty,p,af,none⟩::rest) Q s H:=by
 intro a w hs hm
 refine wpList_plain rfl fun K hK=> ?_
 have hr:=j9 (P:=P) (w:=w) (ρ:=a.eval) (d:=some d) (ty:=ty) (p:=p) (af:=af) (g:=none) (f:=f) (c:= .func f) (xs:=xs) (caps:= []) (ts:=ts) rfl (gF hs hx)
 rw [Nl] at hr
 simp only [Oper.wp,hr,Oper.upon]
 refine (hF w hm).mono ?_
 rintro e w' ⟨v,H',rfl,hm',hR⟩
 exact hK _ _ (k v H' hR _ _ (hs.put (N7 ▸ hn) _) hm')
theorem j0 {d:Nat} {ops:Array Oper} {f:FuncId} {c:Operand} {xs:List Operand} {vs caps:List Value} {ts:Array TypeId} {R:Value→List Blk→Prop} (hn:Nat.blt d n.sz=true) (hc:ev s c=some (.func (.func f) #[] caps.toArray)) (hfc:Callable P f) (hx:evs s xs=some vs)
  (hF:FnIn P f (vs++caps) w0 H R) (k: ∀ v H',R v H' →WL P n w0 ops rest Q ((d,v)::s) H'):
  WL P n w0 ops (⟨some d,.call { callee:= .value c,args:=xs.toArray,argTypes:=ts },ty,p,af,none⟩::rest) Q s H:=by
 intro a w hs hm
 refine wpList_plain rfl fun K hK=> ?_
 have hr:=j9 (P:=P) (w:=w) (ρ:=a.eval) (d:=some d) (ty:=ty) (p:=p) (af:=af) (g:=none) (f:=f) (c:=c) (xs:=xs) (caps:=caps) (ts:=ts) (hs.eval c _ hc) (gF hs hx)
 simp only [Oper.wp,hr,Oper.upon]
 refine (hF w hm).mono ?_
 rintro e w' ⟨v,H',rfl,hm',hR⟩
 exact hK _ _ (k v H' hR _ _ (hs.put (N7 ▸ hn) _) hm')
theorem aC {d:Nat} {ops:Array Oper} {f:FuncId} {xs:List Operand} {vs:List Value} {ts:Array TypeId} {R:Value→List Blk→Prop} [Callable P f] (hn:Nat.blt d n.sz=true) (hx:evs s xs=some vs)
  (hF: ∀ w,Mem w0 w H→aP P f vs w R) (k: ∀ v H',R v H' →WL P n w0 ops rest Q ((d,v)::s) (H' ++H)):
  WL P n w0 ops (⟨some d,.call { callee:= .value (.func f),args:=xs.toArray,argTypes:=ts },ty,p,af,none⟩::rest) Q s H:=
 aw hn hx (FnIn.of_at hF) fun v _ ⟨H1,h1,h2⟩=>h2 ▸ k v H1 h1
theorem aa {d:Nat} {ops:Array Oper} {f:FuncId} {xs:List Operand} {vs:List Value} {v:Value} {ts:Array TypeId} [Callable P f] (hn:Nat.blt d n.sz=true) (hx:evs s xs=some vs)
  (hF: ∀ w,Mem w0 w H→ay P f vs w v) (k:WL P n w0 ops rest Q ((d,v)::s) H):
  WL P n w0 ops (⟨some d,.call { callee:= .value (.func f),args:=xs.toArray,argTypes:=ts },ty,p,af,none⟩::rest) Q s H:=
 aC hn hx (R:=fun u _=>u=v) hF fun u H' e=>by
  subst e
  exact wL ⟨H',OG⟩ k
def Res (P:Program) (fn:Func) (n:Fr) (w0:World) (s:az) (H:List Blk) (v:Value):Prop:=
 ∀ a w,St n s a→Mem w0 w H→(results fn a.tmps).run P w= .ok v w
def ba (P:Program) (fn:Func) (n:Fr) (w0:World) (R:Value→List Blk→Prop):bQ:=fun e s H=>(e= .ret∨e= .normal)∧ ∃ v H',MSub H' H∧Res P fn n w0 s H v∧R v H'
def pY:List Value→Nat→az
 | [],_=> []
 |v::r,k=>(k,v)::pY r (k+1)
theorem ky (args:List Value) (k t:Nat):look (pY args k) t=if k≤t then args[t - k]? else none:=by
 induction args generalizing k with
 |nil=>simp [pY,look]
 |cons v r ih=>
  simp only [pY]
  rw [gW,ih]
  by_cases h:k=t
  ·
   subst h;simp
  ·
   rw [if_neg h]
   by_cases h2:k≤t
   ·
    rw [if_pos h2,if_pos (by omega),show t - k=(t - (k+1))+1 by omega,List.getElem?_cons_succ]
   ·
    rw [if_neg h2,if_neg (by omega)]
theorem dZ {m:Nat} {f:FuncId} {fn:Func} {c:Code} {args:List Value} {R:Value→List Blk→Prop} (hf:P.funcs[f]? =some fn) (hb:fn.body=some c) (hn:fn.ntmps=m) (hle:Nat.ble args.length m=true)
  (h:W P ⟨m,[]⟩ w0 c (ba P fn ⟨m,[]⟩ w0 R) (pY args 0) H):FnIn P f args w0 H R:=by
 intro w hm
 have hle' :args.length≤m:=by simpa using hle
 refine calls_of_wp hf hb (wp_mono (h { tmps:=args.toArray++Array.replicate (fn.ntmps - args.toArray.size) undef,defers:= [] } w ⟨?_,rfl,?_⟩ hm) ?_)
 ·
  simp [hn];omega
 ·
  intro t v ht
  rw [ky] at ht
  simp only [Ns,if_true,Pa] at ht
  have hlt:t<args.length:=(Nw.1 ht).1
  rw [OI (by simpa using hlt)]
  simpa using ht
 ·
  rintro e a w' ⟨s',H',hs,hm',he,v,H'',hsub,hr,hR⟩
  have hp:a.defers= []∧ ∃ v,(results fn a.tmps).run P w' = .ok v w' ∧ ∃ v1 H1,Ending.returned v= .returned v1∧Mem w0 w' H1∧R v1 H1:=
   ⟨hs.defers,v,hr a w' hs hm',v,H'',rfl,hsub.use hm',hR⟩
  rcases he with rfl|rfl<;>exact hp
theorem aq {m:Nat} {f:FuncId} {fn:Func} {c:Code} {args:List Value} {w:World} {R:Value→List Blk→Prop} (hf:P.funcs[f]? =some fn) (hb:fn.body=some c) (hn:fn.ntmps=m) (hle:Nat.ble args.length m=true)
  (h:W P ⟨m,[]⟩ w c (ba P fn ⟨m,[]⟩ w R) (pY args 0) []):aP P f args w R:=dZ hf hb hn hle h w (Mem.refl w)
section res
variable {fn:Func} {R:Value→List Blk→Prop} {e:Exit}
theorem iB (he:e= .ret∨e= .normal) (hr:fn.results= #[]) {H' :List Blk} (hs:MSub H' H) (h:R (.tuple #[]) H'):ba P fn n w0 R e s H:=
 ⟨he,_,H',hs,fun a w _ _=>by simp [results,hr],h⟩
theorem cG (he:e= .ret∨e= .normal) {t:Tmp} {v:Value} (hr:fn.results= #[.tmp t]) (hv:look s t=some v) {H' :List Blk} (hs:MSub H' H) (h:R v H'):ba P fn n w0 R e s H:=
 ⟨he,v,H',hs,fun a w hst _=>by
  have:=hst.has t v hv
  simp [results,hr,ND,this],h⟩
theorem iJ (he:e= .ret∨e= .normal) {t u:Tmp} {v x:Value} (hr:fn.results= #[.tmp t,.tmp u]) (hv:look s t=some v) (hx:look s u=some x) {H' :List Blk} (hs:MSub H' H) (h:R (.tuple #[v,x]) H'):ba P fn n w0 R e s H:=
 ⟨he,_,H',hs,fun a w hst _=>by
  have h1:=hst.has t v hv
  have h2:=hst.has u x hx
  simp [results,hr,ND,h1,h2],h⟩
theorem mM (he:e= .ret∨e= .normal) {t u q:Tmp} {v x y:Value} (hr:fn.results= #[.tmp t,.tmp u,.tmp q]) (hv:look s t=some v) (hx:look s u=some x) (hy:look s q=some y) {H' :List Blk} (hs:MSub H' H) (h:R (.tuple #[v,x,y]) H'):ba P fn n w0 R e s H:=
 ⟨he,_,H',hs,fun a w hst _=>by
  have h1:=hst.has t v hv
  have h2:=hst.has u x hx
  have h3:=hst.has q y hy
  simp [results,hr,ND,h1,h2,h3],h⟩
end res
def WQ (P:Program) (n:Fr) (w0:World) (ops:Array Oper) (rest:List Oper) (K:az→Prop) (s:az) (H:List Blk):Prop:=
 ∀ a,St n s a→wpQuiet P ops (fun w=>Mem w0 w H) (fun a' => ∃ s',St n s' a' ∧K s') rest a
theorem gh {id:Nat} (hm:P.follows .mixedOrders=true) (hB:Region.lexB .any l.toArray=true) (h:WQ P n w0 l.toArray l (fun s' =>Q .normal s' H) s H):W P n w0 (.region id l.toArray true) Q s H:=by
 intro a w hs hmem
 refine wp_region_quiet (C:=fun w=>Mem w0 w H) hm hB hmem.drew ?_
 have h1:=h a hs
 have mono: ∀ (r:List Oper) (a:Act) (K K' :Act→Prop),(∀ a,K a→K' a)→wpQuiet P l.toArray (fun w=>Mem w0 w H) K r a→wpQuiet P l.toArray (fun w=>Mem w0 w H) K' r a:=by
  intro r
  induction r with
  |nil=>intro a K K' hk h;exact hk _ h
  |cons o r ih=>
   intro a K K' hk h
   unfold wpQuiet at h ⊢
   split
   ·
    rename_i hw
    rw [if_pos hw] at h
    exact Oper.quiet_mono (fun a' h' =>ih a' K K' hk h') h
   ·
    rename_i hw
    rw [if_neg hw] at h
    exact ih _ K K' hk h
 simp only [Py]
 exact mono _ _ _ _ (fun a' ⟨s',h2,h3⟩ w' hw' =>⟨s',H,h2,hw',h3⟩) h1
variable {K:az→Prop}
theorem KY {ops:Array Oper} (h:K s):WQ P n w0 ops [] K s H:=fun _ hs=>⟨s,hs,h⟩
theorem aS {ops:Array Oper} {op:Op} {d:Nat} {v:Value} (hn:Nat.blt d n.sz=true) (hv:VOp P w0 s H op ty v) (k:WQ P n w0 ops rest K ((d,v)::s) H):
  WQ P n w0 ops (⟨some d,op,ty,p,af,none⟩::rest) K s H:=by
 intro a hs
 unfold wpQuiet
 simp only [Region.wanted,if_true]
 refine ⟨v,fun w hm=> ?_,k _ (hs.put (N7 ▸ hn) v)⟩
 unfold Oper.quietAt
 rw [hv a.eval w _ _ _ _ hs.eval hm]
 exact ⟨rfl,rfl⟩
theorem eF {d:Nat} {ops:Array Oper} {f:FuncId} {xs:List Operand} {vs:List Value} {v:Value} {ts:Array TypeId} [Callable P f] (hn:Nat.blt d n.sz=true) (hx:evs s xs=some vs)
  (hF: ∀ w,Mem w0 w H→ay P f vs w v) (k:WQ P n w0 ops rest K ((d,v)::s) H):
  WQ P n w0 ops (⟨some d,.call { callee:= .value (.func f),args:=xs.toArray,argTypes:=ts },ty,p,af,none⟩::rest) K s H:=by
 intro a hs
 unfold wpQuiet
 simp only [Region.wanted,if_true]
 refine ⟨v,fun w hm=> ?_,k _ (hs.put (N7 ▸ hn) v)⟩
 unfold Oper.quietAt
 have hr:=j9 (P:=P) (w:=w) (ρ:=a.eval) (d:=some d) (ty:=ty) (p:=p) (af:=af) (g:=none) (f:=f) (c:= .func f) (xs:=xs) (caps:= []) (ts:=ts) rfl (gF hs hx)
 rw [Nl] at hr
 rw [hr]
 refine ⟨rfl,Calls.mono (hF w hm) ?_⟩
 rintro e w' ⟨u,H',rfl,hm',rfl⟩
 exact ⟨rfl,(hm.call hm').right⟩
theorem Jk {op:Op} {dst:Option Tmp} {j d:Nat} {dq:Bool} (hj:gd l j=some d) (hv:look s d=some (.bool dq))
  (k:WQ P n w0 l.toArray (⟨dst,op,ty,p,af,none⟩::rest) K s H):WQ P n w0 l.toArray (⟨dst,op,ty,p,af,some (j,dq)⟩::rest) K s H:=by
 intro a hs
 have h:=k a hs
 have hy:=jg hs hj hv
 unfold wpQuiet at h ⊢
 simp only [Region.wanted,if_true] at h
 simp only [Region.wanted,hy,jZ,beq_self_eq_true,if_true]
 exact h
theorem F4 {op:Op} {dst j d:Nat} {dq:Bool} {v:Value} (hj:gd l j=some d) (hv:look s d=some v) (hw:jZ v≠some dq) (hn:Nat.blt dst n.sz=true)
  (k:WQ P n w0 l.toArray rest K ((dst,undef)::s) H):WQ P n w0 l.toArray (⟨some dst,op,ty,p,af,some (j,dq)⟩::rest) K s H:=by
 intro a hs
 have hy:=jg hs hj hv
 have:(yielded l.toArray a.tmps j==some dq)=false:=by rw [hy];simpa using hw
 unfold wpQuiet
 simp only [Region.wanted,this]
 exact k _ (hs.put (N7 ▸ hn) _)
theorem Eb {op:Op} {dst:Option Tmp} {j d:Nat} {dq b:Bool} (_hj:gd l j=some d) (hv:look s d=some (.bool b))
  (k1:b=true→WQ P n w0 l.toArray (⟨dst,op,ty,p,af,some (j,dq)⟩::rest) K ((d,.bool true)::s) H)
  (k2:b=false→WQ P n w0 l.toArray (⟨dst,op,ty,p,af,some (j,dq)⟩::rest) K ((d,.bool false)::s) H):
  WQ P n w0 l.toArray (⟨dst,op,ty,p,af,some (j,dq)⟩::rest) K s H:=by
 intro a hs
 cases b with
 |true=>exact k1 rfl a (hs.shadow hv)
 |false=>exact k2 rfl a (hs.shadow hv)
end
end Go.SL
namespace Go.SL
section
variable {P:Program} {n:Fr} {w0:World} {Q:bQ} {s:az} {H:List Blk} {l rest:List Oper} {ty:TypeId} {p:String} {af:Array Edge} {K:az→List Blk→Prop} {id id' :Nat}
theorem Mx (h:K s H):thn K Q .normal s H:=h
theorem Mv (h:Q .ret s H):thn K Q .ret s H:=h
theorem My (h:Q (.exit id) s H):thn K Q (.exit id) s H:=h
theorem MP (h:Q .normal s H):blk id Q .normal s H:=h
theorem MN (h:Q .ret s H):blk id Q .ret s H:=h
theorem MQ (h:Q .normal s H):blk id Q (.exit id) s H:=by simp only [blk,if_true];exact h
theorem MM (hne:Nat.beq id' id=false) (h:Q (.exit id') s H):blk id Q (.exit id') s H:=by
 have: ¬ id' =id:=Nat.ne_of_beq_eq_false hne
 simp only [blk,if_neg this];exact h
theorem F9 {op:Op} {dst j d:Nat} {dq b:Bool} (hj:gd l j=some d) (hv:look s d=some (.bool b)) (hw:(b==dq)=false) (hn:Nat.blt dst n.sz=true)
  (k:WL P n w0 l.toArray rest Q ((dst,undef)::s) H):WL P n w0 l.toArray (⟨some dst,op,ty,p,af,some (j,dq)⟩::rest) Q s H:=
 Ga hj hv (by simpa [jZ] using hw) hn k
theorem F8 {op:Op} {dst j d:Nat} {dq:Bool} (hj:gd l j=some d) (hv:look s d=some (.tuple #[])) (hn:Nat.blt dst n.sz=true)
  (k:WL P n w0 l.toArray rest Q ((dst,undef)::s) H):WL P n w0 l.toArray (⟨some dst,op,ty,p,af,some (j,dq)⟩::rest) Q s H:=
 Ga hj hv (by simp [jZ]) hn k
theorem F3 {KQ:az→Prop} {op:Op} {dst j d:Nat} {dq b:Bool} (hj:gd l j=some d) (hv:look s d=some (.bool b)) (hw:(b==dq)=false) (hn:Nat.blt dst n.sz=true)
  (k:WQ P n w0 l.toArray rest KQ ((dst,undef)::s) H):WQ P n w0 l.toArray (⟨some dst,op,ty,p,af,some (j,dq)⟩::rest) KQ s H:=
 F4 hj hv (by simpa [jZ] using hw) hn k
theorem F2 {KQ:az→Prop} {op:Op} {dst j d:Nat} {dq:Bool} (hj:gd l j=some d) (hv:look s d=some (.tuple #[])) (hn:Nat.blt dst n.sz=true)
  (k:WQ P n w0 l.toArray rest KQ ((dst,undef)::s) H):WQ P n w0 l.toArray (⟨some dst,op,ty,p,af,some (j,dq)⟩::rest) KQ s H:=
 F4 hj hv (by simp [jZ]) hn k
theorem yC {x:Operand} {t T g off m:Nat} {xs ys:List Value} [Agg P t m] (hx:ev s x=some (.pointer (some ⟨g,off,none⟩))) (hi:In (.box g T xs) H) (hv:qX ((xs.drop off).take m)=some ys) (hl:Nat.beq ys.length m=true):
  VOp P w0 s H (.load t x) ty (.agg ys.toArray):=qj hx hi (ik hv).symm (NP hl)
theorem yA {x:Operand} {t T g m:Nat} {xs:List Value} [Agg P t m] (hx:ev s x=some (.pointer (some ⟨g,0,none⟩))) (hi:In (.box g T xs) H) (hl:Nat.beq xs.length m=true):
  VOp P w0 s H (.load t x) ty (.agg xs.toArray):=by
 have hm:=NP hl
 exact qj hx hi (by rw [OC,← hm,N0]) hm
theorem uK {ops:Array Oper} {t T g off:Nat} {x a:Operand} {xs ys:List Value} {v:Value} {R:List Blk} [Size P t 1] (ha:ev s a=some (.pointer (some ⟨g,off,none⟩))) (hx:ev s x=some v)
  (hsel:Sel (.box g T xs) H R) (hv:v.oneCell' =true) (hfit:Nat.blt off xs.length=true) (hn:qX (xs.set off v)=some ys)
  (k:WL P n w0 ops rest Q s (.box g T ys::R)):WL P n w0 ops (⟨none,.store t a x,ty,p,af,none⟩::rest) Q s H:=
 wI ha hx hsel hv hfit (ik hn ▸ k)
theorem yj {ops:Array Oper} {t T g off m:Nat} {x a:Operand} {xs vs ys:List Value} {R:List Blk} [Size P t m] (ha:ev s a=some (.pointer (some ⟨g,off,none⟩))) (hx:ev s x=some (.agg vs.toArray))
  (hsel:Sel (.box g T xs) H R) (hl:Nat.beq vs.length m=true) (h1:vs.all Value.oneCell' =true) (hfit:Nat.ble (off+m) xs.length=true) (hn:qX (xs.take off++vs++xs.drop (off+m))=some ys)
  (k:WL P n w0 ops rest Q s (.box g T ys::R)):WL P n w0 ops (⟨none,.store t a x,ty,p,af,none⟩::rest) Q s H:=
 rJ ha hx hsel rfl (NP hl) (by simpa using h1) (by simpa using hfit) (ik hn ▸ k)
end
end Go.SL

/-
  Lemmas and walks, put together: Sl30 Sl31 Sl32 Bt Pg Ha.
-/
import Derived.Deep.AppendSrc
import Derived.Test.YtljeomidcjpfmaaGreatDoorKf17
set_option linter.unusedSimpArgs false
set_option linter.unusedVariables false
set_option maxRecDepth 20000
namespace Go.SL
open Go Go.RowKit
theorem run_append_off {P : Program} (w : World) (base : Nat) (t ty e : TypeId) (i : TypeInfo) (z : Value) (size bytes : Nat) (ht : P.underlying t = some (.slice e)) (hi : P.info? e = some i) (hz : i.zero = some z)
    (hsize : i.size = size) (hby : i.bytes = bytes) (hzs : z.cells.size = size) (hsz : 0 < size)
    (g n cap k off : Nat) (hk : k ≤ n) (hoff : k < cap → off = k * size) (xs : List Value) (hown : w.ownsRow base e size (.slice (some ⟨g, 0, none⟩) n cap) n xs)
    (a : Addr) (m c : Nat) (news : List Value) (hl : news.length = m * size) (hnews : ∀ j u, news[j]? = some u → w.cell? (a.add j) = some u) (h1 : ∀ u ∈ news, u.oneCell' = true) (hm0 : 0 < m)
    (h63 : n + m ≤ maxLen) (hbytes : (n + m) * bytes ≤ 140737488355328) (hbase : base ≤ w.heap.size) :
    ∃ v' w', (Builtin.append_ #[t, t] ty #[.slice (some ⟨g, off, none⟩) (n - k) (cap - k), .slice (some a) m c]).run P w = .ok v' w' ∧ w.grownBy w' (some g) ∧
      ((v' = .slice (some ⟨g, off, none⟩) (n - k + m) (cap - k) ∧ n + m ≤ cap ∧ w'.ownsRow base e size (.slice (some ⟨g, 0, none⟩) (n + m) cap) (n + m) (xs ++ news)) ∨
       (∃ cap', v' = .slice (some ⟨w.heap.size, 0, none⟩) (n - k + m) cap' ∧ w'.ownsRow base e size v' (n - k + m) (xs.drop (k * size) ++ news))) := by
  subst hsize
  subst hby
  obtain ⟨hxl, hown2⟩ := hown
  rcases hown2 with ⟨h0, _⟩ | ⟨g', cap', cur, hv, hbg, hg, hnc, hcm, hcs, htake⟩
  · cases h0
  injection hv with e1 e2 e3
  injection e1 with e1
  injection e1 with e1
  subst e1; subst e3
  have hsrc : Src P i.size t (.slice (some a) m c) m news w := Src.ofSlice w ht a m c news hl hnews h1
  have hlen : (xs ++ news).length = (n + m) * i.size := by rw [List.length_append, hxl, hl, Nat.add_mul]
  by_cases hroom : n + m ≤ cap
  · have hoff' := hoff (by omega)
    subst hoff'
    have hfit : n * i.size + news.length ≤ cur.size := by rw [hl, hcs, ← Nat.add_mul]; exact Nat.mul_le_mul_right _ hroom
    have hkn : k * i.size + (n - k) * i.size = n * i.size := by
      rw [← Nat.add_mul]
      congr 1
      omega
    have hr0 := run_append_room (P := P) w t ty e i ht hi g n cap cur hg a m c news hl hnews h1 hroom hfit
    have hcell : ∀ j, j < news.length → (w.cell? ⟨g, n * i.size + j, none⟩).isSome = true := fun j hj => by
      simp only [World.cell?, hg]
      rw [Array.getElem?_eq_getElem (by omega)]
      rfl
    have hfro : ∀ j, j < news.length → w.frozen? ⟨g, n * i.size + j, none⟩ = false := fun j hj => by
      simp [World.frozen?, hg]
    have hr1 := run_append_room_src (P := P) w t t ty e i ht hi g 0 n cap (.slice (some a) m c) m news hsrc hroom (by simpa using hcell) (by simpa using hfro)
    have hr2 := run_append_room_src (P := P) w t t ty e i ht hi g (k * i.size) (n - k) (cap - k) (.slice (some a) m c) m news hsrc (by omega) (by rw [hkn]; exact hcell) (by rw [hkn]; exact hfro)
    rw [hkn] at hr2
    rw [Nat.zero_add] at hr1
    have hw := hr0.symm.trans hr1
    injection hw with hw1 hw2
    rw [← hw2] at hr2
    refine ⟨_, _, hr2, ⟨rfl, rfl, rfl, by simp, fun j _ hj => setRow_other w g j _ (fun e => hj (by rw [e]))⟩, .inl ⟨rfl, hroom, hlen, .inr ⟨g, cap, _, rfl, hbg, setRow_heap w g cur _ e _ hg, hroom, hcm, ?_, ?_⟩⟩⟩
    · simp only [List.size_toArray, List.length_append, List.length_take, List.length_drop, Array.length_toList]
      omega
    · rw [htake, ← hlen]
      exact List.take_left
  · have hol : (xs.drop (k * i.size)).length = (n - k) * i.size := by rw [List.length_drop, hxl, ← Nat.sub_mul]
    have hold : (Builtin.firstCells i.size (n - k) (.slice (some ⟨g, off, none⟩) (n - k) (cap - k))).run P w.drew = .ok (xs.drop (k * i.size)).toArray w.drew := by
      by_cases hkn : n = k
      · subst hkn
        have e0 : xs.drop (n * i.size) = [] := List.eq_nil_of_length_eq_zero (by rw [hol]; simp)
        rw [e0]
        exact run_firstCells_some w.drew i.size (n - n) ⟨g, off, none⟩ (n - n) (cap - n) [] (by simp) (fun j u hu => by simp at hu)
      · have hoff' := hoff (by omega)
        subst hoff'
        refine run_firstCells_some w.drew i.size (n - k) ⟨g, k * i.size, none⟩ (n - k) (cap - k) _ hol fun j u hu => ?_
        have hcc : w.cell? ((⟨g, 0, none⟩ : Addr).add (k * i.size + j)) = some u := by
          have hu' : xs[k * i.size + j]? = some u := by rw [← List.getElem?_drop]; exact hu
          exact World.ownsRow.cells (w := w) (base := base) (e := e) (size := i.size) (v := .slice (some ⟨g, 0, none⟩) n cap) (n := n) (xs := xs) ⟨hxl, .inr ⟨g, cap, cur, rfl, hbg, hg, hnc, hcm, hcs, htake⟩⟩ (g := g) rfl _ _ hu'
        rw [addr_add] at hcc ⊢
        simpa using hcc
    have hfits : Builtin.nextslicecap (n - k + m) (cap - k) * i.bytes ≤ 281474976710656 := growslice_fits (by omega) (Nat.le_trans (Nat.mul_le_mul_right _ (by omega)) hbytes)
    have hr := run_append_grow_src (P := P) w t t ty e i z ht hi hz (some ⟨g, off, none⟩) (n - k) (cap - k) (xs.drop (k * i.size)) hold (.slice (some a) m c) m news hsrc (by omega) (by simp only [maxLen] at h63; omega) hfits
    have hge := grownCap_ge w (n - k + m) (cap - k) e
    have hcm2 : grownCap w (n - k + m) (cap - k) e ≤ maxLen := grownCap_le_maxLen w (n - k + m) (cap - k) e (by omega)
    have hlen2 : (xs.drop (k * i.size) ++ news).length = (n - k + m) * i.size := by rw [List.length_append, hol, hl, Nat.add_mul]
    refine ⟨_, _, hr, ⟨rfl, rfl, rfl, by simp, fun k hk _ => heap_alloc_old w.drew _ hk⟩, .inr ⟨_, rfl, hlen2, .inr ⟨w.heap.size, _, _, rfl, hbase, heap_alloc_new w.drew _, hge, hcm2, ?_, ?_⟩⟩⟩
    · simp only [Array.size_append, List.size_toArray, size_zeroCells, hzs, hlen2, ← Nat.add_mul]
      congr 1
      omega
    · simp only [Array.toList_append, List.append_assoc]
      rw [← List.append_assoc, ← hlen2]
      exact List.take_left
section
variable {P:Program} {n:Fr} {w0:World} {Q:Post} {s:Slots} {H:List Blk} {rest:List Oper} {ty:TypeId} {p:String} {af:Array Edge}
theorem wl_appendQ {d t e n' c k off g g2 sz by_:Nat} {x y:Operand} {xs news:List Value} {R:List Blk} {ops:Array Oper} [ht:Und P t (.slice e)] [he:Elem P e sz by_] (hn:Nat.blt d n.sz=true)
  (hx:ev s x=some (.slice (some ⟨g,off,none⟩) (n' - k) (c - k))) (hk:k≤n') (hoff:k<c→off=k*sz) (hy:ev s y=some (.slice (some ⟨g2,0,none⟩) 1 1)) (hsel:Sel (.own (some g) e sz n' c xs) H R)
  (hi:In (.own (some g2) e sz 1 1 news) H) (hl:news.length=sz) (h1: ∀ u∈news,u.oneCell' =true) (hby:(n' +1)*by_≤140737488355328) (h63:n' +1≤maxLen)
  (K: ∀ g' off' k' n2 c2 ys,k' ≤n2→(k' <c2→off' =k' *sz)→n2 - k' =n' - k+1→n2≤n' +1→ys.drop (k' *sz)=xs.drop (k*sz)++news→WL P n w0 ops rest Q ((d,.slice (some ⟨g',off',none⟩) (n2 - k') (c2 - k'))::s) (.own (some g') e sz n2 c2 ys::R)):
  WL P n w0 ops (⟨some d,.call { callee:= .builtin .append,args:= #[x,y],argTypes:= #[t,t] },ty,p,af,none⟩::rest) Q s H:=by
 intro a w hs hm
 have hm' :=hm.sel hsel
 obtain ⟨i,z,i1,i2,i3,i4,i5,i6⟩:=he.out
 have hb:=(hm'.on _ List.mem_cons_self)
 have hown:w.ownsRow w0.heap.size e sz (.slice (some ⟨g,0,none⟩) n' c) n' xs:=by
  obtain ⟨⟨b1,b2,b3,b4⟩,b5⟩:=hb
  refine ⟨b1,?_⟩
  obtain ⟨junk,j1,j2⟩:=b4
  refine .inr ⟨g,c,_,rfl,b5 g rfl,j2,b2,b3,by simpa using j1,?_⟩
  simp only [List.toList_toArray]
  rw [← b1,List.take_left]
 have hxl:=hown.1
 obtain ⟨v',w',hr,hgr,hcase⟩:=run_append_off (P:=P) w w0.heap.size t ty e i z sz by_ ht.out i1 i4 i2 i3 i5 i6 g n' c k off hk hoff xs hown ⟨g2,0,none⟩ 1 1 news (by omega)
  (fun j u hu=>by rw [addr_add];exact hm.cells_own hi j u hu) h1 (by omega) h63 hby hm.below.size
 have key: ∀ (G' N2 C2:Nat) (ys:List Value),w'.ownsRow w0.heap.size e sz (.slice (some ⟨G',0,none⟩) N2 C2) N2 ys→(Blk.own (some G') e sz N2 C2 ys).on w' :=by
  intro G' N2 C2 ys ho
  obtain ⟨q1,q2⟩:=ho
  rcases q2 with ⟨h0,_⟩|⟨g3,cap3,cur,hv,_,q4,q5,q6,q7,q8⟩
  ·
   cases h0
  ·
   injection hv with e1 e2 e3
   injection e1 with e1
   injection e1 with e1
   subst e1;subst e3
   refine ⟨q1,q5,q6,cur.toList.drop (N2*sz),?_,?_⟩
   ·
    rw [← q8,List.take_append_drop];simpa using q7
   ·
    rw [← q8,List.take_append_drop];simpa using q4
 refine wpList_plain rfl fun K' hK' => ?_
 unfold Oper.wp execOp
 simp only [resolve,invoke,builtin,Sem.run_bind,Sem.run_pure,Result.andThen_ok,List.map_toArray,List.map_cons,List.map_nil,hs.eval x _ hx,hs.eval y _ hy,hr,Oper.upon]
 rcases hcase with ⟨rfl,hroom,ho⟩|⟨cap',rfl,ho⟩
 ·
  have e1:n' - k+1=n' +1 - k:=by omega
  rw [e1] at*
  refine hK' _ _ (K g off k (n' +1) c (xs++news) (by omega) hoff (by omega) (Nat.le_refl _) ?_ _ _ (hs.put (Nat.blt_eq ▸ hn) _) (hm'.upd hgr (key _ _ _ _ ho) fun j hj=> .inl hj))
  exact List.drop_append_of_le_length (by rw [hxl];exact Nat.mul_le_mul_right _ hk)
 ·
  refine hK' _ _ (K w.heap.size 0 0 (n' - k+1) cap' (xs.drop (k*sz)++news) (Nat.zero_le _) (fun _=>by simp) (by omega) (by omega) (by simp) _ _ (hs.put (Nat.blt_eq ▸ hn) _) (hm'.upd hgr (key _ _ _ _ (by simpa using ho)) fun j hj=> ?_))
  right
  simp only [Blk.key] at hj
  injection hj with hj
  omega
end
theorem zeroCells_mem (z:Array Value) (n:Nat) (u:Value) (h:u∈(Builtin.zeroCells z n).toList):u∈z.toList:=by
 rw [Array.mem_toList_iff,Builtin.zeroCells,Array.mem_map] at h
 obtain ⟨i,hi,rfl⟩:=h
 rw [Array.mem_range] at hi
 have hz:0<z.size:=by
  rcases Nat.eq_zero_or_pos z.size with h|h
  ·
   rw [h] at hi;simp at hi
  ·
   exact h
 have hl:i % z.size<z.size:=Nat.mod_lt _ hz
 rw [getElem!_pos z (i % z.size) hl,Array.mem_toList_iff]
 exact Array.getElem_mem hl
theorem wl_clear {P:Program} {n:Fr} {w0:World} {Q:Post} {s:Slots} {H:List Blk} {rest:List Oper} {ty:TypeId} {p:String} {af:Array Edge} {t e k n' c cx g sz:Nat} {x:Operand} {xs:List Value} {R:List Blk} {ops:Array Oper} {z:Value} [ht:Und P t (.slice e)] [hz:Zero P e z]
  (hx:ev s x=some (.slice (some ⟨g,k*sz,none⟩) (n' - k) cx)) (hk:k<n') (hsel:Sel (.own (some g) e sz n' c xs) H R) (hz1: ∀ u∈z.cells.toList,u.oneCell' =true) (hzs:z.cells.size=sz)
  (K:WL P n w0 ops rest Q s (.own (some g) e sz k c (xs.take (k*sz))::R)):
  WL P n w0 ops (⟨none,.call { callee:= .builtin .clear,args:= #[x],argTypes:= #[t] },ty,p,af,none⟩::rest) Q s H:=by
 intro a w hs hm
 have hm' :=hm.sel hsel
 obtain ⟨i,i1,i2⟩:=hz.out
 obtain ⟨b1,b2,b3,junk,b4,b5⟩:=(hm'.on _ List.mem_cons_self).1
 have hzl:(Builtin.zeroCells z.cells (n' - k)).toList.length=(n' - k)*sz:=by rw [Array.length_toList,size_zeroCells,hzs]
 have hkn:k*sz+(n' - k)*sz=n' *sz:=by rw [← Nat.add_mul];congr 1;omega
 have hst:=run_storeCells_at (P:=P) g (k*sz) e (Builtin.zeroCells z.cells (n' - k)).toList 0 _ w b5 (by simp only [List.size_toArray,List.length_append,hzl];omega) (fun u hu=>hz1 u (zeroCells_mem _ _ _ hu))
 simp only [Nat.add_zero,hzl,hkn] at hst
 have hn0: ¬ n' - k=0:=by omega
 obtain ⟨m,hm2⟩: ∃ m,n' - k=m+1:=⟨n' - k - 1,by omega⟩
 have hrun:(Builtin.clear_ #[t] ty #[.slice (some ⟨g,k*sz,none⟩) (n' - k) cx]).run P w= .ok (.tuple #[]) (w.setRow g ((xs++junk).take (k*sz)++(Builtin.zeroCells z.cells (n' - k)).toList++(xs++junk).drop (n' *sz)).toArray):=by
  rw [hm2] at hst ⊢
  simp [Builtin.clear_,run_underlying ht.out,zeroValue,typeInfo,i1,i2,hst]
 refine wpList_plain rfl fun K' hK=> ?_
 unfold Oper.wp execOp
 simp only [resolve,invoke,builtin,Sem.run_bind,Sem.run_pure,Result.andThen_ok,List.map_toArray,List.map_cons,List.map_nil,hs.eval x _ hx,hrun,Oper.upon]
 refine hK _ _ (K _ _ (hs.put_none _) (hm'.upd (setRow_grown _ _ _) (b' := .own (some g) e sz k c (xs.take (k*sz))) ⟨?_,by omega,b3,(Builtin.zeroCells z.cells (n' - k)).toList++(xs++junk).drop (n' *sz),?_,?_⟩ fun k hk=> .inl hk))
 ·
  rw [List.length_take,b1];omega
 ·
  have hle:n' *sz≤c*sz:=Nat.mul_le_mul_right _ b2
  simp only [List.length_append,List.length_take,List.length_drop,hzl]
  rw [List.length_append] at b4
  omega
 ·
  rw [List.take_append_of_le_length (by omega)]
  rw [← List.append_assoc]
  exact setRow_heap _ _ _ _ _ _ b5
abbrev vS (x:BitVec 64):Value:= .int .u64 (x.toNat:Int)
theorem wrap_set (x:BitVec 64):IntKind.u64.wrap (x.toNat:Int)=x.toNat:=by
 rw [IntKind.wrap_u64];have:=x.isLt;omega
theorem ofInt_set (x:BitVec 64):BitVec.ofInt 64 (x.toNat:Int)=x:=by
 rw [BitVec.ofInt_natCast,BitVec.ofNat_toNat,BitVec.setWidth_eq]
theorem eq_set (a b:BitVec 64):((a.toNat:Int)==b.toNat)=decide (a=b):=by
 by_cases h:a=b
 ·
  subst h;simp
 ·
  rw [decide_eq_false h,beq_eq_false_iff_ne];intro h2;exact h (BitVec.eq_of_toNat_eq (by omega))
section
variable {P:Program} {n:Fr} {w0:World} {Q:Post} {s:Slots} {H:List Blk} {l rest:List Oper} {ty:TypeId} {p:String} {af:Array Edge}
theorem v_and64 {x y:Operand} {a b:BitVec 64} {t t' :TypeId} (hx:ev s x=some (vS a)) (hy:ev s y=some (vS b)):
  VOp P w0 s H (.binOp .and t x y t') ty (vS (a &&& b)):=by
 have h:Go.bits .and .u64 (a.toNat:Int) b.toNat=((a &&& b).toNat:Int):=by
  show IntKind.u64.wrap ((BitVec.ofInt 64 (a.toNat:Int) &&& BitVec.ofInt 64 (b.toNat:Int)).toNat:Int)=_
  rw [ofInt_set,ofInt_set,wrap_set]
 unfold vS at hx hy ⊢
 rw [← h]
 clear h
 generalize (a.toNat:Int)=z at hx ⊢
 generalize (b.toNat:Int)=z2 at hy ⊢
 exact fun ρ w _ _ _ _ hρ _=>by simp [execOp,hρ x _ hx,hρ y _ hy,eqGuard,binOp,intBits_and]
theorem v_andI {x y:Operand} {k:IntKind} {a b:Int} {t t' :TypeId} (hx:ev s x=some (.int k a)) (hy:ev s y=some (.int k b)):
  VOp P w0 s H (.binOp .and t x y t') ty (.int k (Go.bits .and k a b)):=fun ρ w _ _ _ _ hρ _=>by
 simp [execOp,hρ x _ hx,hρ y _ hy,eqGuard,binOp,intBits_and]
theorem v_subK_to {x y:Operand} {k:IntKind} {a b c:Int} {t t' :TypeId} (hx:ev s x=some (.int k a)) (hy:ev s y=some (.int k b)) (h:k.wrap (a - b)=c):
  VOp P w0 s H (.binOp .sub t x y t') ty (.int k c):=fun ρ w _ _ _ _ hρ _=>by
 subst h
 simp [execOp,hρ x _ hx,hρ y _ hy,eqGuard,binOp,Op.intArith]
theorem v_or64 {x y:Operand} {a b:BitVec 64} {t t' :TypeId} (hx:ev s x=some (vS a)) (hy:ev s y=some (vS b)):
  VOp P w0 s H (.binOp .or t x y t') ty (vS (a|||b)):=by
 have h:Go.bits .or .u64 (a.toNat:Int) b.toNat=((a|||b).toNat:Int):=by
  show IntKind.u64.wrap ((BitVec.ofInt 64 (a.toNat:Int)|||BitVec.ofInt 64 (b.toNat:Int)).toNat:Int)=_
  rw [ofInt_set,ofInt_set,wrap_set]
 unfold vS at hx hy ⊢
 rw [← h]
 clear h
 generalize (a.toNat:Int)=z at hx ⊢
 generalize (b.toNat:Int)=z2 at hy ⊢
 exact fun ρ w _ _ _ _ hρ _=>by simp [execOp,hρ x _ hx,hρ y _ hy,eqGuard,binOp,intBits_or]
theorem v_andNot64 {x y:Operand} {a b:BitVec 64} {t t' :TypeId} (hx:ev s x=some (vS a)) (hy:ev s y=some (vS b)):
  VOp P w0 s H (.binOp .andNot t x y t') ty (vS (a &&& ~~~b)):=by
 have h:Go.bits .andNot .u64 (a.toNat:Int) b.toNat=((a &&& ~~~b).toNat:Int):=by
  show IntKind.u64.wrap ((BitVec.ofInt 64 (a.toNat:Int) &&& ~~~BitVec.ofInt 64 (b.toNat:Int)).toNat:Int)=_
  rw [ofInt_set,ofInt_set,wrap_set]
 unfold vS at hx hy ⊢
 rw [← h]
 clear h
 generalize (a.toNat:Int)=z at hx ⊢
 generalize (b.toNat:Int)=z2 at hy ⊢
 exact fun ρ w _ _ _ _ hρ _=>by simp [execOp,hρ x _ hx,hρ y _ hy,eqGuard,binOp,intBits_andNot]
theorem v_shr64 {x y:Operand} {k' :IntKind} {a:BitVec 64} {m:Nat} {t t' :TypeId} (hx:ev s x=some (vS a)) (hy:ev s y=some (.int k' (m:Nat))) (hm:m≤64):
  VOp P w0 s H (.binOp .shr t x y t') ty (vS (a>>>m)):=by
 have h:=v_shr (P:=P) (w0:=w0) (H:=H) (ty:=ty) (t:=t) (t' :=t') hx hy (by simpa [IntKind.bits] using hm)
 have e:((a.toNat:Int) / 2 ^ m)=((a>>>m).toNat:Int):=by
  rw [BitVec.toNat_ushiftRight,Nat.shiftRight_eq_div_pow];norm_cast
 rwa [e] at h
theorem v_shl64 {x y:Operand} {k' :IntKind} {a:BitVec 64} {m:Nat} {t t' :TypeId} (hx:ev s x=some (vS a)) (hy:ev s y=some (.int k' (m:Nat))) (hm:m≤64):
  VOp P w0 s H (.binOp .shl t x y t') ty (vS (a<<<m)):=by
 have e:IntKind.u64.wrap ((a.toNat:Int)*2 ^ m)=((a<<<m).toNat:Int):=by
  rw [BitVec.toNat_shiftLeft,Nat.shiftLeft_eq,IntKind.wrap_u64]
  generalize a.toNat=u
  have h64:(2:Nat) ^ 64=18446744073709551616:=by decide
  rw [h64,Int.natCast_emod,Int.natCast_mul,Int.natCast_pow];rfl
 unfold vS at hx ⊢
 rw [← e]
 clear e
 generalize (a.toNat:Int)=z at hx ⊢
 have h0:(0:Int)≤(m:Int):=by omega
 have hb:min m IntKind.u64.bits=m:=Nat.min_eq_left hm
 exact fun ρ w _ _ _ _ hρ _=>by simp [execOp,hρ x _ hx,hρ y _ hy,eqGuard,binOp,shift_shl_any .u64 k' z m h0,hb]
theorem v_sub64 {x y:Operand} {a b:BitVec 64} {t t' :TypeId} (hx:ev s x=some (vS a)) (hy:ev s y=some (vS b)):
  VOp P w0 s H (.binOp .sub t x y t') ty (vS (a - b)):=by
 have e:IntKind.u64.wrap ((a.toNat:Int) - b.toNat)=((a - b).toNat:Int):=by
  rw [BitVec.toNat_sub,IntKind.wrap_u64]
  have h1:=a.isLt
  have h2:=b.isLt
  omega
 unfold vS at hx hy ⊢
 rw [← e]
 clear e
 generalize (a.toNat:Int)=z at hx ⊢
 generalize (b.toNat:Int)=z2 at hy ⊢
 exact fun ρ w _ _ _ _ hρ _=>by simp [execOp,hρ x _ hx,hρ y _ hy,eqGuard,binOp,Op.intArith]
theorem v_eql64 {x y:Operand} {a b:BitVec 64} {t t' :TypeId} (hx:ev s x=some (vS a)) (hy:ev s y=some (vS b)):
  VOp P w0 s H (.binOp .eql t x y t') ty (.bool (decide (a=b))):=fun ρ w _ _ _ _ hρ _=>by
 have e:=eq_set a b
 simp [execOp,hρ x _ hx,hρ y _ hy,eqGuard,binOp,Op.intCmp,e,vS]
theorem v_neq64 {x y:Operand} {a b:BitVec 64} {t t' :TypeId} (hx:ev s x=some (vS a)) (hy:ev s y=some (vS b)):
  VOp P w0 s H (.binOp .neq t x y t') ty (.bool (!decide (a=b))):=fun ρ w _ _ _ _ hρ _=>by
 have e:=eq_set a b
 have e2:((a.toNat:Int)=b.toNat)↔a=b:=⟨fun h=>BitVec.eq_of_toNat_eq (by omega),fun h=>by rw [h]⟩
 simp [execOp,hρ x _ hx,hρ y _ hy,eqGuard,binOp,Op.intCmp,vS,bne,BEq.beq,e2]
end
def allS (n:Nat):BitVec 64:=(1#64<<<n) - 1#64
def hasS (x:BitVec 64) (u:Int):Bool:=decide (0≤u) && decide (u<64) && x.getLsbD u.toNat
theorem shr_one (x:BitVec 64) (m:Nat):decide ((x>>>m) &&& 1#64=1#64)=x.getLsbD m:=by
 have h:(x>>>m) &&& 1#64=if x.getLsbD m then 1#64 else 0#64:=by
  apply BitVec.eq_of_getLsbD_eq
  intro i hi
  rw [BitVec.getLsbD_and,BitVec.getLsbD_ushiftRight]
  rcases i with _|i
  ·
   cases hx:x.getLsbD m<;>simp [hx]
  ·
   cases hx:x.getLsbD m<;>simp [BitVec.getLsbD_one]
 rw [h]
 cases x.getLsbD m<;>decide
def vInt (x:Int):Value:= .int .i64 x
theorem v_eqlI_to {P:Program} {w0:World} {s:Slots} {H:List Blk} {ty t t' :TypeId} {x y:Operand} {a b:Int} {c:Bool} (h:decide (a=b)=c) (hx:ev s x=some (vInt a)) (hy:ev s y=some (vInt b)):
  VOp P w0 s H (.binOp .eql t x y t') ty (.bool c):=fun ρ w _ _ _ _ hρ _=>by
 subst h
 have e:(a==b)=decide (a=b):=by rw [Bool.eq_iff_iff];simp
 simp [execOp,hρ x _ hx,hρ y _ hy,eqGuard,binOp,Op.intCmp,vInt,e]
theorem v_neqI_to {P:Program} {w0:World} {s:Slots} {H:List Blk} {ty t t' :TypeId} {x y:Operand} {a b:Int} {c:Bool} (h:decide (a=b)=c) (hx:ev s x=some (vInt a)) (hy:ev s y=some (vInt b)):
  VOp P w0 s H (.binOp .neq t x y t') ty (.bool (!c)):=fun ρ w _ _ _ _ hρ _=>by
 subst h
 simp [execOp,hρ x _ hx,hρ y _ hy,eqGuard,binOp,Op.intCmp,vInt,bne,BEq.beq]
end Go.SL
namespace Go.SL
open Go
structure Rl where
 rect:Rct
 read:BitVec 64
 write:BitVec 64
 own:BitVec 64
def encRl (r:Rl):List Value:= [.int .i64 r.rect.c1,.int .i64 r.rect.r1,.int .i64 r.rect.c2,.int .i64 r.rect.r2,vS r.read,vS r.write,vS r.own]
theorem encRl_len (r:Rl):(encRl r).length=7:=rfl
structure Gn where
 rect:Rct
 fns:Int
 to:BitVec 64
 by_:Int
 rev:Bool
def encGn (g:Gn):List Value:= [.int .i64 g.rect.c1,.int .i64 g.rect.r1,.int .i64 g.rect.c2,.int .i64 g.rect.r2,.int .u8 g.fns,vS g.to,.int .i64 g.by_,.bool g.rev]
theorem encGn_len (g:Gn):(encGn g).length=8:=rfl
def insI (x:Int):List Int→List Int
 | []=> [x]
 |y::l=>if x≤y then x::y::l else y::insI x l
def insortI (l:List Int):List Int:=l.foldr insI []
def sortI (l:List Int):List Int:=l.mergeSort fun x y=>decide (x≤y)
theorem insI_perm (x:Int): ∀ l:List Int,(insI x l).Perm (x::l)
 | []=> .refl _
 |y::l=>by
  rw [insI];split
  ·
   exact .refl _
  ·
   exact ((insI_perm x l).cons y).trans (.swap x y l)
theorem insI_sorted (x:Int): ∀ {l:List Int},l.Pairwise (· ≤ ·)→(insI x l).Pairwise (· ≤ ·)
 | [],_=>List.pairwise_singleton _ _
 |y::l,h=>by
  have h1:=List.pairwise_cons.1 h
  rw [insI];split
  ·
   rename_i hxy
   refine List.pairwise_cons.2 ⟨fun z hz=> ?_,h⟩
   rcases List.mem_cons.1 hz with rfl|hz
   ·
    exact hxy
   ·
    exact Int.le_trans hxy (h1.1 z hz)
  ·
   refine List.pairwise_cons.2 ⟨fun z hz=> ?_,insI_sorted x h1.2⟩
   rcases List.mem_cons.1 ((insI_perm x l).mem_iff.1 hz) with rfl|hz
   ·
    omega
   ·
    exact h1.1 z hz
theorem insortI_perm: ∀ l:List Int,(insortI l).Perm l
 | []=> .refl _
 |x::l=>(insI_perm x _).trans ((insortI_perm l).cons x)
theorem insortI_sorted: ∀ l:List Int,(insortI l).Pairwise (· ≤ ·)
 | []=> .nil
 |x::l=>insI_sorted x (insortI_sorted l)
theorem sortI_perm (l:List Int):(sortI l).Perm l:=List.mergeSort_perm _ _
theorem sortI_sorted (l:List Int):(sortI l).Pairwise (· ≤ ·):=by
 have h:=List.pairwise_mergeSort (le:=fun x y:Int=>decide (x≤y)) (fun a b c h1 h2=>by simp only [decide_eq_true_eq] at*;omega) (fun a b=>by simp only [Bool.or_eq_true,decide_eq_true_eq];omega) l
 exact h.imp fun h=>by simpa using h
theorem sorted_unique: ∀ {l m:List Int},l.Pairwise (· ≤ ·)→m.Pairwise (· ≤ ·)→l.Perm m→l=m
 | [],m,_,_,h=>(List.nil_perm.1 h).symm
 |a::l,[],_,_,h=>absurd h.length_eq (by simp)
 |a::l,b::m,h1,h2,h=>by
  have k1:=List.pairwise_cons.1 h1
  have k2:=List.pairwise_cons.1 h2
  have hab:a=b:=by
   have ha:a∈b::m:=h.mem_iff.1 List.mem_cons_self
   have hb:b∈a::l:=h.mem_iff.2 List.mem_cons_self
   rcases List.mem_cons.1 ha with e|ha
   ·
    exact e
   ·
    rcases List.mem_cons.1 hb with e|hb
    ·
     exact e.symm
    ·
     have:=k2.1 a ha
     have:=k1.1 b hb
     omega
  subst hab
  rw [sorted_unique k1.2 k2.2 ((List.perm_cons a).1 h)]
theorem sortI_eq (l:List Int):sortI l=insortI l:=sorted_unique (sortI_sorted l) (insortI_sorted l) ((sortI_perm l).trans (insortI_perm l).symm)
def cmpN:List Int→List Int
 | []=> []
 |a::l=>if l.head? =some a then cmpN l else a::cmpN l
theorem cmpN_snoc (x:Int): ∀ l:List Int,cmpN (l++ [x])=if l.getLast? =some x then cmpN l else cmpN l++ [x]
 | []=>by simp [cmpN]
 | [a]=>by
  by_cases h:x=a
  ·
   subst h;simp [cmpN]
  ·
   have h2: ¬ a=x:=fun e=>h e.symm
   simp [cmpN,h,h2]
 |a::b::l=>by
  have ih:=cmpN_snoc x (b::l)
  have h0: ∀ l,cmpN (a::l)=if l.head? =some a then cmpN l else a::cmpN l:=fun _=>rfl
  have hh:(b::l++ [x]).head? =(b::l).head? :=rfl
  rw [List.getLast?_cons_cons,List.cons_append,h0,h0,hh,ih]
  by_cases h1:(b::l).head? =some a
  ·
   simp only [h1,if_true]
  ·
   simp only [h1,if_false];split<;>rfl
theorem cmpN_step {L:List Int} {j:Nat} (h:j<L.length) (h0:0<j):cmpN (L.take (j+1))=if L[j]=L[j - 1] then cmpN (L.take j) else cmpN (L.take j)++ [L[j]]:=by
 have h1:L.take (j+1)=L.take j++ [L[j]]:=by rw [List.take_succ_eq_append_getElem h]
 have h2:(L.take j).getLast? =some L[j - 1]:=by
  rw [List.getLast?_eq_getElem?,List.length_take,Nat.min_eq_left (by omega),List.getElem?_take_of_lt (by omega),List.getElem?_eq_getElem (by omega)]
 rw [h1,cmpN_snoc,h2]
 simp only [Option.some.injEq,eq_comm]
theorem cmpN_one {L:List Int} (h:L.length≤1):cmpN L=L:=by
 match L,h with
 | [],_=>rfl
 | [a],_=>rfl
theorem mem_cmpN {x:Int}: ∀ {l:List Int},x∈cmpN l↔x∈l
 | []=>Iff.rfl
 |a::l=>by
  rw [cmpN]
  split
  ·
   rename_i h
   rw [mem_cmpN (l:=l),List.mem_cons]
   exact ⟨.inr,fun h2=>h2.elim (fun e=>by subst e;exact List.mem_of_mem_head? h) id⟩
  ·
   rw [List.mem_cons,List.mem_cons,mem_cmpN (l:=l)]
theorem cmpN_len: ∀ l:List Int,(cmpN l).length≤l.length
 | []=>Nat.le_refl _
 |a::l=>by
  have:=cmpN_len l
  rw [cmpN]
  split<;>simp only [List.length_cons]<;>omega
theorem cmpN_sorted: ∀ {l:List Int},l.Pairwise (· ≤ ·)→(cmpN l).Pairwise (· < ·)
 | [],_=> .nil
 |a::l,h=>by
  have h1:=List.pairwise_cons.1 h
  have ih:=cmpN_sorted h1.2
  rw [cmpN]
  split
  ·
   exact ih
  ·
   rename_i hh
   refine List.pairwise_cons.2 ⟨fun y hy=> ?_,ih⟩
   have hyl:=mem_cmpN.1 hy
   have h2:=h1.1 y hyl
   by_cases e:a=y
   ·
    subst e
    cases l with
    |nil=>cases hyl
    |cons b l=>
     have h3:=h1.1 b List.mem_cons_self
     have h4:=List.pairwise_cons.1 h1.2
     rcases List.mem_cons.1 hyl with e|hm
     ·
      subst e;exact absurd rfl hh
     ·
      have h5:=h4.1 a hm
      have h6:b=a:=by omega
      subst h6;exact absurd rfl hh
   ·
    omega
def pairsI:List Int→Int→List (Int × Int)
 | [],_=> []
 | [x],h=> [(x,h)]
 |x::y::l,h=>(x,y - 1)::pairsI (y::l) h
theorem pairsI_snoc (x h:Int): ∀ l:List Int,pairsI (l++ [x]) h=pairsI l (x - 1)++ [(x,h)]
 | []=>rfl
 | [a]=>rfl
 |a::b::l=>by
  have ih:=pairsI_snoc x h (b::l)
  show (a,b - 1)::pairsI (b::l++ [x]) h=_
  rw [ih];rfl
theorem pairsI_len (h:Int): ∀ l:List Int,(pairsI l h).length=l.length
 | []=>rfl
 | [a]=>rfl
 |a::b::l=>by
  have ih:=pairsI_len h (b::l)
  show (pairsI (b::l) h).length+1=_
  rw [ih];rfl
theorem pairsI_last (l:List Int) (h h' :Int) (hl:l≠ []): ∃ f a,pairsI l h=f++ [(a,h)]∧pairsI l h' =f++ [(a,h')]:=by
 have e:=List.dropLast_concat_getLast hl
 refine ⟨pairsI l.dropLast (l.getLast hl - 1),l.getLast hl,?_,?_⟩
 ·
  conv=>lhs;rw [← e]
  rw [pairsI_snoc]
 ·
  conv=>lhs;rw [← e]
  rw [pairsI_snoc]
def beginsI (lo:Int) (ps:List (Int × Int)):List Int:=lo::ps.flatMap fun p=> [p.1,p.2+1]
def cutsI (lo hi:Int) (ps:List (Int × Int)):List Int:=(cmpN (sortI (beginsI lo ps))).filter fun x=>decide (lo≤x) && decide (x≤hi)
def bandsF (lo hi:Int) (ps:List (Int × Int)):List (Int × Int):=pairsI (cutsI lo hi ps) hi
theorem mem_cutsI {lo hi x:Int} {ps:List (Int × Int)}:x∈cutsI lo hi ps↔(x=lo∨ ∃ p∈ps,x=p.1∨x=p.2+1)∧lo≤x∧x≤hi:=by
 rw [cutsI,List.mem_filter,mem_cmpN,(sortI_perm _).mem_iff,beginsI,List.mem_cons,List.mem_flatMap]
 simp
theorem cutsI_sorted (lo hi:Int) (ps:List (Int × Int)):(cutsI lo hi ps).Pairwise (· < ·):=(cmpN_sorted (sortI_sorted _)).filter _
theorem beginsI_len (lo:Int) (ps:List (Int × Int)):(beginsI lo ps).length=1+2*ps.length:=by
 unfold beginsI
 induction ps with
 |nil=>rfl
 |cons p ps ih=>simp only [List.flatMap_cons,List.length_cons,List.length_append,List.length_nil] at ih ⊢;omega
theorem bandsF_len (lo hi:Int) (ps:List (Int × Int)):(bandsF lo hi ps).length≤1+2*ps.length:=by
 rw [bandsF,pairsI_len,cutsI]
 refine Nat.le_trans (List.length_filter_le _ _) (Nat.le_trans (cmpN_len _) ?_)
 rw [(sortI_perm _).length_eq,beginsI_len];exact Nat.le_refl _
theorem pairs_mem: ∀ {l:List Int} {h:Int},l.Pairwise (· < ·)→(∀ x∈l,x≤h)→ ∀ {p:Int × Int},p∈pairsI l h→p.1∈l∧p.1≤p.2∧p.2≤h∧ ∀ x∈l,¬ (p.1<x∧x≤p.2)
 | [],h,_,_,p,hp=>by cases hp
 | [a],h,_,hx,p,hp=>by
  rw [List.mem_singleton.1 hp]
  have:=hx a (by simp)
  exact ⟨by simp,this,Int.le_refl _,fun x hx=>by rw [List.mem_singleton.1 hx];simp only;omega⟩
 |a::b::l,h,hs,hx,p,hp=>by
  have h1:=List.pairwise_cons.1 hs
  have hab:=h1.1 b List.mem_cons_self
  rcases List.mem_cons.1 hp with rfl|hp
  ·
   refine ⟨List.mem_cons_self,by simp only;omega,by have:=hx b (by simp);simp only;omega,fun x hm=> ?_⟩
   simp only
   rcases List.mem_cons.1 hm with rfl|hm
   ·
    omega
   ·
    rcases List.mem_cons.1 hm with rfl|hm
    ·
     omega
    ·
     have:=(List.pairwise_cons.1 h1.2).1 x hm;omega
  ·
   obtain ⟨k1,k2,k3,k4⟩:=pairs_mem h1.2 (fun x hm=>hx x (List.mem_cons_of_mem _ hm)) hp
   refine ⟨List.mem_cons_of_mem _ k1,k2,k3,fun x hm=> ?_⟩
   rcases List.mem_cons.1 hm with rfl|hm
   ·
    have:=h1.1 p.1 k1;omega
   ·
    exact k4 x hm
theorem pairs_sorted: ∀ {l:List Int} {h:Int},l.Pairwise (· < ·)→(∀ x∈l,x≤h)→(pairsI l h).Pairwise fun p q=>p.2<q.1
 | [],_,_,_=> .nil
 | [a],_,_,_=>List.pairwise_singleton _ _
 |a::b::l,h,hs,hx=>by
  have h1:=List.pairwise_cons.1 hs
  refine List.pairwise_cons.2 ⟨fun q hq=> ?_,pairs_sorted h1.2 fun x hm=>hx x (List.mem_cons_of_mem _ hm)⟩
  have hq1:=(pairs_mem h1.2 (fun x hm=>hx x (List.mem_cons_of_mem _ hm)) hq).1
  simp only
  rcases List.mem_cons.1 hq1 with e|hm
  ·
   omega
  ·
   have:=(List.pairwise_cons.1 h1.2).1 _ hm;omega
theorem bands_mem {lo hi:Int} {ps:List (Int × Int)} {p:Int × Int} (hp:p∈bandsF lo hi ps):lo≤p.1∧p.1≤p.2∧p.2≤hi:=by
 obtain ⟨h1,h2,h3,_⟩:=pairs_mem (cutsI_sorted lo hi ps) (fun x hx=>(mem_cutsI.1 hx).2.2) hp
 exact ⟨(mem_cutsI.1 h1).2.1,h2,h3⟩
theorem bands_sorted (lo hi:Int) (ps:List (Int × Int)):(bandsF lo hi ps).Pairwise fun p q=>p.2<q.1:=pairs_sorted (cutsI_sorted lo hi ps) fun x hx=>(mem_cutsI.1 hx).2.2
structure Pz where
 rect:Rct
 a:Nat
 b:Nat
def encPz (p:Pz):List Value:= [.int .i64 p.rect.c1,.int .i64 p.rect.r1,.int .i64 p.rect.c2,.int .i64 p.rect.r2,.int .i64 (p.a:Int),.int .i64 (p.b:Int)]
theorem encPz_len (p:Pz):(encPz p).length=6:=rfl
def insideR (a b:Rct):Bool:=(meetR a b).2 && decide ((meetR a b).1=a)
def whichN (r:Rct) (L:List Rl):Nat→Nat
 |0=>0
 |n+1=>if insideR r ((L[n]?.map (·.rect)).getD zeroR)=true then n else whichN r L n
def whichF (r:Rct) (L:List Rl):Nat:=whichN r L L.length
theorem whichN_lt (r:Rct) (L:List Rl): ∀ n,whichN r L n≤n - 1
 |0=>Nat.le_refl _
 |n+1=>by
  rw [whichN];split
  ·
   exact Nat.le_refl _
  ·
   have:=whichN_lt r L n;omega
def colsOf (r:Rct) (L:List Rl):List (Int × Int):=L.flatMap fun x=>if (meetR x.rect r).2=true then [((meetR x.rect r).1.c1,(meetR x.rect r).1.c2)] else []
def rowsOf (r:Rct) (L:List Rl):List (Int × Int):=L.flatMap fun x=>if (meetR x.rect r).2=true then [((meetR x.rect r).1.r1,(meetR x.rect r).1.r2)] else []
def partOf (A B:List Rl) (y x:Int × Int):Pz:=⟨⟨x.1,y.1,x.2,y.2⟩,whichF ⟨x.1,y.1,x.2,y.2⟩ A,whichF ⟨x.1,y.1,x.2,y.2⟩ B⟩
def growZ (l:List Pz) (p:Pz):List Pz:=match l.getLast? with
 |some q=>if q.a=p.a∧q.b=p.b then l.dropLast++ [⟨⟨q.rect.c1,q.rect.r1,p.rect.c2,q.rect.r2⟩,q.a,q.b⟩] else l++ [p]
 |none=> [p]
def rowZ (A B:List Rl) (y:Int × Int) (xs:List (Int × Int)):List Pz:=xs.foldl (fun l x=>growZ l (partOf A B y x)) []
theorem rowZ_snoc {A B:List Rl} {y:Int × Int} {xs:List (Int × Int)} {x:Int × Int}:rowZ A B y (xs++ [x])=growZ (rowZ A B y xs) (partOf A B y x):=by
 unfold rowZ;rw [List.foldl_append];rfl
def partsF (r:Rct) (A B:List Rl):List Pz:=(bandsF r.r1 r.r2 (rowsOf r A++rowsOf r B)).flatMap fun y=>rowZ A B y (bandsF r.c1 r.c2 (colsOf r A++colsOf r B))
def andS (l:List (BitVec 64)):BitVec 64:=l.foldl (· &&& ·) (BitVec.allOnes 64)
def ovBy (f:Rl→BitVec 64) (r:Rct) (L:List Rl):BitVec 64:=andS ((partsF r L []).map fun p=>(L[p.a]?.map f).getD 0#64)
theorem andS_snoc {l:List (BitVec 64)} {x:BitVec 64}:andS (l++ [x])=andS l &&& x:=by unfold andS;rw [List.foldl_append];rfl
end Go.SL
namespace Go.SL
open Go Go.Proofs
attribute [local irreducible] W WL WQ WG WA WX WLI WR WT WC WE VOp RW thn blk cutP scp retP retPP endB FnAt FnIn FnP ceP
def allU (n:Int):BitVec 64 × Int:=if n<0∨64<n then (0#64,3) else (allS n.toNat,0)
theorem All_at (n:Int) (w:World):Pure Tryz.prog 145 [.int .i64 n] w (.tuple #[vS (allU n).1,.int .i64 (allU n).2]):=by
 refine fn_at Tryz.func145 rfl Tryz.ntmps145 rfl ?_
 by_cases h:n<0∨64<n
 ·
  rw [allU,if_pos h]
  repeat' (first|refine sT ?_|refine sM fun _=> ?_|(refine sC ?_ ?_<;>intro hb<;>try omega)|fail)
  all_goals first|(exfalso;omega)|((refine rT2 ?_);rfl)|trace_state
 ·
  rw [allU,if_neg h]
  obtain ⟨m,rfl⟩: ∃ m:Nat,n=(m:Int):=⟨n.toNat,by omega⟩
  repeat' (first|((with_reducible apply wl_v);exact rfl;(with_reducible apply v_shl64 (a:=1#64) (m:=m));exact rfl;exact rfl;omega)|((with_reducible apply wl_v);exact rfl;(with_reducible apply v_sub64 (b:=1#64));exact rfl;exact rfl)|refine sT ?_|refine sM fun _=> ?_|(refine sC ?_ ?_<;>intro hb<;>try omega)|fail)
  all_goals first|(exfalso;omega)|((refine rT2 ?_);rfl)|trace_state
theorem Has18_at (x:BitVec 64) (u:Int) (w:World):Pure Tryz.prog 147 [vS x,.int .i64 u] w (.bool (hasS x u)):=by
 refine fn_at Tryz.func147 rfl Tryz.ntmps147 rfl ?_
 by_cases h:0≤u∧u<64
 ·
  obtain ⟨m,rfl⟩: ∃ m:Nat,u=(m:Int):=⟨u.toNat,by omega⟩
  have hs:=shr_one x m
  have he:hasS x (m:Int)=x.getLsbD m:=by simp [hasS];omega
  rw [he]
  repeat' (first|((with_reducible apply wl_v);exact rfl;(with_reducible apply v_shr64 (a:=x) (m:=m));exact rfl;exact rfl;omega)|((with_reducible apply wl_v);exact rfl;(with_reducible apply v_and64 (b:=1#64));exact rfl;exact rfl)|((with_reducible apply wl_v);exact rfl;(with_reducible apply v_eql64 (b:=1#64));exact rfl;exact rfl)|refine sT ?_|refine sM fun _=> ?_|(refine sC ?_ ?_<;>intro hb<;>try omega)|fail)
  all_goals first|(exfalso;omega)|((refine rT1 ?_);exact congrArg Value.bool hs)|trace_state
 ·
  have he:hasS x u=false:=by
   unfold hasS
   by_cases h1:0≤u
   ·
    have h2: ¬ u<64:=fun h2=>h ⟨h1,h2⟩
    simp [h2]
   ·
    simp [h1]
  rw [he]
  repeat' (first|refine sT ?_|refine sM fun _=> ?_|(refine sC ?_ ?_<;>intro hb<;>try omega)|fail)
  all_goals first|(exfalso;omega)|((refine rT1 ?_);rfl)|trace_state
theorem Meet18_at (L:List (BitVec 64)) (lv:Value) (w:World) (hl:Reads w lv L.length (L.map vS)):Pure Tryz.prog 189 [lv] w (vS (andS L)):=by
 obtain ⟨Al,cl,rfl,hl1,hl2,hl3⟩:=hl
 refine fn_at Tryz.func189 rfl Tryz.ntmps189 rfl ?_
 repeat' (first|refine sT ?_|refine sM fun _=> ?_|(refine sC ?_ ?_<;>intro hb<;>try omega)|fail)
 refine w_loopK [6,7] rfl (fun i:Nat=> [(3,vS (andS (L.take i))),(8,.int .i64 (i:Int))]) (fun _=> []) (fun i=>i≤L.length) (fun i=>L.length - i) 0 (Nat.zero_le _) sB mS ?_
 rintro i hi
 by_cases hlt:i<L.length
 ·
  obtain ⟨gl,ol,rfl,hrl⟩:=hl3 (by omega)
  have he1:=hrl.cellV i (v:=vS L[i]) (by rw [List.getElem?_map,List.getElem?_eq_getElem hlt];rfl)
  have hs:andS (L.take (i+1))=andS (L.take i) &&& L[i]:=by rw [List.take_succ_eq_append_getElem hlt,andS_snoc]
  repeat' (first|((with_reducible apply wl_v);exact rfl;(with_reducible apply v_and64);exact rfl;exact rfl)|refine sT ?_|refine sN ?_|refine sO ?_|refine sM fun _=> ?_|(refine sC ?_ ?_<;>intro hb<;>try omega)|fail)
  all_goals first
   |(exfalso;omega)
   |(refine ⟨i+1,hlt,by omega,?_,by exact sB,by exact mS⟩;rw [hs];exact sB)
   |trace_state
 ·
  have e:i=L.length:=by omega
  subst e
  repeat' (first|refine sT ?_|refine sM fun _=> ?_|(refine sC ?_ ?_<;>intro hb<;>try omega)|fail)
  all_goals first
   |(exfalso;omega)
   |((refine rT1 ?_);rw [List.take_length])
   |trace_state
theorem rectE_bad {r:Rct} (h:rectE r≠0):rectOk r=false:=by
 cases hq:rectOk r
 ·
  rfl
 ·
  exact absurd (by rw [rectE,hq];rfl) h
theorem rectE_good {r:Rct} (h: ¬ rectE r≠0): ¬ rectOk r=false:=fun hq=>h (by rw [rectE,hq];decide)
def sheetR:Rct:=⟨1,1,1024,1024⟩
def aclFrom (u:Int):List Rl→Int→Int × Int
 | [],_=>(0,0)
 |r::L,i=>if rectOk r.rect=false then (i,3) else if (r.read|||r.write|||r.own) &&& ~~~(allU u).1≠0#64 then (i,2) else aclFrom u L (i+1)
def aclE (u:Int) (L:List Rl):Int × Int:=
 if u<0∨64<u∨u=0∨L= [] then (0,2) else if 64<L.length then (64,5) else if (L.head?.map (·.rect))≠some sheetR then (0,2) else aclFrom u L 0
theorem sheet_at (w:World):Pure Tryz.prog 146 [] w (.agg (encR sheetR).toArray):=by
 refine fn_at Tryz.func146 rfl Tryz.ntmps146 rfl ?_
 repeat' (first|refine sT ?_|refine sM fun _=> ?_|(refine sC ?_ ?_<;>intro hb<;>try omega)|fail)
 (refine eRC ?_)
 rfl
theorem Rl.ro {w:World} {g o:Nat} {r:Rl} (h:Ro w g o (encRl r)):Ro w g o (encR r.rect)∧Ro w g (o+4) [vS r.read]∧Ro w g (o+5) [vS r.write]∧Ro w g (o+6) [vS r.own]∧Ro w g (o+4) [vS r.read,vS r.write,vS r.own]:=
 ⟨h.take (k:=4),(h.drop (k:=4)).take (k:=1),(h.drop (k:=5)).take (k:=1),h.drop (k:=6),h.drop (k:=4)⟩
set_option maxHeartbeats 4000000 in
theorem aclCheck_at (u:Int) (L:List Rl) (lv:Value) (w:World) (hl:Reads w lv L.length (L.flatMap encRl)):Pure Tryz.prog 73 [.int .i64 u,lv] w (.tuple #[.int .i64 (aclE u L).1,.int .i64 (aclE u L).2]):=by
 obtain ⟨Al,cl,rfl,hl1,hl2,hl3⟩:=hl
 refine fn_at Tryz.func73 rfl Tryz.ntmps73 rfl ?_
 have hA:=fun w=>All_at u w
 unfold aclE
 have hE:(allU u).2=if u<0∨64<u then 3 else 0:=by unfold allU;split<;>rfl
 by_cases h1:u<0∨64<u∨u=0∨L= []
 ·
  rw [if_pos h1]
  generalize allU u=ae at hA hE
  obtain ⟨sa,ee⟩:=ae
  dsimp only at hA hE
  subst hE
  have h1' : ¬ (u<0∨64<u)→u≠0→L.length=0:=fun h2 h3=>by
   rcases h1 with h|h|h|h
   ·
    exact absurd (.inl h) h2
   ·
    exact absurd (.inr h) h2
   ·
    exact absurd h h3
   ·
    rw [h];rfl
  clear h1
  by_cases h2:u<0∨64<u
  ·
   rw [if_pos h2] at hA
   repeat' (first|((with_reducible apply wl_callp);exact rfl;exact rfl;(intro w hm;exact hA w))|refine sT ?_|refine sM fun _=> ?_|(refine sC ?_ ?_<;>intro hb<;>try omega)|fail)
   all_goals first|(exfalso;omega)|((refine rT2 ?_);rfl)|trace_state
  ·
   rw [if_neg h2] at hA
   have h3:=h1' h2
   repeat' (first|((with_reducible apply wl_callp);exact rfl;exact rfl;(intro w hm;exact hA w))|refine sT ?_|refine sM fun _=> ?_|(refine sC ?_ ?_<;>intro hb<;>try omega)|fail)
   all_goals first|(exfalso;omega)|((refine rT2 ?_);rfl)|trace_state
 rw [if_neg h1]
 have hu: ¬ (u<0∨64<u)∧u≠0:=⟨fun h=>h1 (h.elim .inl fun h=> .inr (.inl h)),fun h=>h1 (.inr (.inr (.inl h)))⟩
 have hpos:0<L.length:=List.length_pos_iff.2 fun h=>h1 (.inr (.inr (.inr h)))
 rw [if_neg hu.1] at hE
 rw [hE] at hA
 obtain ⟨sa,has⟩: ∃ sa,sa=(allU u).1:=⟨_,rfl⟩
 rw [← has] at hA
 obtain ⟨gl,ol,rfl,hrl⟩:=hl3 hpos
 by_cases h64:64<L.length
 ·
  rw [if_pos h64]
  repeat' (first|((with_reducible apply wl_callp);exact rfl;exact rfl;(intro w hm;exact hA w))|refine sT ?_|refine sM fun _=> ?_|(refine sC ?_ ?_<;>intro hb<;>try omega)|fail)
  all_goals first|(exfalso;omega)|((refine rT2 ?_);rfl)|trace_state
 rw [if_neg h64]
 obtain ⟨h0a,_⟩:=Rl.ro (hrl.elem encRl_len 0 hpos)
 have hsh:=fun w=>sheet_at w
 have hhd:L.head?.map (·.rect)=some L[0].rect:=by rw [List.head?_eq_getElem?,List.getElem?_eq_getElem hpos];rfl
 rw [hhd]
 obtain ⟨c,hc⟩: ∃ c,decide (L[0].rect=sheetR)=c:=⟨_,rfl⟩
 have hcs:(some L[0].rect≠some sheetR)↔c=false:=by rw [← hc];simp
 generalize L[0].rect=r0 at h0a hc hcs ⊢
 simp only [hcs]
 clear hhd hcs
 cases c with
 |false=>
  repeat' (first|((with_reducible apply wl_callp);exact rfl;exact rfl;(intro w hm;exact hA w))|((with_reducible apply wq_callp (f:=146));exact rfl;exact rfl;(intro w' _;exact hsh w'))|((with_reducible apply wq_v);exact rfl;(with_reducible apply v_indexAddr (j:=0));exact rfl;exact rfl;exact hpos)|((with_reducible apply wq_v);exact rfl;(with_reducible apply v_loadw_ro (xs:=encR r0));exact rfl;exact h0a;exact rfl)|((with_reducible apply wq_v);exact rfl;(with_reducible apply v_neqR_to hc);exact rfl;exact rfl)|refine sT ?_|refine sQ ?_|refine sN ?_|refine sNQ ?_|refine sO ?_|refine sOQ ?_|refine sD ?_|refine sM fun _=> ?_|(refine sC ?_ ?_<;>intro hb<;>try omega)|(refine sCQ ?_ ?_<;>intro hb<;>try omega)|fail)
  all_goals first|(exfalso;omega)|((refine rT2 ?_);rfl)|trace_state
 |true=>
  repeat' (first|((with_reducible apply wl_callp);exact rfl;exact rfl;(intro w hm;exact hA w))|((with_reducible apply wq_callp (f:=146));exact rfl;exact rfl;(intro w' _;exact hsh w'))|((with_reducible apply wq_v);exact rfl;(with_reducible apply v_indexAddr (j:=0));exact rfl;exact rfl;exact hpos)|((with_reducible apply wq_v);exact rfl;(with_reducible apply v_loadw_ro (xs:=encR r0));exact rfl;exact h0a;exact rfl)|((with_reducible apply wq_v);exact rfl;(with_reducible apply v_neqR_to hc);exact rfl;exact rfl)|refine sT ?_|refine sQ ?_|refine sN ?_|refine sNQ ?_|refine sO ?_|refine sOQ ?_|refine sD ?_|refine sM fun _=> ?_|(refine sC ?_ ?_<;>intro hb<;>try omega)|(refine sCQ ?_ ?_<;>intro hb<;>try omega)|fail)
  all_goals first|(exfalso;omega)|skip
  refine w_loopK [1,6,37,38] rfl (fun i:Nat=> [(39,.int .i64 (i:Int))]) (fun _=> []) (fun i=>i≤L.length∧aclFrom u L 0=aclFrom u (L.drop i) (i:Int)) (fun i=>L.length - i) 0 ⟨Nat.zero_le _,rfl⟩ sB mS ?_
  rintro i ⟨hi,hrec⟩
  by_cases hlt:i<L.length
  ·
   have he1:=hrl.elem encRl_len i hlt
   rw [List.drop_eq_getElem_cons hlt,aclFrom,← has] at hrec
   generalize L[i]=r at hrec he1
   have hck:=fun w=>rect_at r.rect w
   repeat' (first|((with_reducible apply wl_callp);exact rfl;exact rfl;(intro w hm;exact hck w))|((with_reducible apply wl_v);exact rfl;(with_reducible apply v_or64);exact rfl;exact rfl)|((with_reducible apply wl_v);exact rfl;(with_reducible apply v_andNot64 (b:=sa));exact rfl;exact rfl)|((with_reducible apply wl_v);exact rfl;(with_reducible apply v_neq64 (b:=0#64));exact rfl;exact rfl)|refine sT ?_|refine sN ?_|refine sO ?_|refine sM fun _=> ?_|(refine sC ?_ ?_<;>intro hb<;>try omega)|fail)
   all_goals first
    |(exfalso;omega)
    |((refine rT2 ?_);rw [if_neg (by decide),hrec,if_pos (rectE_bad hb)];done)
    |((refine rT2 ?_);rw [if_neg (by decide),hrec,if_neg (rectE_good ‹_›),if_pos hb];done)
    |(refine ⟨i+1,⟨hlt,by rw [hrec,if_neg (rectE_good ‹_›),if_neg (fun h=>h hb)];rfl⟩,by omega,by exact sB,by exact sB,by exact mS⟩;done)
    |trace_state
  ·
   have e:i=L.length:=by omega
   subst e
   rw [List.drop_length,aclFrom] at hrec
   rw [if_neg (by decide),hrec]
   repeat' (first|refine sT ?_|refine sM fun _=> ?_|(refine sC ?_ ?_<;>intro hb<;>try omega)|fail)
   all_goals first|(exfalso;omega)|((refine rT2 ?_);rfl)|trace_state
end Go.SL

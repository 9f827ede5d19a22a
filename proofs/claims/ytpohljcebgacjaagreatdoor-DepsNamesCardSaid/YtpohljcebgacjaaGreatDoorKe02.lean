/-
  Lemmas and walks, put together: Sl3 Sl4.
-/
import Derived.Great.BuildSlice
import Derived.Test.YtpohljcebgacjaaGreatDoorKe01
set_option linter.unusedSimpArgs false
set_option linter.unusedVariables false
set_option maxRecDepth 20000
namespace Go.SL
open Go Go.RowKit
section
variable {P : Program} {n : Fr} {w0 : World} {Q : Post} {s : Slots} {H : List Blk} {l rest : List Oper} {ty : TypeId} {p : String} {af : Array Edge}
def gd : List Oper → Nat → Option Nat
 | [], _ => none
 | o :: _, 0 => o.dst
 | _ :: r, j + 1 => gd r j
theorem gd_eq (l : List Oper) (j : Nat) : (l.toArray[j]?).bind (·.dst) = gd l j := by
 rw [List.getElem?_toArray]
 induction l generalizing j with
 | nil => simp [gd]
 | cons o l ih => cases j with
  | zero => simp [gd]
  | succ j => simpa [gd] using ih j
def boolOf : Value → Option Bool
 | .bool b => some b
 | _ => none
theorem yielded_of {a : Act} {j d : Nat} {v : Value} (hs : St n s a) (hj : gd l j = some d) (hv : look s d = some v) :
  yielded l.toArray a.tmps j = boolOf v := by
 unfold yielded
 rw [gd_eq, hj]
 simp [hs.has d v hv]
 cases v <;> rfl
theorem wl_gyes {op : Op} {dst : Option Tmp} {j d : Nat} {want : Bool} (hj : gd l j = some d) (hv : look s d = some (.bool want))
  (k : WL P n w0 l.toArray (⟨dst, op, ty, p, af, none⟩ :: rest) Q s H) : WL P n w0 l.toArray (⟨dst, op, ty, p, af, some (j, want)⟩ :: rest) Q s H := by
 intro a w hs hm
 have h := k a w hs hm
 have hy := yielded_of hs hj hv
 simp only [wpList, Region.wanted, if_true] at h
 simp only [wpList, Region.wanted, hy, boolOf, beq_self_eq_true, if_true]
 exact h
theorem wl_gno {op : Op} {dst j d : Nat} {want : Bool} {v : Value} (hj : gd l j = some d) (hv : look s d = some v) (hw : boolOf v ≠ some want) (hn : Nat.blt dst n.sz = true)
  (k : WL P n w0 l.toArray rest Q ((dst, undef) :: s) H) : WL P n w0 l.toArray (⟨some dst, op, ty, p, af, some (j, want)⟩ :: rest) Q s H := by
 intro a w hs hm
 have hy := yielded_of hs hj hv
 have : (yielded l.toArray a.tmps j == some want) = false := by rw [hy]; simpa using hw
 simp only [wpList, Region.wanted, this]
 exact k _ _ (hs.put (Nat.blt_eq ▸ hn) _) hm
theorem St.shadow {a : Act} {d : Nat} {v : Value} (hs : St n s a) (hv : look s d = some v) : St n ((d, v) :: s) a :=
 ⟨hs.size, hs.defers, fun t u hu => by
  rw [look_cons] at hu
  by_cases e : d = t
  ·
   subst e; rw [if_pos rfl] at hu; exact hs.has d u (hv.trans hu)
  ·
   rw [if_neg e] at hu; exact hs.has t u hu⟩
theorem wl_gsplit {op : Op} {dst : Option Tmp} {j d : Nat} {want b : Bool} (_hj : gd l j = some d) (hv : look s d = some (.bool b))
  (k1 : b = true → WL P n w0 l.toArray (⟨dst, op, ty, p, af, some (j, want)⟩ :: rest) Q ((d, .bool true) :: s) H)
  (k2 : b = false → WL P n w0 l.toArray (⟨dst, op, ty, p, af, some (j, want)⟩ :: rest) Q ((d, .bool false) :: s) H) :
  WL P n w0 l.toArray (⟨dst, op, ty, p, af, some (j, want)⟩ :: rest) Q s H := by
 intro a w hs hm
 cases b with
 | true => exact k1 rfl a w (hs.shadow hv) hm
 | false => exact k2 rfl a w (hs.shadow hv) hm
theorem wl_heap {op : Op} {H' : List Blk} {ops : Array Oper} (h : ∀ a w, St n s a → Mem w0 w H → ∃ w', (execOp a.eval ⟨none, op, ty, p, af, none⟩).run P w = .ok .skip w' ∧ Mem w0 w' H')
  (k : WL P n w0 ops rest Q s H') : WL P n w0 ops (⟨none, op, ty, p, af, none⟩ :: rest) Q s H := by
 intro a w hs hm
 obtain ⟨w', hr, hm'⟩ := h a w hs hm
 refine wpList_plain rfl fun K hK => ?_
 simp only [Oper.wp, hr, Oper.upon]
 exact hK _ _ (k _ _ (hs.put_none _) hm')
theorem run_storeVar {w : World} {t T g off : Nat} {cur : Array Value} {v : Value} {vs : List Value} {m : Nat} [hz : Size P t m] (hv : v.cells = vs.toArray) (hl : vs.length = m) (h1 : ∀ u ∈ vs, u.oneCell' = true)
  (hg : w.heap[g]? = some (.cells cur T (0, 0))) (hfit : off + m ≤ cur.size) :
  (storeVar t ⟨g, off, none⟩ v).run P w = .ok () (w.setRow g (cur.toList.take off ++ vs ++ cur.toList.drop (off + m)).toArray) := by
 obtain ⟨i, hi, hs⟩ := hz.out
 have hst := run_storeCells_at P g off T vs 0 cur w hg (by simpa [hl] using hfit) h1
 simp only [Nat.add_zero, hl] at hst
 have hsz : v.cells.size = i.size := by rw [hv, hs, ← hl]; simp
 have hsz' : vs.length = i.size := hl.trans hs.symm
 simp [storeVar, sizeOf, typeInfo, hi, hsz', hv, hst]
theorem setRow_grown (w : World) (g : Nat) (cs : Array Value) : w.grownBy (w.setRow g cs) (some g) :=
 ⟨rfl, rfl, rfl, by simp, fun k _ hk => setRow_other w g k _ (fun e => hk (by rw [e]))⟩
theorem wl_put_box {ops : Array Oper} {t T g off m : Nat} {x a : Operand} {xs vs : List Value} {v : Value} {R : List Blk} [Size P t m] (ha : ev s a = some (.pointer (some ⟨g, off, none⟩))) (hx : ev s x = some v)
  (hsel : Sel (.box g T xs) H R) (hv : v.cells = vs.toArray) (hl : vs.length = m) (h1 : ∀ u ∈ vs, u.oneCell' = true) (hfit : off + m ≤ xs.length)
  (k : WL P n w0 ops rest Q s (.box g T (xs.take off ++ vs ++ xs.drop (off + m)) :: R)) : WL P n w0 ops (⟨none, .store t a x, ty, p, af, none⟩ :: rest) Q s H := by
 refine wl_heap (fun a' w hs hm => ?_) k
 have hm' := hm.sel hsel
 have hb := (hm'.on _ List.mem_cons_self).1
 simp only [Blk.on] at hb
 have hr := run_storeVar (P := P) (t := t) (off := off) hv hl h1 hb (by simpa using hfit)
 simp only at hr
 refine ⟨_, ?_, hm'.upd (setRow_grown _ _ _) (b' := .box g T (xs.take off ++ vs ++ xs.drop (off + m))) (setRow_heap _ _ _ _ _ _ hb) fun k hk => .inl hk⟩
 simp [execOp, hs.eval a _ ha, hs.eval x _ hx, Instr.storeAt, Instr.sureAddr, hr]
theorem take_set (xs : List Value) (off : Nat) (v : Value) (h : off < xs.length) : xs.take off ++ [v] ++ xs.drop (off + 1) = xs.set off v := by
 rw [List.set_eq_take_append_cons_drop, if_pos h]
 simp
theorem wl_store_box {ops : Array Oper} {t T g off : Nat} {x a : Operand} {xs : List Value} {v : Value} {R : List Blk} [Size P t 1] (ha : ev s a = some (.pointer (some ⟨g, off, none⟩))) (hx : ev s x = some v)
  (hsel : Sel (.box g T xs) H R) (hv : v.oneCell' = true) (hfit : Nat.blt off xs.length = true)
  (k : WL P n w0 ops rest Q s (.box g T (xs.set off v) :: R)) : WL P n w0 ops (⟨none, .store t a x, ty, p, af, none⟩ :: rest) Q s H := by
 have hf : off < xs.length := by simpa using hfit
 refine wl_put_box (m := 1) ha hx hsel (vs := [v]) (by cases v <;> first | rfl | cases hv) rfl (by simpa using hv) (by omega) ?_
 rw [take_set _ _ _ hf]
 exact k
theorem wl_put_own {ops : Array Oper} {t T g off m sz n' c : Nat} {x a : Operand} {xs vs : List Value} {v : Value} {R : List Blk} [Size P t m] (ha : ev s a = some (.pointer (some ⟨g, off, none⟩))) (hx : ev s x = some v)
  (hsel : Sel (.own (some g) T sz n' c xs) H R) (hv : v.cells = vs.toArray) (hl : vs.length = m) (h1 : ∀ u ∈ vs, u.oneCell' = true) (hfit : off + m ≤ xs.length)
  (k : WL P n w0 ops rest Q s (.own (some g) T sz n' c (xs.take off ++ vs ++ xs.drop (off + m)) :: R)) : WL P n w0 ops (⟨none, .store t a x, ty, p, af, none⟩ :: rest) Q s H := by
 refine wl_heap (fun a' w hs hm => ?_) k
 have hm' := hm.sel hsel
 obtain ⟨h2, h3, h4, junk, h5, hb⟩ := (hm'.on _ List.mem_cons_self).1
 have hr := run_storeVar (P := P) (t := t) (off := off) hv hl h1 hb (by simp; omega)
 simp only at hr
 have he : (xs ++ junk).take off ++ vs ++ (xs ++ junk).drop (off + m) = (xs.take off ++ vs ++ xs.drop (off + m)) ++ junk := by
  rw [List.take_append_of_le_length (by omega), List.drop_append_of_le_length hfit]
  simp
 rw [he] at hr
 have hlen : (xs.take off ++ vs ++ xs.drop (off + m)).length = xs.length := by simp; omega
 refine ⟨_, ?_, hm'.upd (setRow_grown _ _ _) (b' := .own (some g) T sz n' c (xs.take off ++ vs ++ xs.drop (off + m)))
  ⟨hlen.trans h2, h3, h4, junk, by rw [List.length_append, hlen, ← List.length_append]; exact h5, setRow_heap _ _ _ _ _ _ hb⟩ fun k hk => .inl hk⟩
 simp [execOp, hs.eval a _ ha, hs.eval x _ hx, Instr.storeAt, Instr.sureAddr, hr]
theorem wl_store_own {ops : Array Oper} {t T g off sz n' c : Nat} {x a : Operand} {xs : List Value} {v : Value} {R : List Blk} [Size P t 1] (ha : ev s a = some (.pointer (some ⟨g, off, none⟩))) (hx : ev s x = some v)
  (hsel : Sel (.own (some g) T sz n' c xs) H R) (hv : v.oneCell' = true) (hfit : off < xs.length)
  (k : WL P n w0 ops rest Q s (.own (some g) T sz n' c (xs.set off v) :: R)) : WL P n w0 ops (⟨none, .store t a x, ty, p, af, none⟩ :: rest) Q s H := by
 refine wl_put_own (m := 1) ha hx hsel (vs := [v]) (by cases v <;> first | rfl | cases hv) rfl (by simpa using hv) (by omega) ?_
 rw [take_set _ _ _ hfit]
 exact k
theorem wl_new {op : Op} {d : Nat} {ops : Array Oper} (hn : Nat.blt d n.sz = true) {B : Nat → Blk} {v : Nat → Value}
  (h : ∀ a w, St n s a → Mem w0 w H → ∃ w', (execOp a.eval ⟨some d, op, ty, p, af, none⟩).run P w = .ok (.value (v w.heap.size)) w' ∧ w.grownBy w' none ∧ (B w.heap.size).on w' ∧ (B w.heap.size).key = some w.heap.size)
  (k : ∀ g, WL P n w0 ops rest Q ((d, v g) :: s) (B g :: H)) : WL P n w0 ops (⟨some d, op, ty, p, af, none⟩ :: rest) Q s H := by
 intro a w hs hm
 obtain ⟨w', hr, hg, hb, hk⟩ := h a w hs hm
 refine wpList_plain rfl fun K hK => ?_
 simp only [Oper.wp, hr, Oper.upon]
 refine hK _ _ (k w.heap.size _ _ (hs.put (Nat.blt_eq ▸ hn) _) (hm.new hg hb fun k hk' => ?_))
 rw [hk] at hk'
 injection hk' with hk'
 omega
class ZeroC (P : Program) (t : TypeId) (zs : outParam (List Value)) : Prop where
 out : ∃ i z, P.info? t = some i ∧ i.zero = some z ∧ z.cells = zs.toArray
theorem wl_alloc {d t : Nat} {zs : List Value} {ops : Array Oper} [hz : ZeroC P t zs] (hn : Nat.blt d n.sz = true)
  (k : ∀ g, WL P n w0 ops rest Q ((d, .pointer (some ⟨g, 0, none⟩)) :: s) (.box g t zs :: H)) : WL P n w0 ops (⟨some d, .alloc t, ty, p, af, none⟩ :: rest) Q s H := by
 refine wl_new (B := fun g => .box g t zs) (v := fun g => .pointer (some ⟨g, 0, none⟩)) hn (fun a w hs hm => ?_) k
 obtain ⟨i, z, h1, h2, h3⟩ := hz.out
 refine ⟨w.alloc (.cells z.cells t), ?_, World.grownBy_alloc w _ none, ?_, rfl⟩
 ·
  simp [execOp, Instr.alloc, zeroValue, typeInfo, h1, h2, newVar, newRow]
 ·
  simp only [Blk.on, ← h3]
  exact heap_alloc_new w _
theorem wl_box {d t : Nat} {x : Operand} {v : Value} {vs : List Value} {ops : Array Oper} (hn : Nat.blt d n.sz = true) (hx : ev s x = some v) (hv : v.cells = vs.toArray)
  (k : ∀ g, WL P n w0 ops rest Q ((d, .pointer (some ⟨g, 0, none⟩)) :: s) (.box g t vs :: H)) : WL P n w0 ops (⟨some d, .box t x, ty, p, af, none⟩ :: rest) Q s H := by
 refine wl_new (B := fun g => .box g t vs) (v := fun g => .pointer (some ⟨g, 0, none⟩)) hn (fun a w hs hm => ?_) k
 refine ⟨w.alloc (.cells v.cells t), ?_, World.grownBy_alloc w _ none, ?_, rfl⟩
 ·
  simp [execOp, hs.eval x _ hx, Instr.box, newVar, newRow]
 ·
  simp only [Blk.on, ← hv]
  exact heap_alloc_new w _
theorem wl_boxs {d t : Nat} {x : Operand} {vs : List Value} {ops : Array Oper} (hn : Nat.blt d n.sz = true) (hx : ev s x = some (.agg vs.toArray))
  (k : ∀ g, WL P n w0 ops rest Q ((d, .pointer (some ⟨g, 0, none⟩)) :: s) (.box g t vs :: H)) : WL P n w0 ops (⟨some d, .box t x, ty, p, af, none⟩ :: rest) Q s H :=
 wl_box hn hx rfl k
theorem wl_box1 {d t : Nat} {x : Operand} {v : Value} {ops : Array Oper} (hn : Nat.blt d n.sz = true) (hx : ev s x = some v) (hv : v.oneCell' = true)
  (k : ∀ g, WL P n w0 ops rest Q ((d, .pointer (some ⟨g, 0, none⟩)) :: s) (.box g t [v] :: H)) : WL P n w0 ops (⟨some d, .box t x, ty, p, af, none⟩ :: rest) Q s H :=
 wl_box hn hx (by cases v <;> first | rfl | cases hv) k
theorem Blk.own_of {w : World} {g e sz m c : Nat} {xs : List Value} (hg : w.heap[g]? = some (.cells xs.toArray e (0, 0))) (hl : xs.length = m * sz) (hc : m = c) (hm : c ≤ maxLen) : (Blk.own (some g) e sz m c xs).on w := by
 subst hc
 exact ⟨hl, Nat.le_refl _, hm, [], by simpa using hl, by simpa using hg⟩
def norm : List Value → Option (List Value)
 | [] => some []
 | x :: r => match norm r with
  | some r' => some (x :: r')
  | none => none
theorem norm_eq : ∀ {xs ys : List Value}, norm xs = some ys → ys = xs
 | [], ys, h => by simp only [norm, Option.some.injEq] at h; exact h.symm
 | x :: r, ys, h => by
  simp only [norm] at h
  split at h
  ·
   rename_i r' hr
   simp only [Option.some.injEq] at h
   rw [← h, norm_eq hr]
  ·
   cases h
def evd (s : Slots) : List (Nat × Operand) → Nat → Option (List Value)
 | [], _ => some []
 | (i, x) :: r, k => bif Nat.beq i k then (match ev s x, evd s r (k + 1) with | some v, some vs => some (v :: vs) | _, _ => none) else none
theorem evd_map {a : Act} (hs : St n s a) : ∀ {ps : List (Nat × Operand)} {vs : List Value} {k : Nat}, evd s ps k = some vs → (ps.map fun (x : Nat × Operand) => (x.1, a.eval x.2)) = (vs.zipIdx k).map fun x => (x.2, x.1)
 | [], vs, k, h => by simp only [evd, Option.some.injEq] at h; simp [← h]
 | (i, x) :: r, vs, k, h => by
  simp only [evd] at h
  cases hb : Nat.beq i k with
  | false => rw [hb] at h; cases h
  | true =>
   have hik := Nat.eq_of_beq_eq_true hb
   rw [hb] at h
   simp only [cond_true] at h
   split at h
   ·
    rename_i v vs' hv hvs
    simp only [Option.some.injEq] at h
    rw [← h, List.map_cons, evd_map hs hvs, List.zipIdx_cons, List.map_cons, hs.eval x v hv, hik]
   ·
    cases h
def flat (vs : List Value) : List Value := vs.flatMap fun v => v.cells.toList
def sizes (sz : Nat) : List Value → Bool
 | [] => true
 | v :: r => Nat.beq v.cells.size sz && sizes sz r
theorem sizes_all {sz : Nat} : ∀ {vs : List Value}, sizes sz vs = true → ∀ v ∈ vs, v.cells.size = sz
 | [], _, v, hv => by cases hv
 | u :: r, h, v, hv => by
  simp only [sizes, Bool.and_eq_true] at h
  rcases List.mem_cons.1 hv with rfl | hv
  ·
   exact Nat.eq_of_beq_eq_true h.1
  ·
   exact sizes_all h.2 v hv
theorem flat_length {sz : Nat} : ∀ {vs : List Value}, (∀ v ∈ vs, v.cells.size = sz) → (flat vs).length = vs.length * sz
 | [], _ => by simp [flat]
 | v :: r, h => by
  have ih := flat_length (vs := r) (fun u hu => h u (List.mem_cons_of_mem _ hu))
  have hv := h v List.mem_cons_self
  simp only [flat, List.flatMap_cons, List.length_append, Array.length_toList, List.length_cons, Nat.add_mul, Nat.one_mul] at ih ⊢
  omega
theorem wl_buildSlice {d t e m sz by_ : Nat} {ps : List (Nat × Operand)} {vs xs : List Value} {ops : Array Oper} [ht : Und P t (.slice e)] [he : Elem P e sz by_] (hn : Nat.blt d n.sz = true) (hps : evd s ps 0 = some vs)
  (hl : vs.length = m) (hsz : sizes sz vs = true) (hx : norm (flat vs) = some xs) (hm0 : Nat.blt 0 m = true) (hsm : Nat.ble (m * sz) 16777216 = true)
  (k : ∀ g, WL P n w0 ops rest Q ((d, .slice (some ⟨g, 0, none⟩) m m) :: s) (.own (some g) e sz m m xs :: H)) : WL P n w0 ops (⟨some d, .buildSlice t m ps.toArray, ty, p, af, none⟩ :: rest) Q s H := by
 refine wl_new (B := fun g => .own (some g) e sz m m xs) (v := fun g => .slice (some ⟨g, 0, none⟩) m m) hn (fun a w hs hm => ?_) k
 obtain ⟨i, z, h1, h2, h3, h4, h5, h6⟩ := he.out
 have hm1 : 0 < m := by simpa using hm0
 have hsm1 : m * sz ≤ 16777216 := by simpa using hsm
 have hall := sizes_all hsz
 have hlen : xs.length = m * sz := by rw [norm_eq hx, flat_length hall, hl]
 have hfill := Great.fill_whole h6 vs ((Array.range (m * i.size)).map (z.cells[· % z.cells.size]!)) hall (by simp [hl, h2])
 rw [← evd_map hs hps] at hfill
 have hr := run_buildSlice (P := P) w t e m (ps.map fun x => (x.1, a.eval x.2)).toArray _ i z ht.out h1 h4 (by rw [h2]; omega) (by rw [h2]; exact Nat.ne_of_gt (Nat.mul_pos hm1 h6)) (by rw [h2] at hfill ⊢; exact hfill)
 refine ⟨_, ?_, World.grownBy_alloc w _ none, Blk.own_of (e := e) (xs := xs) (by rw [norm_eq hx]; exact heap_alloc_new w _) hlen rfl ?_, rfl⟩
 ·
  simp only [execOp, List.map_toArray]
  simp only [Sem.run_bind, hr, Result.andThen_ok, Sem.run_pure, flat]
 ·
  have : m ≤ m * sz := Nat.le_mul_of_pos_right m h6
  simp only [maxLen]; omega
theorem wl_append {d t e n' c m c' g2 o2 sz by_ : Nat} {A : Option Nat} {x y : Operand} {xs news : List Value} {R : List Blk} {ops : Array Oper} [ht : Und P t (.slice e)] [he : Elem P e sz by_] (hn : Nat.blt d n.sz = true)
  (hx : ev s x = some (sl A n' c)) (hy : ev s y = some (.slice (some ⟨g2, o2, none⟩) m c')) (hsel : Sel (.own A e sz n' c xs) H R)
  (hnews : ∀ w, Mem w0 w H → Cells w g2 o2 news) (hl : news.length = m * sz) (h1 : ∀ u ∈ news, u.oneCell' = true) (hby : (n' + m) * by_ ≤ 140737488355328) (h63 : n' + m ≤ maxLen)
  (k : ∀ A' cap', (0 < n' + m → ∃ g, A' = some g) → WL P n w0 ops rest Q ((d, sl A' (n' + m) cap') :: s) (.own A' e sz (n' + m) cap' (xs ++ news) :: R)) :
  WL P n w0 ops (⟨some d, .call { callee := .builtin .append, args := #[x, y], argTypes := #[t, t] }, ty, p, af, none⟩ :: rest) Q s H := by
 intro a w hs hm
 have hm' := hm.sel hsel
 obtain ⟨i, z, i1, i2, i3, i4, i5, i6⟩ := he.out
 have hb := (hm'.on _ List.mem_cons_self)
 have hown : w.ownsRow w0.heap.size e sz (sl A n' c) n' xs := by
  obtain ⟨⟨b1, b2, b3, b4⟩, b5⟩ := hb
  refine ⟨b1, ?_⟩
  cases A with
  | none => obtain ⟨rfl, rfl⟩ := b4; exact .inl ⟨rfl, rfl⟩
  | some g =>
   obtain ⟨junk, j1, j2⟩ := b4
   refine .inr ⟨g, c, _, rfl, b5 g rfl, j2, b2, b3, by simpa using j1, ?_⟩
   simp only [List.toList_toArray]
   rw [← b1, List.take_left]
 obtain ⟨v', w', hr, h2, h3, h4, h5⟩ := run_append_own_at (P := P) w w0.heap.size t ty e i z sz by_ ht.out i1 i4 i2 i3 i5 i6 (sl A n' c) n' xs hown ⟨g2, o2, none⟩ m c' news hl
  (fun j u hu => by rw [addr_add]; exact hnews w hm j u hu) h1 h63 hby hm.below.size
 have hsh : ∃ A' cap', v' = sl A' (n' + m) cap' ∧ (Blk.own A' e sz (n' + m) cap' (xs ++ news)).on w' ∧ (0 < n' + m → ∃ g, A' = some g) := by
  obtain ⟨q1, q2⟩ := h2
  rcases q2 with ⟨rfl, q3⟩ | ⟨g, cap, cur, rfl, _, q4, q5, q6, q7, q8⟩
  ·
   refine ⟨none, 0, by rw [q3]; rfl, ⟨q1, by omega, Nat.zero_le _, q3, rfl⟩, fun h => by omega⟩
  ·
   refine ⟨some g, cap, rfl, ⟨q1, q5, q6, cur.toList.drop ((n' + m) * sz), ?_, ?_⟩, fun _ => ⟨g, rfl⟩⟩
   ·
    rw [← q8, List.take_append_drop]; simpa using q7
   ·
    rw [← q8, List.take_append_drop]; simpa using q4
 obtain ⟨A', cap', rfl, hon, hsome⟩ := hsh
 refine wpList_plain rfl fun K hK => ?_
 unfold Oper.wp execOp
 simp only [resolve, invoke, builtin, Sem.run_bind, Sem.run_pure, Result.andThen_ok, List.map_toArray, List.map_cons, List.map_nil, hs.eval x _ hx, hs.eval y _ hy, hr, Oper.upon]
 have hkey : ∀ (B : Option Nat) (q r : Nat), (sl B q r).ownBlock = B := fun B q r => by cases B <;> rfl
 rw [hkey] at h3
 refine hK _ _ (k A' cap' hsome _ _ (hs.put (Nat.blt_eq ▸ hn) _) (hm'.upd h3 hon fun j hj => ?_))
 rw [hkey, hkey] at h5
 simp only [Blk.key] at hj ⊢
 rcases h5 with h5 | h5
 ·
  left; rw [← h5]; exact hj
 ·
  right; rw [h5] at hj; injection hj with hj; omega
theorem w_nilrow {c : Code} (e sz : Nat) (k : W P n w0 c Q s (.own none e sz 0 0 [] :: H)) : W P n w0 c Q s H := fun a w hs hm =>
 k a w hs (hm.new (b := .own none e sz 0 0 []) ⟨rfl, rfl, rfl, Nat.le_refl _, fun _ _ _ => rfl⟩ ⟨by simp, Nat.le_refl _, Nat.zero_le _, rfl, rfl⟩ (fun k hk => by cases hk))
theorem wl_msub {ops : Array Oper} {H' : List Blk} (hH : MSub H' H) (h : WL P n w0 ops rest Q s H') : WL P n w0 ops rest Q s H :=
 fun a w hst hm => h a w hst (hH.use hm)
theorem wl_slice {d t e lo hi m c sz : Nat} {A : Option Addr} {x : Operand} {xl xh : Option Operand} {ops : Array Oper} [ht : Und P t (.slice e)] [hz : Size P e sz] (hn : Nat.blt d n.sz = true) (hx : ev s x = some (.slice A m c))
  (hxl : match xl with | none => lo = 0 | some q => ∃ k, ev s q = some (.int k (lo : Nat))) (hxh : match xh with | none => hi = m | some q => ∃ k, ev s q = some (.int k (hi : Nat))) (h1 : lo ≤ hi) (h2 : hi ≤ c)
  (k : ∀ B, (B = if c = lo then A else A.map (·.add (lo * sz))) → WL P n w0 ops rest Q ((d, .slice B (hi - lo) (c - lo)) :: s) H) : WL P n w0 ops (⟨some d, .slice t x xl xh none, ty, p, af, none⟩ :: rest) Q s H := by
 refine wl_exec rfl d rfl hn (fun a w hs hm => ?_) (k _ rfl)
 obtain ⟨i, hi1, hi2⟩ := hz.out
 have e1 : ((lo : Nat) : Int) ≤ ((hi : Nat) : Int) := by omega
 have e2 : ((hi : Nat) : Int) ≤ ((c : Nat) : Int) := by omega
 have e3 : ((0 : Nat) : Int) ≤ ((hi : Nat) : Int) := by omega
 cases xl with
 | none =>
  cases xh with
  | none =>
   simp only at hxl hxh
   subst hxl hxh
   simp [execOp, hs.eval x _ hx, Instr.sliceAt, run_underlying ht.out, Instr.slice, Instr.sliceBounds, sizeOf, typeInfo, hi1]
  | some q =>
   simp only at hxl hxh
   subst hxl
   obtain ⟨kk, hq⟩ := hxh
   simp [execOp, hs.eval x _ hx, hs.eval q _ hq, Instr.sliceAt, run_underlying ht.out, Instr.slice, Instr.sliceBounds, Instr.sliceBound, asIntOf, sizeOf, typeInfo, hi1, h2]
 | some ql =>
  obtain ⟨kl, hql⟩ := hxl
  cases xh with
  | none =>
   simp only at hxh
   subst hxh
   simp [execOp, hs.eval x _ hx, hs.eval ql _ hql, Instr.sliceAt, run_underlying ht.out, Instr.slice, Instr.sliceBounds, Instr.sliceBound, asIntOf, sizeOf, typeInfo, hi1, hi2, h1]
  | some q =>
   obtain ⟨kk, hq⟩ := hxh
   simp [execOp, hs.eval x _ hx, hs.eval q _ hq, hs.eval ql _ hql, Instr.sliceAt, run_underlying ht.out, Instr.slice, Instr.sliceBounds, Instr.sliceBound, asIntOf, sizeOf, typeInfo, hi1, hi2, h1, h2]
end
def FnAt (P : Program) (f : FuncId) (args : List Value) (w : World) (R : Value → List Blk → Prop) : Prop :=
 Calls P f args.toArray w fun e w' => ∃ v H', e = .returned v ∧ Mem w w' H' ∧ R v H'
def Pure (P : Program) (f : FuncId) (args : List Value) (w : World) (v : Value) : Prop := FnAt P f args w fun u _ => u = v
def FnIn (P : Program) (f : FuncId) (args : List Value) (w0 : World) (H : List Blk) (R : Value → List Blk → Prop) : Prop :=
 ∀ w, Mem w0 w H → Calls P f args.toArray w fun e w' => ∃ v H', e = .returned v ∧ Mem w0 w' H' ∧ R v H'
theorem FnAt.mono {P : Program} {f : FuncId} {args : List Value} {w : World} {R R' : Value → List Blk → Prop} (h : FnAt P f args w R) (hr : ∀ v H, R v H → R' v H) : FnAt P f args w R' :=
 Calls.mono h fun _ _ ⟨v, H', h1, h2, h3⟩ => ⟨v, H', h1, h2, hr _ _ h3⟩
theorem FnIn.mono {P : Program} {f : FuncId} {args : List Value} {w0 : World} {H : List Blk} {R R' : Value → List Blk → Prop} (h : FnIn P f args w0 H R) (hr : ∀ v H, R v H → R' v H) : FnIn P f args w0 H R' :=
 fun w hm => Calls.mono (h w hm) fun _ _ ⟨v, H', h1, h2, h3⟩ => ⟨v, H', h1, h2, hr _ _ h3⟩
theorem FnIn.of_at {P : Program} {f : FuncId} {args : List Value} {w0 : World} {H : List Blk} {R : Value → List Blk → Prop} (h : ∀ w, Mem w0 w H → FnAt P f args w R) :
  FnIn P f args w0 H fun v H' => ∃ H1, R v H1 ∧ H' = H1 ++ H :=
 fun w hm => Calls.mono (h w hm) fun _ _ ⟨v, H', h1, h2, h3⟩ => ⟨v, H' ++ H, h1, hm.call h2, H', h3, rfl⟩
def evs (s : Slots) : List Operand → Option (List Value)
 | [] => some []
 | x :: r => match ev s x, evs s r with
  | some v, some vs => some (v :: vs)
  | _, _ => none
section
variable {P : Program} {n : Fr} {w0 : World} {Q : Post} {s : Slots} {H : List Blk} {l rest : List Oper} {ty : TypeId} {p : String} {af : Array Edge}
theorem evs_map {a : Act} (hs : St n s a) : ∀ {xs : List Operand} {vs : List Value}, evs s xs = some vs → xs.map a.eval = vs
 | [], vs, h => by simp only [evs, Option.some.injEq] at h; simp [← h]
 | x :: r, vs, h => by
  simp only [evs] at h
  split at h
  ·
   rename_i v vs' hv hvs
   simp only [Option.some.injEq] at h
   rw [← h, List.map_cons, evs_map hs hvs, hs.eval x v hv]
  ·
   cases h
theorem run_call {ρ : Operand → Value} {w : World} {d : Option Tmp} {g : Option (Nat × Bool)} {f : FuncId} {c : Operand} {xs : List Operand} {vs caps : List Value} {ts : Array TypeId} [hf : Callable P f] (hc : ρ c = .func (.func f) #[] caps.toArray) (hx : xs.map ρ = vs) :
  (execOp ρ ⟨d, .call { callee := .value c, args := xs.toArray, argTypes := ts }, ty, p, af, g⟩).run P w = .ok (.enter f (vs ++ caps).toArray) w := by
 simp [execOp, resolve, hc, Deferred.ofValue, invoke, ← hx, hf.out]
theorem wl_callin {d : Nat} {ops : Array Oper} {f : FuncId} {xs : List Operand} {vs : List Value} {ts : Array TypeId} {R : Value → List Blk → Prop} [Callable P f] (hn : Nat.blt d n.sz = true) (hx : evs s xs = some vs)
  (hF : FnIn P f vs w0 H R) (k : ∀ v H', R v H' → WL P n w0 ops rest Q ((d, v) :: s) H') :
  WL P n w0 ops (⟨some d, .call { callee := .value (.func f), args := xs.toArray, argTypes := ts }, ty, p, af, none⟩ :: rest) Q s H := by
 intro a w hs hm
 refine wpList_plain rfl fun K hK => ?_
 have hr := run_call (P := P) (w := w) (ρ := a.eval) (d := some d) (ty := ty) (p := p) (af := af) (g := none) (f := f) (c := .func f) (xs := xs) (caps := []) (ts := ts) rfl (evs_map hs hx)
 rw [List.append_nil] at hr
 simp only [Oper.wp, hr, Oper.upon]
 refine (hF w hm).mono ?_
 rintro e w' ⟨v, H', rfl, hm', hR⟩
 exact hK _ _ (k v H' hR _ _ (hs.put (Nat.blt_eq ▸ hn) _) hm')
theorem wl_callv {d : Nat} {ops : Array Oper} {f : FuncId} {c : Operand} {xs : List Operand} {vs caps : List Value} {ts : Array TypeId} {R : Value → List Blk → Prop} (hn : Nat.blt d n.sz = true) (hc : ev s c = some (.func (.func f) #[] caps.toArray)) (hfc : Callable P f) (hx : evs s xs = some vs)
  (hF : FnIn P f (vs ++ caps) w0 H R) (k : ∀ v H', R v H' → WL P n w0 ops rest Q ((d, v) :: s) H') :
  WL P n w0 ops (⟨some d, .call { callee := .value c, args := xs.toArray, argTypes := ts }, ty, p, af, none⟩ :: rest) Q s H := by
 intro a w hs hm
 refine wpList_plain rfl fun K hK => ?_
 have hr := run_call (P := P) (w := w) (ρ := a.eval) (d := some d) (ty := ty) (p := p) (af := af) (g := none) (f := f) (c := c) (xs := xs) (caps := caps) (ts := ts) (hs.eval c _ hc) (evs_map hs hx)
 simp only [Oper.wp, hr, Oper.upon]
 refine (hF w hm).mono ?_
 rintro e w' ⟨v, H', rfl, hm', hR⟩
 exact hK _ _ (k v H' hR _ _ (hs.put (Nat.blt_eq ▸ hn) _) hm')
theorem wl_call {d : Nat} {ops : Array Oper} {f : FuncId} {xs : List Operand} {vs : List Value} {ts : Array TypeId} {R : Value → List Blk → Prop} [Callable P f] (hn : Nat.blt d n.sz = true) (hx : evs s xs = some vs)
  (hF : ∀ w, Mem w0 w H → FnAt P f vs w R) (k : ∀ v H', R v H' → WL P n w0 ops rest Q ((d, v) :: s) (H' ++ H)) :
  WL P n w0 ops (⟨some d, .call { callee := .value (.func f), args := xs.toArray, argTypes := ts }, ty, p, af, none⟩ :: rest) Q s H :=
 wl_callin hn hx (FnIn.of_at hF) fun v _ ⟨H1, h1, h2⟩ => h2 ▸ k v H1 h1
theorem wl_callp {d : Nat} {ops : Array Oper} {f : FuncId} {xs : List Operand} {vs : List Value} {v : Value} {ts : Array TypeId} [Callable P f] (hn : Nat.blt d n.sz = true) (hx : evs s xs = some vs)
  (hF : ∀ w, Mem w0 w H → Pure P f vs w v) (k : WL P n w0 ops rest Q ((d, v) :: s) H) :
  WL P n w0 ops (⟨some d, .call { callee := .value (.func f), args := xs.toArray, argTypes := ts }, ty, p, af, none⟩ :: rest) Q s H :=
 wl_call hn hx (R := fun u _ => u = v) hF fun u H' e => by
  subst e
  exact wl_msub ⟨H', List.perm_append_comm⟩ k
def Res (P : Program) (fn : Func) (n : Fr) (w0 : World) (s : Slots) (H : List Blk) (v : Value) : Prop :=
 ∀ a w, St n s a → Mem w0 w H → (results fn a.tmps).run P w = .ok v w
def retP (P : Program) (fn : Func) (n : Fr) (w0 : World) (R : Value → List Blk → Prop) : Post := fun e s H => (e = .ret ∨ e = .normal) ∧ ∃ v H', MSub H' H ∧ Res P fn n w0 s H v ∧ R v H'
def pars : List Value → Nat → Slots
 | [], _ => []
 | v :: r, k => (k, v) :: pars r (k + 1)
theorem look_pars (args : List Value) (k t : Nat) : look (pars args k) t = if k ≤ t then args[t - k]? else none := by
 induction args generalizing k with
 | nil => simp [pars, look]
 | cons v r ih =>
  simp only [pars]
  rw [look_cons, ih]
  by_cases h : k = t
  ·
   subst h; simp
  ·
   rw [if_neg h]
   by_cases h2 : k ≤ t
   ·
    rw [if_pos h2, if_pos (by omega), show t - k = (t - (k + 1)) + 1 by omega, List.getElem?_cons_succ]
   ·
    rw [if_neg h2, if_neg (by omega)]
theorem fn_in {m : Nat} {f : FuncId} {fn : Func} {c : Code} {args : List Value} {R : Value → List Blk → Prop} (hf : P.funcs[f]? = some fn) (hb : fn.body = some c) (hn : fn.ntmps = m) (hle : Nat.ble args.length m = true)
  (h : W P ⟨m, []⟩ w0 c (retP P fn ⟨m, []⟩ w0 R) (pars args 0) H) : FnIn P f args w0 H R := by
 intro w hm
 have hle' : args.length ≤ m := by simpa using hle
 refine calls_of_wp hf hb (wp_mono (h { tmps := args.toArray ++ Array.replicate (fn.ntmps - args.toArray.size) undef, defers := [] } w ⟨?_, rfl, ?_⟩ hm) ?_)
 ·
  simp [hn]; omega
 ·
  intro t v ht
  rw [look_pars] at ht
  simp only [Nat.zero_le, if_true, Nat.sub_zero] at ht
  have hlt : t < args.length := (List.getElem?_eq_some_iff.1 ht).1
  rw [Array.getElem?_append_left (by simpa using hlt)]
  simpa using ht
 ·
  rintro e a w' ⟨s', H', hs, hm', he, v, H'', hsub, hr, hR⟩
  have hp : a.defers = [] ∧ ∃ v, (results fn a.tmps).run P w' = .ok v w' ∧ ∃ v1 H1, Ending.returned v = .returned v1 ∧ Mem w0 w' H1 ∧ R v1 H1 :=
   ⟨hs.defers, v, hr a w' hs hm', v, H'', rfl, hsub.use hm', hR⟩
  rcases he with rfl | rfl <;> exact hp
theorem fn_at {m : Nat} {f : FuncId} {fn : Func} {c : Code} {args : List Value} {w : World} {R : Value → List Blk → Prop} (hf : P.funcs[f]? = some fn) (hb : fn.body = some c) (hn : fn.ntmps = m) (hle : Nat.ble args.length m = true)
  (h : W P ⟨m, []⟩ w c (retP P fn ⟨m, []⟩ w R) (pars args 0) []) : FnAt P f args w R := fn_in hf hb hn hle h w (Mem.refl w)
section res
variable {fn : Func} {R : Value → List Blk → Prop} {e : Exit}
theorem ret0 (he : e = .ret ∨ e = .normal) (hr : fn.results = #[]) {H' : List Blk} (hs : MSub H' H) (h : R (.tuple #[]) H') : retP P fn n w0 R e s H :=
 ⟨he, _, H', hs, fun a w _ _ => by simp [results, hr], h⟩
theorem ret1 (he : e = .ret ∨ e = .normal) {t : Tmp} {v : Value} (hr : fn.results = #[.tmp t]) (hv : look s t = some v) {H' : List Blk} (hs : MSub H' H) (h : R v H') : retP P fn n w0 R e s H :=
 ⟨he, v, H', hs, fun a w hst _ => by
  have := hst.has t v hv
  simp [results, hr, Array.getD_eq_getD_getElem?, this], h⟩
theorem ret2 (he : e = .ret ∨ e = .normal) {t u : Tmp} {v x : Value} (hr : fn.results = #[.tmp t, .tmp u]) (hv : look s t = some v) (hx : look s u = some x) {H' : List Blk} (hs : MSub H' H) (h : R (.tuple #[v, x]) H') : retP P fn n w0 R e s H :=
 ⟨he, _, H', hs, fun a w hst _ => by
  have h1 := hst.has t v hv
  have h2 := hst.has u x hx
  simp [results, hr, Array.getD_eq_getD_getElem?, h1, h2], h⟩
theorem ret3 (he : e = .ret ∨ e = .normal) {t u q : Tmp} {v x y : Value} (hr : fn.results = #[.tmp t, .tmp u, .tmp q]) (hv : look s t = some v) (hx : look s u = some x) (hy : look s q = some y) {H' : List Blk} (hs : MSub H' H) (h : R (.tuple #[v, x, y]) H') : retP P fn n w0 R e s H :=
 ⟨he, _, H', hs, fun a w hst _ => by
  have h1 := hst.has t v hv
  have h2 := hst.has u x hx
  have h3 := hst.has q y hy
  simp [results, hr, Array.getD_eq_getD_getElem?, h1, h2, h3], h⟩
end res
def WQ (P : Program) (n : Fr) (w0 : World) (ops : Array Oper) (rest : List Oper) (K : Slots → Prop) (s : Slots) (H : List Blk) : Prop :=
 ∀ a, St n s a → wpQuiet P ops (fun w => Mem w0 w H) (fun a' => ∃ s', St n s' a' ∧ K s') rest a
theorem w_draw {id : Nat} (hm : P.follows .mixedOrders = true) (hB : Region.lexB .any l.toArray = true) (h : WQ P n w0 l.toArray l (fun s' => Q .normal s' H) s H) : W P n w0 (.region id l.toArray true) Q s H := by
 intro a w hs hmem
 refine wp_region_quiet (C := fun w => Mem w0 w H) hm hB hmem.drew ?_
 have h1 := h a hs
 have mono : ∀ (r : List Oper) (a : Act) (K K' : Act → Prop), (∀ a, K a → K' a) → wpQuiet P l.toArray (fun w => Mem w0 w H) K r a → wpQuiet P l.toArray (fun w => Mem w0 w H) K' r a := by
  intro r
  induction r with
  | nil => intro a K K' hk h; exact hk _ h
  | cons o r ih =>
   intro a K K' hk h
   unfold wpQuiet at h ⊢
   split
   ·
    rename_i hw
    rw [if_pos hw] at h
    exact Oper.quiet_mono (fun a' h' => ih a' K K' hk h') h
   ·
    rename_i hw
    rw [if_neg hw] at h
    exact ih _ K K' hk h
 simp only [List.toList_toArray]
 exact mono _ _ _ _ (fun a' ⟨s', h2, h3⟩ w' hw' => ⟨s', H, h2, hw', h3⟩) h1
variable {K : Slots → Prop}
theorem wq_nil {ops : Array Oper} (h : K s) : WQ P n w0 ops [] K s H := fun _ hs => ⟨s, hs, h⟩
theorem wq_v {ops : Array Oper} {op : Op} {d : Nat} {v : Value} (hn : Nat.blt d n.sz = true) (hv : VOp P w0 s H op ty v) (k : WQ P n w0 ops rest K ((d, v) :: s) H) :
  WQ P n w0 ops (⟨some d, op, ty, p, af, none⟩ :: rest) K s H := by
 intro a hs
 unfold wpQuiet
 simp only [Region.wanted, if_true]
 refine ⟨v, fun w hm => ?_, k _ (hs.put (Nat.blt_eq ▸ hn) v)⟩
 unfold Oper.quietAt
 rw [hv a.eval w _ _ _ _ hs.eval hm]
 exact ⟨rfl, rfl⟩
theorem wq_callp {d : Nat} {ops : Array Oper} {f : FuncId} {xs : List Operand} {vs : List Value} {v : Value} {ts : Array TypeId} [Callable P f] (hn : Nat.blt d n.sz = true) (hx : evs s xs = some vs)
  (hF : ∀ w, Mem w0 w H → Pure P f vs w v) (k : WQ P n w0 ops rest K ((d, v) :: s) H) :
  WQ P n w0 ops (⟨some d, .call { callee := .value (.func f), args := xs.toArray, argTypes := ts }, ty, p, af, none⟩ :: rest) K s H := by
 intro a hs
 unfold wpQuiet
 simp only [Region.wanted, if_true]
 refine ⟨v, fun w hm => ?_, k _ (hs.put (Nat.blt_eq ▸ hn) v)⟩
 unfold Oper.quietAt
 have hr := run_call (P := P) (w := w) (ρ := a.eval) (d := some d) (ty := ty) (p := p) (af := af) (g := none) (f := f) (c := .func f) (xs := xs) (caps := []) (ts := ts) rfl (evs_map hs hx)
 rw [List.append_nil] at hr
 rw [hr]
 refine ⟨rfl, Calls.mono (hF w hm) ?_⟩
 rintro e w' ⟨u, H', rfl, hm', rfl⟩
 exact ⟨rfl, (hm.call hm').right⟩
theorem wq_gyes {op : Op} {dst : Option Tmp} {j d : Nat} {want : Bool} (hj : gd l j = some d) (hv : look s d = some (.bool want))
  (k : WQ P n w0 l.toArray (⟨dst, op, ty, p, af, none⟩ :: rest) K s H) : WQ P n w0 l.toArray (⟨dst, op, ty, p, af, some (j, want)⟩ :: rest) K s H := by
 intro a hs
 have h := k a hs
 have hy := yielded_of hs hj hv
 unfold wpQuiet at h ⊢
 simp only [Region.wanted, if_true] at h
 simp only [Region.wanted, hy, boolOf, beq_self_eq_true, if_true]
 exact h
theorem wq_gno {op : Op} {dst j d : Nat} {want : Bool} {v : Value} (hj : gd l j = some d) (hv : look s d = some v) (hw : boolOf v ≠ some want) (hn : Nat.blt dst n.sz = true)
  (k : WQ P n w0 l.toArray rest K ((dst, undef) :: s) H) : WQ P n w0 l.toArray (⟨some dst, op, ty, p, af, some (j, want)⟩ :: rest) K s H := by
 intro a hs
 have hy := yielded_of hs hj hv
 have : (yielded l.toArray a.tmps j == some want) = false := by rw [hy]; simpa using hw
 unfold wpQuiet
 simp only [Region.wanted, this]
 exact k _ (hs.put (Nat.blt_eq ▸ hn) _)
theorem wq_gsplit {op : Op} {dst : Option Tmp} {j d : Nat} {want b : Bool} (_hj : gd l j = some d) (hv : look s d = some (.bool b))
  (k1 : b = true → WQ P n w0 l.toArray (⟨dst, op, ty, p, af, some (j, want)⟩ :: rest) K ((d, .bool true) :: s) H)
  (k2 : b = false → WQ P n w0 l.toArray (⟨dst, op, ty, p, af, some (j, want)⟩ :: rest) K ((d, .bool false) :: s) H) :
  WQ P n w0 l.toArray (⟨dst, op, ty, p, af, some (j, want)⟩ :: rest) K s H := by
 intro a hs
 cases b with
 | true => exact k1 rfl a (hs.shadow hv)
 | false => exact k2 rfl a (hs.shadow hv)
end
end Go.SL
namespace Go.SL
section
variable {P : Program} {n : Fr} {w0 : World} {Q : Post} {s : Slots} {H : List Blk} {l rest : List Oper} {ty : TypeId} {p : String} {af : Array Edge} {K : Slots → List Blk → Prop} {id id' : Nat}
theorem thn_n (h : K s H) : thn K Q .normal s H := h
theorem thn_r (h : Q .ret s H) : thn K Q .ret s H := h
theorem thn_e (h : Q (.exit id) s H) : thn K Q (.exit id) s H := h
theorem blk_n (h : Q .normal s H) : blk id Q .normal s H := h
theorem blk_r (h : Q .ret s H) : blk id Q .ret s H := h
theorem blk_e (h : Q .normal s H) : blk id Q (.exit id) s H := by simp only [blk, if_true]; exact h
theorem blk_x (hne : Nat.beq id' id = false) (h : Q (.exit id') s H) : blk id Q (.exit id') s H := by
 have : ¬ id' = id := Nat.ne_of_beq_eq_false hne
 simp only [blk, if_neg this]; exact h
theorem wl_gno_b {op : Op} {dst j d : Nat} {want b : Bool} (hj : gd l j = some d) (hv : look s d = some (.bool b)) (hw : (b == want) = false) (hn : Nat.blt dst n.sz = true)
  (k : WL P n w0 l.toArray rest Q ((dst, undef) :: s) H) : WL P n w0 l.toArray (⟨some dst, op, ty, p, af, some (j, want)⟩ :: rest) Q s H :=
 wl_gno hj hv (by simpa [boolOf] using hw) hn k
theorem wl_gno_u {op : Op} {dst j d : Nat} {want : Bool} (hj : gd l j = some d) (hv : look s d = some (.tuple #[])) (hn : Nat.blt dst n.sz = true)
  (k : WL P n w0 l.toArray rest Q ((dst, undef) :: s) H) : WL P n w0 l.toArray (⟨some dst, op, ty, p, af, some (j, want)⟩ :: rest) Q s H :=
 wl_gno hj hv (by simp [boolOf]) hn k
theorem wq_gno_b {KQ : Slots → Prop} {op : Op} {dst j d : Nat} {want b : Bool} (hj : gd l j = some d) (hv : look s d = some (.bool b)) (hw : (b == want) = false) (hn : Nat.blt dst n.sz = true)
  (k : WQ P n w0 l.toArray rest KQ ((dst, undef) :: s) H) : WQ P n w0 l.toArray (⟨some dst, op, ty, p, af, some (j, want)⟩ :: rest) KQ s H :=
 wq_gno hj hv (by simpa [boolOf] using hw) hn k
theorem v_loadn_box {x : Operand} {t T g off m : Nat} {xs ys : List Value} [Agg P t m] (hx : ev s x = some (.pointer (some ⟨g, off, none⟩))) (hi : In (.box g T xs) H) (hv : norm ((xs.drop off).take m) = some ys) (hl : Nat.beq ys.length m = true) :
  VOp P w0 s H (.load t x) ty (.agg ys.toArray) := v_loads_box hx hi (norm_eq hv).symm (Nat.eq_of_beq_eq_true hl)
theorem v_loadw_box {x : Operand} {t T g m : Nat} {xs : List Value} [Agg P t m] (hx : ev s x = some (.pointer (some ⟨g, 0, none⟩))) (hi : In (.box g T xs) H) (hl : Nat.beq xs.length m = true) :
  VOp P w0 s H (.load t x) ty (.agg xs.toArray) := by
 have hm := Nat.eq_of_beq_eq_true hl
 exact v_loads_box hx hi (by rw [List.drop_zero, ← hm, List.take_length]) hm
theorem wl_storen_box {ops : Array Oper} {t T g off : Nat} {x a : Operand} {xs ys : List Value} {v : Value} {R : List Blk} [Size P t 1] (ha : ev s a = some (.pointer (some ⟨g, off, none⟩))) (hx : ev s x = some v)
  (hsel : Sel (.box g T xs) H R) (hv : v.oneCell' = true) (hfit : Nat.blt off xs.length = true) (hn : norm (xs.set off v) = some ys)
  (k : WL P n w0 ops rest Q s (.box g T ys :: R)) : WL P n w0 ops (⟨none, .store t a x, ty, p, af, none⟩ :: rest) Q s H :=
 wl_store_box ha hx hsel hv hfit (norm_eq hn ▸ k)
theorem wl_putn_box {ops : Array Oper} {t T g off m : Nat} {x a : Operand} {xs vs ys : List Value} {R : List Blk} [Size P t m] (ha : ev s a = some (.pointer (some ⟨g, off, none⟩))) (hx : ev s x = some (.agg vs.toArray))
  (hsel : Sel (.box g T xs) H R) (hl : Nat.beq vs.length m = true) (h1 : vs.all Value.oneCell' = true) (hfit : Nat.ble (off + m) xs.length = true) (hn : norm (xs.take off ++ vs ++ xs.drop (off + m)) = some ys)
  (k : WL P n w0 ops rest Q s (.box g T ys :: R)) : WL P n w0 ops (⟨none, .store t a x, ty, p, af, none⟩ :: rest) Q s H :=
 wl_put_box ha hx hsel rfl (Nat.eq_of_beq_eq_true hl) (by simpa using h1) (by simpa using hfit) (norm_eq hn ▸ k)
end
end Go.SL

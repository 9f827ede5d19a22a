/-
  Lemmas and walks, put together: Sl5 Sl6.
-/
import Derived.Test.YtpohljcebgacjaaGreatDoorKe02
set_option linter.unusedSimpArgs false
set_option linter.unusedVariables false
set_option maxRecDepth 20000
namespace Go.SL
open Go Go.RowKit
section
variable {P : Program} {n : Fr} {w0 : World} {Q : Post} {s : Slots} {H : List Blk} {l rest : List Oper} {ty : TypeId} {p : String} {af : Array Edge}
theorem v_shr {x y : Operand} {k k' : IntKind} {a : Int} {m : Nat} {t t' : TypeId} (hx : ev s x = some (.int k a)) (hy : ev s y = some (.int k' (m : Nat))) (hm : Nat.ble m k.bits = true) :
  VOp P w0 s H (.binOp .shr t x y t') ty (.int k (a / 2 ^ m)) := fun ρ w _ _ _ _ hρ _ => by
 have hm' : m ≤ k.bits := by simpa using hm
 have h0 : (0 : Int) ≤ (m : Int) := by omega
 simp [execOp, hρ x _ hx, hρ y _ hy, eqGuard, binOp, shift_shr_any k k' a m h0, Nat.min_eq_left hm']
theorem v_makeFunc {f : FuncId} {caps : List Operand} {vs : List Value} (hc : evs s caps = some vs) : VOp P w0 s H (.makeFunc (.func f) #[] caps.toArray) ty (.func (.func f) #[] vs.toArray) := fun ρ w _ _ _ _ hρ _ => by
 have h : ∀ {xs : List Operand} {vs : List Value}, evs s xs = some vs → xs.map ρ = vs := by
  intro xs
  induction xs with
  | nil => intro vs h; simp only [evs, Option.some.injEq] at h; simp [← h]
  | cons x r ih =>
   intro vs h
   simp only [evs] at h
   split at h
   ·
    rename_i v vs' hv hvs
    simp only [Option.some.injEq] at h
    rw [← h, List.map_cons, ih hvs, hρ x v hv]
   ·
    cases h
 simp [execOp, Instr.makeFunc, h hc]
def evps (s : Slots) : List (Nat × Operand) → Option (List (Nat × Value))
 | [] => some []
 | (i, x) :: r => match ev s x, evps s r with
  | some v, some vs => some ((i, v) :: vs)
  | _, _ => none
class Struct (P : Program) (t : TypeId) (places : outParam (List (Nat × Nat))) (zs : outParam (List Value)) : Prop where
 out : ∃ it z fs, P.info? t = some it ∧ P.underlying t = some (.struct fs) ∧ it.zero = some z ∧ fs.toList.mapM (fun f => (P.info? f.type).map fun i => (f.offset, i.size)) = some places ∧ z.cells = zs.toArray
def cellsL : Value → List Value
 | .agg cs => cs.toList
 | v => [v]
theorem cellsL_eq (v : Value) : v.cells.toList = cellsL v := by cases v <;> rfl
def fillL (places : List (Nat × Nat)) : List Value → List (Nat × Value) → Option (List Value)
 | cells, [] => some cells
 | cells, (i, v) :: r => match places[i]? with
  | none => none
  | some (off, size) => bif Nat.beq (cellsL v).length size && Nat.ble (off + (cellsL v).length) cells.length then fillL places (cells.take off ++ cellsL v ++ cells.drop (off + (cellsL v).length)) r else none
theorem foldl_put (off : Nat) : ∀ (cs : List Value) (k : Nat) (cells : List Value), off + k + cs.length ≤ cells.length →
  (cs.zipIdx k).foldl (fun (a : Array Value) (x : Value × Nat) => a.setIfInBounds (off + x.2) x.1) cells.toArray = (cells.take (off + k) ++ cs ++ cells.drop (off + k + cs.length)).toArray
 | [], k, cells, h => by simp
 | c :: cs, k, cells, h => by
  simp only [List.length_cons] at h
  have h1 : off + k < cells.length := by omega
  rw [List.zipIdx_cons, List.foldl_cons]
  have hset : (cells.toArray.setIfInBounds (off + k) c) = (cells.set (off + k) c).toArray := by simp
  rw [hset, foldl_put off cs (k + 1) (cells.set (off + k) c) (by simp; omega)]
  congr 1
  have e1 : (cells.set (off + k) c).take (off + (k + 1)) = cells.take (off + k) ++ [c] := by
   rw [← take_set cells (off + k) c h1, show off + (k + 1) = (off + k) + 1 by omega, List.take_append_of_le_length (by simp; omega)]
   rw [List.take_of_length_le (by simp; omega)]
  have e2 : (cells.set (off + k) c).drop (off + (k + 1) + cs.length) = cells.drop (off + k + (c :: cs).length) := by
   rw [List.drop_set_of_lt (by omega)]
   simp only [List.length_cons]
   congr 1
   omega
  rw [e1, e2]
  simp
theorem fillL_eq (places : List (Nat × Nat)) : ∀ (ps : List (Nat × Value)) (cells out : List Value), fillL places cells ps = some out → Instr.fill (places.toArray[·]?) cells.toArray ps = some out.toArray
 | [], cells, out, h => by simp only [fillL, Option.some.injEq] at h; simp [Instr.fill, h]
 | (i, v) :: r, cells, out, h => by
  simp only [fillL] at h
  simp only [Instr.fill, List.getElem?_toArray]
  cases hp : places[i]? with
  | none => rw [hp] at h; cases h
  | some x =>
   obtain ⟨off, size⟩ := x
   rw [hp] at h
   dsimp only at h ⊢
   have hsz : v.cells.size = (cellsL v).length := by rw [← cellsL_eq]; simp
   cases hb : (Nat.beq (cellsL v).length size && Nat.ble (off + (cellsL v).length) cells.length) with
   | false => rw [hb] at h; cases h
   | true =>
    rw [hb] at h
    simp only [cond_true] at h
    simp only [Bool.and_eq_true] at hb
    have h1 := Nat.eq_of_beq_eq_true hb.1
    have h2 := Nat.le_of_ble_eq_true hb.2
    rw [if_neg (by simp [hsz, h1]; omega)]
    have hf := foldl_put off (cellsL v) 0 cells (by simpa using h2)
    have hz : v.cells.zipIdx.toList = (cellsL v).zipIdx 0 := by rw [← cellsL_eq]; simp
    rw [← Array.foldl_toList, hz]
    have := fillL_eq places r _ out h
    simp only [Nat.add_zero] at hf
    rw [hf]
    simpa using this
theorem v_build {t : TypeId} {places : List (Nat × Nat)} {zs cells ys : List Value} {ps : List (Nat × Operand)} {qs : List (Nat × Value)} [hS : Struct P t places zs] (hq : evps s ps = some qs) (hf : fillL places zs qs = some cells) (hn : norm cells = some ys) :
  VOp P w0 s H (.build t ps.toArray) ty (.agg ys.toArray) := fun ρ w _ _ _ _ hρ _ => by
 obtain ⟨it, z, fs, h1, h2, h3, h4, h5⟩ := hS.out
 have hmap : ∀ {ps : List (Nat × Operand)} {qs : List (Nat × Value)}, evps s ps = some qs → ps.map (fun (x : Nat × Operand) => (x.1, ρ x.2)) = qs := by
  intro ps
  induction ps with
  | nil => intro qs h; simp only [evps, Option.some.injEq] at h; simp [← h]
  | cons q r ih =>
   intro qs h
   obtain ⟨i, x⟩ := q
   simp only [evps] at h
   split at h
   ·
    rename_i v vs hv hvs
    simp only [Option.some.injEq] at h
    rw [← h, List.map_cons, ih hvs, hρ x v hv]
   ·
    cases h
 have hb : P.built t (ps.map fun (x : Nat × Operand) => (x.1, ρ x.2)) = some cells.toArray := by
  unfold Program.built
  simp only [h1, h2, h3, h4]
  rw [hmap hq, h5]
  exact fillL_eq places qs zs cells hf
 have hr := run_build (P := P) w t (ps.map fun (x : Nat × Operand) => (x.1, ρ x.2)).toArray cells.toArray (by simpa using hb)
 rw [norm_eq hn]
 simp only [execOp, List.map_toArray]
 simp only [Sem.run_bind, hr, Result.andThen_ok, Sem.run_pure]
theorem v_index_str {x ix : Operand} {t j : Nat} {a : ByteArray} {k : IntKind} [ht : Und P t .string] (hx : ev s x = some (.string a)) (hi : ev s ix = some (.int k (j : Nat))) (hj : j < a.size) :
  VOp P w0 s H (.index t x ix) ty (.int .u8 ((a[j]'hj).toNat : Int)) := fun ρ w _ _ _ _ hρ _ => by
 have h0 : (0 : Int) ≤ (j : Int) := by omega
 simp [execOp, hρ x _ hx, hρ ix _ hi, Instr.index, run_underlying ht.out, asIntOf, hj]
def bytesV (b : ByteArray) : List Value := b.data.toList.map fun c => .int .u8 (c.toNat : Int)
theorem bytesV_length (b : ByteArray) : (bytesV b).length = b.size := by simp [bytesV]
theorem wl_toBytes {d t u e : Nat} {x : Operand} {a : ByteArray} {ops : Array Oper} [hs : Und P t .string] [hd : Und P u (.slice e)] [he : Und P e (.int .u8)] (hn : Nat.blt d n.sz = true) (hx : ev s x = some (.string a))
  (k : ∀ g cap, WL P n w0 ops rest Q ((d, .slice (some ⟨g, 0, none⟩) a.size cap) :: s) (.byt g e a.size cap (bytesV a) :: H)) :
  WL P n w0 ops (⟨some d, .convert t u x, ty, p, af, none⟩ :: rest) Q s H := by
 intro st w hst hm
 refine wpList_plain rfl fun K hK => ?_
 have hq : (Question.appendCap a.size 0 e).forced = false := rfl
 generalize hcap : (Question.appendCap a.size 0 e).cut (w.tape w.drawn (.appendCap a.size 0 e)) = cap
 have hge : a.size ≤ cap := by rw [← hcap]; simp [Question.cut]
 have hlen : (a.data.map fun b => Value.int .u8 (b.toNat : Int)).size + (cap - a.size) = cap := by
  have : (a.data.map fun b => Value.int .u8 (b.toNat : Int)).size = a.size := by simp
  omega
 generalize hcs : ((a.data.map fun b => Value.int .u8 (b.toNat : Int)) ++ Array.replicate (cap - a.size) (Value.int .u8 0)) = cs
 have hcsz : cs.size = cap := by rw [← hcs]; simpa using hlen
 have hrun : (Conv.stringToBytes e a).run P w = .ok (.slice (some ⟨w.heap.size, 0, none⟩) a.size cap) (({ w with drawn := w.drawn + 1 } : World).alloc (.cells cs e (cap, cap + 1))) := by
  have hfr : (({ w with drawn := w.drawn + 1 } : World).alloc (.cells cs e)).freeze ⟨w.heap.size, cap, none⟩ 1 = (({ w with drawn := w.drawn + 1 } : World).alloc (.cells cs e (cap, cap + 1))) := by
   simp only [World.freeze, World.alloc, Nat.one_ne_zero, if_false]
   congr 1
   refine Array.ext_getElem? fun i => ?_
   rw [Array.getElem?_modify, Array.getElem?_push, Array.getElem?_push]
   by_cases hi : w.heap.size = i
   ·
    subst hi; simp
   ·
    rw [if_neg hi, if_neg (fun e => hi e.symm), if_neg (fun e => hi e.symm)]
  have hshape : (({ w with drawn := w.drawn + 1 } : World).alloc (.cells cs e)).shape? w.heap.size = some (e, cap) := by
   simp [World.shape?, World.alloc, hcsz]
  simp only [Conv.stringToBytes, Sem.run_bind, run_choose, hq, Bool.false_eq_true, if_false, Result.andThen_ok, hcap, newRow, run_newObj, Sem.run_pure, markStringish, run_shape, hcs, World.alloc_eq, hshape, run_freeze, hfr]
 have hev := hst.eval x _ hx
 have hconv : (convert t u (.string a)).run P w = (Conv.stringToBytes e a).run P w := by
  simp [convert, run_underlying hs.out, run_underlying hd.out, run_underlying he.out]
 unfold Oper.wp execOp
 simp only [Sem.run_bind, hev, hconv, hrun, Result.andThen_ok, Sem.run_pure, Oper.upon]
 refine hK _ _ (k w.heap.size cap _ _ (hst.put (Nat.blt_eq ▸ hn) _) (hm.drew.new (World.grownBy_alloc _ _ none) ⟨bytesV_length a, hge, List.replicate (cap - a.size) (.int .u8 0), ?_, ?_⟩ fun k hk => ?_))
 ·
  simp [bytesV_length]; omega
 ·
  rw [heap_alloc_new ({ w with drawn := w.drawn + 1 } : World) _]
  congr 2
  rw [← hcs]
  apply Array.ext'
  simp [bytesV]
 ·
  simp only [Blk.key, Option.some.injEq] at hk
  subst hk
  exact Nat.le_refl _
theorem Mem.cells_byt {w w0 : World} {H : List Blk} {g m c : Nat} {t : TypeId} {xs : List Value} (h : Mem w0 w H) (hi : In (.byt g t m c xs) H) : Cells w g 0 xs := by
 obtain ⟨hl, _, junk, _, h1⟩ := (h.on _ hi.mem).1
 intro j v hv
 rw [Nat.zero_add, cell_of_row w g j _ t _ h1]
 have hlt := (List.getElem?_eq_some_iff.1 hv).1
 rw [List.getElem?_toArray, List.getElem?_append_left hlt]
 exact hv
theorem v_load_byt {x : Operand} {t T g off m c : Nat} {xs : List Value} {v : Value} [One P t] (hx : ev s x = some (.pointer (some ⟨g, off, none⟩))) (hi : In (.byt g T m c xs) H) (hv : xs[off]? = some v) :
  VOp P w0 s H (.load t x) ty v := fun ρ w _ _ _ _ hρ hm => by
 have hc := hm.cells_byt hi off v hv
 rw [Nat.zero_add] at hc
 simp [execOp, hρ x _ hx, Instr.loadAt, Instr.sureAddr, run_load_one (P := P) hc]
theorem push_fold (ns : List Int) (b : ByteArray) : (ns.foldl (fun r n => r.push (UInt8.ofNat n.toNat)) b).data.toList = b.data.toList ++ ns.map fun n => UInt8.ofNat n.toNat := by
 induction ns generalizing b with
 | nil => simp
 | cons n r ih => rw [List.foldl_cons, ih]; simp [ByteArray.push]
theorem v_ofBytes {x : Operand} {t u e T g m c : Nat} {ns : List Int} [hs : Und P t (.slice e)] [he : Und P e (.int .u8)] [hd : Und P u .string] (hx : ev s x = some (.slice (some ⟨g, 0, none⟩) m c)) (hi : In (.byt g T m c (ns.map (Value.int .u8))) H) (hl : ns.length = m) :
  VOp P w0 s H (.convert t u x) ty (.string ⟨(ns.map fun n => UInt8.ofNat n.toNat).toArray⟩) := fun ρ w _ _ _ _ hρ hm => by
 have hc := hm.cells_byt hi
 have h1 := run_loadCells_list (P := P) w ⟨g, 0, none⟩ (ns.map (Value.int .u8)) (fun j v hv => by rw [addr_add]; exact hc j v hv)
 rw [List.length_map, hl] at h1
 have h2 := run_bytesToString (P := P) w ⟨g, 0, none⟩ m c ns h1
 have h3 : ns.foldl (fun r n => r.push (UInt8.ofNat n.toNat)) ByteArray.empty = ⟨(ns.map fun n => UInt8.ofNat n.toNat).toArray⟩ := by
  have h4 := push_fold ns ByteArray.empty
  generalize ns.foldl (fun r n => r.push (UInt8.ofNat n.toNat)) ByteArray.empty = b at h4 ⊢
  obtain ⟨⟨l⟩⟩ := b
  simp only at h4
  simp [h4]
 rw [h3] at h2
 simp only [execOp, hρ x _ hx, Sem.run_bind, run_convert_bytes_string w t u e _ _ _ hs.out he.out hd.out, h2, Result.andThen_ok, Sem.run_pure]
theorem wl_store_byt {ops : Array Oper} {t T g off m c : Nat} {x a : Operand} {xs : List Value} {v : Value} {R : List Blk} [Size P t 1] (ha : ev s a = some (.pointer (some ⟨g, off, none⟩))) (hx : ev s x = some v)
  (hsel : Sel (.byt g T m c xs) H R) (hv : v.oneCell' = true) (hfit : off < xs.length)
  (k : WL P n w0 ops rest Q s (.byt g T m c (xs.set off v) :: R)) : WL P n w0 ops (⟨none, .store t a x, ty, p, af, none⟩ :: rest) Q s H := by
 refine wl_heap (fun a' w hs hm => ?_) k
 have hm' := hm.sel hsel
 obtain ⟨h2, h3, junk, h5, hb⟩ := (hm'.on _ List.mem_cons_self).1
 obtain ⟨i, hi, hsz⟩ := (inferInstance : Size P t 1).out
 have hcv : v.cells = #[v] := by cases v <;> first | rfl | cases hv
 have hlt : off < (xs ++ junk).length := by simp; omega
 have hcell : w.cell? ⟨g, off, none⟩ = some (xs ++ junk)[off] := by
  rw [cell_of_row w g off _ T _ hb, List.getElem?_toArray, List.getElem?_eq_getElem hlt]
 have hfz : w.frozen? ⟨g, off, none⟩ = false := by
  have : off < c := by rw [← h5]; exact hlt
  simp only [World.frozen?, hb]
  simp; omega
 have hst : (storeVar t ⟨g, off, none⟩ v).run P w = .ok () (w.setCell ⟨g, off, none⟩ v) := by
  simp [storeVar, sizeOf, typeInfo, hi, hsz, hcv, storeCells, addr_add, run_store P w _ v .plain hv, hcell, hfz]
 have hg : w.grownBy (w.setCell ⟨g, off, none⟩ v) (some g) := ⟨rfl, rfl, rfl, by simp, fun k _ hk => Below.heap_setCell w _ v k (fun e => hk (by rw [e]))⟩
 have hnew : (w.setCell ⟨g, off, none⟩ v).heap[g]? = some (.cells (xs.set off v ++ junk).toArray T (c, c + 1)) := by
  simp only [World.setCell, Array.getElem?_modify, if_true, hb, Option.map_some, Option.isSome_none, Bool.false_eq_true, if_false]
  rw [← List.set_append_left _ _ hfit]
  simp
 refine ⟨_, ?_, hm'.upd hg (b' := .byt g T m c (xs.set off v)) ⟨by simpa using h2, h3, junk, by rw [List.length_append, List.length_set, ← List.length_append]; exact h5, hnew⟩ fun k hk => .inl hk⟩
 simp [execOp, hs.eval a _ ha, hs.eval x _ hx, Instr.storeAt, Instr.sureAddr, hst]
theorem wl_range_str {d t : Nat} {x : Operand} {a : ByteArray} {ops : Array Oper} [ht : Und P t .string] (hn : Nat.blt d n.sz = true) (hx : ev s x = some (.string a))
  (k : ∀ g, WL P n w0 ops rest Q ((d, .pointer (some ⟨g, 0, none⟩)) :: s) (.obj g (.stringIter a 0) :: H)) : WL P n w0 ops (⟨some d, .range t x, ty, p, af, none⟩ :: rest) Q s H := by
 refine wl_new (B := fun g => .obj g (.stringIter a 0)) (v := fun g => .pointer (some ⟨g, 0, none⟩)) hn (fun st w hs hm => ?_) k
 refine ⟨w.iter a 0, ?_, World.grownBy_alloc w _ none, World.iter_heap w a 0, rfl⟩
 simp [execOp, hs.eval x _ hx, run_range_string w t a ht.out]
theorem wl_next_str {d g pos : Nat} {x : Operand} {a : ByteArray} {R : List Blk} {ops : Array Oper} (hn : Nat.blt d n.sz = true) (hx : ev s x = some (.pointer (some ⟨g, 0, none⟩))) (hsel : Sel (.obj g (.stringIter a pos)) H R)
  (hascii : ∀ h : pos < a.size, (a[pos]'h).toNat < 128)
  (k1 : ∀ h : pos < a.size, WL P n w0 ops rest Q ((d, .tuple #[.bool true, .int .i64 (pos : Int), .int .i32 ((a[pos]'h).toNat : Int)]) :: s) (.obj g (.stringIter a (pos + 1)) :: R))
  (k2 : a.size ≤ pos → WL P n w0 ops rest Q ((d, .tuple #[.bool false]) :: s) (.obj g (.stringIter a pos) :: R)) :
  WL P n w0 ops (⟨some d, .next x true, ty, p, af, none⟩ :: rest) Q s H := by
 intro st w hs hm
 have hm' := hm.sel hsel
 have hb := (hm'.on _ List.mem_cons_self).1
 simp only [Blk.on] at hb
 refine wpList_plain rfl fun K hK => ?_
 by_cases h : pos < a.size
 ·
  have hr : (Instr.next (.pointer (some ⟨g, 0, none⟩)) true ty).run P w = .ok (.tuple #[.bool true, .int .i64 (pos : Int), .int .i32 ((a[pos]'h).toNat : Int)]) { w with heap := w.heap.setIfInBounds g (.stringIter a (pos + 1)) } := by
   simp only [Instr.next, getObj, setObj, Sem.run_bind, Sem.run, hb, Result.andThen, h, if_true, decode_ascii a pos h (hascii h)]
   simp [goInt]
  unfold Oper.wp execOp
  simp only [Sem.run_bind, hs.eval x _ hx, hr, Result.andThen_ok, Sem.run_pure, Oper.upon]
  refine hK _ _ (k1 h _ _ (hs.put (Nat.blt_eq ▸ hn) _) (hm'.upd ⟨rfl, rfl, rfl, by simp, fun k _ hk => ?_⟩ ?_ fun k hk => .inl hk))
  ·
   have hne : g ≠ k := fun e => hk (by rw [← e]; rfl)
   simp [Array.getElem?_setIfInBounds_ne hne]
  ·
   simp only [Blk.on]
   have : g < w.heap.size := (Array.getElem?_eq_some_iff.1 hb).1
   simp [this]
 ·
  have hr : (Instr.next (.pointer (some ⟨g, 0, none⟩)) true ty).run P w = .ok (.tuple #[.bool false]) w := by
   simp [Instr.next, getObj, Sem.run, hb, h]
  unfold Oper.wp execOp
  simp only [Sem.run_bind, hs.eval x _ hx, hr, Result.andThen_ok, Sem.run_pure, Oper.upon]
  exact hK _ _ (k2 (by omega) _ _ (hs.put (Nat.blt_eq ▸ hn) _) hm')
end
section
variable {P : Program} {ops : Array Oper} {md : Region.Mode} {C : Array Bool → World → Prop}
def GivesUp (P : Program) (D : World → Prop) (v : Value) : Result Next → Prop
 | .ok (.value u) w' => u = v ∧ D w'
 | .ok .skip w' => v = undef ∧ D w'
 | .ok (.enter f args) w' => Calls P f args w' fun e w'' => e = .returned v ∧ D w''
 | _ => False
def Gives (P : Program) (md : Region.Mode) (ops : Array Oper) (C : Array Bool → World → Prop) (i : Nat) (o : Oper) (v : Value) (a : Act) : Prop :=
 (Region.wanted o (yielded ops a.tmps) = true ∧ ∀ L w, i ∈ Region.ready md ops L → C L w → GivesUp P (C (L.setIfInBounds i true)) v ((execOp a.eval o).run P w)) ∨
 (Region.wanted o (yielded ops a.tmps) = false ∧ v = undef ∧ ∀ L w, i ∈ Region.ready md ops L → C L w → C (L.setIfInBounds i true) w)
theorem Gives.of_same {i : Nat} {o : Oper} {v : Value} {a a' : Act} (hy : Gives P md ops C i o v a) (he : execOp a'.eval o = execOp a.eval o)
  (hw : Region.wanted o (yielded ops a'.tmps) = Region.wanted o (yielded ops a.tmps)) : Gives P md ops C i o v a' := by
 unfold Gives at *
 rw [he, hw]
 exact hy
def gOp (P : Program) (md : Region.Mode) (ops : Array Oper) (C : Array Bool → World → Prop) (i : Nat) (K : Act → Prop) (a : Act) : Prop :=
 ∃ o v, ops[i]? = some o ∧ Gives P md ops C i o v a ∧ K (a.put o.dst v)
def AnyG (P : Program) (md : Region.Mode) (ops : Array Oper) (C : Array Bool → World → Prop) (Q : Array Bool → Act → Prop) : Nat → Array Bool → Act → Prop
 | 0, L, a => Region.ready md ops L = [] ∧ Q L a
 | f + 1, L, a => (Region.ready md ops L = [] → Q L a) ∧ ∀ i ∈ Region.ready md ops L, gOp P md ops C i (AnyG P md ops C Q f (L.setIfInBounds i true)) a
theorem wpAny_of_AnyG {Q : Array Bool → Act → Prop} {Q' : Exit → Act → World → Prop} (hQ : ∀ L a w, Region.ready md ops L = [] → C L w → Q L a → Q' .normal a w) : ∀ (f : Nat) (L : Array Bool) (a : Act) (w : World), C L w →
  AnyG P md ops C Q f L a → wpAny P md ops Q' f L a w
 | 0, L, a, w, hC, h => ⟨h.1, hQ L a w h.1 hC h.2⟩
 | f + 1, L, a, w, hC, h => ⟨fun h0 => hQ L a w h0 hC (h.1 h0), fun i hi => by
   obtain ⟨o, v, ho, hg, hk⟩ := h.2 i hi
   unfold wpOp
   simp only [ho]
   rcases hg with ⟨hw, hg⟩ | ⟨hw, rfl, hg⟩
   ·
    simp only [hw, if_true]
    refine .inl ?_
    have h1 := hg L w hi hC
    unfold Oper.wp
    generalize (execOp a.eval o).run P w = r at h1 ⊢
    cases r with
    | ok x w' =>
     cases x <;> simp only [GivesUp] at h1 <;> simp only [Oper.upon]
     case value u => obtain ⟨rfl, h2⟩ := h1; exact wpAny_of_AnyG hQ f _ _ _ h2 hk
     case skip => obtain ⟨rfl, h2⟩ := h1; exact wpAny_of_AnyG hQ f _ _ _ h2 hk
     case enter g args => exact h1.mono fun e w'' ⟨he, h2⟩ => by subst he; exact wpAny_of_AnyG hQ f _ _ _ h2 hk
    | halt x w' => simp only [GivesUp] at h1
   ·
    simp only [hw, Bool.false_eq_true, if_false]
    exact wpAny_of_AnyG hQ f _ _ _ (hg L w hi hC) hk⟩
theorem gOp_mono {i : Nat} {a : Act} {K K' : Act → Prop} (h : ∀ a, K a → K' a) (hh : gOp P md ops C i K a) : gOp P md ops C i K' a :=
 let ⟨o, v, h1, h2, h3⟩ := hh
 ⟨o, v, h1, h2, h _ h3⟩
theorem gOp_put {i j : Nat} {oi oj : Oper} {v : Value} (hj : ops[j]? = some oj) (hap : oi.apart ops oj = true)
  (hsi : ∀ cs b, oi.op ≠ .select cs b) (hsj : ∀ cs b, oj.op ≠ .select cs b) {K : Act → Prop} {a : Act}
  (hy : Gives P md ops C i oi v a) (h : gOp P md ops C j K (a.put oi.dst v)) :
  gOp P md ops C j (fun a' => Gives P md ops C i oi v a' ∧ K (a'.put oi.dst v)) a := by
 obtain ⟨h1, h2, h3⟩ := Oper.apart_spec hap
 obtain ⟨o, u, ho, hg, hk⟩ := h
 have e : o = oj := Option.some.inj (ho.symm.trans hj)
 subst e
 refine ⟨o, u, ho, hg.of_same (execOp_put o hsj a oi.dst v h1).symm (wanted_put o a oi.dst v h1).symm, hy.of_same (execOp_put oi hsi a o.dst u h3) (wanted_put oi a o.dst u h3), ?_⟩
 rw [← Act.put_comm a v u h2]
 exact hk
theorem AnyG_first {Q : Array Bool → Act → Prop} {i : Nat} {oi : Oper} {v : Value} (hi : ops[i]? = some oi) (hsel : ∀ (j : Nat) (o : Oper) cs b, ops[j]? = some o → o.op ≠ .select cs b) :
  ∀ (f : Nat) (L : Array Bool) (a : Act),
   (∀ j oj, ops[j]? = some oj → j ≠ i → L.getD j true = false → (∀ e ∈ oj.after, Region.binds md e = true → e.on ≠ i) → oi.apart ops oj = true) →
   i ∈ Region.ready md ops L → Gives P md ops C i oi v a → AnyG P md ops C Q f (L.setIfInBounds i true) (a.put oi.dst v) → AnyG P md ops C Q (f + 1) L a
 | 0, L, a, _, hr, hy, H => ⟨fun h => (by rw [h] at hr; cases hr), fun j hj => by
   by_cases hji : j = i
   ·
    subst hji; exact ⟨oi, v, hi, hy, H⟩
   ·
    have := ready_mono hj hji
    rw [H.1] at this
    cases this⟩
 | f + 1, L, a, hfree, hr, hy, H => ⟨fun h => (by rw [h] at hr; cases hr), fun j hj => by
   by_cases hji : j = i
   ·
    subst hji; exact ⟨oi, v, hi, hy, H⟩
   ·
    have h1 := H.2 j (ready_mono hj hji)
    obtain ⟨hjun, oj, hoj, hall⟩ := mem_ready.1 hj
    have hnot : ∀ e ∈ oj.after, Region.binds md e = true → e.on ≠ i := fun e he hb heq => by
     have h1 := hall e he hb
     have h0 := (mem_ready.1 hr).1
     rw [heq] at h1
     rcases Nat.lt_or_ge i L.size with h' | h'
     ·
      simp [h'] at h0 h1; rw [h0] at h1; cases h1
     ·
      simp [Array.getElem?_eq_none h'] at h1
    have h2 := gOp_put hoj (hfree j oj hoj hji hjun hnot) (fun cs b => hsel i oi cs b hi) (fun cs b => hsel j oj cs b hoj) hy h1
    have hfree' : ∀ k ok, ops[k]? = some ok → k ≠ i → (L.setIfInBounds j true).getD k true = false →
      (∀ e ∈ ok.after, Region.binds md e = true → e.on ≠ i) → oi.apart ops ok = true := fun k ok hk hki hun hno => by
     refine hfree k ok hk hki ?_ hno
     by_cases hjk : j = k
     ·
      subst hjk; exact hjun
     ·
      rw [getD_set_ne true hjk] at hun; exact hun
    refine gOp_mono (fun a' h3 => AnyG_first hi hsel f (L.setIfInBounds j true) a' hfree' (ready_mono hr (Ne.symm hji)) h3.1 ?_) h2
    rw [Array.setIfInBounds_comm _ _ hji]
    exact h3.2⟩
def wpG (P : Program) (md : Region.Mode) (ops : Array Oper) (C : Array Bool → World → Prop) (Q : Act → Prop) : List Oper → Nat → Act → Prop
 | [], _, a => Q a
 | o :: r, k, a => ∃ v, Gives P md ops C k o v a ∧ wpG P md ops C Q r (k + 1) (a.put o.dst v)
theorem AnyG_lex {Q : Act → Prop} (hs : Region.noSelect ops = true) : ∀ (l : List Oper) (k : Nat) (L : Array Bool) (a : Act), (∀ j, l[j]? = ops[k + j]?) →
  Region.lexFrom md ops l.length k L = true → wpG P md ops C Q l k a → AnyG P md ops C (fun _ a => Q a) l.length L a
 | [], _, _, _, _, hB, h => ⟨by simpa [Region.lexFrom] using hB, h⟩
 | o :: l, k, L, a, hl, hB, h => by
  have h0 : ops[k]? = some o := by simpa using (hl 0).symm
  simp only [List.length_cons, Region.lexFrom, Bool.and_eq_true] at hB
  obtain ⟨⟨hr, hf⟩, hB'⟩ := hB
  obtain ⟨v, hy, hK⟩ := h
  exact AnyG_first h0 (Region.noSelect_spec hs) l.length L a (Region.free_spec h0 hf) (by simpa using hr) hy
   (AnyG_lex hs l (k + 1) _ _ (fun j => by have := hl (j + 1); simpa [Nat.add_assoc, Nat.add_comm 1 j] using this) hB' hK)
theorem wp_region_G {id : Nat} {Q : Exit → Act → World → Prop} {a : Act} {w : World} (hm : P.follows .mixedOrders = true) (hB : Region.lexB .any ops = true) (hC : C (Array.replicate ops.size false) { w with drawn := w.drawn + 1 })
  (h : wpG P .any ops C (fun a' => ∀ L w', Region.ready .any ops L = [] → C L w' → Q .normal a' w') ops.toList 0 a) : (Code.region id ops true).wp P Q a w := by
 simp only [Region.lexB, Bool.and_eq_true] at hB
 refine wp_region_any hm (wpAny_of_AnyG (Q := fun _ a' => ∀ L w', Region.ready .any ops L = [] → C L w' → Q .normal a' w') (fun L a' w' hr hw' h => h L w' hr hw') _ _ _ _ hC ?_)
 have := AnyG_lex (C := C) (md := .any) hB.1 ops.toList 0 (Array.replicate ops.size false) a (by simp) (by simpa using hB.2) h
 simpa using this
end
abbrev Done := Nat → Bool
def done (L : Array Bool) : Done := fun i => L.getD i false
section
variable {P : Program} {n : Fr} {w0 : World} {Q : Post} {s : Slots} {H : List Blk} {l rest : List Oper} {ty : TypeId} {p : String} {af : Array Edge}
def Cls (w0 : World) (l : List Oper) (HL : Done → List Blk) (L : Array Bool) (w : World) : Prop :=
 L.size = l.length ∧ (∀ i o, l[i]? = some o → done L i = true → ∀ e ∈ o.after, Region.binds .any e = true → done L e.on = true) ∧ Mem w0 w (HL (done L))
def waits (o : Oper) : List Nat := o.after.toList.filterMap fun e => if Region.binds .any e then some e.on else none
structure Turn (l : List Oper) (k : Nat) (o : Oper) (D : Done) : Prop where
 not : D k = false
 before : ∀ i ∈ waits o, D i = true
 closed : ∀ i x, l[i]? = some x → D i = true → ∀ j ∈ waits x, D j = true
def put (D : Done) (k : Nat) : Done := fun i => if i = k then true else D i
def WG (P : Program) (n : Fr) (w0 : World) (l : List Oper) (HL : Done → List Blk) (K : Slots → Prop) (rest : List Oper) (k : Nat) (s : Slots) : Prop :=
 ∀ a, St n s a → (∀ j, rest[j]? = l[k + j]?) → wpG P .any l.toArray (Cls w0 l HL) (fun a' => ∃ s', St n s' a' ∧ K s') rest k a
theorem waits_mem {o : Oper} {i : Nat} : i ∈ waits o ↔ ∃ e ∈ o.after, Region.binds .any e = true ∧ e.on = i := by
 unfold waits
 rw [List.mem_filterMap]
 constructor
 ·
  rintro ⟨e, he, h⟩
  split at h
  ·
   rename_i hb
   injection h with h
   exact ⟨e, by simpa using he, hb, h⟩
  ·
   cases h
 ·
  rintro ⟨e, he, hb, h⟩
  exact ⟨e, by simpa using he, by simp [hb, h]⟩
theorem turn_of {HL : Done → List Blk} {k : Nat} {o : Oper} {L : Array Bool} {w : World} (hk : l[k]? = some o) (hr : k ∈ Region.ready .any l.toArray L) (hc : Cls w0 l HL L w) : Turn l k o (done L) ∧ done (L.setIfInBounds k true) = put (done L) k ∧ (∀ w', Mem w0 w' (HL (put (done L) k)) → Cls w0 l HL (L.setIfInBounds k true) w') := by
 obtain ⟨hsz, hcl, _⟩ := hc
 obtain ⟨h0, o', ho', hall⟩ := mem_ready.1 hr
 have e : o' = o := by
  rw [List.getElem?_toArray, hk] at ho'
  exact (Option.some.inj ho').symm
 subst e
 have hlt : k < L.size := by rw [hsz]; exact (List.getElem?_eq_some_iff.1 hk).1
 have hd : done (L.setIfInBounds k true) = put (done L) k := by
  funext i
  unfold done put
  by_cases hik : i = k
  ·
   subst hik; simp [hlt]
  ·
   rw [if_neg hik, getD_set_ne false (Ne.symm hik)]
 have hcl' : ∀ i x, l[i]? = some x → done L i = true → ∀ j ∈ waits x, done L j = true := fun i x hx hi j hj => by
  obtain ⟨e, he, hb, rfl⟩ := waits_mem.1 hj
  exact hcl i x hx hi e he hb
 refine ⟨⟨?_, fun i hi => ?_, hcl'⟩, hd, fun w' hm => ⟨by simpa using hsz, fun i x hx hi e he hb => ?_, hd ▸ hm⟩⟩
 ·
  unfold done; simp [hlt] at h0 ⊢; exact h0
 ·
  obtain ⟨e, he, hb, rfl⟩ := waits_mem.1 hi
  exact hall e he hb
 ·
  rw [hd] at hi ⊢
  by_cases hik : i = k
  ·
   subst hik
   rw [hk] at hx
   injection hx with hx
   subst hx
   have h1 := hall e he hb
   unfold put
   split
   ·
    rfl
   ·
    exact h1
  ·
   have hi' : done L i = true := by unfold put at hi; rwa [if_neg hik] at hi
   have := hcl i x hx hi' e he hb
   unfold put
   split
   ·
    rfl
   ·
    exact this
theorem w_drawG {id : Nat} (HL : Done → List Blk) (hm : P.follows .mixedOrders = true) (hB : Region.lexB .any l.toArray = true) (h0 : MSub (HL fun _ => false) H)
  (h : WG P n w0 l HL (fun s' => ∀ D : Done, (∀ i, i < l.length → D i = true) → Q .normal s' (HL D)) l 0 s) : W P n w0 (.region id l.toArray true) Q s H := by
 intro a w hs hmem
 have hrep : done (Array.replicate l.toArray.size false) = fun _ => false := by
  funext i
  unfold done
  rw [Array.getD_eq_getD_getElem?, Array.getElem?_replicate]
  split <;> rfl
 refine wp_region_G (C := Cls w0 l HL) hm hB ⟨by simp, fun i o _ hi => (by rw [hrep] at hi; cases hi), by rw [hrep]; exact h0.use hmem.drew⟩ ?_
 have h1 := h a hs (by simp)
 have mono : ∀ (r : List Oper) (k : Nat) (a : Act) (K K' : Act → Prop), (∀ a, K a → K' a) → wpG P .any l.toArray (Cls w0 l HL) K r k a → wpG P .any l.toArray (Cls w0 l HL) K' r k a := by
  intro r
  induction r with
  | nil => intro k a K K' hk h; exact hk _ h
  | cons o r ih =>
   rintro k a K K' hk ⟨v, h1, h2⟩
   exact ⟨v, h1, ih _ _ K K' hk h2⟩
 simp only [List.toList_toArray]
 refine mono _ _ _ _ _ ?_ h1
 rintro a' ⟨s', h2, h3⟩ L w' hr ⟨hsz, hcl, hmem'⟩
 refine ⟨s', HL (done L), h2, hmem', h3 _ fun i hi => ?_⟩
 -- nothing is ready: all is done
 have all : ∀ i, i < l.length → done L i = true := by
  intro i
  induction i using Nat.strongRecOn with
  | _ i ih =>
   intro hi
   cases hd : done L i with
   | true => rfl
   | false =>
    exfalso
    have hlx : ∀ (f k : Nat) (L0 : Array Bool), Region.lexFrom .any l.toArray f k L0 = true → ∀ j o, k ≤ j → j < k + f → l[j]? = some o → ∀ x ∈ waits o, L0.getD x false = true ∨ (k ≤ x ∧ x < j) := by
     intro f
     induction f with
     | zero => intro k L0 _ j o h1 h2; omega
     | succ f ihf =>
      intro k L0 hlex j o h1 h2 ho x hx
      simp only [Region.lexFrom, Bool.and_eq_true] at hlex
      obtain ⟨⟨hrk, _⟩, hrest⟩ := hlex
      by_cases hjk : j = k
      ·
       subst hjk
       obtain ⟨_, o', ho', hall⟩ := mem_ready.1 (by simpa using hrk : j ∈ Region.ready .any l.toArray L0)
       rw [List.getElem?_toArray, ho] at ho'
       injection ho' with ho'
       subst ho'
       obtain ⟨e, he, hb, rfl⟩ := waits_mem.1 hx
       exact .inl (hall e he hb)
      ·
       rcases ihf (k + 1) _ hrest j o (by omega) (by omega) ho x hx with h | ⟨h3, h4⟩
       ·
        by_cases hxk : k = x
        ·
         subst hxk; right; omega
        ·
         rw [getD_set_ne false hxk] at h; exact .inl h
       ·
        right; omega
    simp only [Region.lexB, Bool.and_eq_true] at hB
    obtain ⟨o, ho⟩ : ∃ o, l[i]? = some o := ⟨_, List.getElem?_eq_getElem hi⟩
    have hmem : i ∈ Region.ready .any l.toArray L := by
     refine mem_ready.2 ⟨?_, o, by simpa using ho, fun e he hb => ?_⟩
     ·
      have : i < L.size := by omega
      unfold done at hd
      simp [this] at hd ⊢; exact hd
     ·
      have hx := hlx l.toArray.size 0 _ hB.2 i o (Nat.zero_le _) (by simpa using hi) ho e.on (waits_mem.2 ⟨e, he, hb, rfl⟩)
      rcases hx with h | ⟨_, h⟩
      ·
       have : (done (Array.replicate l.toArray.size false)) e.on = true := h
       rw [hrep] at this; cases this
      ·
       exact ih e.on h (by omega)
    rw [hr] at hmem
    cases hmem
 exact all i hi
variable {HL : Done → List Blk} {K : Slots → Prop} {k : Nat}
theorem wg_nil (h : K s) : WG P n w0 l HL K [] k s := fun _ hs _ => ⟨s, hs, h⟩
theorem wg_v {op : Op} {d : Nat} {v : Value} (hn : Nat.blt d n.sz = true) (hv : ∀ D, Turn l k ⟨some d, op, ty, p, af, none⟩ D → VOp P w0 s (HL D) op ty v) (hk : ∀ D, HL (put D k) = HL D) (h : WG P n w0 l HL K rest (k + 1) ((d, v) :: s)) :
  WG P n w0 l HL K (⟨some d, op, ty, p, af, none⟩ :: rest) k s := by
 intro a hs hl
 have h0 : l[k]? = some ⟨some d, op, ty, p, af, none⟩ := by simpa using (hl 0).symm
 refine ⟨v, .inl ⟨rfl, fun L w hr hc => ?_⟩, h _ (hs.put (Nat.blt_eq ▸ hn) v) fun j => by have := hl (j + 1); simpa [Nat.add_assoc, Nat.add_comm 1 j] using this⟩
 obtain ⟨ht, hd, hnext⟩ := turn_of h0 hr hc
 rw [hv _ ht a.eval w _ _ _ _ hs.eval hc.2.2]
 exact ⟨rfl, hnext w (by rw [hk]; exact hc.2.2)⟩
theorem wg_callp {d : Nat} {f : FuncId} {xs : List Operand} {vs : List Value} {v : Value} {ts : Array TypeId} [Callable P f] (hn : Nat.blt d n.sz = true) (hx : evs s xs = some vs)
  (hF : ∀ D, Turn l k ⟨some d, .call { callee := .value (.func f), args := xs.toArray, argTypes := ts }, ty, p, af, none⟩ D → ∀ w, Mem w0 w (HL D) → Pure P f vs w v) (hk : ∀ D, HL (put D k) = HL D) (h : WG P n w0 l HL K rest (k + 1) ((d, v) :: s)) :
  WG P n w0 l HL K (⟨some d, .call { callee := .value (.func f), args := xs.toArray, argTypes := ts }, ty, p, af, none⟩ :: rest) k s := by
 intro a hs hl
 have h0 := (hl 0).symm
 simp only [Nat.add_zero, List.getElem?_cons_zero] at h0
 refine ⟨v, .inl ⟨rfl, fun L w hr hc => ?_⟩, h _ (hs.put (Nat.blt_eq ▸ hn) v) fun j => by have := hl (j + 1); simpa [Nat.add_assoc, Nat.add_comm 1 j] using this⟩
 obtain ⟨ht, hd, hnext⟩ := turn_of h0 hr hc
 have hrun := run_call (P := P) (w := w) (ρ := a.eval) (d := some d) (ty := ty) (p := p) (af := af) (g := none) (f := f) (c := .func f) (xs := xs) (caps := []) (ts := ts) rfl (evs_map hs hx)
 rw [List.append_nil] at hrun
 rw [hrun]
 refine Calls.mono (hF _ ht w hc.2.2) ?_
 rintro e w' ⟨u, H', rfl, hm', rfl⟩
 exact ⟨rfl, hnext w' (by rw [hk]; exact (hc.2.2.call hm').right)⟩
theorem wg_heap {op : Op} (hv : ∀ D, Turn l k ⟨none, op, ty, p, af, none⟩ D → ∀ a w, St n s a → Mem w0 w (HL D) → ∃ w', (execOp a.eval ⟨none, op, ty, p, af, none⟩).run P w = .ok .skip w' ∧ Mem w0 w' (HL (put D k))) (h : WG P n w0 l HL K rest (k + 1) s) :
  WG P n w0 l HL K (⟨none, op, ty, p, af, none⟩ :: rest) k s := by
 intro a hs hl
 have h0 : l[k]? = some ⟨none, op, ty, p, af, none⟩ := by simpa using (hl 0).symm
 refine ⟨undef, .inl ⟨rfl, fun L w hr hc => ?_⟩, h _ (hs.put_none _) fun j => by have := hl (j + 1); simpa [Nat.add_assoc, Nat.add_comm 1 j] using this⟩
 obtain ⟨ht, hd, hnext⟩ := turn_of h0 hr hc
 obtain ⟨w', hr', hm'⟩ := hv _ ht a w hs hc.2.2
 rw [hr']
 exact ⟨rfl, hnext w' hm'⟩
theorem wg_put {t T g off m : Nat} {x a : Operand} {v : Value} {vs : List Value} [Size P t m] (xs : Done → List Value) (R : Done → List Blk) (ha : ev s a = some (.pointer (some ⟨g, off, none⟩))) (hx : ev s x = some v)
  (hsel : ∀ D, Sel (.box g T (xs D)) (HL D) (R D)) (hv : v.cells = vs.toArray) (hl : vs.length = m) (h1 : vs.all Value.oneCell' = true) (hfit : ∀ D, off + m ≤ (xs D).length)
  (hnew : ∀ D, Turn l k ⟨none, .store t a x, ty, p, af, none⟩ D → MSub (HL (put D k)) (.box g T ((xs D).take off ++ vs ++ (xs D).drop (off + m)) :: R D)) (h : WG P n w0 l HL K rest (k + 1) s) :
  WG P n w0 l HL K (⟨none, .store t a x, ty, p, af, none⟩ :: rest) k s := by
 refine wg_heap (fun D ht a' w hs hm => ?_) h
 have hm' := hm.sel (hsel D)
 have hb := (hm'.on _ List.mem_cons_self).1
 simp only [Blk.on] at hb
 have h1' : ∀ u ∈ vs, u.oneCell' = true := by simpa using h1
 have hr := run_storeVar (P := P) (t := t) (off := off) hv hl h1' hb (by simpa using hfit D)
 simp only at hr
 refine ⟨_, ?_, (hnew D ht).use (hm'.upd (setRow_grown _ _ _) (b' := .box g T ((xs D).take off ++ vs ++ (xs D).drop (off + m))) (setRow_heap _ _ _ _ _ _ hb) fun k hk => .inl hk)⟩
 simp [execOp, hs.eval a _ ha, hs.eval x _ hx, Instr.storeAt, Instr.sureAddr, hr]
theorem res_cell {w : World} {t T T' g m : Nat} {xs : List Value} {a : Act} [Agg P T m] (hs : St n s a) (hm : Mem w0 w H) (ht : look s t = some (.pointer (some ⟨g, 0, none⟩))) (hi : In (.box g T' xs) H) (hl : Nat.beq xs.length m = true) :
  (do let b ← asAddr (a.tmps.getD t undef); loadVar T b).run P w = .ok (.agg xs.toArray) w := by
 have h1 := hs.has t _ ht
 have h2 := run_load_agg (P := P) (t := T) (Nat.eq_of_beq_eq_true hl) (hm.cells_box hi)
 simp [Array.getD_eq_getD_getElem?, h1, asAddr, h2]
section res
variable {fn : Func} {R : Value → List Blk → Prop} {e : Exit} {t u T U T' U' g h m q : Nat} {xs ys : List Value} {v : Value}
theorem retc (he : e = .ret ∨ e = .normal) (hr : fn.results = #[.cell t T]) [Agg P T m] (ht : look s t = some (.pointer (some ⟨g, 0, none⟩))) (hi : In (.box g T' xs) H) (hl : Nat.beq xs.length m = true) {H' : List Blk} (hs : MSub H' H) (hR : R (.agg xs.toArray) H') : retP P fn n w0 R e s H :=
 ⟨he, _, H', hs, fun a w hst hm => by
  have h1 := res_cell (P := P) (T := T) hst hm ht hi hl
  simp only [results, hr]
  simp only [List.mapM_toArray, List.mapM_cons, List.mapM_nil, Sem.run_bind, Sem.run_map] at h1 ⊢
  simp only [h1, Result.andThen_ok, Sem.run_pure]
  rfl, hR⟩
theorem retct (he : e = .ret ∨ e = .normal) (hr : fn.results = #[.cell t T, .tmp u]) [Agg P T m] (ht : look s t = some (.pointer (some ⟨g, 0, none⟩))) (hi : In (.box g T' xs) H) (hl : Nat.beq xs.length m = true) (hu : look s u = some v) {H' : List Blk} (hs : MSub H' H) (hR : R (.tuple #[.agg xs.toArray, v]) H') : retP P fn n w0 R e s H :=
 ⟨he, _, H', hs, fun a w hst hm => by
  have h1 := res_cell (P := P) (T := T) hst hm ht hi hl
  have h2 : a.tmps.getD u undef = v := by simp [Array.getD_eq_getD_getElem?, hst.has u _ hu]
  simp only [results, hr]
  simp only [List.mapM_toArray, List.mapM_cons, List.mapM_nil, Sem.run_bind, Sem.run_map] at h1 ⊢
  simp only [h1, Result.andThen_ok, Sem.run_pure, h2]
  rfl, hR⟩
theorem retcc (he : e = .ret ∨ e = .normal) (hr : fn.results = #[.cell t T, .cell u U]) [Agg P T m] [Agg P U q] (ht : look s t = some (.pointer (some ⟨g, 0, none⟩))) (hi : In (.box g T' xs) H) (hl : Nat.beq xs.length m = true) (hu : look s u = some (.pointer (some ⟨h, 0, none⟩))) (hi' : In (.box h U' ys) H) (hl' : Nat.beq ys.length q = true) {H' : List Blk} (hs : MSub H' H) (hR : R (.tuple #[.agg xs.toArray, .agg ys.toArray]) H') : retP P fn n w0 R e s H :=
 ⟨he, _, H', hs, fun a w hst hm => by
  have h1 := res_cell (P := P) (T := T) hst hm ht hi hl
  have h2 := res_cell (P := P) (T := U) hst hm hu hi' hl'
  simp only [results, hr]
  simp only [List.mapM_toArray, List.mapM_cons, List.mapM_nil, Sem.run_bind, Sem.run_map] at h1 h2 ⊢
  simp only [h1, h2, Result.andThen_ok, Sem.run_pure]
  rfl, hR⟩
end res
theorem wl_callvp {d : Nat} {ops : Array Oper} {f : FuncId} {c : Operand} {xs : List Operand} {vs caps : List Value} {v : Value} {ts : Array TypeId} (hn : Nat.blt d n.sz = true) (hc : ev s c = some (.func (.func f) #[] caps.toArray)) (hfc : Callable P f) (hx : evs s xs = some vs)
  (hF : ∀ w, Mem w0 w H → Pure P f (vs ++ caps) w v) (k : WL P n w0 ops rest Q ((d, v) :: s) H) :
  WL P n w0 ops (⟨some d, .call { callee := .value c, args := xs.toArray, argTypes := ts }, ty, p, af, none⟩ :: rest) Q s H :=
 wl_callv hn hc hfc hx (FnIn.of_at hF) fun u H' ⟨H1, h1, h2⟩ => by
  subst h1; subst h2
  exact wl_msub ⟨H1, List.perm_append_comm⟩ k
theorem w_drawB {id T g : Nat} {xs xs' : List Value} {R : List Blk} (f : Done → List Value) (hm : P.follows .mixedOrders = true) (hB : Region.lexB .any l.toArray = true) (hsel : Sel (.box g T xs) H R) (h0 : f (fun _ => false) = xs)
  (h1 : ∀ D : Done, (∀ i, i < l.length → D i = true) → f D = xs') (h : WG P n w0 l (fun D => .box g T (f D) :: R) (fun s' => Q .normal s' (.box g T xs' :: R)) l 0 s) : W P n w0 (.region id l.toArray true) Q s H := by
 subst h0
 refine w_drawG (fun D => .box g T (f D) :: R) hm hB ⟨[], by simpa using hsel.perm⟩ fun a hs hl => ?_
 have mono : ∀ (r : List Oper) (k : Nat) (a : Act) (K K' : Act → Prop), (∀ a, K a → K' a) → wpG P .any l.toArray (Cls w0 l fun D => .box g T (f D) :: R) K r k a → wpG P .any l.toArray (Cls w0 l fun D => .box g T (f D) :: R) K' r k a := by
  intro r
  induction r with
  | nil => intro k a K K' hk h; exact hk _ h
  | cons o r ih =>
   rintro k a K K' hk ⟨v, h1, h2⟩
   exact ⟨v, h1, ih _ _ K K' hk h2⟩
 refine mono _ _ _ _ _ ?_ (h a hs hl)
 rintro a' ⟨s', h2, h3⟩
 exact ⟨s', h2, fun D hD => by rw [h1 D hD]; exact h3⟩
end
end Go.SL

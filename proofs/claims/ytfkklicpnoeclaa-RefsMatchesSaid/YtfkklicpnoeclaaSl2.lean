/-
  The rules of the judgement W, operation by operation: operations that only yield a value; stores, new blocks, append; calls; entering a function and leaving it.
-/
import Derived.Test.YtfkklicpnoeclaaSl1
namespace Go.SL
open Go Go.RowKit

/-! ### Operations that yield a value and leave the world alone -/

/-- In every world in which H is owned the operation yields v. -/
def VOp (P : Program) (w0 : World) (s : Slots) (H : List Blk) (op : Op) (ty : TypeId) (v : Value) : Prop :=
  ∀ (ρ : Operand → Value) (w : World) (d : Option Tmp) (p : String) (af : Array Edge) (g : Option (Nat × Bool)),
    (∀ x u, ev s x = some u → ρ x = u) → Mem w0 w H → (execOp ρ ⟨d, op, ty, p, af, g⟩).run P w = .ok (.value v) w

section
variable {P : Program} {n : Fr} {w0 : World} {Q : Post} {s : Slots} {H : List Blk} {ops : Array Oper} {rest : List Oper} {ty : TypeId} {p : String} {af : Array Edge}

theorem wl_nil (h : Q .normal s H) : WL P n w0 ops [] Q s H := fun _ _ hs hm => wpList_nil ⟨s, H, hs, hm, h⟩

theorem w_region {id : Nat} {l : List Oper} (h : WL P n w0 l.toArray l Q s H) : W P n w0 (.region id l.toArray false) Q s H :=
  fun a w hs hm => wp_region_lit (h a w hs hm)

theorem wl_exec {o : Oper} {v : Value} (hg : Region.wanted o = fun _ => true) (d : Nat) (hd : o.dst = some d) (hn : Nat.blt d n.sz = true)
    (h : ∀ a w, St n s a → Mem w0 w H → (execOp a.eval o).run P w = .ok (.value v) w)
    (k : WL P n w0 ops rest Q ((d, v) :: s) H) : WL P n w0 ops (o :: rest) Q s H := by
  intro a w hs hm
  refine wpList_step fun K hK => ?_
  rw [hg, if_pos rfl]
  simp only [Oper.wp, h a w hs hm, Oper.upon, hd]
  exact hK _ _ (k _ _ (hs.put (Nat.blt_eq ▸ hn) v) hm)

theorem wl_v {op : Op} {d : Nat} {v : Value} (hn : Nat.blt d n.sz = true) (hv : VOp P w0 s H op ty v) (k : WL P n w0 ops rest Q ((d, v) :: s) H) :
    WL P n w0 ops (⟨some d, op, ty, p, af, none⟩ :: rest) Q s H :=
  wl_exec rfl d rfl hn (fun _ _ hs hm => hv _ _ _ _ _ _ hs.eval hm) k


/-! ### Facts on the program's types, found by the instance search -/

class One (P : Program) (t : TypeId) : Prop where
  out : ∃ d, P.underlying t = some d ∧ (match d with | .struct _ | .array _ _ => false | _ => true) = true
class Agg (P : Program) (t : TypeId) (m : outParam Nat) : Prop where
  out : ∃ d i, P.underlying t = some d ∧ (match d with | .struct _ | .array _ _ => true | _ => false) = true ∧ P.info? t = some i ∧ i.size = m
class Size (P : Program) (t : TypeId) (m : outParam Nat) : Prop where
  out : ∃ i, P.info? t = some i ∧ i.size = m
class Und (P : Program) (t : TypeId) (d : outParam TypeDesc) : Prop where
  out : P.underlying t = some d
/-- Field f of the struct type t: its offset. -/
class Fld (P : Program) (t : TypeId) (f : Nat) (o : outParam Nat) : Prop where
  out : ∃ fs fl i, P.underlying t = some (.struct fs) ∧ fs[f]? = some fl ∧ fl.offset = o ∧ P.info? fl.type = some i ∧ i.size ≠ 0
/-- The zero value's cells, the bytes and cells of one. -/
class Zero (P : Program) (t : TypeId) (z : outParam Value) : Prop where
  out : ∃ i, P.info? t = some i ∧ i.zero = some z
class Elem (P : Program) (t : TypeId) (size bytes : outParam Nat) : Prop where
  out : ∃ i z, P.info? t = some i ∧ i.size = size ∧ i.bytes = bytes ∧ i.zero = some z ∧ z.cells.size = size ∧ 0 < size
class Callable (P : Program) (f : FuncId) : Prop where
  out : ∀ args w, (callFunc f args).run P w = .ok (.enter f args) w

theorem callable_of {f : FuncId} {fn : Func} (h : P.funcs[f]? = some fn) (hn : (fn.name == "runtime.NumGoroutine") = false) (hb : fn.body.isNone = false) : Callable P f :=
  ⟨fun args w => by
    have hb' : fn.body ≠ none := by intro e; simp [e] at hb
    have hn' : fn.name ≠ "runtime.NumGoroutine" := by simpa using hn
    simp [callFunc, h, hn', hb']⟩

theorem v_move {x : Operand} {v : Value} (hx : ev s x = some v) : VOp P w0 s H (.move x) ty v := fun ρ w _ _ _ _ hρ _ => by
  simp [execOp, hρ x v hx]
theorem v_assign {x : Operand} {v : Value} (hx : ev s x = some v) : VOp P w0 s H (.assign x) ty v := fun ρ w _ _ _ _ hρ _ => by
  simp [execOp, hρ x v hx]
theorem v_pick_t {c a b : Operand} {v : Value} (hc : ev s c = some (.bool true)) (ha : ev s a = some v) : VOp P w0 s H (.pick c a b) ty v := fun ρ w _ _ _ _ hρ _ => by
  simp [execOp, hρ c _ hc, hρ a v ha, asBool]
theorem v_pick_f {c a b : Operand} {v : Value} (hc : ev s c = some (.bool false)) (hb : ev s b = some v) : VOp P w0 s H (.pick c a b) ty v := fun ρ w _ _ _ _ hρ _ => by
  simp [execOp, hρ c _ hc, hρ b v hb, asBool]

section ints
variable {x y : Operand} {k : IntKind} {a b : Int} {t t' : TypeId}
theorem v_lss (hx : ev s x = some (.int k a)) (hy : ev s y = some (.int k b)) : VOp P w0 s H (.binOp .lss t x y t') ty (.bool (decide (a < b))) := fun ρ w _ _ _ _ hρ _ => by
  simp [execOp, hρ x _ hx, hρ y _ hy, eqGuard, binOp, Op.intCmp]
theorem v_leq (hx : ev s x = some (.int k a)) (hy : ev s y = some (.int k b)) : VOp P w0 s H (.binOp .leq t x y t') ty (.bool (decide (a ≤ b))) := fun ρ w _ _ _ _ hρ _ => by
  simp [execOp, hρ x _ hx, hρ y _ hy, eqGuard, binOp, Op.intCmp]
theorem v_gtr (hx : ev s x = some (.int k a)) (hy : ev s y = some (.int k b)) : VOp P w0 s H (.binOp .gtr t x y t') ty (.bool (decide (b < a))) := fun ρ w _ _ _ _ hρ _ => by
  simp [execOp, hρ x _ hx, hρ y _ hy, eqGuard, binOp, Op.intCmp]
theorem v_geq (hx : ev s x = some (.int k a)) (hy : ev s y = some (.int k b)) : VOp P w0 s H (.binOp .geq t x y t') ty (.bool (decide (b ≤ a))) := fun ρ w _ _ _ _ hρ _ => by
  simp [execOp, hρ x _ hx, hρ y _ hy, eqGuard, binOp, Op.intCmp]
theorem v_eql (hx : ev s x = some (.int k a)) (hy : ev s y = some (.int k b)) : VOp P w0 s H (.binOp .eql t x y t') ty (.bool (decide (a = b))) := fun ρ w _ _ _ _ hρ _ => by
  simp [execOp, hρ x _ hx, hρ y _ hy, eqGuard, binOp, Op.intCmp]
  rw [Bool.eq_iff_iff]; simp
theorem v_neq (hx : ev s x = some (.int k a)) (hy : ev s y = some (.int k b)) : VOp P w0 s H (.binOp .neq t x y t') ty (.bool (decide (a ≠ b))) := fun ρ w _ _ _ _ hρ _ => by
  simp [execOp, hρ x _ hx, hρ y _ hy, eqGuard, binOp, Op.intCmp, bne]
  rw [Bool.eq_iff_iff]; simp

/-- The numbers of an int. -/
def I64 (z : Int) : Prop := -9223372036854775808 ≤ z ∧ z ≤ 9223372036854775807
theorem I64.wrap {z : Int} (h : I64 z) : IntKind.i64.wrap z = z := by
  rw [IntKind.wrap_i64]
  obtain ⟨h1, h2⟩ := h
  omega
theorem I64.mk {z : Int} (h1 : -9223372036854775808 ≤ z) (h2 : z ≤ 9223372036854775807) : I64 z := ⟨h1, h2⟩

theorem v_add (hx : ev s x = some (.int .i64 a)) (hy : ev s y = some (.int .i64 b)) (h : I64 (a + b)) : VOp P w0 s H (.binOp .add t x y t') ty (.int .i64 (a + b)) := fun ρ w _ _ _ _ hρ _ => by
  simp [execOp, hρ x _ hx, hρ y _ hy, eqGuard, binOp, Op.intArith, h.wrap]
theorem v_sub (hx : ev s x = some (.int .i64 a)) (hy : ev s y = some (.int .i64 b)) (h : I64 (a - b)) : VOp P w0 s H (.binOp .sub t x y t') ty (.int .i64 (a - b)) := fun ρ w _ _ _ _ hρ _ => by
  simp [execOp, hρ x _ hx, hρ y _ hy, eqGuard, binOp, Op.intArith, h.wrap]
theorem v_mul (hx : ev s x = some (.int .i64 a)) (hy : ev s y = some (.int .i64 b)) (h : I64 (a * b)) : VOp P w0 s H (.binOp .mul t x y t') ty (.int .i64 (a * b)) := fun ρ w _ _ _ _ hρ _ => by
  simp [execOp, hρ x _ hx, hρ y _ hy, eqGuard, binOp, Op.intArith, h.wrap]
theorem v_addw (hx : ev s x = some (.int k a)) (hy : ev s y = some (.int k b)) : VOp P w0 s H (.binOp .add t x y t') ty (.int k (k.wrap (a + b))) := fun ρ w _ _ _ _ hρ _ => by
  simp [execOp, hρ x _ hx, hρ y _ hy, eqGuard, binOp, Op.intArith]
theorem v_subw (hx : ev s x = some (.int k a)) (hy : ev s y = some (.int k b)) : VOp P w0 s H (.binOp .sub t x y t') ty (.int k (k.wrap (a - b))) := fun ρ w _ _ _ _ hρ _ => by
  simp [execOp, hρ x _ hx, hρ y _ hy, eqGuard, binOp, Op.intArith]
theorem v_rem (hx : ev s x = some (.int k a)) (hy : ev s y = some (.int k b)) (h : b ≠ 0) : VOp P w0 s H (.binOp .rem t x y t') ty (.int k (a.tmod b)) := fun ρ w _ _ _ _ hρ _ => by
  simp [execOp, hρ x _ hx, hρ y _ hy, eqGuard, binOp, Op.intDiv, h]
theorem v_neg (hx : ev s x = some (.int .i64 a)) (h : I64 (-a)) : VOp P w0 s H (.unOp .neg t x) ty (.int .i64 (-a)) := fun ρ w _ _ _ _ hρ _ => by
  simp [execOp, hρ x _ hx, Op.unary, Op.intArith, h.wrap]
theorem v_conv {k' : IntKind} {d : TypeDesc} [hs : Und P t d] [hd : Und P t' (.int k')] (hx : ev s x = some (.int k a)) : VOp P w0 s H (.convert t t' x) ty (.int k' (k'.wrap a)) := fun ρ w _ _ _ _ hρ _ => by
  simp [execOp, hρ x _ hx, convert, run_underlying hs.out, run_underlying hd.out, Conv.intToInt]
end ints

section bools
variable {x y : Operand} {a b : Bool} {t t' : TypeId}
theorem v_not (hx : ev s x = some (.bool a)) : VOp P w0 s H (.unOp .not t x) ty (.bool (!a)) := fun ρ w _ _ _ _ hρ _ => by
  simp [execOp, hρ x _ hx, Op.unary]
theorem v_eqlb [ht : Und P t .bool] (hx : ev s x = some (.bool a)) (hy : ev s y = some (.bool b)) : VOp P w0 s H (.binOp .eql t x y t') ty (.bool (a == b)) := fun ρ w _ _ _ _ hρ _ => by
  simp [execOp, hρ x _ hx, hρ y _ hy, eqGuard, run_eql_bool w t a b ht.out]
theorem v_neqb [ht : Und P t .bool] (hx : ev s x = some (.bool a)) (hy : ev s y = some (.bool b)) : VOp P w0 s H (.binOp .neq t x y t') ty (.bool (!(a == b))) := fun ρ w _ _ _ _ hρ _ => by
  simp [execOp, hρ x _ hx, hρ y _ hy, eqGuard, run_neq_bool w t a b ht.out]
end bools

section strings
variable {x y : Operand} {a b : ByteArray} {t t' : TypeId}
theorem beqL (a b : ByteArray) : (a.toList == b.toList) = decide (a = b) := by
  rw [← beq_toListBytes]
  obtain ⟨⟨x⟩⟩ := a
  obtain ⟨⟨y⟩⟩ := b
  show ((⟨x⟩ : Array UInt8) == ⟨y⟩) = _
  rw [Bool.eq_iff_iff]
  simp
theorem v_eqls (hx : ev s x = some (.string a)) (hy : ev s y = some (.string b)) : VOp P w0 s H (.binOp .eql t x y t') ty (.bool (decide (a = b))) := fun ρ w _ _ _ _ hρ _ => by
  simp [execOp, hρ x _ hx, hρ y _ hy, eqGuard, binOp, Op.stringOp, beqL]
theorem v_neqs (hx : ev s x = some (.string a)) (hy : ev s y = some (.string b)) : VOp P w0 s H (.binOp .neq t x y t') ty (.bool (decide (a ≠ b))) := fun ρ w _ _ _ _ hρ _ => by
  simp [execOp, hρ x _ hx, hρ y _ hy, eqGuard, binOp, Op.stringOp, beqL]
theorem v_lens [ht : Und P t .string] (hx : ev s x = some (.string a)) : VOp P w0 s H (.call { callee := .builtin .len, args := #[x], argTypes := #[t] }) ty (.int .i64 (a.size : Int)) := fun ρ w _ _ _ _ hρ _ => by
  simp [execOp, hρ x _ hx, resolve, invoke, builtin, Builtin.len_, run_underlying ht.out, goInt]
end strings

theorem v_len {x : Operand} {A : Option Addr} {m c : Nat} {t e : TypeId} [ht : Und P t (.slice e)] (hx : ev s x = some (.slice A m c)) :
    VOp P w0 s H (.call { callee := .builtin .len, args := #[x], argTypes := #[t] }) ty (.int .i64 (m : Int)) := fun ρ w _ _ _ _ hρ _ => by
  simp [execOp, hρ x _ hx, resolve, invoke, builtin, Builtin.len_, run_underlying ht.out, goInt]
theorem v_max {x y : Operand} {a b : Int} {ts : Array TypeId} (hx : ev s x = some (.int .i64 a)) (hy : ev s y = some (.int .i64 b)) :
    VOp P w0 s H (.call { callee := .builtin .max, args := #[x, y], argTypes := ts }) ty (.int .i64 (if a < b then b else a)) := fun ρ w _ _ _ _ hρ _ => by
  simp [execOp, hρ x _ hx, hρ y _ hy, resolve, invoke, builtin, run_max_int2]
theorem v_min {x y : Operand} {a b : Int} {ts : Array TypeId} (hx : ev s x = some (.int .i64 a)) (hy : ev s y = some (.int .i64 b)) :
    VOp P w0 s H (.call { callee := .builtin .min, args := #[x, y], argTypes := ts }) ty (.int .i64 (if b < a then b else a)) := fun ρ w _ _ _ _ hρ _ => by
  simp [execOp, hρ x _ hx, hρ y _ hy, resolve, invoke, builtin, run_min_int2]
theorem v_extract {x : Operand} {vs : List Value} {i : Nat} {v : Value} (hx : ev s x = some (.tuple vs.toArray)) (hi : vs[i]? = some v) : VOp P w0 s H (.extract x i) ty v := fun ρ w _ _ _ _ hρ _ => by
  have hi' : vs.toArray[i]? = some v := by rw [List.getElem?_toArray]; exact hi
  simp [execOp, hρ x _ hx, Instr.extract, hi]

theorem run_fieldPlace {w : World} {g o off : Nat} {fl : Field} {i : TypeInfo} (ho : fl.offset = o) (hi : P.info? fl.type = some i) (hz : i.size ≠ 0) :
    (fieldPlace ⟨g, off, none⟩ fl).run P w = .ok ⟨g, off + o, none⟩ w := by
  have hz' : (if i.size = 0 then true else false) = false := by simp [hz]
  simp [fieldPlace, sizeOf, typeInfo, hi, hz, Addr.add, ho]
  try (intro h; rw [h])

theorem v_fieldAddr {x : Operand} {t f o g off : Nat} [hf : Fld P t f o] (hx : ev s x = some (.pointer (some ⟨g, off, none⟩))) :
    VOp P w0 s H (.fieldAddr t x f) ty (.pointer (some ⟨g, off + o, none⟩)) := fun ρ w _ _ _ _ hρ _ => by
  obtain ⟨fs, fl, i, h1, h2, h3, h4, h5⟩ := hf.out
  simp [execOp, hρ x _ hx, Instr.fieldAt, run_underlying h1, h2, Instr.sureAddr, run_fieldPlace h3 h4 h5]

theorem v_indexAddr {x ix : Operand} {t e g off m c j sz : Nat} {k : IntKind} [ht : Und P t (.slice e)] [hs : Size P e sz] (hx : ev s x = some (.slice (some ⟨g, off, none⟩) m c)) (hi : ev s ix = some (.int k (j : Nat)))
    (hj : j < m) : VOp P w0 s H (.indexAddr t x ix) ty (.pointer (some ⟨g, off + j * sz, none⟩)) := fun ρ w _ _ _ _ hρ _ => by
  obtain ⟨i, h1, h2⟩ := hs.out
  have hj' : (j : Int) < (m : Int) := by omega
  have h0 : (0 : Int) ≤ (j : Int) := by omega
  have hadd : (⟨g, off, none⟩ : Addr).add (j * sz) = ⟨g, off + j * sz, none⟩ := by
    unfold Addr.add; split <;> simp_all
  simp [execOp, hρ x _ hx, hρ ix _ hi, Instr.indexAt, run_underlying ht.out, asIntOf, sizeOf, typeInfo, h1, h2, hadd]
  omega

/-! ### Reading memory -/

/-- In w the cells from off on of block g are these. -/
def Cells (w : World) (g off : Nat) (xs : List Value) : Prop := ∀ j v, xs[j]? = some v → w.cell? ⟨g, off + j, none⟩ = some v

theorem addr_add (g off j : Nat) : (⟨g, off, none⟩ : Addr).add j = ⟨g, off + j, none⟩ := by
  unfold Addr.add; split <;> simp_all

theorem run_load_one {w : World} {t : TypeId} {g off : Nat} {v : Value} [h : One P t] (hc : w.cell? ⟨g, off, none⟩ = some v) : (loadVar t ⟨g, off, none⟩).run P w = .ok v w := by
  obtain ⟨d, hd, ho⟩ := h.out
  cases d <;> simp_all [loadVar, isAgg, run_underlying hd]

theorem run_load_agg {w : World} {t : TypeId} {g off m : Nat} {xs : List Value} [h : Agg P t m] (hl : xs.length = m) (hc : Cells w g off xs) : (loadVar t ⟨g, off, none⟩).run P w = .ok (.agg xs.toArray) w := by
  obtain ⟨d, i, hd, ho, hi, hs⟩ := h.out
  have h1 := run_loadCells_list (P := P) w ⟨g, off, none⟩ xs (fun j v hv => by rw [addr_add]; exact hc j v hv)
  rw [hl] at h1
  cases d <;> simp_all [loadVar, isAgg, run_underlying hd, sizeOf, typeInfo]

/-- What is known of a world by what is owned: the cells of a block. -/
theorem Mem.cells_box {w w0 : World} {H : List Blk} {g : Nat} {t : TypeId} {xs : List Value} (h : Mem w0 w H) (hi : In (.box g t xs) H) : Cells w g 0 xs := by
  have h1 := (h.on _ hi.mem).1
  simp only [Blk.on] at h1
  intro j v hv
  rw [Nat.zero_add, cell_of_row w g j _ t (0, 0) h1]
  simpa using hv

theorem Mem.cells_own {w w0 : World} {H : List Blk} {g m c sz : Nat} {t : TypeId} {xs : List Value} (h : Mem w0 w H) (hi : In (.own (some g) t sz m c xs) H) : Cells w g 0 xs := by
  obtain ⟨hl, _, _, junk, _, h1⟩ := (h.on _ hi.mem).1
  intro j v hv
  rw [Nat.zero_add, cell_of_row w g j _ t (0, 0) h1]
  have hlt := (List.getElem?_eq_some_iff.1 hv).1
  rw [List.getElem?_toArray, List.getElem?_append_left hlt]
  exact hv

/-- Read-only memory of the world at the beginning. -/
structure Ro (w0 : World) (g off : Nat) (xs : List Value) : Prop where
  lt : g < w0.heap.size
  cells : Cells w0 g off xs

theorem Ro.later {w w0 : World} {H : List Blk} {g off : Nat} {xs : List Value} (h : Ro w0 g off xs) (hm : Mem w0 w H) : Cells w g off xs :=
  fun j v hv => (hm.below.cell (p := ⟨g, off + j, none⟩) h.lt).trans (h.cells j v hv)

theorem Cells.drop {w : World} {g off k : Nat} {xs : List Value} (h : Cells w g off xs) : Cells w g (off + k) (xs.drop k) := fun j v hv => by
  rw [List.getElem?_drop] at hv
  rw [Nat.add_assoc]; exact h _ v hv
theorem Cells.take {w : World} {g off k : Nat} {xs : List Value} (h : Cells w g off xs) : Cells w g off (xs.take k) := fun j v hv => by
  rw [List.getElem?_take] at hv
  split at hv
  · exact h _ v hv
  · cases hv

theorem v_load_box {x : Operand} {t T g off : Nat} {xs : List Value} {v : Value} [One P t] (hx : ev s x = some (.pointer (some ⟨g, off, none⟩))) (hi : In (.box g T xs) H) (hv : xs[off]? = some v) :
    VOp P w0 s H (.load t x) ty v := fun ρ w _ _ _ _ hρ hm => by
  have hc := hm.cells_box hi off v hv
  rw [Nat.zero_add] at hc
  simp [execOp, hρ x _ hx, Instr.loadAt, Instr.sureAddr, run_load_one (P := P) hc]
theorem v_load_own {x : Operand} {t T g off m c sz : Nat} {xs : List Value} {v : Value} [One P t] (hx : ev s x = some (.pointer (some ⟨g, off, none⟩))) (hi : In (.own (some g) T sz m c xs) H) (hv : xs[off]? = some v) :
    VOp P w0 s H (.load t x) ty v := fun ρ w _ _ _ _ hρ hm => by
  have hc := hm.cells_own hi off v hv
  rw [Nat.zero_add] at hc
  simp [execOp, hρ x _ hx, Instr.loadAt, Instr.sureAddr, run_load_one (P := P) hc]
theorem v_load_ro {x : Operand} {t g o off : Nat} {xs : List Value} {v : Value} [One P t] (hr : Ro w0 g o xs) (hx : ev s x = some (.pointer (some ⟨g, o + off, none⟩))) (hv : xs[off]? = some v) :
    VOp P w0 s H (.load t x) ty v := fun ρ w _ _ _ _ hρ hm => by
  simp [execOp, hρ x _ hx, Instr.loadAt, Instr.sureAddr, run_load_one (P := P) (hr.later hm off v hv)]

theorem v_loads_box {x : Operand} {t T g off m : Nat} {xs ys : List Value} [Agg P t m] (hx : ev s x = some (.pointer (some ⟨g, off, none⟩))) (hi : In (.box g T xs) H) (hv : (xs.drop off).take m = ys) (hl : ys.length = m) :
    VOp P w0 s H (.load t x) ty (.agg ys.toArray) := fun ρ w _ _ _ _ hρ hm => by
  subst hv
  have hc : Cells w g off ((xs.drop off).take m) := by
    have := ((hm.cells_box hi).drop (k := off)).take (k := m)
    rwa [Nat.zero_add] at this
  simp [execOp, hρ x _ hx, Instr.loadAt, Instr.sureAddr, run_load_agg (P := P) hl hc]
theorem v_loads_own {x : Operand} {t T g off m n' c sz : Nat} {xs ys : List Value} [Agg P t m] (hx : ev s x = some (.pointer (some ⟨g, off, none⟩))) (hi : In (.own (some g) T sz n' c xs) H) (hv : (xs.drop off).take m = ys) (hl : ys.length = m) :
    VOp P w0 s H (.load t x) ty (.agg ys.toArray) := fun ρ w _ _ _ _ hρ hm => by
  subst hv
  have hc : Cells w g off ((xs.drop off).take m) := by
    have := ((hm.cells_own hi).drop (k := off)).take (k := m)
    rwa [Nat.zero_add] at this
  simp [execOp, hρ x _ hx, Instr.loadAt, Instr.sureAddr, run_load_agg (P := P) hl hc]
theorem v_loads_ro {x : Operand} {t g o off m : Nat} {xs ys : List Value} [Agg P t m] (hr : Ro w0 g o xs) (hx : ev s x = some (.pointer (some ⟨g, o + off, none⟩))) (hv : (xs.drop off).take m = ys) (hl : ys.length = m) :
    VOp P w0 s H (.load t x) ty (.agg ys.toArray) := fun ρ w _ _ _ _ hρ hm => by
  subst hv
  have hc : Cells w g (o + off) ((xs.drop off).take m) := ((hr.later hm).drop (k := off)).take (k := m)
  simp [execOp, hρ x _ hx, Instr.loadAt, Instr.sureAddr, run_load_agg (P := P) hl hc]

end
end Go.SL

/-
  Arrays of one-cell elements: built whole, indexed, sliced; rows in a variable.
-/
import Derived.Test.YtfkklicpnoeclaaSl8
import Derived.Laws.Slices
import Derived.Great.BuildSlice
namespace Go.SL
open Go Go.RowKit

section
variable {P : Program} {n : Fr} {w0 : World} {Q : Post} {s : Slots} {H : List Blk} {rest : List Oper} {ty : TypeId} {p : String} {af : Array Edge}

theorem v_index_arr {x ix : Operand} {t e m j : Nat} {xs : List Value} {v : Value} {k : IntKind} [ht : Und P t (.array m e)] [he : One P e] [hz : Size P e 1] (hx : ev s x = some (.agg xs.toArray)) (hi : ev s ix = some (.int k (j : Nat))) (hj : j < m) (hv : xs[j]? = some v) :
    VOp P w0 s H (.index t x ix) ty v := fun ρ w _ _ _ _ hρ _ => by
  obtain ⟨i, h1, h2⟩ := hz.out
  obtain ⟨d, h3, h4⟩ := he.out
  have h0 : (0 : Int) ≤ (j : Int) := by omega
  have hj' : ((j : Nat) : Int) < ((m : Nat) : Int) := by omega
  simp only [execOp, hρ x _ hx, hρ ix _ hi, Instr.index, asIntOf, run_underlying ht.out, sizeOf, typeInfo, part, isAgg, run_underlying h3, Sem.run_bind, Sem.run_pure, Result.andThen_ok, h0, hj', and_self, if_true, h1, h2, Int.toNat_natCast, Nat.mul_one, List.getElem?_toArray, hv]
  cases d <;> simp_all

theorem v_slice_arr {x : Operand} {t e m g o sz : Nat} [ht : Und P t (.array m e)] [hz : Size P e sz] (hx : ev s x = some (.pointer (some ⟨g, o, none⟩))) :
    VOp P w0 s H (.slice t x none none none) ty (.slice (some ⟨g, o, none⟩) m m) := fun ρ w _ _ _ _ hρ _ => by
  obtain ⟨i, h1, h2⟩ := hz.out
  have ha : (⟨g, o, none⟩ : Addr).add 0 = ⟨g, o, none⟩ := by rw [addr_add]; simp
  simp [execOp, hρ x _ hx, Instr.sliceAt, run_underlying ht.out, Instr.sliceBounds, Instr.sureAddr, sizeOf, typeInfo, h1, ha]

/-- An array built of all its elements, one cell each. -/
theorem wl_buildArr {d t e m : Nat} {ps : List (Nat × Operand)} {vs xs zs : List Value} {ops : Array Oper} [ht : Und P t (.array m e)] [he : Size P e 1] [hz : ZeroC P t zs] (hn : Nat.blt d n.sz = true) (hps : evd s ps 0 = some vs)
    (hl : Nat.beq vs.length zs.length = true) (h1 : vs.all (fun v => Nat.beq v.cells.size 1) = true) (hx : norm (flat vs) = some xs) (k : WL P n w0 ops rest Q ((d, .agg xs.toArray) :: s) H) :
    WL P n w0 ops (⟨some d, .build t ps.toArray, ty, p, af, none⟩ :: rest) Q s H := by
  refine wl_exec rfl d rfl hn (fun a w hs hm => ?_) k
  obtain ⟨it, z, i1, i2, i3⟩ := hz.out
  obtain ⟨ie, j1, j2⟩ := he.out
  have hall : ∀ v ∈ vs, v.cells.size = 1 := by
    intro v hv
    exact Nat.eq_of_beq_eq_true (List.all_eq_true.1 h1 v hv)
  have hlen := Nat.eq_of_beq_eq_true hl
  have hfill := Great.fill_whole (s := 1) (by omega) vs z.cells hall (by rw [i3]; simp [hlen])
  rw [← evd_map hs hps] at hfill
  have hb : P.built t (ps.map fun (x : Nat × Operand) => (x.1, a.eval x.2)) = some (flat vs).toArray := by
    unfold Program.built
    simp only [i1, ht.out, i2, j1, j2]
    exact hfill
  have hr := run_build (P := P) w t (ps.map fun (x : Nat × Operand) => (x.1, a.eval x.2)).toArray (flat vs).toArray (by simpa using hb)
  rw [norm_eq hx]
  simp only [execOp, List.map_toArray]
  simp only [Sem.run_bind, hr, Result.andThen_ok, Sem.run_pure]

theorem v_conv_id {x : Operand} {t t' : TypeId} {k k' : IntKind} {a c : Int} {d : TypeDesc} [hs : Und P t d] [hd : Und P t' (.int k')] (hx : ev s x = some (.int k a)) (hw : k'.wrap a = c) : VOp P w0 s H (.convert t t' x) ty (.int k' c) := by
  have h := v_conv (P := P) (w0 := w0) (H := H) (ty := ty) (t := t) (t' := t') hx
  rwa [hw] at h
theorem v_addw_id {x y : Operand} {k : IntKind} {a b c : Int} {t t' : TypeId} (hx : ev s x = some (.int k a)) (hy : ev s y = some (.int k b)) (hw : k.wrap (a + b) = c) : VOp P w0 s H (.binOp .add t x y t') ty (.int k c) := by
  have h := v_addw (P := P) (w0 := w0) (H := H) (ty := ty) (t := t) (t' := t') hx hy
  rwa [hw] at h
theorem v_subw_id {x y : Operand} {k : IntKind} {a b c : Int} {t t' : TypeId} (hx : ev s x = some (.int k a)) (hy : ev s y = some (.int k b)) (hw : k.wrap (a - b) = c) : VOp P w0 s H (.binOp .sub t x y t') ty (.int k c) := by
  have h := v_subw (P := P) (w0 := w0) (H := H) (ty := ty) (t := t) (t' := t') hx hy
  rwa [hw] at h
theorem v_eqls_t {x y : Operand} {a b : ByteArray} {t t' : TypeId} (hx : ev s x = some (.string a)) (hy : ev s y = some (.string b)) (h : a = b) : VOp P w0 s H (.binOp .eql t x y t') ty (.bool true) := by
  have h1 := v_eqls (P := P) (w0 := w0) (H := H) (ty := ty) (t := t) (t' := t') hx hy
  rwa [decide_eq_true h] at h1
theorem v_eqls_f {x y : Operand} {a b : ByteArray} {t t' : TypeId} (hx : ev s x = some (.string a)) (hy : ev s y = some (.string b)) (h : a ≠ b) : VOp P w0 s H (.binOp .eql t x y t') ty (.bool false) := by
  have h1 := v_eqls (P := P) (w0 := w0) (H := H) (ty := ty) (t := t) (t' := t') hx hy
  rwa [decide_eq_false h] at h1
theorem wrap_u8 {a : Int} (h1 : 0 ≤ a) (h2 : a ≤ 255) : IntKind.u8.wrap a = a := by
  simp [IntKind.wrap, IntKind.bits, IntKind.signed] <;> omega

theorem Reads.of_box {w : World} {g t : Nat} {xs : List Value} (hm : Mem w0 w H) (hi : In (.box g t xs) H) (hl : Nat.ble xs.length maxLen = true) : Reads w (.slice (some ⟨g, 0, none⟩) xs.length xs.length) xs.length xs := by
  have h1 := hm.cells_box hi
  refine ⟨_, xs.length, rfl, Nat.le_refl _, by simpa using hl, fun _ => ⟨g, 0, rfl, ?_, h1⟩⟩
  have h2 := (hm.on _ hi.mem).1
  simp only [Blk.on] at h2
  exact (Array.getElem?_eq_some_iff.1 h2).1
end
end Go.SL

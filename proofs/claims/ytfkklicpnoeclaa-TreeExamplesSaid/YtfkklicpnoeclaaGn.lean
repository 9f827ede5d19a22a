/-
  Lemmas and walks, packed: Sl17.
-/
import Derived.Test.YtfkklicpnoeclaaGb
set_option linter.unusedSimpArgs false
set_option linter.unusedVariables false
/-
  Arrays of structs: built whole, an element taken; append of one record.
-/
namespace Go.SL
open Go Go.RowKit

section
variable {P : Program} {n : Fr} {w0 : World} {Q : Post} {s : Slots} {H : List Blk} {rest : List Oper} {ty : TypeId} {p : String} {af : Array Edge}

theorem v_index_agg {x ix : Operand} {t e m j sz : Nat} {xs ys : List Value} {k : IntKind} [ht : Und P t (.array m e)] [he : Agg P e sz] (hx : ev s x = some (.agg xs.toArray)) (hi : ev s ix = some (.int k (j : Nat))) (hj : j < m) (hv : (xs.drop (j * sz)).take sz = ys) :
    VOp P w0 s H (.index t x ix) ty (.agg ys.toArray) := fun ρ w _ _ _ _ hρ _ => by
  obtain ⟨d, i, h3, h4, h5, h6⟩ := he.out
  have h0 : (0 : Int) ≤ (j : Int) := by omega
  have hj' : ((j : Nat) : Int) < ((m : Nat) : Int) := by omega
  subst hv
  have he : (xs.toArray.extract (j * sz) (j * sz + sz)) = ((xs.drop (j * sz)).take sz).toArray := by
    apply Array.ext'
    simp [List.extract_eq_take_drop]
  have hA : (isAgg e).run P w = .ok true w := by
    cases d <;> simp_all [isAgg, run_underlying h3]
  simp [execOp, hρ x _ hx, hρ ix _ hi, Instr.index, asIntOf, run_underlying ht.out, sizeOf, typeInfo, part, hA, hj, h5, h6, he]

theorem wl_buildAr {d t e m sz : Nat} {ps : List (Nat × Operand)} {vs xs zs : List Value} {ops : Array Oper} [ht : Und P t (.array m e)] [he : Size P e sz] [hz : ZeroC P t zs] (hn : Nat.blt d n.sz = true) (hps : evd s ps 0 = some vs)
    (hs0 : Nat.blt 0 sz = true) (hl : Nat.beq (vs.length * sz) zs.length = true) (h1 : sizes sz vs = true) (hx : norm (flat vs) = some xs) (k : WL P n w0 ops rest Q ((d, .agg xs.toArray) :: s) H) :
    WL P n w0 ops (⟨some d, .build t ps.toArray, ty, p, af, none⟩ :: rest) Q s H := by
  refine wl_exec rfl d rfl hn (fun a w hs hm => ?_) k
  obtain ⟨it, z, i1, i2, i3⟩ := hz.out
  obtain ⟨ie, j1, j2⟩ := he.out
  have hall := sizes_all h1
  have hlen := Nat.eq_of_beq_eq_true hl
  have hfill := Great.fill_whole (s := sz) (by simpa using hs0) vs z.cells hall (by rw [i3]; simp [hlen])
  rw [← evd_map hs hps] at hfill
  have hb : P.built t (ps.map fun (x : Nat × Operand) => (x.1, a.eval x.2)) = some (flat vs).toArray := by
    unfold Program.built
    simp only [i1, ht.out, i2, j1, j2]
    exact hfill
  have hr := run_build (P := P) w t (ps.map fun (x : Nat × Operand) => (x.1, a.eval x.2)).toArray (flat vs).toArray (by simpa using hb)
  rw [norm_eq hx]
  simp only [execOp, List.map_toArray]
  simp only [Sem.run_bind, hr, Result.andThen_ok, Sem.run_pure]

/-- 'append(s, x)': one record of the call's own behind a row of the call's own. -/
theorem wl_append1 {d t e n' c g sz by_ : Nat} {A : Option Nat} {x y : Operand} {xs news : List Value} {R : List Blk} {ops : Array Oper} [ht : Und P t (.slice e)] [he : Elem P e sz by_] (hn : Nat.blt d n.sz = true)
    (hx : ev s x = some (sl A n' c)) (hy : ev s y = some (.slice (some ⟨g, 0, none⟩) 1 1)) (hsel : Sel (.own A e sz n' c xs) H R)
    (hi : In (.own (some g) e sz 1 1 news) H) (hl : news.length = sz) (h1 : ∀ u ∈ news, u.oneCell' = true) (hby : (n' + 1) * by_ ≤ 140737488355328) (h63 : n' + 1 ≤ maxLen)
    (k : ∀ g' cap', WL P n w0 ops rest Q ((d, sl (some g') (n' + 1) cap') :: s) (.own (some g') e sz (n' + 1) cap' (xs ++ news) :: R)) :
    WL P n w0 ops (⟨some d, .call { callee := .builtin .append, args := #[x, y], argTypes := #[t, t] }, ty, p, af, none⟩ :: rest) Q s H :=
  wl_appendR (m := 1) hn hx hy hsel (fun w hm => Reads.of_own (A := some g) hm hi) (by omega) h1 hby h63 fun A' cap' hA => by
    obtain ⟨g', rfl⟩ := hA (by omega)
    exact k g' cap'
end

theorem v_leqN {P : Program} {w0 : World} {s : Slots} {H : List Blk} {ty t t' : TypeId} {x y : Operand} {k : IntKind} {a b : Int} (hx : ev s x = some (.int k a)) (hy : ev s y = some (.int k b)) (h : a ≤ b) : VOp P w0 s H (.binOp .leq t x y t') ty (.bool true) := by
  have h1 := v_leq (P := P) (w0 := w0) (H := H) (ty := ty) (t := t) (t' := t') hx hy
  rwa [decide_eq_true h] at h1
end Go.SL

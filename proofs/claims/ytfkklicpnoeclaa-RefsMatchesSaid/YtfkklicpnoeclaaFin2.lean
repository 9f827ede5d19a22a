/-
  More readings of arguments: rows of whatever reads, structs, pairs, rows of rows.
-/
import Derived.Test.YtfkklicpnoeclaaFin
import Derived.Test.YtfkklicpnoeclaaW14
namespace Go.SL
open Go Go.Proofs Go.ChangeShapes Go.WideShapes Go.ChangeAt Go.RowKit Go.Deep

section
variable {H : Type} {enc : TypeId × Value → H} {w : World} {base : Nat} {spare : Nat → Bool} {held : Bool}

/-- A slice, its elements read one by one. -/
theorem open_rows {α : Type} [Inhabited α] {encA : α → List Value} {ok : α → Prop} {P : Program} {t e m fuel : Nat} {cs : List Value} {x : DataW H × List MemPlace} (ht : P.underlying t = some (.slice e)) (hm : P.cellsOf e = m) (hm0 : 0 < m) (hlenA : ∀ a, (encA a).length = m)
    (helem : ∀ (n : Nat) (cs : List Value) (y : DataW H × List MemPlace), DataW.trod enc P w 0 spare held n e cs = some y → ∃ a, cs = encA a ∧ ok a) (h : DataW.trod enc P w 0 spare held fuel t cs = some x) :
    ∃ (v : Value) (L : List α), cs = [v] ∧ Reads w v L.length (L.flatMap encA) ∧ ∀ a ∈ L, ok a := by
  rcases open_slice ht h with ⟨h0, _⟩ | ⟨a, len, cap, mm, n, D, Pl, h0, hb, hl, hmx, hmm, _, hx⟩
  · exact ⟨_, [], h0, ⟨none, 0, rfl, Nat.le_refl _, Nat.zero_le _, fun h => by cases h⟩, fun _ h => by cases h⟩
  · have hlm : len ≤ mm := by rw [hmm]; split <;> omega
    obtain ⟨F, hF⟩ := choose_lt (α := α) (n := len) (p := fun i nd => w.cells? 0 (a.add (i * m)) m = some (encA nd) ∧ ok nd) (fun i hi => by
      obtain ⟨cs', h1, h2⟩ := hx i (by omega)
      rw [hm] at h1
      obtain ⟨nd, rfl, hw⟩ := helem _ _ _ h2
      exact ⟨nd, h1, hw⟩)
    have hlen : ((List.range len).map F).length = len := by simp
    refine ⟨_, (List.range len).map F, h0, ⟨some a, cap, by rw [hlen], by omega, hmx, fun hpos => ?_⟩, fun n hn => ?_⟩
    rotate_left
    · obtain ⟨i, hi, rfl⟩ := List.mem_map.1 hn
      exact (hF i (List.mem_range.1 hi)).2
    rw [hlen] at hpos
    obtain ⟨g, o, spot⟩ := a
    have hspot : spot = none := by
      obtain ⟨_, _, h3⟩ := World.cells?_some (hF 0 (by omega)).1
      have h4' := h3 0 hm0
      rw [List.getElem?_eq_getElem (by rw [hlenA]; exact hm0)] at h4'
      have h4 := World.cell?_spot h4'
      simpa [Addr.add] using h4
    subst hspot
    have hcell : ∀ (i : Nat) (nd : α), ((List.range len).map F)[i]? = some nd → Cells w g (o + i * m) (encA nd) := by
      intro i nd hnd k v hv
      have hil : i < len := by have := (List.getElem?_eq_some_iff.1 hnd).1; omega
      have hnd' : F i = nd := by simpa [hil] using hnd
      subst hnd'
      have hk : k < m := by have := (List.getElem?_eq_some_iff.1 hv).1; rwa [hlenA] at this
      obtain ⟨_, _, h3⟩ := World.cells?_some (hF i hil).1
      have := h3 k hk
      rw [hv, addr_add, addr_add] at this
      exact this
    refine ⟨g, o, rfl, ?_, cells_flat hlenA w g o _ hcell⟩
    obtain ⟨u, hu⟩ : ∃ u, (encA (F 0))[0]? = some u := ⟨_, List.getElem?_eq_getElem (by rw [hlenA]; exact hm0)⟩
    have h5 := hcell 0 (F 0) (by simp [hpos]) 0 u hu
    simp only [World.cell?] at h5
    split at h5
    · rename_i h6
      exact (Array.getElem?_eq_some_iff.1 h6).1
    · cases h5

set_option maxRecDepth 100000 in
theorem cells_tree {fuel : Nat} {cs : List Value} {x : DataW H × List MemPlace} (h : DataW.trod enc Try.prog w 0 spare held fuel 22 cs = some x) : ∃ (v : Value) (L : List Nd), cs = [v] ∧ Reads w v L.length (L.flatMap encN) ∧ ∀ n ∈ L, okN n :=
  open_rows Try.underlying22 (by kernel_rfl) (by decide) encN_len (fun _ _ _ h => trod_node h) h

set_option maxRecDepth 100000 in
/-- An argument that is a slice of trees. -/
theorem open_trees {v : Value} {d : DataW H} {p : List MemPlace} (hv : Value.okWide Try.prog w .any base 43 v) (h : DataW.Trod enc Try.prog w 0 spare held 43 v d p) : ∃ Ls : List (List Nd), ReadsLL w v Ls ∧ ∀ L ∈ Ls, ∀ n ∈ L, okN n := by
  obtain ⟨fuel, hf⟩ := h
  have hc : v.cells.toList = [v] := by
    obtain ⟨a, n, c, rfl⟩ := okWide_slice Try.underlying43 hv
    rfl
  rw [hc] at hf
  letI : Inhabited (Value × List Nd) := ⟨(undef, [])⟩
  obtain ⟨u, R, he, hr, hok⟩ := open_rows (α := Value × List Nd) (encA := fun a => [a.1]) (ok := fun a => Reads w a.1 a.2.length (a.2.flatMap encN) ∧ ∀ n ∈ a.2, okN n) (m := 1) Try.underlying43 (by kernel_rfl) (by decide) (fun _ => rfl)
    (fun n cs y hy => by
      obtain ⟨v, L, rfl, h1, h2⟩ := cells_tree hy
      exact ⟨(v, L), rfl, h1, h2⟩) hf
  simp only [List.cons.injEq, and_true] at he
  subst he
  have hfl : ∀ R : List (Value × List Nd), R.flatMap (fun a => [a.1]) = R.map (·.1) := fun R => by
    induction R with
    | nil => rfl
    | cons a r ih => rw [List.flatMap_cons, ih]; rfl
  rw [hfl R] at hr
  refine ⟨R.map (·.2), ⟨R.map (·.1), by simp, by simpa using hr, fun i x L hx hL => ?_⟩, fun L hL => ?_⟩
  · simp only [List.getElem?_map, Option.map_eq_some_iff] at hx hL
    obtain ⟨a, ha, rfl⟩ := hx
    obtain ⟨b, hb, rfl⟩ := hL
    have e : a = b := Option.some.inj (ha.symm.trans hb)
    subst e
    exact (hok a (List.mem_of_getElem? ha)).1
  · obtain ⟨a, ha, rfl⟩ := List.mem_map.1 hL
    exact (hok a ha).2

set_option maxRecDepth 100000 in
theorem open_node {v : Value} {d : DataW H} {p : List MemPlace} (hv : Value.okWide Try.prog w .any base 40 v) (h : DataW.Trod enc Try.prog w 0 spare held 40 v d p) : ∃ n : Nd, v = .agg (encN n).toArray ∧ okN n := by
  obtain ⟨fuel, hf⟩ := h
  obtain ⟨cs, rfl, _⟩ := okWide_struct Try.underlying40 hv
  obtain ⟨n, e, hn⟩ := trod_node hf
  exact ⟨n, by rw [← e]; simp [Value.cells], hn⟩

set_option maxRecDepth 100000 in
theorem open_rect {v : Value} {d : DataW H} {p : List MemPlace} (hv : Value.okWide Try.prog w .any base 38 v) (h : DataW.Trod enc Try.prog w 0 spare held 38 v d p) : ∃ r : Rct, v = .agg (encR r).toArray ∧ okR r := by
  obtain ⟨fuel, hf⟩ := h
  obtain ⟨cs, rfl, _⟩ := okWide_struct Try.underlying38 hv
  obtain ⟨r, e, hr⟩ := trod_rect hf
  exact ⟨r, by rw [← e]; simp [Value.cells], hr⟩
end

end Go.SL

/-
  From the readings of a law's arguments to the cells that the walks ask for, and what a law that returns true leaves.
-/
import Derived.Test.YtfkklicpnoeclaaRows
import Derived.Test.YtfkklicpnoeclaaTy
import Derived.Test.YtfkklicpnoeclaaMd
import Derived.OpenShut
import Derived.ProofKit
import Derived.Carry
import Derived.Deep.Slices
namespace Go.SL
open Go Go.Proofs Go.ChangeShapes Go.WideShapes Go.ChangeAt Go.RowKit Go.Deep

section
variable {H : Type} {enc : TypeId × Value → H} {P : Program} {w : World} {base : Nat} {spare : Nat → Bool} {held : Bool}

/-- A law that only makes memory of its own: what was there reads as it did. -/
theorem post_of_below {f : Func} {s : ChangeSpec} {apart fresh handsOn again : Bool} {W W' : World} {args : Array Value} {v : Value} {ds gs : List (DataW H)} {before pa pv : List MemPlace}
    (hW : DataW.Whole enc P f.params.toList s.vars apart W args.toList ds gs before)
    (hres : ∀ (b : Nat) (sp : Nat → Bool) (hd : Bool), DataW.TrodAll enc P W' b sp hd f.resultTypes.toList (v.resultList f.resultTypes.size) (s.fn H (ds ++ gs)).results [])
    (hargs : ∀ sp : Nat → Bool, (∀ p ∈ before, sp p.block = true) → DataW.TrodAll enc P W' 0 sp true f.params.toList args.toList (s.fn H (ds ++ gs)).args pa)
    (hvars : ∀ sp : Nat → Bool, (∀ p ∈ before, sp p.block = true) → DataW.TrodVars enc P W' sp s.vars (s.fn H (ds ++ gs)).vars pv)
    (hps : before = pa ++ pv) (hb : Below W.heap.size W W')
    (hok : ∀ (j : Nat) (t : TypeId) (r : Value), f.resultTypes[j]? = some t → (v.resultList f.resultTypes.size)[j]? = some r → Value.okWide P W' .any 0 t r) :
    s.post enc P f apart fresh handsOn again W args v W' := by
  have hold : ∀ p ∈ before, (fun b => decide (b < W.heap.size)) p.block = true := fun p hp => by simpa using hW.lt p hp
  refine ⟨ds, gs, before, [], pa, pv, hW, hres _ _ _, hargs _ hold, hvars _ hold, hb.frame _, fun _ => ?_⟩
  have hlt := hW.lt
  obtain ⟨_, _, _, _, _, hz, hn⟩ := hW
  refine ⟨hok, _, _, ([] ++ pa) ++ pv, ⟨[] ++ pa, pv, trodAll_append (hargs _ (fun _ _ => rfl)) (hres _ _ _), hvars _ (fun _ _ => rfl), rfl, ?_, ?_⟩, ?_⟩
  · intro b off hp
    have hp' : MemPlace.cell b off ∈ before := by rw [hps]; simpa using hp
    have h1 := hz b off hp'
    have h2 := hlt _ hp'
    rw [← h1]
    exact hb.frozen h2
  · intro ha
    have := hn ha
    rw [hps] at this
    simpa using this
  · intro p hp _
    rw [hps]
    simpa using hp

theorem trod_stays_of {t : TypeId} (hl : laidOutB P = true) (hr : P.readableRec t = true) (hrow : t < P.types.size) {W W' : World} {v : Value} {d : DataW H} {ps : List MemPlace} {sp : Nat → Bool}
    (h : DataW.Trod enc P W 0 (fun _ => true) true t v d ps) (hb : Below W.heap.size W W') (hlt : ∀ x ∈ ps, x.block < W.heap.size) (hs : ∀ x ∈ ps, sp x.block = true) : DataW.Trod enc P W' 0 sp true t v d ps :=
  WideElems.Trod_stays hl hr hrow h (fun x hx => hb.same (hlt x hx)) hs
end

theorem Try_own : ownKnob Try.prog.godebug = none := by kernel_rfl
theorem Try_laidOut : laidOutB Try.prog = true := by kernel_rfl

section
variable {H : Type} {enc : TypeId × Value → H} {w : World} {base : Nat} {spare : Nat → Bool} {held : Bool}

/-- Numbers as their types hold them. -/
def okB (z : Int) : Prop := 0 ≤ z ∧ z ≤ 255
def okV (v : Vl) : Prop := okB v.kind ∧ I64 v.num
def okR (r : Rct) : Prop := I64 r.c1 ∧ I64 r.r1 ∧ I64 r.c2 ∧ I64 r.r2
def okN (n : Nd) : Prop := okB n.kind ∧ okV n.v ∧ okR n.rect ∧ I64 n.op ∧ okB n.fn ∧ I64 n.n

theorem cellsOf_of {P : Program} {t : Nat} {i : TypeInfo} (h : P.info? t = some i) : P.cellsOf t = i.size := by
  simp [Program.cellsOf, h]

set_option maxRecDepth 100000 in
theorem trod_val {fuel : Nat} {cs : List Value} {x : DataW H × List MemPlace} (h : DataW.trod enc Try.prog w base spare held fuel 36 cs = some x) : ∃ v : Vl, cs = encV v ∧ okV v := by
  obtain ⟨xs, n, _, _, hlen, hxl, hf⟩ := DataW.trod_struct Try.underlying36 h
  have e36 : Try.prog.cellsOf 36 = 3 := by kernel_rfl
  have e5 : Try.prog.cellsOf 5 = 1 := by kernel_rfl
  have e2 : Try.prog.cellsOf 2 = 1 := by kernel_rfl
  have e9 : Try.prog.cellsOf 9 = 1 := by kernel_rfl
  rw [e36] at hlen
  match cs, hlen, xs, hxl with
  | [c0, c1, c2], _, [x0, x1, x2], _ =>
    have h0 : DataW.trod enc Try.prog w base spare held n 5 ((([c0, c1, c2] : List Value).drop 0).take (Try.prog.cellsOf 5)) = some x0 := hf 0 _ rfl
    rw [e5] at h0
    replace h0 : DataW.trod enc Try.prog w base spare held n 5 [c0] = some x0 := h0
    have h1 : DataW.trod enc Try.prog w base spare held n 2 ((([c0, c1, c2] : List Value).drop 1).take (Try.prog.cellsOf 2)) = some x1 := hf 1 _ rfl
    rw [e2] at h1
    replace h1 : DataW.trod enc Try.prog w base spare held n 2 [c1] = some x1 := h1
    have h2 : DataW.trod enc Try.prog w base spare held n 9 ((([c0, c1, c2] : List Value).drop 2).take (Try.prog.cellsOf 9)) = some x2 := hf 2 _ rfl
    rw [e9] at h2
    replace h2 : DataW.trod enc Try.prog w base spare held n 9 [c2] = some x2 := h2
    obtain ⟨a0, q0, _, w0⟩ := DataW.trod_int Try.underlying5 h0
    obtain ⟨a1, q1, _, w1⟩ := DataW.trod_int Try.underlying2 h1
    obtain ⟨a2, q2, _⟩ := DataW.trod_string Try.underlying9 h2
    simp only [List.cons.injEq, and_true] at q0 q1 q2
    subst q0; subst q1; subst q2
    exact ⟨⟨a0, a1, a2⟩, rfl, bounds_u8 w0, bounds_i64 w1⟩

set_option maxRecDepth 100000 in
theorem trod_rect {fuel : Nat} {cs : List Value} {x : DataW H × List MemPlace} (h : DataW.trod enc Try.prog w base spare held fuel 38 cs = some x) : ∃ v : Rct, cs = encR v ∧ okR v := by
  obtain ⟨xs, n, _, _, hlen, hxl, hf⟩ := DataW.trod_struct Try.underlying38 h
  have e38 : Try.prog.cellsOf 38 = 4 := by kernel_rfl
  have e3 : Try.prog.cellsOf 3 = 1 := by kernel_rfl
  rw [e38] at hlen
  match cs, hlen, xs, hxl with
  | [c0, c1, c2, c3], _, [x0, x1, x2, x3], _ =>
    have h0 : DataW.trod enc Try.prog w base spare held n 3 ((([c0, c1, c2, c3] : List Value).drop 0).take (Try.prog.cellsOf 3)) = some x0 := hf 0 _ rfl
    rw [e3] at h0
    replace h0 : DataW.trod enc Try.prog w base spare held n 3 [c0] = some x0 := h0
    have h1 : DataW.trod enc Try.prog w base spare held n 3 ((([c0, c1, c2, c3] : List Value).drop 1).take (Try.prog.cellsOf 3)) = some x1 := hf 1 _ rfl
    rw [e3] at h1
    replace h1 : DataW.trod enc Try.prog w base spare held n 3 [c1] = some x1 := h1
    have h2 : DataW.trod enc Try.prog w base spare held n 3 ((([c0, c1, c2, c3] : List Value).drop 2).take (Try.prog.cellsOf 3)) = some x2 := hf 2 _ rfl
    rw [e3] at h2
    replace h2 : DataW.trod enc Try.prog w base spare held n 3 [c2] = some x2 := h2
    have h3 : DataW.trod enc Try.prog w base spare held n 3 ((([c0, c1, c2, c3] : List Value).drop 3).take (Try.prog.cellsOf 3)) = some x3 := hf 3 _ rfl
    rw [e3] at h3
    replace h3 : DataW.trod enc Try.prog w base spare held n 3 [c3] = some x3 := h3
    obtain ⟨a0, q0, _, w0⟩ := DataW.trod_int Try.underlying3 h0
    obtain ⟨a1, q1, _, w1⟩ := DataW.trod_int Try.underlying3 h1
    obtain ⟨a2, q2, _, w2⟩ := DataW.trod_int Try.underlying3 h2
    obtain ⟨a3, q3, _, w3⟩ := DataW.trod_int Try.underlying3 h3
    simp only [List.cons.injEq, and_true] at q0 q1 q2 q3
    subst q0; subst q1; subst q2; subst q3
    exact ⟨⟨a0, a1, a2, a3⟩, rfl, bounds_i64 w0, bounds_i64 w1, bounds_i64 w2, bounds_i64 w3⟩

set_option maxRecDepth 100000 in
theorem trod_node {fuel : Nat} {cs : List Value} {x : DataW H × List MemPlace} (h : DataW.trod enc Try.prog w base spare held fuel 40 cs = some x) : ∃ n : Nd, cs = encN n ∧ okN n := by
  obtain ⟨xs, n, _, _, hlen, hxl, hf⟩ := DataW.trod_struct Try.underlying40 h
  have e40 : Try.prog.cellsOf 40 = 11 := by kernel_rfl
  have e5 : Try.prog.cellsOf 5 = 1 := by kernel_rfl
  have e36 : Try.prog.cellsOf 36 = 3 := by kernel_rfl
  have e38 : Try.prog.cellsOf 38 = 4 := by kernel_rfl
  have e2 : Try.prog.cellsOf 2 = 1 := by kernel_rfl
  have e3 : Try.prog.cellsOf 3 = 1 := by kernel_rfl
  rw [e40] at hlen
  match cs, hlen, xs, hxl with
  | [c0, c1, c2, c3, c4, c5, c6, c7, c8, c9, c10], _, [x0, x1, x2, x3, x4, x5], _ =>
    have h0 : DataW.trod enc Try.prog w base spare held n 5 ((([c0, c1, c2, c3, c4, c5, c6, c7, c8, c9, c10] : List Value).drop 0).take (Try.prog.cellsOf 5)) = some x0 := hf 0 _ rfl
    rw [e5] at h0
    replace h0 : DataW.trod enc Try.prog w base spare held n 5 [c0] = some x0 := h0
    have h1 : DataW.trod enc Try.prog w base spare held n 36 ((([c0, c1, c2, c3, c4, c5, c6, c7, c8, c9, c10] : List Value).drop 1).take (Try.prog.cellsOf 36)) = some x1 := hf 1 _ rfl
    rw [e36] at h1
    replace h1 : DataW.trod enc Try.prog w base spare held n 36 [c1, c2, c3] = some x1 := h1
    have h2 : DataW.trod enc Try.prog w base spare held n 38 ((([c0, c1, c2, c3, c4, c5, c6, c7, c8, c9, c10] : List Value).drop 4).take (Try.prog.cellsOf 38)) = some x2 := hf 2 _ rfl
    rw [e38] at h2
    replace h2 : DataW.trod enc Try.prog w base spare held n 38 [c4, c5, c6, c7] = some x2 := h2
    have h3 : DataW.trod enc Try.prog w base spare held n 2 ((([c0, c1, c2, c3, c4, c5, c6, c7, c8, c9, c10] : List Value).drop 8).take (Try.prog.cellsOf 2)) = some x3 := hf 3 _ rfl
    rw [e2] at h3
    replace h3 : DataW.trod enc Try.prog w base spare held n 2 [c8] = some x3 := h3
    have h4 : DataW.trod enc Try.prog w base spare held n 5 ((([c0, c1, c2, c3, c4, c5, c6, c7, c8, c9, c10] : List Value).drop 9).take (Try.prog.cellsOf 5)) = some x4 := hf 4 _ rfl
    rw [e5] at h4
    replace h4 : DataW.trod enc Try.prog w base spare held n 5 [c9] = some x4 := h4
    have h5 : DataW.trod enc Try.prog w base spare held n 3 ((([c0, c1, c2, c3, c4, c5, c6, c7, c8, c9, c10] : List Value).drop 10).take (Try.prog.cellsOf 3)) = some x5 := hf 5 _ rfl
    rw [e3] at h5
    replace h5 : DataW.trod enc Try.prog w base spare held n 3 [c10] = some x5 := h5
    obtain ⟨a0, q0, _, w0⟩ := DataW.trod_int Try.underlying5 h0
    obtain ⟨a1, q1, w1⟩ := trod_val h1
    obtain ⟨a2, q2, w2⟩ := trod_rect h2
    obtain ⟨a3, q3, _, w3⟩ := DataW.trod_int Try.underlying2 h3
    obtain ⟨a4, q4, _, w4⟩ := DataW.trod_int Try.underlying5 h4
    obtain ⟨a5, q5, _, w5⟩ := DataW.trod_int Try.underlying3 h5
    simp only [encV, encR, List.cons.injEq, and_true] at q0 q1 q2 q3 q4 q5
    refine ⟨⟨a0, a1, a2, a3, a4, a5⟩, ?_, bounds_u8 w0, w1, w2, bounds_i64 w3, bounds_u8 w4, bounds_i64 w5⟩
    simp only [encN]
    simp [q0, q1, q2, q3, q4, q5]

instance : Inhabited Nd := ⟨⟨0, zeroV, zeroR, 0, 0, 0⟩⟩

/-- The cells of a row of records, read one record at a time, are the records' cells in a row. -/
theorem cells_flat {α : Type} {enc : α → List Value} {m : Nat} (hm : ∀ a, (enc a).length = m) (w : World) (g o : Nat) : ∀ (L : List α), (∀ (i : Nat) (a : α), L[i]? = some a → Cells w g (o + i * m) (enc a)) → Cells w g o (L.flatMap enc) := by
  intro L h j v hv
  by_cases hm0 : m = 0
  · have : (L.flatMap enc).length = 0 := by rw [flat_length' hm, hm0, Nat.mul_zero]
    rw [List.getElem?_eq_none (by omega)] at hv
    cases hv
  have hlen : (L.flatMap enc).length = L.length * m := flat_length' hm L
  have hj : j < (L.flatMap enc).length := (List.getElem?_eq_some_iff.1 hv).1
  have hi : j / m < L.length := by rw [Nat.div_lt_iff_lt_mul (by omega)]; omega
  have hk : j % m < m := Nat.mod_lt _ (by omega)
  have he : j / m * m + j % m = j := by rw [Nat.mul_comm]; exact Nat.div_add_mod j m
  have h1 := flat_cell hm L (j / m) (j % m) hi hk
  rw [he, hv] at h1
  have h2 := h (j / m) L[j / m] (List.getElem?_eq_getElem hi) (j % m) v h1.symm
  rw [show o + j / m * m + j % m = o + j by omega] at h2
  exact h2

set_option maxRecDepth 100000 in
/-- An argument that is a slice of nodes reads as cells. -/
theorem open_tree {v : Value} {d : DataW H} {p : List MemPlace} (hv : Value.okWide Try.prog w .any base 22 v) (h : DataW.Trod enc Try.prog w 0 spare held 22 v d p) : ∃ L : List Nd, Reads w v L.length (L.flatMap encN) ∧ ∀ n ∈ L, okN n := by
  obtain ⟨fuel, hf⟩ := h
  have hc : v.cells.toList = [v] := by
    obtain ⟨a, n, c, rfl⟩ := okWide_slice Try.underlying22 hv
    rfl
  rw [hc] at hf
  rcases open_slice Try.underlying22 hf with ⟨h0, _⟩ | ⟨a, len, cap, m, n, D, Pl, h0, hb, hl, hm, hmm, _, hx⟩
  · simp only [List.cons.injEq, and_true] at h0
    subst h0
    exact ⟨[], ⟨none, 0, rfl, Nat.le_refl _, Nat.zero_le _, fun h => by cases h⟩, fun _ h => by cases h⟩
  · simp only [List.cons.injEq, and_true] at h0
    subst h0
    have hlm : len ≤ m := by rw [hmm]; split <;> omega
    have e40 : Try.prog.cellsOf 40 = 11 := by kernel_rfl
    obtain ⟨F, hF⟩ := choose_lt (α := Nd) (n := len) (p := fun i nd => w.cells? 0 (a.add (i * 11)) 11 = some (encN nd) ∧ okN nd) (fun i hi => by
      obtain ⟨cs', h1, h2⟩ := hx i (by omega)
      rw [e40] at h1
      obtain ⟨nd, rfl, hw⟩ := trod_node h2
      exact ⟨nd, h1, hw⟩)
    have hlen : ((List.range len).map F).length = len := by simp
    refine ⟨(List.range len).map F, ⟨some a, cap, by rw [hlen], by omega, hm, fun hpos => ?_⟩, fun n hn => ?_⟩
    rotate_left
    · obtain ⟨i, hi, rfl⟩ := List.mem_map.1 hn
      exact (hF i (List.mem_range.1 hi)).2
    rw [hlen] at hpos
    obtain ⟨g, o, spot⟩ := a
    have hspot : spot = none := by
      obtain ⟨_, _, h3⟩ := World.cells?_some (hF 0 (by omega)).1
      have h4 := World.cell?_spot (h3 0 (by omega))
      simpa [Addr.add] using h4
    subst hspot
    have hcell : ∀ (i : Nat) (nd : Nd), ((List.range len).map F)[i]? = some nd → Cells w g (o + i * 11) (encN nd) := by
      intro i nd hnd k v hv
      have hil : i < len := by have := (List.getElem?_eq_some_iff.1 hnd).1; omega
      have hnd' : F i = nd := by simpa [hil] using hnd
      subst hnd'
      have hk : k < 11 := by have := (List.getElem?_eq_some_iff.1 hv).1; rwa [encN_len] at this
      obtain ⟨_, _, h3⟩ := World.cells?_some (hF i hil).1
      have := h3 k hk
      rw [hv, addr_add, addr_add] at this
      exact this
    refine ⟨g, o, rfl, ?_, cells_flat encN_len w g o _ hcell⟩
    have h5 := hcell 0 (F 0) (by simp [hpos]) 0 _ rfl
    simp only [World.cell?] at h5
    split at h5
    · rename_i h6
      exact (Array.getElem?_eq_some_iff.1 h6).1
    · cases h5

end
end Go.SL

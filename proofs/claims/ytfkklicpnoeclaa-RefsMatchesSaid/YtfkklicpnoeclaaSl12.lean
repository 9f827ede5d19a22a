/-
  Rows of slices: what is held behind them; bits of arithmetic.
-/
import Derived.Test.YtfkklicpnoeclaaSl11
namespace Go.SL
open Go Go.RowKit

section
variable {α : Type} {enc : α → List Value} {w0 : World}

/-- The values of a row, each a slice that reads as records, whatever else is owned. -/
def Held (enc : α → List Value) (w0 : World) (F : List Blk) (vals : List Value) (Ts : List (List α)) : Prop :=
  vals.length = Ts.length ∧ ∀ (j : Nat) (x : Value) (T : List α), vals[j]? = some x → Ts[j]? = some T → ∀ w, Mem w0 w F → Reads w x T.length (T.flatMap enc)

theorem Held.nil {F : List Blk} : Held enc w0 F [] [] := ⟨rfl, fun j x T h => by simp at h⟩
theorem Held.snoc {F : List Blk} {vals : List Value} {Ts : List (List α)} (h : Held enc w0 F vals Ts) {F' : List Blk} {v : Value} {T : List α} (hF : MSub F F') (hv : ∀ w, Mem w0 w F' → Reads w v T.length (T.flatMap enc)) : Held enc w0 F' (vals ++ [v]) (Ts ++ [T]) := by
  obtain ⟨h1, h2⟩ := h
  refine ⟨by simp [h1], fun j x U hx hU w hm => ?_⟩
  rcases Nat.lt_trichotomy j vals.length with hj | hj | hj
  · rw [List.getElem?_append_left hj] at hx
    rw [List.getElem?_append_left (by omega)] at hU
    exact h2 j x U hx hU w (hF.use hm)
  · subst hj
    simp at hx
    rw [h1] at hU
    simp at hU
    subst hx hU
    exact hv w hm
  · rw [List.getElem?_eq_none (by simp; omega)] at hx
    cases hx
theorem Held.one {F : List Blk} {vals : List Value} {Ts : List (List α)} (h : Held enc w0 F vals Ts) {j : Nat} {x : Value} {T : List α} (hx : vals[j]? = some x) (hT : Ts[j]? = some T) {w : World} (hm : Mem w0 w F) : Reads w x T.length (T.flatMap enc) := h.2 j x T hx hT w hm
theorem Held.sub {F F' : List Blk} {vals : List Value} {Ts : List (List α)} (h : Held enc w0 F vals Ts) (hF : MSub F F') : Held enc w0 F' vals Ts := ⟨h.1, fun j x T hx hT w hm => h.2 j x T hx hT w (hF.use hm)⟩
end

/-- A whole element of a row of the call's own. -/
theorem v_loadi_own {α : Type} {enc : α → List Value} {m : Nat} {P : Program} {w0 : World} {s : Slots} {H : List Blk} {ty : TypeId} {x : Operand} {t T g n' c sz i : Nat} {L : List α} {a : α} [Agg P t m] (henc : ∀ a, (enc a).length = m) (hx : ev s x = some (.pointer (some ⟨g, 0 + i * m, none⟩))) (hi : In (.own (some g) T sz n' c (L.flatMap enc)) H) (ha : L[i]? = some a) :
    VOp P w0 s H (.load t x) ty (.agg (enc a).toArray) := by
  obtain ⟨hlt, rfl⟩ := List.getElem?_eq_some_iff.1 ha
  rw [Nat.zero_add] at hx
  exact v_loads_own hx hi (flat_elem henc L i hlt) (henc _)
/-- One cell of an element of a row of the call's own. -/
theorem v_loadc_own {α : Type} {enc : α → List Value} {m : Nat} {P : Program} {w0 : World} {s : Slots} {H : List Blk} {ty : TypeId} {x : Operand} {t T g n' c sz i k : Nat} {L : List α} {a : α} {v : Value} [One P t] (henc : ∀ a, (enc a).length = m) (hx : ev s x = some (.pointer (some ⟨g, 0 + i * m + k, none⟩))) (hi : In (.own (some g) T sz n' c (L.flatMap enc)) H) (hk : k < m) (ha : L[i]? = some a) (hv : (enc a)[k]? = some v) :
    VOp P w0 s H (.load t x) ty v := by
  obtain ⟨hlt, rfl⟩ := List.getElem?_eq_some_iff.1 ha
  rw [Nat.zero_add] at hx
  exact v_load_own hx hi (by rw [flat_cell henc L i k hlt hk]; exact hv)
theorem FnAt.of_eq {P : Program} {f : FuncId} {args : List Value} {w : World} {R R' : Value → List Blk → Prop} (h : FnAt P f args w R) (hr : R = R') : FnAt P f args w R' := hr ▸ h
theorem v_max3 {P : Program} {w0 : World} {s : Slots} {H : List Blk} {ty : TypeId} {x y z : Operand} {a b c : Int} {ts : Array TypeId} (hx : ev s x = some (.int .i64 a)) (hy : ev s y = some (.int .i64 b)) (hz : ev s z = some (.int .i64 c)) :
    VOp P w0 s H (.call { callee := .builtin .max, args := #[x, y, z], argTypes := ts }) ty (.int .i64 (if (if a < b then b else a) < c then c else (if a < b then b else a))) := fun ρ w _ _ _ _ hρ _ => by
  simp [execOp, hρ x _ hx, hρ y _ hy, hρ z _ hz, resolve, invoke, builtin, Builtin.max_, Builtin.max2]
theorem v_max3N {P : Program} {w0 : World} {s : Slots} {H : List Blk} {ty : TypeId} {x y z : Operand} {a b c m : Nat} {ts : Array TypeId} (hx : ev s x = some (.int .i64 (a : Nat))) (hy : ev s y = some (.int .i64 (b : Nat))) (hz : ev s z = some (.int .i64 (c : Nat))) (hm : max (max a b) c = m) :
    VOp P w0 s H (.call { callee := .builtin .max, args := #[x, y, z], argTypes := ts }) ty (.int .i64 (m : Nat)) := by
  have h := v_max3 (P := P) (w0 := w0) (H := H) (ty := ty) (ts := ts) hx hy hz
  have e : (if (if (a : Int) < (b : Int) then (b : Int) else (a : Int)) < (c : Int) then (c : Int) else (if (a : Int) < (b : Int) then (b : Int) else (a : Int))) = ((m : Nat) : Int) := by
    subst hm
    split <;> split at * <;> omega
  rwa [e] at h
/-- A test with its region: behind it some slots are kept, and all blocks. -/
theorem w_keepR {P : Program} {n : Fr} {w0 : World} {Q : Post} {s sb : Slots} {H : List Blk} {id : Nat} {ops : Array Oper} {d : Bool} {y z : Code} (ts : List Nat) (hk : keep s ts = some sb) (h : W P n w0 (.seq (.region id ops d) y) (cutP (fun _ : Unit => sb) (fun _ => H) (fun _ => True) Q) s H) (k : W P n w0 z Q sb H) :
    W P n w0 (.seq (.region id ops d) y) (thn (W P n w0 z Q) Q) s H :=
  w_cut' _ _ _ h fun _ _ => k
/-- A loop in its block: what is known behind it. -/
theorem w_cutB {P : Program} {n : Fr} {w0 : World} {Q : Post} {s : Slots} {H : List Blk} {ι : Type} {id : Nat} {c z : Code} (sI : ι → Slots) (HI : ι → List Blk) (ok : ι → Prop) (h : W P n w0 (.block id c) (cutP sI HI ok Q) s H) (k : ∀ i, ok i → W P n w0 z Q (sI i) (HI i)) :
    W P n w0 (.block id c) (thn (W P n w0 z Q) Q) s H :=
  w_cut' _ _ _ h k
end Go.SL

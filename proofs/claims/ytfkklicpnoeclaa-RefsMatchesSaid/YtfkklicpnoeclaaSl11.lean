/-
  The state behind an 'if' and at the head of a loop, told by the slots that are kept; readings of what came in.
-/
import Derived.Test.YtfkklicpnoeclaaSl10
namespace Go.SL
open Go Go.RowKit

/-- The slots named, with what they hold. -/
def keep (s : Slots) : List Nat → Option Slots
  | [] => some []
  | t :: r => match look s t, keep s r with
    | some v, some s' => some ((t, v) :: s')
    | _, _ => none

theorem keep_sub {s : Slots} : ∀ {ts : List Nat} {s' : Slots}, keep s ts = some s' → Sub s' s
  | [], s', h => by simp only [keep, Option.some.injEq] at h; subst h; exact Sub.nil s
  | t :: r, s', h => by
    simp only [keep] at h
    split at h
    · rename_i v s1 hv hs
      simp only [Option.some.injEq] at h
      subst h
      exact Sub.cons hv (keep_sub hs)
    · cases h

theorem look_append (r b : Slots) (u : Nat) : look (r ++ b) u = (match look r u with | some v => some v | none => look b u) := by
  induction r with
  | nil => rfl
  | cons y r ih =>
    obtain ⟨p, q⟩ := y
    rw [List.cons_append, look_cons, look_cons, ih]
    split <;> rfl

theorem Sub.append {a b s : Slots} (ha : Sub a s) (hb : Sub b s) : Sub (a ++ b) s := by
  intro u z hu
  rw [look_append] at hu
  split at hu
  · rename_i v hv
    rw [← hu]
    exact ha u v hv
  · exact hb u z hu

theorem Sub.trans {a b c : Slots} (h : Sub a b) (k : Sub b c) : Sub a c := fun t v ht => k t v (h t v ht)

/-- One shape of slots and blocks for all ways that go on; the ways that leave are as they were. -/
def cutP {ι : Type} (sI : ι → Slots) (HI : ι → List Blk) (ok : ι → Prop) (Q : Post) : Post
  | .normal, s, H => ∃ i, ok i ∧ Sub (sI i) s ∧ MSub (HI i) H
  | e, s, H => Q e s H

section
variable {P : Program} {n : Fr} {w0 : World} {Q : Post} {s sb : Slots} {H : List Blk} {ι : Type} {sI : ι → Slots} {HI : ι → List Blk} {ok : ι → Prop} {id : Nat}

theorem cut_n (i : ι) (ho : ok i) (hs : Sub (sI i) s) (hH : MSub (HI i) H) : cutP sI HI ok Q .normal s H := ⟨i, ho, hs, hH⟩
theorem cut_r (h : Q .ret s H) : cutP sI HI ok Q .ret s H := h
theorem cut_e (h : Q (.exit id) s H) : cutP sI HI ok Q (.exit id) s H := h

theorem w_cut' {x z : Code} (sI : ι → Slots) (HI : ι → List Blk) (ok : ι → Prop) (h : W P n w0 x (cutP sI HI ok Q) s H) (k : ∀ i, ok i → W P n w0 z Q (sI i) (HI i)) :
    W P n w0 x (thn (W P n w0 z Q) Q) s H := by
  refine w_mono (fun e s' H' hq => ?_) h
  cases e with
  | normal =>
    obtain ⟨i, ho, h1, h2⟩ := hq
    exact w_sub h1 (w_msub h2 (k i ho))
  | _ => exact hq

/-- An 'if' behind which some slots are kept, and all blocks. -/
theorem w_keep {c : Operand} {x y z : Code} (ts : List Nat) (hk : keep s ts = some sb) (h : W P n w0 (.cond c x y) (cutP (fun _ : Unit => sb) (fun _ => H) (fun _ => True) Q) s H) (k : W P n w0 z Q sb H) :
    W P n w0 (.cond c x y) (thn (W P n w0 z Q) Q) s H :=
  w_cut' _ _ _ h fun _ _ => k

/-- A loop: the slots named keep what they hold; the others are told by a ghost. -/
theorem w_loopK {c : Code} (ts : List Nat) (hk : keep s ts = some sb) (sI : ι → Slots) (HI : ι → List Blk) (ok : ι → Prop) (μ : ι → Nat) (i0 : ι) (h0 : ok i0) (hs0 : Sub (sI i0) s) (hH0 : MSub (HI i0) H)
    (round : ∀ i, ok i → W P n w0 c (thn (fun s' H' => ∃ i', ok i' ∧ μ i' < μ i ∧ Sub (sI i') s' ∧ Sub sb s' ∧ MSub (HI i') H') Q) (sI i ++ sb) (HI i)) : W P n w0 (.loop c) Q s H := by
  refine w_loop (fun i => sI i ++ sb) HI ok μ i0 h0 (hs0.append (keep_sub hk)) hH0 fun i hi => w_mono (fun e s' H' hq => ?_) (round i hi)
  cases e with
  | normal =>
    obtain ⟨i', h1, h2, h3, h4, h5⟩ := hq
    exact ⟨i', h1, h2, h3.append h4, h5⟩
  | _ => exact hq

/-- In the midst of a region: some row with an element lies in a block. -/
theorem wl_some {ops : Array Oper} {rest : List Oper} {A : Option Nat} {t sz m cap : Nat} {xs : List Value} (hi : In (.own A t sz m cap xs) H) (hm : 0 < m) (h : ∀ g, A = some g → WL P n w0 ops rest Q s H) : WL P n w0 ops rest Q s H := fun a w hs hmem => by
  obtain ⟨_, _, _, h4⟩ := (hmem.on _ hi.mem).1
  cases A with
  | none => obtain ⟨rfl, _⟩ := h4; omega
  | some g => exact h g rfl a w hs hmem

/-- The first elements of a row of the call's own. -/
theorem Reads.of_own_take {w : World} {A : Option Nat} {t sz m cap k : Nat} {xs : List Value} (hm : Mem w0 w H) (hi : In (.own A t sz m cap xs) H) (hk : k ≤ m) : Reads w (sl A k cap) k (xs.take (k * sz)) := by
  obtain ⟨h1, h2, h3, h4⟩ := (hm.on _ hi.mem).1
  refine ⟨_, cap, rfl, by omega, h3, fun hpos => ?_⟩
  cases A with
  | none => obtain ⟨rfl, _⟩ := h4; omega
  | some g => exact ⟨g, 0, rfl, (Ro.of_own hm hi).take⟩

end

theorem Ro.cellV {w : World} {g o : Nat} {xs : List Value} (h : Ro w g o xs) (i : Nat) {v : Value} (hi : xs[i]? = some v) : Ro w g (o + i * 1) [v] := by
  obtain ⟨hlt, he⟩ := List.getElem?_eq_some_iff.1 hi
  have h1 := (h.drop (k := i)).take (k := 1)
  rw [List.drop_eq_getElem_cons hlt, he] at h1
  rw [Nat.mul_one]
  exact h1
theorem v_neq_same {P : Program} {w0 : World} {s : Slots} {H : List Blk} {ty t t' : TypeId} {x y : Operand} {k : IntKind} {a : Int} (hx : ev s x = some (.int k a)) (hy : ev s y = some (.int k a)) : VOp P w0 s H (.binOp .neq t x y t') ty (.bool false) := by
  have h := v_neq (P := P) (w0 := w0) (H := H) (ty := ty) (t := t) (t' := t') hx hy
  rwa [decide_eq_false (by simp)] at h
theorem v_eql_same {P : Program} {w0 : World} {s : Slots} {H : List Blk} {ty t t' : TypeId} {x y : Operand} {k : IntKind} {a : Int} (hx : ev s x = some (.int k a)) (hy : ev s y = some (.int k a)) : VOp P w0 s H (.binOp .eql t x y t') ty (.bool true) := by
  have h := v_eql (P := P) (w0 := w0) (H := H) (ty := ty) (t := t) (t' := t') hx hy
  rwa [decide_eq_true (by rfl)] at h
end Go.SL

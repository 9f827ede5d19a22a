/-
  Lemmas and walks, packed: Sl1 Sl2 Sl3 Sl4 Sl5 Sl6 Sl7 Sv.
-/
import Derived.WalkKit
import Derived.Deep.Quiet
import Derived.Maps.AppendAt
import Derived.Laws.OwnMore
import Derived.Deep.LoopGhost
import Derived.Great.BuildSlice
import Derived.WalkSpells
set_option linter.unusedSimpArgs false
set_option linter.unusedVariables false
/-
  A symbolic heap over the kit's walk: a judgement W that hides the world behind a list of the blocks that the call owns, and the frame behind a list of the slots that are known. One rule for each form of code and each operation.
-/
namespace Go.SL
open Go Go.RowKit

/-! ### What is owned -/

inductive Blk where
  | box (g : Nat) (ty : TypeId) (xs : List Value)
  | own (A : Option Nat) (ty : TypeId) (size n cap : Nat) (xs : List Value)
  | obj (g : Nat) (o : Obj)
  | byt (g : Nat) (ty : TypeId) (n cap : Nat) (xs : List Value)

def Blk.key : Blk → Option Nat
  | .box g _ _ => some g
  | .own A _ _ _ _ _ => A
  | .obj g _ => some g
  | .byt g _ _ _ _ => some g

def sl (A : Option Nat) (n cap : Nat) : Value := .slice (A.map fun g => ⟨g, 0, none⟩) n cap

def Blk.on (w : World) : Blk → Prop
  | .box g ty xs => w.heap[g]? = some (.cells xs.toArray ty (0, 0))
  | .own A ty size n cap xs => xs.length = n * size ∧ n ≤ cap ∧ cap ≤ maxLen ∧
      match A with
      | none => n = 0 ∧ cap = 0
      | some g => ∃ junk : List Value, (xs ++ junk).length = cap * size ∧ w.heap[g]? = some (.cells (xs ++ junk).toArray ty (0, 0))
  | .obj g o => w.heap[g]? = some o
  | .byt g ty n cap xs => xs.length = n ∧ n ≤ cap ∧ ∃ junk : List Value, (xs ++ junk).length = cap ∧ w.heap[g]? = some (.cells (xs ++ junk).toArray ty (cap, cap + 1))

def Apart (a b : Blk) : Prop := ∀ k, a.key = some k → b.key ≠ some k

structure Mem (w0 w : World) (H : List Blk) : Prop where
  below : Below w0.heap.size w0 w
  on : ∀ b ∈ H, b.on w ∧ ∀ k, b.key = some k → w0.heap.size ≤ k
  apart : H.Pairwise Apart

theorem Apart.symm {a b : Blk} (h : Apart a b) : Apart b a := fun k hk hk' => h k hk' hk

/-! ### What is known of the frame -/

abbrev Slots := List (Nat × Value)

def look : Slots → Nat → Option Value
  | [], _ => none
  | (u, v) :: r, t => bif Nat.beq u t then some v else look r t

def ev (s : Slots) : Operand → Option Value
  | .tmp t => look s t
  | .const v => some v
  | .global g => some (.pointer (some ⟨g, 0, none⟩))
  | .func f => some (.func (.func f) #[] #[])

/-- A frame: how many temporaries it has, and its deferred calls. -/
structure Fr where
  sz : Nat
  ds : List Deferred

structure St (n : Fr) (s : Slots) (a : Act) : Prop where
  size : a.tmps.size = n.sz
  defers : a.defers = n.ds
  has : ∀ t v, look s t = some v → a.tmps[t]? = some v

theorem St.eval {n : Fr} {s : Slots} {a : Act} (h : St n s a) : ∀ x v, ev s x = some v → a.eval x = v := by
  intro x v hx
  cases x with
  | tmp t => simp only [ev] at hx; simp [Act.eval, Array.getD_eq_getD_getElem?, h.has t v hx]
  | const v => simp only [ev, Option.some.injEq] at hx; exact hx
  | global g => simp only [ev, Option.some.injEq] at hx; exact hx
  | func f => simp only [ev, Option.some.injEq] at hx; exact hx

theorem look_cons (s : Slots) (d t : Nat) (v : Value) : look ((d, v) :: s) t = if d = t then some v else look s t := by
  simp only [look]
  cases hb : Nat.beq d t with
  | true => have h := Nat.eq_of_beq_eq_true hb; simp [h]
  | false => have h := Nat.ne_of_beq_eq_false hb; simp [h]

theorem St.put {n : Fr} {s : Slots} {a : Act} (h : St n s a) {d : Nat} (hd : d < n.sz) (v : Value) : St n ((d, v) :: s) (a.put (some d) v) := by
  refine ⟨by simp [Act.put, h.size], h.defers, fun t u hu => ?_⟩
  rw [look_cons] at hu
  by_cases e : d = t
  · subst e
    simp only [if_true, Option.some.injEq] at hu
    subst hu
    simp [Act.put, h.size, hd]
  · rw [if_neg e] at hu
    simp only [Act.put]
    rw [Array.getElem?_setIfInBounds_ne e]
    exact h.has t u hu

theorem St.put_none {n : Fr} {s : Slots} {a : Act} (h : St n s a) (v : Value) : St n s (a.put none v) := h

/-- Every slot that s1 knows, s2 knows to hold the same. -/
def Sub (s1 s2 : Slots) : Prop := ∀ t v, look s1 t = some v → look s2 t = some v

theorem Sub.refl (s : Slots) : Sub s s := fun _ _ h => h
theorem Sub.nil (s : Slots) : Sub [] s := fun _ _ h => by simp [look] at h
theorem Sub.cons {s1 s2 : Slots} {t : Nat} {v : Value} (h : look s2 t = some v) (hs : Sub s1 s2) : Sub ((t, v) :: s1) s2 := by
  intro u x hx
  rw [look_cons] at hx
  by_cases e : t = u
  · subst e
    rw [if_pos rfl] at hx
    rw [h]; exact hx
  · rw [if_neg e] at hx
    exact hs u x hx

theorem St.sub {n : Fr} {s1 s2 : Slots} {a : Act} (h : St n s2 a) (hs : Sub s1 s2) : St n s1 a := ⟨h.size, h.defers, fun t v ht => h.has t v (hs t v ht)⟩

/-! ### The judgement -/

abbrev Post := Exit → Slots → List Blk → Prop

def post (n : Fr) (w0 : World) (Q : Post) : Exit → Act → World → Prop := fun e a w => ∃ s H, St n s a ∧ Mem w0 w H ∧ Q e s H

def W (P : Program) (n : Fr) (w0 : World) (c : Code) (Q : Post) (s : Slots) (H : List Blk) : Prop :=
  ∀ a w, St n s a → Mem w0 w H → c.wp P (post n w0 Q) a w

def WL (P : Program) (n : Fr) (w0 : World) (ops : Array Oper) (rest : List Oper) (Q : Post) (s : Slots) (H : List Blk) : Prop :=
  ∀ a w, St n s a → Mem w0 w H → wpList P ops (post n w0 Q) rest a w

def thn (K : Slots → List Blk → Prop) (Q : Post) : Post
  | .normal, s, H => K s H
  | e, s, H => Q e s H

def blk (id : Nat) (Q : Post) : Post
  | .exit id', s, H => if id' = id then Q .normal s H else Q (.exit id') s H
  | e, s, H => Q e s H

section
variable {P : Program} {n : Fr} {w0 : World} {Q : Post} {s : Slots} {H : List Blk}

theorem w_mono {c : Code} {Q' : Post} (hq : ∀ e s H, Q e s H → Q' e s H) (h : W P n w0 c Q s H) : W P n w0 c Q' s H :=
  fun a w hs hm => wp_mono (h a w hs hm) fun _ _ _ ⟨s, H, h1, h2, h3⟩ => ⟨s, H, h1, h2, hq _ _ _ h3⟩

theorem w_sub {c : Code} {s' : Slots} (hs : Sub s' s) (h : W P n w0 c Q s' H) : W P n w0 c Q s H :=
  fun a w hst hm => h a w (hst.sub hs) hm

theorem w_seq {x y : Code} (h : W P n w0 x (thn (W P n w0 y Q) Q) s H) : W P n w0 (.seq x y) Q s H := by
  intro a w hs hm
  refine wp_seq (wp_mono (h a w hs hm) ?_)
  rintro e a' w' ⟨s', H', h1, h2, h3⟩
  cases e with
  | normal => exact h3 a' w' h1 h2
  | _ => exact ⟨s', H', h1, h2, h3⟩

theorem w_skip (h : Q .normal s H) : W P n w0 .skip Q s H := fun _ _ hs hm => wp_skip ⟨s, H, hs, hm, h⟩
theorem w_ret (h : Q .ret s H) : W P n w0 .ret Q s H := fun _ _ hs hm => wp_ret ⟨s, H, hs, hm, h⟩
theorem w_exit {id : Nat} (h : Q (.exit id) s H) : W P n w0 (.exit id) Q s H := fun _ _ hs hm => wp_exit ⟨s, H, hs, hm, h⟩

theorem w_block {id : Nat} {c : Code} (h : W P n w0 c (blk id Q) s H) : W P n w0 (.block id c) Q s H := by
  intro a w hs hm
  refine wp_block (wp_mono (h a w hs hm) ?_)
  rintro e a' w' ⟨s', H', h1, h2, h3⟩
  cases e with
  | exit id' =>
    simp only [Exit.inBlock, blk] at h3 ⊢
    split
    · rename_i hid; rw [if_pos hid] at h3; exact ⟨s', H', h1, h2, h3⟩
    · rename_i hid; rw [if_neg hid] at h3; exact ⟨s', H', h1, h2, h3⟩
  | _ => exact ⟨s', H', h1, h2, h3⟩

theorem w_cond_true {c : Operand} {x y : Code} (hc : ev s c = some (.bool true)) (h : W P n w0 x Q s H) : W P n w0 (.cond c x y) Q s H :=
  fun a w hs hm => wp_cond_true (hs.eval c _ hc) (h a w hs hm)
theorem w_cond_false {c : Operand} {x y : Code} (hc : ev s c = some (.bool false)) (h : W P n w0 y Q s H) : W P n w0 (.cond c x y) Q s H :=
  fun a w hs hm => wp_cond_false (hs.eval c _ hc) (h a w hs hm)

theorem w_cond {c : Operand} {x y : Code} {b : Bool} (hc : ev s c = some (.bool b)) (ht : b = true → W P n w0 x Q s H) (hf : b = false → W P n w0 y Q s H) :
    W P n w0 (.cond c x y) Q s H :=
  fun a w hs hm => wp_cond_split (hs.eval c _ hc) (fun e => ht e a w hs hm) (fun e => hf e a w hs hm)

end

/-! ### Picking out of what is owned -/

inductive In (b : Blk) : List Blk → Prop
  | hd {T : List Blk} : In b (b :: T)
  | tl {x : Blk} {T : List Blk} : In b T → In b (x :: T)

inductive Sel (b : Blk) : List Blk → List Blk → Prop
  | hd {T : List Blk} : Sel b (b :: T) T
  | tl {x : Blk} {T T' : List Blk} : Sel b T T' → Sel b (x :: T) (x :: T')

theorem In.mem {b : Blk} {H : List Blk} (h : In b H) : b ∈ H := by
  induction h with
  | hd => exact List.mem_cons_self
  | tl _ ih => exact List.mem_cons_of_mem _ ih

theorem Sel.perm {b : Blk} {H T : List Blk} (h : Sel b H T) : H.Perm (b :: T) := by
  induction h with
  | hd => exact .refl _
  | tl _ ih => exact (ih.cons _).trans (.swap _ _ _)

theorem Mem.perm {w0 w : World} {H H' : List Blk} (h : Mem w0 w H) (hp : H.Perm H') : Mem w0 w H' :=
  ⟨h.below, fun b hb => h.on b (hp.mem_iff.2 hb), (hp.pairwise_iff (fun {_ _} h => Apart.symm h)).1 h.apart⟩

theorem Mem.sel {w0 w : World} {H T : List Blk} {b : Blk} (h : Mem w0 w H) (hs : Sel b H T) : Mem w0 w (b :: T) := h.perm hs.perm

theorem Mem.tail {w0 w : World} {T : List Blk} {b : Blk} (h : Mem w0 w (b :: T)) : Mem w0 w T :=
  ⟨h.below, fun x hx => h.on x (List.mem_cons_of_mem _ hx), (List.pairwise_cons.1 h.apart).2⟩

theorem Mem.left {w0 w : World} {H T : List Blk} (h : Mem w0 w (H ++ T)) : Mem w0 w H :=
  ⟨h.below, fun x hx => h.on x (List.mem_append_left _ hx), (List.pairwise_append.1 h.apart).1⟩

theorem Mem.right {w0 w : World} {H T : List Blk} (h : Mem w0 w (H ++ T)) : Mem w0 w T :=
  ⟨h.below, fun x hx => h.on x (List.mem_append_right _ hx), (List.pairwise_append.1 h.apart).2.1⟩

/-- What is owned in H' serves as H. -/
def MSub (H H' : List Blk) : Prop := ∃ T, H'.Perm (H ++ T)

theorem MSub.use {H H' : List Blk} (h : MSub H H') {w0 w : World} (hm : Mem w0 w H') : Mem w0 w H := by
  obtain ⟨T, hp⟩ := h
  exact (hm.perm hp).left
theorem MSub.refl (H : List Blk) : MSub H H := ⟨[], by simp⟩
theorem MSub.nil (H : List Blk) : MSub [] H := ⟨H, by simp⟩
theorem MSub.pick {b : Blk} {H H' T : List Blk} (hs : Sel b H' T) (h : MSub H T) : MSub (b :: H) H' := by
  obtain ⟨U, hp⟩ := h
  exact ⟨U, hs.perm.trans (hp.cons b)⟩
theorem MSub.trans {H H' H'' : List Blk} (h : MSub H H') (k : MSub H' H'') : MSub H H'' := by
  obtain ⟨T, hT⟩ := h
  obtain ⟨U, hU⟩ := k
  exact ⟨T ++ U, hU.trans (by rw [← List.append_assoc]; exact hT.append_right U)⟩
theorem MSub.drop {H H' T : List Blk} {b : Blk} (hs : Sel b H' T) (h : MSub H T) : MSub H H' := by
  obtain ⟨U, hp⟩ := h
  refine ⟨b :: U, hs.perm.trans ((hp.cons b).trans ?_)⟩
  exact List.perm_middle.symm

section
variable {P : Program} {n : Fr} {w0 : World} {Q : Post} {s : Slots} {H : List Blk}

theorem w_msub {c : Code} {H' : List Blk} (hH : MSub H' H) (h : W P n w0 c Q s H') : W P n w0 c Q s H :=
  fun a w hst hm => h a w hst (hH.use hm)

/-- A loop: the state at its head, by a ghost of any type. -/
theorem w_loop {ι : Type} {c : Code} (sI : ι → Slots) (HI : ι → List Blk) (ok : ι → Prop) (μ : ι → Nat) (i0 : ι) (h0 : ok i0) (hs0 : Sub (sI i0) s) (hH0 : MSub (HI i0) H)
    (round : ∀ i, ok i → W P n w0 c (thn (fun s' H' => ∃ i', ok i' ∧ μ i' < μ i ∧ Sub (sI i') s' ∧ MSub (HI i') H') Q) (sI i) (HI i)) : W P n w0 (.loop c) Q s H := by
  intro a w hs hm
  refine wp_loop_ghost (fun k a' w' => ∃ i, ok i ∧ μ i = k ∧ St n (sI i) a' ∧ Mem w0 w' (HI i)) (μ i0) ⟨i0, h0, rfl, hs.sub hs0, hH0.use hm⟩ ?_
  rintro k a1 w1 ⟨i, hi, rfl, hs1, hm1⟩
  refine wp_mono (round i hi a1 w1 hs1 hm1) ?_
  rintro e a' w' ⟨s', H', h1, h2, h3⟩
  cases e with
  | normal =>
    obtain ⟨i', hi', hlt, hsub, hms⟩ := h3
    exact ⟨μ i', hlt, i', hi', rfl, h1.sub hsub, hms.use h2⟩
  | _ => exact ⟨s', H', h1, h2, h3⟩

end


/-! ### How what is owned changes -/

theorem Blk.on_of_block {w w' : World} {b : Blk} (h : b.on w) (hk : ∀ k, b.key = some k → w'.heap[k]? = w.heap[k]?) : b.on w' := by
  cases b with
  | box g ty xs => simp only [Blk.on] at h ⊢; rw [hk g rfl]; exact h
  | obj g o => simp only [Blk.on] at h ⊢; rw [hk g rfl]; exact h
  | byt g ty m cap xs => simp only [Blk.on] at h ⊢; rw [hk g rfl]; exact h
  | own A ty size m cap xs =>
    simp only [Blk.on] at h ⊢
    refine ⟨h.1, h.2.1, h.2.2.1, ?_⟩
    have h4 := h.2.2.2
    cases A with
    | none => exact h4
    | some g =>
      obtain ⟨junk, hl, hg⟩ := h4
      exact ⟨junk, hl, (hk g rfl).trans hg⟩

theorem Blk.key_lt {w : World} {b : Blk} (h : b.on w) {k : Nat} (hk : b.key = some k) : k < w.heap.size := by
  have : ∃ o, w.heap[k]? = some o := by
    cases b with
    | box g ty xs => simp only [Blk.key, Option.some.injEq] at hk; subst hk; exact ⟨_, h⟩
    | obj g o => simp only [Blk.key, Option.some.injEq] at hk; subst hk; exact ⟨_, h⟩
    | byt g ty m cap xs => simp only [Blk.key, Option.some.injEq] at hk; subst hk; obtain ⟨_, _, junk, _, hg⟩ := h; exact ⟨_, hg⟩
    | own A ty size m cap xs =>
      simp only [Blk.key] at hk
      subst hk
      obtain ⟨_, _, _, junk, _, hg⟩ := h
      exact ⟨_, hg⟩
  obtain ⟨o, ho⟩ := this
  exact (Array.getElem?_eq_some_iff.1 ho).1

theorem Mem.refl (w : World) : Mem w w [] := ⟨.refl _ _, (fun _ h => by cases h), List.Pairwise.nil⟩

theorem Mem.drew {w0 w : World} {H : List Blk} (h : Mem w0 w H) : Mem w0 { w with drawn := w.drawn + 1 } H :=
  ⟨h.below.drew, fun b hb => ⟨Blk.on_of_block (h.on b hb).1 fun _ _ => rfl, (h.on b hb).2⟩, h.apart⟩

theorem Mem.drewN {w0 w : World} {H : List Blk} (h : Mem w0 w H) (k : Nat) : Mem w0 { w with drawn := k } H :=
  ⟨⟨h.below.os, h.below.tape, h.below.output, h.below.size, h.below.block⟩, fun b hb => ⟨Blk.on_of_block (h.on b hb).1 fun _ _ => rfl, (h.on b hb).2⟩, h.apart⟩

/-- The head's block turns, or lies in a new block; all else is as it was. -/
theorem Mem.upd {w0 w w' : World} {b b' : Blk} {T : List Blk} (h : Mem w0 w (b :: T)) (hg : w.grownBy w' b.key) (hb : b'.on w')
    (hk : ∀ k, b'.key = some k → b.key = some k ∨ w.heap.size ≤ k) : Mem w0 w' (b' :: T) := by
  have hap := List.pairwise_cons.1 h.apart
  have hrow : ∀ k, b.key = some k → w0.heap.size ≤ k := (h.on b List.mem_cons_self).2
  have hsz : w0.heap.size ≤ w.heap.size := h.below.size
  have hlt : ∀ x ∈ T, ∀ k, x.key = some k → k < w.heap.size := fun x hx k hxk => Blk.key_lt (h.on x (List.mem_cons_of_mem _ hx)).1 hxk
  refine ⟨h.below.grown hg hsz hrow, fun x hx => ?_, List.pairwise_cons.2 ⟨fun x hx k hk1 hk2 => ?_, hap.2⟩⟩
  · rcases List.mem_cons.1 hx with rfl | hx
    · refine ⟨hb, fun k hk1 => ?_⟩
      rcases hk k hk1 with h1 | h1
      · exact hrow k h1
      · omega
    · refine ⟨Blk.on_of_block (h.on x (List.mem_cons_of_mem _ hx)).1 fun k hxk => ?_, (h.on x (List.mem_cons_of_mem _ hx)).2⟩
      exact hg.block k (hlt x hx k hxk) fun e => hap.1 x hx k e.symm hxk
  · rcases hk k hk1 with h1 | h1
    · exact hap.1 x hx k h1 hk2
    · have := hlt x hx k hk2
      omega

/-- A new block. -/
theorem Mem.new {w0 w w' : World} {b : Blk} {T : List Blk} (h : Mem w0 w T) (hg : w.grownBy w' none) (hb : b.on w') (hk : ∀ k, b.key = some k → w.heap.size ≤ k) : Mem w0 w' (b :: T) := by
  have h0 : Mem w0 w (.own none 0 0 0 0 [] :: T) :=
    ⟨h.below, fun x hx => by
      rcases List.mem_cons.1 hx with rfl | hx
      · exact ⟨⟨by simp, Nat.le_refl _, Nat.zero_le _, rfl, rfl⟩, (fun k hk => by cases hk)⟩
      · exact h.on x hx, List.pairwise_cons.2 ⟨(fun x _ k hk => by cases hk), h.apart⟩⟩
  exact h0.upd (b := .own none 0 0 0 0 []) hg hb fun k h1 => .inr (hk k h1)

/-- What a call that began in w leaves, beside what was owned before. -/
theorem Mem.call {w0 w w' : World} {H H' : List Blk} (h : Mem w0 w H) (h' : Mem w w' H') : Mem w0 w' (H' ++ H) := by
  have hsz : w0.heap.size ≤ w.heap.size := h.below.size
  have hold : ∀ x ∈ H, ∀ k, x.key = some k → k < w.heap.size := fun x hx k hxk => Blk.key_lt (h.on x hx).1 hxk
  refine ⟨h.below.trans (h'.below.mono hsz), fun x hx => ?_, List.pairwise_append.2 ⟨h'.apart, h.apart, fun x hx y hy k hk1 hk2 => ?_⟩⟩
  · rcases List.mem_append.1 hx with hx | hx
    · exact ⟨(h'.on x hx).1, fun k hk => Nat.le_trans hsz ((h'.on x hx).2 k hk)⟩
    · exact ⟨Blk.on_of_block (h.on x hx).1 fun k hk => h'.below.block k (hold x hx k hk), (h.on x hx).2⟩
  · have h1 := (h'.on x hx).2 k hk1
    have h2 := hold y hy k hk2
    omega

end Go.SL

/-
  The rules of the judgement W, operation by operation: operations that only yield a value; stores, new blocks, append; calls; entering a function and leaving it.
-/
namespace Go.SL
open Go Go.RowKit

/-! ### Operations that yield a value and leave the world alone -/

/-- In every world in which H is owned the operation yields v. -/
def VOp (P : Program) (w0 : World) (s : Slots) (H : List Blk) (op : Op) (ty : TypeId) (v : Value) : Prop :=
  ∀ (ρ : Operand → Value) (w : World) (d : Option Tmp) (p : String) (af : Array Edge) (g : Option (Nat × Bool)),
    (∀ x u, ev s x = some u → ρ x = u) → Mem w0 w H → (execOp ρ ⟨d, op, ty, p, af, g⟩).run P w = .ok (.value v) w

section
variable {P : Program} {n : Fr} {w0 : World} {Q : Post} {s : Slots} {H : List Blk} {ops : Array Oper} {rest : List Oper} {ty : TypeId} {p : String} {af : Array Edge}

theorem wl_nil (h : Q .normal s H) : WL P n w0 ops [] Q s H := fun _ _ hs hm => wpList_nil ⟨s, H, hs, hm, h⟩

theorem w_region {id : Nat} {l : List Oper} (h : WL P n w0 l.toArray l Q s H) : W P n w0 (.region id l.toArray false) Q s H :=
  fun a w hs hm => wp_region_lit (h a w hs hm)

theorem wl_exec {o : Oper} {v : Value} (hg : Region.wanted o = fun _ => true) (d : Nat) (hd : o.dst = some d) (hn : Nat.blt d n.sz = true)
    (h : ∀ a w, St n s a → Mem w0 w H → (execOp a.eval o).run P w = .ok (.value v) w)
    (k : WL P n w0 ops rest Q ((d, v) :: s) H) : WL P n w0 ops (o :: rest) Q s H := by
  intro a w hs hm
  refine wpList_step fun K hK => ?_
  rw [hg, if_pos rfl]
  simp only [Oper.wp, h a w hs hm, Oper.upon, hd]
  exact hK _ _ (k _ _ (hs.put (Nat.blt_eq ▸ hn) v) hm)

theorem wl_v {op : Op} {d : Nat} {v : Value} (hn : Nat.blt d n.sz = true) (hv : VOp P w0 s H op ty v) (k : WL P n w0 ops rest Q ((d, v) :: s) H) :
    WL P n w0 ops (⟨some d, op, ty, p, af, none⟩ :: rest) Q s H :=
  wl_exec rfl d rfl hn (fun _ _ hs hm => hv _ _ _ _ _ _ hs.eval hm) k


/-! ### Facts on the program's types, found by the instance search -/

class One (P : Program) (t : TypeId) : Prop where
  out : ∃ d, P.underlying t = some d ∧ (match d with | .struct _ | .array _ _ => false | _ => true) = true
class Agg (P : Program) (t : TypeId) (m : outParam Nat) : Prop where
  out : ∃ d i, P.underlying t = some d ∧ (match d with | .struct _ | .array _ _ => true | _ => false) = true ∧ P.info? t = some i ∧ i.size = m
class Size (P : Program) (t : TypeId) (m : outParam Nat) : Prop where
  out : ∃ i, P.info? t = some i ∧ i.size = m
class Und (P : Program) (t : TypeId) (d : outParam TypeDesc) : Prop where
  out : P.underlying t = some d
/-- Field f of the struct type t: its offset. -/
class Fld (P : Program) (t : TypeId) (f : Nat) (o : outParam Nat) : Prop where
  out : ∃ fs fl i, P.underlying t = some (.struct fs) ∧ fs[f]? = some fl ∧ fl.offset = o ∧ P.info? fl.type = some i ∧ i.size ≠ 0
/-- The zero value's cells, the bytes and cells of one. -/
class Zero (P : Program) (t : TypeId) (z : outParam Value) : Prop where
  out : ∃ i, P.info? t = some i ∧ i.zero = some z
class Elem (P : Program) (t : TypeId) (size bytes : outParam Nat) : Prop where
  out : ∃ i z, P.info? t = some i ∧ i.size = size ∧ i.bytes = bytes ∧ i.zero = some z ∧ z.cells.size = size ∧ 0 < size
class Callable (P : Program) (f : FuncId) : Prop where
  out : ∀ args w, (callFunc f args).run P w = .ok (.enter f args) w

theorem callable_of {f : FuncId} {fn : Func} (h : P.funcs[f]? = some fn) (hn : (fn.name == "runtime.NumGoroutine") = false) (hb : fn.body.isNone = false) : Callable P f :=
  ⟨fun args w => by
    have hb' : fn.body ≠ none := by intro e; simp [e] at hb
    have hn' : fn.name ≠ "runtime.NumGoroutine" := by simpa using hn
    simp [callFunc, h, hn', hb']⟩

theorem v_move {x : Operand} {v : Value} (hx : ev s x = some v) : VOp P w0 s H (.move x) ty v := fun ρ w _ _ _ _ hρ _ => by
  simp [execOp, hρ x v hx]
theorem v_assign {x : Operand} {v : Value} (hx : ev s x = some v) : VOp P w0 s H (.assign x) ty v := fun ρ w _ _ _ _ hρ _ => by
  simp [execOp, hρ x v hx]
theorem v_pick_t {c a b : Operand} {v : Value} (hc : ev s c = some (.bool true)) (ha : ev s a = some v) : VOp P w0 s H (.pick c a b) ty v := fun ρ w _ _ _ _ hρ _ => by
  simp [execOp, hρ c _ hc, hρ a v ha, asBool]
theorem v_pick_f {c a b : Operand} {v : Value} (hc : ev s c = some (.bool false)) (hb : ev s b = some v) : VOp P w0 s H (.pick c a b) ty v := fun ρ w _ _ _ _ hρ _ => by
  simp [execOp, hρ c _ hc, hρ b v hb, asBool]

section ints
variable {x y : Operand} {k : IntKind} {a b : Int} {t t' : TypeId}
theorem v_lss (hx : ev s x = some (.int k a)) (hy : ev s y = some (.int k b)) : VOp P w0 s H (.binOp .lss t x y t') ty (.bool (decide (a < b))) := fun ρ w _ _ _ _ hρ _ => by
  simp [execOp, hρ x _ hx, hρ y _ hy, eqGuard, binOp, Op.intCmp]
theorem v_leq (hx : ev s x = some (.int k a)) (hy : ev s y = some (.int k b)) : VOp P w0 s H (.binOp .leq t x y t') ty (.bool (decide (a ≤ b))) := fun ρ w _ _ _ _ hρ _ => by
  simp [execOp, hρ x _ hx, hρ y _ hy, eqGuard, binOp, Op.intCmp]
theorem v_gtr (hx : ev s x = some (.int k a)) (hy : ev s y = some (.int k b)) : VOp P w0 s H (.binOp .gtr t x y t') ty (.bool (decide (b < a))) := fun ρ w _ _ _ _ hρ _ => by
  simp [execOp, hρ x _ hx, hρ y _ hy, eqGuard, binOp, Op.intCmp]
theorem v_geq (hx : ev s x = some (.int k a)) (hy : ev s y = some (.int k b)) : VOp P w0 s H (.binOp .geq t x y t') ty (.bool (decide (b ≤ a))) := fun ρ w _ _ _ _ hρ _ => by
  simp [execOp, hρ x _ hx, hρ y _ hy, eqGuard, binOp, Op.intCmp]
theorem v_eql (hx : ev s x = some (.int k a)) (hy : ev s y = some (.int k b)) : VOp P w0 s H (.binOp .eql t x y t') ty (.bool (decide (a = b))) := fun ρ w _ _ _ _ hρ _ => by
  simp [execOp, hρ x _ hx, hρ y _ hy, eqGuard, binOp, Op.intCmp]
  rw [Bool.eq_iff_iff]; simp
theorem v_neq (hx : ev s x = some (.int k a)) (hy : ev s y = some (.int k b)) : VOp P w0 s H (.binOp .neq t x y t') ty (.bool (decide (a ≠ b))) := fun ρ w _ _ _ _ hρ _ => by
  simp [execOp, hρ x _ hx, hρ y _ hy, eqGuard, binOp, Op.intCmp, bne]
  rw [Bool.eq_iff_iff]; simp

/-- The numbers of an int. -/
def I64 (z : Int) : Prop := -9223372036854775808 ≤ z ∧ z ≤ 9223372036854775807
theorem I64.wrap {z : Int} (h : I64 z) : IntKind.i64.wrap z = z := by
  rw [IntKind.wrap_i64]
  obtain ⟨h1, h2⟩ := h
  omega
theorem I64.mk {z : Int} (h1 : -9223372036854775808 ≤ z) (h2 : z ≤ 9223372036854775807) : I64 z := ⟨h1, h2⟩

theorem v_add (hx : ev s x = some (.int .i64 a)) (hy : ev s y = some (.int .i64 b)) (h : I64 (a + b)) : VOp P w0 s H (.binOp .add t x y t') ty (.int .i64 (a + b)) := fun ρ w _ _ _ _ hρ _ => by
  simp [execOp, hρ x _ hx, hρ y _ hy, eqGuard, binOp, Op.intArith, h.wrap]
theorem v_sub (hx : ev s x = some (.int .i64 a)) (hy : ev s y = some (.int .i64 b)) (h : I64 (a - b)) : VOp P w0 s H (.binOp .sub t x y t') ty (.int .i64 (a - b)) := fun ρ w _ _ _ _ hρ _ => by
  simp [execOp, hρ x _ hx, hρ y _ hy, eqGuard, binOp, Op.intArith, h.wrap]
theorem v_mul (hx : ev s x = some (.int .i64 a)) (hy : ev s y = some (.int .i64 b)) (h : I64 (a * b)) : VOp P w0 s H (.binOp .mul t x y t') ty (.int .i64 (a * b)) := fun ρ w _ _ _ _ hρ _ => by
  simp [execOp, hρ x _ hx, hρ y _ hy, eqGuard, binOp, Op.intArith, h.wrap]
theorem v_addw (hx : ev s x = some (.int k a)) (hy : ev s y = some (.int k b)) : VOp P w0 s H (.binOp .add t x y t') ty (.int k (k.wrap (a + b))) := fun ρ w _ _ _ _ hρ _ => by
  simp [execOp, hρ x _ hx, hρ y _ hy, eqGuard, binOp, Op.intArith]
theorem v_subw (hx : ev s x = some (.int k a)) (hy : ev s y = some (.int k b)) : VOp P w0 s H (.binOp .sub t x y t') ty (.int k (k.wrap (a - b))) := fun ρ w _ _ _ _ hρ _ => by
  simp [execOp, hρ x _ hx, hρ y _ hy, eqGuard, binOp, Op.intArith]
theorem v_rem (hx : ev s x = some (.int k a)) (hy : ev s y = some (.int k b)) (h : b ≠ 0) : VOp P w0 s H (.binOp .rem t x y t') ty (.int k (a.tmod b)) := fun ρ w _ _ _ _ hρ _ => by
  simp [execOp, hρ x _ hx, hρ y _ hy, eqGuard, binOp, Op.intDiv, h]
theorem v_neg (hx : ev s x = some (.int .i64 a)) (h : I64 (-a)) : VOp P w0 s H (.unOp .neg t x) ty (.int .i64 (-a)) := fun ρ w _ _ _ _ hρ _ => by
  simp [execOp, hρ x _ hx, Op.unary, Op.intArith, h.wrap]
theorem v_conv {k' : IntKind} {d : TypeDesc} [hs : Und P t d] [hd : Und P t' (.int k')] (hx : ev s x = some (.int k a)) : VOp P w0 s H (.convert t t' x) ty (.int k' (k'.wrap a)) := fun ρ w _ _ _ _ hρ _ => by
  simp [execOp, hρ x _ hx, convert, run_underlying hs.out, run_underlying hd.out, Conv.intToInt]
end ints

section bools
variable {x y : Operand} {a b : Bool} {t t' : TypeId}
theorem v_not (hx : ev s x = some (.bool a)) : VOp P w0 s H (.unOp .not t x) ty (.bool (!a)) := fun ρ w _ _ _ _ hρ _ => by
  simp [execOp, hρ x _ hx, Op.unary]
theorem v_eqlb [ht : Und P t .bool] (hx : ev s x = some (.bool a)) (hy : ev s y = some (.bool b)) : VOp P w0 s H (.binOp .eql t x y t') ty (.bool (a == b)) := fun ρ w _ _ _ _ hρ _ => by
  simp [execOp, hρ x _ hx, hρ y _ hy, eqGuard, run_eql_bool w t a b ht.out]
theorem v_neqb [ht : Und P t .bool] (hx : ev s x = some (.bool a)) (hy : ev s y = some (.bool b)) : VOp P w0 s H (.binOp .neq t x y t') ty (.bool (!(a == b))) := fun ρ w _ _ _ _ hρ _ => by
  simp [execOp, hρ x _ hx, hρ y _ hy, eqGuard, run_neq_bool w t a b ht.out]
end bools

section strings
variable {x y : Operand} {a b : ByteArray} {t t' : TypeId}
theorem beqL (a b : ByteArray) : (a.toList == b.toList) = decide (a = b) := by
  rw [← beq_toListBytes]
  obtain ⟨⟨x⟩⟩ := a
  obtain ⟨⟨y⟩⟩ := b
  show ((⟨x⟩ : Array UInt8) == ⟨y⟩) = _
  rw [Bool.eq_iff_iff]
  simp
theorem v_eqls (hx : ev s x = some (.string a)) (hy : ev s y = some (.string b)) : VOp P w0 s H (.binOp .eql t x y t') ty (.bool (decide (a = b))) := fun ρ w _ _ _ _ hρ _ => by
  simp [execOp, hρ x _ hx, hρ y _ hy, eqGuard, binOp, Op.stringOp, beqL]
theorem v_neqs (hx : ev s x = some (.string a)) (hy : ev s y = some (.string b)) : VOp P w0 s H (.binOp .neq t x y t') ty (.bool (decide (a ≠ b))) := fun ρ w _ _ _ _ hρ _ => by
  simp [execOp, hρ x _ hx, hρ y _ hy, eqGuard, binOp, Op.stringOp, beqL]
theorem v_lens [ht : Und P t .string] (hx : ev s x = some (.string a)) : VOp P w0 s H (.call { callee := .builtin .len, args := #[x], argTypes := #[t] }) ty (.int .i64 (a.size : Int)) := fun ρ w _ _ _ _ hρ _ => by
  simp [execOp, hρ x _ hx, resolve, invoke, builtin, Builtin.len_, run_underlying ht.out, goInt]
end strings

theorem v_len {x : Operand} {A : Option Addr} {m c : Nat} {t e : TypeId} [ht : Und P t (.slice e)] (hx : ev s x = some (.slice A m c)) :
    VOp P w0 s H (.call { callee := .builtin .len, args := #[x], argTypes := #[t] }) ty (.int .i64 (m : Int)) := fun ρ w _ _ _ _ hρ _ => by
  simp [execOp, hρ x _ hx, resolve, invoke, builtin, Builtin.len_, run_underlying ht.out, goInt]
theorem v_max {x y : Operand} {a b : Int} {ts : Array TypeId} (hx : ev s x = some (.int .i64 a)) (hy : ev s y = some (.int .i64 b)) :
    VOp P w0 s H (.call { callee := .builtin .max, args := #[x, y], argTypes := ts }) ty (.int .i64 (if a < b then b else a)) := fun ρ w _ _ _ _ hρ _ => by
  simp [execOp, hρ x _ hx, hρ y _ hy, resolve, invoke, builtin, run_max_int2]
theorem v_min {x y : Operand} {a b : Int} {ts : Array TypeId} (hx : ev s x = some (.int .i64 a)) (hy : ev s y = some (.int .i64 b)) :
    VOp P w0 s H (.call { callee := .builtin .min, args := #[x, y], argTypes := ts }) ty (.int .i64 (if b < a then b else a)) := fun ρ w _ _ _ _ hρ _ => by
  simp [execOp, hρ x _ hx, hρ y _ hy, resolve, invoke, builtin, run_min_int2]
theorem v_extract {x : Operand} {vs : List Value} {i : Nat} {v : Value} (hx : ev s x = some (.tuple vs.toArray)) (hi : vs[i]? = some v) : VOp P w0 s H (.extract x i) ty v := fun ρ w _ _ _ _ hρ _ => by
  have hi' : vs.toArray[i]? = some v := by rw [List.getElem?_toArray]; exact hi
  simp [execOp, hρ x _ hx, Instr.extract, hi]

theorem run_fieldPlace {w : World} {g o off : Nat} {fl : Field} {i : TypeInfo} (ho : fl.offset = o) (hi : P.info? fl.type = some i) (hz : i.size ≠ 0) :
    (fieldPlace ⟨g, off, none⟩ fl).run P w = .ok ⟨g, off + o, none⟩ w := by
  have hz' : (if i.size = 0 then true else false) = false := by simp [hz]
  simp [fieldPlace, sizeOf, typeInfo, hi, hz, Addr.add, ho]
  try (intro h; rw [h])

theorem v_fieldAddr {x : Operand} {t f o g off : Nat} [hf : Fld P t f o] (hx : ev s x = some (.pointer (some ⟨g, off, none⟩))) :
    VOp P w0 s H (.fieldAddr t x f) ty (.pointer (some ⟨g, off + o, none⟩)) := fun ρ w _ _ _ _ hρ _ => by
  obtain ⟨fs, fl, i, h1, h2, h3, h4, h5⟩ := hf.out
  simp [execOp, hρ x _ hx, Instr.fieldAt, run_underlying h1, h2, Instr.sureAddr, run_fieldPlace h3 h4 h5]

theorem v_indexAddr {x ix : Operand} {t e g off m c j sz : Nat} {k : IntKind} [ht : Und P t (.slice e)] [hs : Size P e sz] (hx : ev s x = some (.slice (some ⟨g, off, none⟩) m c)) (hi : ev s ix = some (.int k (j : Nat)))
    (hj : j < m) : VOp P w0 s H (.indexAddr t x ix) ty (.pointer (some ⟨g, off + j * sz, none⟩)) := fun ρ w _ _ _ _ hρ _ => by
  obtain ⟨i, h1, h2⟩ := hs.out
  have hj' : (j : Int) < (m : Int) := by omega
  have h0 : (0 : Int) ≤ (j : Int) := by omega
  have hadd : (⟨g, off, none⟩ : Addr).add (j * sz) = ⟨g, off + j * sz, none⟩ := by
    unfold Addr.add; split <;> simp_all
  simp [execOp, hρ x _ hx, hρ ix _ hi, Instr.indexAt, run_underlying ht.out, asIntOf, sizeOf, typeInfo, h1, h2, hadd]
  omega

/-! ### Reading memory -/

/-- In w the cells from off on of block g are these. -/
def Cells (w : World) (g off : Nat) (xs : List Value) : Prop := ∀ j v, xs[j]? = some v → w.cell? ⟨g, off + j, none⟩ = some v

theorem addr_add (g off j : Nat) : (⟨g, off, none⟩ : Addr).add j = ⟨g, off + j, none⟩ := by
  unfold Addr.add; split <;> simp_all

theorem run_load_one {w : World} {t : TypeId} {g off : Nat} {v : Value} [h : One P t] (hc : w.cell? ⟨g, off, none⟩ = some v) : (loadVar t ⟨g, off, none⟩).run P w = .ok v w := by
  obtain ⟨d, hd, ho⟩ := h.out
  cases d <;> simp_all [loadVar, isAgg, run_underlying hd]

theorem run_load_agg {w : World} {t : TypeId} {g off m : Nat} {xs : List Value} [h : Agg P t m] (hl : xs.length = m) (hc : Cells w g off xs) : (loadVar t ⟨g, off, none⟩).run P w = .ok (.agg xs.toArray) w := by
  obtain ⟨d, i, hd, ho, hi, hs⟩ := h.out
  have h1 := run_loadCells_list (P := P) w ⟨g, off, none⟩ xs (fun j v hv => by rw [addr_add]; exact hc j v hv)
  rw [hl] at h1
  cases d <;> simp_all [loadVar, isAgg, run_underlying hd, sizeOf, typeInfo]

/-- What is known of a world by what is owned: the cells of a block. -/
theorem Mem.cells_box {w w0 : World} {H : List Blk} {g : Nat} {t : TypeId} {xs : List Value} (h : Mem w0 w H) (hi : In (.box g t xs) H) : Cells w g 0 xs := by
  have h1 := (h.on _ hi.mem).1
  simp only [Blk.on] at h1
  intro j v hv
  rw [Nat.zero_add, cell_of_row w g j _ t (0, 0) h1]
  simpa using hv

theorem Mem.cells_own {w w0 : World} {H : List Blk} {g m c sz : Nat} {t : TypeId} {xs : List Value} (h : Mem w0 w H) (hi : In (.own (some g) t sz m c xs) H) : Cells w g 0 xs := by
  obtain ⟨hl, _, _, junk, _, h1⟩ := (h.on _ hi.mem).1
  intro j v hv
  rw [Nat.zero_add, cell_of_row w g j _ t (0, 0) h1]
  have hlt := (List.getElem?_eq_some_iff.1 hv).1
  rw [List.getElem?_toArray, List.getElem?_append_left hlt]
  exact hv

/-- Read-only memory of the world at the beginning. -/
structure Ro (w0 : World) (g off : Nat) (xs : List Value) : Prop where
  lt : g < w0.heap.size
  cells : Cells w0 g off xs

theorem Ro.later {w w0 : World} {H : List Blk} {g off : Nat} {xs : List Value} (h : Ro w0 g off xs) (hm : Mem w0 w H) : Cells w g off xs :=
  fun j v hv => (hm.below.cell (p := ⟨g, off + j, none⟩) h.lt).trans (h.cells j v hv)

theorem Cells.drop {w : World} {g off k : Nat} {xs : List Value} (h : Cells w g off xs) : Cells w g (off + k) (xs.drop k) := fun j v hv => by
  rw [List.getElem?_drop] at hv
  rw [Nat.add_assoc]; exact h _ v hv
theorem Cells.take {w : World} {g off k : Nat} {xs : List Value} (h : Cells w g off xs) : Cells w g off (xs.take k) := fun j v hv => by
  rw [List.getElem?_take] at hv
  split at hv
  · exact h _ v hv
  · cases hv

theorem v_load_box {x : Operand} {t T g off : Nat} {xs : List Value} {v : Value} [One P t] (hx : ev s x = some (.pointer (some ⟨g, off, none⟩))) (hi : In (.box g T xs) H) (hv : xs[off]? = some v) :
    VOp P w0 s H (.load t x) ty v := fun ρ w _ _ _ _ hρ hm => by
  have hc := hm.cells_box hi off v hv
  rw [Nat.zero_add] at hc
  simp [execOp, hρ x _ hx, Instr.loadAt, Instr.sureAddr, run_load_one (P := P) hc]
theorem v_load_own {x : Operand} {t T g off m c sz : Nat} {xs : List Value} {v : Value} [One P t] (hx : ev s x = some (.pointer (some ⟨g, off, none⟩))) (hi : In (.own (some g) T sz m c xs) H) (hv : xs[off]? = some v) :
    VOp P w0 s H (.load t x) ty v := fun ρ w _ _ _ _ hρ hm => by
  have hc := hm.cells_own hi off v hv
  rw [Nat.zero_add] at hc
  simp [execOp, hρ x _ hx, Instr.loadAt, Instr.sureAddr, run_load_one (P := P) hc]
theorem v_load_ro {x : Operand} {t g o off : Nat} {xs : List Value} {v : Value} [One P t] (hr : Ro w0 g o xs) (hx : ev s x = some (.pointer (some ⟨g, o + off, none⟩))) (hv : xs[off]? = some v) :
    VOp P w0 s H (.load t x) ty v := fun ρ w _ _ _ _ hρ hm => by
  simp [execOp, hρ x _ hx, Instr.loadAt, Instr.sureAddr, run_load_one (P := P) (hr.later hm off v hv)]

theorem v_loads_box {x : Operand} {t T g off m : Nat} {xs ys : List Value} [Agg P t m] (hx : ev s x = some (.pointer (some ⟨g, off, none⟩))) (hi : In (.box g T xs) H) (hv : (xs.drop off).take m = ys) (hl : ys.length = m) :
    VOp P w0 s H (.load t x) ty (.agg ys.toArray) := fun ρ w _ _ _ _ hρ hm => by
  subst hv
  have hc : Cells w g off ((xs.drop off).take m) := by
    have := ((hm.cells_box hi).drop (k := off)).take (k := m)
    rwa [Nat.zero_add] at this
  simp [execOp, hρ x _ hx, Instr.loadAt, Instr.sureAddr, run_load_agg (P := P) hl hc]
theorem v_loads_own {x : Operand} {t T g off m n' c sz : Nat} {xs ys : List Value} [Agg P t m] (hx : ev s x = some (.pointer (some ⟨g, off, none⟩))) (hi : In (.own (some g) T sz n' c xs) H) (hv : (xs.drop off).take m = ys) (hl : ys.length = m) :
    VOp P w0 s H (.load t x) ty (.agg ys.toArray) := fun ρ w _ _ _ _ hρ hm => by
  subst hv
  have hc : Cells w g off ((xs.drop off).take m) := by
    have := ((hm.cells_own hi).drop (k := off)).take (k := m)
    rwa [Nat.zero_add] at this
  simp [execOp, hρ x _ hx, Instr.loadAt, Instr.sureAddr, run_load_agg (P := P) hl hc]
theorem v_loads_ro {x : Operand} {t g o off m : Nat} {xs ys : List Value} [Agg P t m] (hr : Ro w0 g o xs) (hx : ev s x = some (.pointer (some ⟨g, o + off, none⟩))) (hv : (xs.drop off).take m = ys) (hl : ys.length = m) :
    VOp P w0 s H (.load t x) ty (.agg ys.toArray) := fun ρ w _ _ _ _ hρ hm => by
  subst hv
  have hc : Cells w g (o + off) ((xs.drop off).take m) := ((hr.later hm).drop (k := off)).take (k := m)
  simp [execOp, hρ x _ hx, Instr.loadAt, Instr.sureAddr, run_load_agg (P := P) hl hc]

end
end Go.SL

/-
  The rules of the judgement W, second part: guards; stores; new blocks; append; calls; entering a function and leaving it; regions that draw their order and only read.
-/
namespace Go.SL
open Go Go.RowKit

section
variable {P : Program} {n : Fr} {w0 : World} {Q : Post} {s : Slots} {H : List Blk} {l rest : List Oper} {ty : TypeId} {p : String} {af : Array Edge}

/-! ### Guards -/

/-- The slot in which operation j leaves its value. -/
def gd : List Oper → Nat → Option Nat
  | [], _ => none
  | o :: _, 0 => o.dst
  | _ :: r, j + 1 => gd r j

theorem gd_eq (l : List Oper) (j : Nat) : (l.toArray[j]?).bind (·.dst) = gd l j := by
  rw [List.getElem?_toArray]
  induction l generalizing j with
  | nil => simp [gd]
  | cons o l ih => cases j with
    | zero => simp [gd]
    | succ j => simpa [gd] using ih j

def boolOf : Value → Option Bool
  | .bool b => some b
  | _ => none

theorem yielded_of {a : Act} {j d : Nat} {v : Value} (hs : St n s a) (hj : gd l j = some d) (hv : look s d = some v) :
    yielded l.toArray a.tmps j = boolOf v := by
  unfold yielded
  rw [gd_eq, hj]
  simp [hs.has d v hv]
  cases v <;> rfl

theorem wl_gyes {op : Op} {dst : Option Tmp} {j d : Nat} {want : Bool} (hj : gd l j = some d) (hv : look s d = some (.bool want))
    (k : WL P n w0 l.toArray (⟨dst, op, ty, p, af, none⟩ :: rest) Q s H) : WL P n w0 l.toArray (⟨dst, op, ty, p, af, some (j, want)⟩ :: rest) Q s H := by
  intro a w hs hm
  have h := k a w hs hm
  have hy := yielded_of hs hj hv
  simp only [wpList, Region.wanted, if_true] at h
  simp only [wpList, Region.wanted, hy, boolOf, beq_self_eq_true, if_true]
  exact h

theorem wl_gno {op : Op} {dst j d : Nat} {want : Bool} {v : Value} (hj : gd l j = some d) (hv : look s d = some v) (hw : boolOf v ≠ some want) (hn : Nat.blt dst n.sz = true)
    (k : WL P n w0 l.toArray rest Q ((dst, undef) :: s) H) : WL P n w0 l.toArray (⟨some dst, op, ty, p, af, some (j, want)⟩ :: rest) Q s H := by
  intro a w hs hm
  have hy := yielded_of hs hj hv
  have : (yielded l.toArray a.tmps j == some want) = false := by rw [hy]; simpa using hw
  simp only [wpList, Region.wanted, this]
  exact k _ _ (hs.put (Nat.blt_eq ▸ hn) _) hm

theorem wl_gno_none {op : Op} {j d : Nat} {want : Bool} {v : Value} (hj : gd l j = some d) (hv : look s d = some v) (hw : boolOf v ≠ some want)
    (k : WL P n w0 l.toArray rest Q s H) : WL P n w0 l.toArray (⟨none, op, ty, p, af, some (j, want)⟩ :: rest) Q s H := by
  intro a w hs hm
  have hy := yielded_of hs hj hv
  have : (yielded l.toArray a.tmps j == some want) = false := by rw [hy]; simpa using hw
  simp only [wpList, Region.wanted, this]
  exact k _ _ (hs.put_none _) hm

theorem St.shadow {a : Act} {d : Nat} {v : Value} (hs : St n s a) (hv : look s d = some v) : St n ((d, v) :: s) a :=
  ⟨hs.size, hs.defers, fun t u hu => by
    rw [look_cons] at hu
    by_cases e : d = t
    · subst e; rw [if_pos rfl] at hu; exact hs.has d u (hv.trans hu)
    · rw [if_neg e] at hu; exact hs.has t u hu⟩

/-- The guard is not known: both ways. -/
theorem wl_gsplit {op : Op} {dst : Option Tmp} {j d : Nat} {want b : Bool} (_hj : gd l j = some d) (hv : look s d = some (.bool b))
    (k1 : b = true → WL P n w0 l.toArray (⟨dst, op, ty, p, af, some (j, want)⟩ :: rest) Q ((d, .bool true) :: s) H)
    (k2 : b = false → WL P n w0 l.toArray (⟨dst, op, ty, p, af, some (j, want)⟩ :: rest) Q ((d, .bool false) :: s) H) :
    WL P n w0 l.toArray (⟨dst, op, ty, p, af, some (j, want)⟩ :: rest) Q s H := by
  intro a w hs hm
  cases b with
  | true => exact k1 rfl a w (hs.shadow hv) hm
  | false => exact k2 rfl a w (hs.shadow hv) hm

/-! ### Stores -/

theorem wl_heap {op : Op} {H' : List Blk} {ops : Array Oper} (h : ∀ a w, St n s a → Mem w0 w H → ∃ w', (execOp a.eval ⟨none, op, ty, p, af, none⟩).run P w = .ok .skip w' ∧ Mem w0 w' H')
    (k : WL P n w0 ops rest Q s H') : WL P n w0 ops (⟨none, op, ty, p, af, none⟩ :: rest) Q s H := by
  intro a w hs hm
  obtain ⟨w', hr, hm'⟩ := h a w hs hm
  refine wpList_plain rfl fun K hK => ?_
  simp only [Oper.wp, hr, Oper.upon]
  exact hK _ _ (k _ _ (hs.put_none _) hm')

theorem run_storeVar {w : World} {t T g off : Nat} {cur : Array Value} {v : Value} {vs : List Value} {m : Nat} [hz : Size P t m] (hv : v.cells = vs.toArray) (hl : vs.length = m) (h1 : ∀ u ∈ vs, u.oneCell' = true)
    (hg : w.heap[g]? = some (.cells cur T (0, 0))) (hfit : off + m ≤ cur.size) :
    (storeVar t ⟨g, off, none⟩ v).run P w = .ok () (w.setRow g (cur.toList.take off ++ vs ++ cur.toList.drop (off + m)).toArray) := by
  obtain ⟨i, hi, hs⟩ := hz.out
  have hst := run_storeCells_at P g off T vs 0 cur w hg (by simpa [hl] using hfit) h1
  simp only [Nat.add_zero, hl] at hst
  have hsz : v.cells.size = i.size := by rw [hv, hs, ← hl]; simp
  have hsz' : vs.length = i.size := hl.trans hs.symm
  simp [storeVar, sizeOf, typeInfo, hi, hsz', hv, hst]

theorem setRow_grown (w : World) (g : Nat) (cs : Array Value) : w.grownBy (w.setRow g cs) (some g) :=
  ⟨rfl, rfl, rfl, by simp, fun k _ hk => setRow_other w g k _ (fun e => hk (by rw [e]))⟩

theorem wl_put_box {ops : Array Oper} {t T g off m : Nat} {x a : Operand} {xs vs : List Value} {v : Value} {R : List Blk} [Size P t m] (ha : ev s a = some (.pointer (some ⟨g, off, none⟩))) (hx : ev s x = some v)
    (hsel : Sel (.box g T xs) H R) (hv : v.cells = vs.toArray) (hl : vs.length = m) (h1 : ∀ u ∈ vs, u.oneCell' = true) (hfit : off + m ≤ xs.length)
    (k : WL P n w0 ops rest Q s (.box g T (xs.take off ++ vs ++ xs.drop (off + m)) :: R)) : WL P n w0 ops (⟨none, .store t a x, ty, p, af, none⟩ :: rest) Q s H := by
  refine wl_heap (fun a' w hs hm => ?_) k
  have hm' := hm.sel hsel
  have hb := (hm'.on _ List.mem_cons_self).1
  simp only [Blk.on] at hb
  have hr := run_storeVar (P := P) (t := t) (off := off) hv hl h1 hb (by simpa using hfit)
  simp only at hr
  refine ⟨_, ?_, hm'.upd (setRow_grown _ _ _) (b' := .box g T (xs.take off ++ vs ++ xs.drop (off + m))) (setRow_heap _ _ _ _ _ _ hb) fun k hk => .inl hk⟩
  simp [execOp, hs.eval a _ ha, hs.eval x _ hx, Instr.storeAt, Instr.sureAddr, hr]

theorem take_set (xs : List Value) (off : Nat) (v : Value) (h : off < xs.length) : xs.take off ++ [v] ++ xs.drop (off + 1) = xs.set off v := by
  rw [List.set_eq_take_append_cons_drop, if_pos h]
  simp

/-- One cell of a box. -/
theorem wl_store_box {ops : Array Oper} {t T g off : Nat} {x a : Operand} {xs : List Value} {v : Value} {R : List Blk} [Size P t 1] (ha : ev s a = some (.pointer (some ⟨g, off, none⟩))) (hx : ev s x = some v)
    (hsel : Sel (.box g T xs) H R) (hv : v.oneCell' = true) (hfit : Nat.blt off xs.length = true)
    (k : WL P n w0 ops rest Q s (.box g T (xs.set off v) :: R)) : WL P n w0 ops (⟨none, .store t a x, ty, p, af, none⟩ :: rest) Q s H := by
  have hf : off < xs.length := by simpa using hfit
  refine wl_put_box (m := 1) ha hx hsel (vs := [v]) (by cases v <;> first | rfl | cases hv) rfl (by simpa using hv) (by omega) ?_
  rw [take_set _ _ _ hf]
  exact k

/-- The whole of a box that holds a struct or an array. -/
theorem wl_stores_box {ops : Array Oper} {t T g m : Nat} {x a : Operand} {xs ys : List Value} {R : List Blk} [Size P t m] (ha : ev s a = some (.pointer (some ⟨g, 0, none⟩))) (hx : ev s x = some (.agg ys.toArray))
    (hsel : Sel (.box g T xs) H R) (hl : ys.length = m) (hl' : xs.length = m) (h1 : ys.all Value.oneCell' = true)
    (k : WL P n w0 ops rest Q s (.box g T ys :: R)) : WL P n w0 ops (⟨none, .store t a x, ty, p, af, none⟩ :: rest) Q s H := by
  refine wl_put_box ha hx hsel (vs := ys) rfl hl (by simpa using h1) (by omega) ?_
  rw [Nat.zero_add, ← hl', List.take_zero, List.drop_length, List.nil_append, List.append_nil]
  exact k

theorem wl_put_own {ops : Array Oper} {t T g off m sz n' c : Nat} {x a : Operand} {xs vs : List Value} {v : Value} {R : List Blk} [Size P t m] (ha : ev s a = some (.pointer (some ⟨g, off, none⟩))) (hx : ev s x = some v)
    (hsel : Sel (.own (some g) T sz n' c xs) H R) (hv : v.cells = vs.toArray) (hl : vs.length = m) (h1 : ∀ u ∈ vs, u.oneCell' = true) (hfit : off + m ≤ xs.length)
    (k : WL P n w0 ops rest Q s (.own (some g) T sz n' c (xs.take off ++ vs ++ xs.drop (off + m)) :: R)) : WL P n w0 ops (⟨none, .store t a x, ty, p, af, none⟩ :: rest) Q s H := by
  refine wl_heap (fun a' w hs hm => ?_) k
  have hm' := hm.sel hsel
  obtain ⟨h2, h3, h4, junk, h5, hb⟩ := (hm'.on _ List.mem_cons_self).1
  have hr := run_storeVar (P := P) (t := t) (off := off) hv hl h1 hb (by simp; omega)
  simp only at hr
  have he : (xs ++ junk).take off ++ vs ++ (xs ++ junk).drop (off + m) = (xs.take off ++ vs ++ xs.drop (off + m)) ++ junk := by
    rw [List.take_append_of_le_length (by omega), List.drop_append_of_le_length hfit]
    simp
  rw [he] at hr
  have hlen : (xs.take off ++ vs ++ xs.drop (off + m)).length = xs.length := by simp; omega
  refine ⟨_, ?_, hm'.upd (setRow_grown _ _ _) (b' := .own (some g) T sz n' c (xs.take off ++ vs ++ xs.drop (off + m)))
    ⟨hlen.trans h2, h3, h4, junk, by rw [List.length_append, hlen, ← List.length_append]; exact h5, setRow_heap _ _ _ _ _ _ hb⟩ fun k hk => .inl hk⟩
  simp [execOp, hs.eval a _ ha, hs.eval x _ hx, Instr.storeAt, Instr.sureAddr, hr]

/-- One cell of a row. -/
theorem wl_store_own {ops : Array Oper} {t T g off sz n' c : Nat} {x a : Operand} {xs : List Value} {v : Value} {R : List Blk} [Size P t 1] (ha : ev s a = some (.pointer (some ⟨g, off, none⟩))) (hx : ev s x = some v)
    (hsel : Sel (.own (some g) T sz n' c xs) H R) (hv : v.oneCell' = true) (hfit : off < xs.length)
    (k : WL P n w0 ops rest Q s (.own (some g) T sz n' c (xs.set off v) :: R)) : WL P n w0 ops (⟨none, .store t a x, ty, p, af, none⟩ :: rest) Q s H := by
  refine wl_put_own (m := 1) ha hx hsel (vs := [v]) (by cases v <;> first | rfl | cases hv) rfl (by simpa using hv) (by omega) ?_
  rw [take_set _ _ _ hfit]
  exact k

/-! ### New blocks -/

theorem wl_new {op : Op} {d : Nat} {ops : Array Oper} (hn : Nat.blt d n.sz = true) {B : Nat → Blk} {v : Nat → Value}
    (h : ∀ a w, St n s a → Mem w0 w H → ∃ w', (execOp a.eval ⟨some d, op, ty, p, af, none⟩).run P w = .ok (.value (v w.heap.size)) w' ∧ w.grownBy w' none ∧ (B w.heap.size).on w' ∧ (B w.heap.size).key = some w.heap.size)
    (k : ∀ g, WL P n w0 ops rest Q ((d, v g) :: s) (B g :: H)) : WL P n w0 ops (⟨some d, op, ty, p, af, none⟩ :: rest) Q s H := by
  intro a w hs hm
  obtain ⟨w', hr, hg, hb, hk⟩ := h a w hs hm
  refine wpList_plain rfl fun K hK => ?_
  simp only [Oper.wp, hr, Oper.upon]
  refine hK _ _ (k w.heap.size _ _ (hs.put (Nat.blt_eq ▸ hn) _) (hm.new hg hb fun k hk' => ?_))
  rw [hk] at hk'
  injection hk' with hk'
  omega

class ZeroC (P : Program) (t : TypeId) (zs : outParam (List Value)) : Prop where
  out : ∃ i z, P.info? t = some i ∧ i.zero = some z ∧ z.cells = zs.toArray

theorem wl_alloc {d t : Nat} {zs : List Value} {ops : Array Oper} [hz : ZeroC P t zs] (hn : Nat.blt d n.sz = true)
    (k : ∀ g, WL P n w0 ops rest Q ((d, .pointer (some ⟨g, 0, none⟩)) :: s) (.box g t zs :: H)) : WL P n w0 ops (⟨some d, .alloc t, ty, p, af, none⟩ :: rest) Q s H := by
  refine wl_new (B := fun g => .box g t zs) (v := fun g => .pointer (some ⟨g, 0, none⟩)) hn (fun a w hs hm => ?_) k
  obtain ⟨i, z, h1, h2, h3⟩ := hz.out
  refine ⟨w.alloc (.cells z.cells t), ?_, World.grownBy_alloc w _ none, ?_, rfl⟩
  · simp [execOp, Instr.alloc, zeroValue, typeInfo, h1, h2, newVar, newRow]
  · simp only [Blk.on, ← h3]
    exact heap_alloc_new w _

theorem wl_box {d t : Nat} {x : Operand} {v : Value} {vs : List Value} {ops : Array Oper} (hn : Nat.blt d n.sz = true) (hx : ev s x = some v) (hv : v.cells = vs.toArray)
    (k : ∀ g, WL P n w0 ops rest Q ((d, .pointer (some ⟨g, 0, none⟩)) :: s) (.box g t vs :: H)) : WL P n w0 ops (⟨some d, .box t x, ty, p, af, none⟩ :: rest) Q s H := by
  refine wl_new (B := fun g => .box g t vs) (v := fun g => .pointer (some ⟨g, 0, none⟩)) hn (fun a w hs hm => ?_) k
  refine ⟨w.alloc (.cells v.cells t), ?_, World.grownBy_alloc w _ none, ?_, rfl⟩
  · simp [execOp, hs.eval x _ hx, Instr.box, newVar, newRow]
  · simp only [Blk.on, ← hv]
    exact heap_alloc_new w _

/-- A struct that is boxed. -/
theorem wl_boxs {d t : Nat} {x : Operand} {vs : List Value} {ops : Array Oper} (hn : Nat.blt d n.sz = true) (hx : ev s x = some (.agg vs.toArray))
    (k : ∀ g, WL P n w0 ops rest Q ((d, .pointer (some ⟨g, 0, none⟩)) :: s) (.box g t vs :: H)) : WL P n w0 ops (⟨some d, .box t x, ty, p, af, none⟩ :: rest) Q s H :=
  wl_box hn hx rfl k
theorem wl_box1 {d t : Nat} {x : Operand} {v : Value} {ops : Array Oper} (hn : Nat.blt d n.sz = true) (hx : ev s x = some v) (hv : v.oneCell' = true)
    (k : ∀ g, WL P n w0 ops rest Q ((d, .pointer (some ⟨g, 0, none⟩)) :: s) (.box g t [v] :: H)) : WL P n w0 ops (⟨some d, .box t x, ty, p, af, none⟩ :: rest) Q s H :=
  wl_box hn hx (by cases v <;> first | rfl | cases hv) k


/-! ### Rows of the call's own: a literal, make, append, a slice of a slice -/

theorem Blk.own_of {w : World} {g e sz m c : Nat} {xs : List Value} (hg : w.heap[g]? = some (.cells xs.toArray e (0, 0))) (hl : xs.length = m * sz) (hc : m = c) (hm : c ≤ maxLen) : (Blk.own (some g) e sz m c xs).on w := by
  subst hc
  exact ⟨hl, Nat.le_refl _, hm, [], by simpa using hl, by simpa using hg⟩

/-- The list itself, cell by cell: for the unifier. -/
def norm : List Value → Option (List Value)
  | [] => some []
  | x :: r => match norm r with
    | some r' => some (x :: r')
    | none => none

theorem norm_eq : ∀ {xs ys : List Value}, norm xs = some ys → ys = xs
  | [], ys, h => by simp only [norm, Option.some.injEq] at h; exact h.symm
  | x :: r, ys, h => by
    simp only [norm] at h
    split at h
    · rename_i r' hr
      simp only [Option.some.injEq] at h
      rw [← h, norm_eq hr]
    · cases h

/-- The values of a literal whose parts are all there, in order, from k on. -/
def evd (s : Slots) : List (Nat × Operand) → Nat → Option (List Value)
  | [], _ => some []
  | (i, x) :: r, k => bif Nat.beq i k then (match ev s x, evd s r (k + 1) with | some v, some vs => some (v :: vs) | _, _ => none) else none

theorem evd_map {a : Act} (hs : St n s a) : ∀ {ps : List (Nat × Operand)} {vs : List Value} {k : Nat}, evd s ps k = some vs → (ps.map fun (x : Nat × Operand) => (x.1, a.eval x.2)) = (vs.zipIdx k).map fun x => (x.2, x.1)
  | [], vs, k, h => by simp only [evd, Option.some.injEq] at h; simp [← h]
  | (i, x) :: r, vs, k, h => by
    simp only [evd] at h
    cases hb : Nat.beq i k with
    | false => rw [hb] at h; cases h
    | true =>
      have hik := Nat.eq_of_beq_eq_true hb
      rw [hb] at h
      simp only [cond_true] at h
      split at h
      · rename_i v vs' hv hvs
        simp only [Option.some.injEq] at h
        rw [← h, List.map_cons, evd_map hs hvs, List.zipIdx_cons, List.map_cons, hs.eval x v hv, hik]
      · cases h

def flat (vs : List Value) : List Value := vs.flatMap fun v => v.cells.toList

def sizes (sz : Nat) : List Value → Bool
  | [] => true
  | v :: r => Nat.beq v.cells.size sz && sizes sz r
theorem sizes_all {sz : Nat} : ∀ {vs : List Value}, sizes sz vs = true → ∀ v ∈ vs, v.cells.size = sz
  | [], _, v, hv => by cases hv
  | u :: r, h, v, hv => by
    simp only [sizes, Bool.and_eq_true] at h
    rcases List.mem_cons.1 hv with rfl | hv
    · exact Nat.eq_of_beq_eq_true h.1
    · exact sizes_all h.2 v hv

theorem flat_length {sz : Nat} : ∀ {vs : List Value}, (∀ v ∈ vs, v.cells.size = sz) → (flat vs).length = vs.length * sz
  | [], _ => by simp [flat]
  | v :: r, h => by
    have ih := flat_length (vs := r) (fun u hu => h u (List.mem_cons_of_mem _ hu))
    have hv := h v List.mem_cons_self
    simp only [flat, List.flatMap_cons, List.length_append, Array.length_toList, List.length_cons, Nat.add_mul, Nat.one_mul] at ih ⊢
    omega

theorem wl_buildSlice {d t e m sz by_ : Nat} {ps : List (Nat × Operand)} {vs xs : List Value} {ops : Array Oper} [ht : Und P t (.slice e)] [he : Elem P e sz by_] (hn : Nat.blt d n.sz = true) (hps : evd s ps 0 = some vs)
    (hl : vs.length = m) (hsz : sizes sz vs = true) (hx : norm (flat vs) = some xs) (hm0 : Nat.blt 0 m = true) (hsm : Nat.ble (m * sz) 16777216 = true)
    (k : ∀ g, WL P n w0 ops rest Q ((d, .slice (some ⟨g, 0, none⟩) m m) :: s) (.own (some g) e sz m m xs :: H)) : WL P n w0 ops (⟨some d, .buildSlice t m ps.toArray, ty, p, af, none⟩ :: rest) Q s H := by
  refine wl_new (B := fun g => .own (some g) e sz m m xs) (v := fun g => .slice (some ⟨g, 0, none⟩) m m) hn (fun a w hs hm => ?_) k
  obtain ⟨i, z, h1, h2, h3, h4, h5, h6⟩ := he.out
  have hm1 : 0 < m := by simpa using hm0
  have hsm1 : m * sz ≤ 16777216 := by simpa using hsm
  have hall := sizes_all hsz
  have hlen : xs.length = m * sz := by rw [norm_eq hx, flat_length hall, hl]
  have hfill := Great.fill_whole h6 vs ((Array.range (m * i.size)).map (z.cells[· % z.cells.size]!)) hall (by simp [hl, h2])
  rw [← evd_map hs hps] at hfill
  have hr := run_buildSlice (P := P) w t e m (ps.map fun x => (x.1, a.eval x.2)).toArray _ i z ht.out h1 h4 (by rw [h2]; omega) (by rw [h2]; exact Nat.ne_of_gt (Nat.mul_pos hm1 h6)) (by rw [h2] at hfill ⊢; exact hfill)
  refine ⟨_, ?_, World.grownBy_alloc w _ none, Blk.own_of (e := e) (xs := xs) (by rw [norm_eq hx]; exact heap_alloc_new w _) hlen rfl ?_, rfl⟩
  · simp only [execOp, List.map_toArray]
    simp only [Sem.run_bind, hr, Result.andThen_ok, Sem.run_pure, flat]
  · have : m ≤ m * sz := Nat.le_mul_of_pos_right m h6
    simp only [maxLen]; omega

/-- 'append(s, x..)' onto a row of the call's own, the cells of x readable. -/
theorem wl_append {d t e n' c m c' g2 o2 sz by_ : Nat} {A : Option Nat} {x y : Operand} {xs news : List Value} {R : List Blk} {ops : Array Oper} [ht : Und P t (.slice e)] [he : Elem P e sz by_] (hn : Nat.blt d n.sz = true)
    (hx : ev s x = some (sl A n' c)) (hy : ev s y = some (.slice (some ⟨g2, o2, none⟩) m c')) (hsel : Sel (.own A e sz n' c xs) H R)
    (hnews : ∀ w, Mem w0 w H → Cells w g2 o2 news) (hl : news.length = m * sz) (h1 : ∀ u ∈ news, u.oneCell' = true) (hby : (n' + m) * by_ ≤ 140737488355328) (h63 : n' + m ≤ maxLen)
    (k : ∀ A' cap', (0 < n' + m → ∃ g, A' = some g) → WL P n w0 ops rest Q ((d, sl A' (n' + m) cap') :: s) (.own A' e sz (n' + m) cap' (xs ++ news) :: R)) :
    WL P n w0 ops (⟨some d, .call { callee := .builtin .append, args := #[x, y], argTypes := #[t, t] }, ty, p, af, none⟩ :: rest) Q s H := by
  intro a w hs hm
  have hm' := hm.sel hsel
  obtain ⟨i, z, i1, i2, i3, i4, i5, i6⟩ := he.out
  have hb := (hm'.on _ List.mem_cons_self)
  have hown : w.ownsRow w0.heap.size e sz (sl A n' c) n' xs := by
    obtain ⟨⟨b1, b2, b3, b4⟩, b5⟩ := hb
    refine ⟨b1, ?_⟩
    cases A with
    | none => obtain ⟨rfl, rfl⟩ := b4; exact .inl ⟨rfl, rfl⟩
    | some g =>
      obtain ⟨junk, j1, j2⟩ := b4
      refine .inr ⟨g, c, _, rfl, b5 g rfl, j2, b2, b3, by simpa using j1, ?_⟩
      simp only [List.toList_toArray]
      rw [← b1, List.take_left]
  obtain ⟨v', w', hr, h2, h3, h4, h5⟩ := run_append_own_at (P := P) w w0.heap.size t ty e i z sz by_ ht.out i1 i4 i2 i3 i5 i6 (sl A n' c) n' xs hown ⟨g2, o2, none⟩ m c' news hl
    (fun j u hu => by rw [addr_add]; exact hnews w hm j u hu) h1 h63 hby hm.below.size
  have hsh : ∃ A' cap', v' = sl A' (n' + m) cap' ∧ (Blk.own A' e sz (n' + m) cap' (xs ++ news)).on w' ∧ (0 < n' + m → ∃ g, A' = some g) := by
    obtain ⟨q1, q2⟩ := h2
    rcases q2 with ⟨rfl, q3⟩ | ⟨g, cap, cur, rfl, _, q4, q5, q6, q7, q8⟩
    · refine ⟨none, 0, by rw [q3]; rfl, ⟨q1, by omega, Nat.zero_le _, q3, rfl⟩, fun h => by omega⟩
    · refine ⟨some g, cap, rfl, ⟨q1, q5, q6, cur.toList.drop ((n' + m) * sz), ?_, ?_⟩, fun _ => ⟨g, rfl⟩⟩
      · rw [← q8, List.take_append_drop]; simpa using q7
      · rw [← q8, List.take_append_drop]; simpa using q4
  obtain ⟨A', cap', rfl, hon, hsome⟩ := hsh
  refine wpList_plain rfl fun K hK => ?_
  unfold Oper.wp execOp
  simp only [resolve, invoke, builtin, Sem.run_bind, Sem.run_pure, Result.andThen_ok, List.map_toArray, List.map_cons, List.map_nil, hs.eval x _ hx, hs.eval y _ hy, hr, Oper.upon]
  have hkey : ∀ (B : Option Nat) (q r : Nat), (sl B q r).ownBlock = B := fun B q r => by cases B <;> rfl
  rw [hkey] at h3
  refine hK _ _ (k A' cap' hsome _ _ (hs.put (Nat.blt_eq ▸ hn) _) (hm'.upd h3 hon fun j hj => ?_))
  rw [hkey, hkey] at h5
  simp only [Blk.key] at hj ⊢
  rcases h5 with h5 | h5
  · left; rw [← h5]; exact hj
  · right; rw [h5] at hj; injection hj with hj; omega

/-- A nil slice is a row of the call's own. -/
theorem wl_nilrow {ops : Array Oper} (e sz : Nat) (k : WL P n w0 ops rest Q s (.own none e sz 0 0 [] :: H)) : WL P n w0 ops rest Q s H := fun a w hs hm =>
  k a w hs (hm.new (b := .own none e sz 0 0 []) ⟨rfl, rfl, rfl, Nat.le_refl _, fun _ _ _ => rfl⟩ ⟨by simp, Nat.le_refl _, Nat.zero_le _, rfl, rfl⟩ (fun k hk => by cases hk))
theorem w_nilrow {c : Code} (e sz : Nat) (k : W P n w0 c Q s (.own none e sz 0 0 [] :: H)) : W P n w0 c Q s H := fun a w hs hm =>
  k a w hs (hm.new (b := .own none e sz 0 0 []) ⟨rfl, rfl, rfl, Nat.le_refl _, fun _ _ _ => rfl⟩ ⟨by simp, Nat.le_refl _, Nat.zero_le _, rfl, rfl⟩ (fun k hk => by cases hk))

theorem wl_sub {ops : Array Oper} {s' : Slots} (hs : Sub s' s) (h : WL P n w0 ops rest Q s' H) : WL P n w0 ops rest Q s H :=
  fun a w hst hm => h a w (hst.sub hs) hm
theorem wl_msub {ops : Array Oper} {H' : List Blk} (hH : MSub H' H) (h : WL P n w0 ops rest Q s H') : WL P n w0 ops rest Q s H :=
  fun a w hst hm => h a w hst (hH.use hm)

/-- 'x[lo:hi]' of a slice, both bounds within. -/
theorem wl_slice {d t e lo hi m c sz : Nat} {A : Option Addr} {x : Operand} {xl xh : Option Operand} {ops : Array Oper} [ht : Und P t (.slice e)] [hz : Size P e sz] (hn : Nat.blt d n.sz = true) (hx : ev s x = some (.slice A m c))
    (hxl : match xl with | none => lo = 0 | some q => ∃ k, ev s q = some (.int k (lo : Nat))) (hxh : match xh with | none => hi = m | some q => ∃ k, ev s q = some (.int k (hi : Nat))) (h1 : lo ≤ hi) (h2 : hi ≤ c)
    (k : ∀ B, (B = if c = lo then A else A.map (·.add (lo * sz))) → WL P n w0 ops rest Q ((d, .slice B (hi - lo) (c - lo)) :: s) H) : WL P n w0 ops (⟨some d, .slice t x xl xh none, ty, p, af, none⟩ :: rest) Q s H := by
  refine wl_exec rfl d rfl hn (fun a w hs hm => ?_) (k _ rfl)
  obtain ⟨i, hi1, hi2⟩ := hz.out
  have e1 : ((lo : Nat) : Int) ≤ ((hi : Nat) : Int) := by omega
  have e2 : ((hi : Nat) : Int) ≤ ((c : Nat) : Int) := by omega
  have e3 : ((0 : Nat) : Int) ≤ ((hi : Nat) : Int) := by omega
  cases xl with
  | none =>
    cases xh with
    | none =>
      simp only at hxl hxh
      subst hxl hxh
      simp [execOp, hs.eval x _ hx, Instr.sliceAt, run_underlying ht.out, Instr.slice, Instr.sliceBounds, sizeOf, typeInfo, hi1]
    | some q =>
      simp only at hxl hxh
      subst hxl
      obtain ⟨kk, hq⟩ := hxh
      simp [execOp, hs.eval x _ hx, hs.eval q _ hq, Instr.sliceAt, run_underlying ht.out, Instr.slice, Instr.sliceBounds, Instr.sliceBound, asIntOf, sizeOf, typeInfo, hi1, h2]
  | some ql =>
    obtain ⟨kl, hql⟩ := hxl
    cases xh with
    | none =>
      simp only at hxh
      subst hxh
      simp [execOp, hs.eval x _ hx, hs.eval ql _ hql, Instr.sliceAt, run_underlying ht.out, Instr.slice, Instr.sliceBounds, Instr.sliceBound, asIntOf, sizeOf, typeInfo, hi1, hi2, h1]
    | some q =>
      obtain ⟨kk, hq⟩ := hxh
      simp [execOp, hs.eval x _ hx, hs.eval q _ hq, hs.eval ql _ hql, Instr.sliceAt, run_underlying ht.out, Instr.slice, Instr.sliceBounds, Instr.sliceBound, asIntOf, sizeOf, typeInfo, hi1, hi2, h1, h2]

end
end Go.SL

/-
  The rules of the judgement W, third part: calls; entering a function and leaving it; regions that draw their order and whose operations leave all that is owned as it was.
-/
namespace Go.SL
open Go Go.RowKit

/-! ### Calls -/

/-- The call returns; what it leaves that is new, and its value, are as R says; what existed is as it was. -/
def FnAt (P : Program) (f : FuncId) (args : List Value) (w : World) (R : Value → List Blk → Prop) : Prop :=
  Calls P f args.toArray w fun e w' => ∃ v H', e = .returned v ∧ Mem w w' H' ∧ R v H'

/-- The call returns v; what existed is as it was. -/
def Pure (P : Program) (f : FuncId) (args : List Value) (w : World) (v : Value) : Prop := FnAt P f args w fun u _ => u = v

/-- The call turns what is owned. -/
def FnIn (P : Program) (f : FuncId) (args : List Value) (w0 : World) (H : List Blk) (R : Value → List Blk → Prop) : Prop :=
  ∀ w, Mem w0 w H → Calls P f args.toArray w fun e w' => ∃ v H', e = .returned v ∧ Mem w0 w' H' ∧ R v H'

theorem FnAt.mono {P : Program} {f : FuncId} {args : List Value} {w : World} {R R' : Value → List Blk → Prop} (h : FnAt P f args w R) (hr : ∀ v H, R v H → R' v H) : FnAt P f args w R' :=
  Calls.mono h fun _ _ ⟨v, H', h1, h2, h3⟩ => ⟨v, H', h1, h2, hr _ _ h3⟩

theorem FnIn.mono {P : Program} {f : FuncId} {args : List Value} {w0 : World} {H : List Blk} {R R' : Value → List Blk → Prop} (h : FnIn P f args w0 H R) (hr : ∀ v H, R v H → R' v H) : FnIn P f args w0 H R' :=
  fun w hm => Calls.mono (h w hm) fun _ _ ⟨v, H', h1, h2, h3⟩ => ⟨v, H', h1, h2, hr _ _ h3⟩

/-- What is kept aside through a call: a function that works on H works beside F. -/
theorem FnIn.of_at {P : Program} {f : FuncId} {args : List Value} {w0 : World} {H : List Blk} {R : Value → List Blk → Prop} (h : ∀ w, Mem w0 w H → FnAt P f args w R) :
    FnIn P f args w0 H fun v H' => ∃ H1, R v H1 ∧ H' = H1 ++ H :=
  fun w hm => Calls.mono (h w hm) fun _ _ ⟨v, H', h1, h2, h3⟩ => ⟨v, H' ++ H, h1, hm.call h2, H', h3, rfl⟩

def evs (s : Slots) : List Operand → Option (List Value)
  | [] => some []
  | x :: r => match ev s x, evs s r with
    | some v, some vs => some (v :: vs)
    | _, _ => none

section
variable {P : Program} {n : Fr} {w0 : World} {Q : Post} {s : Slots} {H : List Blk} {l rest : List Oper} {ty : TypeId} {p : String} {af : Array Edge}

theorem evs_map {a : Act} (hs : St n s a) : ∀ {xs : List Operand} {vs : List Value}, evs s xs = some vs → xs.map a.eval = vs
  | [], vs, h => by simp only [evs, Option.some.injEq] at h; simp [← h]
  | x :: r, vs, h => by
    simp only [evs] at h
    split at h
    · rename_i v vs' hv hvs
      simp only [Option.some.injEq] at h
      rw [← h, List.map_cons, evs_map hs hvs, hs.eval x v hv]
    · cases h

theorem run_call {ρ : Operand → Value} {w : World} {d : Option Tmp} {g : Option (Nat × Bool)} {f : FuncId} {c : Operand} {xs : List Operand} {vs caps : List Value} {ts : Array TypeId} [hf : Callable P f] (hc : ρ c = .func (.func f) #[] caps.toArray) (hx : xs.map ρ = vs) :
    (execOp ρ ⟨d, .call { callee := .value c, args := xs.toArray, argTypes := ts }, ty, p, af, g⟩).run P w = .ok (.enter f (vs ++ caps).toArray) w := by
  simp [execOp, resolve, hc, Deferred.ofValue, invoke, ← hx, hf.out]

/-- A call of a function by its name. -/
theorem wl_callin {d : Nat} {ops : Array Oper} {f : FuncId} {xs : List Operand} {vs : List Value} {ts : Array TypeId} {R : Value → List Blk → Prop} [Callable P f] (hn : Nat.blt d n.sz = true) (hx : evs s xs = some vs)
    (hF : FnIn P f vs w0 H R) (k : ∀ v H', R v H' → WL P n w0 ops rest Q ((d, v) :: s) H') :
    WL P n w0 ops (⟨some d, .call { callee := .value (.func f), args := xs.toArray, argTypes := ts }, ty, p, af, none⟩ :: rest) Q s H := by
  intro a w hs hm
  refine wpList_plain rfl fun K hK => ?_
  have hr := run_call (P := P) (w := w) (ρ := a.eval) (d := some d) (ty := ty) (p := p) (af := af) (g := none) (f := f) (c := .func f) (xs := xs) (caps := []) (ts := ts) rfl (evs_map hs hx)
  rw [List.append_nil] at hr
  simp only [Oper.wp, hr, Oper.upon]
  refine (hF w hm).mono ?_
  rintro e w' ⟨v, H', rfl, hm', hR⟩
  exact hK _ _ (k v H' hR _ _ (hs.put (Nat.blt_eq ▸ hn) _) hm')

theorem wl_callin0 {ops : Array Oper} {f : FuncId} {xs : List Operand} {vs : List Value} {ts : Array TypeId} {R : Value → List Blk → Prop} [Callable P f] (hx : evs s xs = some vs)
    (hF : FnIn P f vs w0 H R) (k : ∀ v H', R v H' → WL P n w0 ops rest Q s H') :
    WL P n w0 ops (⟨none, .call { callee := .value (.func f), args := xs.toArray, argTypes := ts }, ty, p, af, none⟩ :: rest) Q s H := by
  intro a w hs hm
  refine wpList_plain rfl fun K hK => ?_
  have hr := run_call (P := P) (w := w) (ρ := a.eval) (d := none) (ty := ty) (p := p) (af := af) (g := none) (f := f) (c := .func f) (xs := xs) (caps := []) (ts := ts) rfl (evs_map hs hx)
  rw [List.append_nil] at hr
  simp only [Oper.wp, hr, Oper.upon]
  refine (hF w hm).mono ?_
  rintro e w' ⟨v, H', rfl, hm', hR⟩
  exact hK _ _ (k v H' hR _ _ (hs.put_none _) hm')

/-- A call of a function value that is known. -/
theorem wl_callv {d : Nat} {ops : Array Oper} {f : FuncId} {c : Operand} {xs : List Operand} {vs caps : List Value} {ts : Array TypeId} {R : Value → List Blk → Prop} (hn : Nat.blt d n.sz = true) (hc : ev s c = some (.func (.func f) #[] caps.toArray)) (hfc : Callable P f) (hx : evs s xs = some vs)
    (hF : FnIn P f (vs ++ caps) w0 H R) (k : ∀ v H', R v H' → WL P n w0 ops rest Q ((d, v) :: s) H') :
    WL P n w0 ops (⟨some d, .call { callee := .value c, args := xs.toArray, argTypes := ts }, ty, p, af, none⟩ :: rest) Q s H := by
  intro a w hs hm
  refine wpList_plain rfl fun K hK => ?_
  have hr := run_call (P := P) (w := w) (ρ := a.eval) (d := some d) (ty := ty) (p := p) (af := af) (g := none) (f := f) (c := c) (xs := xs) (caps := caps) (ts := ts) (hs.eval c _ hc) (evs_map hs hx)
  simp only [Oper.wp, hr, Oper.upon]
  refine (hF w hm).mono ?_
  rintro e w' ⟨v, H', rfl, hm', hR⟩
  exact hK _ _ (k v H' hR _ _ (hs.put (Nat.blt_eq ▸ hn) _) hm')

theorem wl_callv0 {ops : Array Oper} {f : FuncId} {c : Operand} {xs : List Operand} {vs caps : List Value} {ts : Array TypeId} {R : Value → List Blk → Prop} (hc : ev s c = some (.func (.func f) #[] caps.toArray)) (hfc : Callable P f) (hx : evs s xs = some vs)
    (hF : FnIn P f (vs ++ caps) w0 H R) (k : ∀ v H', R v H' → WL P n w0 ops rest Q s H') :
    WL P n w0 ops (⟨none, .call { callee := .value c, args := xs.toArray, argTypes := ts }, ty, p, af, none⟩ :: rest) Q s H := by
  intro a w hs hm
  refine wpList_plain rfl fun K hK => ?_
  have hr := run_call (P := P) (w := w) (ρ := a.eval) (d := none) (ty := ty) (p := p) (af := af) (g := none) (f := f) (c := c) (xs := xs) (caps := caps) (ts := ts) (hs.eval c _ hc) (evs_map hs hx)
  simp only [Oper.wp, hr, Oper.upon]
  refine (hF w hm).mono ?_
  rintro e w' ⟨v, H', rfl, hm', hR⟩
  exact hK _ _ (k v H' hR _ _ (hs.put_none _) hm')

/-- A call that leaves what existed as it was. -/
theorem wl_call {d : Nat} {ops : Array Oper} {f : FuncId} {xs : List Operand} {vs : List Value} {ts : Array TypeId} {R : Value → List Blk → Prop} [Callable P f] (hn : Nat.blt d n.sz = true) (hx : evs s xs = some vs)
    (hF : ∀ w, Mem w0 w H → FnAt P f vs w R) (k : ∀ v H', R v H' → WL P n w0 ops rest Q ((d, v) :: s) (H' ++ H)) :
    WL P n w0 ops (⟨some d, .call { callee := .value (.func f), args := xs.toArray, argTypes := ts }, ty, p, af, none⟩ :: rest) Q s H :=
  wl_callin hn hx (FnIn.of_at hF) fun v _ ⟨H1, h1, h2⟩ => h2 ▸ k v H1 h1

/-- A call that leaves what existed as it was, and yields v. -/
theorem wl_callp {d : Nat} {ops : Array Oper} {f : FuncId} {xs : List Operand} {vs : List Value} {v : Value} {ts : Array TypeId} [Callable P f] (hn : Nat.blt d n.sz = true) (hx : evs s xs = some vs)
    (hF : ∀ w, Mem w0 w H → Pure P f vs w v) (k : WL P n w0 ops rest Q ((d, v) :: s) H) :
    WL P n w0 ops (⟨some d, .call { callee := .value (.func f), args := xs.toArray, argTypes := ts }, ty, p, af, none⟩ :: rest) Q s H :=
  wl_call hn hx (R := fun u _ => u = v) hF fun u H' e => by
    subst e
    exact wl_msub ⟨H', List.perm_append_comm⟩ k

/-! ### A function's body -/

/-- What the results come to. -/
def Res (P : Program) (fn : Func) (n : Fr) (w0 : World) (s : Slots) (H : List Blk) (v : Value) : Prop :=
  ∀ a w, St n s a → Mem w0 w H → (results fn a.tmps).run P w = .ok v w

def retP (P : Program) (fn : Func) (n : Fr) (w0 : World) (R : Value → List Blk → Prop) : Post := fun e s H => (e = .ret ∨ e = .normal) ∧ ∃ v H', MSub H' H ∧ Res P fn n w0 s H v ∧ R v H'

def pars : List Value → Nat → Slots
  | [], _ => []
  | v :: r, k => (k, v) :: pars r (k + 1)

theorem look_pars (args : List Value) (k t : Nat) : look (pars args k) t = if k ≤ t then args[t - k]? else none := by
  induction args generalizing k with
  | nil => simp [pars, look]
  | cons v r ih =>
    simp only [pars]
    rw [look_cons, ih]
    by_cases h : k = t
    · subst h; simp
    · rw [if_neg h]
      by_cases h2 : k ≤ t
      · rw [if_pos h2, if_pos (by omega), show t - k = (t - (k + 1)) + 1 by omega, List.getElem?_cons_succ]
      · rw [if_neg h2, if_neg (by omega)]

theorem fn_in {m : Nat} {f : FuncId} {fn : Func} {c : Code} {args : List Value} {R : Value → List Blk → Prop} (hf : P.funcs[f]? = some fn) (hb : fn.body = some c) (hn : fn.ntmps = m) (hle : Nat.ble args.length m = true)
    (h : W P ⟨m, []⟩ w0 c (retP P fn ⟨m, []⟩ w0 R) (pars args 0) H) : FnIn P f args w0 H R := by
  intro w hm
  have hle' : args.length ≤ m := by simpa using hle
  refine calls_of_wp hf hb (wp_mono (h { tmps := args.toArray ++ Array.replicate (fn.ntmps - args.toArray.size) undef, defers := [] } w ⟨?_, rfl, ?_⟩ hm) ?_)
  · simp [hn]; omega
  · intro t v ht
    rw [look_pars] at ht
    simp only [Nat.zero_le, if_true, Nat.sub_zero] at ht
    have hlt : t < args.length := (List.getElem?_eq_some_iff.1 ht).1
    rw [Array.getElem?_append_left (by simpa using hlt)]
    simpa using ht
  · rintro e a w' ⟨s', H', hs, hm', he, v, H'', hsub, hr, hR⟩
    have hp : a.defers = [] ∧ ∃ v, (results fn a.tmps).run P w' = .ok v w' ∧ ∃ v1 H1, Ending.returned v = .returned v1 ∧ Mem w0 w' H1 ∧ R v1 H1 :=
      ⟨hs.defers, v, hr a w' hs hm', v, H'', rfl, hsub.use hm', hR⟩
    rcases he with rfl | rfl <;> exact hp

theorem fn_at {m : Nat} {f : FuncId} {fn : Func} {c : Code} {args : List Value} {w : World} {R : Value → List Blk → Prop} (hf : P.funcs[f]? = some fn) (hb : fn.body = some c) (hn : fn.ntmps = m) (hle : Nat.ble args.length m = true)
    (h : W P ⟨m, []⟩ w c (retP P fn ⟨m, []⟩ w R) (pars args 0) []) : FnAt P f args w R := fn_in hf hb hn hle h w (Mem.refl w)

section res
variable {fn : Func} {R : Value → List Blk → Prop} {e : Exit}
theorem ret0 (he : e = .ret ∨ e = .normal) (hr : fn.results = #[]) {H' : List Blk} (hs : MSub H' H) (h : R (.tuple #[]) H') : retP P fn n w0 R e s H :=
  ⟨he, _, H', hs, fun a w _ _ => by simp [results, hr], h⟩
theorem ret1 (he : e = .ret ∨ e = .normal) {t : Tmp} {v : Value} (hr : fn.results = #[.tmp t]) (hv : look s t = some v) {H' : List Blk} (hs : MSub H' H) (h : R v H') : retP P fn n w0 R e s H :=
  ⟨he, v, H', hs, fun a w hst _ => by
    have := hst.has t v hv
    simp [results, hr, Array.getD_eq_getD_getElem?, this], h⟩
theorem ret2 (he : e = .ret ∨ e = .normal) {t u : Tmp} {v x : Value} (hr : fn.results = #[.tmp t, .tmp u]) (hv : look s t = some v) (hx : look s u = some x) {H' : List Blk} (hs : MSub H' H) (h : R (.tuple #[v, x]) H') : retP P fn n w0 R e s H :=
  ⟨he, _, H', hs, fun a w hst _ => by
    have h1 := hst.has t v hv
    have h2 := hst.has u x hx
    simp [results, hr, Array.getD_eq_getD_getElem?, h1, h2], h⟩
theorem ret3 (he : e = .ret ∨ e = .normal) {t u q : Tmp} {v x y : Value} (hr : fn.results = #[.tmp t, .tmp u, .tmp q]) (hv : look s t = some v) (hx : look s u = some x) (hy : look s q = some y) {H' : List Blk} (hs : MSub H' H) (h : R (.tuple #[v, x, y]) H') : retP P fn n w0 R e s H :=
  ⟨he, _, H', hs, fun a w hst _ => by
    have h1 := hst.has t v hv
    have h2 := hst.has u x hx
    have h3 := hst.has q y hy
    simp [results, hr, Array.getD_eq_getD_getElem?, h1, h2, h3], h⟩
end res

/-! ### Regions that draw their order: all operations leave what is owned as it was -/

def WQ (P : Program) (n : Fr) (w0 : World) (ops : Array Oper) (rest : List Oper) (K : Slots → Prop) (s : Slots) (H : List Blk) : Prop :=
  ∀ a, St n s a → wpQuiet P ops (fun w => Mem w0 w H) (fun a' => ∃ s', St n s' a' ∧ K s') rest a

theorem w_draw {id : Nat} (hm : P.follows .mixedOrders = true) (hB : Region.lexB .any l.toArray = true) (h : WQ P n w0 l.toArray l (fun s' => Q .normal s' H) s H) : W P n w0 (.region id l.toArray true) Q s H := by
  intro a w hs hmem
  refine wp_region_quiet (C := fun w => Mem w0 w H) hm hB hmem.drew ?_
  have h1 := h a hs
  have mono : ∀ (r : List Oper) (a : Act) (K K' : Act → Prop), (∀ a, K a → K' a) → wpQuiet P l.toArray (fun w => Mem w0 w H) K r a → wpQuiet P l.toArray (fun w => Mem w0 w H) K' r a := by
    intro r
    induction r with
    | nil => intro a K K' hk h; exact hk _ h
    | cons o r ih =>
      intro a K K' hk h
      unfold wpQuiet at h ⊢
      split
      · rename_i hw
        rw [if_pos hw] at h
        exact Oper.quiet_mono (fun a' h' => ih a' K K' hk h') h
      · rename_i hw
        rw [if_neg hw] at h
        exact ih _ K K' hk h
  simp only [List.toList_toArray]
  exact mono _ _ _ _ (fun a' ⟨s', h2, h3⟩ w' hw' => ⟨s', H, h2, hw', h3⟩) h1

variable {K : Slots → Prop}

theorem wq_nil {ops : Array Oper} (h : K s) : WQ P n w0 ops [] K s H := fun _ hs => ⟨s, hs, h⟩

theorem wq_v {ops : Array Oper} {op : Op} {d : Nat} {v : Value} (hn : Nat.blt d n.sz = true) (hv : VOp P w0 s H op ty v) (k : WQ P n w0 ops rest K ((d, v) :: s) H) :
    WQ P n w0 ops (⟨some d, op, ty, p, af, none⟩ :: rest) K s H := by
  intro a hs
  unfold wpQuiet
  simp only [Region.wanted, if_true]
  refine ⟨v, fun w hm => ?_, k _ (hs.put (Nat.blt_eq ▸ hn) v)⟩
  unfold Oper.quietAt
  rw [hv a.eval w _ _ _ _ hs.eval hm]
  exact ⟨rfl, rfl⟩

theorem wq_callp {d : Nat} {ops : Array Oper} {f : FuncId} {xs : List Operand} {vs : List Value} {v : Value} {ts : Array TypeId} [Callable P f] (hn : Nat.blt d n.sz = true) (hx : evs s xs = some vs)
    (hF : ∀ w, Mem w0 w H → Pure P f vs w v) (k : WQ P n w0 ops rest K ((d, v) :: s) H) :
    WQ P n w0 ops (⟨some d, .call { callee := .value (.func f), args := xs.toArray, argTypes := ts }, ty, p, af, none⟩ :: rest) K s H := by
  intro a hs
  unfold wpQuiet
  simp only [Region.wanted, if_true]
  refine ⟨v, fun w hm => ?_, k _ (hs.put (Nat.blt_eq ▸ hn) v)⟩
  unfold Oper.quietAt
  have hr := run_call (P := P) (w := w) (ρ := a.eval) (d := some d) (ty := ty) (p := p) (af := af) (g := none) (f := f) (c := .func f) (xs := xs) (caps := []) (ts := ts) rfl (evs_map hs hx)
  rw [List.append_nil] at hr
  rw [hr]
  refine ⟨rfl, Calls.mono (hF w hm) ?_⟩
  rintro e w' ⟨u, H', rfl, hm', rfl⟩
  exact ⟨rfl, (hm.call hm').right⟩

theorem wq_gyes {op : Op} {dst : Option Tmp} {j d : Nat} {want : Bool} (hj : gd l j = some d) (hv : look s d = some (.bool want))
    (k : WQ P n w0 l.toArray (⟨dst, op, ty, p, af, none⟩ :: rest) K s H) : WQ P n w0 l.toArray (⟨dst, op, ty, p, af, some (j, want)⟩ :: rest) K s H := by
  intro a hs
  have h := k a hs
  have hy := yielded_of hs hj hv
  unfold wpQuiet at h ⊢
  simp only [Region.wanted, if_true] at h
  simp only [Region.wanted, hy, boolOf, beq_self_eq_true, if_true]
  exact h

theorem wq_gno {op : Op} {dst j d : Nat} {want : Bool} {v : Value} (hj : gd l j = some d) (hv : look s d = some v) (hw : boolOf v ≠ some want) (hn : Nat.blt dst n.sz = true)
    (k : WQ P n w0 l.toArray rest K ((dst, undef) :: s) H) : WQ P n w0 l.toArray (⟨some dst, op, ty, p, af, some (j, want)⟩ :: rest) K s H := by
  intro a hs
  have hy := yielded_of hs hj hv
  have : (yielded l.toArray a.tmps j == some want) = false := by rw [hy]; simpa using hw
  unfold wpQuiet
  simp only [Region.wanted, this]
  exact k _ (hs.put (Nat.blt_eq ▸ hn) _)

theorem wq_gsplit {op : Op} {dst : Option Tmp} {j d : Nat} {want b : Bool} (_hj : gd l j = some d) (hv : look s d = some (.bool b))
    (k1 : b = true → WQ P n w0 l.toArray (⟨dst, op, ty, p, af, some (j, want)⟩ :: rest) K ((d, .bool true) :: s) H)
    (k2 : b = false → WQ P n w0 l.toArray (⟨dst, op, ty, p, af, some (j, want)⟩ :: rest) K ((d, .bool false) :: s) H) :
    WQ P n w0 l.toArray (⟨dst, op, ty, p, af, some (j, want)⟩ :: rest) K s H := by
  intro a hs
  cases b with
  | true => exact k1 rfl a (hs.shadow hv)
  | false => exact k2 rfl a (hs.shadow hv)

end
end Go.SL
namespace Go.SL
section
variable {P : Program} {n : Fr} {w0 : World} {Q : Post} {s : Slots} {H : List Blk} {l rest : List Oper} {ty : TypeId} {p : String} {af : Array Edge} {K : Slots → List Blk → Prop} {id id' : Nat}
theorem thn_n (h : K s H) : thn K Q .normal s H := h
theorem thn_r (h : Q .ret s H) : thn K Q .ret s H := h
theorem thn_e (h : Q (.exit id) s H) : thn K Q (.exit id) s H := h
theorem blk_n (h : Q .normal s H) : blk id Q .normal s H := h
theorem blk_r (h : Q .ret s H) : blk id Q .ret s H := h
theorem blk_e (h : Q .normal s H) : blk id Q (.exit id) s H := by simp only [blk, if_true]; exact h
theorem blk_x (hne : Nat.beq id' id = false) (h : Q (.exit id') s H) : blk id Q (.exit id') s H := by
  have : ¬ id' = id := Nat.ne_of_beq_eq_false hne
  simp only [blk, if_neg this]; exact h

theorem wl_gno_b {op : Op} {dst j d : Nat} {want b : Bool} (hj : gd l j = some d) (hv : look s d = some (.bool b)) (hw : (b == want) = false) (hn : Nat.blt dst n.sz = true)
    (k : WL P n w0 l.toArray rest Q ((dst, undef) :: s) H) : WL P n w0 l.toArray (⟨some dst, op, ty, p, af, some (j, want)⟩ :: rest) Q s H :=
  wl_gno hj hv (by simpa [boolOf] using hw) hn k
theorem wl_gno_u {op : Op} {dst j d : Nat} {want : Bool} (hj : gd l j = some d) (hv : look s d = some (.tuple #[])) (hn : Nat.blt dst n.sz = true)
    (k : WL P n w0 l.toArray rest Q ((dst, undef) :: s) H) : WL P n w0 l.toArray (⟨some dst, op, ty, p, af, some (j, want)⟩ :: rest) Q s H :=
  wl_gno hj hv (by simp [boolOf]) hn k
theorem wq_gno_b {KQ : Slots → Prop} {op : Op} {dst j d : Nat} {want b : Bool} (hj : gd l j = some d) (hv : look s d = some (.bool b)) (hw : (b == want) = false) (hn : Nat.blt dst n.sz = true)
    (k : WQ P n w0 l.toArray rest KQ ((dst, undef) :: s) H) : WQ P n w0 l.toArray (⟨some dst, op, ty, p, af, some (j, want)⟩ :: rest) KQ s H :=
  wq_gno hj hv (by simpa [boolOf] using hw) hn k
theorem wq_gno_u {KQ : Slots → Prop} {op : Op} {dst j d : Nat} {want : Bool} (hj : gd l j = some d) (hv : look s d = some (.tuple #[])) (hn : Nat.blt dst n.sz = true)
    (k : WQ P n w0 l.toArray rest KQ ((dst, undef) :: s) H) : WQ P n w0 l.toArray (⟨some dst, op, ty, p, af, some (j, want)⟩ :: rest) KQ s H :=
  wq_gno hj hv (by simp [boolOf]) hn k

/-- A struct read out of a box or a row, cell by cell. -/
theorem v_loadn_box {x : Operand} {t T g off m : Nat} {xs ys : List Value} [Agg P t m] (hx : ev s x = some (.pointer (some ⟨g, off, none⟩))) (hi : In (.box g T xs) H) (hv : norm ((xs.drop off).take m) = some ys) (hl : Nat.beq ys.length m = true) :
    VOp P w0 s H (.load t x) ty (.agg ys.toArray) := v_loads_box hx hi (norm_eq hv).symm (Nat.eq_of_beq_eq_true hl)
theorem v_loadn_own {x : Operand} {t T g off m n' c sz : Nat} {xs ys : List Value} [Agg P t m] (hx : ev s x = some (.pointer (some ⟨g, off, none⟩))) (hi : In (.own (some g) T sz n' c xs) H) (hv : norm ((xs.drop off).take m) = some ys) (hl : Nat.beq ys.length m = true) :
    VOp P w0 s H (.load t x) ty (.agg ys.toArray) := v_loads_own hx hi (norm_eq hv).symm (Nat.eq_of_beq_eq_true hl)
/-- The whole of a box. -/
theorem v_loadw_box {x : Operand} {t T g m : Nat} {xs : List Value} [Agg P t m] (hx : ev s x = some (.pointer (some ⟨g, 0, none⟩))) (hi : In (.box g T xs) H) (hl : Nat.beq xs.length m = true) :
    VOp P w0 s H (.load t x) ty (.agg xs.toArray) := by
  have hm := Nat.eq_of_beq_eq_true hl
  exact v_loads_box hx hi (by rw [List.drop_zero, ← hm, List.take_length]) hm

theorem wl_storen_box {ops : Array Oper} {t T g off : Nat} {x a : Operand} {xs ys : List Value} {v : Value} {R : List Blk} [Size P t 1] (ha : ev s a = some (.pointer (some ⟨g, off, none⟩))) (hx : ev s x = some v)
    (hsel : Sel (.box g T xs) H R) (hv : v.oneCell' = true) (hfit : Nat.blt off xs.length = true) (hn : norm (xs.set off v) = some ys)
    (k : WL P n w0 ops rest Q s (.box g T ys :: R)) : WL P n w0 ops (⟨none, .store t a x, ty, p, af, none⟩ :: rest) Q s H :=
  wl_store_box ha hx hsel hv hfit (norm_eq hn ▸ k)
theorem wl_putn_box {ops : Array Oper} {t T g off m : Nat} {x a : Operand} {xs vs ys : List Value} {R : List Blk} [Size P t m] (ha : ev s a = some (.pointer (some ⟨g, off, none⟩))) (hx : ev s x = some (.agg vs.toArray))
    (hsel : Sel (.box g T xs) H R) (hl : Nat.beq vs.length m = true) (h1 : vs.all Value.oneCell' = true) (hfit : Nat.ble (off + m) xs.length = true) (hn : norm (xs.take off ++ vs ++ xs.drop (off + m)) = some ys)
    (k : WL P n w0 ops rest Q s (.box g T ys :: R)) : WL P n w0 ops (⟨none, .store t a x, ty, p, af, none⟩ :: rest) Q s H :=
  wl_put_box ha hx hsel rfl (Nat.eq_of_beq_eq_true hl) (by simpa using h1) (by simpa using hfit) (norm_eq hn ▸ k)
end
end Go.SL

/-
  The rules of the judgement W, fourth part: strings: their bytes, a string as bytes and back, ranging over a string of letters below 128; shifts; literals of structs.
-/
namespace Go.SL
open Go Go.RowKit

section
variable {P : Program} {n : Fr} {w0 : World} {Q : Post} {s : Slots} {H : List Blk} {l rest : List Oper} {ty : TypeId} {p : String} {af : Array Edge}

theorem v_shr {x y : Operand} {k k' : IntKind} {a : Int} {m : Nat} {t t' : TypeId} (hx : ev s x = some (.int k a)) (hy : ev s y = some (.int k' (m : Nat))) (hm : Nat.ble m k.bits = true) :
    VOp P w0 s H (.binOp .shr t x y t') ty (.int k (a / 2 ^ m)) := fun ρ w _ _ _ _ hρ _ => by
  have hm' : m ≤ k.bits := by simpa using hm
  have h0 : (0 : Int) ≤ (m : Int) := by omega
  simp [execOp, hρ x _ hx, hρ y _ hy, eqGuard, binOp, shift_shr_any k k' a m h0, Nat.min_eq_left hm']

theorem v_makeFunc {f : FuncId} {caps : List Operand} {vs : List Value} (hc : evs s caps = some vs) : VOp P w0 s H (.makeFunc (.func f) #[] caps.toArray) ty (.func (.func f) #[] vs.toArray) := fun ρ w _ _ _ _ hρ _ => by
  have h : ∀ {xs : List Operand} {vs : List Value}, evs s xs = some vs → xs.map ρ = vs := by
    intro xs
    induction xs with
    | nil => intro vs h; simp only [evs, Option.some.injEq] at h; simp [← h]
    | cons x r ih =>
      intro vs h
      simp only [evs] at h
      split at h
      · rename_i v vs' hv hvs
        simp only [Option.some.injEq] at h
        rw [← h, List.map_cons, ih hvs, hρ x v hv]
      · cases h
  simp [execOp, Instr.makeFunc, h hc]

/-! ### Literals of structs and arrays -/

def evps (s : Slots) : List (Nat × Operand) → Option (List (Nat × Value))
  | [] => some []
  | (i, x) :: r => match ev s x, evps s r with
    | some v, some vs => some ((i, v) :: vs)
    | _, _ => none

class Struct (P : Program) (t : TypeId) (places : outParam (List (Nat × Nat))) (zs : outParam (List Value)) : Prop where
  out : ∃ it z fs, P.info? t = some it ∧ P.underlying t = some (.struct fs) ∧ it.zero = some z ∧ fs.toList.mapM (fun f => (P.info? f.type).map fun i => (f.offset, i.size)) = some places ∧ z.cells = zs.toArray

def cellsL : Value → List Value
  | .agg cs => cs.toList
  | v => [v]
theorem cellsL_eq (v : Value) : v.cells.toList = cellsL v := by cases v <;> rfl

def fillL (places : List (Nat × Nat)) : List Value → List (Nat × Value) → Option (List Value)
  | cells, [] => some cells
  | cells, (i, v) :: r => match places[i]? with
    | none => none
    | some (off, size) => bif Nat.beq (cellsL v).length size && Nat.ble (off + (cellsL v).length) cells.length then fillL places (cells.take off ++ cellsL v ++ cells.drop (off + (cellsL v).length)) r else none

theorem foldl_put (off : Nat) : ∀ (cs : List Value) (k : Nat) (cells : List Value), off + k + cs.length ≤ cells.length →
    (cs.zipIdx k).foldl (fun (a : Array Value) (x : Value × Nat) => a.setIfInBounds (off + x.2) x.1) cells.toArray = (cells.take (off + k) ++ cs ++ cells.drop (off + k + cs.length)).toArray
  | [], k, cells, h => by simp
  | c :: cs, k, cells, h => by
    simp only [List.length_cons] at h
    have h1 : off + k < cells.length := by omega
    rw [List.zipIdx_cons, List.foldl_cons]
    have hset : (cells.toArray.setIfInBounds (off + k) c) = (cells.set (off + k) c).toArray := by simp
    rw [hset, foldl_put off cs (k + 1) (cells.set (off + k) c) (by simp; omega)]
    congr 1
    have e1 : (cells.set (off + k) c).take (off + (k + 1)) = cells.take (off + k) ++ [c] := by
      rw [← take_set cells (off + k) c h1, show off + (k + 1) = (off + k) + 1 by omega, List.take_append_of_le_length (by simp; omega)]
      rw [List.take_of_length_le (by simp; omega)]
    have e2 : (cells.set (off + k) c).drop (off + (k + 1) + cs.length) = cells.drop (off + k + (c :: cs).length) := by
      rw [List.drop_set_of_lt (by omega)]
      simp only [List.length_cons]
      congr 1
      omega
    rw [e1, e2]
    simp

theorem fillL_eq (places : List (Nat × Nat)) : ∀ (ps : List (Nat × Value)) (cells out : List Value), fillL places cells ps = some out → Instr.fill (places.toArray[·]?) cells.toArray ps = some out.toArray
  | [], cells, out, h => by simp only [fillL, Option.some.injEq] at h; simp [Instr.fill, h]
  | (i, v) :: r, cells, out, h => by
    simp only [fillL] at h
    simp only [Instr.fill, List.getElem?_toArray]
    cases hp : places[i]? with
    | none => rw [hp] at h; cases h
    | some x =>
      obtain ⟨off, size⟩ := x
      rw [hp] at h
      dsimp only at h ⊢
      have hsz : v.cells.size = (cellsL v).length := by rw [← cellsL_eq]; simp
      cases hb : (Nat.beq (cellsL v).length size && Nat.ble (off + (cellsL v).length) cells.length) with
      | false => rw [hb] at h; cases h
      | true =>
        rw [hb] at h
        simp only [cond_true] at h
        simp only [Bool.and_eq_true] at hb
        have h1 := Nat.eq_of_beq_eq_true hb.1
        have h2 := Nat.le_of_ble_eq_true hb.2
        rw [if_neg (by simp [hsz, h1]; omega)]
        have hf := foldl_put off (cellsL v) 0 cells (by simpa using h2)
        have hz : v.cells.zipIdx.toList = (cellsL v).zipIdx 0 := by rw [← cellsL_eq]; simp
        rw [← Array.foldl_toList, hz]
        have := fillL_eq places r _ out h
        simp only [Nat.add_zero] at hf
        rw [hf]
        simpa using this

theorem v_build {t : TypeId} {places : List (Nat × Nat)} {zs cells ys : List Value} {ps : List (Nat × Operand)} {qs : List (Nat × Value)} [hS : Struct P t places zs] (hq : evps s ps = some qs) (hf : fillL places zs qs = some cells) (hn : norm cells = some ys) :
    VOp P w0 s H (.build t ps.toArray) ty (.agg ys.toArray) := fun ρ w _ _ _ _ hρ _ => by
  obtain ⟨it, z, fs, h1, h2, h3, h4, h5⟩ := hS.out
  have hmap : ∀ {ps : List (Nat × Operand)} {qs : List (Nat × Value)}, evps s ps = some qs → ps.map (fun (x : Nat × Operand) => (x.1, ρ x.2)) = qs := by
    intro ps
    induction ps with
    | nil => intro qs h; simp only [evps, Option.some.injEq] at h; simp [← h]
    | cons q r ih =>
      intro qs h
      obtain ⟨i, x⟩ := q
      simp only [evps] at h
      split at h
      · rename_i v vs hv hvs
        simp only [Option.some.injEq] at h
        rw [← h, List.map_cons, ih hvs, hρ x v hv]
      · cases h
  have hb : P.built t (ps.map fun (x : Nat × Operand) => (x.1, ρ x.2)) = some cells.toArray := by
    unfold Program.built
    simp only [h1, h2, h3, h4]
    rw [hmap hq, h5]
    exact fillL_eq places qs zs cells hf
  have hr := run_build (P := P) w t (ps.map fun (x : Nat × Operand) => (x.1, ρ x.2)).toArray cells.toArray (by simpa using hb)
  rw [norm_eq hn]
  simp only [execOp, List.map_toArray]
  simp only [Sem.run_bind, hr, Result.andThen_ok, Sem.run_pure]

/-! ### Strings -/

theorem v_index_str {x ix : Operand} {t j : Nat} {a : ByteArray} {k : IntKind} [ht : Und P t .string] (hx : ev s x = some (.string a)) (hi : ev s ix = some (.int k (j : Nat))) (hj : j < a.size) :
    VOp P w0 s H (.index t x ix) ty (.int .u8 ((a[j]'hj).toNat : Int)) := fun ρ w _ _ _ _ hρ _ => by
  have h0 : (0 : Int) ≤ (j : Int) := by omega
  simp [execOp, hρ x _ hx, hρ ix _ hi, Instr.index, run_underlying ht.out, asIntOf, hj]

def bytesV (b : ByteArray) : List Value := b.data.toList.map fun c => .int .u8 (c.toNat : Int)

theorem bytesV_length (b : ByteArray) : (bytesV b).length = b.size := by simp [bytesV]

theorem wl_toBytes {d t u e : Nat} {x : Operand} {a : ByteArray} {ops : Array Oper} [hs : Und P t .string] [hd : Und P u (.slice e)] [he : Und P e (.int .u8)] (hn : Nat.blt d n.sz = true) (hx : ev s x = some (.string a))
    (k : ∀ g cap, WL P n w0 ops rest Q ((d, .slice (some ⟨g, 0, none⟩) a.size cap) :: s) (.byt g e a.size cap (bytesV a) :: H)) :
    WL P n w0 ops (⟨some d, .convert t u x, ty, p, af, none⟩ :: rest) Q s H := by
  intro st w hst hm
  refine wpList_plain rfl fun K hK => ?_
  have hq : (Question.appendCap a.size 0 e).forced = false := rfl
  generalize hcap : (Question.appendCap a.size 0 e).cut (w.tape w.drawn (.appendCap a.size 0 e)) = cap
  have hge : a.size ≤ cap := by rw [← hcap]; simp [Question.cut]
  have hlen : (a.data.map fun b => Value.int .u8 (b.toNat : Int)).size + (cap - a.size) = cap := by
    have : (a.data.map fun b => Value.int .u8 (b.toNat : Int)).size = a.size := by simp
    omega
  generalize hcs : ((a.data.map fun b => Value.int .u8 (b.toNat : Int)) ++ Array.replicate (cap - a.size) (Value.int .u8 0)) = cs
  have hcsz : cs.size = cap := by rw [← hcs]; simpa using hlen
  have hrun : (Conv.stringToBytes e a).run P w = .ok (.slice (some ⟨w.heap.size, 0, none⟩) a.size cap) (({ w with drawn := w.drawn + 1 } : World).alloc (.cells cs e (cap, cap + 1))) := by
    have hfr : (({ w with drawn := w.drawn + 1 } : World).alloc (.cells cs e)).freeze ⟨w.heap.size, cap, none⟩ 1 = (({ w with drawn := w.drawn + 1 } : World).alloc (.cells cs e (cap, cap + 1))) := by
      simp only [World.freeze, World.alloc, Nat.one_ne_zero, if_false]
      congr 1
      refine Array.ext_getElem? fun i => ?_
      rw [Array.getElem?_modify, Array.getElem?_push, Array.getElem?_push]
      by_cases hi : w.heap.size = i
      · subst hi; simp
      · rw [if_neg hi, if_neg (fun e => hi e.symm), if_neg (fun e => hi e.symm)]
    have hshape : (({ w with drawn := w.drawn + 1 } : World).alloc (.cells cs e)).shape? w.heap.size = some (e, cap) := by
      simp [World.shape?, World.alloc, hcsz]
    simp only [Conv.stringToBytes, Sem.run_bind, run_choose, hq, Bool.false_eq_true, if_false, Result.andThen_ok, hcap, newRow, run_newObj, Sem.run_pure, markStringish, run_shape, hcs, World.alloc_eq, hshape, run_freeze, hfr]
  have hev := hst.eval x _ hx
  have hconv : (convert t u (.string a)).run P w = (Conv.stringToBytes e a).run P w := by
    simp [convert, run_underlying hs.out, run_underlying hd.out, run_underlying he.out]
  unfold Oper.wp execOp
  simp only [Sem.run_bind, hev, hconv, hrun, Result.andThen_ok, Sem.run_pure, Oper.upon]
  refine hK _ _ (k w.heap.size cap _ _ (hst.put (Nat.blt_eq ▸ hn) _) (hm.drew.new (World.grownBy_alloc _ _ none) ⟨bytesV_length a, hge, List.replicate (cap - a.size) (.int .u8 0), ?_, ?_⟩ fun k hk => ?_))
  · simp [bytesV_length]; omega
  · rw [heap_alloc_new ({ w with drawn := w.drawn + 1 } : World) _]
    congr 2
    rw [← hcs]
    apply Array.ext'
    simp [bytesV]
  · simp only [Blk.key, Option.some.injEq] at hk
    subst hk
    exact Nat.le_refl _


theorem Mem.cells_byt {w w0 : World} {H : List Blk} {g m c : Nat} {t : TypeId} {xs : List Value} (h : Mem w0 w H) (hi : In (.byt g t m c xs) H) : Cells w g 0 xs := by
  obtain ⟨hl, _, junk, _, h1⟩ := (h.on _ hi.mem).1
  intro j v hv
  rw [Nat.zero_add, cell_of_row w g j _ t _ h1]
  have hlt := (List.getElem?_eq_some_iff.1 hv).1
  rw [List.getElem?_toArray, List.getElem?_append_left hlt]
  exact hv

theorem v_load_byt {x : Operand} {t T g off m c : Nat} {xs : List Value} {v : Value} [One P t] (hx : ev s x = some (.pointer (some ⟨g, off, none⟩))) (hi : In (.byt g T m c xs) H) (hv : xs[off]? = some v) :
    VOp P w0 s H (.load t x) ty v := fun ρ w _ _ _ _ hρ hm => by
  have hc := hm.cells_byt hi off v hv
  rw [Nat.zero_add] at hc
  simp [execOp, hρ x _ hx, Instr.loadAt, Instr.sureAddr, run_load_one (P := P) hc]

theorem push_fold (ns : List Int) (b : ByteArray) : (ns.foldl (fun r n => r.push (UInt8.ofNat n.toNat)) b).data.toList = b.data.toList ++ ns.map fun n => UInt8.ofNat n.toNat := by
  induction ns generalizing b with
  | nil => simp
  | cons n r ih => rw [List.foldl_cons, ih]; simp [ByteArray.push]

/-- Bytes as a string. -/
theorem v_ofBytes {x : Operand} {t u e T g m c : Nat} {ns : List Int} [hs : Und P t (.slice e)] [he : Und P e (.int .u8)] [hd : Und P u .string] (hx : ev s x = some (.slice (some ⟨g, 0, none⟩) m c)) (hi : In (.byt g T m c (ns.map (Value.int .u8))) H) (hl : ns.length = m) :
    VOp P w0 s H (.convert t u x) ty (.string ⟨(ns.map fun n => UInt8.ofNat n.toNat).toArray⟩) := fun ρ w _ _ _ _ hρ hm => by
  have hc := hm.cells_byt hi
  have h1 := run_loadCells_list (P := P) w ⟨g, 0, none⟩ (ns.map (Value.int .u8)) (fun j v hv => by rw [addr_add]; exact hc j v hv)
  rw [List.length_map, hl] at h1
  have h2 := run_bytesToString (P := P) w ⟨g, 0, none⟩ m c ns h1
  have h3 : ns.foldl (fun r n => r.push (UInt8.ofNat n.toNat)) ByteArray.empty = ⟨(ns.map fun n => UInt8.ofNat n.toNat).toArray⟩ := by
    have h4 := push_fold ns ByteArray.empty
    generalize ns.foldl (fun r n => r.push (UInt8.ofNat n.toNat)) ByteArray.empty = b at h4 ⊢
    obtain ⟨⟨l⟩⟩ := b
    simp only at h4
    simp [h4]
  rw [h3] at h2
  simp only [execOp, hρ x _ hx, Sem.run_bind, run_convert_bytes_string w t u e _ _ _ hs.out he.out hd.out, h2, Result.andThen_ok, Sem.run_pure]

theorem wl_store_byt {ops : Array Oper} {t T g off m c : Nat} {x a : Operand} {xs : List Value} {v : Value} {R : List Blk} [Size P t 1] (ha : ev s a = some (.pointer (some ⟨g, off, none⟩))) (hx : ev s x = some v)
    (hsel : Sel (.byt g T m c xs) H R) (hv : v.oneCell' = true) (hfit : off < xs.length)
    (k : WL P n w0 ops rest Q s (.byt g T m c (xs.set off v) :: R)) : WL P n w0 ops (⟨none, .store t a x, ty, p, af, none⟩ :: rest) Q s H := by
  refine wl_heap (fun a' w hs hm => ?_) k
  have hm' := hm.sel hsel
  obtain ⟨h2, h3, junk, h5, hb⟩ := (hm'.on _ List.mem_cons_self).1
  obtain ⟨i, hi, hsz⟩ := (inferInstance : Size P t 1).out
  have hcv : v.cells = #[v] := by cases v <;> first | rfl | cases hv
  have hlt : off < (xs ++ junk).length := by simp; omega
  have hcell : w.cell? ⟨g, off, none⟩ = some (xs ++ junk)[off] := by
    rw [cell_of_row w g off _ T _ hb, List.getElem?_toArray, List.getElem?_eq_getElem hlt]
  have hfz : w.frozen? ⟨g, off, none⟩ = false := by
    have : off < c := by rw [← h5]; exact hlt
    simp only [World.frozen?, hb]
    simp; omega
  have hst : (storeVar t ⟨g, off, none⟩ v).run P w = .ok () (w.setCell ⟨g, off, none⟩ v) := by
    simp [storeVar, sizeOf, typeInfo, hi, hsz, hcv, storeCells, addr_add, run_store P w _ v .plain hv, hcell, hfz]
  have hg : w.grownBy (w.setCell ⟨g, off, none⟩ v) (some g) := ⟨rfl, rfl, rfl, by simp, fun k _ hk => Below.heap_setCell w _ v k (fun e => hk (by rw [e]))⟩
  have hnew : (w.setCell ⟨g, off, none⟩ v).heap[g]? = some (.cells (xs.set off v ++ junk).toArray T (c, c + 1)) := by
    simp only [World.setCell, Array.getElem?_modify, if_true, hb, Option.map_some, Option.isSome_none, Bool.false_eq_true, if_false]
    rw [← List.set_append_left _ _ hfit]
    simp
  refine ⟨_, ?_, hm'.upd hg (b' := .byt g T m c (xs.set off v)) ⟨by simpa using h2, h3, junk, by rw [List.length_append, List.length_set, ← List.length_append]; exact h5, hnew⟩ fun k hk => .inl hk⟩
  simp [execOp, hs.eval a _ ha, hs.eval x _ hx, Instr.storeAt, Instr.sureAddr, hst]

/-! ### Ranging over a string of letters below 128 -/

theorem wl_range_str {d t : Nat} {x : Operand} {a : ByteArray} {ops : Array Oper} [ht : Und P t .string] (hn : Nat.blt d n.sz = true) (hx : ev s x = some (.string a))
    (k : ∀ g, WL P n w0 ops rest Q ((d, .pointer (some ⟨g, 0, none⟩)) :: s) (.obj g (.stringIter a 0) :: H)) : WL P n w0 ops (⟨some d, .range t x, ty, p, af, none⟩ :: rest) Q s H := by
  refine wl_new (B := fun g => .obj g (.stringIter a 0)) (v := fun g => .pointer (some ⟨g, 0, none⟩)) hn (fun st w hs hm => ?_) k
  refine ⟨w.iter a 0, ?_, World.grownBy_alloc w _ none, World.iter_heap w a 0, rfl⟩
  simp [execOp, hs.eval x _ hx, run_range_string w t a ht.out]

theorem wl_next_str {d g pos : Nat} {x : Operand} {a : ByteArray} {R : List Blk} {ops : Array Oper} (hn : Nat.blt d n.sz = true) (hx : ev s x = some (.pointer (some ⟨g, 0, none⟩))) (hsel : Sel (.obj g (.stringIter a pos)) H R)
    (hascii : ∀ h : pos < a.size, (a[pos]'h).toNat < 128)
    (k1 : ∀ h : pos < a.size, WL P n w0 ops rest Q ((d, .tuple #[.bool true, .int .i64 (pos : Int), .int .i32 ((a[pos]'h).toNat : Int)]) :: s) (.obj g (.stringIter a (pos + 1)) :: R))
    (k2 : a.size ≤ pos → WL P n w0 ops rest Q ((d, .tuple #[.bool false]) :: s) (.obj g (.stringIter a pos) :: R)) :
    WL P n w0 ops (⟨some d, .next x true, ty, p, af, none⟩ :: rest) Q s H := by
  intro st w hs hm
  have hm' := hm.sel hsel
  have hb := (hm'.on _ List.mem_cons_self).1
  simp only [Blk.on] at hb
  refine wpList_plain rfl fun K hK => ?_
  by_cases h : pos < a.size
  · have hr : (Instr.next (.pointer (some ⟨g, 0, none⟩)) true ty).run P w = .ok (.tuple #[.bool true, .int .i64 (pos : Int), .int .i32 ((a[pos]'h).toNat : Int)]) { w with heap := w.heap.setIfInBounds g (.stringIter a (pos + 1)) } := by
      simp only [Instr.next, getObj, setObj, Sem.run_bind, Sem.run, hb, Result.andThen, h, if_true, decode_ascii a pos h (hascii h)]
      simp [goInt]
    unfold Oper.wp execOp
    simp only [Sem.run_bind, hs.eval x _ hx, hr, Result.andThen_ok, Sem.run_pure, Oper.upon]
    refine hK _ _ (k1 h _ _ (hs.put (Nat.blt_eq ▸ hn) _) (hm'.upd ⟨rfl, rfl, rfl, by simp, fun k _ hk => ?_⟩ ?_ fun k hk => .inl hk))
    · have hne : g ≠ k := fun e => hk (by rw [← e]; rfl)
      simp [Array.getElem?_setIfInBounds_ne hne]
    · simp only [Blk.on]
      have : g < w.heap.size := (Array.getElem?_eq_some_iff.1 hb).1
      simp [this]
  · have hr : (Instr.next (.pointer (some ⟨g, 0, none⟩)) true ty).run P w = .ok (.tuple #[.bool false]) w := by
      simp [Instr.next, getObj, Sem.run, hb, h]
    unfold Oper.wp execOp
    simp only [Sem.run_bind, hs.eval x _ hx, hr, Result.andThen_ok, Sem.run_pure, Oper.upon]
    exact hK _ _ (k2 (by omega) _ _ (hs.put (Nat.blt_eq ▸ hn) _) hm')

end
end Go.SL

/-
  Regions that draw their order and write memory: what is owned is told by which operations have been carried out; every operation yields one value whenever its turn comes. One walk in the text's order then serves every order.
-/
namespace Go.SL
open Go Go.RowKit

section
variable {P : Program} {ops : Array Oper} {md : Region.Mode} {C : Array Bool → World → Prop}

/-- What is asked of an operation's run: its value is v, and behind it the world is as D says. -/
def GivesUp (P : Program) (D : World → Prop) (v : Value) : Result Next → Prop
  | .ok (.value u) w' => u = v ∧ D w'
  | .ok .skip w' => v = undef ∧ D w'
  | .ok (.enter f args) w' => Calls P f args w' fun e w'' => e = .returned v ∧ D w''
  | _ => False

/-- Whenever operation i may come up, it yields v. -/
def Gives (P : Program) (md : Region.Mode) (ops : Array Oper) (C : Array Bool → World → Prop) (i : Nat) (o : Oper) (v : Value) (a : Act) : Prop :=
  (Region.wanted o (yielded ops a.tmps) = true ∧ ∀ L w, i ∈ Region.ready md ops L → C L w → GivesUp P (C (L.setIfInBounds i true)) v ((execOp a.eval o).run P w)) ∨
  (Region.wanted o (yielded ops a.tmps) = false ∧ v = undef ∧ ∀ L w, i ∈ Region.ready md ops L → C L w → C (L.setIfInBounds i true) w)

theorem Gives.of_same {i : Nat} {o : Oper} {v : Value} {a a' : Act} (hy : Gives P md ops C i o v a) (he : execOp a'.eval o = execOp a.eval o)
    (hw : Region.wanted o (yielded ops a'.tmps) = Region.wanted o (yielded ops a.tmps)) : Gives P md ops C i o v a' := by
  unfold Gives at *
  rw [he, hw]
  exact hy

def gOp (P : Program) (md : Region.Mode) (ops : Array Oper) (C : Array Bool → World → Prop) (i : Nat) (K : Act → Prop) (a : Act) : Prop :=
  ∃ o v, ops[i]? = some o ∧ Gives P md ops C i o v a ∧ K (a.put o.dst v)

def AnyG (P : Program) (md : Region.Mode) (ops : Array Oper) (C : Array Bool → World → Prop) (Q : Array Bool → Act → Prop) : Nat → Array Bool → Act → Prop
  | 0, L, a => Region.ready md ops L = [] ∧ Q L a
  | f + 1, L, a => (Region.ready md ops L = [] → Q L a) ∧ ∀ i ∈ Region.ready md ops L, gOp P md ops C i (AnyG P md ops C Q f (L.setIfInBounds i true)) a

theorem wpAny_of_AnyG {Q : Array Bool → Act → Prop} {Q' : Exit → Act → World → Prop} (hQ : ∀ L a w, Region.ready md ops L = [] → C L w → Q L a → Q' .normal a w) : ∀ (f : Nat) (L : Array Bool) (a : Act) (w : World), C L w →
    AnyG P md ops C Q f L a → wpAny P md ops Q' f L a w
  | 0, L, a, w, hC, h => ⟨h.1, hQ L a w h.1 hC h.2⟩
  | f + 1, L, a, w, hC, h => ⟨fun h0 => hQ L a w h0 hC (h.1 h0), fun i hi => by
      obtain ⟨o, v, ho, hg, hk⟩ := h.2 i hi
      unfold wpOp
      simp only [ho]
      rcases hg with ⟨hw, hg⟩ | ⟨hw, rfl, hg⟩
      · simp only [hw, if_true]
        refine .inl ?_
        have h1 := hg L w hi hC
        unfold Oper.wp
        generalize (execOp a.eval o).run P w = r at h1 ⊢
        cases r with
        | ok x w' =>
          cases x <;> simp only [GivesUp] at h1 <;> simp only [Oper.upon]
          case value u => obtain ⟨rfl, h2⟩ := h1; exact wpAny_of_AnyG hQ f _ _ _ h2 hk
          case skip => obtain ⟨rfl, h2⟩ := h1; exact wpAny_of_AnyG hQ f _ _ _ h2 hk
          case enter g args => exact h1.mono fun e w'' ⟨he, h2⟩ => by subst he; exact wpAny_of_AnyG hQ f _ _ _ h2 hk
        | halt x w' => simp only [GivesUp] at h1
      · simp only [hw, Bool.false_eq_true, if_false]
        exact wpAny_of_AnyG hQ f _ _ _ (hg L w hi hC) hk⟩

theorem gOp_mono {i : Nat} {a : Act} {K K' : Act → Prop} (h : ∀ a, K a → K' a) (hh : gOp P md ops C i K a) : gOp P md ops C i K' a :=
  let ⟨o, v, h1, h2, h3⟩ := hh
  ⟨o, v, h1, h2, h _ h3⟩

theorem gOp_put {i j : Nat} {oi oj : Oper} {v : Value} (hj : ops[j]? = some oj) (hap : oi.apart ops oj = true)
    (hsi : ∀ cs b, oi.op ≠ .select cs b) (hsj : ∀ cs b, oj.op ≠ .select cs b) {K : Act → Prop} {a : Act}
    (hy : Gives P md ops C i oi v a) (h : gOp P md ops C j K (a.put oi.dst v)) :
    gOp P md ops C j (fun a' => Gives P md ops C i oi v a' ∧ K (a'.put oi.dst v)) a := by
  obtain ⟨h1, h2, h3⟩ := Oper.apart_spec hap
  obtain ⟨o, u, ho, hg, hk⟩ := h
  have e : o = oj := Option.some.inj (ho.symm.trans hj)
  subst e
  refine ⟨o, u, ho, hg.of_same (execOp_put o hsj a oi.dst v h1).symm (wanted_put o a oi.dst v h1).symm, hy.of_same (execOp_put oi hsi a o.dst u h3) (wanted_put oi a o.dst u h3), ?_⟩
  rw [← Act.put_comm a v u h2]
  exact hk

theorem AnyG_first {Q : Array Bool → Act → Prop} {i : Nat} {oi : Oper} {v : Value} (hi : ops[i]? = some oi) (hsel : ∀ (j : Nat) (o : Oper) cs b, ops[j]? = some o → o.op ≠ .select cs b) :
    ∀ (f : Nat) (L : Array Bool) (a : Act),
      (∀ j oj, ops[j]? = some oj → j ≠ i → L.getD j true = false → (∀ e ∈ oj.after, Region.binds md e = true → e.on ≠ i) → oi.apart ops oj = true) →
      i ∈ Region.ready md ops L → Gives P md ops C i oi v a → AnyG P md ops C Q f (L.setIfInBounds i true) (a.put oi.dst v) → AnyG P md ops C Q (f + 1) L a
  | 0, L, a, _, hr, hy, H => ⟨fun h => (by rw [h] at hr; cases hr), fun j hj => by
      by_cases hji : j = i
      · subst hji; exact ⟨oi, v, hi, hy, H⟩
      · have := ready_mono hj hji
        rw [H.1] at this
        cases this⟩
  | f + 1, L, a, hfree, hr, hy, H => ⟨fun h => (by rw [h] at hr; cases hr), fun j hj => by
      by_cases hji : j = i
      · subst hji; exact ⟨oi, v, hi, hy, H⟩
      · have h1 := H.2 j (ready_mono hj hji)
        obtain ⟨hjun, oj, hoj, hall⟩ := mem_ready.1 hj
        have hnot : ∀ e ∈ oj.after, Region.binds md e = true → e.on ≠ i := fun e he hb heq => by
          have h1 := hall e he hb
          have h0 := (mem_ready.1 hr).1
          rw [heq] at h1
          rcases Nat.lt_or_ge i L.size with h' | h'
          · simp [h'] at h0 h1; rw [h0] at h1; cases h1
          · simp [Array.getElem?_eq_none h'] at h1
        have h2 := gOp_put hoj (hfree j oj hoj hji hjun hnot) (fun cs b => hsel i oi cs b hi) (fun cs b => hsel j oj cs b hoj) hy h1
        have hfree' : ∀ k ok, ops[k]? = some ok → k ≠ i → (L.setIfInBounds j true).getD k true = false →
            (∀ e ∈ ok.after, Region.binds md e = true → e.on ≠ i) → oi.apart ops ok = true := fun k ok hk hki hun hno => by
          refine hfree k ok hk hki ?_ hno
          by_cases hjk : j = k
          · subst hjk; exact hjun
          · rw [getD_set_ne true hjk] at hun; exact hun
        refine gOp_mono (fun a' h3 => AnyG_first hi hsel f (L.setIfInBounds j true) a' hfree' (ready_mono hr (Ne.symm hji)) h3.1 ?_) h2
        rw [Array.setIfInBounds_comm _ _ hji]
        exact h3.2⟩

/-- The walk in the text's order: operation k and those behind it. -/
def wpG (P : Program) (md : Region.Mode) (ops : Array Oper) (C : Array Bool → World → Prop) (Q : Act → Prop) : List Oper → Nat → Act → Prop
  | [], _, a => Q a
  | o :: r, k, a => ∃ v, Gives P md ops C k o v a ∧ wpG P md ops C Q r (k + 1) (a.put o.dst v)

theorem AnyG_lex {Q : Act → Prop} (hs : Region.noSelect ops = true) : ∀ (l : List Oper) (k : Nat) (L : Array Bool) (a : Act), (∀ j, l[j]? = ops[k + j]?) →
    Region.lexFrom md ops l.length k L = true → wpG P md ops C Q l k a → AnyG P md ops C (fun _ a => Q a) l.length L a
  | [], _, _, _, _, hB, h => ⟨by simpa [Region.lexFrom] using hB, h⟩
  | o :: l, k, L, a, hl, hB, h => by
    have h0 : ops[k]? = some o := by simpa using (hl 0).symm
    simp only [List.length_cons, Region.lexFrom, Bool.and_eq_true] at hB
    obtain ⟨⟨hr, hf⟩, hB'⟩ := hB
    obtain ⟨v, hy, hK⟩ := h
    exact AnyG_first h0 (Region.noSelect_spec hs) l.length L a (Region.free_spec h0 hf) (by simpa using hr) hy
      (AnyG_lex hs l (k + 1) _ _ (fun j => by have := hl (j + 1); simpa [Nat.add_assoc, Nat.add_comm 1 j] using this) hB' hK)

/-- The region, with what is owned said by a list of the operations' numbers that have been carried out. -/
theorem wp_region_G {id : Nat} {Q : Exit → Act → World → Prop} {a : Act} {w : World} (hm : P.follows .mixedOrders = true) (hB : Region.lexB .any ops = true) (hC : C (Array.replicate ops.size false) { w with drawn := w.drawn + 1 })
    (h : wpG P .any ops C (fun a' => ∀ L w', Region.ready .any ops L = [] → C L w' → Q .normal a' w') ops.toList 0 a) : (Code.region id ops true).wp P Q a w := by
  simp only [Region.lexB, Bool.and_eq_true] at hB
  refine wp_region_any hm (wpAny_of_AnyG (Q := fun _ a' => ∀ L w', Region.ready .any ops L = [] → C L w' → Q .normal a' w') (fun L a' w' hr hw' h => h L w' hr hw') _ _ _ _ hC ?_)
  have := AnyG_lex (C := C) (md := .any) hB.1 ops.toList 0 (Array.replicate ops.size false) a (by simp) (by simpa using hB.2) h
  simpa using this
end

/-! ### In the judgement -/

/-- Of every operation of the region: has it been carried out? -/
abbrev Done := Nat → Bool
def done (L : Array Bool) : Done := fun i => L.getD i false

section
variable {P : Program} {n : Fr} {w0 : World} {Q : Post} {s : Slots} {H : List Blk} {l rest : List Oper} {ty : TypeId} {p : String} {af : Array Edge}

/-- The class of worlds: what is owned, by what has been carried out; only sets that are closed under 'before' come up. -/
def Cls (w0 : World) (l : List Oper) (HL : Done → List Blk) (L : Array Bool) (w : World) : Prop :=
  L.size = l.length ∧ (∀ i o, l[i]? = some o → done L i = true → ∀ e ∈ o.after, Region.binds .any e = true → done L e.on = true) ∧ Mem w0 w (HL (done L))

/-- The operations that operation o waits for. -/
def waits (o : Oper) : List Nat := o.after.toList.filterMap fun e => if Region.binds .any e then some e.on else none

/-- Before operation k: those that it waits for are done, it is not; what is done is closed. -/
structure Turn (l : List Oper) (k : Nat) (o : Oper) (D : Done) : Prop where
  not : D k = false
  before : ∀ i ∈ waits o, D i = true
  closed : ∀ i x, l[i]? = some x → D i = true → ∀ j ∈ waits x, D j = true

def put (D : Done) (k : Nat) : Done := fun i => if i = k then true else D i

def WG (P : Program) (n : Fr) (w0 : World) (l : List Oper) (HL : Done → List Blk) (K : Slots → Prop) (rest : List Oper) (k : Nat) (s : Slots) : Prop :=
  ∀ a, St n s a → (∀ j, rest[j]? = l[k + j]?) → wpG P .any l.toArray (Cls w0 l HL) (fun a' => ∃ s', St n s' a' ∧ K s') rest k a

theorem waits_mem {o : Oper} {i : Nat} : i ∈ waits o ↔ ∃ e ∈ o.after, Region.binds .any e = true ∧ e.on = i := by
  unfold waits
  rw [List.mem_filterMap]
  constructor
  · rintro ⟨e, he, h⟩
    split at h
    · rename_i hb
      injection h with h
      exact ⟨e, by simpa using he, hb, h⟩
    · cases h
  · rintro ⟨e, he, hb, h⟩
    exact ⟨e, by simpa using he, by simp [hb, h]⟩

theorem turn_of {HL : Done → List Blk} {k : Nat} {o : Oper} {L : Array Bool} {w : World} (hk : l[k]? = some o) (hr : k ∈ Region.ready .any l.toArray L) (hc : Cls w0 l HL L w) : Turn l k o (done L) ∧ done (L.setIfInBounds k true) = put (done L) k ∧ (∀ w', Mem w0 w' (HL (put (done L) k)) → Cls w0 l HL (L.setIfInBounds k true) w') := by
  obtain ⟨hsz, hcl, _⟩ := hc
  obtain ⟨h0, o', ho', hall⟩ := mem_ready.1 hr
  have e : o' = o := by
    rw [List.getElem?_toArray, hk] at ho'
    exact (Option.some.inj ho').symm
  subst e
  have hlt : k < L.size := by rw [hsz]; exact (List.getElem?_eq_some_iff.1 hk).1
  have hd : done (L.setIfInBounds k true) = put (done L) k := by
    funext i
    unfold done put
    by_cases hik : i = k
    · subst hik; simp [hlt]
    · rw [if_neg hik, getD_set_ne false (Ne.symm hik)]
  have hcl' : ∀ i x, l[i]? = some x → done L i = true → ∀ j ∈ waits x, done L j = true := fun i x hx hi j hj => by
    obtain ⟨e, he, hb, rfl⟩ := waits_mem.1 hj
    exact hcl i x hx hi e he hb
  refine ⟨⟨?_, fun i hi => ?_, hcl'⟩, hd, fun w' hm => ⟨by simpa using hsz, fun i x hx hi e he hb => ?_, hd ▸ hm⟩⟩
  · unfold done; simp [hlt] at h0 ⊢; exact h0
  · obtain ⟨e, he, hb, rfl⟩ := waits_mem.1 hi
    exact hall e he hb
  · rw [hd] at hi ⊢
    by_cases hik : i = k
    · subst hik
      rw [hk] at hx
      injection hx with hx
      subst hx
      have h1 := hall e he hb
      unfold put
      split
      · rfl
      · exact h1
    · have hi' : done L i = true := by unfold put at hi; rwa [if_neg hik] at hi
      have := hcl i x hx hi' e he hb
      unfold put
      split
      · rfl
      · exact this

theorem w_drawG {id : Nat} (HL : Done → List Blk) (hm : P.follows .mixedOrders = true) (hB : Region.lexB .any l.toArray = true) (h0 : MSub (HL fun _ => false) H)
    (h : WG P n w0 l HL (fun s' => ∀ D : Done, (∀ i, i < l.length → D i = true) → Q .normal s' (HL D)) l 0 s) : W P n w0 (.region id l.toArray true) Q s H := by
  intro a w hs hmem
  have hrep : done (Array.replicate l.toArray.size false) = fun _ => false := by
    funext i
    unfold done
    rw [Array.getD_eq_getD_getElem?, Array.getElem?_replicate]
    split <;> rfl
  refine wp_region_G (C := Cls w0 l HL) hm hB ⟨by simp, fun i o _ hi => (by rw [hrep] at hi; cases hi), by rw [hrep]; exact h0.use hmem.drew⟩ ?_
  have h1 := h a hs (by simp)
  have mono : ∀ (r : List Oper) (k : Nat) (a : Act) (K K' : Act → Prop), (∀ a, K a → K' a) → wpG P .any l.toArray (Cls w0 l HL) K r k a → wpG P .any l.toArray (Cls w0 l HL) K' r k a := by
    intro r
    induction r with
    | nil => intro k a K K' hk h; exact hk _ h
    | cons o r ih =>
      rintro k a K K' hk ⟨v, h1, h2⟩
      exact ⟨v, h1, ih _ _ K K' hk h2⟩
  simp only [List.toList_toArray]
  refine mono _ _ _ _ _ ?_ h1
  rintro a' ⟨s', h2, h3⟩ L w' hr ⟨hsz, hcl, hmem'⟩
  refine ⟨s', HL (done L), h2, hmem', h3 _ fun i hi => ?_⟩
  -- nothing is ready: all is done
  have all : ∀ i, i < l.length → done L i = true := by
    intro i
    induction i using Nat.strongRecOn with
    | _ i ih =>
      intro hi
      cases hd : done L i with
      | true => rfl
      | false =>
        exfalso
        have hlx : ∀ (f k : Nat) (L0 : Array Bool), Region.lexFrom .any l.toArray f k L0 = true → ∀ j o, k ≤ j → j < k + f → l[j]? = some o → ∀ x ∈ waits o, L0.getD x false = true ∨ (k ≤ x ∧ x < j) := by
          intro f
          induction f with
          | zero => intro k L0 _ j o h1 h2; omega
          | succ f ihf =>
            intro k L0 hlex j o h1 h2 ho x hx
            simp only [Region.lexFrom, Bool.and_eq_true] at hlex
            obtain ⟨⟨hrk, _⟩, hrest⟩ := hlex
            by_cases hjk : j = k
            · subst hjk
              obtain ⟨_, o', ho', hall⟩ := mem_ready.1 (by simpa using hrk : j ∈ Region.ready .any l.toArray L0)
              rw [List.getElem?_toArray, ho] at ho'
              injection ho' with ho'
              subst ho'
              obtain ⟨e, he, hb, rfl⟩ := waits_mem.1 hx
              exact .inl (hall e he hb)
            · rcases ihf (k + 1) _ hrest j o (by omega) (by omega) ho x hx with h | ⟨h3, h4⟩
              · by_cases hxk : k = x
                · subst hxk; right; omega
                · rw [getD_set_ne false hxk] at h; exact .inl h
              · right; omega
        simp only [Region.lexB, Bool.and_eq_true] at hB
        obtain ⟨o, ho⟩ : ∃ o, l[i]? = some o := ⟨_, List.getElem?_eq_getElem hi⟩
        have hmem : i ∈ Region.ready .any l.toArray L := by
          refine mem_ready.2 ⟨?_, o, by simpa using ho, fun e he hb => ?_⟩
          · have : i < L.size := by omega
            unfold done at hd
            simp [this] at hd ⊢; exact hd
          · have hx := hlx l.toArray.size 0 _ hB.2 i o (Nat.zero_le _) (by simpa using hi) ho e.on (waits_mem.2 ⟨e, he, hb, rfl⟩)
            rcases hx with h | ⟨_, h⟩
            · have : (done (Array.replicate l.toArray.size false)) e.on = true := h
              rw [hrep] at this; cases this
            · exact ih e.on h (by omega)
        rw [hr] at hmem
        cases hmem
  exact all i hi

variable {HL : Done → List Blk} {K : Slots → Prop} {k : Nat}

theorem wg_nil (h : K s) : WG P n w0 l HL K [] k s := fun _ hs _ => ⟨s, hs, h⟩

/-- An operation that yields a value, whatever else has been carried out. -/
theorem wg_v {op : Op} {d : Nat} {v : Value} (hn : Nat.blt d n.sz = true) (hv : ∀ D, Turn l k ⟨some d, op, ty, p, af, none⟩ D → VOp P w0 s (HL D) op ty v) (hk : ∀ D, HL (put D k) = HL D) (h : WG P n w0 l HL K rest (k + 1) ((d, v) :: s)) :
    WG P n w0 l HL K (⟨some d, op, ty, p, af, none⟩ :: rest) k s := by
  intro a hs hl
  have h0 : l[k]? = some ⟨some d, op, ty, p, af, none⟩ := by simpa using (hl 0).symm
  refine ⟨v, .inl ⟨rfl, fun L w hr hc => ?_⟩, h _ (hs.put (Nat.blt_eq ▸ hn) v) fun j => by have := hl (j + 1); simpa [Nat.add_assoc, Nat.add_comm 1 j] using this⟩
  obtain ⟨ht, hd, hnext⟩ := turn_of h0 hr hc
  rw [hv _ ht a.eval w _ _ _ _ hs.eval hc.2.2]
  exact ⟨rfl, hnext w (by rw [hk]; exact hc.2.2)⟩

theorem wg_callp {d : Nat} {f : FuncId} {xs : List Operand} {vs : List Value} {v : Value} {ts : Array TypeId} [Callable P f] (hn : Nat.blt d n.sz = true) (hx : evs s xs = some vs)
    (hF : ∀ D, Turn l k ⟨some d, .call { callee := .value (.func f), args := xs.toArray, argTypes := ts }, ty, p, af, none⟩ D → ∀ w, Mem w0 w (HL D) → Pure P f vs w v) (hk : ∀ D, HL (put D k) = HL D) (h : WG P n w0 l HL K rest (k + 1) ((d, v) :: s)) :
    WG P n w0 l HL K (⟨some d, .call { callee := .value (.func f), args := xs.toArray, argTypes := ts }, ty, p, af, none⟩ :: rest) k s := by
  intro a hs hl
  have h0 := (hl 0).symm
  simp only [Nat.add_zero, List.getElem?_cons_zero] at h0
  refine ⟨v, .inl ⟨rfl, fun L w hr hc => ?_⟩, h _ (hs.put (Nat.blt_eq ▸ hn) v) fun j => by have := hl (j + 1); simpa [Nat.add_assoc, Nat.add_comm 1 j] using this⟩
  obtain ⟨ht, hd, hnext⟩ := turn_of h0 hr hc
  have hrun := run_call (P := P) (w := w) (ρ := a.eval) (d := some d) (ty := ty) (p := p) (af := af) (g := none) (f := f) (c := .func f) (xs := xs) (caps := []) (ts := ts) rfl (evs_map hs hx)
  rw [List.append_nil] at hrun
  rw [hrun]
  refine Calls.mono (hF _ ht w hc.2.2) ?_
  rintro e w' ⟨u, H', rfl, hm', rfl⟩
  exact ⟨rfl, hnext w' (by rw [hk]; exact (hc.2.2.call hm').right)⟩

/-- A store: what is owned turns as HL says. -/
theorem wg_heap {op : Op} (hv : ∀ D, Turn l k ⟨none, op, ty, p, af, none⟩ D → ∀ a w, St n s a → Mem w0 w (HL D) → ∃ w', (execOp a.eval ⟨none, op, ty, p, af, none⟩).run P w = .ok .skip w' ∧ Mem w0 w' (HL (put D k))) (h : WG P n w0 l HL K rest (k + 1) s) :
    WG P n w0 l HL K (⟨none, op, ty, p, af, none⟩ :: rest) k s := by
  intro a hs hl
  have h0 : l[k]? = some ⟨none, op, ty, p, af, none⟩ := by simpa using (hl 0).symm
  refine ⟨undef, .inl ⟨rfl, fun L w hr hc => ?_⟩, h _ (hs.put_none _) fun j => by have := hl (j + 1); simpa [Nat.add_assoc, Nat.add_comm 1 j] using this⟩
  obtain ⟨ht, hd, hnext⟩ := turn_of h0 hr hc
  obtain ⟨w', hr', hm'⟩ := hv _ ht a w hs hc.2.2
  rw [hr']
  exact ⟨rfl, hnext w' hm'⟩


theorem wg_put {t T g off m : Nat} {x a : Operand} {v : Value} {vs : List Value} [Size P t m] (xs : Done → List Value) (R : Done → List Blk) (ha : ev s a = some (.pointer (some ⟨g, off, none⟩))) (hx : ev s x = some v)
    (hsel : ∀ D, Sel (.box g T (xs D)) (HL D) (R D)) (hv : v.cells = vs.toArray) (hl : vs.length = m) (h1 : vs.all Value.oneCell' = true) (hfit : ∀ D, off + m ≤ (xs D).length)
    (hnew : ∀ D, Turn l k ⟨none, .store t a x, ty, p, af, none⟩ D → MSub (HL (put D k)) (.box g T ((xs D).take off ++ vs ++ (xs D).drop (off + m)) :: R D)) (h : WG P n w0 l HL K rest (k + 1) s) :
    WG P n w0 l HL K (⟨none, .store t a x, ty, p, af, none⟩ :: rest) k s := by
  refine wg_heap (fun D ht a' w hs hm => ?_) h
  have hm' := hm.sel (hsel D)
  have hb := (hm'.on _ List.mem_cons_self).1
  simp only [Blk.on] at hb
  have h1' : ∀ u ∈ vs, u.oneCell' = true := by simpa using h1
  have hr := run_storeVar (P := P) (t := t) (off := off) hv hl h1' hb (by simpa using hfit D)
  simp only at hr
  refine ⟨_, ?_, (hnew D ht).use (hm'.upd (setRow_grown _ _ _) (b' := .box g T ((xs D).take off ++ vs ++ (xs D).drop (off + m))) (setRow_heap _ _ _ _ _ _ hb) fun k hk => .inl hk)⟩
  simp [execOp, hs.eval a _ ha, hs.eval x _ hx, Instr.storeAt, Instr.sureAddr, hr]

theorem wg_put_own {t T g off m sz n' c : Nat} {x a : Operand} {v : Value} {vs : List Value} [Size P t m] (xs : Done → List Value) (R : Done → List Blk) (ha : ev s a = some (.pointer (some ⟨g, off, none⟩))) (hx : ev s x = some v)
    (hsel : ∀ D, Sel (.own (some g) T sz n' c (xs D)) (HL D) (R D)) (hv : v.cells = vs.toArray) (hl : vs.length = m) (h1 : vs.all Value.oneCell' = true) (hfit : ∀ D, off + m ≤ (xs D).length)
    (hnew : ∀ D, Turn l k ⟨none, .store t a x, ty, p, af, none⟩ D → MSub (HL (put D k)) (.own (some g) T sz n' c ((xs D).take off ++ vs ++ (xs D).drop (off + m)) :: R D)) (h : WG P n w0 l HL K rest (k + 1) s) :
    WG P n w0 l HL K (⟨none, .store t a x, ty, p, af, none⟩ :: rest) k s := by
  refine wg_heap (fun D ht a' w hs hm => ?_) h
  have hm' := hm.sel (hsel D)
  obtain ⟨h2, h3, h4, junk, h5, hb⟩ := (hm'.on _ List.mem_cons_self).1
  have h1' : ∀ u ∈ vs, u.oneCell' = true := by simpa using h1
  have hr := run_storeVar (P := P) (t := t) (off := off) hv hl h1' hb (by have := hfit D; simp; omega)
  simp only at hr
  have hf := hfit D
  have he : (xs D ++ junk).take off ++ vs ++ (xs D ++ junk).drop (off + m) = ((xs D).take off ++ vs ++ (xs D).drop (off + m)) ++ junk := by
    rw [List.take_append_of_le_length (by omega), List.drop_append_of_le_length hf]
    simp
  rw [he] at hr
  have hlen : ((xs D).take off ++ vs ++ (xs D).drop (off + m)).length = (xs D).length := by simp; omega
  refine ⟨_, ?_, (hnew D ht).use (hm'.upd (setRow_grown _ _ _) (b' := .own (some g) T sz n' c ((xs D).take off ++ vs ++ (xs D).drop (off + m)))
    ⟨hlen.trans h2, h3, h4, junk, by rw [List.length_append, hlen, ← List.length_append]; exact h5, setRow_heap _ _ _ _ _ _ hb⟩ fun k hk => .inl hk)⟩
  simp [execOp, hs.eval a _ ha, hs.eval x _ hx, Instr.storeAt, Instr.sureAddr, hr]

/-! ### Results that lie in boxes -/

theorem res_cell {w : World} {t T T' g m : Nat} {xs : List Value} {a : Act} [Agg P T m] (hs : St n s a) (hm : Mem w0 w H) (ht : look s t = some (.pointer (some ⟨g, 0, none⟩))) (hi : In (.box g T' xs) H) (hl : Nat.beq xs.length m = true) :
    (do let b ← asAddr (a.tmps.getD t undef); loadVar T b).run P w = .ok (.agg xs.toArray) w := by
  have h1 := hs.has t _ ht
  have h2 := run_load_agg (P := P) (t := T) (Nat.eq_of_beq_eq_true hl) (hm.cells_box hi)
  simp [Array.getD_eq_getD_getElem?, h1, asAddr, h2]

section res
variable {fn : Func} {R : Value → List Blk → Prop} {e : Exit} {t u T U T' U' g h m q : Nat} {xs ys : List Value} {v : Value}
theorem retc (he : e = .ret ∨ e = .normal) (hr : fn.results = #[.cell t T]) [Agg P T m] (ht : look s t = some (.pointer (some ⟨g, 0, none⟩))) (hi : In (.box g T' xs) H) (hl : Nat.beq xs.length m = true) {H' : List Blk} (hs : MSub H' H) (hR : R (.agg xs.toArray) H') : retP P fn n w0 R e s H :=
  ⟨he, _, H', hs, fun a w hst hm => by
    have h1 := res_cell (P := P) (T := T) hst hm ht hi hl
    simp only [results, hr]
    simp only [List.mapM_toArray, List.mapM_cons, List.mapM_nil, Sem.run_bind, Sem.run_map] at h1 ⊢
    simp only [h1, Result.andThen_ok, Sem.run_pure]
    rfl, hR⟩
theorem retct (he : e = .ret ∨ e = .normal) (hr : fn.results = #[.cell t T, .tmp u]) [Agg P T m] (ht : look s t = some (.pointer (some ⟨g, 0, none⟩))) (hi : In (.box g T' xs) H) (hl : Nat.beq xs.length m = true) (hu : look s u = some v) {H' : List Blk} (hs : MSub H' H) (hR : R (.tuple #[.agg xs.toArray, v]) H') : retP P fn n w0 R e s H :=
  ⟨he, _, H', hs, fun a w hst hm => by
    have h1 := res_cell (P := P) (T := T) hst hm ht hi hl
    have h2 : a.tmps.getD u undef = v := by simp [Array.getD_eq_getD_getElem?, hst.has u _ hu]
    simp only [results, hr]
    simp only [List.mapM_toArray, List.mapM_cons, List.mapM_nil, Sem.run_bind, Sem.run_map] at h1 ⊢
    simp only [h1, Result.andThen_ok, Sem.run_pure, h2]
    rfl, hR⟩
theorem retcc (he : e = .ret ∨ e = .normal) (hr : fn.results = #[.cell t T, .cell u U]) [Agg P T m] [Agg P U q] (ht : look s t = some (.pointer (some ⟨g, 0, none⟩))) (hi : In (.box g T' xs) H) (hl : Nat.beq xs.length m = true) (hu : look s u = some (.pointer (some ⟨h, 0, none⟩))) (hi' : In (.box h U' ys) H) (hl' : Nat.beq ys.length q = true) {H' : List Blk} (hs : MSub H' H) (hR : R (.tuple #[.agg xs.toArray, .agg ys.toArray]) H') : retP P fn n w0 R e s H :=
  ⟨he, _, H', hs, fun a w hst hm => by
    have h1 := res_cell (P := P) (T := T) hst hm ht hi hl
    have h2 := res_cell (P := P) (T := U) hst hm hu hi' hl'
    simp only [results, hr]
    simp only [List.mapM_toArray, List.mapM_cons, List.mapM_nil, Sem.run_bind, Sem.run_map] at h1 h2 ⊢
    simp only [h1, h2, Result.andThen_ok, Sem.run_pure]
    rfl, hR⟩
end res


theorem wl_callvp {d : Nat} {ops : Array Oper} {f : FuncId} {c : Operand} {xs : List Operand} {vs caps : List Value} {v : Value} {ts : Array TypeId} (hn : Nat.blt d n.sz = true) (hc : ev s c = some (.func (.func f) #[] caps.toArray)) (hfc : Callable P f) (hx : evs s xs = some vs)
    (hF : ∀ w, Mem w0 w H → Pure P f (vs ++ caps) w v) (k : WL P n w0 ops rest Q ((d, v) :: s) H) :
    WL P n w0 ops (⟨some d, .call { callee := .value c, args := xs.toArray, argTypes := ts }, ty, p, af, none⟩ :: rest) Q s H :=
  wl_callv hn hc hfc hx (FnIn.of_at hF) fun u H' ⟨H1, h1, h2⟩ => by
    subst h1; subst h2
    exact wl_msub ⟨H1, List.perm_append_comm⟩ k


/-- One box is written in the region. -/
theorem w_drawB {id T g : Nat} {xs xs' : List Value} {R : List Blk} (f : Done → List Value) (hm : P.follows .mixedOrders = true) (hB : Region.lexB .any l.toArray = true) (hsel : Sel (.box g T xs) H R) (h0 : f (fun _ => false) = xs)
    (h1 : ∀ D : Done, (∀ i, i < l.length → D i = true) → f D = xs') (h : WG P n w0 l (fun D => .box g T (f D) :: R) (fun s' => Q .normal s' (.box g T xs' :: R)) l 0 s) : W P n w0 (.region id l.toArray true) Q s H := by
  subst h0
  refine w_drawG (fun D => .box g T (f D) :: R) hm hB ⟨[], by simpa using hsel.perm⟩ fun a hs hl => ?_
  have mono : ∀ (r : List Oper) (k : Nat) (a : Act) (K K' : Act → Prop), (∀ a, K a → K' a) → wpG P .any l.toArray (Cls w0 l fun D => .box g T (f D) :: R) K r k a → wpG P .any l.toArray (Cls w0 l fun D => .box g T (f D) :: R) K' r k a := by
    intro r
    induction r with
    | nil => intro k a K K' hk h; exact hk _ h
    | cons o r ih =>
      rintro k a K K' hk ⟨v, h1, h2⟩
      exact ⟨v, h1, ih _ _ K K' hk h2⟩
  refine mono _ _ _ _ _ ?_ (h a hs hl)
  rintro a' ⟨s', h2, h3⟩
  exact ⟨s', h2, fun D hD => by rw [h1 D hD]; exact h3⟩

theorem w_drawO {id T g sz n' c : Nat} {xs xs' : List Value} {R : List Blk} (f : Done → List Value) (hm : P.follows .mixedOrders = true) (hB : Region.lexB .any l.toArray = true) (hsel : Sel (.own (some g) T sz n' c xs) H R) (h0 : f (fun _ => false) = xs)
    (h1 : ∀ D : Done, (∀ i, i < l.length → D i = true) → f D = xs') (h : WG P n w0 l (fun D => .own (some g) T sz n' c (f D) :: R) (fun s' => Q .normal s' (.own (some g) T sz n' c xs' :: R)) l 0 s) : W P n w0 (.region id l.toArray true) Q s H := by
  subst h0
  refine w_drawG (fun D => .own (some g) T sz n' c (f D) :: R) hm hB ⟨[], by simpa using hsel.perm⟩ fun a hs hl => ?_
  have mono : ∀ (r : List Oper) (k : Nat) (a : Act) (K K' : Act → Prop), (∀ a, K a → K' a) → wpG P .any l.toArray (Cls w0 l fun D => .own (some g) T sz n' c (f D) :: R) K r k a → wpG P .any l.toArray (Cls w0 l fun D => .own (some g) T sz n' c (f D) :: R) K' r k a := by
    intro r
    induction r with
    | nil => intro k a K K' hk h; exact hk _ h
    | cons o r ih =>
      rintro k a K K' hk ⟨v, h1, h2⟩
      exact ⟨v, h1, ih _ _ K K' hk h2⟩
  refine mono _ _ _ _ _ ?_ (h a hs hl)
  rintro a' ⟨s', h2, h3⟩
  exact ⟨s', h2, fun D hD => by rw [h1 D hD]; exact h3⟩

end
end Go.SL

/-
  Regions that draw their order, operation by operation: what may be taken first, and what stands alone; slices of slices; make; copies of slices; readings of slices that came in.
-/
namespace Go.SL
open Go Go.RowKit

/-- What a test says, in plain words. -/
class Tidy (p : Prop) (q : outParam Prop) : Prop where
  out : p → q
instance (priority := 10) tidySame {p : Prop} : Tidy p p := ⟨id⟩
instance tidyT {p q : Prop} [Decidable p] [h : Tidy p q] : Tidy (decide p = true) q := ⟨fun k => h.out (of_decide_eq_true k)⟩
instance tidyF {p q : Prop} [Decidable p] [h : Tidy (¬ p) q] : Tidy (decide p = false) q := ⟨fun k => h.out (of_decide_eq_false k)⟩
instance tidyNT {b : Bool} {q : Prop} [h : Tidy (b = false) q] : Tidy ((!b) = true) q := ⟨fun k => h.out (by simpa using k)⟩
instance tidyNF {b : Bool} {q : Prop} [h : Tidy (b = true) q] : Tidy ((!b) = false) q := ⟨fun k => h.out (by simpa using k)⟩
instance tidyLt {a b : Int} : Tidy (¬ a < b) (b ≤ a) := ⟨Int.not_lt.1⟩
instance tidyLe {a b : Int} : Tidy (¬ a ≤ b) (b < a) := ⟨Int.not_le.1⟩

section
variable {P : Program} {n : Fr} {w0 : World} {Q : Post} {s : Slots} {H : List Blk} {l rest : List Oper} {ty : TypeId} {p : String} {af : Array Edge} {f : Nat} {L : Array Bool}

def WA (P : Program) (n : Fr) (w0 : World) (l : List Oper) (Q : Post) (f : Nat) (L : Array Bool) (s : Slots) (H : List Blk) : Prop :=
  ∀ a w, St n s a → Mem w0 w H → wpAny P .any l.toArray (post n w0 Q) f L a w

theorem w_drawA {id : Nat} (N : Nat) (hN : l.length = N) (hm : P.follows .mixedOrders = true) (h : WA P n w0 l Q N (Array.replicate N false) s H) : W P n w0 (.region id l.toArray true) Q s H := by
  intro a w hs hmem
  subst hN
  refine wp_region_any hm ?_
  simpa using h a _ hs hmem.drew

theorem wa_done (hr : Region.ready .any l.toArray L = []) (h : Q .normal s H) : WA P n w0 l Q f L s H := by
  intro a w hs hm
  cases f with
  | zero => exact ⟨hr, s, H, hs, hm, h⟩
  | succ f => exact ⟨fun _ => ⟨s, H, hs, hm, h⟩, fun i hi => by rw [hr] at hi; cases hi⟩

def NoPanic (Q : Post) : Prop := ∀ c s H, ¬ Q (.panic c) s H
theorem np_thn {K : Slots → List Blk → Prop} (h : NoPanic Q) : NoPanic (thn K Q) := fun c s H hq => h c s H hq
theorem np_blk {id : Nat} (h : NoPanic Q) : NoPanic (blk id Q) := fun c s H hq => h c s H hq
theorem np_ret {fn : Func} {R : Value → List Blk → Prop} : NoPanic (retP P fn n w0 R) := fun c s H hq => by
  obtain ⟨h | h, _⟩ := hq <;> cases h

/-- An operation that looks at no memory may be taken first. -/
theorem wa_pure {i : Nat} {op : Op} {d : Nat} {v : Value} (hi : l[i]? = some ⟨some d, op, ty, p, af, none⟩) (hn : Nat.blt d n.sz = true) (hsel : Region.noSelect l.toArray = true) (hr : (Region.ready .any l.toArray L).contains i = true) (hf : Region.free .any l.toArray L i = true)
    (hnp : NoPanic Q) (hv : ∀ w0 H, VOp P w0 s H op ty v) (h : WA P n w0 l Q f (L.setIfInBounds i true) ((d, v) :: s) H) : WA P n w0 l Q (f + 1) L s H := by
  intro a w hs hm
  have hi' : l.toArray[i]? = some ⟨some d, op, ty, p, af, none⟩ := by simpa using hi
  refine wpAny_first hi' (Region.noSelect_spec hsel) (v := v) (fun c a' w' hq => ?_) f L a w (Region.free_spec hi' hf) (by simpa using hr) (.inl ⟨rfl, fun w' => hv w' [] a.eval w' _ _ _ _ hs.eval (Mem.refl w')⟩) (h _ _ (hs.put (Nat.blt_eq ▸ hn) v) hm)
  obtain ⟨s', H', h1, h2, h3⟩ := hq
  exact (hnp c s' H' h3).elim

theorem upon_mono {o : Oper} {a : Act} {next next' : Act → World → Prop} {Q1 Q2 : Exit → Act → World → Prop} {r : Result Next} (hn : ∀ a w, next a w → next' a w) (hp : ∀ c a w, Q1 (.panic c) a w → Q2 (.panic c) a w) (ho : ∀ a w, Q1 .outgrown a w → Q2 .outgrown a w) (h : o.upon P a next Q1 r) : o.upon P a next' Q2 r := by
  cases r with
  | ok x w' =>
    cases x <;> simp only [Oper.upon] at h ⊢ <;> first
      | exact hn _ _ h
      | (refine Calls.mono h fun e w'' he => ?_
         cases e with
         | returned v => exact hn _ _ he
         | panicked c => exact hp _ _ _ he
         | outgrown => obtain ⟨a0, w0, h0⟩ := he; exact ⟨a0, w0, ho _ _ h0⟩)
      | exact Rows.mono h fun v w'' he => hn _ _ he
  | halt x w' => cases x <;> simp only [Oper.upon] at h ⊢ <;> exact hp _ _ _ h

/-- One operation alone is ready. -/
theorem wa_one {i : Nat} {o : Oper} (hi : l[i]? = some o) (hr : Region.ready .any l.toArray L = [i]) (h : WL P n w0 l.toArray [o] (thn (WA P n w0 l Q f (L.setIfInBounds i true)) Q) s H) : WA P n w0 l Q (f + 1) L s H := by
  intro a w hs hm
  refine ⟨fun h0 => (by rw [hr] at h0; cases h0), fun j hj => ?_⟩
  rw [hr] at hj
  have e : j = i := by simpa using hj
  subst e
  have h1 := h a w hs hm
  have hi' : l.toArray[j]? = some o := by simpa using hi
  unfold wpOp
  simp only [hi']
  unfold wpList at h1
  have hnext : ∀ a w, wpList P l.toArray (post n w0 (thn (WA P n w0 l Q f (L.setIfInBounds j true)) Q)) [] a w → wpAny P .any l.toArray (post n w0 Q) f (L.setIfInBounds j true) a w := by
    rintro a w ⟨s', H', h1, h2, h3⟩
    exact h3 a w h1 h2
  split
  · rename_i hw
    rw [if_pos hw] at h1
    refine h1.imp (fun h2 => upon_mono hnext (fun c a w h => h) (fun a w h => h) h2) fun ⟨h2, a0, w0, h3⟩ => ⟨h2, a0, w0, h3⟩
  · rename_i hw
    rw [if_neg hw] at h1
    exact hnext _ _ h1

/-! ### Slices -/

/-- 'x[lo:hi]' as a value. -/
theorem v_slice {t e lo hi m c sz : Nat} {A : Option Addr} {x : Operand} {xl xh : Option Operand} [ht : Und P t (.slice e)] [hz : Size P e sz] (hx : ev s x = some (.slice A m c))
    (hxl : match xl with | none => lo = 0 | some q => ∃ k, ev s q = some (.int k (lo : Nat))) (hxh : match xh with | none => hi = m | some q => ∃ k, ev s q = some (.int k (hi : Nat))) (h1 : lo ≤ hi) (h2 : hi ≤ c) :
    VOp P w0 s H (.slice t x xl xh none) ty (.slice (if c = lo then A else A.map (·.add (lo * sz))) (hi - lo) (c - lo)) := fun ρ w _ _ _ _ hρ _ => by
  obtain ⟨i, hi1, hi2⟩ := hz.out
  have e1 : ((lo : Nat) : Int) ≤ ((hi : Nat) : Int) := by omega
  have e2 : ((hi : Nat) : Int) ≤ ((c : Nat) : Int) := by omega
  have e3 : ((0 : Nat) : Int) ≤ ((hi : Nat) : Int) := by omega
  cases xl with
  | none =>
    cases xh with
    | none =>
      simp only at hxl hxh
      subst hxl hxh
      simp [execOp, hρ x _ hx, Instr.sliceAt, run_underlying ht.out, Instr.slice, Instr.sliceBounds, sizeOf, typeInfo, hi1]
    | some q =>
      simp only at hxl hxh
      subst hxl
      obtain ⟨kk, hq⟩ := hxh
      simp [execOp, hρ x _ hx, hρ q _ hq, Instr.sliceAt, run_underlying ht.out, Instr.slice, Instr.sliceBounds, Instr.sliceBound, asIntOf, sizeOf, typeInfo, hi1, h2]
  | some ql =>
    obtain ⟨kl, hql⟩ := hxl
    cases xh with
    | none =>
      simp only at hxh
      subst hxh
      simp [execOp, hρ x _ hx, hρ ql _ hql, Instr.sliceAt, run_underlying ht.out, Instr.slice, Instr.sliceBounds, Instr.sliceBound, asIntOf, sizeOf, typeInfo, hi1, hi2, h1]
    | some q =>
      obtain ⟨kk, hq⟩ := hxh
      simp [execOp, hρ x _ hx, hρ q _ hq, hρ ql _ hql, Instr.sliceAt, run_underlying ht.out, Instr.slice, Instr.sliceBounds, Instr.sliceBound, asIntOf, sizeOf, typeInfo, hi1, hi2, h1, h2]

/-- A slice that reads as cells in w. -/
def Reads (w : World) (v : Value) (m : Nat) (xs : List Value) : Prop :=
  ∃ A cap, v = .slice A m cap ∧ m ≤ cap ∧ cap ≤ maxLen ∧ (0 < m → ∃ g o, A = some ⟨g, o, none⟩ ∧ Ro w g o xs)

theorem Ro.of_own {w : World} {g t sz m c : Nat} {xs : List Value} (hm : Mem w0 w H) (hi : In (.own (some g) t sz m c xs) H) : Ro w g 0 xs := by
  have h1 := hm.cells_own hi
  refine ⟨?_, h1⟩
  obtain ⟨_, _, _, junk, _, h2⟩ := (hm.on _ hi.mem).1
  exact (Array.getElem?_eq_some_iff.1 h2).1
theorem Ro.of_ro {w : World} {g o : Nat} {xs : List Value} (hm : Mem w0 w H) (h : Ro w0 g o xs) : Ro w g o xs :=
  ⟨Nat.lt_of_lt_of_le h.lt hm.below.size, h.later hm⟩
theorem Ro.drop {w : World} {g o k : Nat} {xs : List Value} (h : Ro w g o xs) : Ro w g (o + k) (xs.drop k) := ⟨h.lt, h.cells.drop⟩
theorem Ro.take {w : World} {g o k : Nat} {xs : List Value} (h : Ro w g o xs) : Ro w g o (xs.take k) := ⟨h.lt, h.cells.take⟩

theorem Reads.of_own {w : World} {A : Option Nat} {t sz m c : Nat} {xs : List Value} (hm : Mem w0 w H) (hi : In (.own A t sz m c xs) H) : Reads w (sl A m c) m xs := by
  obtain ⟨h1, h2, h3, h4⟩ := (hm.on _ hi.mem).1
  refine ⟨_, c, rfl, h2, h3, fun hpos => ?_⟩
  cases A with
  | none => obtain ⟨rfl, _⟩ := h4; omega
  | some g => exact ⟨g, 0, rfl, Ro.of_own hm hi⟩
theorem Reads.of_w0 {w : World} {v : Value} {m : Nat} {xs : List Value} (hm : Mem w0 w H) (h : Reads w0 v m xs) : Reads w v m xs := by
  obtain ⟨A, cap, rfl, h1, h2, h3⟩ := h
  exact ⟨A, cap, rfl, h1, h2, fun hp => let ⟨g, o, hA, hr⟩ := h3 hp; ⟨g, o, hA, Ro.of_ro hm hr⟩⟩
/-- A piece of a slice. -/
theorem Reads.cut {w : World} {A : Option Addr} {m cap lo hi sz : Nat} {xs : List Value} (h : Reads w (.slice A m cap) m xs) (h1 : lo ≤ hi) (h2 : hi ≤ m) :
    Reads w (.slice (if cap = lo then A else A.map (·.add (lo * sz))) (hi - lo) (cap - lo)) (hi - lo) ((xs.drop (lo * sz)).take ((hi - lo) * sz)) := by
  obtain ⟨A', cap', he, hm, hc, hr⟩ := h
  injection he with e1 e2 e3
  subst e1; subst e3
  refine ⟨_, _, rfl, by omega, by omega, fun hp => ?_⟩
  obtain ⟨g, o, rfl, hro⟩ := hr (by omega)
  rw [if_neg (by omega)]
  exact ⟨g, o + lo * sz, by simp [addr_add], hro.drop.take⟩

/-- Some row with an element lies in a block. -/
theorem w_some {c : Code} {A : Option Nat} {t sz m cap : Nat} {xs : List Value} (hi : In (.own A t sz m cap xs) H) (hm : 0 < m) (h : ∀ g, A = some g → W P n w0 c Q s H) : W P n w0 c Q s H := fun a w hs hmem => by
  obtain ⟨_, _, _, h4⟩ := (hmem.on _ hi.mem).1
  cases A with
  | none => obtain ⟨rfl, _⟩ := h4; omega
  | some g => exact h g rfl a w hs hmem

/-- What is known of a row's length and capacity. -/
theorem w_row {c : Code} {A : Option Nat} {t sz m cap : Nat} {xs : List Value} (hi : In (.own A t sz m cap xs) H) (h : xs.length = m * sz → m ≤ cap → cap ≤ maxLen → W P n w0 c Q s H) : W P n w0 c Q s H := fun a w hs hmem => by
  obtain ⟨h1, h2, h3, _⟩ := (hmem.on _ hi.mem).1
  exact h h1 h2 h3 a w hs hmem

/-- The row is cut to its first k elements: what lies behind may be overwritten. -/
theorem Mem.shrink {w : World} {A : Option Nat} {t sz m cap k : Nat} {xs : List Value} (hm : Mem w0 w (.own A t sz m cap xs :: H)) (hk : k ≤ m) : Mem w0 w (.own A t sz k cap (xs.take (k * sz)) :: H) := by
  have h0 := hm.on _ List.mem_cons_self
  obtain ⟨⟨h1, h2, h3, h4⟩, h5⟩ := h0
  have hlen : k * sz ≤ m * sz := Nat.mul_le_mul_right _ hk
  refine ⟨hm.below, fun b hb => ?_, List.pairwise_cons.2 ⟨fun x hx => (List.pairwise_cons.1 hm.apart).1 x hx, (List.pairwise_cons.1 hm.apart).2⟩⟩
  rcases List.mem_cons.1 hb with rfl | hb
  · refine ⟨⟨by rw [List.length_take]; omega, by omega, h3, ?_⟩, h5⟩
    cases A with
    | none => obtain ⟨rfl, rfl⟩ := h4; exact ⟨by omega, rfl⟩
    | some g =>
      obtain ⟨junk, j1, j2⟩ := h4
      exact ⟨xs.drop (k * sz) ++ junk, by rw [← List.append_assoc, List.take_append_drop]; exact j1, by rw [← List.append_assoc, List.take_append_drop]; exact j2⟩
  · exact hm.on b (List.mem_cons_of_mem _ hb)

theorem w_shrink {c : Code} {A : Option Nat} {t sz m cap : Nat} {xs : List Value} {R : List Blk} (hsel : Sel (.own A t sz m cap xs) H R) (k : Nat) (hk : k ≤ m) (h : W P n w0 c Q s (.own A t sz k cap (xs.take (k * sz)) :: R)) : W P n w0 c Q s H :=
  fun a w hs hm => h a w hs ((hm.sel hsel).shrink hk)

/-- A loop whose head is told by a ghost: what the state is is a relation. -/
theorem w_loopR {ι : Type} {c : Code} (I : ι → Slots → List Blk → Prop) (μ : ι → Nat) (i0 : ι) (h0 : ∃ s0 H0, Sub s0 s ∧ MSub H0 H ∧ I i0 s0 H0)
    (round : ∀ i s H, I i s H → W P n w0 c (thn (fun s' H' => ∃ i' s1 H1, μ i' < μ i ∧ Sub s1 s' ∧ MSub H1 H' ∧ I i' s1 H1) Q) s H) : W P n w0 (.loop c) Q s H := by
  intro a w hs hm
  obtain ⟨s0, H0, hs0, hH0, hI⟩ := h0
  refine wp_loop_ghost (fun k a' w' => ∃ i s1 H1, I i s1 H1 ∧ μ i = k ∧ St n s1 a' ∧ Mem w0 w' H1) (μ i0) ⟨i0, s0, H0, hI, rfl, hs.sub hs0, hH0.use hm⟩ ?_
  rintro k a1 w1 ⟨i, s1, H1, hI1, rfl, hs1, hm1⟩
  refine wp_mono (round i s1 H1 hI1 a1 w1 hs1 hm1) ?_
  rintro e a' w' ⟨s', H', h1, h2, h3⟩
  cases e with
  | normal =>
    obtain ⟨i', s2, H2, hlt, hsub, hms, hI2⟩ := h3
    exact ⟨μ i', hlt, i', s2, H2, hI2, rfl, h1.sub hsub, hms.use h2⟩
  | _ => exact ⟨s', H', h1, h2, h3⟩


/-- The first elements of a row. -/
theorem v_sliceP {t e hi m c sz : Nat} {A : Option Nat} {x q : Operand} {k : IntKind} [ht : Und P t (.slice e)] [hz : Size P e sz] (hx : ev s x = some (sl A m c)) (hq : ev s q = some (.int k (hi : Nat))) (h2 : hi ≤ c) :
    VOp P w0 s H (.slice t x none (some q) none) ty (sl A hi c) := by
  have h := v_slice (P := P) (w0 := w0) (H := H) (ty := ty) (t := t) (xl := none) (xh := some q) (lo := 0) (hi := hi) hx rfl ⟨k, hq⟩ (Nat.zero_le _) h2
  have e : (if c = 0 then (A.map fun g => (⟨g, 0, none⟩ : Addr)) else (A.map fun g => (⟨g, 0, none⟩ : Addr)).map (·.add (0 * sz))) = A.map fun g => ⟨g, 0, none⟩ := by
    split
    · rfl
    · cases A <;> simp [addr_add]
  unfold sl at h ⊢
  rw [e, Nat.sub_zero, Nat.sub_zero] at h
  exact h

theorem wl_makeSlice {d t e sz by_ c : Nat} {x y : Operand} {kx ky : IntKind} {zs : List Value} {ops : Array Oper} [ht : Und P t (.slice e)] [he : Elem P e sz by_] [hz : ZeroC P e zs] (hn : Nat.blt d n.sz = true) (hx : ev s x = some (.int kx (c : Nat))) (hy : ev s y = some (.int ky (c : Nat))) (hb : by_ * c ≤ 281474976710656) (hc : c ≤ maxLen)
    (k : ∀ g, WL P n w0 ops rest Q ((d, .slice (some ⟨g, 0, none⟩) c c) :: s) (.own (some g) e sz c c ((List.range (c * sz)).map fun i => zs[i % zs.length]!) :: H)) :
    WL P n w0 ops (⟨some d, .makeSlice t x y, ty, p, af, none⟩ :: rest) Q s H := by
  refine wl_new (B := fun g => .own (some g) e sz c c ((List.range (c * sz)).map fun i => zs[i % zs.length]!)) (v := fun g => .slice (some ⟨g, 0, none⟩) c c) hn (fun a w hs hm => ?_) k
  obtain ⟨i, z, h1, h2, h3, h4, h5, h6⟩ := he.out
  obtain ⟨i', z', j1, j2, j3⟩ := hz.out
  rw [h1] at j1
  injection j1 with j1
  subst j1
  rw [h4] at j2
  injection j2 with j2
  subst j2
  have hmx : c ≤ 9223372036854775807 := by simp only [maxLen] at hc; omega
  have hb' : (i.bytes : Int) * (c : Int) ≤ 281474976710656 := by
    rw [h3]
    have h : ((by_ * c : Nat) : Int) ≤ 281474976710656 := by omega
    rwa [Int.natCast_mul] at h
  have hr := run_make (P := P) w t e i z ht.out h1 h4 kx ky c c (by omega) (Int.le_refl _) hb' (by omega)
  simp only [Int.toNat_natCast] at hr
  have hmade : madeCells z.cells (c * i.size) = ((List.range (c * sz)).map fun i => zs[i % zs.length]!).toArray := by
    rw [j3, h2]
    apply Array.ext'
    simp [madeCells]
  rw [hmade] at hr
  refine ⟨_, ?_, World.grownBy_alloc w _ none, Blk.own_of (heap_alloc_new w _) (by simp) rfl hc, rfl⟩
  simp [execOp, hs.eval x _ hx, hs.eval y _ hy, hr]

theorem wl_buildSlice0 {d t e sz by_ : Nat} {ops : Array Oper} [ht : Und P t (.slice e)] [he : Elem P e sz by_] (hn : Nat.blt d n.sz = true)
    (k : ∀ g, WL P n w0 ops rest Q ((d, .slice (some ⟨g, 0, none⟩) 0 0) :: s) (.own (some g) e sz 0 0 [] :: H)) : WL P n w0 ops (⟨some d, .buildSlice t 0 #[], ty, p, af, none⟩ :: rest) Q s H := by
  refine wl_new (B := fun g => .own (some g) e sz 0 0 []) (v := fun g => .slice (some ⟨g, 0, none⟩) 0 0) hn (fun a w hs hm => ?_) k
  obtain ⟨i, z, h1, h2, h3, h4, h5, h6⟩ := he.out
  refine ⟨w.alloc (.cells #[] e), ?_, World.grownBy_alloc w _ none, Blk.own_of (xs := []) (heap_alloc_new w _) (by simp) rfl (Nat.zero_le _), rfl⟩
  have h0 : Array.range 0 = #[] := rfl
  simp [execOp, Instr.buildSlice, run_underlying ht.out, sizeOf, typeInfo, h1, Instr.fill, newRow, h0]

theorem v_eqlnil {t e m c : Nat} {A : Option Addr} {x : Operand} {t' : TypeId} [ht : Und P t (.slice e)] (hx : ev s x = some (.slice A m c)) : VOp P w0 s H (.binOp .eql t x (.const (.slice none 0 0)) t') ty (.bool A.isNone) := fun ρ w _ _ _ _ hρ _ => by
  have hc := hρ (.const (.slice none 0 0)) _ rfl
  simp [execOp, hρ x _ hx, hc, eqGuard, Lib.run_eql_slice_nil w t e A m c 0 0 ht.out]

theorem MSub.snoc {c : Blk} {K T U : List Blk} (hs : Sel c T U) (h : MSub K U) : MSub (K ++ [c]) T := by
  obtain ⟨X, hp⟩ := h
  refine ⟨X, hs.perm.trans ((hp.cons c).trans ?_)⟩
  rw [List.append_assoc]
  exact (List.perm_middle (l₁ := K) (a := c) (l₂ := X)).symm
theorem MSub.rot {c : Blk} {K T : List Blk} (h : MSub (K ++ [c]) T) : MSub (c :: K) T := by
  obtain ⟨X, hp⟩ := h
  exact ⟨X, hp.trans ((List.perm_append_comm (l₁ := K) (l₂ := [c])).append_right X)⟩

theorem v_subN {x y : Operand} {a b : Nat} {t t' : TypeId} (hx : ev s x = some (.int .i64 (a : Nat))) (hy : ev s y = some (.int .i64 (b : Nat))) (h : b ≤ a) (ha : a ≤ maxLen) : VOp P w0 s H (.binOp .sub t x y t') ty (.int .i64 ((a - b : Nat) : Int)) := by
  have e : ((a - b : Nat) : Int) = (a : Int) - (b : Int) := by omega
  rw [e]
  exact v_sub hx hy ⟨by omega, by simp only [maxLen] at ha; omega⟩
theorem v_addN {x y : Operand} {a b : Nat} {t t' : TypeId} (hx : ev s x = some (.int .i64 (a : Nat))) (hy : ev s y = some (.int .i64 (b : Nat))) (ha : a + b ≤ maxLen) : VOp P w0 s H (.binOp .add t x y t') ty (.int .i64 ((a + b : Nat) : Int)) := by
  rw [Int.natCast_add]
  exact v_add hx hy ⟨by omega, by simp only [maxLen] at ha; omega⟩

theorem v_succN {x y : Operand} {a : Nat} {t t' : TypeId} (hx : ev s x = some (.int .i64 (a : Nat))) (hy : ev s y = some (.int .i64 1)) (ha : a + 1 ≤ maxLen) : VOp P w0 s H (.binOp .add t x y t') ty (.int .i64 ((a + 1 : Nat) : Int)) := v_addN (b := 1) hx hy ha
theorem v_predN {x y : Operand} {a : Nat} {t t' : TypeId} (hx : ev s x = some (.int .i64 (a : Nat))) (hy : ev s y = some (.int .i64 1)) (h : 1 ≤ a) (ha : a ≤ maxLen) : VOp P w0 s H (.binOp .sub t x y t') ty (.int .i64 ((a - 1 : Nat) : Int)) := v_subN (b := 1) hx hy h ha
theorem v_maxN {x y : Operand} {a b : Nat} {ts : Array TypeId} (hx : ev s x = some (.int .i64 (a : Nat))) (hy : ev s y = some (.int .i64 (b : Nat))) :
    VOp P w0 s H (.call { callee := .builtin .max, args := #[x, y], argTypes := ts }) ty (.int .i64 ((max a b : Nat) : Int)) := by
  have h := v_max (P := P) (w0 := w0) (H := H) (ty := ty) (ts := ts) hx hy
  have e : (if (a : Int) < (b : Int) then (b : Int) else (a : Int)) = ((max a b : Nat) : Int) := by split <;> omega
  rw [← e]
  exact h
theorem FnIn.msub {f : FuncId} {args : List Value} {H' : List Blk} {R : Value → List Blk → Prop} (h : FnIn P f args w0 H' R) (hs : MSub H' H) : FnIn P f args w0 H R := fun w hm => h w (hs.use hm)

/-- A whole variable, read in memory that came in. -/
theorem v_loadw_ro {x : Operand} {t g o m : Nat} {xs : List Value} [Agg P t m] (hx : ev s x = some (.pointer (some ⟨g, o, none⟩))) (hr : Ro w0 g o xs) (hl : Nat.beq xs.length m = true) : VOp P w0 s H (.load t x) ty (.agg xs.toArray) := by
  have hm := Nat.eq_of_beq_eq_true hl
  exact v_loads_ro (off := 0) hr hx (by rw [List.drop_zero, ← hm, List.take_length]) hm
theorem v_load1_ro {x : Operand} {t g o : Nat} {v : Value} [One P t] (hx : ev s x = some (.pointer (some ⟨g, o, none⟩))) (hr : Ro w0 g o [v]) : VOp P w0 s H (.load t x) ty v := v_load_ro (off := 0) hr hx rfl
/-- A field of a variable in memory that came in. -/
theorem v_loadf_ro {x : Operand} {t g o off : Nat} {xs : List Value} {v : Value} [One P t] (hx : ev s x = some (.pointer (some ⟨g, o + off, none⟩))) (hr : Ro w0 g o xs) (hv : xs[off]? = some v) : VOp P w0 s H (.load t x) ty v := v_load_ro hr hx hv
/-- A whole element of a row. -/
theorem v_loade_own {x : Operand} {t T g off m n' c sz : Nat} {xs ys : List Value} [Agg P t m] (hx : ev s x = some (.pointer (some ⟨g, off, none⟩))) (hi : In (.own (some g) T sz n' c xs) H) (hv : (xs.drop off).take m = ys) (hl : Nat.beq ys.length m = true) :
    VOp P w0 s H (.load t x) ty (.agg ys.toArray) := v_loads_own hx hi hv (Nat.eq_of_beq_eq_true hl)
end

/-! ### Lists of records as cells -/

section
variable {α : Type} {enc : α → List Value} {m : Nat}

theorem flat_drop (h : ∀ a, (enc a).length = m) : ∀ (L : List α) (i : Nat), (L.flatMap enc).drop (i * m) = (L.drop i).flatMap enc
  | [], i => by simp
  | a :: L, 0 => by simp
  | a :: L, i + 1 => by
    rw [List.flatMap_cons, List.drop_succ_cons, ← flat_drop h L i, show (i + 1) * m = (enc a).length + i * m by rw [h a, Nat.add_mul, Nat.one_mul, Nat.add_comm], List.drop_append]
    simp
theorem flat_take (h : ∀ a, (enc a).length = m) : ∀ (L : List α) (i : Nat), (L.flatMap enc).take (i * m) = (L.take i).flatMap enc
  | [], i => by simp
  | a :: L, 0 => by simp
  | a :: L, i + 1 => by
    rw [List.flatMap_cons, List.take_succ_cons, List.flatMap_cons, ← flat_take h L i, show (i + 1) * m = (enc a).length + i * m by rw [h a, Nat.add_mul, Nat.one_mul, Nat.add_comm], List.take_append, List.take_of_length_le (Nat.le_add_right _ _)]
    simp
theorem flat_length' (h : ∀ a, (enc a).length = m) (L : List α) : (L.flatMap enc).length = L.length * m := by
  induction L with
  | nil => simp
  | cons a L ih => rw [List.flatMap_cons, List.length_append, h a, ih, List.length_cons, Nat.add_mul, Nat.one_mul, Nat.add_comm]
theorem flat_elem (h : ∀ a, (enc a).length = m) (L : List α) (i : Nat) (hi : i < L.length) : ((L.flatMap enc).drop (i * m)).take m = enc L[i] := by
  rw [flat_drop h, List.drop_eq_getElem_cons hi, List.flatMap_cons, List.take_append_of_le_length (by rw [h]; exact Nat.le_refl _), ← h L[i], List.take_length]
theorem flat_cell (h : ∀ a, (enc a).length = m) (L : List α) (i k : Nat) (hi : i < L.length) (hk : k < m) : (L.flatMap enc)[i * m + k]? = (enc L[i])[k]? := by
  have h1 := flat_elem h L i hi
  rw [← h1, List.getElem?_take, if_pos hk, List.getElem?_drop]
/-- An element written anew. -/
theorem flat_set (h : ∀ a, (enc a).length = m) (L : List α) (i : Nat) (hi : i < L.length) (a : α) : (L.flatMap enc).take (i * m) ++ enc a ++ (L.flatMap enc).drop (i * m + m) = (L.set i a).flatMap enc := by
  rw [show i * m + m = (i + 1) * m by rw [Nat.add_mul, Nat.one_mul], flat_take h, flat_drop h, List.set_eq_take_append_cons_drop, if_pos hi]
  simp
theorem Ro.elem {w : World} {g o : Nat} (h : ∀ a, (enc a).length = m) {L : List α} (hr : Ro w g o (L.flatMap enc)) (i : Nat) (hi : i < L.length) : Ro w g (o + i * m) (enc L[i]) := by
  rw [← flat_elem h L i hi]
  exact hr.drop.take
end
end Go.SL

/-
  The plain operations, worked out on what is known of the frame.
-/
namespace Go.SL
open Go Go.RowKit

def vint : BinOp → Int → Int → Option Value
  | .lss, a, b => some (.bool (decide (a < b)))
  | .leq, a, b => some (.bool (decide (a ≤ b)))
  | .gtr, a, b => some (.bool (decide (b < a)))
  | .geq, a, b => some (.bool (decide (b ≤ a)))
  | .eql, a, b => some (.bool (decide (a = b)))
  | .neq, a, b => some (.bool (decide (a ≠ b)))
  | _, _, _ => none

def vstr : BinOp → ByteArray → ByteArray → Option Value
  | .eql, a, b => some (.bool (decide (a = b)))
  | .neq, a, b => some (.bool (decide (a ≠ b)))
  | _, _, _ => none

def vbin (o : BinOp) : Value → Value → Option Value
  | .int k a, .int k' b => match decide (k = k') with
    | true => vint o a b
    | false => none
  | .string a, .string b => vstr o a b
  | _, _ => none

/-- What a plain operation yields, where the frame tells. -/
def vop (s : Slots) : Op → Option Value
  | .move x => ev s x
  | .assign x => ev s x
  | .pick c a b => match ev s c with
    | some (.bool true) => ev s a
    | some (.bool false) => ev s b
    | _ => none
  | .unOp .not _ x => match ev s x with
    | some (.bool b) => some (.bool (!b))
    | _ => none
  | .binOp o _ x y _ => match ev s x, ev s y with
    | some u, some v => vbin o u v
    | _, _ => none
  | .extract x i => match ev s x with
    | some (.tuple vs) => vs.toList[i]?
    | _ => none
  | _ => none

theorem vop_ok {P : Program} {w0 : World} {s : Slots} {H : List Blk} {op : Op} {ty : TypeId} {v : Value} (h : vop s op = some v) : VOp P w0 s H op ty v := by
  cases op <;> simp only [vop] at h <;> try (cases h; done)
  case move x => exact v_move h
  case assign x => exact v_assign h
  case pick c a b =>
    split at h
    · exact v_pick_t (by assumption) h
    · exact v_pick_f (by assumption) h
    · cases h
  case binOp o t x y t' =>
    split at h
    · rename_i u v' hu hv
      unfold vbin at h
      split at h
      · rename_i k a k' b
        split at h
        · rename_i hk
          have hk := of_decide_eq_true hk
          subst hk
          cases o <;> simp only [vint] at h <;> first | (cases h; done) | skip
          all_goals (injection h with h; subst h)
          · exact v_eql hu hv
          · exact v_neq hu hv
          · exact v_lss hu hv
          · exact v_leq hu hv
          · exact v_gtr hu hv
          · exact v_geq hu hv
        · cases h
      · rename_i a b
        cases o <;> simp only [vstr] at h <;> first | (cases h; done) | skip
        all_goals (injection h with h; subst h)
        · exact v_eqls hu hv
        · exact v_neqs hu hv
      · cases h
    · cases h
  case unOp o t x =>
    cases o <;> simp only at h <;> first | (cases h; done) | skip
    split at h
    · injection h with h
      subst h
      exact v_not (by assumption)
    · cases h
  case extract x i =>
    split at h
    · rename_i vs hx
      exact v_extract (vs := vs.toList) (by simpa using hx) h
    · cases h
end Go.SL

/-
  A symbolic heap over the kit's walk: a judgement W that hides the world behind a list of the blocks that the call owns, and the frame behind a list of the slots that are known. One rule for each form of code and each operation.
-/
import Derived.WalkKit
import Derived.Deep.Quiet
import Derived.Maps.AppendAt
import Derived.Laws.OwnMore
import Derived.Deep.LoopGhost
namespace Go.SL
open Go Go.RowKit

/-! ### What is owned -/

inductive Blk where
  | box (g : Nat) (ty : TypeId) (xs : List Value)
  | own (A : Option Nat) (ty : TypeId) (size n cap : Nat) (xs : List Value)
  | obj (g : Nat) (o : Obj)
  | byt (g : Nat) (ty : TypeId) (n cap : Nat) (xs : List Value)

def Blk.key : Blk → Option Nat
  | .box g _ _ => some g
  | .own A _ _ _ _ _ => A
  | .obj g _ => some g
  | .byt g _ _ _ _ => some g

def sl (A : Option Nat) (n cap : Nat) : Value := .slice (A.map fun g => ⟨g, 0, none⟩) n cap

def Blk.on (w : World) : Blk → Prop
  | .box g ty xs => w.heap[g]? = some (.cells xs.toArray ty (0, 0))
  | .own A ty size n cap xs => xs.length = n * size ∧ n ≤ cap ∧ cap ≤ maxLen ∧
      match A with
      | none => n = 0 ∧ cap = 0
      | some g => ∃ junk : List Value, (xs ++ junk).length = cap * size ∧ w.heap[g]? = some (.cells (xs ++ junk).toArray ty (0, 0))
  | .obj g o => w.heap[g]? = some o
  | .byt g ty n cap xs => xs.length = n ∧ n ≤ cap ∧ ∃ junk : List Value, (xs ++ junk).length = cap ∧ w.heap[g]? = some (.cells (xs ++ junk).toArray ty (cap, cap + 1))

def Apart (a b : Blk) : Prop := ∀ k, a.key = some k → b.key ≠ some k

structure Mem (w0 w : World) (H : List Blk) : Prop where
  below : Below w0.heap.size w0 w
  on : ∀ b ∈ H, b.on w ∧ ∀ k, b.key = some k → w0.heap.size ≤ k
  apart : H.Pairwise Apart

theorem Apart.symm {a b : Blk} (h : Apart a b) : Apart b a := fun k hk hk' => h k hk' hk

/-! ### What is known of the frame -/

abbrev Slots := List (Nat × Value)

def look : Slots → Nat → Option Value
  | [], _ => none
  | (u, v) :: r, t => bif Nat.beq u t then some v else look r t

def ev (s : Slots) : Operand → Option Value
  | .tmp t => look s t
  | .const v => some v
  | .global g => some (.pointer (some ⟨g, 0, none⟩))
  | .func f => some (.func (.func f) #[] #[])

/-- A frame: how many temporaries it has, and its deferred calls. -/
structure Fr where
  sz : Nat
  ds : List Deferred

structure St (n : Fr) (s : Slots) (a : Act) : Prop where
  size : a.tmps.size = n.sz
  defers : a.defers = n.ds
  has : ∀ t v, look s t = some v → a.tmps[t]? = some v

theorem St.eval {n : Fr} {s : Slots} {a : Act} (h : St n s a) : ∀ x v, ev s x = some v → a.eval x = v := by
  intro x v hx
  cases x with
  | tmp t => simp only [ev] at hx; simp [Act.eval, Array.getD_eq_getD_getElem?, h.has t v hx]
  | const v => simp only [ev, Option.some.injEq] at hx; exact hx
  | global g => simp only [ev, Option.some.injEq] at hx; exact hx
  | func f => simp only [ev, Option.some.injEq] at hx; exact hx

theorem look_cons (s : Slots) (d t : Nat) (v : Value) : look ((d, v) :: s) t = if d = t then some v else look s t := by
  simp only [look]
  cases hb : Nat.beq d t with
  | true => have h := Nat.eq_of_beq_eq_true hb; simp [h]
  | false => have h := Nat.ne_of_beq_eq_false hb; simp [h]

theorem St.put {n : Fr} {s : Slots} {a : Act} (h : St n s a) {d : Nat} (hd : d < n.sz) (v : Value) : St n ((d, v) :: s) (a.put (some d) v) := by
  refine ⟨by simp [Act.put, h.size], h.defers, fun t u hu => ?_⟩
  rw [look_cons] at hu
  by_cases e : d = t
  · subst e
    simp only [if_true, Option.some.injEq] at hu
    subst hu
    simp [Act.put, h.size, hd]
  · rw [if_neg e] at hu
    simp only [Act.put]
    rw [Array.getElem?_setIfInBounds_ne e]
    exact h.has t u hu

theorem St.put_none {n : Fr} {s : Slots} {a : Act} (h : St n s a) (v : Value) : St n s (a.put none v) := h

/-- Every slot that s1 knows, s2 knows to hold the same. -/
def Sub (s1 s2 : Slots) : Prop := ∀ t v, look s1 t = some v → look s2 t = some v

theorem Sub.refl (s : Slots) : Sub s s := fun _ _ h => h
theorem Sub.nil (s : Slots) : Sub [] s := fun _ _ h => by simp [look] at h
theorem Sub.cons {s1 s2 : Slots} {t : Nat} {v : Value} (h : look s2 t = some v) (hs : Sub s1 s2) : Sub ((t, v) :: s1) s2 := by
  intro u x hx
  rw [look_cons] at hx
  by_cases e : t = u
  · subst e
    rw [if_pos rfl] at hx
    rw [h]; exact hx
  · rw [if_neg e] at hx
    exact hs u x hx

theorem St.sub {n : Fr} {s1 s2 : Slots} {a : Act} (h : St n s2 a) (hs : Sub s1 s2) : St n s1 a := ⟨h.size, h.defers, fun t v ht => h.has t v (hs t v ht)⟩

/-! ### The judgement -/

abbrev Post := Exit → Slots → List Blk → Prop

def post (n : Fr) (w0 : World) (Q : Post) : Exit → Act → World → Prop := fun e a w => ∃ s H, St n s a ∧ Mem w0 w H ∧ Q e s H

def W (P : Program) (n : Fr) (w0 : World) (c : Code) (Q : Post) (s : Slots) (H : List Blk) : Prop :=
  ∀ a w, St n s a → Mem w0 w H → c.wp P (post n w0 Q) a w

def WL (P : Program) (n : Fr) (w0 : World) (ops : Array Oper) (rest : List Oper) (Q : Post) (s : Slots) (H : List Blk) : Prop :=
  ∀ a w, St n s a → Mem w0 w H → wpList P ops (post n w0 Q) rest a w

def thn (K : Slots → List Blk → Prop) (Q : Post) : Post
  | .normal, s, H => K s H
  | e, s, H => Q e s H

def blk (id : Nat) (Q : Post) : Post
  | .exit id', s, H => if id' = id then Q .normal s H else Q (.exit id') s H
  | e, s, H => Q e s H

section
variable {P : Program} {n : Fr} {w0 : World} {Q : Post} {s : Slots} {H : List Blk}

theorem w_mono {c : Code} {Q' : Post} (hq : ∀ e s H, Q e s H → Q' e s H) (h : W P n w0 c Q s H) : W P n w0 c Q' s H :=
  fun a w hs hm => wp_mono (h a w hs hm) fun _ _ _ ⟨s, H, h1, h2, h3⟩ => ⟨s, H, h1, h2, hq _ _ _ h3⟩

theorem w_sub {c : Code} {s' : Slots} (hs : Sub s' s) (h : W P n w0 c Q s' H) : W P n w0 c Q s H :=
  fun a w hst hm => h a w (hst.sub hs) hm

theorem w_seq {x y : Code} (h : W P n w0 x (thn (W P n w0 y Q) Q) s H) : W P n w0 (.seq x y) Q s H := by
  intro a w hs hm
  refine wp_seq (wp_mono (h a w hs hm) ?_)
  rintro e a' w' ⟨s', H', h1, h2, h3⟩
  cases e with
  | normal => exact h3 a' w' h1 h2
  | _ => exact ⟨s', H', h1, h2, h3⟩

theorem w_skip (h : Q .normal s H) : W P n w0 .skip Q s H := fun _ _ hs hm => wp_skip ⟨s, H, hs, hm, h⟩
theorem w_ret (h : Q .ret s H) : W P n w0 .ret Q s H := fun _ _ hs hm => wp_ret ⟨s, H, hs, hm, h⟩
theorem w_exit {id : Nat} (h : Q (.exit id) s H) : W P n w0 (.exit id) Q s H := fun _ _ hs hm => wp_exit ⟨s, H, hs, hm, h⟩

theorem w_block {id : Nat} {c : Code} (h : W P n w0 c (blk id Q) s H) : W P n w0 (.block id c) Q s H := by
  intro a w hs hm
  refine wp_block (wp_mono (h a w hs hm) ?_)
  rintro e a' w' ⟨s', H', h1, h2, h3⟩
  cases e with
  | exit id' =>
    simp only [Exit.inBlock, blk] at h3 ⊢
    split
    · rename_i hid; rw [if_pos hid] at h3; exact ⟨s', H', h1, h2, h3⟩
    · rename_i hid; rw [if_neg hid] at h3; exact ⟨s', H', h1, h2, h3⟩
  | _ => exact ⟨s', H', h1, h2, h3⟩

theorem w_cond_true {c : Operand} {x y : Code} (hc : ev s c = some (.bool true)) (h : W P n w0 x Q s H) : W P n w0 (.cond c x y) Q s H :=
  fun a w hs hm => wp_cond_true (hs.eval c _ hc) (h a w hs hm)
theorem w_cond_false {c : Operand} {x y : Code} (hc : ev s c = some (.bool false)) (h : W P n w0 y Q s H) : W P n w0 (.cond c x y) Q s H :=
  fun a w hs hm => wp_cond_false (hs.eval c _ hc) (h a w hs hm)

theorem w_cond {c : Operand} {x y : Code} {b : Bool} (hc : ev s c = some (.bool b)) (ht : b = true → W P n w0 x Q s H) (hf : b = false → W P n w0 y Q s H) :
    W P n w0 (.cond c x y) Q s H :=
  fun a w hs hm => wp_cond_split (hs.eval c _ hc) (fun e => ht e a w hs hm) (fun e => hf e a w hs hm)

end

/-! ### Picking out of what is owned -/

inductive In (b : Blk) : List Blk → Prop
  | hd {T : List Blk} : In b (b :: T)
  | tl {x : Blk} {T : List Blk} : In b T → In b (x :: T)

inductive Sel (b : Blk) : List Blk → List Blk → Prop
  | hd {T : List Blk} : Sel b (b :: T) T
  | tl {x : Blk} {T T' : List Blk} : Sel b T T' → Sel b (x :: T) (x :: T')

theorem In.mem {b : Blk} {H : List Blk} (h : In b H) : b ∈ H := by
  induction h with
  | hd => exact List.mem_cons_self
  | tl _ ih => exact List.mem_cons_of_mem _ ih

theorem Sel.perm {b : Blk} {H T : List Blk} (h : Sel b H T) : H.Perm (b :: T) := by
  induction h with
  | hd => exact .refl _
  | tl _ ih => exact (ih.cons _).trans (.swap _ _ _)

theorem Mem.perm {w0 w : World} {H H' : List Blk} (h : Mem w0 w H) (hp : H.Perm H') : Mem w0 w H' :=
  ⟨h.below, fun b hb => h.on b (hp.mem_iff.2 hb), (hp.pairwise_iff (fun {_ _} h => Apart.symm h)).1 h.apart⟩

theorem Mem.sel {w0 w : World} {H T : List Blk} {b : Blk} (h : Mem w0 w H) (hs : Sel b H T) : Mem w0 w (b :: T) := h.perm hs.perm

theorem Mem.tail {w0 w : World} {T : List Blk} {b : Blk} (h : Mem w0 w (b :: T)) : Mem w0 w T :=
  ⟨h.below, fun x hx => h.on x (List.mem_cons_of_mem _ hx), (List.pairwise_cons.1 h.apart).2⟩

theorem Mem.left {w0 w : World} {H T : List Blk} (h : Mem w0 w (H ++ T)) : Mem w0 w H :=
  ⟨h.below, fun x hx => h.on x (List.mem_append_left _ hx), (List.pairwise_append.1 h.apart).1⟩

theorem Mem.right {w0 w : World} {H T : List Blk} (h : Mem w0 w (H ++ T)) : Mem w0 w T :=
  ⟨h.below, fun x hx => h.on x (List.mem_append_right _ hx), (List.pairwise_append.1 h.apart).2.1⟩

/-- What is owned in H' serves as H. -/
def MSub (H H' : List Blk) : Prop := ∃ T, H'.Perm (H ++ T)

theorem MSub.use {H H' : List Blk} (h : MSub H H') {w0 w : World} (hm : Mem w0 w H') : Mem w0 w H := by
  obtain ⟨T, hp⟩ := h
  exact (hm.perm hp).left
theorem MSub.refl (H : List Blk) : MSub H H := ⟨[], by simp⟩
theorem MSub.nil (H : List Blk) : MSub [] H := ⟨H, by simp⟩
theorem MSub.pick {b : Blk} {H H' T : List Blk} (hs : Sel b H' T) (h : MSub H T) : MSub (b :: H) H' := by
  obtain ⟨U, hp⟩ := h
  exact ⟨U, hs.perm.trans (hp.cons b)⟩
theorem MSub.trans {H H' H'' : List Blk} (h : MSub H H') (k : MSub H' H'') : MSub H H'' := by
  obtain ⟨T, hT⟩ := h
  obtain ⟨U, hU⟩ := k
  exact ⟨T ++ U, hU.trans (by rw [← List.append_assoc]; exact hT.append_right U)⟩
theorem MSub.drop {H H' T : List Blk} {b : Blk} (hs : Sel b H' T) (h : MSub H T) : MSub H H' := by
  obtain ⟨U, hp⟩ := h
  refine ⟨b :: U, hs.perm.trans ((hp.cons b).trans ?_)⟩
  exact List.perm_middle.symm

section
variable {P : Program} {n : Fr} {w0 : World} {Q : Post} {s : Slots} {H : List Blk}

theorem w_msub {c : Code} {H' : List Blk} (hH : MSub H' H) (h : W P n w0 c Q s H') : W P n w0 c Q s H :=
  fun a w hst hm => h a w hst (hH.use hm)

/-- A loop: the state at its head, by a ghost of any type. -/
theorem w_loop {ι : Type} {c : Code} (sI : ι → Slots) (HI : ι → List Blk) (ok : ι → Prop) (μ : ι → Nat) (i0 : ι) (h0 : ok i0) (hs0 : Sub (sI i0) s) (hH0 : MSub (HI i0) H)
    (round : ∀ i, ok i → W P n w0 c (thn (fun s' H' => ∃ i', ok i' ∧ μ i' < μ i ∧ Sub (sI i') s' ∧ MSub (HI i') H') Q) (sI i) (HI i)) : W P n w0 (.loop c) Q s H := by
  intro a w hs hm
  refine wp_loop_ghost (fun k a' w' => ∃ i, ok i ∧ μ i = k ∧ St n (sI i) a' ∧ Mem w0 w' (HI i)) (μ i0) ⟨i0, h0, rfl, hs.sub hs0, hH0.use hm⟩ ?_
  rintro k a1 w1 ⟨i, hi, rfl, hs1, hm1⟩
  refine wp_mono (round i hi a1 w1 hs1 hm1) ?_
  rintro e a' w' ⟨s', H', h1, h2, h3⟩
  cases e with
  | normal =>
    obtain ⟨i', hi', hlt, hsub, hms⟩ := h3
    exact ⟨μ i', hlt, i', hi', rfl, h1.sub hsub, hms.use h2⟩
  | _ => exact ⟨s', H', h1, h2, h3⟩

end


/-! ### How what is owned changes -/

theorem Blk.on_of_block {w w' : World} {b : Blk} (h : b.on w) (hk : ∀ k, b.key = some k → w'.heap[k]? = w.heap[k]?) : b.on w' := by
  cases b with
  | box g ty xs => simp only [Blk.on] at h ⊢; rw [hk g rfl]; exact h
  | obj g o => simp only [Blk.on] at h ⊢; rw [hk g rfl]; exact h
  | byt g ty m cap xs => simp only [Blk.on] at h ⊢; rw [hk g rfl]; exact h
  | own A ty size m cap xs =>
    simp only [Blk.on] at h ⊢
    refine ⟨h.1, h.2.1, h.2.2.1, ?_⟩
    have h4 := h.2.2.2
    cases A with
    | none => exact h4
    | some g =>
      obtain ⟨junk, hl, hg⟩ := h4
      exact ⟨junk, hl, (hk g rfl).trans hg⟩

theorem Blk.key_lt {w : World} {b : Blk} (h : b.on w) {k : Nat} (hk : b.key = some k) : k < w.heap.size := by
  have : ∃ o, w.heap[k]? = some o := by
    cases b with
    | box g ty xs => simp only [Blk.key, Option.some.injEq] at hk; subst hk; exact ⟨_, h⟩
    | obj g o => simp only [Blk.key, Option.some.injEq] at hk; subst hk; exact ⟨_, h⟩
    | byt g ty m cap xs => simp only [Blk.key, Option.some.injEq] at hk; subst hk; obtain ⟨_, _, junk, _, hg⟩ := h; exact ⟨_, hg⟩
    | own A ty size m cap xs =>
      simp only [Blk.key] at hk
      subst hk
      obtain ⟨_, _, _, junk, _, hg⟩ := h
      exact ⟨_, hg⟩
  obtain ⟨o, ho⟩ := this
  exact (Array.getElem?_eq_some_iff.1 ho).1

theorem Mem.refl (w : World) : Mem w w [] := ⟨.refl _ _, (fun _ h => by cases h), List.Pairwise.nil⟩

theorem Mem.drew {w0 w : World} {H : List Blk} (h : Mem w0 w H) : Mem w0 { w with drawn := w.drawn + 1 } H :=
  ⟨h.below.drew, fun b hb => ⟨Blk.on_of_block (h.on b hb).1 fun _ _ => rfl, (h.on b hb).2⟩, h.apart⟩

theorem Mem.drewN {w0 w : World} {H : List Blk} (h : Mem w0 w H) (k : Nat) : Mem w0 { w with drawn := k } H :=
  ⟨⟨h.below.os, h.below.tape, h.below.output, h.below.size, h.below.block⟩, fun b hb => ⟨Blk.on_of_block (h.on b hb).1 fun _ _ => rfl, (h.on b hb).2⟩, h.apart⟩

/-- The head's block turns, or lies in a new block; all else is as it was. -/
theorem Mem.upd {w0 w w' : World} {b b' : Blk} {T : List Blk} (h : Mem w0 w (b :: T)) (hg : w.grownBy w' b.key) (hb : b'.on w')
    (hk : ∀ k, b'.key = some k → b.key = some k ∨ w.heap.size ≤ k) : Mem w0 w' (b' :: T) := by
  have hap := List.pairwise_cons.1 h.apart
  have hrow : ∀ k, b.key = some k → w0.heap.size ≤ k := (h.on b List.mem_cons_self).2
  have hsz : w0.heap.size ≤ w.heap.size := h.below.size
  have hlt : ∀ x ∈ T, ∀ k, x.key = some k → k < w.heap.size := fun x hx k hxk => Blk.key_lt (h.on x (List.mem_cons_of_mem _ hx)).1 hxk
  refine ⟨h.below.grown hg hsz hrow, fun x hx => ?_, List.pairwise_cons.2 ⟨fun x hx k hk1 hk2 => ?_, hap.2⟩⟩
  · rcases List.mem_cons.1 hx with rfl | hx
    · refine ⟨hb, fun k hk1 => ?_⟩
      rcases hk k hk1 with h1 | h1
      · exact hrow k h1
      · omega
    · refine ⟨Blk.on_of_block (h.on x (List.mem_cons_of_mem _ hx)).1 fun k hxk => ?_, (h.on x (List.mem_cons_of_mem _ hx)).2⟩
      exact hg.block k (hlt x hx k hxk) fun e => hap.1 x hx k e.symm hxk
  · rcases hk k hk1 with h1 | h1
    · exact hap.1 x hx k h1 hk2
    · have := hlt x hx k hk2
      omega

/-- A new block. -/
theorem Mem.new {w0 w w' : World} {b : Blk} {T : List Blk} (h : Mem w0 w T) (hg : w.grownBy w' none) (hb : b.on w') (hk : ∀ k, b.key = some k → w.heap.size ≤ k) : Mem w0 w' (b :: T) := by
  have h0 : Mem w0 w (.own none 0 0 0 0 [] :: T) :=
    ⟨h.below, fun x hx => by
      rcases List.mem_cons.1 hx with rfl | hx
      · exact ⟨⟨by simp, Nat.le_refl _, Nat.zero_le _, rfl, rfl⟩, (fun k hk => by cases hk)⟩
      · exact h.on x hx, List.pairwise_cons.2 ⟨(fun x _ k hk => by cases hk), h.apart⟩⟩
  exact h0.upd (b := .own none 0 0 0 0 []) hg hb fun k h1 => .inr (hk k h1)

/-- What a call that began in w leaves, beside what was owned before. -/
theorem Mem.call {w0 w w' : World} {H H' : List Blk} (h : Mem w0 w H) (h' : Mem w w' H') : Mem w0 w' (H' ++ H) := by
  have hsz : w0.heap.size ≤ w.heap.size := h.below.size
  have hold : ∀ x ∈ H, ∀ k, x.key = some k → k < w.heap.size := fun x hx k hxk => Blk.key_lt (h.on x hx).1 hxk
  refine ⟨h.below.trans (h'.below.mono hsz), fun x hx => ?_, List.pairwise_append.2 ⟨h'.apart, h.apart, fun x hx y hy k hk1 hk2 => ?_⟩⟩
  · rcases List.mem_append.1 hx with hx | hx
    · exact ⟨(h'.on x hx).1, fun k hk => Nat.le_trans hsz ((h'.on x hx).2 k hk)⟩
    · exact ⟨Blk.on_of_block (h.on x hx).1 fun k hk => h'.below.block k (hold x hx k hk), (h.on x hx).2⟩
  · have h1 := (h'.on x hx).2 k hk1
    have h2 := hold y hy k hk2
    omega

end Go.SL

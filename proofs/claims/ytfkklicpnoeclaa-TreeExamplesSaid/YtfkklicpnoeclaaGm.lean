/-
  Lemmas and walks, packed: W42.
-/
import Derived.Test.YtfkklicpnoeclaaGe
import Derived.Test.YtfkklicpnoeclaaGh
import Derived.Test.YtfkklicpnoeclaaGn
import Derived.Test.YtfkklicpnoeclaaGd
set_option linter.unusedSimpArgs false
set_option linter.unusedVariables false
/-
  TreeExamples returns true.
-/
namespace Go.SL
open Go Go.Proofs Go.RowKit
attribute [local irreducible] W WL WQ WG WA WX thn blk cutP retP FnAt FnIn Held

section rules
variable {P : Program} {w0 : World} {s : Slots} {H : List Blk} {ty t t' : TypeId} {x y : Operand} {k : IntKind}
theorem v_remN {a b : Nat} (hx : ev s x = some (.int k (a : Nat))) (hy : ev s y = some (.int k (b : Nat))) (h : 0 < b) : VOp P w0 s H (.binOp .rem t x y t') ty (.int k ((a % b : Nat) : Int)) := by
  have h1 := v_rem (P := P) (w0 := w0) (H := H) (ty := ty) (t := t) (t' := t') hx hy (by omega)
  rwa [show ((a : Int)).tmod (b : Int) = ((a % b : Nat) : Int) from rfl] at h1
theorem v_quow {a b : Int} (hx : ev s x = some (.int k a)) (hy : ev s y = some (.int k b)) (h : b ≠ 0) : VOp P w0 s H (.binOp .quo t x y t') ty (.int k (k.wrap (a.tdiv b))) := fun ρ w _ _ _ _ hρ _ => by
  simp [execOp, hρ x _ hx, hρ y _ hy, eqGuard, binOp, Op.intDiv, h]
theorem v_quoN {a b : Nat} (hx : ev s x = some (.int .i64 (a : Nat))) (hy : ev s y = some (.int .i64 (b : Nat))) (h : 0 < b) (ha : a ≤ maxLen) : VOp P w0 s H (.binOp .quo t x y t') ty (.int .i64 ((a / b : Nat) : Int)) := by
  have h1 := v_quow (P := P) (w0 := w0) (H := H) (ty := ty) (t := t) (t' := t') hx hy (by omega)
  have h2 : ((a : Int)).tdiv (b : Int) = ((a / b : Nat) : Int) := rfl
  have h3 : a / b ≤ a := Nat.div_le_self _ _
  rw [h2] at h1
  generalize a / b = q at h1 h3 ⊢
  rw [I64.wrap ⟨by omega, by simp only [maxLen] at ha; omega⟩] at h1
  exact h1
end rules
attribute [local irreducible] VOp

theorem readsLL2 {w : World} {v x y : Value} {T U : List Nd} (hr : Reads w v 2 [x, y]) (hx : Reads w x T.length (T.flatMap encN)) (hy : Reads w y U.length (U.flatMap encN)) : ReadsLL w v [T, U] := by
  refine ⟨[x, y], rfl, hr, fun i z L h1 h2 => ?_⟩
  match i with
  | 0 => simp at h1 h2; subst h1 h2; exact hx
  | 1 => simp at h1 h2; subst h1 h2; exact hy
  | i + 2 => simp at h1
theorem readsLL1 {w : World} {v x : Value} {T : List Nd} (hr : Reads w v 1 [x]) (hx : Reads w x T.length (T.flatMap encN)) : ReadsLL w v [T] := by
  refine ⟨[x], rfl, hr, fun i z L h1 h2 => ?_⟩
  match i with
  | 0 => simp at h1 h2; subst h1 h2; exact hx
  | i + 1 => simp at h1

def xFive : Nd := ⟨1, ⟨1, 50000, emptyB⟩, zeroR, 0, 0, 0⟩
def xRef8 : Nd := ⟨2, zeroV, ⟨1, 1, 1, 1⟩, 0, 0, 0⟩
def xWide : Nd := ⟨3, zeroV, ⟨1, 1, 2, 2⟩, 0, 0, 0⟩
def xPlus : Nd := ⟨6, zeroV, zeroR, 1, 0, 0⟩
def xNeg8 : Nd := ⟨4, zeroV, zeroR, 0, 0, 0⟩
def xRows : List (List Nd) := [[], [xFive], [xRef8], [xWide], [xFive, xFive], [xPlus], [xFive, xPlus], [xFive, xRef8, xPlus], [xWide, xFive, xPlus], [xFive, xNeg8], [xWide, xNeg8], [xNeg8], [xFive, xFive, xFive, xPlus]]
def xKinds : List Nd := [xFive, xRef8, xWide, xPlus, xNeg8, ⟨5, zeroV, zeroR, 0, 0, 0⟩, ⟨7, zeroV, zeroR, 0, 9, 1⟩, ⟨0, zeroV, zeroR, 0, 0, 0⟩, ⟨8, zeroV, zeroR, 0, 0, 0⟩]
instance (n : Nd) : Decidable (wfN n) := by unfold wfN; infer_instance
theorem xRows_wf : ∀ L ∈ xRows, ∀ n ∈ L, wfN n := by decide
theorem xKinds_wf : ∀ n ∈ xKinds, wfN n := by decide
theorem xPlus_wf : wfN xPlus := by decide
theorem xNeg8_wf : wfN xNeg8 := by decide
theorem xFive_wf : wfN xFive := by decide
theorem xRef8_wf : wfN xRef8 := by decide
theorem xWide_wf : wfN xWide := by decide
theorem wf_app {L M : List Nd} (h : ∀ n ∈ L, wfN n) (hm : ∀ n ∈ M, wfN n) : ∀ n ∈ L ++ M, wfN n := by
  intro n hn
  rcases List.mem_append.1 hn with hn | hn
  · exact h n hn
  · exact hm n hn
theorem wf_one {m : Nd} (hm : wfN m) : ∀ n ∈ [m], wfN n := by
  intro n hn
  rw [List.mem_singleton.1 hn]; exact hm
theorem wf_cons {m : Nd} {L : List Nd} (hm : wfN m) (h : ∀ n ∈ L, wfN n) : ∀ n ∈ m :: L, wfN n := by
  intro n hn
  rcases List.mem_cons.1 hn with rfl | hn
  · exact hm
  · exact h n hn
theorem wf_rep {m : Nd} {k : Nat} (hm : wfN m) : ∀ n ∈ List.replicate k m, wfN n := by
  intro n hn
  rw [List.eq_of_mem_replicate hn]; exact hm
theorem row_at (A : Option Nat) (m c : Nat) (w : World) : Pure Try.prog 52 [sl A m c] w (sl A m c) := by
  refine fn_at Try.func52 rfl Try.ntmps52 rfl ?_
  repeat' (first
    | ((with_reducible apply wl_v); exact rfl; (first | ((with_reducible apply vop_ok); exact rfl)))
    | (with_reducible first | apply wl_nil | apply thn_n | apply w_seq | apply w_region | apply w_ret | apply w_skip | apply w_exit | apply w_block | apply thn_r | apply thn_e | apply blk_n | apply blk_r | apply blk_e)
    | ((with_reducible apply w_cond_true); exact rfl)
    | ((with_reducible apply w_cond_false); exact rfl)
    | ((with_reducible apply w_cond) <;> first | exact rfl | (intro hb; (replace hb := Tidy.out hb; try (exfalso; omega))))
    | ((with_reducible apply blk_x); exact rfl))
  ((with_reducible apply ret1); exact .inl rfl; exact rfl; exact rfl; exact MSub.nil _)
  rfl
def xCall8 (fn n : Nat) : Nd := ⟨7, zeroV, zeroR, 0, fn, n⟩
theorem wf_call8 {f n : Nat} (h : f ≤ 255) : wfN (xCall8 f n) := ⟨by show -9223372036854775808 ≤ (0 : Int); decide, by dsimp only [xCall8]; omega, by dsimp only [xCall8]; omega⟩
/-- A node, each time with one field set. -/
def xFives (x : Nd) : List Nd := [{ x with v := ⟨1, -1, emptyB⟩ }, { x with rect := xWide.rect }, { x with op := 13 }, { x with fn := 1 }, { x with n := -1 }]
theorem xFives_wf {x : Nd} (h : wfN x) : ∀ n ∈ xFives x, wfN n := by
  obtain ⟨h1, h2, h3⟩ := h
  intro n hn
  simp only [xFives, List.mem_cons, List.not_mem_nil, or_false] at hn
  rcases hn with rfl | rfl | rfl | rfl | rfl
  · exact ⟨by show -9223372036854775808 ≤ (-1 : Int); decide, h2, h3⟩
  · exact ⟨h1, h2, h3⟩
  · exact ⟨h1, h2, h3⟩
  · exact ⟨h1, by show (0 : Int) ≤ 1; decide, by show (1 : Int) ≤ 255; decide⟩
  · exact ⟨h1, h2, h3⟩

set_option maxRecDepth 20000 in
set_option maxHeartbeats 8000000 in
theorem TreeExamples_at (w : World) : Pure Try.prog 15 [] w (.bool true) := by
  refine fn_at Try.func15 rfl Try.ntmps15 rfl ?_
  repeat' (first
    | ((with_reducible apply wl_v); exact rfl; (first | ((with_reducible apply vop_ok); exact rfl) | ((with_reducible apply v_fieldAddr); exact rfl) | ((with_reducible apply v_len); exact rfl) | ((with_reducible apply v_lens); exact rfl) | ((with_reducible apply v_load_box); exact rfl; (repeat first | exact .hd | apply Sel.tl | apply In.tl); exact rfl) | ((with_reducible apply v_loadw_box); exact rfl; (repeat first | exact .hd | apply Sel.tl | apply In.tl); exact rfl) | ((with_reducible apply v_loadn_box); exact rfl; (repeat first | exact .hd | apply Sel.tl | apply In.tl); exact rfl; exact rfl) | ((with_reducible apply v_build); exact rfl; exact rfl; exact rfl)))
    | ((with_reducible apply wl_gyes); exact rfl; exact rfl)
    | ((with_reducible apply wl_gno_b); exact rfl; exact rfl; exact rfl; exact rfl)
    | ((with_reducible apply wl_gno_u); exact rfl; exact rfl; exact rfl)
    | ((with_reducible apply wl_alloc); exact rfl; intro _)
    | ((with_reducible apply wl_storen_box); exact rfl; exact rfl; (repeat first | exact .hd | apply Sel.tl | apply In.tl); exact rfl; exact rfl; exact rfl)
    | ((with_reducible apply wl_putn_box); exact rfl; exact rfl; (repeat first | exact .hd | apply Sel.tl | apply In.tl); exact rfl; exact rfl; exact rfl; exact rfl)
    | ((with_reducible apply wl_buildSlice); exact rfl; exact rfl; exact rfl; exact rfl; exact rfl; exact rfl; exact rfl; intro _)
    | ((with_reducible apply wl_gsplit) <;> first | exact rfl | (intro hb; (replace hb := Tidy.out hb; try (exfalso; omega))))
    | (with_reducible first | apply wl_nil | apply thn_n | apply w_seq | apply w_region | apply w_ret | apply w_skip | apply w_exit | apply w_block | apply thn_r | apply thn_e | apply blk_n | apply blk_r | apply blk_e)
    | ((with_reducible apply w_cond_true); exact rfl)
    | ((with_reducible apply w_cond_false); exact rfl)
    | ((with_reducible apply w_cond) <;> first | exact rfl | (intro hb; (replace hb := Tidy.out hb; try (exfalso; omega))))
    | ((with_reducible apply blk_x); exact rfl))
  rename_i g1 g2 g3 g4 g5
  refine w_msub (H' := .box g1 40 (encN xFive) :: .box g2 40 (encN xRef8) :: .box g3 40 (encN xWide) :: .box g4 40 (encN xPlus) :: .box g5 40 (encN xNeg8) :: []) (by (repeat (first | exact MSub.nil _ | refine MSub.pick (by (repeat first | exact .hd | apply Sel.tl | apply In.tl)) ?_ | exact MSub.refl _ | refine MSub.drop .hd ?_))) ?_
  refine w_nilrow 0 0 ?_
  refine w_nilrow 0 0 ?_
  refine w_nilrow 0 0 ?_
  refine w_nilrow 0 0 ?_
  refine w_nilrow 0 0 ?_
  refine w_nilrow 0 0 ?_
  refine w_nilrow 0 0 ?_
  refine w_nilrow 0 0 ?_
  refine w_nilrow 0 0 ?_
  refine w_nilrow 0 0 ?_
  refine w_nilrow 0 0 ?_
  refine w_nilrow 0 0 ?_
  refine w_nilrow 0 0 ?_
  refine w_drawXg (id := 4) (fun | 1 => some fun g => .slice (some ⟨g.2, 0, none⟩) 1 1 | 4 => some fun g => .slice (some ⟨g.2, 0, none⟩) 1 1 | 7 => some fun g => .slice (some ⟨g.2, 0, none⟩) 1 1 | 11 => some fun g => .slice (some ⟨g.2, 0, none⟩) 2 2 | 14 => some fun g => .slice (some ⟨g.2, 0, none⟩) 1 1 | 18 => some fun g => .slice (some ⟨g.2, 0, none⟩) 2 2 | 23 => some fun g => .slice (some ⟨g.2, 0, none⟩) 3 3 | 28 => some fun g => .slice (some ⟨g.2, 0, none⟩) 3 3 | 32 => some fun g => .slice (some ⟨g.2, 0, none⟩) 2 2 | 36 => some fun g => .slice (some ⟨g.2, 0, none⟩) 2 2 | 39 => some fun g => .slice (some ⟨g.2, 0, none⟩) 1 1 | 45 => some fun g => .slice (some ⟨g.2, 0, none⟩) 4 4 | 47 => some fun g => .slice (some ⟨g.2, 0, none⟩) 13 13 | _ => none)
    (fun (D : Done) (q : Nat → Gh) => (bif D 1 then Blk.own (some (q 1).2) 40 11 1 1 ([xFive].flatMap encN) else nilB) :: (bif D 4 then Blk.own (some (q 4).2) 40 11 1 1 ([xRef8].flatMap encN) else nilB) :: (bif D 7 then Blk.own (some (q 7).2) 40 11 1 1 ([xWide].flatMap encN) else nilB) :: (bif D 11 then Blk.own (some (q 11).2) 40 11 2 2 ([xFive, xFive].flatMap encN) else nilB) :: (bif D 14 then Blk.own (some (q 14).2) 40 11 1 1 ([xPlus].flatMap encN) else nilB) :: (bif D 18 then Blk.own (some (q 18).2) 40 11 2 2 ([xFive, xPlus].flatMap encN) else nilB) :: (bif D 23 then Blk.own (some (q 23).2) 40 11 3 3 ([xFive, xRef8, xPlus].flatMap encN) else nilB) :: (bif D 28 then Blk.own (some (q 28).2) 40 11 3 3 ([xWide, xFive, xPlus].flatMap encN) else nilB) :: (bif D 32 then Blk.own (some (q 32).2) 40 11 2 2 ([xFive, xNeg8].flatMap encN) else nilB) :: (bif D 36 then Blk.own (some (q 36).2) 40 11 2 2 ([xWide, xNeg8].flatMap encN) else nilB) :: (bif D 39 then Blk.own (some (q 39).2) 40 11 1 1 ([xNeg8].flatMap encN) else nilB) :: (bif D 45 then Blk.own (some (q 45).2) 40 11 4 4 ([xFive, xFive, xFive, xPlus].flatMap encN) else nilB) :: (bif D 47 then Blk.own (some (q 47).2) 22 1 13 13 [.slice none 0 0, .slice (some ⟨(q 1).2, 0, none⟩) 1 1, .slice (some ⟨(q 4).2, 0, none⟩) 1 1, .slice (some ⟨(q 7).2, 0, none⟩) 1 1, .slice (some ⟨(q 11).2, 0, none⟩) 2 2, .slice (some ⟨(q 14).2, 0, none⟩) 1 1, .slice (some ⟨(q 18).2, 0, none⟩) 2 2, .slice (some ⟨(q 23).2, 0, none⟩) 3 3, .slice (some ⟨(q 28).2, 0, none⟩) 3 3, .slice (some ⟨(q 32).2, 0, none⟩) 2 2, .slice (some ⟨(q 36).2, 0, none⟩) 2 2, .slice (some ⟨(q 39).2, 0, none⟩) 1 1, .slice (some ⟨(q 45).2, 0, none⟩) 4 4] else nilB) :: .box g1 40 (encN xFive) :: .box g2 40 (encN xRef8) :: .box g3 40 (encN xWide) :: .box g4 40 (encN xPlus) :: .box g5 40 (encN xNeg8) :: []) ?_ ?_ ?_ ?_
  · kernel_rfl
  · kernel_rfl
  · intro γ
    (repeat (first | exact MSub.nil _ | refine MSub.pick (by (repeat first | exact .hd | apply Sel.tl | apply In.tl)) ?_ | exact MSub.refl _ | refine MSub.drop .hd ?_))
  intro γ
  repeat' (first
    | ((with_reducible apply wx_callp (f := 52)); exact rfl; exact rfl; exact rfl; (decide +kernel); exact rfl; (intro D ht w' h; exact row_at (some _) _ _ w'); exact fun _ => rfl)
    | ((with_reducible apply wl_v); exact rfl; (first | ((with_reducible apply vop_ok); exact rfl) | ((with_reducible apply v_fieldAddr); exact rfl) | ((with_reducible apply v_len); exact rfl) | ((with_reducible apply v_lens); exact rfl) | ((with_reducible apply v_load_box); exact rfl; (repeat first | exact .hd | apply Sel.tl | apply In.tl); exact rfl) | ((with_reducible apply v_loadw_box); exact rfl; (repeat first | exact .hd | apply Sel.tl | apply In.tl); exact rfl) | ((with_reducible apply v_loadn_box); exact rfl; (repeat first | exact .hd | apply Sel.tl | apply In.tl); exact rfl; exact rfl) | ((with_reducible apply v_build); exact rfl; exact rfl; exact rfl)))
    | ((with_reducible apply wl_gyes); exact rfl; exact rfl)
    | ((with_reducible apply wl_gno_b); exact rfl; exact rfl; exact rfl; exact rfl)
    | ((with_reducible apply wl_gno_u); exact rfl; exact rfl; exact rfl)
    | ((with_reducible apply wl_alloc); exact rfl; intro _)
    | ((with_reducible apply wl_storen_box); exact rfl; exact rfl; (repeat first | exact .hd | apply Sel.tl | apply In.tl); exact rfl; exact rfl; exact rfl)
    | ((with_reducible apply wl_putn_box); exact rfl; exact rfl; (repeat first | exact .hd | apply Sel.tl | apply In.tl); exact rfl; exact rfl; exact rfl; exact rfl)
    | ((with_reducible apply wl_buildSlice); exact rfl; exact rfl; exact rfl; exact rfl; exact rfl; exact rfl; exact rfl; intro _)
    | ((with_reducible apply wl_gsplit) <;> first | exact rfl | (intro hb; (replace hb := Tidy.out hb; try (exfalso; omega))))
    | (with_reducible first | apply wl_nil | apply thn_n | apply w_seq | apply w_region | apply w_ret | apply w_skip | apply w_exit | apply w_block | apply thn_r | apply thn_e | apply blk_n | apply blk_r | apply blk_e | apply wx_nil)
    | ((with_reducible apply w_cond_true); exact rfl)
    | ((with_reducible apply w_cond_false); exact rfl)
    | ((with_reducible apply w_cond) <;> first | exact rfl | (intro hb; (replace hb := Tidy.out hb; try (exfalso; omega))))
    | ((with_reducible apply blk_x); exact rfl)
    | ((with_reducible apply wx_v); exact rfl; exact rfl; exact rfl; (intro D ht; (first | ((with_reducible apply vop_ok); exact rfl) | ((with_reducible apply v_fieldAddr); exact rfl) | ((with_reducible apply v_len); exact rfl) | ((with_reducible apply v_lens); exact rfl) | ((with_reducible apply v_load_box); exact rfl; (repeat first | exact .hd | apply Sel.tl | apply In.tl); exact rfl) | ((with_reducible apply v_loadw_box); exact rfl; (repeat first | exact .hd | apply Sel.tl | apply In.tl); exact rfl) | ((with_reducible apply v_loadn_box); exact rfl; (repeat first | exact .hd | apply Sel.tl | apply In.tl); exact rfl; exact rfl) | ((with_reducible apply v_build); exact rfl; exact rfl; exact rfl))); exact fun _ => rfl)
    | ((with_reducible apply wx_gno); exact rfl; exact rfl; exact rfl; exact fun _ => rfl))
  refine wx_non rfl rfl rfl (fun D ht => ?_) ?_
  · have n1 : D 1 = false := ht.not
    have n47 : D 47 = false := ht.late (j := 47) (f := 60) (by decide +kernel)
    (simp only [gat, put, upd, Nat.reduceEqDiff, Nat.reduceAdd, reduceIte, n1, n47, cond_true, cond_false, List.nil_append, List.cons_append, Bool.and_true, Bool.and_false, Bool.true_and, Bool.false_and])
    (with_reducible apply wl_buildSlice); exact rfl; exact rfl; exact rfl; exact rfl; exact rfl; exact rfl; exact rfl; intro g
    refine wl_nil ⟨rfl, (none, g), rfl, ?_⟩
    (simp only [gat, put, upd, Nat.reduceEqDiff, Nat.reduceAdd, reduceIte, n1, n47, cond_true, cond_false, List.nil_append, List.cons_append, Bool.and_true, Bool.and_false, Bool.true_and, Bool.false_and])
    (repeat (first | exact MSub.nil _ | refine MSub.pick (by (repeat first | exact .hd | apply Sel.tl | apply In.tl)) ?_ | exact MSub.refl _ | refine MSub.drop .hd ?_))
  repeat' (first
    | ((with_reducible apply wx_callp (f := 52)); exact rfl; exact rfl; exact rfl; (decide +kernel); exact rfl; (intro D ht w' h; exact row_at (some _) _ _ w'); exact fun _ => rfl)
    | ((with_reducible apply wl_v); exact rfl; (first | ((with_reducible apply vop_ok); exact rfl) | ((with_reducible apply v_fieldAddr); exact rfl) | ((with_reducible apply v_len); exact rfl) | ((with_reducible apply v_lens); exact rfl) | ((with_reducible apply v_load_box); exact rfl; (repeat first | exact .hd | apply Sel.tl | apply In.tl); exact rfl) | ((with_reducible apply v_loadw_box); exact rfl; (repeat first | exact .hd | apply Sel.tl | apply In.tl); exact rfl) | ((with_reducible apply v_loadn_box); exact rfl; (repeat first | exact .hd | apply Sel.tl | apply In.tl); exact rfl; exact rfl) | ((with_reducible apply v_build); exact rfl; exact rfl; exact rfl)))
    | ((with_reducible apply wl_gyes); exact rfl; exact rfl)
    | ((with_reducible apply wl_gno_b); exact rfl; exact rfl; exact rfl; exact rfl)
    | ((with_reducible apply wl_gno_u); exact rfl; exact rfl; exact rfl)
    | ((with_reducible apply wl_alloc); exact rfl; intro _)
    | ((with_reducible apply wl_storen_box); exact rfl; exact rfl; (repeat first | exact .hd | apply Sel.tl | apply In.tl); exact rfl; exact rfl; exact rfl)
    | ((with_reducible apply wl_putn_box); exact rfl; exact rfl; (repeat first | exact .hd | apply Sel.tl | apply In.tl); exact rfl; exact rfl; exact rfl; exact rfl)
    | ((with_reducible apply wl_buildSlice); exact rfl; exact rfl; exact rfl; exact rfl; exact rfl; exact rfl; exact rfl; intro _)
    | ((with_reducible apply wl_gsplit) <;> first | exact rfl | (intro hb; (replace hb := Tidy.out hb; try (exfalso; omega))))
    | (with_reducible first | apply wl_nil | apply thn_n | apply w_seq | apply w_region | apply w_ret | apply w_skip | apply w_exit | apply w_block | apply thn_r | apply thn_e | apply blk_n | apply blk_r | apply blk_e | apply wx_nil)
    | ((with_reducible apply w_cond_true); exact rfl)
    | ((with_reducible apply w_cond_false); exact rfl)
    | ((with_reducible apply w_cond) <;> first | exact rfl | (intro hb; (replace hb := Tidy.out hb; try (exfalso; omega))))
    | ((with_reducible apply blk_x); exact rfl)
    | ((with_reducible apply wx_v); exact rfl; exact rfl; exact rfl; (intro D ht; (first | ((with_reducible apply vop_ok); exact rfl) | ((with_reducible apply v_fieldAddr); exact rfl) | ((with_reducible apply v_len); exact rfl) | ((with_reducible apply v_lens); exact rfl) | ((with_reducible apply v_load_box); exact rfl; (repeat first | exact .hd | apply Sel.tl | apply In.tl); exact rfl) | ((with_reducible apply v_loadw_box); exact rfl; (repeat first | exact .hd | apply Sel.tl | apply In.tl); exact rfl) | ((with_reducible apply v_loadn_box); exact rfl; (repeat first | exact .hd | apply Sel.tl | apply In.tl); exact rfl; exact rfl) | ((with_reducible apply v_build); exact rfl; exact rfl; exact rfl))); exact fun _ => rfl)
    | ((with_reducible apply wx_gno); exact rfl; exact rfl; exact rfl; exact fun _ => rfl))
  refine wx_non rfl rfl rfl (fun D ht => ?_) ?_
  · have n4 : D 4 = false := ht.not
    have n47 : D 47 = false := ht.late (j := 47) (f := 60) (by decide +kernel)
    (simp only [gat, put, upd, Nat.reduceEqDiff, Nat.reduceAdd, reduceIte, n4, n47, cond_true, cond_false, List.nil_append, List.cons_append, Bool.and_true, Bool.and_false, Bool.true_and, Bool.false_and])
    (with_reducible apply wl_buildSlice); exact rfl; exact rfl; exact rfl; exact rfl; exact rfl; exact rfl; exact rfl; intro g
    refine wl_nil ⟨rfl, (none, g), rfl, ?_⟩
    (simp only [gat, put, upd, Nat.reduceEqDiff, Nat.reduceAdd, reduceIte, n4, n47, cond_true, cond_false, List.nil_append, List.cons_append, Bool.and_true, Bool.and_false, Bool.true_and, Bool.false_and])
    (repeat (first | exact MSub.nil _ | refine MSub.pick (by (repeat first | exact .hd | apply Sel.tl | apply In.tl)) ?_ | exact MSub.refl _ | refine MSub.drop .hd ?_))
  repeat' (first
    | ((with_reducible apply wx_callp (f := 52)); exact rfl; exact rfl; exact rfl; (decide +kernel); exact rfl; (intro D ht w' h; exact row_at (some _) _ _ w'); exact fun _ => rfl)
    | ((with_reducible apply wl_v); exact rfl; (first | ((with_reducible apply vop_ok); exact rfl) | ((with_reducible apply v_fieldAddr); exact rfl) | ((with_reducible apply v_len); exact rfl) | ((with_reducible apply v_lens); exact rfl) | ((with_reducible apply v_load_box); exact rfl; (repeat first | exact .hd | apply Sel.tl | apply In.tl); exact rfl) | ((with_reducible apply v_loadw_box); exact rfl; (repeat first | exact .hd | apply Sel.tl | apply In.tl); exact rfl) | ((with_reducible apply v_loadn_box); exact rfl; (repeat first | exact .hd | apply Sel.tl | apply In.tl); exact rfl; exact rfl) | ((with_reducible apply v_build); exact rfl; exact rfl; exact rfl)))
    | ((with_reducible apply wl_gyes); exact rfl; exact rfl)
    | ((with_reducible apply wl_gno_b); exact rfl; exact rfl; exact rfl; exact rfl)
    | ((with_reducible apply wl_gno_u); exact rfl; exact rfl; exact rfl)
    | ((with_reducible apply wl_alloc); exact rfl; intro _)
    | ((with_reducible apply wl_storen_box); exact rfl; exact rfl; (repeat first | exact .hd | apply Sel.tl | apply In.tl); exact rfl; exact rfl; exact rfl)
    | ((with_reducible apply wl_putn_box); exact rfl; exact rfl; (repeat first | exact .hd | apply Sel.tl | apply In.tl); exact rfl; exact rfl; exact rfl; exact rfl)
    | ((with_reducible apply wl_buildSlice); exact rfl; exact rfl; exact rfl; exact rfl; exact rfl; exact rfl; exact rfl; intro _)
    | ((with_reducible apply wl_gsplit) <;> first | exact rfl | (intro hb; (replace hb := Tidy.out hb; try (exfalso; omega))))
    | (with_reducible first | apply wl_nil | apply thn_n | apply w_seq | apply w_region | apply w_ret | apply w_skip | apply w_exit | apply w_block | apply thn_r | apply thn_e | apply blk_n | apply blk_r | apply blk_e | apply wx_nil)
    | ((with_reducible apply w_cond_true); exact rfl)
    | ((with_reducible apply w_cond_false); exact rfl)
    | ((with_reducible apply w_cond) <;> first | exact rfl | (intro hb; (replace hb := Tidy.out hb; try (exfalso; omega))))
    | ((with_reducible apply blk_x); exact rfl)
    | ((with_reducible apply wx_v); exact rfl; exact rfl; exact rfl; (intro D ht; (first | ((with_reducible apply vop_ok); exact rfl) | ((with_reducible apply v_fieldAddr); exact rfl) | ((with_reducible apply v_len); exact rfl) | ((with_reducible apply v_lens); exact rfl) | ((with_reducible apply v_load_box); exact rfl; (repeat first | exact .hd | apply Sel.tl | apply In.tl); exact rfl) | ((with_reducible apply v_loadw_box); exact rfl; (repeat first | exact .hd | apply Sel.tl | apply In.tl); exact rfl) | ((with_reducible apply v_loadn_box); exact rfl; (repeat first | exact .hd | apply Sel.tl | apply In.tl); exact rfl; exact rfl) | ((with_reducible apply v_build); exact rfl; exact rfl; exact rfl))); exact fun _ => rfl)
    | ((with_reducible apply wx_gno); exact rfl; exact rfl; exact rfl; exact fun _ => rfl))
  refine wx_non rfl rfl rfl (fun D ht => ?_) ?_
  · have n7 : D 7 = false := ht.not
    have n47 : D 47 = false := ht.late (j := 47) (f := 60) (by decide +kernel)
    (simp only [gat, put, upd, Nat.reduceEqDiff, Nat.reduceAdd, reduceIte, n7, n47, cond_true, cond_false, List.nil_append, List.cons_append, Bool.and_true, Bool.and_false, Bool.true_and, Bool.false_and])
    (with_reducible apply wl_buildSlice); exact rfl; exact rfl; exact rfl; exact rfl; exact rfl; exact rfl; exact rfl; intro g
    refine wl_nil ⟨rfl, (none, g), rfl, ?_⟩
    (simp only [gat, put, upd, Nat.reduceEqDiff, Nat.reduceAdd, reduceIte, n7, n47, cond_true, cond_false, List.nil_append, List.cons_append, Bool.and_true, Bool.and_false, Bool.true_and, Bool.false_and])
    (repeat (first | exact MSub.nil _ | refine MSub.pick (by (repeat first | exact .hd | apply Sel.tl | apply In.tl)) ?_ | exact MSub.refl _ | refine MSub.drop .hd ?_))
  repeat' (first
    | ((with_reducible apply wx_callp (f := 52)); exact rfl; exact rfl; exact rfl; (decide +kernel); exact rfl; (intro D ht w' h; exact row_at (some _) _ _ w'); exact fun _ => rfl)
    | ((with_reducible apply wl_v); exact rfl; (first | ((with_reducible apply vop_ok); exact rfl) | ((with_reducible apply v_fieldAddr); exact rfl) | ((with_reducible apply v_len); exact rfl) | ((with_reducible apply v_lens); exact rfl) | ((with_reducible apply v_load_box); exact rfl; (repeat first | exact .hd | apply Sel.tl | apply In.tl); exact rfl) | ((with_reducible apply v_loadw_box); exact rfl; (repeat first | exact .hd | apply Sel.tl | apply In.tl); exact rfl) | ((with_reducible apply v_loadn_box); exact rfl; (repeat first | exact .hd | apply Sel.tl | apply In.tl); exact rfl; exact rfl) | ((with_reducible apply v_build); exact rfl; exact rfl; exact rfl)))
    | ((with_reducible apply wl_gyes); exact rfl; exact rfl)
    | ((with_reducible apply wl_gno_b); exact rfl; exact rfl; exact rfl; exact rfl)
    | ((with_reducible apply wl_gno_u); exact rfl; exact rfl; exact rfl)
    | ((with_reducible apply wl_alloc); exact rfl; intro _)
    | ((with_reducible apply wl_storen_box); exact rfl; exact rfl; (repeat first | exact .hd | apply Sel.tl | apply In.tl); exact rfl; exact rfl; exact rfl)
    | ((with_reducible apply wl_putn_box); exact rfl; exact rfl; (repeat first | exact .hd | apply Sel.tl | apply In.tl); exact rfl; exact rfl; exact rfl; exact rfl)
    | ((with_reducible apply wl_buildSlice); exact rfl; exact rfl; exact rfl; exact rfl; exact rfl; exact rfl; exact rfl; intro _)
    | ((with_reducible apply wl_gsplit) <;> first | exact rfl | (intro hb; (replace hb := Tidy.out hb; try (exfalso; omega))))
    | (with_reducible first | apply wl_nil | apply thn_n | apply w_seq | apply w_region | apply w_ret | apply w_skip | apply w_exit | apply w_block | apply thn_r | apply thn_e | apply blk_n | apply blk_r | apply blk_e | apply wx_nil)
    | ((with_reducible apply w_cond_true); exact rfl)
    | ((with_reducible apply w_cond_false); exact rfl)
    | ((with_reducible apply w_cond) <;> first | exact rfl | (intro hb; (replace hb := Tidy.out hb; try (exfalso; omega))))
    | ((with_reducible apply blk_x); exact rfl)
    | ((with_reducible apply wx_v); exact rfl; exact rfl; exact rfl; (intro D ht; (first | ((with_reducible apply vop_ok); exact rfl) | ((with_reducible apply v_fieldAddr); exact rfl) | ((with_reducible apply v_len); exact rfl) | ((with_reducible apply v_lens); exact rfl) | ((with_reducible apply v_load_box); exact rfl; (repeat first | exact .hd | apply Sel.tl | apply In.tl); exact rfl) | ((with_reducible apply v_loadw_box); exact rfl; (repeat first | exact .hd | apply Sel.tl | apply In.tl); exact rfl) | ((with_reducible apply v_loadn_box); exact rfl; (repeat first | exact .hd | apply Sel.tl | apply In.tl); exact rfl; exact rfl) | ((with_reducible apply v_build); exact rfl; exact rfl; exact rfl))); exact fun _ => rfl)
    | ((with_reducible apply wx_gno); exact rfl; exact rfl; exact rfl; exact fun _ => rfl))
  refine wx_non rfl rfl rfl (fun D ht => ?_) ?_
  · have n11 : D 11 = false := ht.not
    have n47 : D 47 = false := ht.late (j := 47) (f := 60) (by decide +kernel)
    (simp only [gat, put, upd, Nat.reduceEqDiff, Nat.reduceAdd, reduceIte, n11, n47, cond_true, cond_false, List.nil_append, List.cons_append, Bool.and_true, Bool.and_false, Bool.true_and, Bool.false_and])
    (with_reducible apply wl_buildSlice); exact rfl; exact rfl; exact rfl; exact rfl; exact rfl; exact rfl; exact rfl; intro g
    refine wl_nil ⟨rfl, (none, g), rfl, ?_⟩
    (simp only [gat, put, upd, Nat.reduceEqDiff, Nat.reduceAdd, reduceIte, n11, n47, cond_true, cond_false, List.nil_append, List.cons_append, Bool.and_true, Bool.and_false, Bool.true_and, Bool.false_and])
    (repeat (first | exact MSub.nil _ | refine MSub.pick (by (repeat first | exact .hd | apply Sel.tl | apply In.tl)) ?_ | exact MSub.refl _ | refine MSub.drop .hd ?_))
  repeat' (first
    | ((with_reducible apply wx_callp (f := 52)); exact rfl; exact rfl; exact rfl; (decide +kernel); exact rfl; (intro D ht w' h; exact row_at (some _) _ _ w'); exact fun _ => rfl)
    | ((with_reducible apply wl_v); exact rfl; (first | ((with_reducible apply vop_ok); exact rfl) | ((with_reducible apply v_fieldAddr); exact rfl) | ((with_reducible apply v_len); exact rfl) | ((with_reducible apply v_lens); exact rfl) | ((with_reducible apply v_load_box); exact rfl; (repeat first | exact .hd | apply Sel.tl | apply In.tl); exact rfl) | ((with_reducible apply v_loadw_box); exact rfl; (repeat first | exact .hd | apply Sel.tl | apply In.tl); exact rfl) | ((with_reducible apply v_loadn_box); exact rfl; (repeat first | exact .hd | apply Sel.tl | apply In.tl); exact rfl; exact rfl) | ((with_reducible apply v_build); exact rfl; exact rfl; exact rfl)))
    | ((with_reducible apply wl_gyes); exact rfl; exact rfl)
    | ((with_reducible apply wl_gno_b); exact rfl; exact rfl; exact rfl; exact rfl)
    | ((with_reducible apply wl_gno_u); exact rfl; exact rfl; exact rfl)
    | ((with_reducible apply wl_alloc); exact rfl; intro _)
    | ((with_reducible apply wl_storen_box); exact rfl; exact rfl; (repeat first | exact .hd | apply Sel.tl | apply In.tl); exact rfl; exact rfl; exact rfl)
    | ((with_reducible apply wl_putn_box); exact rfl; exact rfl; (repeat first | exact .hd | apply Sel.tl | apply In.tl); exact rfl; exact rfl; exact rfl; exact rfl)
    | ((with_reducible apply wl_buildSlice); exact rfl; exact rfl; exact rfl; exact rfl; exact rfl; exact rfl; exact rfl; intro _)
    | ((with_reducible apply wl_gsplit) <;> first | exact rfl | (intro hb; (replace hb := Tidy.out hb; try (exfalso; omega))))
    | (with_reducible first | apply wl_nil | apply thn_n | apply w_seq | apply w_region | apply w_ret | apply w_skip | apply w_exit | apply w_block | apply thn_r | apply thn_e | apply blk_n | apply blk_r | apply blk_e | apply wx_nil)
    | ((with_reducible apply w_cond_true); exact rfl)
    | ((with_reducible apply w_cond_false); exact rfl)
    | ((with_reducible apply w_cond) <;> first | exact rfl | (intro hb; (replace hb := Tidy.out hb; try (exfalso; omega))))
    | ((with_reducible apply blk_x); exact rfl)
    | ((with_reducible apply wx_v); exact rfl; exact rfl; exact rfl; (intro D ht; (first | ((with_reducible apply vop_ok); exact rfl) | ((with_reducible apply v_fieldAddr); exact rfl) | ((with_reducible apply v_len); exact rfl) | ((with_reducible apply v_lens); exact rfl) | ((with_reducible apply v_load_box); exact rfl; (repeat first | exact .hd | apply Sel.tl | apply In.tl); exact rfl) | ((with_reducible apply v_loadw_box); exact rfl; (repeat first | exact .hd | apply Sel.tl | apply In.tl); exact rfl) | ((with_reducible apply v_loadn_box); exact rfl; (repeat first | exact .hd | apply Sel.tl | apply In.tl); exact rfl; exact rfl) | ((with_reducible apply v_build); exact rfl; exact rfl; exact rfl))); exact fun _ => rfl)
    | ((with_reducible apply wx_gno); exact rfl; exact rfl; exact rfl; exact fun _ => rfl))
  refine wx_non rfl rfl rfl (fun D ht => ?_) ?_
  · have n14 : D 14 = false := ht.not
    have n47 : D 47 = false := ht.late (j := 47) (f := 60) (by decide +kernel)
    (simp only [gat, put, upd, Nat.reduceEqDiff, Nat.reduceAdd, reduceIte, n14, n47, cond_true, cond_false, List.nil_append, List.cons_append, Bool.and_true, Bool.and_false, Bool.true_and, Bool.false_and])
    (with_reducible apply wl_buildSlice); exact rfl; exact rfl; exact rfl; exact rfl; exact rfl; exact rfl; exact rfl; intro g
    refine wl_nil ⟨rfl, (none, g), rfl, ?_⟩
    (simp only [gat, put, upd, Nat.reduceEqDiff, Nat.reduceAdd, reduceIte, n14, n47, cond_true, cond_false, List.nil_append, List.cons_append, Bool.and_true, Bool.and_false, Bool.true_and, Bool.false_and])
    (repeat (first | exact MSub.nil _ | refine MSub.pick (by (repeat first | exact .hd | apply Sel.tl | apply In.tl)) ?_ | exact MSub.refl _ | refine MSub.drop .hd ?_))
  repeat' (first
    | ((with_reducible apply wx_callp (f := 52)); exact rfl; exact rfl; exact rfl; (decide +kernel); exact rfl; (intro D ht w' h; exact row_at (some _) _ _ w'); exact fun _ => rfl)
    | ((with_reducible apply wl_v); exact rfl; (first | ((with_reducible apply vop_ok); exact rfl) | ((with_reducible apply v_fieldAddr); exact rfl) | ((with_reducible apply v_len); exact rfl) | ((with_reducible apply v_lens); exact rfl) | ((with_reducible apply v_load_box); exact rfl; (repeat first | exact .hd | apply Sel.tl | apply In.tl); exact rfl) | ((with_reducible apply v_loadw_box); exact rfl; (repeat first | exact .hd | apply Sel.tl | apply In.tl); exact rfl) | ((with_reducible apply v_loadn_box); exact rfl; (repeat first | exact .hd | apply Sel.tl | apply In.tl); exact rfl; exact rfl) | ((with_reducible apply v_build); exact rfl; exact rfl; exact rfl)))
    | ((with_reducible apply wl_gyes); exact rfl; exact rfl)
    | ((with_reducible apply wl_gno_b); exact rfl; exact rfl; exact rfl; exact rfl)
    | ((with_reducible apply wl_gno_u); exact rfl; exact rfl; exact rfl)
    | ((with_reducible apply wl_alloc); exact rfl; intro _)
    | ((with_reducible apply wl_storen_box); exact rfl; exact rfl; (repeat first | exact .hd | apply Sel.tl | apply In.tl); exact rfl; exact rfl; exact rfl)
    | ((with_reducible apply wl_putn_box); exact rfl; exact rfl; (repeat first | exact .hd | apply Sel.tl | apply In.tl); exact rfl; exact rfl; exact rfl; exact rfl)
    | ((with_reducible apply wl_buildSlice); exact rfl; exact rfl; exact rfl; exact rfl; exact rfl; exact rfl; exact rfl; intro _)
    | ((with_reducible apply wl_gsplit) <;> first | exact rfl | (intro hb; (replace hb := Tidy.out hb; try (exfalso; omega))))
    | (with_reducible first | apply wl_nil | apply thn_n | apply w_seq | apply w_region | apply w_ret | apply w_skip | apply w_exit | apply w_block | apply thn_r | apply thn_e | apply blk_n | apply blk_r | apply blk_e | apply wx_nil)
    | ((with_reducible apply w_cond_true); exact rfl)
    | ((with_reducible apply w_cond_false); exact rfl)
    | ((with_reducible apply w_cond) <;> first | exact rfl | (intro hb; (replace hb := Tidy.out hb; try (exfalso; omega))))
    | ((with_reducible apply blk_x); exact rfl)
    | ((with_reducible apply wx_v); exact rfl; exact rfl; exact rfl; (intro D ht; (first | ((with_reducible apply vop_ok); exact rfl) | ((with_reducible apply v_fieldAddr); exact rfl) | ((with_reducible apply v_len); exact rfl) | ((with_reducible apply v_lens); exact rfl) | ((with_reducible apply v_load_box); exact rfl; (repeat first | exact .hd | apply Sel.tl | apply In.tl); exact rfl) | ((with_reducible apply v_loadw_box); exact rfl; (repeat first | exact .hd | apply Sel.tl | apply In.tl); exact rfl) | ((with_reducible apply v_loadn_box); exact rfl; (repeat first | exact .hd | apply Sel.tl | apply In.tl); exact rfl; exact rfl) | ((with_reducible apply v_build); exact rfl; exact rfl; exact rfl))); exact fun _ => rfl)
    | ((with_reducible apply wx_gno); exact rfl; exact rfl; exact rfl; exact fun _ => rfl))
  refine wx_non rfl rfl rfl (fun D ht => ?_) ?_
  · have n18 : D 18 = false := ht.not
    have n47 : D 47 = false := ht.late (j := 47) (f := 60) (by decide +kernel)
    (simp only [gat, put, upd, Nat.reduceEqDiff, Nat.reduceAdd, reduceIte, n18, n47, cond_true, cond_false, List.nil_append, List.cons_append, Bool.and_true, Bool.and_false, Bool.true_and, Bool.false_and])
    (with_reducible apply wl_buildSlice); exact rfl; exact rfl; exact rfl; exact rfl; exact rfl; exact rfl; exact rfl; intro g
    refine wl_nil ⟨rfl, (none, g), rfl, ?_⟩
    (simp only [gat, put, upd, Nat.reduceEqDiff, Nat.reduceAdd, reduceIte, n18, n47, cond_true, cond_false, List.nil_append, List.cons_append, Bool.and_true, Bool.and_false, Bool.true_and, Bool.false_and])
    (repeat (first | exact MSub.nil _ | refine MSub.pick (by (repeat first | exact .hd | apply Sel.tl | apply In.tl)) ?_ | exact MSub.refl _ | refine MSub.drop .hd ?_))
  repeat' (first
    | ((with_reducible apply wx_callp (f := 52)); exact rfl; exact rfl; exact rfl; (decide +kernel); exact rfl; (intro D ht w' h; exact row_at (some _) _ _ w'); exact fun _ => rfl)
    | ((with_reducible apply wl_v); exact rfl; (first | ((with_reducible apply vop_ok); exact rfl) | ((with_reducible apply v_fieldAddr); exact rfl) | ((with_reducible apply v_len); exact rfl) | ((with_reducible apply v_lens); exact rfl) | ((with_reducible apply v_load_box); exact rfl; (repeat first | exact .hd | apply Sel.tl | apply In.tl); exact rfl) | ((with_reducible apply v_loadw_box); exact rfl; (repeat first | exact .hd | apply Sel.tl | apply In.tl); exact rfl) | ((with_reducible apply v_loadn_box); exact rfl; (repeat first | exact .hd | apply Sel.tl | apply In.tl); exact rfl; exact rfl) | ((with_reducible apply v_build); exact rfl; exact rfl; exact rfl)))
    | ((with_reducible apply wl_gyes); exact rfl; exact rfl)
    | ((with_reducible apply wl_gno_b); exact rfl; exact rfl; exact rfl; exact rfl)
    | ((with_reducible apply wl_gno_u); exact rfl; exact rfl; exact rfl)
    | ((with_reducible apply wl_alloc); exact rfl; intro _)
    | ((with_reducible apply wl_storen_box); exact rfl; exact rfl; (repeat first | exact .hd | apply Sel.tl | apply In.tl); exact rfl; exact rfl; exact rfl)
    | ((with_reducible apply wl_putn_box); exact rfl; exact rfl; (repeat first | exact .hd | apply Sel.tl | apply In.tl); exact rfl; exact rfl; exact rfl; exact rfl)
    | ((with_reducible apply wl_buildSlice); exact rfl; exact rfl; exact rfl; exact rfl; exact rfl; exact rfl; exact rfl; intro _)
    | ((with_reducible apply wl_gsplit) <;> first | exact rfl | (intro hb; (replace hb := Tidy.out hb; try (exfalso; omega))))
    | (with_reducible first | apply wl_nil | apply thn_n | apply w_seq | apply w_region | apply w_ret | apply w_skip | apply w_exit | apply w_block | apply thn_r | apply thn_e | apply blk_n | apply blk_r | apply blk_e | apply wx_nil)
    | ((with_reducible apply w_cond_true); exact rfl)
    | ((with_reducible apply w_cond_false); exact rfl)
    | ((with_reducible apply w_cond) <;> first | exact rfl | (intro hb; (replace hb := Tidy.out hb; try (exfalso; omega))))
    | ((with_reducible apply blk_x); exact rfl)
    | ((with_reducible apply wx_v); exact rfl; exact rfl; exact rfl; (intro D ht; (first | ((with_reducible apply vop_ok); exact rfl) | ((with_reducible apply v_fieldAddr); exact rfl) | ((with_reducible apply v_len); exact rfl) | ((with_reducible apply v_lens); exact rfl) | ((with_reducible apply v_load_box); exact rfl; (repeat first | exact .hd | apply Sel.tl | apply In.tl); exact rfl) | ((with_reducible apply v_loadw_box); exact rfl; (repeat first | exact .hd | apply Sel.tl | apply In.tl); exact rfl) | ((with_reducible apply v_loadn_box); exact rfl; (repeat first | exact .hd | apply Sel.tl | apply In.tl); exact rfl; exact rfl) | ((with_reducible apply v_build); exact rfl; exact rfl; exact rfl))); exact fun _ => rfl)
    | ((with_reducible apply wx_gno); exact rfl; exact rfl; exact rfl; exact fun _ => rfl))
  refine wx_non rfl rfl rfl (fun D ht => ?_) ?_
  · have n23 : D 23 = false := ht.not
    have n47 : D 47 = false := ht.late (j := 47) (f := 60) (by decide +kernel)
    (simp only [gat, put, upd, Nat.reduceEqDiff, Nat.reduceAdd, reduceIte, n23, n47, cond_true, cond_false, List.nil_append, List.cons_append, Bool.and_true, Bool.and_false, Bool.true_and, Bool.false_and])
    (with_reducible apply wl_buildSlice); exact rfl; exact rfl; exact rfl; exact rfl; exact rfl; exact rfl; exact rfl; intro g
    refine wl_nil ⟨rfl, (none, g), rfl, ?_⟩
    (simp only [gat, put, upd, Nat.reduceEqDiff, Nat.reduceAdd, reduceIte, n23, n47, cond_true, cond_false, List.nil_append, List.cons_append, Bool.and_true, Bool.and_false, Bool.true_and, Bool.false_and])
    (repeat (first | exact MSub.nil _ | refine MSub.pick (by (repeat first | exact .hd | apply Sel.tl | apply In.tl)) ?_ | exact MSub.refl _ | refine MSub.drop .hd ?_))
  repeat' (first
    | ((with_reducible apply wx_callp (f := 52)); exact rfl; exact rfl; exact rfl; (decide +kernel); exact rfl; (intro D ht w' h; exact row_at (some _) _ _ w'); exact fun _ => rfl)
    | ((with_reducible apply wl_v); exact rfl; (first | ((with_reducible apply vop_ok); exact rfl) | ((with_reducible apply v_fieldAddr); exact rfl) | ((with_reducible apply v_len); exact rfl) | ((with_reducible apply v_lens); exact rfl) | ((with_reducible apply v_load_box); exact rfl; (repeat first | exact .hd | apply Sel.tl | apply In.tl); exact rfl) | ((with_reducible apply v_loadw_box); exact rfl; (repeat first | exact .hd | apply Sel.tl | apply In.tl); exact rfl) | ((with_reducible apply v_loadn_box); exact rfl; (repeat first | exact .hd | apply Sel.tl | apply In.tl); exact rfl; exact rfl) | ((with_reducible apply v_build); exact rfl; exact rfl; exact rfl)))
    | ((with_reducible apply wl_gyes); exact rfl; exact rfl)
    | ((with_reducible apply wl_gno_b); exact rfl; exact rfl; exact rfl; exact rfl)
    | ((with_reducible apply wl_gno_u); exact rfl; exact rfl; exact rfl)
    | ((with_reducible apply wl_alloc); exact rfl; intro _)
    | ((with_reducible apply wl_storen_box); exact rfl; exact rfl; (repeat first | exact .hd | apply Sel.tl | apply In.tl); exact rfl; exact rfl; exact rfl)
    | ((with_reducible apply wl_putn_box); exact rfl; exact rfl; (repeat first | exact .hd | apply Sel.tl | apply In.tl); exact rfl; exact rfl; exact rfl; exact rfl)
    | ((with_reducible apply wl_buildSlice); exact rfl; exact rfl; exact rfl; exact rfl; exact rfl; exact rfl; exact rfl; intro _)
    | ((with_reducible apply wl_gsplit) <;> first | exact rfl | (intro hb; (replace hb := Tidy.out hb; try (exfalso; omega))))
    | (with_reducible first | apply wl_nil | apply thn_n | apply w_seq | apply w_region | apply w_ret | apply w_skip | apply w_exit | apply w_block | apply thn_r | apply thn_e | apply blk_n | apply blk_r | apply blk_e | apply wx_nil)
    | ((with_reducible apply w_cond_true); exact rfl)
    | ((with_reducible apply w_cond_false); exact rfl)
    | ((with_reducible apply w_cond) <;> first | exact rfl | (intro hb; (replace hb := Tidy.out hb; try (exfalso; omega))))
    | ((with_reducible apply blk_x); exact rfl)
    | ((with_reducible apply wx_v); exact rfl; exact rfl; exact rfl; (intro D ht; (first | ((with_reducible apply vop_ok); exact rfl) | ((with_reducible apply v_fieldAddr); exact rfl) | ((with_reducible apply v_len); exact rfl) | ((with_reducible apply v_lens); exact rfl) | ((with_reducible apply v_load_box); exact rfl; (repeat first | exact .hd | apply Sel.tl | apply In.tl); exact rfl) | ((with_reducible apply v_loadw_box); exact rfl; (repeat first | exact .hd | apply Sel.tl | apply In.tl); exact rfl) | ((with_reducible apply v_loadn_box); exact rfl; (repeat first | exact .hd | apply Sel.tl | apply In.tl); exact rfl; exact rfl) | ((with_reducible apply v_build); exact rfl; exact rfl; exact rfl))); exact fun _ => rfl)
    | ((with_reducible apply wx_gno); exact rfl; exact rfl; exact rfl; exact fun _ => rfl))
  refine wx_non rfl rfl rfl (fun D ht => ?_) ?_
  · have n28 : D 28 = false := ht.not
    have n47 : D 47 = false := ht.late (j := 47) (f := 60) (by decide +kernel)
    (simp only [gat, put, upd, Nat.reduceEqDiff, Nat.reduceAdd, reduceIte, n28, n47, cond_true, cond_false, List.nil_append, List.cons_append, Bool.and_true, Bool.and_false, Bool.true_and, Bool.false_and])
    (with_reducible apply wl_buildSlice); exact rfl; exact rfl; exact rfl; exact rfl; exact rfl; exact rfl; exact rfl; intro g
    refine wl_nil ⟨rfl, (none, g), rfl, ?_⟩
    (simp only [gat, put, upd, Nat.reduceEqDiff, Nat.reduceAdd, reduceIte, n28, n47, cond_true, cond_false, List.nil_append, List.cons_append, Bool.and_true, Bool.and_false, Bool.true_and, Bool.false_and])
    (repeat (first | exact MSub.nil _ | refine MSub.pick (by (repeat first | exact .hd | apply Sel.tl | apply In.tl)) ?_ | exact MSub.refl _ | refine MSub.drop .hd ?_))
  repeat' (first
    | ((with_reducible apply wx_callp (f := 52)); exact rfl; exact rfl; exact rfl; (decide +kernel); exact rfl; (intro D ht w' h; exact row_at (some _) _ _ w'); exact fun _ => rfl)
    | ((with_reducible apply wl_v); exact rfl; (first | ((with_reducible apply vop_ok); exact rfl) | ((with_reducible apply v_fieldAddr); exact rfl) | ((with_reducible apply v_len); exact rfl) | ((with_reducible apply v_lens); exact rfl) | ((with_reducible apply v_load_box); exact rfl; (repeat first | exact .hd | apply Sel.tl | apply In.tl); exact rfl) | ((with_reducible apply v_loadw_box); exact rfl; (repeat first | exact .hd | apply Sel.tl | apply In.tl); exact rfl) | ((with_reducible apply v_loadn_box); exact rfl; (repeat first | exact .hd | apply Sel.tl | apply In.tl); exact rfl; exact rfl) | ((with_reducible apply v_build); exact rfl; exact rfl; exact rfl)))
    | ((with_reducible apply wl_gyes); exact rfl; exact rfl)
    | ((with_reducible apply wl_gno_b); exact rfl; exact rfl; exact rfl; exact rfl)
    | ((with_reducible apply wl_gno_u); exact rfl; exact rfl; exact rfl)
    | ((with_reducible apply wl_alloc); exact rfl; intro _)
    | ((with_reducible apply wl_storen_box); exact rfl; exact rfl; (repeat first | exact .hd | apply Sel.tl | apply In.tl); exact rfl; exact rfl; exact rfl)
    | ((with_reducible apply wl_putn_box); exact rfl; exact rfl; (repeat first | exact .hd | apply Sel.tl | apply In.tl); exact rfl; exact rfl; exact rfl; exact rfl)
    | ((with_reducible apply wl_buildSlice); exact rfl; exact rfl; exact rfl; exact rfl; exact rfl; exact rfl; exact rfl; intro _)
    | ((with_reducible apply wl_gsplit) <;> first | exact rfl | (intro hb; (replace hb := Tidy.out hb; try (exfalso; omega))))
    | (with_reducible first | apply wl_nil | apply thn_n | apply w_seq | apply w_region | apply w_ret | apply w_skip | apply w_exit | apply w_block | apply thn_r | apply thn_e | apply blk_n | apply blk_r | apply blk_e | apply wx_nil)
    | ((with_reducible apply w_cond_true); exact rfl)
    | ((with_reducible apply w_cond_false); exact rfl)
    | ((with_reducible apply w_cond) <;> first | exact rfl | (intro hb; (replace hb := Tidy.out hb; try (exfalso; omega))))
    | ((with_reducible apply blk_x); exact rfl)
    | ((with_reducible apply wx_v); exact rfl; exact rfl; exact rfl; (intro D ht; (first | ((with_reducible apply vop_ok); exact rfl) | ((with_reducible apply v_fieldAddr); exact rfl) | ((with_reducible apply v_len); exact rfl) | ((with_reducible apply v_lens); exact rfl) | ((with_reducible apply v_load_box); exact rfl; (repeat first | exact .hd | apply Sel.tl | apply In.tl); exact rfl) | ((with_reducible apply v_loadw_box); exact rfl; (repeat first | exact .hd | apply Sel.tl | apply In.tl); exact rfl) | ((with_reducible apply v_loadn_box); exact rfl; (repeat first | exact .hd | apply Sel.tl | apply In.tl); exact rfl; exact rfl) | ((with_reducible apply v_build); exact rfl; exact rfl; exact rfl))); exact fun _ => rfl)
    | ((with_reducible apply wx_gno); exact rfl; exact rfl; exact rfl; exact fun _ => rfl))
  refine wx_non rfl rfl rfl (fun D ht => ?_) ?_
  · have n32 : D 32 = false := ht.not
    have n47 : D 47 = false := ht.late (j := 47) (f := 60) (by decide +kernel)
    (simp only [gat, put, upd, Nat.reduceEqDiff, Nat.reduceAdd, reduceIte, n32, n47, cond_true, cond_false, List.nil_append, List.cons_append, Bool.and_true, Bool.and_false, Bool.true_and, Bool.false_and])
    (with_reducible apply wl_buildSlice); exact rfl; exact rfl; exact rfl; exact rfl; exact rfl; exact rfl; exact rfl; intro g
    refine wl_nil ⟨rfl, (none, g), rfl, ?_⟩
    (simp only [gat, put, upd, Nat.reduceEqDiff, Nat.reduceAdd, reduceIte, n32, n47, cond_true, cond_false, List.nil_append, List.cons_append, Bool.and_true, Bool.and_false, Bool.true_and, Bool.false_and])
    (repeat (first | exact MSub.nil _ | refine MSub.pick (by (repeat first | exact .hd | apply Sel.tl | apply In.tl)) ?_ | exact MSub.refl _ | refine MSub.drop .hd ?_))
  repeat' (first
    | ((with_reducible apply wx_callp (f := 52)); exact rfl; exact rfl; exact rfl; (decide +kernel); exact rfl; (intro D ht w' h; exact row_at (some _) _ _ w'); exact fun _ => rfl)
    | ((with_reducible apply wl_v); exact rfl; (first | ((with_reducible apply vop_ok); exact rfl) | ((with_reducible apply v_fieldAddr); exact rfl) | ((with_reducible apply v_len); exact rfl) | ((with_reducible apply v_lens); exact rfl) | ((with_reducible apply v_load_box); exact rfl; (repeat first | exact .hd | apply Sel.tl | apply In.tl); exact rfl) | ((with_reducible apply v_loadw_box); exact rfl; (repeat first | exact .hd | apply Sel.tl | apply In.tl); exact rfl) | ((with_reducible apply v_loadn_box); exact rfl; (repeat first | exact .hd | apply Sel.tl | apply In.tl); exact rfl; exact rfl) | ((with_reducible apply v_build); exact rfl; exact rfl; exact rfl)))
    | ((with_reducible apply wl_gyes); exact rfl; exact rfl)
    | ((with_reducible apply wl_gno_b); exact rfl; exact rfl; exact rfl; exact rfl)
    | ((with_reducible apply wl_gno_u); exact rfl; exact rfl; exact rfl)
    | ((with_reducible apply wl_alloc); exact rfl; intro _)
    | ((with_reducible apply wl_storen_box); exact rfl; exact rfl; (repeat first | exact .hd | apply Sel.tl | apply In.tl); exact rfl; exact rfl; exact rfl)
    | ((with_reducible apply wl_putn_box); exact rfl; exact rfl; (repeat first | exact .hd | apply Sel.tl | apply In.tl); exact rfl; exact rfl; exact rfl; exact rfl)
    | ((with_reducible apply wl_buildSlice); exact rfl; exact rfl; exact rfl; exact rfl; exact rfl; exact rfl; exact rfl; intro _)
    | ((with_reducible apply wl_gsplit) <;> first | exact rfl | (intro hb; (replace hb := Tidy.out hb; try (exfalso; omega))))
    | (with_reducible first | apply wl_nil | apply thn_n | apply w_seq | apply w_region | apply w_ret | apply w_skip | apply w_exit | apply w_block | apply thn_r | apply thn_e | apply blk_n | apply blk_r | apply blk_e | apply wx_nil)
    | ((with_reducible apply w_cond_true); exact rfl)
    | ((with_reducible apply w_cond_false); exact rfl)
    | ((with_reducible apply w_cond) <;> first | exact rfl | (intro hb; (replace hb := Tidy.out hb; try (exfalso; omega))))
    | ((with_reducible apply blk_x); exact rfl)
    | ((with_reducible apply wx_v); exact rfl; exact rfl; exact rfl; (intro D ht; (first | ((with_reducible apply vop_ok); exact rfl) | ((with_reducible apply v_fieldAddr); exact rfl) | ((with_reducible apply v_len); exact rfl) | ((with_reducible apply v_lens); exact rfl) | ((with_reducible apply v_load_box); exact rfl; (repeat first | exact .hd | apply Sel.tl | apply In.tl); exact rfl) | ((with_reducible apply v_loadw_box); exact rfl; (repeat first | exact .hd | apply Sel.tl | apply In.tl); exact rfl) | ((with_reducible apply v_loadn_box); exact rfl; (repeat first | exact .hd | apply Sel.tl | apply In.tl); exact rfl; exact rfl) | ((with_reducible apply v_build); exact rfl; exact rfl; exact rfl))); exact fun _ => rfl)
    | ((with_reducible apply wx_gno); exact rfl; exact rfl; exact rfl; exact fun _ => rfl))
  refine wx_non rfl rfl rfl (fun D ht => ?_) ?_
  · have n36 : D 36 = false := ht.not
    have n47 : D 47 = false := ht.late (j := 47) (f := 60) (by decide +kernel)
    (simp only [gat, put, upd, Nat.reduceEqDiff, Nat.reduceAdd, reduceIte, n36, n47, cond_true, cond_false, List.nil_append, List.cons_append, Bool.and_true, Bool.and_false, Bool.true_and, Bool.false_and])
    (with_reducible apply wl_buildSlice); exact rfl; exact rfl; exact rfl; exact rfl; exact rfl; exact rfl; exact rfl; intro g
    refine wl_nil ⟨rfl, (none, g), rfl, ?_⟩
    (simp only [gat, put, upd, Nat.reduceEqDiff, Nat.reduceAdd, reduceIte, n36, n47, cond_true, cond_false, List.nil_append, List.cons_append, Bool.and_true, Bool.and_false, Bool.true_and, Bool.false_and])
    (repeat (first | exact MSub.nil _ | refine MSub.pick (by (repeat first | exact .hd | apply Sel.tl | apply In.tl)) ?_ | exact MSub.refl _ | refine MSub.drop .hd ?_))
  repeat' (first
    | ((with_reducible apply wx_callp (f := 52)); exact rfl; exact rfl; exact rfl; (decide +kernel); exact rfl; (intro D ht w' h; exact row_at (some _) _ _ w'); exact fun _ => rfl)
    | ((with_reducible apply wl_v); exact rfl; (first | ((with_reducible apply vop_ok); exact rfl) | ((with_reducible apply v_fieldAddr); exact rfl) | ((with_reducible apply v_len); exact rfl) | ((with_reducible apply v_lens); exact rfl) | ((with_reducible apply v_load_box); exact rfl; (repeat first | exact .hd | apply Sel.tl | apply In.tl); exact rfl) | ((with_reducible apply v_loadw_box); exact rfl; (repeat first | exact .hd | apply Sel.tl | apply In.tl); exact rfl) | ((with_reducible apply v_loadn_box); exact rfl; (repeat first | exact .hd | apply Sel.tl | apply In.tl); exact rfl; exact rfl) | ((with_reducible apply v_build); exact rfl; exact rfl; exact rfl)))
    | ((with_reducible apply wl_gyes); exact rfl; exact rfl)
    | ((with_reducible apply wl_gno_b); exact rfl; exact rfl; exact rfl; exact rfl)
    | ((with_reducible apply wl_gno_u); exact rfl; exact rfl; exact rfl)
    | ((with_reducible apply wl_alloc); exact rfl; intro _)
    | ((with_reducible apply wl_storen_box); exact rfl; exact rfl; (repeat first | exact .hd | apply Sel.tl | apply In.tl); exact rfl; exact rfl; exact rfl)
    | ((with_reducible apply wl_putn_box); exact rfl; exact rfl; (repeat first | exact .hd | apply Sel.tl | apply In.tl); exact rfl; exact rfl; exact rfl; exact rfl)
    | ((with_reducible apply wl_buildSlice); exact rfl; exact rfl; exact rfl; exact rfl; exact rfl; exact rfl; exact rfl; intro _)
    | ((with_reducible apply wl_gsplit) <;> first | exact rfl | (intro hb; (replace hb := Tidy.out hb; try (exfalso; omega))))
    | (with_reducible first | apply wl_nil | apply thn_n | apply w_seq | apply w_region | apply w_ret | apply w_skip | apply w_exit | apply w_block | apply thn_r | apply thn_e | apply blk_n | apply blk_r | apply blk_e | apply wx_nil)
    | ((with_reducible apply w_cond_true); exact rfl)
    | ((with_reducible apply w_cond_false); exact rfl)
    | ((with_reducible apply w_cond) <;> first | exact rfl | (intro hb; (replace hb := Tidy.out hb; try (exfalso; omega))))
    | ((with_reducible apply blk_x); exact rfl)
    | ((with_reducible apply wx_v); exact rfl; exact rfl; exact rfl; (intro D ht; (first | ((with_reducible apply vop_ok); exact rfl) | ((with_reducible apply v_fieldAddr); exact rfl) | ((with_reducible apply v_len); exact rfl) | ((with_reducible apply v_lens); exact rfl) | ((with_reducible apply v_load_box); exact rfl; (repeat first | exact .hd | apply Sel.tl | apply In.tl); exact rfl) | ((with_reducible apply v_loadw_box); exact rfl; (repeat first | exact .hd | apply Sel.tl | apply In.tl); exact rfl) | ((with_reducible apply v_loadn_box); exact rfl; (repeat first | exact .hd | apply Sel.tl | apply In.tl); exact rfl; exact rfl) | ((with_reducible apply v_build); exact rfl; exact rfl; exact rfl))); exact fun _ => rfl)
    | ((with_reducible apply wx_gno); exact rfl; exact rfl; exact rfl; exact fun _ => rfl))
  refine wx_non rfl rfl rfl (fun D ht => ?_) ?_
  · have n39 : D 39 = false := ht.not
    have n47 : D 47 = false := ht.late (j := 47) (f := 60) (by decide +kernel)
    (simp only [gat, put, upd, Nat.reduceEqDiff, Nat.reduceAdd, reduceIte, n39, n47, cond_true, cond_false, List.nil_append, List.cons_append, Bool.and_true, Bool.and_false, Bool.true_and, Bool.false_and])
    (with_reducible apply wl_buildSlice); exact rfl; exact rfl; exact rfl; exact rfl; exact rfl; exact rfl; exact rfl; intro g
    refine wl_nil ⟨rfl, (none, g), rfl, ?_⟩
    (simp only [gat, put, upd, Nat.reduceEqDiff, Nat.reduceAdd, reduceIte, n39, n47, cond_true, cond_false, List.nil_append, List.cons_append, Bool.and_true, Bool.and_false, Bool.true_and, Bool.false_and])
    (repeat (first | exact MSub.nil _ | refine MSub.pick (by (repeat first | exact .hd | apply Sel.tl | apply In.tl)) ?_ | exact MSub.refl _ | refine MSub.drop .hd ?_))
  repeat' (first
    | ((with_reducible apply wx_callp (f := 52)); exact rfl; exact rfl; exact rfl; (decide +kernel); exact rfl; (intro D ht w' h; exact row_at (some _) _ _ w'); exact fun _ => rfl)
    | ((with_reducible apply wl_v); exact rfl; (first | ((with_reducible apply vop_ok); exact rfl) | ((with_reducible apply v_fieldAddr); exact rfl) | ((with_reducible apply v_len); exact rfl) | ((with_reducible apply v_lens); exact rfl) | ((with_reducible apply v_load_box); exact rfl; (repeat first | exact .hd | apply Sel.tl | apply In.tl); exact rfl) | ((with_reducible apply v_loadw_box); exact rfl; (repeat first | exact .hd | apply Sel.tl | apply In.tl); exact rfl) | ((with_reducible apply v_loadn_box); exact rfl; (repeat first | exact .hd | apply Sel.tl | apply In.tl); exact rfl; exact rfl) | ((with_reducible apply v_build); exact rfl; exact rfl; exact rfl)))
    | ((with_reducible apply wl_gyes); exact rfl; exact rfl)
    | ((with_reducible apply wl_gno_b); exact rfl; exact rfl; exact rfl; exact rfl)
    | ((with_reducible apply wl_gno_u); exact rfl; exact rfl; exact rfl)
    | ((with_reducible apply wl_alloc); exact rfl; intro _)
    | ((with_reducible apply wl_storen_box); exact rfl; exact rfl; (repeat first | exact .hd | apply Sel.tl | apply In.tl); exact rfl; exact rfl; exact rfl)
    | ((with_reducible apply wl_putn_box); exact rfl; exact rfl; (repeat first | exact .hd | apply Sel.tl | apply In.tl); exact rfl; exact rfl; exact rfl; exact rfl)
    | ((with_reducible apply wl_buildSlice); exact rfl; exact rfl; exact rfl; exact rfl; exact rfl; exact rfl; exact rfl; intro _)
    | ((with_reducible apply wl_gsplit) <;> first | exact rfl | (intro hb; (replace hb := Tidy.out hb; try (exfalso; omega))))
    | (with_reducible first | apply wl_nil | apply thn_n | apply w_seq | apply w_region | apply w_ret | apply w_skip | apply w_exit | apply w_block | apply thn_r | apply thn_e | apply blk_n | apply blk_r | apply blk_e | apply wx_nil)
    | ((with_reducible apply w_cond_true); exact rfl)
    | ((with_reducible apply w_cond_false); exact rfl)
    | ((with_reducible apply w_cond) <;> first | exact rfl | (intro hb; (replace hb := Tidy.out hb; try (exfalso; omega))))
    | ((with_reducible apply blk_x); exact rfl)
    | ((with_reducible apply wx_v); exact rfl; exact rfl; exact rfl; (intro D ht; (first | ((with_reducible apply vop_ok); exact rfl) | ((with_reducible apply v_fieldAddr); exact rfl) | ((with_reducible apply v_len); exact rfl) | ((with_reducible apply v_lens); exact rfl) | ((with_reducible apply v_load_box); exact rfl; (repeat first | exact .hd | apply Sel.tl | apply In.tl); exact rfl) | ((with_reducible apply v_loadw_box); exact rfl; (repeat first | exact .hd | apply Sel.tl | apply In.tl); exact rfl) | ((with_reducible apply v_loadn_box); exact rfl; (repeat first | exact .hd | apply Sel.tl | apply In.tl); exact rfl; exact rfl) | ((with_reducible apply v_build); exact rfl; exact rfl; exact rfl))); exact fun _ => rfl)
    | ((with_reducible apply wx_gno); exact rfl; exact rfl; exact rfl; exact fun _ => rfl))
  refine wx_non rfl rfl rfl (fun D ht => ?_) ?_
  · have n45 : D 45 = false := ht.not
    have n47 : D 47 = false := ht.late (j := 47) (f := 60) (by decide +kernel)
    (simp only [gat, put, upd, Nat.reduceEqDiff, Nat.reduceAdd, reduceIte, n45, n47, cond_true, cond_false, List.nil_append, List.cons_append, Bool.and_true, Bool.and_false, Bool.true_and, Bool.false_and])
    (with_reducible apply wl_buildSlice); exact rfl; exact rfl; exact rfl; exact rfl; exact rfl; exact rfl; exact rfl; intro g
    refine wl_nil ⟨rfl, (none, g), rfl, ?_⟩
    (simp only [gat, put, upd, Nat.reduceEqDiff, Nat.reduceAdd, reduceIte, n45, n47, cond_true, cond_false, List.nil_append, List.cons_append, Bool.and_true, Bool.and_false, Bool.true_and, Bool.false_and])
    (repeat (first | exact MSub.nil _ | refine MSub.pick (by (repeat first | exact .hd | apply Sel.tl | apply In.tl)) ?_ | exact MSub.refl _ | refine MSub.drop .hd ?_))
  repeat' (first
    | ((with_reducible apply wx_callp (f := 52)); exact rfl; exact rfl; exact rfl; (decide +kernel); exact rfl; (intro D ht w' h; exact row_at (some _) _ _ w'); exact fun _ => rfl)
    | ((with_reducible apply wl_v); exact rfl; (first | ((with_reducible apply vop_ok); exact rfl) | ((with_reducible apply v_fieldAddr); exact rfl) | ((with_reducible apply v_len); exact rfl) | ((with_reducible apply v_lens); exact rfl) | ((with_reducible apply v_load_box); exact rfl; (repeat first | exact .hd | apply Sel.tl | apply In.tl); exact rfl) | ((with_reducible apply v_loadw_box); exact rfl; (repeat first | exact .hd | apply Sel.tl | apply In.tl); exact rfl) | ((with_reducible apply v_loadn_box); exact rfl; (repeat first | exact .hd | apply Sel.tl | apply In.tl); exact rfl; exact rfl) | ((with_reducible apply v_build); exact rfl; exact rfl; exact rfl)))
    | ((with_reducible apply wl_gyes); exact rfl; exact rfl)
    | ((with_reducible apply wl_gno_b); exact rfl; exact rfl; exact rfl; exact rfl)
    | ((with_reducible apply wl_gno_u); exact rfl; exact rfl; exact rfl)
    | ((with_reducible apply wl_alloc); exact rfl; intro _)
    | ((with_reducible apply wl_storen_box); exact rfl; exact rfl; (repeat first | exact .hd | apply Sel.tl | apply In.tl); exact rfl; exact rfl; exact rfl)
    | ((with_reducible apply wl_putn_box); exact rfl; exact rfl; (repeat first | exact .hd | apply Sel.tl | apply In.tl); exact rfl; exact rfl; exact rfl; exact rfl)
    | ((with_reducible apply wl_buildSlice); exact rfl; exact rfl; exact rfl; exact rfl; exact rfl; exact rfl; exact rfl; intro _)
    | ((with_reducible apply wl_gsplit) <;> first | exact rfl | (intro hb; (replace hb := Tidy.out hb; try (exfalso; omega))))
    | (with_reducible first | apply wl_nil | apply thn_n | apply w_seq | apply w_region | apply w_ret | apply w_skip | apply w_exit | apply w_block | apply thn_r | apply thn_e | apply blk_n | apply blk_r | apply blk_e | apply wx_nil)
    | ((with_reducible apply w_cond_true); exact rfl)
    | ((with_reducible apply w_cond_false); exact rfl)
    | ((with_reducible apply w_cond) <;> first | exact rfl | (intro hb; (replace hb := Tidy.out hb; try (exfalso; omega))))
    | ((with_reducible apply blk_x); exact rfl)
    | ((with_reducible apply wx_v); exact rfl; exact rfl; exact rfl; (intro D ht; (first | ((with_reducible apply vop_ok); exact rfl) | ((with_reducible apply v_fieldAddr); exact rfl) | ((with_reducible apply v_len); exact rfl) | ((with_reducible apply v_lens); exact rfl) | ((with_reducible apply v_load_box); exact rfl; (repeat first | exact .hd | apply Sel.tl | apply In.tl); exact rfl) | ((with_reducible apply v_loadw_box); exact rfl; (repeat first | exact .hd | apply Sel.tl | apply In.tl); exact rfl) | ((with_reducible apply v_loadn_box); exact rfl; (repeat first | exact .hd | apply Sel.tl | apply In.tl); exact rfl; exact rfl) | ((with_reducible apply v_build); exact rfl; exact rfl; exact rfl))); exact fun _ => rfl)
    | ((with_reducible apply wx_gno); exact rfl; exact rfl; exact rfl; exact fun _ => rfl))
  refine wx_non rfl rfl rfl (fun D ht => ?_) ?_
  · have n47 : D 47 = false := ht.not
    have n1 : D 1 = true := ht.early (i := 1) (f := 60) (by decide +kernel)
    have n4 : D 4 = true := ht.early (i := 4) (f := 60) (by decide +kernel)
    have n7 : D 7 = true := ht.early (i := 7) (f := 60) (by decide +kernel)
    have n11 : D 11 = true := ht.early (i := 11) (f := 60) (by decide +kernel)
    have n14 : D 14 = true := ht.early (i := 14) (f := 60) (by decide +kernel)
    have n18 : D 18 = true := ht.early (i := 18) (f := 60) (by decide +kernel)
    have n23 : D 23 = true := ht.early (i := 23) (f := 60) (by decide +kernel)
    have n28 : D 28 = true := ht.early (i := 28) (f := 60) (by decide +kernel)
    have n32 : D 32 = true := ht.early (i := 32) (f := 60) (by decide +kernel)
    have n36 : D 36 = true := ht.early (i := 36) (f := 60) (by decide +kernel)
    have n39 : D 39 = true := ht.early (i := 39) (f := 60) (by decide +kernel)
    have n45 : D 45 = true := ht.early (i := 45) (f := 60) (by decide +kernel)
    (simp only [gat, put, upd, Nat.reduceEqDiff, Nat.reduceAdd, reduceIte, n47, n1, n4, n7, n11, n14, n18, n23, n28, n32, n36, n39, n45, cond_true, cond_false, List.nil_append, List.cons_append, Bool.and_true, Bool.and_false, Bool.true_and, Bool.false_and])
    (with_reducible apply wl_buildSlice); exact rfl; exact rfl; exact rfl; exact rfl; exact rfl; exact rfl; exact rfl; intro g
    refine wl_nil ⟨rfl, (none, g), rfl, ?_⟩
    (simp only [gat, put, upd, Nat.reduceEqDiff, Nat.reduceAdd, reduceIte, n47, n1, n4, n7, n11, n14, n18, n23, n28, n32, n36, n39, n45, cond_true, cond_false, List.nil_append, List.cons_append, Bool.and_true, Bool.and_false, Bool.true_and, Bool.false_and])
    (repeat (first | exact MSub.nil _ | refine MSub.pick (by (repeat first | exact .hd | apply Sel.tl | apply In.tl)) ?_ | exact MSub.refl _ | refine MSub.drop .hd ?_))
  repeat' (first
    | ((with_reducible apply wx_callp (f := 52)); exact rfl; exact rfl; exact rfl; (decide +kernel); exact rfl; (intro D ht w' h; exact row_at (some _) _ _ w'); exact fun _ => rfl)
    | ((with_reducible apply wl_v); exact rfl; (first | ((with_reducible apply vop_ok); exact rfl) | ((with_reducible apply v_fieldAddr); exact rfl) | ((with_reducible apply v_len); exact rfl) | ((with_reducible apply v_lens); exact rfl) | ((with_reducible apply v_load_box); exact rfl; (repeat first | exact .hd | apply Sel.tl | apply In.tl); exact rfl) | ((with_reducible apply v_loadw_box); exact rfl; (repeat first | exact .hd | apply Sel.tl | apply In.tl); exact rfl) | ((with_reducible apply v_loadn_box); exact rfl; (repeat first | exact .hd | apply Sel.tl | apply In.tl); exact rfl; exact rfl) | ((with_reducible apply v_build); exact rfl; exact rfl; exact rfl)))
    | ((with_reducible apply wl_gyes); exact rfl; exact rfl)
    | ((with_reducible apply wl_gno_b); exact rfl; exact rfl; exact rfl; exact rfl)
    | ((with_reducible apply wl_gno_u); exact rfl; exact rfl; exact rfl)
    | ((with_reducible apply wl_alloc); exact rfl; intro _)
    | ((with_reducible apply wl_storen_box); exact rfl; exact rfl; (repeat first | exact .hd | apply Sel.tl | apply In.tl); exact rfl; exact rfl; exact rfl)
    | ((with_reducible apply wl_putn_box); exact rfl; exact rfl; (repeat first | exact .hd | apply Sel.tl | apply In.tl); exact rfl; exact rfl; exact rfl; exact rfl)
    | ((with_reducible apply wl_buildSlice); exact rfl; exact rfl; exact rfl; exact rfl; exact rfl; exact rfl; exact rfl; intro _)
    | ((with_reducible apply wl_gsplit) <;> first | exact rfl | (intro hb; (replace hb := Tidy.out hb; try (exfalso; omega))))
    | (with_reducible first | apply wl_nil | apply thn_n | apply w_seq | apply w_region | apply w_ret | apply w_skip | apply w_exit | apply w_block | apply thn_r | apply thn_e | apply blk_n | apply blk_r | apply blk_e | apply wx_nil)
    | ((with_reducible apply w_cond_true); exact rfl)
    | ((with_reducible apply w_cond_false); exact rfl)
    | ((with_reducible apply w_cond) <;> first | exact rfl | (intro hb; (replace hb := Tidy.out hb; try (exfalso; omega))))
    | ((with_reducible apply blk_x); exact rfl)
    | ((with_reducible apply wx_v); exact rfl; exact rfl; exact rfl; (intro D ht; (first | ((with_reducible apply vop_ok); exact rfl) | ((with_reducible apply v_fieldAddr); exact rfl) | ((with_reducible apply v_len); exact rfl) | ((with_reducible apply v_lens); exact rfl) | ((with_reducible apply v_load_box); exact rfl; (repeat first | exact .hd | apply Sel.tl | apply In.tl); exact rfl) | ((with_reducible apply v_loadw_box); exact rfl; (repeat first | exact .hd | apply Sel.tl | apply In.tl); exact rfl) | ((with_reducible apply v_loadn_box); exact rfl; (repeat first | exact .hd | apply Sel.tl | apply In.tl); exact rfl; exact rfl) | ((with_reducible apply v_build); exact rfl; exact rfl; exact rfl))); exact fun _ => rfl)
    | ((with_reducible apply wx_gno); exact rfl; exact rfl; exact rfl; exact fun _ => rfl))
  intro D hD
  have n1 := hD 1 (by decide)
  have n4 := hD 4 (by decide)
  have n7 := hD 7 (by decide)
  have n11 := hD 11 (by decide)
  have n14 := hD 14 (by decide)
  have n18 := hD 18 (by decide)
  have n23 := hD 23 (by decide)
  have n28 := hD 28 (by decide)
  have n32 := hD 32 (by decide)
  have n36 := hD 36 (by decide)
  have n39 := hD 39 (by decide)
  have n45 := hD 45 (by decide)
  have n47 := hD 47 (by decide)
  (simp only [gat, put, upd, Nat.reduceEqDiff, Nat.reduceAdd, reduceIte, n1, n4, n7, n11, n14, n18, n23, n28, n32, n36, n39, n45, n47, cond_true, cond_false, List.nil_append, List.cons_append, Bool.and_true, Bool.and_false, Bool.true_and, Bool.false_and])
  obtain ⟨vals, hvals⟩ : ∃ vals : List Value, vals = [.slice none 0 0, sl (some (γ 1).2) 1 1, sl (some (γ 4).2) 1 1, sl (some (γ 7).2) 1 1, sl (some (γ 11).2) 2 2, sl (some (γ 14).2) 1 1, sl (some (γ 18).2) 2 2, sl (some (γ 23).2) 3 3, sl (some (γ 28).2) 3 3, sl (some (γ 32).2) 2 2, sl (some (γ 36).2) 2 2, sl (some (γ 39).2) 1 1, sl (some (γ 45).2) 4 4] := ⟨_, rfl⟩
  obtain ⟨F, hF⟩ : ∃ F : List Blk, F = [Blk.own (some (γ 1).2) 40 11 1 1 ([xFive].flatMap encN), Blk.own (some (γ 4).2) 40 11 1 1 ([xRef8].flatMap encN), Blk.own (some (γ 7).2) 40 11 1 1 ([xWide].flatMap encN), Blk.own (some (γ 11).2) 40 11 2 2 ([xFive, xFive].flatMap encN), Blk.own (some (γ 14).2) 40 11 1 1 ([xPlus].flatMap encN), Blk.own (some (γ 18).2) 40 11 2 2 ([xFive, xPlus].flatMap encN), Blk.own (some (γ 23).2) 40 11 3 3 ([xFive, xRef8, xPlus].flatMap encN), Blk.own (some (γ 28).2) 40 11 3 3 ([xWide, xFive, xPlus].flatMap encN), Blk.own (some (γ 32).2) 40 11 2 2 ([xFive, xNeg8].flatMap encN), Blk.own (some (γ 36).2) 40 11 2 2 ([xWide, xNeg8].flatMap encN), Blk.own (some (γ 39).2) 40 11 1 1 ([xNeg8].flatMap encN), Blk.own (some (γ 45).2) 40 11 4 4 ([xFive, xFive, xFive, xPlus].flatMap encN)] := ⟨_, rfl⟩
  refine thn_n ?_
  refine w_msub (H' := .own (some (γ 47).2) 22 1 13 13 vals :: .box g1 40 (encN xFive) :: .box g2 40 (encN xRef8) :: .box g3 40 (encN xWide) :: .box g4 40 (encN xPlus) :: .box g5 40 (encN xNeg8) :: F) ?_ ?_
  · rw [hvals, hF]
    (repeat (first | exact MSub.nil _ | refine MSub.pick (by (repeat first | exact .hd | apply Sel.tl | apply In.tl)) ?_ | exact MSub.refl _ | refine MSub.drop .hd ?_))
  have hV : ∀ (i : Nat) (T : List Nd), xRows[i]? = some T → ∃ A c, vals[0 + i * 1]? = some (sl A T.length c) ∧ ∀ w', Mem w w' F → Reads w' (sl A T.length c) T.length (T.flatMap encN) := by
    intro i T hT
    have hi : i < 13 := (List.getElem?_eq_some_iff.1 hT).1
    subst hvals hF
    rcases (by omega : i = 0 ∨ i = 1 ∨ i = 2 ∨ i = 3 ∨ i = 4 ∨ i = 5 ∨ i = 6 ∨ i = 7 ∨ i = 8 ∨ i = 9 ∨ i = 10 ∨ i = 11 ∨ i = 12) with rfl | rfl | rfl | rfl | rfl | rfl | rfl | rfl | rfl | rfl | rfl | rfl | rfl
    · obtain rfl := Option.some.inj hT
      exact ⟨none, 0, rfl, fun w' _ => ⟨none, 0, rfl, Nat.le_refl _, Nat.zero_le _, fun h => absurd h (by decide)⟩⟩
    all_goals
      obtain rfl := Option.some.inj hT
      exact ⟨some _, _, rfl, fun w' hm => Reads.of_own (A := some _) hm (by (repeat first | exact .hd | apply Sel.tl | apply In.tl))⟩
  have hvl : vals.length = 13 := by rw [hvals]; rfl
  clear hvals hF
  generalize (γ 47).2 = g6
  repeat' (first
    | ((with_reducible apply wl_v); exact rfl; (first | ((with_reducible apply vop_ok); exact rfl) | ((with_reducible apply v_fieldAddr); exact rfl) | ((with_reducible apply v_len); exact rfl) | ((with_reducible apply v_lens); exact rfl) | ((with_reducible apply v_load_box); exact rfl; (repeat first | exact .hd | apply Sel.tl | apply In.tl); exact rfl) | ((with_reducible apply v_loadw_box); exact rfl; (repeat first | exact .hd | apply Sel.tl | apply In.tl); exact rfl) | ((with_reducible apply v_loadn_box); exact rfl; (repeat first | exact .hd | apply Sel.tl | apply In.tl); exact rfl; exact rfl) | ((with_reducible apply v_build); exact rfl; exact rfl; exact rfl)))
    | ((with_reducible apply wl_gyes); exact rfl; exact rfl)
    | ((with_reducible apply wl_gno_b); exact rfl; exact rfl; exact rfl; exact rfl)
    | ((with_reducible apply wl_gno_u); exact rfl; exact rfl; exact rfl)
    | ((with_reducible apply wl_alloc); exact rfl; intro _)
    | ((with_reducible apply wl_storen_box); exact rfl; exact rfl; (repeat first | exact .hd | apply Sel.tl | apply In.tl); exact rfl; exact rfl; exact rfl)
    | ((with_reducible apply wl_putn_box); exact rfl; exact rfl; (repeat first | exact .hd | apply Sel.tl | apply In.tl); exact rfl; exact rfl; exact rfl; exact rfl)
    | ((with_reducible apply wl_buildSlice); exact rfl; exact rfl; exact rfl; exact rfl; exact rfl; exact rfl; exact rfl; intro _)
    | ((with_reducible apply wl_gsplit) <;> first | exact rfl | (intro hb; (replace hb := Tidy.out hb; try (exfalso; omega))))
    | (with_reducible first | apply wl_nil | apply thn_n | apply w_seq | apply w_region | apply w_ret | apply w_skip | apply w_exit | apply w_block | apply thn_r | apply thn_e | apply blk_n | apply blk_r | apply blk_e)
    | ((with_reducible apply w_cond_true); exact rfl)
    | ((with_reducible apply w_cond_false); exact rfl)
    | ((with_reducible apply w_cond) <;> first | exact rfl | (intro hb; (replace hb := Tidy.out hb; try (exfalso; omega))))
    | ((with_reducible apply blk_x); exact rfl))
  refine w_loopK [1, 2, 3, 4, 5, 6] rfl (fun i : Nat => [(7, .int .i64 (i : Int))]) (fun _ => .own (some g6) 22 1 13 13 vals :: .box g1 40 (encN xFive) :: .box g2 40 (encN xRef8) :: .box g3 40 (encN xWide) :: .box g4 40 (encN xPlus) :: .box g5 40 (encN xNeg8) :: F) (fun i => i ≤ 13) (fun i => 13 - i) 0 (by omega) (by (repeat (first | exact Sub.nil _ | refine Sub.cons rfl ?_))) (by (repeat (first | exact MSub.nil _ | refine MSub.pick (by (repeat first | exact .hd | apply Sel.tl | apply In.tl)) ?_ | exact MSub.refl _ | refine MSub.drop .hd ?_))) ?_
  intro i hi
  by_cases hi1 : i < 13
  · have hmod : (i + 1) % 13 < 13 := Nat.mod_lt _ (by decide)
    have hTi := List.getElem?_eq_getElem (show i < xRows.length from hi1)
    have hTj := List.getElem?_eq_getElem (show (i + 1) % 13 < xRows.length from hmod)
    have wTi := xRows_wf _ (List.getElem_mem (show i < xRows.length from hi1))
    obtain ⟨Ai, ci, hvi, hRi⟩ := hV i _ hTi
    obtain ⟨Aj, cj, hvj, hRj⟩ := hV _ _ hTj
    generalize xRows[i]'(show i < xRows.length from hi1) = Ti at hvi hRi wTi
    generalize xRows[(i + 1) % 13]'(show (i + 1) % 13 < xRows.length from hmod) = Tj at hvj hRj
    clear hTi hTj
    have wj2 : ∀ L ∈ [Ti, [xFive]], ∀ n ∈ L, wfN n := by
      intro L hL
      simp only [List.mem_cons, List.not_mem_nil, or_false] at hL
      rcases hL with rfl | rfl
      · exact wTi
      · exact wf_one xFive_wf
    have wj1 : ∀ L ∈ [Ti], ∀ n ∈ L, wfN n := by
      intro L hL
      rw [List.mem_singleton.1 hL]; exact wTi
    repeat' (first
      | ((with_reducible apply wl_v); exact rfl; (first | ((with_reducible apply vop_ok); exact rfl) | ((with_reducible apply v_fieldAddr); exact rfl) | ((with_reducible apply v_len); exact rfl) | ((with_reducible apply v_lens); exact rfl) | ((with_reducible apply v_load_box); exact rfl; (repeat first | exact .hd | apply Sel.tl | apply In.tl); exact rfl) | ((with_reducible apply v_loadw_box); exact rfl; (repeat first | exact .hd | apply Sel.tl | apply In.tl); exact rfl) | ((with_reducible apply v_loadn_box); exact rfl; (repeat first | exact .hd | apply Sel.tl | apply In.tl); exact rfl; exact rfl) | ((with_reducible apply v_build); exact rfl; exact rfl; exact rfl)))
      | ((with_reducible apply wl_gyes); exact rfl; exact rfl)
      | ((with_reducible apply wl_gno_b); exact rfl; exact rfl; exact rfl; exact rfl)
      | ((with_reducible apply wl_gno_u); exact rfl; exact rfl; exact rfl)
      | ((with_reducible apply wl_alloc); exact rfl; intro _)
      | ((with_reducible apply wl_storen_box); exact rfl; exact rfl; (repeat first | exact .hd | apply Sel.tl | apply In.tl); exact rfl; exact rfl; exact rfl)
      | ((with_reducible apply wl_putn_box); exact rfl; exact rfl; (repeat first | exact .hd | apply Sel.tl | apply In.tl); exact rfl; exact rfl; exact rfl; exact rfl)
      | ((with_reducible apply wl_buildSlice); exact rfl; exact rfl; exact rfl; exact rfl; exact rfl; exact rfl; exact rfl; intro _)
      | ((with_reducible apply wl_gsplit) <;> first | exact rfl | (intro hb; (replace hb := Tidy.out hb; try (exfalso; omega))))
      | (with_reducible first | apply wl_nil | apply thn_n | apply w_seq | apply w_region | apply w_ret | apply w_skip | apply w_exit | apply w_block | apply thn_r | apply thn_e | apply blk_n | apply blk_r | apply blk_e)
      | ((with_reducible apply w_cond_true); exact rfl)
      | ((with_reducible apply w_cond_false); exact rfl)
      | ((with_reducible apply w_cond) <;> first | exact rfl | (intro hb; (replace hb := Tidy.out hb; try (exfalso; omega))))
      | ((with_reducible apply blk_x); exact rfl))
    refine w_loopK [1, 2, 3, 4, 5, 6, 7] rfl (fun k : Nat => [(8, .int .i64 ((k : Int) - 1))]) (fun _ => .own (some g6) 22 1 13 13 vals :: .box g1 40 (encN xFive) :: .box g2 40 (encN xRef8) :: .box g3 40 (encN xWide) :: .box g4 40 (encN xPlus) :: .box g5 40 (encN xNeg8) :: F) (fun k => k ≤ 5) (fun k => 5 - k) 0 (by omega) (by (repeat (first | exact Sub.nil _ | refine Sub.cons rfl ?_))) (by (repeat (first | exact MSub.nil _ | refine MSub.pick (by (repeat first | exact .hd | apply Sel.tl | apply In.tl)) ?_ | exact MSub.refl _ | refine MSub.drop .hd ?_))) ?_
    intro k hk
    by_cases hk1 : k < 5
    · repeat' (first
        | ((with_reducible apply wl_v); exact rfl; (first | ((with_reducible apply vop_ok); exact rfl) | ((with_reducible apply v_fieldAddr); exact rfl) | ((with_reducible apply v_len); exact rfl) | ((with_reducible apply v_lens); exact rfl) | ((with_reducible apply v_load_box); exact rfl; (repeat first | exact .hd | apply Sel.tl | apply In.tl); exact rfl) | ((with_reducible apply v_loadw_box); exact rfl; (repeat first | exact .hd | apply Sel.tl | apply In.tl); exact rfl) | ((with_reducible apply v_loadn_box); exact rfl; (repeat first | exact .hd | apply Sel.tl | apply In.tl); exact rfl; exact rfl) | ((with_reducible apply v_build); exact rfl; exact rfl; exact rfl)))
        | ((with_reducible apply wl_gyes); exact rfl; exact rfl)
        | ((with_reducible apply wl_gno_b); exact rfl; exact rfl; exact rfl; exact rfl)
        | ((with_reducible apply wl_gno_u); exact rfl; exact rfl; exact rfl)
        | ((with_reducible apply wl_alloc); exact rfl; intro _)
        | ((with_reducible apply wl_storen_box); exact rfl; exact rfl; (repeat first | exact .hd | apply Sel.tl | apply In.tl); exact rfl; exact rfl; exact rfl)
        | ((with_reducible apply wl_putn_box); exact rfl; exact rfl; (repeat first | exact .hd | apply Sel.tl | apply In.tl); exact rfl; exact rfl; exact rfl; exact rfl)
        | ((with_reducible apply wl_buildSlice); exact rfl; exact rfl; exact rfl; exact rfl; exact rfl; exact rfl; exact rfl; intro _)
        | ((with_reducible apply wl_gsplit) <;> first | exact rfl | (intro hb; (replace hb := Tidy.out hb; try (exfalso; omega))))
        | (with_reducible first | apply wl_nil | apply thn_n | apply w_seq | apply w_region | apply w_ret | apply w_skip | apply w_exit | apply w_block | apply thn_r | apply thn_e | apply blk_n | apply blk_r | apply blk_e)
        | ((with_reducible apply w_cond_true); exact rfl)
        | ((with_reducible apply w_cond_false); exact rfl)
        | ((with_reducible apply w_cond) <;> first | exact rfl | (intro hb; (replace hb := Tidy.out hb; try (exfalso; omega))))
        | ((with_reducible apply blk_x); exact rfl))
      refine w_nilrow 0 0 ?_
      refine w_nilrow 0 0 ?_
      refine w_nilrow 0 0 ?_
      refine w_drawXg (id := 11) (fun | 14 => some fun g => .slice (some ⟨g.2, 0, none⟩) 1 1 | 16 => some fun g => .slice (some ⟨g.2, 0, none⟩) 2 2 | 26 => some fun g => .slice (some ⟨g.2, 0, none⟩) 1 1 | _ => none)
        (fun (D : Done) (q : Nat → Gh) => (bif D 14 then Blk.own (some (q 14).2) 40 11 1 1 ([xFive].flatMap encN) else nilB) :: (bif D 16 then Blk.own (some (q 16).2) 22 1 2 2 [sl Ai Ti.length ci, sl (some (q 14).2) 1 1] else nilB) :: (bif D 26 then Blk.own (some (q 26).2) 22 1 1 1 [sl Ai Ti.length ci] else nilB) :: .own (some g6) 22 1 13 13 vals :: .box g1 40 (encN xFive) :: .box g2 40 (encN xRef8) :: .box g3 40 (encN xWide) :: .box g4 40 (encN xPlus) :: .box g5 40 (encN xNeg8) :: F) ?_ ?_ ?_ ?_
      · kernel_rfl
      · kernel_rfl
      · intro γ'
        (repeat (first | exact MSub.nil _ | refine MSub.pick (by (repeat first | exact .hd | apply Sel.tl | apply In.tl)) ?_ | exact MSub.refl _ | refine MSub.drop .hd ?_))
      intro γ'
      repeat' (first
        | ((with_reducible apply wx_v); exact rfl; exact rfl; exact rfl; (intro D ht; (with_reducible apply v_indexAddr); exact rfl; exact rfl; first | exact hi1 | exact hmod); exact fun _ => rfl)
        | ((with_reducible apply wx_v); exact rfl; exact rfl; exact rfl; (intro D ht; (with_reducible apply v_load_own); exact rfl; (repeat first | exact .hd | apply Sel.tl | apply In.tl); first | exact hvi | exact hvj); exact fun _ => rfl)
        | ((with_reducible apply wx_v (d := 129)); exact rfl; exact rfl; exact rfl; (intro D ht; (with_reducible apply v_succN); exact rfl; exact rfl; (simp only [maxLen]; omega)); exact fun _ => rfl)
        | ((with_reducible apply wx_v (d := 132)); exact rfl; exact rfl; exact rfl; (intro D ht; (with_reducible apply v_remN (b := 13)); exact rfl; exact rfl; decide); exact fun _ => rfl)
        | ((with_reducible apply wx_callp (f := 52)); exact rfl; exact rfl; exact rfl; (decide +kernel); exact rfl; (intro D ht w' h; exact row_at (some _) _ _ w'); exact fun _ => rfl)
        | ((with_reducible apply wx_callp (d := 97)); exact rfl; exact rfl; exact rfl; (decide +kernel); exact rfl; (intro D ht w' h; exact TreeMatches_at Ti wTi _ _ w' (hRi w' (MSub.use (by (repeat (first | exact MSub.nil _ | refine MSub.pick (by (repeat first | exact .hd | apply Sel.tl | apply In.tl)) ?_ | exact MSub.refl _ | refine MSub.drop .hd ?_))) h))); exact fun _ => rfl)
        | ((with_reducible apply wx_callp (d := 109)); exact rfl; exact rfl; exact rfl; (decide +kernel); exact rfl; (intro D ht w' h; have n14 : D 14 = true := ht.early (i := 14) (f := 60) (by decide +kernel); have n16 : D 16 = true := ht.early (i := 16) (f := 60) (by decide +kernel); simp only [n14, n16, gat, cond_true] at h; exact TreeJoins_at xPlus [Ti, [xFive]] xPlus_wf wj2 _ w' (readsLL2 (Reads.of_own (A := some (γ' 16).2) h (by (repeat first | exact .hd | apply Sel.tl | apply In.tl))) (hRi w' (MSub.use (by (repeat (first | exact MSub.nil _ | refine MSub.pick (by (repeat first | exact .hd | apply Sel.tl | apply In.tl)) ?_ | exact MSub.refl _ | refine MSub.drop .hd ?_))) h)) (Reads.of_own (A := some (γ' 14).2) h (by (repeat first | exact .hd | apply Sel.tl | apply In.tl))))); exact fun _ => rfl)
        | ((with_reducible apply wx_callp (d := 119)); exact rfl; exact rfl; exact rfl; (decide +kernel); exact rfl; (intro D ht w' h; have n26 : D 26 = true := ht.early (i := 26) (f := 60) (by decide +kernel); simp only [n26, gat, cond_true] at h; exact TreeJoins_at xNeg8 [Ti] xNeg8_wf wj1 _ w' (readsLL1 (Reads.of_own (A := some (γ' 26).2) h (by (repeat first | exact .hd | apply Sel.tl | apply In.tl))) (hRi w' (MSub.use (by (repeat (first | exact MSub.nil _ | refine MSub.pick (by (repeat first | exact .hd | apply Sel.tl | apply In.tl)) ?_ | exact MSub.refl _ | refine MSub.drop .hd ?_))) h)))); exact fun _ => rfl)
        | ((with_reducible apply wx_callp (d := 135)); exact rfl; exact rfl; exact rfl; (decide +kernel); exact rfl; (intro D ht w' h; exact TreeEquals_at Ti Tj _ _ w' (hRi w' (MSub.use (by (repeat (first | exact MSub.nil _ | refine MSub.pick (by (repeat first | exact .hd | apply Sel.tl | apply In.tl)) ?_ | exact MSub.refl _ | refine MSub.drop .hd ?_))) h)) (hRj w' (MSub.use (by (repeat (first | exact MSub.nil _ | refine MSub.pick (by (repeat first | exact .hd | apply Sel.tl | apply In.tl)) ?_ | exact MSub.refl _ | refine MSub.drop .hd ?_))) h))); exact fun _ => rfl)
        | ((with_reducible apply wl_v); exact rfl; (first | ((with_reducible apply vop_ok); exact rfl) | ((with_reducible apply v_fieldAddr); exact rfl) | ((with_reducible apply v_len); exact rfl) | ((with_reducible apply v_lens); exact rfl) | ((with_reducible apply v_load_box); exact rfl; (repeat first | exact .hd | apply Sel.tl | apply In.tl); exact rfl) | ((with_reducible apply v_loadw_box); exact rfl; (repeat first | exact .hd | apply Sel.tl | apply In.tl); exact rfl) | ((with_reducible apply v_loadn_box); exact rfl; (repeat first | exact .hd | apply Sel.tl | apply In.tl); exact rfl; exact rfl) | ((with_reducible apply v_build); exact rfl; exact rfl; exact rfl)))
        | ((with_reducible apply wl_gyes); exact rfl; exact rfl)
        | ((with_reducible apply wl_gno_b); exact rfl; exact rfl; exact rfl; exact rfl)
        | ((with_reducible apply wl_gno_u); exact rfl; exact rfl; exact rfl)
        | ((with_reducible apply wl_alloc); exact rfl; intro _)
        | ((with_reducible apply wl_storen_box); exact rfl; exact rfl; (repeat first | exact .hd | apply Sel.tl | apply In.tl); exact rfl; exact rfl; exact rfl)
        | ((with_reducible apply wl_putn_box); exact rfl; exact rfl; (repeat first | exact .hd | apply Sel.tl | apply In.tl); exact rfl; exact rfl; exact rfl; exact rfl)
        | ((with_reducible apply wl_buildSlice); exact rfl; exact rfl; exact rfl; exact rfl; exact rfl; exact rfl; exact rfl; intro _)
        | ((with_reducible apply wl_gsplit) <;> first | exact rfl | (intro hb; (replace hb := Tidy.out hb; try (exfalso; omega))))
        | (with_reducible first | apply wl_nil | apply thn_n | apply w_seq | apply w_region | apply w_ret | apply w_skip | apply w_exit | apply w_block | apply thn_r | apply thn_e | apply blk_n | apply blk_r | apply blk_e | apply wx_nil)
        | ((with_reducible apply w_cond_true); exact rfl)
        | ((with_reducible apply w_cond_false); exact rfl)
        | ((with_reducible apply w_cond) <;> first | exact rfl | (intro hb; (replace hb := Tidy.out hb; try (exfalso; omega))))
        | ((with_reducible apply blk_x); exact rfl)
        | ((with_reducible apply wx_v); exact rfl; exact rfl; exact rfl; (intro D ht; (first | ((with_reducible apply vop_ok); exact rfl) | ((with_reducible apply v_fieldAddr); exact rfl) | ((with_reducible apply v_len); exact rfl) | ((with_reducible apply v_lens); exact rfl) | ((with_reducible apply v_load_box); exact rfl; (repeat first | exact .hd | apply Sel.tl | apply In.tl); exact rfl) | ((with_reducible apply v_loadw_box); exact rfl; (repeat first | exact .hd | apply Sel.tl | apply In.tl); exact rfl) | ((with_reducible apply v_loadn_box); exact rfl; (repeat first | exact .hd | apply Sel.tl | apply In.tl); exact rfl; exact rfl) | ((with_reducible apply v_build); exact rfl; exact rfl; exact rfl))); exact fun _ => rfl)
        | ((with_reducible apply wx_gno); exact rfl; exact rfl; exact rfl; exact fun _ => rfl))
      refine wx_non rfl rfl rfl (fun D ht => ?_) ?_
      · have n14 : D 14 = false := ht.not
        have n16 : D 16 = false := ht.late (j := 16) (f := 60) (by decide +kernel)
        (simp only [gat, put, upd, Nat.reduceEqDiff, Nat.reduceAdd, reduceIte, n14, n16, cond_true, cond_false, List.nil_append, List.cons_append, Bool.and_true, Bool.and_false, Bool.true_and, Bool.false_and])
        (with_reducible apply wl_buildSlice); exact rfl; exact rfl; exact rfl; exact rfl; exact rfl; exact rfl; exact rfl; intro g
        refine wl_nil ⟨rfl, (none, g), rfl, ?_⟩
        (simp only [gat, put, upd, Nat.reduceEqDiff, Nat.reduceAdd, reduceIte, n14, n16, cond_true, cond_false, List.nil_append, List.cons_append, Bool.and_true, Bool.and_false, Bool.true_and, Bool.false_and])
        (repeat (first | exact MSub.nil _ | refine MSub.pick (by (repeat first | exact .hd | apply Sel.tl | apply In.tl)) ?_ | exact MSub.refl _ | refine MSub.drop .hd ?_))
      repeat' (first
        | ((with_reducible apply wx_v); exact rfl; exact rfl; exact rfl; (intro D ht; (with_reducible apply v_indexAddr); exact rfl; exact rfl; first | exact hi1 | exact hmod); exact fun _ => rfl)
        | ((with_reducible apply wx_v); exact rfl; exact rfl; exact rfl; (intro D ht; (with_reducible apply v_load_own); exact rfl; (repeat first | exact .hd | apply Sel.tl | apply In.tl); first | exact hvi | exact hvj); exact fun _ => rfl)
        | ((with_reducible apply wx_v (d := 129)); exact rfl; exact rfl; exact rfl; (intro D ht; (with_reducible apply v_succN); exact rfl; exact rfl; (simp only [maxLen]; omega)); exact fun _ => rfl)
        | ((with_reducible apply wx_v (d := 132)); exact rfl; exact rfl; exact rfl; (intro D ht; (with_reducible apply v_remN (b := 13)); exact rfl; exact rfl; decide); exact fun _ => rfl)
        | ((with_reducible apply wx_callp (f := 52)); exact rfl; exact rfl; exact rfl; (decide +kernel); exact rfl; (intro D ht w' h; exact row_at (some _) _ _ w'); exact fun _ => rfl)
        | ((with_reducible apply wx_callp (d := 97)); exact rfl; exact rfl; exact rfl; (decide +kernel); exact rfl; (intro D ht w' h; exact TreeMatches_at Ti wTi _ _ w' (hRi w' (MSub.use (by (repeat (first | exact MSub.nil _ | refine MSub.pick (by (repeat first | exact .hd | apply Sel.tl | apply In.tl)) ?_ | exact MSub.refl _ | refine MSub.drop .hd ?_))) h))); exact fun _ => rfl)
        | ((with_reducible apply wx_callp (d := 109)); exact rfl; exact rfl; exact rfl; (decide +kernel); exact rfl; (intro D ht w' h; have n14 : D 14 = true := ht.early (i := 14) (f := 60) (by decide +kernel); have n16 : D 16 = true := ht.early (i := 16) (f := 60) (by decide +kernel); simp only [n14, n16, gat, cond_true] at h; exact TreeJoins_at xPlus [Ti, [xFive]] xPlus_wf wj2 _ w' (readsLL2 (Reads.of_own (A := some (γ' 16).2) h (by (repeat first | exact .hd | apply Sel.tl | apply In.tl))) (hRi w' (MSub.use (by (repeat (first | exact MSub.nil _ | refine MSub.pick (by (repeat first | exact .hd | apply Sel.tl | apply In.tl)) ?_ | exact MSub.refl _ | refine MSub.drop .hd ?_))) h)) (Reads.of_own (A := some (γ' 14).2) h (by (repeat first | exact .hd | apply Sel.tl | apply In.tl))))); exact fun _ => rfl)
        | ((with_reducible apply wx_callp (d := 119)); exact rfl; exact rfl; exact rfl; (decide +kernel); exact rfl; (intro D ht w' h; have n26 : D 26 = true := ht.early (i := 26) (f := 60) (by decide +kernel); simp only [n26, gat, cond_true] at h; exact TreeJoins_at xNeg8 [Ti] xNeg8_wf wj1 _ w' (readsLL1 (Reads.of_own (A := some (γ' 26).2) h (by (repeat first | exact .hd | apply Sel.tl | apply In.tl))) (hRi w' (MSub.use (by (repeat (first | exact MSub.nil _ | refine MSub.pick (by (repeat first | exact .hd | apply Sel.tl | apply In.tl)) ?_ | exact MSub.refl _ | refine MSub.drop .hd ?_))) h)))); exact fun _ => rfl)
        | ((with_reducible apply wx_callp (d := 135)); exact rfl; exact rfl; exact rfl; (decide +kernel); exact rfl; (intro D ht w' h; exact TreeEquals_at Ti Tj _ _ w' (hRi w' (MSub.use (by (repeat (first | exact MSub.nil _ | refine MSub.pick (by (repeat first | exact .hd | apply Sel.tl | apply In.tl)) ?_ | exact MSub.refl _ | refine MSub.drop .hd ?_))) h)) (hRj w' (MSub.use (by (repeat (first | exact MSub.nil _ | refine MSub.pick (by (repeat first | exact .hd | apply Sel.tl | apply In.tl)) ?_ | exact MSub.refl _ | refine MSub.drop .hd ?_))) h))); exact fun _ => rfl)
        | ((with_reducible apply wl_v); exact rfl; (first | ((with_reducible apply vop_ok); exact rfl) | ((with_reducible apply v_fieldAddr); exact rfl) | ((with_reducible apply v_len); exact rfl) | ((with_reducible apply v_lens); exact rfl) | ((with_reducible apply v_load_box); exact rfl; (repeat first | exact .hd | apply Sel.tl | apply In.tl); exact rfl) | ((with_reducible apply v_loadw_box); exact rfl; (repeat first | exact .hd | apply Sel.tl | apply In.tl); exact rfl) | ((with_reducible apply v_loadn_box); exact rfl; (repeat first | exact .hd | apply Sel.tl | apply In.tl); exact rfl; exact rfl) | ((with_reducible apply v_build); exact rfl; exact rfl; exact rfl)))
        | ((with_reducible apply wl_gyes); exact rfl; exact rfl)
        | ((with_reducible apply wl_gno_b); exact rfl; exact rfl; exact rfl; exact rfl)
        | ((with_reducible apply wl_gno_u); exact rfl; exact rfl; exact rfl)
        | ((with_reducible apply wl_alloc); exact rfl; intro _)
        | ((with_reducible apply wl_storen_box); exact rfl; exact rfl; (repeat first | exact .hd | apply Sel.tl | apply In.tl); exact rfl; exact rfl; exact rfl)
        | ((with_reducible apply wl_putn_box); exact rfl; exact rfl; (repeat first | exact .hd | apply Sel.tl | apply In.tl); exact rfl; exact rfl; exact rfl; exact rfl)
        | ((with_reducible apply wl_buildSlice); exact rfl; exact rfl; exact rfl; exact rfl; exact rfl; exact rfl; exact rfl; intro _)
        | ((with_reducible apply wl_gsplit) <;> first | exact rfl | (intro hb; (replace hb := Tidy.out hb; try (exfalso; omega))))
        | (with_reducible first | apply wl_nil | apply thn_n | apply w_seq | apply w_region | apply w_ret | apply w_skip | apply w_exit | apply w_block | apply thn_r | apply thn_e | apply blk_n | apply blk_r | apply blk_e | apply wx_nil)
        | ((with_reducible apply w_cond_true); exact rfl)
        | ((with_reducible apply w_cond_false); exact rfl)
        | ((with_reducible apply w_cond) <;> first | exact rfl | (intro hb; (replace hb := Tidy.out hb; try (exfalso; omega))))
        | ((with_reducible apply blk_x); exact rfl)
        | ((with_reducible apply wx_v); exact rfl; exact rfl; exact rfl; (intro D ht; (first | ((with_reducible apply vop_ok); exact rfl) | ((with_reducible apply v_fieldAddr); exact rfl) | ((with_reducible apply v_len); exact rfl) | ((with_reducible apply v_lens); exact rfl) | ((with_reducible apply v_load_box); exact rfl; (repeat first | exact .hd | apply Sel.tl | apply In.tl); exact rfl) | ((with_reducible apply v_loadw_box); exact rfl; (repeat first | exact .hd | apply Sel.tl | apply In.tl); exact rfl) | ((with_reducible apply v_loadn_box); exact rfl; (repeat first | exact .hd | apply Sel.tl | apply In.tl); exact rfl; exact rfl) | ((with_reducible apply v_build); exact rfl; exact rfl; exact rfl))); exact fun _ => rfl)
        | ((with_reducible apply wx_gno); exact rfl; exact rfl; exact rfl; exact fun _ => rfl))
      refine wx_non rfl rfl rfl (fun D ht => ?_) ?_
      · have n16 : D 16 = false := ht.not
        have n14 : D 14 = true := ht.early (i := 14) (f := 60) (by decide +kernel)
        (simp only [gat, put, upd, Nat.reduceEqDiff, Nat.reduceAdd, reduceIte, n16, n14, cond_true, cond_false, List.nil_append, List.cons_append, Bool.and_true, Bool.and_false, Bool.true_and, Bool.false_and])
        (with_reducible apply wl_buildSlice); exact rfl; exact rfl; exact rfl; exact rfl; exact rfl; exact rfl; exact rfl; intro g
        refine wl_nil ⟨rfl, (none, g), rfl, ?_⟩
        (simp only [gat, put, upd, Nat.reduceEqDiff, Nat.reduceAdd, reduceIte, n16, n14, cond_true, cond_false, List.nil_append, List.cons_append, Bool.and_true, Bool.and_false, Bool.true_and, Bool.false_and])
        (repeat (first | exact MSub.nil _ | refine MSub.pick (by (repeat first | exact .hd | apply Sel.tl | apply In.tl)) ?_ | exact MSub.refl _ | refine MSub.drop .hd ?_))
      repeat' (first
        | ((with_reducible apply wx_v); exact rfl; exact rfl; exact rfl; (intro D ht; (with_reducible apply v_indexAddr); exact rfl; exact rfl; first | exact hi1 | exact hmod); exact fun _ => rfl)
        | ((with_reducible apply wx_v); exact rfl; exact rfl; exact rfl; (intro D ht; (with_reducible apply v_load_own); exact rfl; (repeat first | exact .hd | apply Sel.tl | apply In.tl); first | exact hvi | exact hvj); exact fun _ => rfl)
        | ((with_reducible apply wx_v (d := 129)); exact rfl; exact rfl; exact rfl; (intro D ht; (with_reducible apply v_succN); exact rfl; exact rfl; (simp only [maxLen]; omega)); exact fun _ => rfl)
        | ((with_reducible apply wx_v (d := 132)); exact rfl; exact rfl; exact rfl; (intro D ht; (with_reducible apply v_remN (b := 13)); exact rfl; exact rfl; decide); exact fun _ => rfl)
        | ((with_reducible apply wx_callp (f := 52)); exact rfl; exact rfl; exact rfl; (decide +kernel); exact rfl; (intro D ht w' h; exact row_at (some _) _ _ w'); exact fun _ => rfl)
        | ((with_reducible apply wx_callp (d := 97)); exact rfl; exact rfl; exact rfl; (decide +kernel); exact rfl; (intro D ht w' h; exact TreeMatches_at Ti wTi _ _ w' (hRi w' (MSub.use (by (repeat (first | exact MSub.nil _ | refine MSub.pick (by (repeat first | exact .hd | apply Sel.tl | apply In.tl)) ?_ | exact MSub.refl _ | refine MSub.drop .hd ?_))) h))); exact fun _ => rfl)
        | ((with_reducible apply wx_callp (d := 109)); exact rfl; exact rfl; exact rfl; (decide +kernel); exact rfl; (intro D ht w' h; have n14 : D 14 = true := ht.early (i := 14) (f := 60) (by decide +kernel); have n16 : D 16 = true := ht.early (i := 16) (f := 60) (by decide +kernel); simp only [n14, n16, gat, cond_true] at h; exact TreeJoins_at xPlus [Ti, [xFive]] xPlus_wf wj2 _ w' (readsLL2 (Reads.of_own (A := some (γ' 16).2) h (by (repeat first | exact .hd | apply Sel.tl | apply In.tl))) (hRi w' (MSub.use (by (repeat (first | exact MSub.nil _ | refine MSub.pick (by (repeat first | exact .hd | apply Sel.tl | apply In.tl)) ?_ | exact MSub.refl _ | refine MSub.drop .hd ?_))) h)) (Reads.of_own (A := some (γ' 14).2) h (by (repeat first | exact .hd | apply Sel.tl | apply In.tl))))); exact fun _ => rfl)
        | ((with_reducible apply wx_callp (d := 119)); exact rfl; exact rfl; exact rfl; (decide +kernel); exact rfl; (intro D ht w' h; have n26 : D 26 = true := ht.early (i := 26) (f := 60) (by decide +kernel); simp only [n26, gat, cond_true] at h; exact TreeJoins_at xNeg8 [Ti] xNeg8_wf wj1 _ w' (readsLL1 (Reads.of_own (A := some (γ' 26).2) h (by (repeat first | exact .hd | apply Sel.tl | apply In.tl))) (hRi w' (MSub.use (by (repeat (first | exact MSub.nil _ | refine MSub.pick (by (repeat first | exact .hd | apply Sel.tl | apply In.tl)) ?_ | exact MSub.refl _ | refine MSub.drop .hd ?_))) h)))); exact fun _ => rfl)
        | ((with_reducible apply wx_callp (d := 135)); exact rfl; exact rfl; exact rfl; (decide +kernel); exact rfl; (intro D ht w' h; exact TreeEquals_at Ti Tj _ _ w' (hRi w' (MSub.use (by (repeat (first | exact MSub.nil _ | refine MSub.pick (by (repeat first | exact .hd | apply Sel.tl | apply In.tl)) ?_ | exact MSub.refl _ | refine MSub.drop .hd ?_))) h)) (hRj w' (MSub.use (by (repeat (first | exact MSub.nil _ | refine MSub.pick (by (repeat first | exact .hd | apply Sel.tl | apply In.tl)) ?_ | exact MSub.refl _ | refine MSub.drop .hd ?_))) h))); exact fun _ => rfl)
        | ((with_reducible apply wl_v); exact rfl; (first | ((with_reducible apply vop_ok); exact rfl) | ((with_reducible apply v_fieldAddr); exact rfl) | ((with_reducible apply v_len); exact rfl) | ((with_reducible apply v_lens); exact rfl) | ((with_reducible apply v_load_box); exact rfl; (repeat first | exact .hd | apply Sel.tl | apply In.tl); exact rfl) | ((with_reducible apply v_loadw_box); exact rfl; (repeat first | exact .hd | apply Sel.tl | apply In.tl); exact rfl) | ((with_reducible apply v_loadn_box); exact rfl; (repeat first | exact .hd | apply Sel.tl | apply In.tl); exact rfl; exact rfl) | ((with_reducible apply v_build); exact rfl; exact rfl; exact rfl)))
        | ((with_reducible apply wl_gyes); exact rfl; exact rfl)
        | ((with_reducible apply wl_gno_b); exact rfl; exact rfl; exact rfl; exact rfl)
        | ((with_reducible apply wl_gno_u); exact rfl; exact rfl; exact rfl)
        | ((with_reducible apply wl_alloc); exact rfl; intro _)
        | ((with_reducible apply wl_storen_box); exact rfl; exact rfl; (repeat first | exact .hd | apply Sel.tl | apply In.tl); exact rfl; exact rfl; exact rfl)
        | ((with_reducible apply wl_putn_box); exact rfl; exact rfl; (repeat first | exact .hd | apply Sel.tl | apply In.tl); exact rfl; exact rfl; exact rfl; exact rfl)
        | ((with_reducible apply wl_buildSlice); exact rfl; exact rfl; exact rfl; exact rfl; exact rfl; exact rfl; exact rfl; intro _)
        | ((with_reducible apply wl_gsplit) <;> first | exact rfl | (intro hb; (replace hb := Tidy.out hb; try (exfalso; omega))))
        | (with_reducible first | apply wl_nil | apply thn_n | apply w_seq | apply w_region | apply w_ret | apply w_skip | apply w_exit | apply w_block | apply thn_r | apply thn_e | apply blk_n | apply blk_r | apply blk_e | apply wx_nil)
        | ((with_reducible apply w_cond_true); exact rfl)
        | ((with_reducible apply w_cond_false); exact rfl)
        | ((with_reducible apply w_cond) <;> first | exact rfl | (intro hb; (replace hb := Tidy.out hb; try (exfalso; omega))))
        | ((with_reducible apply blk_x); exact rfl)
        | ((with_reducible apply wx_v); exact rfl; exact rfl; exact rfl; (intro D ht; (first | ((with_reducible apply vop_ok); exact rfl) | ((with_reducible apply v_fieldAddr); exact rfl) | ((with_reducible apply v_len); exact rfl) | ((with_reducible apply v_lens); exact rfl) | ((with_reducible apply v_load_box); exact rfl; (repeat first | exact .hd | apply Sel.tl | apply In.tl); exact rfl) | ((with_reducible apply v_loadw_box); exact rfl; (repeat first | exact .hd | apply Sel.tl | apply In.tl); exact rfl) | ((with_reducible apply v_loadn_box); exact rfl; (repeat first | exact .hd | apply Sel.tl | apply In.tl); exact rfl; exact rfl) | ((with_reducible apply v_build); exact rfl; exact rfl; exact rfl))); exact fun _ => rfl)
        | ((with_reducible apply wx_gno); exact rfl; exact rfl; exact rfl; exact fun _ => rfl))
      refine wx_non rfl rfl rfl (fun D ht => ?_) ?_
      · have n26 : D 26 = false := ht.not
        (simp only [gat, put, upd, Nat.reduceEqDiff, Nat.reduceAdd, reduceIte, n26, cond_true, cond_false, List.nil_append, List.cons_append, Bool.and_true, Bool.and_false, Bool.true_and, Bool.false_and])
        (with_reducible apply wl_buildSlice); exact rfl; exact rfl; exact rfl; exact rfl; exact rfl; exact rfl; exact rfl; intro g
        refine wl_nil ⟨rfl, (none, g), rfl, ?_⟩
        (simp only [gat, put, upd, Nat.reduceEqDiff, Nat.reduceAdd, reduceIte, n26, cond_true, cond_false, List.nil_append, List.cons_append, Bool.and_true, Bool.and_false, Bool.true_and, Bool.false_and])
        (repeat (first | exact MSub.nil _ | refine MSub.pick (by (repeat first | exact .hd | apply Sel.tl | apply In.tl)) ?_ | exact MSub.refl _ | refine MSub.drop .hd ?_))
      repeat' (first
        | ((with_reducible apply wx_v); exact rfl; exact rfl; exact rfl; (intro D ht; (with_reducible apply v_indexAddr); exact rfl; exact rfl; first | exact hi1 | exact hmod); exact fun _ => rfl)
        | ((with_reducible apply wx_v); exact rfl; exact rfl; exact rfl; (intro D ht; (with_reducible apply v_load_own); exact rfl; (repeat first | exact .hd | apply Sel.tl | apply In.tl); first | exact hvi | exact hvj); exact fun _ => rfl)
        | ((with_reducible apply wx_v (d := 129)); exact rfl; exact rfl; exact rfl; (intro D ht; (with_reducible apply v_succN); exact rfl; exact rfl; (simp only [maxLen]; omega)); exact fun _ => rfl)
        | ((with_reducible apply wx_v (d := 132)); exact rfl; exact rfl; exact rfl; (intro D ht; (with_reducible apply v_remN (b := 13)); exact rfl; exact rfl; decide); exact fun _ => rfl)
        | ((with_reducible apply wx_callp (f := 52)); exact rfl; exact rfl; exact rfl; (decide +kernel); exact rfl; (intro D ht w' h; exact row_at (some _) _ _ w'); exact fun _ => rfl)
        | ((with_reducible apply wx_callp (d := 97)); exact rfl; exact rfl; exact rfl; (decide +kernel); exact rfl; (intro D ht w' h; exact TreeMatches_at Ti wTi _ _ w' (hRi w' (MSub.use (by (repeat (first | exact MSub.nil _ | refine MSub.pick (by (repeat first | exact .hd | apply Sel.tl | apply In.tl)) ?_ | exact MSub.refl _ | refine MSub.drop .hd ?_))) h))); exact fun _ => rfl)
        | ((with_reducible apply wx_callp (d := 109)); exact rfl; exact rfl; exact rfl; (decide +kernel); exact rfl; (intro D ht w' h; have n14 : D 14 = true := ht.early (i := 14) (f := 60) (by decide +kernel); have n16 : D 16 = true := ht.early (i := 16) (f := 60) (by decide +kernel); simp only [n14, n16, gat, cond_true] at h; exact TreeJoins_at xPlus [Ti, [xFive]] xPlus_wf wj2 _ w' (readsLL2 (Reads.of_own (A := some (γ' 16).2) h (by (repeat first | exact .hd | apply Sel.tl | apply In.tl))) (hRi w' (MSub.use (by (repeat (first | exact MSub.nil _ | refine MSub.pick (by (repeat first | exact .hd | apply Sel.tl | apply In.tl)) ?_ | exact MSub.refl _ | refine MSub.drop .hd ?_))) h)) (Reads.of_own (A := some (γ' 14).2) h (by (repeat first | exact .hd | apply Sel.tl | apply In.tl))))); exact fun _ => rfl)
        | ((with_reducible apply wx_callp (d := 119)); exact rfl; exact rfl; exact rfl; (decide +kernel); exact rfl; (intro D ht w' h; have n26 : D 26 = true := ht.early (i := 26) (f := 60) (by decide +kernel); simp only [n26, gat, cond_true] at h; exact TreeJoins_at xNeg8 [Ti] xNeg8_wf wj1 _ w' (readsLL1 (Reads.of_own (A := some (γ' 26).2) h (by (repeat first | exact .hd | apply Sel.tl | apply In.tl))) (hRi w' (MSub.use (by (repeat (first | exact MSub.nil _ | refine MSub.pick (by (repeat first | exact .hd | apply Sel.tl | apply In.tl)) ?_ | exact MSub.refl _ | refine MSub.drop .hd ?_))) h)))); exact fun _ => rfl)
        | ((with_reducible apply wx_callp (d := 135)); exact rfl; exact rfl; exact rfl; (decide +kernel); exact rfl; (intro D ht w' h; exact TreeEquals_at Ti Tj _ _ w' (hRi w' (MSub.use (by (repeat (first | exact MSub.nil _ | refine MSub.pick (by (repeat first | exact .hd | apply Sel.tl | apply In.tl)) ?_ | exact MSub.refl _ | refine MSub.drop .hd ?_))) h)) (hRj w' (MSub.use (by (repeat (first | exact MSub.nil _ | refine MSub.pick (by (repeat first | exact .hd | apply Sel.tl | apply In.tl)) ?_ | exact MSub.refl _ | refine MSub.drop .hd ?_))) h))); exact fun _ => rfl)
        | ((with_reducible apply wl_v); exact rfl; (first | ((with_reducible apply vop_ok); exact rfl) | ((with_reducible apply v_fieldAddr); exact rfl) | ((with_reducible apply v_len); exact rfl) | ((with_reducible apply v_lens); exact rfl) | ((with_reducible apply v_load_box); exact rfl; (repeat first | exact .hd | apply Sel.tl | apply In.tl); exact rfl) | ((with_reducible apply v_loadw_box); exact rfl; (repeat first | exact .hd | apply Sel.tl | apply In.tl); exact rfl) | ((with_reducible apply v_loadn_box); exact rfl; (repeat first | exact .hd | apply Sel.tl | apply In.tl); exact rfl; exact rfl) | ((with_reducible apply v_build); exact rfl; exact rfl; exact rfl)))
        | ((with_reducible apply wl_gyes); exact rfl; exact rfl)
        | ((with_reducible apply wl_gno_b); exact rfl; exact rfl; exact rfl; exact rfl)
        | ((with_reducible apply wl_gno_u); exact rfl; exact rfl; exact rfl)
        | ((with_reducible apply wl_alloc); exact rfl; intro _)
        | ((with_reducible apply wl_storen_box); exact rfl; exact rfl; (repeat first | exact .hd | apply Sel.tl | apply In.tl); exact rfl; exact rfl; exact rfl)
        | ((with_reducible apply wl_putn_box); exact rfl; exact rfl; (repeat first | exact .hd | apply Sel.tl | apply In.tl); exact rfl; exact rfl; exact rfl; exact rfl)
        | ((with_reducible apply wl_buildSlice); exact rfl; exact rfl; exact rfl; exact rfl; exact rfl; exact rfl; exact rfl; intro _)
        | ((with_reducible apply wl_gsplit) <;> first | exact rfl | (intro hb; (replace hb := Tidy.out hb; try (exfalso; omega))))
        | (with_reducible first | apply wl_nil | apply thn_n | apply w_seq | apply w_region | apply w_ret | apply w_skip | apply w_exit | apply w_block | apply thn_r | apply thn_e | apply blk_n | apply blk_r | apply blk_e | apply wx_nil)
        | ((with_reducible apply w_cond_true); exact rfl)
        | ((with_reducible apply w_cond_false); exact rfl)
        | ((with_reducible apply w_cond) <;> first | exact rfl | (intro hb; (replace hb := Tidy.out hb; try (exfalso; omega))))
        | ((with_reducible apply blk_x); exact rfl)
        | ((with_reducible apply wx_v); exact rfl; exact rfl; exact rfl; (intro D ht; (first | ((with_reducible apply vop_ok); exact rfl) | ((with_reducible apply v_fieldAddr); exact rfl) | ((with_reducible apply v_len); exact rfl) | ((with_reducible apply v_lens); exact rfl) | ((with_reducible apply v_load_box); exact rfl; (repeat first | exact .hd | apply Sel.tl | apply In.tl); exact rfl) | ((with_reducible apply v_loadw_box); exact rfl; (repeat first | exact .hd | apply Sel.tl | apply In.tl); exact rfl) | ((with_reducible apply v_loadn_box); exact rfl; (repeat first | exact .hd | apply Sel.tl | apply In.tl); exact rfl; exact rfl) | ((with_reducible apply v_build); exact rfl; exact rfl; exact rfl))); exact fun _ => rfl)
        | ((with_reducible apply wx_gno); exact rfl; exact rfl; exact rfl; exact fun _ => rfl))
      intro D hD
      have n14 := hD 14 (by decide)
      have n16 := hD 16 (by decide)
      have n26 := hD 26 (by decide)
      (simp only [gat, put, upd, Nat.reduceEqDiff, Nat.reduceAdd, reduceIte, n14, n16, n26, cond_true, cond_false, List.nil_append, List.cons_append, Bool.and_true, Bool.and_false, Bool.true_and, Bool.false_and])
      repeat' (first
        | ((with_reducible apply wl_v (d := 91)); exact rfl; (with_reducible apply v_addw_id (c := ((k + 1 : Nat) : Int) - 1)); exact rfl; exact rfl; (rw [I64.wrap ⟨by omega, by omega⟩]; omega))
        | ((with_reducible apply wl_v); exact rfl; (first | ((with_reducible apply vop_ok); exact rfl) | ((with_reducible apply v_fieldAddr); exact rfl) | ((with_reducible apply v_len); exact rfl) | ((with_reducible apply v_lens); exact rfl) | ((with_reducible apply v_load_box); exact rfl; (repeat first | exact .hd | apply Sel.tl | apply In.tl); exact rfl) | ((with_reducible apply v_loadw_box); exact rfl; (repeat first | exact .hd | apply Sel.tl | apply In.tl); exact rfl) | ((with_reducible apply v_loadn_box); exact rfl; (repeat first | exact .hd | apply Sel.tl | apply In.tl); exact rfl; exact rfl) | ((with_reducible apply v_build); exact rfl; exact rfl; exact rfl)))
        | ((with_reducible apply wl_gyes); exact rfl; exact rfl)
        | ((with_reducible apply wl_gno_b); exact rfl; exact rfl; exact rfl; exact rfl)
        | ((with_reducible apply wl_gno_u); exact rfl; exact rfl; exact rfl)
        | ((with_reducible apply wl_alloc); exact rfl; intro _)
        | ((with_reducible apply wl_storen_box); exact rfl; exact rfl; (repeat first | exact .hd | apply Sel.tl | apply In.tl); exact rfl; exact rfl; exact rfl)
        | ((with_reducible apply wl_putn_box); exact rfl; exact rfl; (repeat first | exact .hd | apply Sel.tl | apply In.tl); exact rfl; exact rfl; exact rfl; exact rfl)
        | ((with_reducible apply wl_buildSlice); exact rfl; exact rfl; exact rfl; exact rfl; exact rfl; exact rfl; exact rfl; intro _)
        | ((with_reducible apply wl_gsplit) <;> first | exact rfl | (intro hb; (replace hb := Tidy.out hb; try (exfalso; omega))))
        | (with_reducible first | apply wl_nil | apply thn_n | apply w_seq | apply w_region | apply w_ret | apply w_skip | apply w_exit | apply w_block | apply thn_r | apply thn_e | apply blk_n | apply blk_r | apply blk_e)
        | ((with_reducible apply w_cond_true); exact rfl)
        | ((with_reducible apply w_cond_false); exact rfl)
        | ((with_reducible apply w_cond) <;> first | exact rfl | (intro hb; (replace hb := Tidy.out hb; try (exfalso; omega))))
        | ((with_reducible apply blk_x); exact rfl))
      refine ⟨k + 1, ?_, (by first | omega | (dsimp only; omega)), (by (repeat (first | exact Sub.nil _ | refine Sub.cons rfl ?_))), (by (repeat (first | exact Sub.nil _ | refine Sub.cons rfl ?_))), (by (repeat (first | exact MSub.nil _ | refine MSub.pick (by (repeat first | exact .hd | apply Sel.tl | apply In.tl)) ?_ | exact MSub.refl _ | refine MSub.drop .hd ?_)))⟩
      omega
    · repeat' (first
        | ((with_reducible apply wl_v); exact rfl; (first | ((with_reducible apply vop_ok); exact rfl) | ((with_reducible apply v_fieldAddr); exact rfl) | ((with_reducible apply v_len); exact rfl) | ((with_reducible apply v_lens); exact rfl) | ((with_reducible apply v_load_box); exact rfl; (repeat first | exact .hd | apply Sel.tl | apply In.tl); exact rfl) | ((with_reducible apply v_loadw_box); exact rfl; (repeat first | exact .hd | apply Sel.tl | apply In.tl); exact rfl) | ((with_reducible apply v_loadn_box); exact rfl; (repeat first | exact .hd | apply Sel.tl | apply In.tl); exact rfl; exact rfl) | ((with_reducible apply v_build); exact rfl; exact rfl; exact rfl)))
        | ((with_reducible apply wl_gyes); exact rfl; exact rfl)
        | ((with_reducible apply wl_gno_b); exact rfl; exact rfl; exact rfl; exact rfl)
        | ((with_reducible apply wl_gno_u); exact rfl; exact rfl; exact rfl)
        | ((with_reducible apply wl_alloc); exact rfl; intro _)
        | ((with_reducible apply wl_storen_box); exact rfl; exact rfl; (repeat first | exact .hd | apply Sel.tl | apply In.tl); exact rfl; exact rfl; exact rfl)
        | ((with_reducible apply wl_putn_box); exact rfl; exact rfl; (repeat first | exact .hd | apply Sel.tl | apply In.tl); exact rfl; exact rfl; exact rfl; exact rfl)
        | ((with_reducible apply wl_buildSlice); exact rfl; exact rfl; exact rfl; exact rfl; exact rfl; exact rfl; exact rfl; intro _)
        | ((with_reducible apply wl_gsplit) <;> first | exact rfl | (intro hb; (replace hb := Tidy.out hb; try (exfalso; omega))))
        | (with_reducible first | apply wl_nil | apply thn_n | apply w_seq | apply w_region | apply w_ret | apply w_skip | apply w_exit | apply w_block | apply thn_r | apply thn_e | apply blk_n | apply blk_r | apply blk_e)
        | ((with_reducible apply w_cond_true); exact rfl)
        | ((with_reducible apply w_cond_false); exact rfl)
        | ((with_reducible apply w_cond) <;> first | exact rfl | (intro hb; (replace hb := Tidy.out hb; try (exfalso; omega))))
        | ((with_reducible apply blk_x); exact rfl)
        | ((with_reducible apply wl_v); exact rfl; (with_reducible apply v_succN); exact rfl; exact rfl; (simp only [maxLen] at *; omega))
        | ((with_reducible apply wl_v); exact rfl; (with_reducible apply v_1addN); exact rfl; exact rfl; (simp only [maxLen] at *; omega))
        | ((with_reducible apply wl_v); exact rfl; (with_reducible apply v_addN); exact rfl; exact rfl; (simp only [maxLen] at *; omega))
        | ((with_reducible apply wl_v); exact rfl; (with_reducible apply v_predN); exact rfl; exact rfl; omega; (simp only [maxLen] at *; omega))
        | ((with_reducible apply wl_v); exact rfl; (with_reducible apply v_subN); exact rfl; exact rfl; omega; (simp only [maxLen] at *; omega)))
      refine ⟨i + 1, ?_, (by first | omega | (dsimp only; omega)), (by (repeat (first | exact Sub.nil _ | refine Sub.cons rfl ?_))), (by (repeat (first | exact Sub.nil _ | refine Sub.cons rfl ?_))), (by (repeat (first | exact MSub.nil _ | refine MSub.pick (by (repeat first | exact .hd | apply Sel.tl | apply In.tl)) ?_ | exact MSub.refl _ | refine MSub.drop .hd ?_)))⟩
      omega
  obtain rfl : i = 13 := by omega
  refine w_msub (H' := .box g1 40 (encN xFive) :: .box g2 40 (encN xRef8) :: .box g3 40 (encN xWide) :: .box g4 40 (encN xPlus) :: .box g5 40 (encN xNeg8) :: []) (by (repeat (first | exact MSub.nil _ | refine MSub.pick (by (repeat first | exact .hd | apply Sel.tl | apply In.tl)) ?_ | exact MSub.refl _ | refine MSub.drop .hd ?_))) ?_
  clear hV
  repeat' (first
    | ((with_reducible apply wl_v); exact rfl; (first | ((with_reducible apply vop_ok); exact rfl) | ((with_reducible apply v_fieldAddr); exact rfl) | ((with_reducible apply v_len); exact rfl) | ((with_reducible apply v_lens); exact rfl) | ((with_reducible apply v_load_box); exact rfl; (repeat first | exact .hd | apply Sel.tl | apply In.tl); exact rfl) | ((with_reducible apply v_loadw_box); exact rfl; (repeat first | exact .hd | apply Sel.tl | apply In.tl); exact rfl) | ((with_reducible apply v_loadn_box); exact rfl; (repeat first | exact .hd | apply Sel.tl | apply In.tl); exact rfl; exact rfl) | ((with_reducible apply v_build); exact rfl; exact rfl; exact rfl)))
    | ((with_reducible apply wl_gyes); exact rfl; exact rfl)
    | ((with_reducible apply wl_gno_b); exact rfl; exact rfl; exact rfl; exact rfl)
    | ((with_reducible apply wl_gno_u); exact rfl; exact rfl; exact rfl)
    | ((with_reducible apply wl_alloc); exact rfl; intro _)
    | ((with_reducible apply wl_storen_box); exact rfl; exact rfl; (repeat first | exact .hd | apply Sel.tl | apply In.tl); exact rfl; exact rfl; exact rfl)
    | ((with_reducible apply wl_putn_box); exact rfl; exact rfl; (repeat first | exact .hd | apply Sel.tl | apply In.tl); exact rfl; exact rfl; exact rfl; exact rfl)
    | ((with_reducible apply wl_buildSlice); exact rfl; exact rfl; exact rfl; exact rfl; exact rfl; exact rfl; exact rfl; intro _)
    | ((with_reducible apply wl_gsplit) <;> first | exact rfl | (intro hb; (replace hb := Tidy.out hb; try (exfalso; omega))))
    | (with_reducible first | apply wl_nil | apply thn_n | apply w_seq | apply w_region | apply w_ret | apply w_skip | apply w_exit | apply w_block | apply thn_r | apply thn_e | apply blk_n | apply blk_r | apply blk_e)
    | ((with_reducible apply w_cond_true); exact rfl)
    | ((with_reducible apply w_cond_false); exact rfl)
    | ((with_reducible apply w_cond) <;> first | exact rfl | (intro hb; (replace hb := Tidy.out hb; try (exfalso; omega))))
    | ((with_reducible apply blk_x); exact rfl))
  rename_i g9
  refine w_msub (H' := .own (some g9) 40 11 9 9 (xKinds.flatMap encN) :: .box g1 40 (encN xFive) :: .box g2 40 (encN xRef8) :: .box g3 40 (encN xWide) :: .box g4 40 (encN xPlus) :: .box g5 40 (encN xNeg8) :: []) (by (repeat (first | exact MSub.nil _ | refine MSub.pick (by (repeat first | exact .hd | apply Sel.tl | apply In.tl)) ?_ | exact MSub.refl _ | refine MSub.drop .hd ?_))) ?_
  refine w_loopK [1, 2, 3, 4, 5, 9] rfl (fun i : Nat => [(10, .int .i64 (i : Int))]) (fun _ => .own (some g9) 40 11 9 9 (xKinds.flatMap encN) :: .box g1 40 (encN xFive) :: .box g2 40 (encN xRef8) :: .box g3 40 (encN xWide) :: .box g4 40 (encN xPlus) :: .box g5 40 (encN xNeg8) :: []) (fun i => i ≤ 9) (fun i => 9 - i) 0 (by omega) (by (repeat (first | exact Sub.nil _ | refine Sub.cons rfl ?_))) (by (repeat (first | exact MSub.nil _ | refine MSub.pick (by (repeat first | exact .hd | apply Sel.tl | apply In.tl)) ?_ | exact MSub.refl _ | refine MSub.drop .hd ?_))) ?_
  intro i hi
  by_cases hi1 : i < 9
  · have hxi := List.getElem?_eq_getElem (show i < xKinds.length from hi1)
    have wxi := xKinds_wf _ (List.getElem_mem (show i < xKinds.length from hi1))
    generalize xKinds[i]'(show i < xKinds.length from hi1) = x at hxi wxi
    repeat' (first
      | ((with_reducible apply wl_v); exact rfl; (first | ((with_reducible apply vop_ok); exact rfl) | ((with_reducible apply v_fieldAddr); exact rfl) | ((with_reducible apply v_len); exact rfl) | ((with_reducible apply v_lens); exact rfl) | ((with_reducible apply v_load_box); exact rfl; (repeat first | exact .hd | apply Sel.tl | apply In.tl); exact rfl) | ((with_reducible apply v_loadw_box); exact rfl; (repeat first | exact .hd | apply Sel.tl | apply In.tl); exact rfl) | ((with_reducible apply v_loadn_box); exact rfl; (repeat first | exact .hd | apply Sel.tl | apply In.tl); exact rfl; exact rfl) | ((with_reducible apply v_build); exact rfl; exact rfl; exact rfl)))
      | ((with_reducible apply wl_gyes); exact rfl; exact rfl)
      | ((with_reducible apply wl_gno_b); exact rfl; exact rfl; exact rfl; exact rfl)
      | ((with_reducible apply wl_gno_u); exact rfl; exact rfl; exact rfl)
      | ((with_reducible apply wl_alloc); exact rfl; intro _)
      | ((with_reducible apply wl_storen_box); exact rfl; exact rfl; (repeat first | exact .hd | apply Sel.tl | apply In.tl); exact rfl; exact rfl; exact rfl)
      | ((with_reducible apply wl_putn_box); exact rfl; exact rfl; (repeat first | exact .hd | apply Sel.tl | apply In.tl); exact rfl; exact rfl; exact rfl; exact rfl)
      | ((with_reducible apply wl_buildSlice); exact rfl; exact rfl; exact rfl; exact rfl; exact rfl; exact rfl; exact rfl; intro _)
      | ((with_reducible apply wl_gsplit) <;> first | exact rfl | (intro hb; (replace hb := Tidy.out hb; try (exfalso; omega))))
      | (with_reducible first | apply wl_nil | apply thn_n | apply w_seq | apply w_region | apply w_ret | apply w_skip | apply w_exit | apply w_block | apply thn_r | apply thn_e | apply blk_n | apply blk_r | apply blk_e)
      | ((with_reducible apply w_cond_true); exact rfl)
      | ((with_reducible apply w_cond_false); exact rfl)
      | ((with_reducible apply w_cond) <;> first | exact rfl | (intro hb; (replace hb := Tidy.out hb; try (exfalso; omega))))
      | ((with_reducible apply blk_x); exact rfl))
    refine w_nilrow 0 0 ?_
    refine w_nilrow 0 0 ?_
    refine w_nilrow 0 0 ?_
    refine w_nilrow 0 0 ?_
    refine w_nilrow 0 0 ?_
    refine w_drawXg (id := 17) (fun | 20 => some fun g => .pointer (some ⟨g.2, 0, none⟩) | 21 => some fun g => .pointer (some ⟨g.2, 0, none⟩) | 22 => some fun g => .pointer (some ⟨g.2, 0, none⟩) | 23 => some fun g => .pointer (some ⟨g.2, 0, none⟩) | 24 => some fun g => .pointer (some ⟨g.2, 0, none⟩) | _ => none)
      (fun (D : Done) (q : Nat → Gh) => (bif D 20 then Blk.box (q 20).2 40 (bif D 25 then encN x else encN ⟨0, zeroV, zeroR, 0, 0, 0⟩) else nilB) :: (bif D 21 then Blk.box (q 21).2 40 (bif D 26 then encN x else encN ⟨0, zeroV, zeroR, 0, 0, 0⟩) else nilB) :: (bif D 22 then Blk.box (q 22).2 40 (bif D 27 then encN x else encN ⟨0, zeroV, zeroR, 0, 0, 0⟩) else nilB) :: (bif D 23 then Blk.box (q 23).2 40 (bif D 28 then encN x else encN ⟨0, zeroV, zeroR, 0, 0, 0⟩) else nilB) :: (bif D 24 then Blk.box (q 24).2 40 (bif D 29 then encN x else encN ⟨0, zeroV, zeroR, 0, 0, 0⟩) else nilB) :: .own (some g9) 40 11 9 9 (xKinds.flatMap encN) :: .box g1 40 (encN xFive) :: .box g2 40 (encN xRef8) :: .box g3 40 (encN xWide) :: .box g4 40 (encN xPlus) :: .box g5 40 (encN xNeg8) :: []) ?_ ?_ ?_ ?_
    · kernel_rfl
    · kernel_rfl
    · intro γ'
      (repeat (first | exact MSub.nil _ | refine MSub.pick (by (repeat first | exact .hd | apply Sel.tl | apply In.tl)) ?_ | exact MSub.refl _ | refine MSub.drop .hd ?_))
    intro γ'
    repeat' (first
      | ((with_reducible apply wx_v); exact rfl; exact rfl; exact rfl; (intro D ht; (with_reducible apply v_indexAddr); exact rfl; exact rfl; exact hi1); exact fun _ => rfl)
      | ((with_reducible apply wx_v); exact rfl; exact rfl; exact rfl; (intro D ht; (with_reducible apply v_loadi_own (enc := encN) (L := xKinds) (a := x)); exact encN_len; exact rfl; (repeat first | exact .hd | apply Sel.tl | apply In.tl); exact hxi); exact fun _ => rfl)
      | ((with_reducible apply wl_v); exact rfl; (first | ((with_reducible apply vop_ok); exact rfl) | ((with_reducible apply v_fieldAddr); exact rfl) | ((with_reducible apply v_len); exact rfl) | ((with_reducible apply v_lens); exact rfl) | ((with_reducible apply v_load_box); exact rfl; (repeat first | exact .hd | apply Sel.tl | apply In.tl); exact rfl) | ((with_reducible apply v_loadw_box); exact rfl; (repeat first | exact .hd | apply Sel.tl | apply In.tl); exact rfl) | ((with_reducible apply v_loadn_box); exact rfl; (repeat first | exact .hd | apply Sel.tl | apply In.tl); exact rfl; exact rfl) | ((with_reducible apply v_build); exact rfl; exact rfl; exact rfl)))
      | ((with_reducible apply wl_gyes); exact rfl; exact rfl)
      | ((with_reducible apply wl_gno_b); exact rfl; exact rfl; exact rfl; exact rfl)
      | ((with_reducible apply wl_gno_u); exact rfl; exact rfl; exact rfl)
      | ((with_reducible apply wl_alloc); exact rfl; intro _)
      | ((with_reducible apply wl_storen_box); exact rfl; exact rfl; (repeat first | exact .hd | apply Sel.tl | apply In.tl); exact rfl; exact rfl; exact rfl)
      | ((with_reducible apply wl_putn_box); exact rfl; exact rfl; (repeat first | exact .hd | apply Sel.tl | apply In.tl); exact rfl; exact rfl; exact rfl; exact rfl)
      | ((with_reducible apply wl_buildSlice); exact rfl; exact rfl; exact rfl; exact rfl; exact rfl; exact rfl; exact rfl; intro _)
      | ((with_reducible apply wl_gsplit) <;> first | exact rfl | (intro hb; (replace hb := Tidy.out hb; try (exfalso; omega))))
      | (with_reducible first | apply wl_nil | apply thn_n | apply w_seq | apply w_region | apply w_ret | apply w_skip | apply w_exit | apply w_block | apply thn_r | apply thn_e | apply blk_n | apply blk_r | apply blk_e | apply wx_nil)
      | ((with_reducible apply w_cond_true); exact rfl)
      | ((with_reducible apply w_cond_false); exact rfl)
      | ((with_reducible apply w_cond) <;> first | exact rfl | (intro hb; (replace hb := Tidy.out hb; try (exfalso; omega))))
      | ((with_reducible apply blk_x); exact rfl)
      | ((with_reducible apply wx_v); exact rfl; exact rfl; exact rfl; (intro D ht; (first | ((with_reducible apply vop_ok); exact rfl) | ((with_reducible apply v_fieldAddr); exact rfl) | ((with_reducible apply v_len); exact rfl) | ((with_reducible apply v_lens); exact rfl) | ((with_reducible apply v_load_box); exact rfl; (repeat first | exact .hd | apply Sel.tl | apply In.tl); exact rfl) | ((with_reducible apply v_loadw_box); exact rfl; (repeat first | exact .hd | apply Sel.tl | apply In.tl); exact rfl) | ((with_reducible apply v_loadn_box); exact rfl; (repeat first | exact .hd | apply Sel.tl | apply In.tl); exact rfl; exact rfl) | ((with_reducible apply v_build); exact rfl; exact rfl; exact rfl))); exact fun _ => rfl)
      | ((with_reducible apply wx_gno); exact rfl; exact rfl; exact rfl; exact fun _ => rfl))
    refine wx_non rfl rfl rfl (fun D ht => ?_) ?_
    · have n20 : D 20 = false := ht.not
      have n25 : D 25 = false := ht.late (j := 25) (f := 60) (by decide +kernel)
      (simp only [gat, put, upd, Nat.reduceEqDiff, Nat.reduceAdd, reduceIte, n20, n25, cond_true, cond_false, List.nil_append, List.cons_append, Bool.and_true, Bool.and_false, Bool.true_and, Bool.false_and])
      (with_reducible apply wl_alloc); exact rfl; intro g
      refine wl_nil ⟨rfl, (none, g), rfl, ?_⟩
      (simp only [gat, put, upd, Nat.reduceEqDiff, Nat.reduceAdd, reduceIte, n20, n25, cond_true, cond_false, List.nil_append, List.cons_append, Bool.and_true, Bool.and_false, Bool.true_and, Bool.false_and])
      (repeat (first | exact MSub.nil _ | refine MSub.pick (by (repeat first | exact .hd | apply Sel.tl | apply In.tl)) ?_ | exact MSub.refl _ | refine MSub.drop .hd ?_))
    refine wx_non rfl rfl rfl (fun D ht => ?_) ?_
    · have n21 : D 21 = false := ht.not
      have n26 : D 26 = false := ht.late (j := 26) (f := 60) (by decide +kernel)
      (simp only [gat, put, upd, Nat.reduceEqDiff, Nat.reduceAdd, reduceIte, n21, n26, cond_true, cond_false, List.nil_append, List.cons_append, Bool.and_true, Bool.and_false, Bool.true_and, Bool.false_and])
      (with_reducible apply wl_alloc); exact rfl; intro g
      refine wl_nil ⟨rfl, (none, g), rfl, ?_⟩
      (simp only [gat, put, upd, Nat.reduceEqDiff, Nat.reduceAdd, reduceIte, n21, n26, cond_true, cond_false, List.nil_append, List.cons_append, Bool.and_true, Bool.and_false, Bool.true_and, Bool.false_and])
      (repeat (first | exact MSub.nil _ | refine MSub.pick (by (repeat first | exact .hd | apply Sel.tl | apply In.tl)) ?_ | exact MSub.refl _ | refine MSub.drop .hd ?_))
    refine wx_non rfl rfl rfl (fun D ht => ?_) ?_
    · have n22 : D 22 = false := ht.not
      have n27 : D 27 = false := ht.late (j := 27) (f := 60) (by decide +kernel)
      (simp only [gat, put, upd, Nat.reduceEqDiff, Nat.reduceAdd, reduceIte, n22, n27, cond_true, cond_false, List.nil_append, List.cons_append, Bool.and_true, Bool.and_false, Bool.true_and, Bool.false_and])
      (with_reducible apply wl_alloc); exact rfl; intro g
      refine wl_nil ⟨rfl, (none, g), rfl, ?_⟩
      (simp only [gat, put, upd, Nat.reduceEqDiff, Nat.reduceAdd, reduceIte, n22, n27, cond_true, cond_false, List.nil_append, List.cons_append, Bool.and_true, Bool.and_false, Bool.true_and, Bool.false_and])
      (repeat (first | exact MSub.nil _ | refine MSub.pick (by (repeat first | exact .hd | apply Sel.tl | apply In.tl)) ?_ | exact MSub.refl _ | refine MSub.drop .hd ?_))
    refine wx_non rfl rfl rfl (fun D ht => ?_) ?_
    · have n23 : D 23 = false := ht.not
      have n28 : D 28 = false := ht.late (j := 28) (f := 60) (by decide +kernel)
      (simp only [gat, put, upd, Nat.reduceEqDiff, Nat.reduceAdd, reduceIte, n23, n28, cond_true, cond_false, List.nil_append, List.cons_append, Bool.and_true, Bool.and_false, Bool.true_and, Bool.false_and])
      (with_reducible apply wl_alloc); exact rfl; intro g
      refine wl_nil ⟨rfl, (none, g), rfl, ?_⟩
      (simp only [gat, put, upd, Nat.reduceEqDiff, Nat.reduceAdd, reduceIte, n23, n28, cond_true, cond_false, List.nil_append, List.cons_append, Bool.and_true, Bool.and_false, Bool.true_and, Bool.false_and])
      (repeat (first | exact MSub.nil _ | refine MSub.pick (by (repeat first | exact .hd | apply Sel.tl | apply In.tl)) ?_ | exact MSub.refl _ | refine MSub.drop .hd ?_))
    refine wx_non rfl rfl rfl (fun D ht => ?_) ?_
    · have n24 : D 24 = false := ht.not
      have n29 : D 29 = false := ht.late (j := 29) (f := 60) (by decide +kernel)
      (simp only [gat, put, upd, Nat.reduceEqDiff, Nat.reduceAdd, reduceIte, n24, n29, cond_true, cond_false, List.nil_append, List.cons_append, Bool.and_true, Bool.and_false, Bool.true_and, Bool.false_and])
      (with_reducible apply wl_alloc); exact rfl; intro g
      refine wl_nil ⟨rfl, (none, g), rfl, ?_⟩
      (simp only [gat, put, upd, Nat.reduceEqDiff, Nat.reduceAdd, reduceIte, n24, n29, cond_true, cond_false, List.nil_append, List.cons_append, Bool.and_true, Bool.and_false, Bool.true_and, Bool.false_and])
      (repeat (first | exact MSub.nil _ | refine MSub.pick (by (repeat first | exact .hd | apply Sel.tl | apply In.tl)) ?_ | exact MSub.refl _ | refine MSub.drop .hd ?_))
    refine wx_put (T := 40) rfl rfl rfl rfl rfl rfl rfl (fun D ht => ?_) ?_
    · have n25 : D 25 = false := ht.not
      have n20 : D 20 = true := ht.early (i := 20) (f := 60) (by decide +kernel)
      (simp only [gat, put, upd, Nat.reduceEqDiff, Nat.reduceAdd, reduceIte, n25, n20, cond_true, cond_false, List.nil_append, List.cons_append, Bool.and_true, Bool.and_false, Bool.true_and, Bool.false_and])
      refine ⟨_, _, .hd, ?_, ?_⟩
      · exact Nat.le_of_ble_eq_true rfl
      · (repeat (first | exact MSub.nil _ | refine MSub.pick (by (repeat first | exact .hd | apply Sel.tl | apply In.tl)) ?_ | exact MSub.refl _ | refine MSub.drop .hd ?_))
    refine wx_put (T := 40) rfl rfl rfl rfl rfl rfl rfl (fun D ht => ?_) ?_
    · have n26 : D 26 = false := ht.not
      have n21 : D 21 = true := ht.early (i := 21) (f := 60) (by decide +kernel)
      (simp only [gat, put, upd, Nat.reduceEqDiff, Nat.reduceAdd, reduceIte, n26, n21, cond_true, cond_false, List.nil_append, List.cons_append, Bool.and_true, Bool.and_false, Bool.true_and, Bool.false_and])
      refine ⟨_, _, (.tl .hd), ?_, ?_⟩
      · exact Nat.le_of_ble_eq_true rfl
      · (repeat (first | exact MSub.nil _ | refine MSub.pick (by (repeat first | exact .hd | apply Sel.tl | apply In.tl)) ?_ | exact MSub.refl _ | refine MSub.drop .hd ?_))
    refine wx_put (T := 40) rfl rfl rfl rfl rfl rfl rfl (fun D ht => ?_) ?_
    · have n27 : D 27 = false := ht.not
      have n22 : D 22 = true := ht.early (i := 22) (f := 60) (by decide +kernel)
      (simp only [gat, put, upd, Nat.reduceEqDiff, Nat.reduceAdd, reduceIte, n27, n22, cond_true, cond_false, List.nil_append, List.cons_append, Bool.and_true, Bool.and_false, Bool.true_and, Bool.false_and])
      refine ⟨_, _, (.tl (.tl .hd)), ?_, ?_⟩
      · exact Nat.le_of_ble_eq_true rfl
      · (repeat (first | exact MSub.nil _ | refine MSub.pick (by (repeat first | exact .hd | apply Sel.tl | apply In.tl)) ?_ | exact MSub.refl _ | refine MSub.drop .hd ?_))
    refine wx_put (T := 40) rfl rfl rfl rfl rfl rfl rfl (fun D ht => ?_) ?_
    · have n28 : D 28 = false := ht.not
      have n23 : D 23 = true := ht.early (i := 23) (f := 60) (by decide +kernel)
      (simp only [gat, put, upd, Nat.reduceEqDiff, Nat.reduceAdd, reduceIte, n28, n23, cond_true, cond_false, List.nil_append, List.cons_append, Bool.and_true, Bool.and_false, Bool.true_and, Bool.false_and])
      refine ⟨_, _, (.tl (.tl (.tl .hd))), ?_, ?_⟩
      · exact Nat.le_of_ble_eq_true rfl
      · (repeat (first | exact MSub.nil _ | refine MSub.pick (by (repeat first | exact .hd | apply Sel.tl | apply In.tl)) ?_ | exact MSub.refl _ | refine MSub.drop .hd ?_))
    refine wx_put (T := 40) rfl rfl rfl rfl rfl rfl rfl (fun D ht => ?_) ?_
    · have n29 : D 29 = false := ht.not
      have n24 : D 24 = true := ht.early (i := 24) (f := 60) (by decide +kernel)
      (simp only [gat, put, upd, Nat.reduceEqDiff, Nat.reduceAdd, reduceIte, n29, n24, cond_true, cond_false, List.nil_append, List.cons_append, Bool.and_true, Bool.and_false, Bool.true_and, Bool.false_and])
      refine ⟨_, _, (.tl (.tl (.tl (.tl .hd)))), ?_, ?_⟩
      · exact Nat.le_of_ble_eq_true rfl
      · (repeat (first | exact MSub.nil _ | refine MSub.pick (by (repeat first | exact .hd | apply Sel.tl | apply In.tl)) ?_ | exact MSub.refl _ | refine MSub.drop .hd ?_))
    repeat' (first
      | ((with_reducible apply wl_v); exact rfl; (first | ((with_reducible apply vop_ok); exact rfl) | ((with_reducible apply v_fieldAddr); exact rfl) | ((with_reducible apply v_len); exact rfl) | ((with_reducible apply v_lens); exact rfl) | ((with_reducible apply v_load_box); exact rfl; (repeat first | exact .hd | apply Sel.tl | apply In.tl); exact rfl) | ((with_reducible apply v_loadw_box); exact rfl; (repeat first | exact .hd | apply Sel.tl | apply In.tl); exact rfl) | ((with_reducible apply v_loadn_box); exact rfl; (repeat first | exact .hd | apply Sel.tl | apply In.tl); exact rfl; exact rfl) | ((with_reducible apply v_build); exact rfl; exact rfl; exact rfl)))
      | ((with_reducible apply wl_gyes); exact rfl; exact rfl)
      | ((with_reducible apply wl_gno_b); exact rfl; exact rfl; exact rfl; exact rfl)
      | ((with_reducible apply wl_gno_u); exact rfl; exact rfl; exact rfl)
      | ((with_reducible apply wl_alloc); exact rfl; intro _)
      | ((with_reducible apply wl_storen_box); exact rfl; exact rfl; (repeat first | exact .hd | apply Sel.tl | apply In.tl); exact rfl; exact rfl; exact rfl)
      | ((with_reducible apply wl_putn_box); exact rfl; exact rfl; (repeat first | exact .hd | apply Sel.tl | apply In.tl); exact rfl; exact rfl; exact rfl; exact rfl)
      | ((with_reducible apply wl_buildSlice); exact rfl; exact rfl; exact rfl; exact rfl; exact rfl; exact rfl; exact rfl; intro _)
      | ((with_reducible apply wl_gsplit) <;> first | exact rfl | (intro hb; (replace hb := Tidy.out hb; try (exfalso; omega))))
      | (with_reducible first | apply wl_nil | apply thn_n | apply w_seq | apply w_region | apply w_ret | apply w_skip | apply w_exit | apply w_block | apply thn_r | apply thn_e | apply blk_n | apply blk_r | apply blk_e | apply wx_nil)
      | ((with_reducible apply w_cond_true); exact rfl)
      | ((with_reducible apply w_cond_false); exact rfl)
      | ((with_reducible apply w_cond) <;> first | exact rfl | (intro hb; (replace hb := Tidy.out hb; try (exfalso; omega))))
      | ((with_reducible apply blk_x); exact rfl)
      | ((with_reducible apply wx_v); exact rfl; exact rfl; exact rfl; (intro D ht; (first | ((with_reducible apply vop_ok); exact rfl) | ((with_reducible apply v_fieldAddr); exact rfl) | ((with_reducible apply v_len); exact rfl) | ((with_reducible apply v_lens); exact rfl) | ((with_reducible apply v_load_box); exact rfl; (repeat first | exact .hd | apply Sel.tl | apply In.tl); exact rfl) | ((with_reducible apply v_loadw_box); exact rfl; (repeat first | exact .hd | apply Sel.tl | apply In.tl); exact rfl) | ((with_reducible apply v_loadn_box); exact rfl; (repeat first | exact .hd | apply Sel.tl | apply In.tl); exact rfl; exact rfl) | ((with_reducible apply v_build); exact rfl; exact rfl; exact rfl))); exact fun _ => rfl)
      | ((with_reducible apply wx_gno); exact rfl; exact rfl; exact rfl; exact fun _ => rfl))
    intro D hD
    have n20 := hD 20 (by decide)
    have n21 := hD 21 (by decide)
    have n22 := hD 22 (by decide)
    have n23 := hD 23 (by decide)
    have n24 := hD 24 (by decide)
    have n25 := hD 25 (by decide)
    have n26 := hD 26 (by decide)
    have n27 := hD 27 (by decide)
    have n28 := hD 28 (by decide)
    have n29 := hD 29 (by decide)
    (simp only [gat, put, upd, Nat.reduceEqDiff, Nat.reduceAdd, reduceIte, n20, n21, n22, n23, n24, n25, n26, n27, n28, n29, cond_true, cond_false, List.nil_append, List.cons_append, Bool.and_true, Bool.and_false, Bool.true_and, Bool.false_and])
    repeat' (first
      | ((with_reducible apply wl_v); exact rfl; (first | ((with_reducible apply vop_ok); exact rfl) | ((with_reducible apply v_fieldAddr); exact rfl) | ((with_reducible apply v_len); exact rfl) | ((with_reducible apply v_lens); exact rfl) | ((with_reducible apply v_load_box); exact rfl; (repeat first | exact .hd | apply Sel.tl | apply In.tl); exact rfl) | ((with_reducible apply v_loadw_box); exact rfl; (repeat first | exact .hd | apply Sel.tl | apply In.tl); exact rfl) | ((with_reducible apply v_loadn_box); exact rfl; (repeat first | exact .hd | apply Sel.tl | apply In.tl); exact rfl; exact rfl) | ((with_reducible apply v_build); exact rfl; exact rfl; exact rfl)))
      | ((with_reducible apply wl_gyes); exact rfl; exact rfl)
      | ((with_reducible apply wl_gno_b); exact rfl; exact rfl; exact rfl; exact rfl)
      | ((with_reducible apply wl_gno_u); exact rfl; exact rfl; exact rfl)
      | ((with_reducible apply wl_alloc); exact rfl; intro _)
      | ((with_reducible apply wl_storen_box); exact rfl; exact rfl; (repeat first | exact .hd | apply Sel.tl | apply In.tl); exact rfl; exact rfl; exact rfl)
      | ((with_reducible apply wl_putn_box); exact rfl; exact rfl; (repeat first | exact .hd | apply Sel.tl | apply In.tl); exact rfl; exact rfl; exact rfl; exact rfl)
      | ((with_reducible apply wl_buildSlice); exact rfl; exact rfl; exact rfl; exact rfl; exact rfl; exact rfl; exact rfl; intro _)
      | ((with_reducible apply wl_gsplit) <;> first | exact rfl | (intro hb; (replace hb := Tidy.out hb; try (exfalso; omega))))
      | (with_reducible first | apply wl_nil | apply thn_n | apply w_seq | apply w_region | apply w_ret | apply w_skip | apply w_exit | apply w_block | apply thn_r | apply thn_e | apply blk_n | apply blk_r | apply blk_e)
      | ((with_reducible apply w_cond_true); exact rfl)
      | ((with_reducible apply w_cond_false); exact rfl)
      | ((with_reducible apply w_cond) <;> first | exact rfl | (intro hb; (replace hb := Tidy.out hb; try (exfalso; omega))))
      | ((with_reducible apply blk_x); exact rfl))
    refine w_drawXg (id := 18) (fun _ => none) (fun (D : Done) (_ : Nat → Gh) => Blk.box (γ' 20).2 40 (bif D 4 then encN { x with v := ⟨1, -1, emptyB⟩ } else encN x) :: Blk.box (γ' 21).2 40 (bif D 6 then encN { x with rect := xWide.rect } else encN x) :: Blk.box (γ' 22).2 40 (bif D 8 then encN { x with op := 13 } else encN x) :: Blk.box (γ' 23).2 40 (bif D 10 then encN { x with fn := 1 } else encN x) :: Blk.box (γ' 24).2 40 (bif D 12 then encN { x with n := -1 } else encN x) :: .own (some g9) 40 11 9 9 (xKinds.flatMap encN) :: .box g1 40 (encN xFive) :: .box g2 40 (encN xRef8) :: .box g3 40 (encN xWide) :: .box g4 40 (encN xPlus) :: .box g5 40 (encN xNeg8) :: []) ?_ ?_ ?_ ?_
    · kernel_rfl
    · kernel_rfl
    · intro γ2
      (repeat (first | exact MSub.nil _ | refine MSub.pick (by (repeat first | exact .hd | apply Sel.tl | apply In.tl)) ?_ | exact MSub.refl _ | refine MSub.drop .hd ?_))
    intro γ2
    repeat' (first
      | ((with_reducible apply wl_v); exact rfl; (first | ((with_reducible apply vop_ok); exact rfl) | ((with_reducible apply v_fieldAddr); exact rfl) | ((with_reducible apply v_len); exact rfl) | ((with_reducible apply v_lens); exact rfl) | ((with_reducible apply v_load_box); exact rfl; (repeat first | exact .hd | apply Sel.tl | apply In.tl); exact rfl) | ((with_reducible apply v_loadw_box); exact rfl; (repeat first | exact .hd | apply Sel.tl | apply In.tl); exact rfl) | ((with_reducible apply v_loadn_box); exact rfl; (repeat first | exact .hd | apply Sel.tl | apply In.tl); exact rfl; exact rfl) | ((with_reducible apply v_build); exact rfl; exact rfl; exact rfl)))
      | ((with_reducible apply wl_gyes); exact rfl; exact rfl)
      | ((with_reducible apply wl_gno_b); exact rfl; exact rfl; exact rfl; exact rfl)
      | ((with_reducible apply wl_gno_u); exact rfl; exact rfl; exact rfl)
      | ((with_reducible apply wl_alloc); exact rfl; intro _)
      | ((with_reducible apply wl_storen_box); exact rfl; exact rfl; (repeat first | exact .hd | apply Sel.tl | apply In.tl); exact rfl; exact rfl; exact rfl)
      | ((with_reducible apply wl_putn_box); exact rfl; exact rfl; (repeat first | exact .hd | apply Sel.tl | apply In.tl); exact rfl; exact rfl; exact rfl; exact rfl)
      | ((with_reducible apply wl_buildSlice); exact rfl; exact rfl; exact rfl; exact rfl; exact rfl; exact rfl; exact rfl; intro _)
      | ((with_reducible apply wl_gsplit) <;> first | exact rfl | (intro hb; (replace hb := Tidy.out hb; try (exfalso; omega))))
      | (with_reducible first | apply wl_nil | apply thn_n | apply w_seq | apply w_region | apply w_ret | apply w_skip | apply w_exit | apply w_block | apply thn_r | apply thn_e | apply blk_n | apply blk_r | apply blk_e | apply wx_nil)
      | ((with_reducible apply w_cond_true); exact rfl)
      | ((with_reducible apply w_cond_false); exact rfl)
      | ((with_reducible apply w_cond) <;> first | exact rfl | (intro hb; (replace hb := Tidy.out hb; try (exfalso; omega))))
      | ((with_reducible apply blk_x); exact rfl)
      | ((with_reducible apply wx_v); exact rfl; exact rfl; exact rfl; (intro D ht; (first | ((with_reducible apply vop_ok); exact rfl) | ((with_reducible apply v_fieldAddr); exact rfl) | ((with_reducible apply v_len); exact rfl) | ((with_reducible apply v_lens); exact rfl) | ((with_reducible apply v_load_box); exact rfl; (repeat first | exact .hd | apply Sel.tl | apply In.tl); exact rfl) | ((with_reducible apply v_loadw_box); exact rfl; (repeat first | exact .hd | apply Sel.tl | apply In.tl); exact rfl) | ((with_reducible apply v_loadn_box); exact rfl; (repeat first | exact .hd | apply Sel.tl | apply In.tl); exact rfl; exact rfl) | ((with_reducible apply v_build); exact rfl; exact rfl; exact rfl))); exact fun _ => rfl)
      | ((with_reducible apply wx_gno); exact rfl; exact rfl; exact rfl; exact fun _ => rfl))
    refine wx_put (T := 40) rfl rfl rfl rfl rfl rfl rfl (fun D ht => ?_) ?_
    · have n4 : D 4 = false := ht.not
      (simp only [gat, put, upd, Nat.reduceEqDiff, Nat.reduceAdd, reduceIte, n4, cond_true, cond_false, List.nil_append, List.cons_append, Bool.and_true, Bool.and_false, Bool.true_and, Bool.false_and])
      refine ⟨_, _, .hd, ?_, ?_⟩
      · exact Nat.le_of_ble_eq_true rfl
      · (repeat (first | exact MSub.nil _ | refine MSub.pick (by (repeat first | exact .hd | apply Sel.tl | apply In.tl)) ?_ | exact MSub.refl _ | refine MSub.drop .hd ?_))
    repeat' (first
      | ((with_reducible apply wl_v); exact rfl; (first | ((with_reducible apply vop_ok); exact rfl) | ((with_reducible apply v_fieldAddr); exact rfl) | ((with_reducible apply v_len); exact rfl) | ((with_reducible apply v_lens); exact rfl) | ((with_reducible apply v_load_box); exact rfl; (repeat first | exact .hd | apply Sel.tl | apply In.tl); exact rfl) | ((with_reducible apply v_loadw_box); exact rfl; (repeat first | exact .hd | apply Sel.tl | apply In.tl); exact rfl) | ((with_reducible apply v_loadn_box); exact rfl; (repeat first | exact .hd | apply Sel.tl | apply In.tl); exact rfl; exact rfl) | ((with_reducible apply v_build); exact rfl; exact rfl; exact rfl)))
      | ((with_reducible apply wl_gyes); exact rfl; exact rfl)
      | ((with_reducible apply wl_gno_b); exact rfl; exact rfl; exact rfl; exact rfl)
      | ((with_reducible apply wl_gno_u); exact rfl; exact rfl; exact rfl)
      | ((with_reducible apply wl_alloc); exact rfl; intro _)
      | ((with_reducible apply wl_storen_box); exact rfl; exact rfl; (repeat first | exact .hd | apply Sel.tl | apply In.tl); exact rfl; exact rfl; exact rfl)
      | ((with_reducible apply wl_putn_box); exact rfl; exact rfl; (repeat first | exact .hd | apply Sel.tl | apply In.tl); exact rfl; exact rfl; exact rfl; exact rfl)
      | ((with_reducible apply wl_buildSlice); exact rfl; exact rfl; exact rfl; exact rfl; exact rfl; exact rfl; exact rfl; intro _)
      | ((with_reducible apply wl_gsplit) <;> first | exact rfl | (intro hb; (replace hb := Tidy.out hb; try (exfalso; omega))))
      | (with_reducible first | apply wl_nil | apply thn_n | apply w_seq | apply w_region | apply w_ret | apply w_skip | apply w_exit | apply w_block | apply thn_r | apply thn_e | apply blk_n | apply blk_r | apply blk_e | apply wx_nil)
      | ((with_reducible apply w_cond_true); exact rfl)
      | ((with_reducible apply w_cond_false); exact rfl)
      | ((with_reducible apply w_cond) <;> first | exact rfl | (intro hb; (replace hb := Tidy.out hb; try (exfalso; omega))))
      | ((with_reducible apply blk_x); exact rfl)
      | ((with_reducible apply wx_v); exact rfl; exact rfl; exact rfl; (intro D ht; (first | ((with_reducible apply vop_ok); exact rfl) | ((with_reducible apply v_fieldAddr); exact rfl) | ((with_reducible apply v_len); exact rfl) | ((with_reducible apply v_lens); exact rfl) | ((with_reducible apply v_load_box); exact rfl; (repeat first | exact .hd | apply Sel.tl | apply In.tl); exact rfl) | ((with_reducible apply v_loadw_box); exact rfl; (repeat first | exact .hd | apply Sel.tl | apply In.tl); exact rfl) | ((with_reducible apply v_loadn_box); exact rfl; (repeat first | exact .hd | apply Sel.tl | apply In.tl); exact rfl; exact rfl) | ((with_reducible apply v_build); exact rfl; exact rfl; exact rfl))); exact fun _ => rfl)
      | ((with_reducible apply wx_gno); exact rfl; exact rfl; exact rfl; exact fun _ => rfl))
    refine wx_put (T := 40) rfl rfl rfl rfl rfl rfl rfl (fun D ht => ?_) ?_
    · have n6 : D 6 = false := ht.not
      (simp only [gat, put, upd, Nat.reduceEqDiff, Nat.reduceAdd, reduceIte, n6, cond_true, cond_false, List.nil_append, List.cons_append, Bool.and_true, Bool.and_false, Bool.true_and, Bool.false_and])
      refine ⟨_, _, (.tl .hd), ?_, ?_⟩
      · exact Nat.le_of_ble_eq_true rfl
      · (repeat (first | exact MSub.nil _ | refine MSub.pick (by (repeat first | exact .hd | apply Sel.tl | apply In.tl)) ?_ | exact MSub.refl _ | refine MSub.drop .hd ?_))
    repeat' (first
      | ((with_reducible apply wl_v); exact rfl; (first | ((with_reducible apply vop_ok); exact rfl) | ((with_reducible apply v_fieldAddr); exact rfl) | ((with_reducible apply v_len); exact rfl) | ((with_reducible apply v_lens); exact rfl) | ((with_reducible apply v_load_box); exact rfl; (repeat first | exact .hd | apply Sel.tl | apply In.tl); exact rfl) | ((with_reducible apply v_loadw_box); exact rfl; (repeat first | exact .hd | apply Sel.tl | apply In.tl); exact rfl) | ((with_reducible apply v_loadn_box); exact rfl; (repeat first | exact .hd | apply Sel.tl | apply In.tl); exact rfl; exact rfl) | ((with_reducible apply v_build); exact rfl; exact rfl; exact rfl)))
      | ((with_reducible apply wl_gyes); exact rfl; exact rfl)
      | ((with_reducible apply wl_gno_b); exact rfl; exact rfl; exact rfl; exact rfl)
      | ((with_reducible apply wl_gno_u); exact rfl; exact rfl; exact rfl)
      | ((with_reducible apply wl_alloc); exact rfl; intro _)
      | ((with_reducible apply wl_storen_box); exact rfl; exact rfl; (repeat first | exact .hd | apply Sel.tl | apply In.tl); exact rfl; exact rfl; exact rfl)
      | ((with_reducible apply wl_putn_box); exact rfl; exact rfl; (repeat first | exact .hd | apply Sel.tl | apply In.tl); exact rfl; exact rfl; exact rfl; exact rfl)
      | ((with_reducible apply wl_buildSlice); exact rfl; exact rfl; exact rfl; exact rfl; exact rfl; exact rfl; exact rfl; intro _)
      | ((with_reducible apply wl_gsplit) <;> first | exact rfl | (intro hb; (replace hb := Tidy.out hb; try (exfalso; omega))))
      | (with_reducible first | apply wl_nil | apply thn_n | apply w_seq | apply w_region | apply w_ret | apply w_skip | apply w_exit | apply w_block | apply thn_r | apply thn_e | apply blk_n | apply blk_r | apply blk_e | apply wx_nil)
      | ((with_reducible apply w_cond_true); exact rfl)
      | ((with_reducible apply w_cond_false); exact rfl)
      | ((with_reducible apply w_cond) <;> first | exact rfl | (intro hb; (replace hb := Tidy.out hb; try (exfalso; omega))))
      | ((with_reducible apply blk_x); exact rfl)
      | ((with_reducible apply wx_v); exact rfl; exact rfl; exact rfl; (intro D ht; (first | ((with_reducible apply vop_ok); exact rfl) | ((with_reducible apply v_fieldAddr); exact rfl) | ((with_reducible apply v_len); exact rfl) | ((with_reducible apply v_lens); exact rfl) | ((with_reducible apply v_load_box); exact rfl; (repeat first | exact .hd | apply Sel.tl | apply In.tl); exact rfl) | ((with_reducible apply v_loadw_box); exact rfl; (repeat first | exact .hd | apply Sel.tl | apply In.tl); exact rfl) | ((with_reducible apply v_loadn_box); exact rfl; (repeat first | exact .hd | apply Sel.tl | apply In.tl); exact rfl; exact rfl) | ((with_reducible apply v_build); exact rfl; exact rfl; exact rfl))); exact fun _ => rfl)
      | ((with_reducible apply wx_gno); exact rfl; exact rfl; exact rfl; exact fun _ => rfl))
    refine wx_put (T := 40) rfl rfl rfl rfl rfl rfl rfl (fun D ht => ?_) ?_
    · have n8 : D 8 = false := ht.not
      (simp only [gat, put, upd, Nat.reduceEqDiff, Nat.reduceAdd, reduceIte, n8, cond_true, cond_false, List.nil_append, List.cons_append, Bool.and_true, Bool.and_false, Bool.true_and, Bool.false_and])
      refine ⟨_, _, (.tl (.tl .hd)), ?_, ?_⟩
      · exact Nat.le_of_ble_eq_true rfl
      · (repeat (first | exact MSub.nil _ | refine MSub.pick (by (repeat first | exact .hd | apply Sel.tl | apply In.tl)) ?_ | exact MSub.refl _ | refine MSub.drop .hd ?_))
    repeat' (first
      | ((with_reducible apply wl_v); exact rfl; (first | ((with_reducible apply vop_ok); exact rfl) | ((with_reducible apply v_fieldAddr); exact rfl) | ((with_reducible apply v_len); exact rfl) | ((with_reducible apply v_lens); exact rfl) | ((with_reducible apply v_load_box); exact rfl; (repeat first | exact .hd | apply Sel.tl | apply In.tl); exact rfl) | ((with_reducible apply v_loadw_box); exact rfl; (repeat first | exact .hd | apply Sel.tl | apply In.tl); exact rfl) | ((with_reducible apply v_loadn_box); exact rfl; (repeat first | exact .hd | apply Sel.tl | apply In.tl); exact rfl; exact rfl) | ((with_reducible apply v_build); exact rfl; exact rfl; exact rfl)))
      | ((with_reducible apply wl_gyes); exact rfl; exact rfl)
      | ((with_reducible apply wl_gno_b); exact rfl; exact rfl; exact rfl; exact rfl)
      | ((with_reducible apply wl_gno_u); exact rfl; exact rfl; exact rfl)
      | ((with_reducible apply wl_alloc); exact rfl; intro _)
      | ((with_reducible apply wl_storen_box); exact rfl; exact rfl; (repeat first | exact .hd | apply Sel.tl | apply In.tl); exact rfl; exact rfl; exact rfl)
      | ((with_reducible apply wl_putn_box); exact rfl; exact rfl; (repeat first | exact .hd | apply Sel.tl | apply In.tl); exact rfl; exact rfl; exact rfl; exact rfl)
      | ((with_reducible apply wl_buildSlice); exact rfl; exact rfl; exact rfl; exact rfl; exact rfl; exact rfl; exact rfl; intro _)
      | ((with_reducible apply wl_gsplit) <;> first | exact rfl | (intro hb; (replace hb := Tidy.out hb; try (exfalso; omega))))
      | (with_reducible first | apply wl_nil | apply thn_n | apply w_seq | apply w_region | apply w_ret | apply w_skip | apply w_exit | apply w_block | apply thn_r | apply thn_e | apply blk_n | apply blk_r | apply blk_e | apply wx_nil)
      | ((with_reducible apply w_cond_true); exact rfl)
      | ((with_reducible apply w_cond_false); exact rfl)
      | ((with_reducible apply w_cond) <;> first | exact rfl | (intro hb; (replace hb := Tidy.out hb; try (exfalso; omega))))
      | ((with_reducible apply blk_x); exact rfl)
      | ((with_reducible apply wx_v); exact rfl; exact rfl; exact rfl; (intro D ht; (first | ((with_reducible apply vop_ok); exact rfl) | ((with_reducible apply v_fieldAddr); exact rfl) | ((with_reducible apply v_len); exact rfl) | ((with_reducible apply v_lens); exact rfl) | ((with_reducible apply v_load_box); exact rfl; (repeat first | exact .hd | apply Sel.tl | apply In.tl); exact rfl) | ((with_reducible apply v_loadw_box); exact rfl; (repeat first | exact .hd | apply Sel.tl | apply In.tl); exact rfl) | ((with_reducible apply v_loadn_box); exact rfl; (repeat first | exact .hd | apply Sel.tl | apply In.tl); exact rfl; exact rfl) | ((with_reducible apply v_build); exact rfl; exact rfl; exact rfl))); exact fun _ => rfl)
      | ((with_reducible apply wx_gno); exact rfl; exact rfl; exact rfl; exact fun _ => rfl))
    refine wx_put (T := 40) rfl rfl rfl rfl rfl rfl rfl (fun D ht => ?_) ?_
    · have n10 : D 10 = false := ht.not
      (simp only [gat, put, upd, Nat.reduceEqDiff, Nat.reduceAdd, reduceIte, n10, cond_true, cond_false, List.nil_append, List.cons_append, Bool.and_true, Bool.and_false, Bool.true_and, Bool.false_and])
      refine ⟨_, _, (.tl (.tl (.tl .hd))), ?_, ?_⟩
      · exact Nat.le_of_ble_eq_true rfl
      · (repeat (first | exact MSub.nil _ | refine MSub.pick (by (repeat first | exact .hd | apply Sel.tl | apply In.tl)) ?_ | exact MSub.refl _ | refine MSub.drop .hd ?_))
    repeat' (first
      | ((with_reducible apply wl_v); exact rfl; (first | ((with_reducible apply vop_ok); exact rfl) | ((with_reducible apply v_fieldAddr); exact rfl) | ((with_reducible apply v_len); exact rfl) | ((with_reducible apply v_lens); exact rfl) | ((with_reducible apply v_load_box); exact rfl; (repeat first | exact .hd | apply Sel.tl | apply In.tl); exact rfl) | ((with_reducible apply v_loadw_box); exact rfl; (repeat first | exact .hd | apply Sel.tl | apply In.tl); exact rfl) | ((with_reducible apply v_loadn_box); exact rfl; (repeat first | exact .hd | apply Sel.tl | apply In.tl); exact rfl; exact rfl) | ((with_reducible apply v_build); exact rfl; exact rfl; exact rfl)))
      | ((with_reducible apply wl_gyes); exact rfl; exact rfl)
      | ((with_reducible apply wl_gno_b); exact rfl; exact rfl; exact rfl; exact rfl)
      | ((with_reducible apply wl_gno_u); exact rfl; exact rfl; exact rfl)
      | ((with_reducible apply wl_alloc); exact rfl; intro _)
      | ((with_reducible apply wl_storen_box); exact rfl; exact rfl; (repeat first | exact .hd | apply Sel.tl | apply In.tl); exact rfl; exact rfl; exact rfl)
      | ((with_reducible apply wl_putn_box); exact rfl; exact rfl; (repeat first | exact .hd | apply Sel.tl | apply In.tl); exact rfl; exact rfl; exact rfl; exact rfl)
      | ((with_reducible apply wl_buildSlice); exact rfl; exact rfl; exact rfl; exact rfl; exact rfl; exact rfl; exact rfl; intro _)
      | ((with_reducible apply wl_gsplit) <;> first | exact rfl | (intro hb; (replace hb := Tidy.out hb; try (exfalso; omega))))
      | (with_reducible first | apply wl_nil | apply thn_n | apply w_seq | apply w_region | apply w_ret | apply w_skip | apply w_exit | apply w_block | apply thn_r | apply thn_e | apply blk_n | apply blk_r | apply blk_e | apply wx_nil)
      | ((with_reducible apply w_cond_true); exact rfl)
      | ((with_reducible apply w_cond_false); exact rfl)
      | ((with_reducible apply w_cond) <;> first | exact rfl | (intro hb; (replace hb := Tidy.out hb; try (exfalso; omega))))
      | ((with_reducible apply blk_x); exact rfl)
      | ((with_reducible apply wx_v); exact rfl; exact rfl; exact rfl; (intro D ht; (first | ((with_reducible apply vop_ok); exact rfl) | ((with_reducible apply v_fieldAddr); exact rfl) | ((with_reducible apply v_len); exact rfl) | ((with_reducible apply v_lens); exact rfl) | ((with_reducible apply v_load_box); exact rfl; (repeat first | exact .hd | apply Sel.tl | apply In.tl); exact rfl) | ((with_reducible apply v_loadw_box); exact rfl; (repeat first | exact .hd | apply Sel.tl | apply In.tl); exact rfl) | ((with_reducible apply v_loadn_box); exact rfl; (repeat first | exact .hd | apply Sel.tl | apply In.tl); exact rfl; exact rfl) | ((with_reducible apply v_build); exact rfl; exact rfl; exact rfl))); exact fun _ => rfl)
      | ((with_reducible apply wx_gno); exact rfl; exact rfl; exact rfl; exact fun _ => rfl))
    refine wx_put (T := 40) rfl rfl rfl rfl rfl rfl rfl (fun D ht => ?_) ?_
    · have n12 : D 12 = false := ht.not
      (simp only [gat, put, upd, Nat.reduceEqDiff, Nat.reduceAdd, reduceIte, n12, cond_true, cond_false, List.nil_append, List.cons_append, Bool.and_true, Bool.and_false, Bool.true_and, Bool.false_and])
      refine ⟨_, _, (.tl (.tl (.tl (.tl .hd)))), ?_, ?_⟩
      · exact Nat.le_of_ble_eq_true rfl
      · (repeat (first | exact MSub.nil _ | refine MSub.pick (by (repeat first | exact .hd | apply Sel.tl | apply In.tl)) ?_ | exact MSub.refl _ | refine MSub.drop .hd ?_))
    repeat' (first
      | ((with_reducible apply wl_v); exact rfl; (first | ((with_reducible apply vop_ok); exact rfl) | ((with_reducible apply v_fieldAddr); exact rfl) | ((with_reducible apply v_len); exact rfl) | ((with_reducible apply v_lens); exact rfl) | ((with_reducible apply v_load_box); exact rfl; (repeat first | exact .hd | apply Sel.tl | apply In.tl); exact rfl) | ((with_reducible apply v_loadw_box); exact rfl; (repeat first | exact .hd | apply Sel.tl | apply In.tl); exact rfl) | ((with_reducible apply v_loadn_box); exact rfl; (repeat first | exact .hd | apply Sel.tl | apply In.tl); exact rfl; exact rfl) | ((with_reducible apply v_build); exact rfl; exact rfl; exact rfl)))
      | ((with_reducible apply wl_gyes); exact rfl; exact rfl)
      | ((with_reducible apply wl_gno_b); exact rfl; exact rfl; exact rfl; exact rfl)
      | ((with_reducible apply wl_gno_u); exact rfl; exact rfl; exact rfl)
      | ((with_reducible apply wl_alloc); exact rfl; intro _)
      | ((with_reducible apply wl_storen_box); exact rfl; exact rfl; (repeat first | exact .hd | apply Sel.tl | apply In.tl); exact rfl; exact rfl; exact rfl)
      | ((with_reducible apply wl_putn_box); exact rfl; exact rfl; (repeat first | exact .hd | apply Sel.tl | apply In.tl); exact rfl; exact rfl; exact rfl; exact rfl)
      | ((with_reducible apply wl_buildSlice); exact rfl; exact rfl; exact rfl; exact rfl; exact rfl; exact rfl; exact rfl; intro _)
      | ((with_reducible apply wl_gsplit) <;> first | exact rfl | (intro hb; (replace hb := Tidy.out hb; try (exfalso; omega))))
      | (with_reducible first | apply wl_nil | apply thn_n | apply w_seq | apply w_region | apply w_ret | apply w_skip | apply w_exit | apply w_block | apply thn_r | apply thn_e | apply blk_n | apply blk_r | apply blk_e | apply wx_nil)
      | ((with_reducible apply w_cond_true); exact rfl)
      | ((with_reducible apply w_cond_false); exact rfl)
      | ((with_reducible apply w_cond) <;> first | exact rfl | (intro hb; (replace hb := Tidy.out hb; try (exfalso; omega))))
      | ((with_reducible apply blk_x); exact rfl)
      | ((with_reducible apply wx_v); exact rfl; exact rfl; exact rfl; (intro D ht; (first | ((with_reducible apply vop_ok); exact rfl) | ((with_reducible apply v_fieldAddr); exact rfl) | ((with_reducible apply v_len); exact rfl) | ((with_reducible apply v_lens); exact rfl) | ((with_reducible apply v_load_box); exact rfl; (repeat first | exact .hd | apply Sel.tl | apply In.tl); exact rfl) | ((with_reducible apply v_loadw_box); exact rfl; (repeat first | exact .hd | apply Sel.tl | apply In.tl); exact rfl) | ((with_reducible apply v_loadn_box); exact rfl; (repeat first | exact .hd | apply Sel.tl | apply In.tl); exact rfl; exact rfl) | ((with_reducible apply v_build); exact rfl; exact rfl; exact rfl))); exact fun _ => rfl)
      | ((with_reducible apply wx_gno); exact rfl; exact rfl; exact rfl; exact fun _ => rfl))
    intro D hD
    have n4 := hD 4 (by decide)
    have n6 := hD 6 (by decide)
    have n8 := hD 8 (by decide)
    have n10 := hD 10 (by decide)
    have n12 := hD 12 (by decide)
    (simp only [gat, put, upd, Nat.reduceEqDiff, Nat.reduceAdd, reduceIte, n4, n6, n8, n10, n12, cond_true, cond_false, List.nil_append, List.cons_append, Bool.and_true, Bool.and_false, Bool.true_and, Bool.false_and])
    repeat' (first
      | ((with_reducible apply wl_buildAr); exact rfl; exact rfl; exact rfl; exact rfl; exact rfl; exact rfl)
      | ((with_reducible apply wl_v); exact rfl; (first | ((with_reducible apply vop_ok); exact rfl) | ((with_reducible apply v_fieldAddr); exact rfl) | ((with_reducible apply v_len); exact rfl) | ((with_reducible apply v_lens); exact rfl) | ((with_reducible apply v_load_box); exact rfl; (repeat first | exact .hd | apply Sel.tl | apply In.tl); exact rfl) | ((with_reducible apply v_loadw_box); exact rfl; (repeat first | exact .hd | apply Sel.tl | apply In.tl); exact rfl) | ((with_reducible apply v_loadn_box); exact rfl; (repeat first | exact .hd | apply Sel.tl | apply In.tl); exact rfl; exact rfl) | ((with_reducible apply v_build); exact rfl; exact rfl; exact rfl)))
      | ((with_reducible apply wl_gyes); exact rfl; exact rfl)
      | ((with_reducible apply wl_gno_b); exact rfl; exact rfl; exact rfl; exact rfl)
      | ((with_reducible apply wl_gno_u); exact rfl; exact rfl; exact rfl)
      | ((with_reducible apply wl_alloc); exact rfl; intro _)
      | ((with_reducible apply wl_storen_box); exact rfl; exact rfl; (repeat first | exact .hd | apply Sel.tl | apply In.tl); exact rfl; exact rfl; exact rfl)
      | ((with_reducible apply wl_putn_box); exact rfl; exact rfl; (repeat first | exact .hd | apply Sel.tl | apply In.tl); exact rfl; exact rfl; exact rfl; exact rfl)
      | ((with_reducible apply wl_buildSlice); exact rfl; exact rfl; exact rfl; exact rfl; exact rfl; exact rfl; exact rfl; intro _)
      | ((with_reducible apply wl_gsplit) <;> first | exact rfl | (intro hb; (replace hb := Tidy.out hb; try (exfalso; omega))))
      | (with_reducible first | apply wl_nil | apply thn_n | apply w_seq | apply w_region | apply w_ret | apply w_skip | apply w_exit | apply w_block | apply thn_r | apply thn_e | apply blk_n | apply blk_r | apply blk_e)
      | ((with_reducible apply w_cond_true); exact rfl)
      | ((with_reducible apply w_cond_false); exact rfl)
      | ((with_reducible apply w_cond) <;> first | exact rfl | (intro hb; (replace hb := Tidy.out hb; try (exfalso; omega))))
      | ((with_reducible apply blk_x); exact rfl))
    refine w_loopK [1, 2, 3, 4, 5, 9, 10, 187] rfl (fun q : Nat => [(188, .int .i64 (q : Int))]) (fun _ => .own (some g9) 40 11 9 9 (xKinds.flatMap encN) :: .box g1 40 (encN xFive) :: .box g2 40 (encN xRef8) :: .box g3 40 (encN xWide) :: .box g4 40 (encN xPlus) :: .box g5 40 (encN xNeg8) :: []) (fun q => q ≤ 5) (fun q => 5 - q) 0 (by omega) (by (repeat (first | exact Sub.nil _ | refine Sub.cons rfl ?_))) (by (repeat (first | exact MSub.nil _ | refine MSub.pick (by (repeat first | exact .hd | apply Sel.tl | apply In.tl)) ?_ | exact MSub.refl _ | refine MSub.drop .hd ?_))) ?_
    intro q hq
    by_cases hq1 : q < 5
    · have hpk := flat_elem encN_len (xFives x) q hq1
      have wpk := xFives_wf wxi _ (List.getElem_mem (show q < (xFives x).length from hq1))
      generalize (xFives x)[q]'(show q < (xFives x).length from hq1) = y at hpk wpk
      have m1 := fun (v : Value) (w' : World) h => TreeMatches_at [xFive, xFive, y] (wf_cons xFive_wf (wf_cons xFive_wf (wf_one wpk))) 2 v w' h
      have m2 := fun (v : Value) (w' : World) h => TreeMatches_at [y] (wf_one wpk) 0 v w' h
      have m3 := fun (v : Value) (w' : World) h => TreeMatches_at [xRef8, y] (wf_cons xRef8_wf (wf_one wpk)) 1 v w' h
      repeat' (first
        | ((with_reducible apply wl_v (d := 190)); exact rfl; (with_reducible apply v_index_agg (ys := encN y)); exact rfl; exact rfl; exact hq1; exact hpk)
        | ((with_reducible apply wl_callp (f := 52)); exact rfl; exact rfl; (intro w' h; exact row_at (some _) _ _ w'))
        | ((with_reducible apply wl_callp (d := 196)); exact rfl; exact rfl; (intro w' h; exact m1 _ w' (Reads.of_own (A := some _) h (by (repeat first | exact .hd | apply Sel.tl | apply In.tl)))))
        | ((with_reducible apply wl_callp (d := 202)); exact rfl; exact rfl; (intro w' h; exact m2 _ w' (Reads.of_own (A := some _) h (by (repeat first | exact .hd | apply Sel.tl | apply In.tl)))))
        | ((with_reducible apply wl_callp (d := 210)); exact rfl; exact rfl; (intro w' h; exact m3 _ w' (Reads.of_own (A := some _) h (by (repeat first | exact .hd | apply Sel.tl | apply In.tl)))))
        | ((with_reducible apply wl_v); exact rfl; (first | ((with_reducible apply vop_ok); exact rfl) | ((with_reducible apply v_fieldAddr); exact rfl) | ((with_reducible apply v_len); exact rfl) | ((with_reducible apply v_lens); exact rfl) | ((with_reducible apply v_load_box); exact rfl; (repeat first | exact .hd | apply Sel.tl | apply In.tl); exact rfl) | ((with_reducible apply v_loadw_box); exact rfl; (repeat first | exact .hd | apply Sel.tl | apply In.tl); exact rfl) | ((with_reducible apply v_loadn_box); exact rfl; (repeat first | exact .hd | apply Sel.tl | apply In.tl); exact rfl; exact rfl) | ((with_reducible apply v_build); exact rfl; exact rfl; exact rfl)))
        | ((with_reducible apply wl_gyes); exact rfl; exact rfl)
        | ((with_reducible apply wl_gno_b); exact rfl; exact rfl; exact rfl; exact rfl)
        | ((with_reducible apply wl_gno_u); exact rfl; exact rfl; exact rfl)
        | ((with_reducible apply wl_alloc); exact rfl; intro _)
        | ((with_reducible apply wl_storen_box); exact rfl; exact rfl; (repeat first | exact .hd | apply Sel.tl | apply In.tl); exact rfl; exact rfl; exact rfl)
        | ((with_reducible apply wl_putn_box); exact rfl; exact rfl; (repeat first | exact .hd | apply Sel.tl | apply In.tl); exact rfl; exact rfl; exact rfl; exact rfl)
        | ((with_reducible apply wl_buildSlice); exact rfl; exact rfl; exact rfl; exact rfl; exact rfl; exact rfl; exact rfl; intro _)
        | ((with_reducible apply wl_gsplit) <;> first | exact rfl | (intro hb; (replace hb := Tidy.out hb; try (exfalso; omega))))
        | (with_reducible first | apply wl_nil | apply thn_n | apply w_seq | apply w_region | apply w_ret | apply w_skip | apply w_exit | apply w_block | apply thn_r | apply thn_e | apply blk_n | apply blk_r | apply blk_e)
        | ((with_reducible apply w_cond_true); exact rfl)
        | ((with_reducible apply w_cond_false); exact rfl)
        | ((with_reducible apply w_cond) <;> first | exact rfl | (intro hb; (replace hb := Tidy.out hb; try (exfalso; omega))))
        | ((with_reducible apply blk_x); exact rfl)
        | ((with_reducible apply wl_v); exact rfl; (with_reducible apply v_succN); exact rfl; exact rfl; (simp only [maxLen] at *; omega))
        | ((with_reducible apply wl_v); exact rfl; (with_reducible apply v_1addN); exact rfl; exact rfl; (simp only [maxLen] at *; omega))
        | ((with_reducible apply wl_v); exact rfl; (with_reducible apply v_addN); exact rfl; exact rfl; (simp only [maxLen] at *; omega))
        | ((with_reducible apply wl_v); exact rfl; (with_reducible apply v_predN); exact rfl; exact rfl; omega; (simp only [maxLen] at *; omega))
        | ((with_reducible apply wl_v); exact rfl; (with_reducible apply v_subN); exact rfl; exact rfl; omega; (simp only [maxLen] at *; omega)))
      refine ⟨q + 1, ?_, (by first | omega | (dsimp only; omega)), (by (repeat (first | exact Sub.nil _ | refine Sub.cons rfl ?_))), (by (repeat (first | exact Sub.nil _ | refine Sub.cons rfl ?_))), (by (repeat (first | exact MSub.nil _ | refine MSub.pick (by (repeat first | exact .hd | apply Sel.tl | apply In.tl)) ?_ | exact MSub.refl _ | refine MSub.drop .hd ?_)))⟩
      omega
    · repeat' (first
        | ((with_reducible apply wl_v); exact rfl; (first | ((with_reducible apply vop_ok); exact rfl) | ((with_reducible apply v_fieldAddr); exact rfl) | ((with_reducible apply v_len); exact rfl) | ((with_reducible apply v_lens); exact rfl) | ((with_reducible apply v_load_box); exact rfl; (repeat first | exact .hd | apply Sel.tl | apply In.tl); exact rfl) | ((with_reducible apply v_loadw_box); exact rfl; (repeat first | exact .hd | apply Sel.tl | apply In.tl); exact rfl) | ((with_reducible apply v_loadn_box); exact rfl; (repeat first | exact .hd | apply Sel.tl | apply In.tl); exact rfl; exact rfl) | ((with_reducible apply v_build); exact rfl; exact rfl; exact rfl)))
        | ((with_reducible apply wl_gyes); exact rfl; exact rfl)
        | ((with_reducible apply wl_gno_b); exact rfl; exact rfl; exact rfl; exact rfl)
        | ((with_reducible apply wl_gno_u); exact rfl; exact rfl; exact rfl)
        | ((with_reducible apply wl_alloc); exact rfl; intro _)
        | ((with_reducible apply wl_storen_box); exact rfl; exact rfl; (repeat first | exact .hd | apply Sel.tl | apply In.tl); exact rfl; exact rfl; exact rfl)
        | ((with_reducible apply wl_putn_box); exact rfl; exact rfl; (repeat first | exact .hd | apply Sel.tl | apply In.tl); exact rfl; exact rfl; exact rfl; exact rfl)
        | ((with_reducible apply wl_buildSlice); exact rfl; exact rfl; exact rfl; exact rfl; exact rfl; exact rfl; exact rfl; intro _)
        | ((with_reducible apply wl_gsplit) <;> first | exact rfl | (intro hb; (replace hb := Tidy.out hb; try (exfalso; omega))))
        | (with_reducible first | apply wl_nil | apply thn_n | apply w_seq | apply w_region | apply w_ret | apply w_skip | apply w_exit | apply w_block | apply thn_r | apply thn_e | apply blk_n | apply blk_r | apply blk_e)
        | ((with_reducible apply w_cond_true); exact rfl)
        | ((with_reducible apply w_cond_false); exact rfl)
        | ((with_reducible apply w_cond) <;> first | exact rfl | (intro hb; (replace hb := Tidy.out hb; try (exfalso; omega))))
        | ((with_reducible apply blk_x); exact rfl)
        | ((with_reducible apply wl_v); exact rfl; (with_reducible apply v_succN); exact rfl; exact rfl; (simp only [maxLen] at *; omega))
        | ((with_reducible apply wl_v); exact rfl; (with_reducible apply v_1addN); exact rfl; exact rfl; (simp only [maxLen] at *; omega))
        | ((with_reducible apply wl_v); exact rfl; (with_reducible apply v_addN); exact rfl; exact rfl; (simp only [maxLen] at *; omega))
        | ((with_reducible apply wl_v); exact rfl; (with_reducible apply v_predN); exact rfl; exact rfl; omega; (simp only [maxLen] at *; omega))
        | ((with_reducible apply wl_v); exact rfl; (with_reducible apply v_subN); exact rfl; exact rfl; omega; (simp only [maxLen] at *; omega)))
      refine ⟨i + 1, ?_, (by first | omega | (dsimp only; omega)), (by (repeat (first | exact Sub.nil _ | refine Sub.cons rfl ?_))), (by (repeat (first | exact Sub.nil _ | refine Sub.cons rfl ?_))), (by (repeat (first | exact MSub.nil _ | refine MSub.pick (by (repeat first | exact .hd | apply Sel.tl | apply In.tl)) ?_ | exact MSub.refl _ | refine MSub.drop .hd ?_)))⟩
      omega
  refine w_msub (H' := .box g1 40 (encN xFive) :: .box g2 40 (encN xRef8) :: .box g3 40 (encN xWide) :: .box g4 40 (encN xPlus) :: .box g5 40 (encN xNeg8) :: []) (by (repeat (first | exact MSub.nil _ | refine MSub.pick (by (repeat first | exact .hd | apply Sel.tl | apply In.tl)) ?_ | exact MSub.refl _ | refine MSub.drop .hd ?_))) ?_
  repeat' (first
    | ((with_reducible apply wl_v); exact rfl; (first | ((with_reducible apply vop_ok); exact rfl) | ((with_reducible apply v_fieldAddr); exact rfl) | ((with_reducible apply v_len); exact rfl) | ((with_reducible apply v_lens); exact rfl) | ((with_reducible apply v_load_box); exact rfl; (repeat first | exact .hd | apply Sel.tl | apply In.tl); exact rfl) | ((with_reducible apply v_loadw_box); exact rfl; (repeat first | exact .hd | apply Sel.tl | apply In.tl); exact rfl) | ((with_reducible apply v_loadn_box); exact rfl; (repeat first | exact .hd | apply Sel.tl | apply In.tl); exact rfl; exact rfl) | ((with_reducible apply v_build); exact rfl; exact rfl; exact rfl)))
    | ((with_reducible apply wl_gyes); exact rfl; exact rfl)
    | ((with_reducible apply wl_gno_b); exact rfl; exact rfl; exact rfl; exact rfl)
    | ((with_reducible apply wl_gno_u); exact rfl; exact rfl; exact rfl)
    | ((with_reducible apply wl_alloc); exact rfl; intro _)
    | ((with_reducible apply wl_storen_box); exact rfl; exact rfl; (repeat first | exact .hd | apply Sel.tl | apply In.tl); exact rfl; exact rfl; exact rfl)
    | ((with_reducible apply wl_putn_box); exact rfl; exact rfl; (repeat first | exact .hd | apply Sel.tl | apply In.tl); exact rfl; exact rfl; exact rfl; exact rfl)
    | ((with_reducible apply wl_buildSlice); exact rfl; exact rfl; exact rfl; exact rfl; exact rfl; exact rfl; exact rfl; intro _)
    | ((with_reducible apply wl_gsplit) <;> first | exact rfl | (intro hb; (replace hb := Tidy.out hb; try (exfalso; omega))))
    | (with_reducible first | apply wl_nil | apply thn_n | apply w_seq | apply w_region | apply w_ret | apply w_skip | apply w_exit | apply w_block | apply thn_r | apply thn_e | apply blk_n | apply blk_r | apply blk_e)
    | ((with_reducible apply w_cond_true); exact rfl)
    | ((with_reducible apply w_cond_false); exact rfl)
    | ((with_reducible apply w_cond) <;> first | exact rfl | (intro hb; (replace hb := Tidy.out hb; try (exfalso; omega))))
    | ((with_reducible apply blk_x); exact rfl))
  refine w_loopK [1, 2, 3, 4, 5] rfl (fun fn : Nat => [(18, .int .u8 (fn : Int))]) (fun _ => .box g1 40 (encN xFive) :: .box g2 40 (encN xRef8) :: .box g3 40 (encN xWide) :: .box g4 40 (encN xPlus) :: .box g5 40 (encN xNeg8) :: []) (fun fn => fn ≤ 52) (fun fn => 52 - fn) 0 (by omega) (by (repeat (first | exact Sub.nil _ | refine Sub.cons rfl ?_))) (by (repeat (first | exact MSub.nil _ | refine MSub.pick (by (repeat first | exact .hd | apply Sel.tl | apply In.tl)) ?_ | exact MSub.refl _ | refine MSub.drop .hd ?_))) ?_
  intro fn hfn
  by_cases hf : fn ≤ 51
  · repeat' (first
      | ((with_reducible apply wl_v); exact rfl; (first | ((with_reducible apply vop_ok); exact rfl) | ((with_reducible apply v_fieldAddr); exact rfl) | ((with_reducible apply v_len); exact rfl) | ((with_reducible apply v_lens); exact rfl) | ((with_reducible apply v_load_box); exact rfl; (repeat first | exact .hd | apply Sel.tl | apply In.tl); exact rfl) | ((with_reducible apply v_loadw_box); exact rfl; (repeat first | exact .hd | apply Sel.tl | apply In.tl); exact rfl) | ((with_reducible apply v_loadn_box); exact rfl; (repeat first | exact .hd | apply Sel.tl | apply In.tl); exact rfl; exact rfl) | ((with_reducible apply v_build); exact rfl; exact rfl; exact rfl)))
      | ((with_reducible apply wl_gyes); exact rfl; exact rfl)
      | ((with_reducible apply wl_gno_b); exact rfl; exact rfl; exact rfl; exact rfl)
      | ((with_reducible apply wl_gno_u); exact rfl; exact rfl; exact rfl)
      | ((with_reducible apply wl_alloc); exact rfl; intro _)
      | ((with_reducible apply wl_storen_box); exact rfl; exact rfl; (repeat first | exact .hd | apply Sel.tl | apply In.tl); exact rfl; exact rfl; exact rfl)
      | ((with_reducible apply wl_putn_box); exact rfl; exact rfl; (repeat first | exact .hd | apply Sel.tl | apply In.tl); exact rfl; exact rfl; exact rfl; exact rfl)
      | ((with_reducible apply wl_buildSlice); exact rfl; exact rfl; exact rfl; exact rfl; exact rfl; exact rfl; exact rfl; intro _)
      | ((with_reducible apply wl_gsplit) <;> first | exact rfl | (intro hb; (replace hb := Tidy.out hb; try (exfalso; omega))))
      | (with_reducible first | apply wl_nil | apply thn_n | apply w_seq | apply w_region | apply w_ret | apply w_skip | apply w_exit | apply w_block | apply thn_r | apply thn_e | apply blk_n | apply blk_r | apply blk_e)
      | ((with_reducible apply w_cond_true); exact rfl)
      | ((with_reducible apply w_cond_false); exact rfl)
      | ((with_reducible apply w_cond) <;> first | exact rfl | (intro hb; (replace hb := Tidy.out hb; try (exfalso; omega))))
      | ((with_reducible apply blk_x); exact rfl))
    refine w_loopK [1, 2, 3, 4, 5, 18] rfl (fun m : Nat => [(19, .int .i64 (m : Int))]) (fun _ => .box g1 40 (encN xFive) :: .box g2 40 (encN xRef8) :: .box g3 40 (encN xWide) :: .box g4 40 (encN xPlus) :: .box g5 40 (encN xNeg8) :: []) (fun m => m ≤ 19) (fun m => 19 - m) 0 (by omega) (by (repeat (first | exact Sub.nil _ | refine Sub.cons rfl ?_))) (by (repeat (first | exact MSub.nil _ | refine MSub.pick (by (repeat first | exact .hd | apply Sel.tl | apply In.tl)) ?_ | exact MSub.refl _ | refine MSub.drop .hd ?_))) ?_
    intro m hm
    by_cases hm1 : m < 19
    · repeat' (first
        | ((with_reducible apply wl_buildAr); exact rfl; exact rfl; exact rfl; exact rfl; exact rfl; exact rfl)
        | ((with_reducible apply wl_v); exact rfl; (first | ((with_reducible apply vop_ok); exact rfl) | ((with_reducible apply v_fieldAddr); exact rfl) | ((with_reducible apply v_len); exact rfl) | ((with_reducible apply v_lens); exact rfl) | ((with_reducible apply v_load_box); exact rfl; (repeat first | exact .hd | apply Sel.tl | apply In.tl); exact rfl) | ((with_reducible apply v_loadw_box); exact rfl; (repeat first | exact .hd | apply Sel.tl | apply In.tl); exact rfl) | ((with_reducible apply v_loadn_box); exact rfl; (repeat first | exact .hd | apply Sel.tl | apply In.tl); exact rfl; exact rfl) | ((with_reducible apply v_build); exact rfl; exact rfl; exact rfl)))
        | ((with_reducible apply wl_gyes); exact rfl; exact rfl)
        | ((with_reducible apply wl_gno_b); exact rfl; exact rfl; exact rfl; exact rfl)
        | ((with_reducible apply wl_gno_u); exact rfl; exact rfl; exact rfl)
        | ((with_reducible apply wl_alloc); exact rfl; intro _)
        | ((with_reducible apply wl_storen_box); exact rfl; exact rfl; (repeat first | exact .hd | apply Sel.tl | apply In.tl); exact rfl; exact rfl; exact rfl)
        | ((with_reducible apply wl_putn_box); exact rfl; exact rfl; (repeat first | exact .hd | apply Sel.tl | apply In.tl); exact rfl; exact rfl; exact rfl; exact rfl)
        | ((with_reducible apply wl_buildSlice); exact rfl; exact rfl; exact rfl; exact rfl; exact rfl; exact rfl; exact rfl; intro _)
        | ((with_reducible apply wl_gsplit) <;> first | exact rfl | (intro hb; (replace hb := Tidy.out hb; try (exfalso; omega))))
        | (with_reducible first | apply wl_nil | apply thn_n | apply w_seq | apply w_region | apply w_ret | apply w_skip | apply w_exit | apply w_block | apply thn_r | apply thn_e | apply blk_n | apply blk_r | apply blk_e)
        | ((with_reducible apply w_cond_true); exact rfl)
        | ((with_reducible apply w_cond_false); exact rfl)
        | ((with_reducible apply w_cond) <;> first | exact rfl | (intro hb; (replace hb := Tidy.out hb; try (exfalso; omega))))
        | ((with_reducible apply blk_x); exact rfl))
      refine w_loopK [1, 2, 3, 4, 5, 18, 19, 225] rfl (fun q : Nat => [(226, .int .i64 (q : Int))]) (fun _ => .box g1 40 (encN xFive) :: .box g2 40 (encN xRef8) :: .box g3 40 (encN xWide) :: .box g4 40 (encN xPlus) :: .box g5 40 (encN xNeg8) :: []) (fun q => q ≤ 3) (fun q => 3 - q) 0 (by omega) (by (repeat (first | exact Sub.nil _ | refine Sub.cons rfl ?_))) (by (repeat (first | exact MSub.nil _ | refine MSub.pick (by (repeat first | exact .hd | apply Sel.tl | apply In.tl)) ?_ | exact MSub.refl _ | refine MSub.drop .hd ?_))) ?_
      intro q hq
      by_cases hq1 : q < 3
      · have hpk := flat_elem encN_len [xFive, xRef8, xWide] q hq1
        have wpk := (show ∀ n ∈ [xFive, xRef8, xWide], wfN n by decide) _ (List.getElem_mem (show q < [xFive, xRef8, xWide].length from hq1))
        generalize [xFive, xRef8, xWide][q]'(show q < [xFive, xRef8, xWide].length from hq1) = x at hpk wpk
        repeat' (first
          | ((with_reducible apply wl_v (d := 228)); exact rfl; (with_reducible apply v_index_agg (ys := encN x)); exact rfl; exact rfl; exact hq1; exact hpk)
          | ((with_reducible apply wl_v); exact rfl; (first | ((with_reducible apply vop_ok); exact rfl) | ((with_reducible apply v_fieldAddr); exact rfl) | ((with_reducible apply v_len); exact rfl) | ((with_reducible apply v_lens); exact rfl) | ((with_reducible apply v_load_box); exact rfl; (repeat first | exact .hd | apply Sel.tl | apply In.tl); exact rfl) | ((with_reducible apply v_loadw_box); exact rfl; (repeat first | exact .hd | apply Sel.tl | apply In.tl); exact rfl) | ((with_reducible apply v_loadn_box); exact rfl; (repeat first | exact .hd | apply Sel.tl | apply In.tl); exact rfl; exact rfl) | ((with_reducible apply v_build); exact rfl; exact rfl; exact rfl)))
          | ((with_reducible apply wl_gyes); exact rfl; exact rfl)
          | ((with_reducible apply wl_gno_b); exact rfl; exact rfl; exact rfl; exact rfl)
          | ((with_reducible apply wl_gno_u); exact rfl; exact rfl; exact rfl)
          | ((with_reducible apply wl_alloc); exact rfl; intro _)
          | ((with_reducible apply wl_storen_box); exact rfl; exact rfl; (repeat first | exact .hd | apply Sel.tl | apply In.tl); exact rfl; exact rfl; exact rfl)
          | ((with_reducible apply wl_putn_box); exact rfl; exact rfl; (repeat first | exact .hd | apply Sel.tl | apply In.tl); exact rfl; exact rfl; exact rfl; exact rfl)
          | ((with_reducible apply wl_buildSlice); exact rfl; exact rfl; exact rfl; exact rfl; exact rfl; exact rfl; exact rfl; intro _)
          | ((with_reducible apply wl_gsplit) <;> first | exact rfl | (intro hb; (replace hb := Tidy.out hb; try (exfalso; omega))))
          | (with_reducible first | apply wl_nil | apply thn_n | apply w_seq | apply w_region | apply w_ret | apply w_skip | apply w_exit | apply w_block | apply thn_r | apply thn_e | apply blk_n | apply blk_r | apply blk_e)
          | ((with_reducible apply w_cond_true); exact rfl)
          | ((with_reducible apply w_cond_false); exact rfl)
          | ((with_reducible apply w_cond) <;> first | exact rfl | (intro hb; (replace hb := Tidy.out hb; try (exfalso; omega))))
          | ((with_reducible apply blk_x); exact rfl))
        rename_i g21
        refine w_nilrow 40 11 ?_
        refine w_loopK [1, 2, 3, 4, 5, 18, 19, 21, 225, 226] rfl (fun y : Nat × Option Nat × Nat => [(22, sl y.2.1 y.1 y.2.2), (23, .int .i64 (y.1 : Int))]) (fun y => .own y.2.1 40 11 y.1 y.2.2 ((List.replicate y.1 xFive).flatMap encN) :: .box g21 40 (encN x) :: .box g1 40 (encN xFive) :: .box g2 40 (encN xRef8) :: .box g3 40 (encN xWide) :: .box g4 40 (encN xPlus) :: .box g5 40 (encN xNeg8) :: []) (fun y => y.1 ≤ m) (fun y => m - y.1) (0, none, 0) (by omega) (by (repeat (first | exact Sub.nil _ | refine Sub.cons rfl ?_))) (by (repeat (first | exact MSub.nil _ | refine MSub.pick (by (repeat first | exact .hd | apply Sel.tl | apply In.tl)) ?_ | exact MSub.refl _ | refine MSub.drop .hd ?_))) ?_
        rintro ⟨k, A, cA⟩ hk
        dsimp only at hk ⊢
        by_cases hkm : k < m
        · repeat' (first
            | ((with_reducible apply wl_append1 (news := encN xFive)); exact rfl; exact rfl; exact rfl; (repeat first | exact .hd | apply Sel.tl | apply In.tl); (repeat first | exact .hd | apply Sel.tl | apply In.tl); exact rfl; (simp [encN, Value.oneCell']); omega; (simp only [maxLen]; omega); intro g8 c8)
            | ((with_reducible apply wl_v); exact rfl; (first | ((with_reducible apply vop_ok); exact rfl) | ((with_reducible apply v_fieldAddr); exact rfl) | ((with_reducible apply v_len); exact rfl) | ((with_reducible apply v_lens); exact rfl) | ((with_reducible apply v_load_box); exact rfl; (repeat first | exact .hd | apply Sel.tl | apply In.tl); exact rfl) | ((with_reducible apply v_loadw_box); exact rfl; (repeat first | exact .hd | apply Sel.tl | apply In.tl); exact rfl) | ((with_reducible apply v_loadn_box); exact rfl; (repeat first | exact .hd | apply Sel.tl | apply In.tl); exact rfl; exact rfl) | ((with_reducible apply v_build); exact rfl; exact rfl; exact rfl)))
            | ((with_reducible apply wl_gyes); exact rfl; exact rfl)
            | ((with_reducible apply wl_gno_b); exact rfl; exact rfl; exact rfl; exact rfl)
            | ((with_reducible apply wl_gno_u); exact rfl; exact rfl; exact rfl)
            | ((with_reducible apply wl_alloc); exact rfl; intro _)
            | ((with_reducible apply wl_storen_box); exact rfl; exact rfl; (repeat first | exact .hd | apply Sel.tl | apply In.tl); exact rfl; exact rfl; exact rfl)
            | ((with_reducible apply wl_putn_box); exact rfl; exact rfl; (repeat first | exact .hd | apply Sel.tl | apply In.tl); exact rfl; exact rfl; exact rfl; exact rfl)
            | ((with_reducible apply wl_buildSlice); exact rfl; exact rfl; exact rfl; exact rfl; exact rfl; exact rfl; exact rfl; intro _)
            | ((with_reducible apply wl_gsplit) <;> first | exact rfl | (intro hb; (replace hb := Tidy.out hb; try (exfalso; omega))))
            | (with_reducible first | apply wl_nil | apply thn_n | apply w_seq | apply w_region | apply w_ret | apply w_skip | apply w_exit | apply w_block | apply thn_r | apply thn_e | apply blk_n | apply blk_r | apply blk_e)
            | ((with_reducible apply w_cond_true); exact rfl)
            | ((with_reducible apply w_cond_false); exact rfl)
            | ((with_reducible apply w_cond) <;> first | exact rfl | (intro hb; (replace hb := Tidy.out hb; try (exfalso; omega))))
            | ((with_reducible apply blk_x); exact rfl)
            | ((with_reducible apply wl_v); exact rfl; (with_reducible apply v_succN); exact rfl; exact rfl; (simp only [maxLen] at *; omega))
            | ((with_reducible apply wl_v); exact rfl; (with_reducible apply v_1addN); exact rfl; exact rfl; (simp only [maxLen] at *; omega))
            | ((with_reducible apply wl_v); exact rfl; (with_reducible apply v_addN); exact rfl; exact rfl; (simp only [maxLen] at *; omega))
            | ((with_reducible apply wl_v); exact rfl; (with_reducible apply v_predN); exact rfl; exact rfl; omega; (simp only [maxLen] at *; omega))
            | ((with_reducible apply wl_v); exact rfl; (with_reducible apply v_subN); exact rfl; exact rfl; omega; (simp only [maxLen] at *; omega)))
          refine ⟨(k + 1, some g8, c8), hkm, (by dsimp only; omega), ?_, ?_, ?_⟩
          · (repeat (first | exact Sub.nil _ | refine Sub.cons rfl ?_))
          · (repeat (first | exact Sub.nil _ | refine Sub.cons rfl ?_))
          · dsimp only
            rw [List.replicate_succ', List.flatMap_append]
            (repeat (first | exact MSub.nil _ | refine MSub.pick (by (repeat first | exact .hd | apply Sel.tl | apply In.tl)) ?_ | exact MSub.refl _ | refine MSub.drop .hd ?_))
        have e : k = m := by omega
        subst e
        have hrest : ∀ (T : List Nd) (A' : Option Nat) (c' : Nat), T.length = k → (∀ n ∈ T, wfN n) → ∀ w', Reads w' (sl A' (k + 1) c') (k + 1) (T.flatMap encN ++ encN (xCall8 fn k)) → Pure Try.prog 3 [sl A' (k + 1) c', .int .i64 (k : Int)] w' (.bool true) := by
          intro T A' c' hT wT w' hr
          have h1 := TreeMatches_at (T ++ [xCall8 fn k]) (wf_app wT (wf_one (wf_call8 (by omega)))) k (sl A' (k + 1) c') w'
          rw [List.length_append, hT, List.flatMap_append] at h1
          exact h1 hr
        by_cases h0 : k = 0
        · subst h0
          have hrest0 := fun A' c' => hrest [] A' c' rfl (fun n hn => by cases hn)
          repeat' (first
            | ((with_reducible apply wl_append1 (d := 250) (news := encN (xCall8 fn 0))); exact rfl; exact rfl; exact rfl; (repeat first | exact .hd | apply Sel.tl | apply In.tl); (repeat first | exact .hd | apply Sel.tl | apply In.tl); exact rfl; (simp [encN, Value.oneCell']); omega; (simp only [maxLen]; omega); intro g8 c8)
            | ((with_reducible apply wl_callp (d := 252)); exact rfl; exact rfl; (intro w' h; exact hrest0 _ _ w' (Reads.of_own (A := some _) h (by (repeat first | exact .hd | apply Sel.tl | apply In.tl)))))
            | ((with_reducible apply wl_v); exact rfl; (first | ((with_reducible apply vop_ok); exact rfl) | ((with_reducible apply v_fieldAddr); exact rfl) | ((with_reducible apply v_len); exact rfl) | ((with_reducible apply v_lens); exact rfl) | ((with_reducible apply v_load_box); exact rfl; (repeat first | exact .hd | apply Sel.tl | apply In.tl); exact rfl) | ((with_reducible apply v_loadw_box); exact rfl; (repeat first | exact .hd | apply Sel.tl | apply In.tl); exact rfl) | ((with_reducible apply v_loadn_box); exact rfl; (repeat first | exact .hd | apply Sel.tl | apply In.tl); exact rfl; exact rfl) | ((with_reducible apply v_build); exact rfl; exact rfl; exact rfl)))
            | ((with_reducible apply wl_gyes); exact rfl; exact rfl)
            | ((with_reducible apply wl_gno_b); exact rfl; exact rfl; exact rfl; exact rfl)
            | ((with_reducible apply wl_gno_u); exact rfl; exact rfl; exact rfl)
            | ((with_reducible apply wl_alloc); exact rfl; intro _)
            | ((with_reducible apply wl_storen_box); exact rfl; exact rfl; (repeat first | exact .hd | apply Sel.tl | apply In.tl); exact rfl; exact rfl; exact rfl)
            | ((with_reducible apply wl_putn_box); exact rfl; exact rfl; (repeat first | exact .hd | apply Sel.tl | apply In.tl); exact rfl; exact rfl; exact rfl; exact rfl)
            | ((with_reducible apply wl_buildSlice); exact rfl; exact rfl; exact rfl; exact rfl; exact rfl; exact rfl; exact rfl; intro _)
            | ((with_reducible apply wl_gsplit) <;> first | exact rfl | (intro hb; (replace hb := Tidy.out hb; try (exfalso; omega))))
            | (with_reducible first | apply wl_nil | apply thn_n | apply w_seq | apply w_region | apply w_ret | apply w_skip | apply w_exit | apply w_block | apply thn_r | apply thn_e | apply blk_n | apply blk_r | apply blk_e)
            | ((with_reducible apply w_cond_true); exact rfl)
            | ((with_reducible apply w_cond_false); exact rfl)
            | ((with_reducible apply w_cond) <;> first | exact rfl | (intro hb; (replace hb := Tidy.out hb; try (exfalso; omega))))
            | ((with_reducible apply blk_x); exact rfl)
            | ((with_reducible apply wl_v); exact rfl; (with_reducible apply v_succN); exact rfl; exact rfl; (simp only [maxLen] at *; omega))
            | ((with_reducible apply wl_v); exact rfl; (with_reducible apply v_1addN); exact rfl; exact rfl; (simp only [maxLen] at *; omega))
            | ((with_reducible apply wl_v); exact rfl; (with_reducible apply v_addN); exact rfl; exact rfl; (simp only [maxLen] at *; omega))
            | ((with_reducible apply wl_v); exact rfl; (with_reducible apply v_predN); exact rfl; exact rfl; omega; (simp only [maxLen] at *; omega))
            | ((with_reducible apply wl_v); exact rfl; (with_reducible apply v_subN); exact rfl; exact rfl; omega; (simp only [maxLen] at *; omega)))
          refine ⟨q + 1, ?_, (by first | omega | (dsimp only; omega)), (by (repeat (first | exact Sub.nil _ | refine Sub.cons rfl ?_))), (by (repeat (first | exact Sub.nil _ | refine Sub.cons rfl ?_))), (by (repeat (first | exact MSub.nil _ | refine MSub.pick (by (repeat first | exact .hd | apply Sel.tl | apply In.tl)) ?_ | exact MSub.refl _ | refine MSub.drop .hd ?_)))⟩
          omega
        · refine w_some (by (repeat first | exact .hd | apply Sel.tl | apply In.tl)) (show 0 < k by omega) fun gA hgA => ?_
          subst hgA
          have hset := flat_set encN_len (List.replicate k xFive) (k / 2) (by rw [List.length_replicate]; omega) x
          have wT : ∀ n ∈ (List.replicate k xFive).set (k / 2) x, wfN n := by
            intro n hn
            rcases List.mem_or_eq_of_mem_set hn with hn | rfl
            · exact wf_rep xFive_wf n hn
            · exact wpk
          have hlT : ((List.replicate k xFive).set (k / 2) x).length = k := by simp
          have hll : ((List.replicate k xFive).flatMap encN).length = k * 11 := by rw [flat_length' encN_len, List.length_replicate]
          have hrest1 := fun A' c' => hrest _ A' c' hlT wT
          generalize (List.replicate k xFive).set (k / 2) x = T at hset hrest1
          generalize (List.replicate k xFive).flatMap encN = Y at hset hll
          repeat' (first
            | ((with_reducible apply wl_v (d := 242)); exact rfl; (with_reducible apply v_quoN (b := 2)); exact rfl; exact rfl; decide; (simp only [maxLen]; omega))
            | ((with_reducible apply wl_v (d := 244)); exact rfl; (with_reducible apply v_indexAddr (j := k / 2)); exact rfl; exact rfl; omega)
            | ((with_reducible apply wl_put_own (vs := encN x)); exact rfl; exact rfl; (repeat first | exact .hd | apply Sel.tl | apply In.tl); exact rfl; exact rfl; (simp [encN, Value.oneCell']); (rw [hll]; omega); (rw [Nat.zero_add, hset]))
            | ((with_reducible apply wl_append1 (d := 250) (news := encN (xCall8 fn k))); exact rfl; exact rfl; exact rfl; (repeat first | exact .hd | apply Sel.tl | apply In.tl); (repeat first | exact .hd | apply Sel.tl | apply In.tl); exact rfl; (simp [encN, Value.oneCell']); omega; (simp only [maxLen]; omega); intro g8 c8)
            | ((with_reducible apply wl_callp (d := 252)); exact rfl; exact rfl; (intro w' h; exact hrest1 _ _ w' (Reads.of_own (A := some _) h (by (repeat first | exact .hd | apply Sel.tl | apply In.tl)))))
            | ((with_reducible apply wl_v); exact rfl; (first | ((with_reducible apply vop_ok); exact rfl) | ((with_reducible apply v_fieldAddr); exact rfl) | ((with_reducible apply v_len); exact rfl) | ((with_reducible apply v_lens); exact rfl) | ((with_reducible apply v_load_box); exact rfl; (repeat first | exact .hd | apply Sel.tl | apply In.tl); exact rfl) | ((with_reducible apply v_loadw_box); exact rfl; (repeat first | exact .hd | apply Sel.tl | apply In.tl); exact rfl) | ((with_reducible apply v_loadn_box); exact rfl; (repeat first | exact .hd | apply Sel.tl | apply In.tl); exact rfl; exact rfl) | ((with_reducible apply v_build); exact rfl; exact rfl; exact rfl)))
            | ((with_reducible apply wl_gyes); exact rfl; exact rfl)
            | ((with_reducible apply wl_gno_b); exact rfl; exact rfl; exact rfl; exact rfl)
            | ((with_reducible apply wl_gno_u); exact rfl; exact rfl; exact rfl)
            | ((with_reducible apply wl_alloc); exact rfl; intro _)
            | ((with_reducible apply wl_storen_box); exact rfl; exact rfl; (repeat first | exact .hd | apply Sel.tl | apply In.tl); exact rfl; exact rfl; exact rfl)
            | ((with_reducible apply wl_putn_box); exact rfl; exact rfl; (repeat first | exact .hd | apply Sel.tl | apply In.tl); exact rfl; exact rfl; exact rfl; exact rfl)
            | ((with_reducible apply wl_buildSlice); exact rfl; exact rfl; exact rfl; exact rfl; exact rfl; exact rfl; exact rfl; intro _)
            | ((with_reducible apply wl_gsplit) <;> first | exact rfl | (intro hb; (replace hb := Tidy.out hb; try (exfalso; omega))))
            | (with_reducible first | apply wl_nil | apply thn_n | apply w_seq | apply w_region | apply w_ret | apply w_skip | apply w_exit | apply w_block | apply thn_r | apply thn_e | apply blk_n | apply blk_r | apply blk_e)
            | ((with_reducible apply w_cond_true); exact rfl)
            | ((with_reducible apply w_cond_false); exact rfl)
            | ((with_reducible apply w_cond) <;> first | exact rfl | (intro hb; (replace hb := Tidy.out hb; try (exfalso; omega))))
            | ((with_reducible apply blk_x); exact rfl)
            | ((with_reducible apply wl_v); exact rfl; (with_reducible apply v_succN); exact rfl; exact rfl; (simp only [maxLen] at *; omega))
            | ((with_reducible apply wl_v); exact rfl; (with_reducible apply v_1addN); exact rfl; exact rfl; (simp only [maxLen] at *; omega))
            | ((with_reducible apply wl_v); exact rfl; (with_reducible apply v_addN); exact rfl; exact rfl; (simp only [maxLen] at *; omega))
            | ((with_reducible apply wl_v); exact rfl; (with_reducible apply v_predN); exact rfl; exact rfl; omega; (simp only [maxLen] at *; omega))
            | ((with_reducible apply wl_v); exact rfl; (with_reducible apply v_subN); exact rfl; exact rfl; omega; (simp only [maxLen] at *; omega)))
          refine ⟨q + 1, ?_, (by first | omega | (dsimp only; omega)), (by (repeat (first | exact Sub.nil _ | refine Sub.cons rfl ?_))), (by (repeat (first | exact Sub.nil _ | refine Sub.cons rfl ?_))), (by (repeat (first | exact MSub.nil _ | refine MSub.pick (by (repeat first | exact .hd | apply Sel.tl | apply In.tl)) ?_ | exact MSub.refl _ | refine MSub.drop .hd ?_)))⟩
          omega
      · repeat' (first
          | ((with_reducible apply wl_v (d := 257)); exact rfl; (with_reducible apply v_sub); exact rfl; exact rfl; exact ⟨by omega, by omega⟩)
          | ((with_reducible apply wl_callp (d := 258)); exact rfl; exact rfl; (intro w' h; exact TreeFunctions_at fn _ _ (by omega) (by omega) w'))
          | ((with_reducible apply wl_v); exact rfl; (first | ((with_reducible apply vop_ok); exact rfl) | ((with_reducible apply v_fieldAddr); exact rfl) | ((with_reducible apply v_len); exact rfl) | ((with_reducible apply v_lens); exact rfl) | ((with_reducible apply v_load_box); exact rfl; (repeat first | exact .hd | apply Sel.tl | apply In.tl); exact rfl) | ((with_reducible apply v_loadw_box); exact rfl; (repeat first | exact .hd | apply Sel.tl | apply In.tl); exact rfl) | ((with_reducible apply v_loadn_box); exact rfl; (repeat first | exact .hd | apply Sel.tl | apply In.tl); exact rfl; exact rfl) | ((with_reducible apply v_build); exact rfl; exact rfl; exact rfl)))
          | ((with_reducible apply wl_gyes); exact rfl; exact rfl)
          | ((with_reducible apply wl_gno_b); exact rfl; exact rfl; exact rfl; exact rfl)
          | ((with_reducible apply wl_gno_u); exact rfl; exact rfl; exact rfl)
          | ((with_reducible apply wl_alloc); exact rfl; intro _)
          | ((with_reducible apply wl_storen_box); exact rfl; exact rfl; (repeat first | exact .hd | apply Sel.tl | apply In.tl); exact rfl; exact rfl; exact rfl)
          | ((with_reducible apply wl_putn_box); exact rfl; exact rfl; (repeat first | exact .hd | apply Sel.tl | apply In.tl); exact rfl; exact rfl; exact rfl; exact rfl)
          | ((with_reducible apply wl_buildSlice); exact rfl; exact rfl; exact rfl; exact rfl; exact rfl; exact rfl; exact rfl; intro _)
          | ((with_reducible apply wl_gsplit) <;> first | exact rfl | (intro hb; (replace hb := Tidy.out hb; try (exfalso; omega))))
          | (with_reducible first | apply wl_nil | apply thn_n | apply w_seq | apply w_region | apply w_ret | apply w_skip | apply w_exit | apply w_block | apply thn_r | apply thn_e | apply blk_n | apply blk_r | apply blk_e)
          | ((with_reducible apply w_cond_true); exact rfl)
          | ((with_reducible apply w_cond_false); exact rfl)
          | ((with_reducible apply w_cond) <;> first | exact rfl | (intro hb; (replace hb := Tidy.out hb; try (exfalso; omega))))
          | ((with_reducible apply blk_x); exact rfl)
          | ((with_reducible apply wl_v); exact rfl; (with_reducible apply v_succN); exact rfl; exact rfl; (simp only [maxLen] at *; omega))
          | ((with_reducible apply wl_v); exact rfl; (with_reducible apply v_1addN); exact rfl; exact rfl; (simp only [maxLen] at *; omega))
          | ((with_reducible apply wl_v); exact rfl; (with_reducible apply v_addN); exact rfl; exact rfl; (simp only [maxLen] at *; omega))
          | ((with_reducible apply wl_v); exact rfl; (with_reducible apply v_predN); exact rfl; exact rfl; omega; (simp only [maxLen] at *; omega))
          | ((with_reducible apply wl_v); exact rfl; (with_reducible apply v_subN); exact rfl; exact rfl; omega; (simp only [maxLen] at *; omega)))
        refine ⟨m + 1, ?_, (by first | omega | (dsimp only; omega)), (by (repeat (first | exact Sub.nil _ | refine Sub.cons rfl ?_))), (by (repeat (first | exact Sub.nil _ | refine Sub.cons rfl ?_))), (by (repeat (first | exact MSub.nil _ | refine MSub.pick (by (repeat first | exact .hd | apply Sel.tl | apply In.tl)) ?_ | exact MSub.refl _ | refine MSub.drop .hd ?_)))⟩
        omega
    · repeat' (first
        | ((with_reducible apply wl_v (d := 217)); exact rfl; (with_reducible apply v_addw_id (c := ((fn + 1 : Nat) : Int))); exact rfl; exact rfl; (rw [wrap_u8 (by omega) (by omega)]; omega))
        | ((with_reducible apply wl_v); exact rfl; (first | ((with_reducible apply vop_ok); exact rfl) | ((with_reducible apply v_fieldAddr); exact rfl) | ((with_reducible apply v_len); exact rfl) | ((with_reducible apply v_lens); exact rfl) | ((with_reducible apply v_load_box); exact rfl; (repeat first | exact .hd | apply Sel.tl | apply In.tl); exact rfl) | ((with_reducible apply v_loadw_box); exact rfl; (repeat first | exact .hd | apply Sel.tl | apply In.tl); exact rfl) | ((with_reducible apply v_loadn_box); exact rfl; (repeat first | exact .hd | apply Sel.tl | apply In.tl); exact rfl; exact rfl) | ((with_reducible apply v_build); exact rfl; exact rfl; exact rfl)))
        | ((with_reducible apply wl_gyes); exact rfl; exact rfl)
        | ((with_reducible apply wl_gno_b); exact rfl; exact rfl; exact rfl; exact rfl)
        | ((with_reducible apply wl_gno_u); exact rfl; exact rfl; exact rfl)
        | ((with_reducible apply wl_alloc); exact rfl; intro _)
        | ((with_reducible apply wl_storen_box); exact rfl; exact rfl; (repeat first | exact .hd | apply Sel.tl | apply In.tl); exact rfl; exact rfl; exact rfl)
        | ((with_reducible apply wl_putn_box); exact rfl; exact rfl; (repeat first | exact .hd | apply Sel.tl | apply In.tl); exact rfl; exact rfl; exact rfl; exact rfl)
        | ((with_reducible apply wl_buildSlice); exact rfl; exact rfl; exact rfl; exact rfl; exact rfl; exact rfl; exact rfl; intro _)
        | ((with_reducible apply wl_gsplit) <;> first | exact rfl | (intro hb; (replace hb := Tidy.out hb; try (exfalso; omega))))
        | (with_reducible first | apply wl_nil | apply thn_n | apply w_seq | apply w_region | apply w_ret | apply w_skip | apply w_exit | apply w_block | apply thn_r | apply thn_e | apply blk_n | apply blk_r | apply blk_e)
        | ((with_reducible apply w_cond_true); exact rfl)
        | ((with_reducible apply w_cond_false); exact rfl)
        | ((with_reducible apply w_cond) <;> first | exact rfl | (intro hb; (replace hb := Tidy.out hb; try (exfalso; omega))))
        | ((with_reducible apply blk_x); exact rfl))
      refine ⟨fn + 1, ?_, (by first | omega | (dsimp only; omega)), (by (repeat (first | exact Sub.nil _ | refine Sub.cons rfl ?_))), (by (repeat (first | exact Sub.nil _ | refine Sub.cons rfl ?_))), (by (repeat (first | exact MSub.nil _ | refine MSub.pick (by (repeat first | exact .hd | apply Sel.tl | apply In.tl)) ?_ | exact MSub.refl _ | refine MSub.drop .hd ?_)))⟩
      omega
  repeat' (first
    | ((with_reducible apply wl_v); exact rfl; (first | ((with_reducible apply vop_ok); exact rfl) | ((with_reducible apply v_fieldAddr); exact rfl) | ((with_reducible apply v_len); exact rfl) | ((with_reducible apply v_lens); exact rfl) | ((with_reducible apply v_load_box); exact rfl; (repeat first | exact .hd | apply Sel.tl | apply In.tl); exact rfl) | ((with_reducible apply v_loadw_box); exact rfl; (repeat first | exact .hd | apply Sel.tl | apply In.tl); exact rfl) | ((with_reducible apply v_loadn_box); exact rfl; (repeat first | exact .hd | apply Sel.tl | apply In.tl); exact rfl; exact rfl) | ((with_reducible apply v_build); exact rfl; exact rfl; exact rfl)))
    | ((with_reducible apply wl_gyes); exact rfl; exact rfl)
    | ((with_reducible apply wl_gno_b); exact rfl; exact rfl; exact rfl; exact rfl)
    | ((with_reducible apply wl_gno_u); exact rfl; exact rfl; exact rfl)
    | ((with_reducible apply wl_alloc); exact rfl; intro _)
    | ((with_reducible apply wl_storen_box); exact rfl; exact rfl; (repeat first | exact .hd | apply Sel.tl | apply In.tl); exact rfl; exact rfl; exact rfl)
    | ((with_reducible apply wl_putn_box); exact rfl; exact rfl; (repeat first | exact .hd | apply Sel.tl | apply In.tl); exact rfl; exact rfl; exact rfl; exact rfl)
    | ((with_reducible apply wl_buildSlice); exact rfl; exact rfl; exact rfl; exact rfl; exact rfl; exact rfl; exact rfl; intro _)
    | ((with_reducible apply wl_gsplit) <;> first | exact rfl | (intro hb; (replace hb := Tidy.out hb; try (exfalso; omega))))
    | (with_reducible first | apply wl_nil | apply thn_n | apply w_seq | apply w_region | apply w_ret | apply w_skip | apply w_exit | apply w_block | apply thn_r | apply thn_e | apply blk_n | apply blk_r | apply blk_e)
    | ((with_reducible apply w_cond_true); exact rfl)
    | ((with_reducible apply w_cond_false); exact rfl)
    | ((with_reducible apply w_cond) <;> first | exact rfl | (intro hb; (replace hb := Tidy.out hb; try (exfalso; omega))))
    | ((with_reducible apply blk_x); exact rfl))
  refine w_nilrow 0 0 ?_
  refine w_nilrow 0 0 ?_
  refine w_drawXg (id := 46) (fun | 1 => some fun g => .slice (some ⟨g.2, 0, none⟩) 1 1 | 4 => some fun g => .slice (some ⟨g.2, 0, none⟩) 1 1 | _ => none)
    (fun (D : Done) (q : Nat → Gh) => (bif D 1 then Blk.own (some (q 1).2) 40 11 1 1 ([xFive].flatMap encN) else nilB) :: (bif D 4 then Blk.own (some (q 4).2) 40 11 1 1 ([xFive].flatMap encN) else nilB) :: .box g1 40 (encN xFive) :: .box g2 40 (encN xRef8) :: .box g3 40 (encN xWide) :: .box g4 40 (encN xPlus) :: .box g5 40 (encN xNeg8) :: []) ?_ ?_ ?_ ?_
  · kernel_rfl
  · kernel_rfl
  · intro γ
    (repeat (first | exact MSub.nil _ | refine MSub.pick (by (repeat first | exact .hd | apply Sel.tl | apply In.tl)) ?_ | exact MSub.refl _ | refine MSub.drop .hd ?_))
  intro γ
  repeat' (first
    | ((with_reducible apply wl_v); exact rfl; (first | ((with_reducible apply vop_ok); exact rfl) | ((with_reducible apply v_fieldAddr); exact rfl) | ((with_reducible apply v_len); exact rfl) | ((with_reducible apply v_lens); exact rfl) | ((with_reducible apply v_load_box); exact rfl; (repeat first | exact .hd | apply Sel.tl | apply In.tl); exact rfl) | ((with_reducible apply v_loadw_box); exact rfl; (repeat first | exact .hd | apply Sel.tl | apply In.tl); exact rfl) | ((with_reducible apply v_loadn_box); exact rfl; (repeat first | exact .hd | apply Sel.tl | apply In.tl); exact rfl; exact rfl) | ((with_reducible apply v_build); exact rfl; exact rfl; exact rfl)))
    | ((with_reducible apply wl_gyes); exact rfl; exact rfl)
    | ((with_reducible apply wl_gno_b); exact rfl; exact rfl; exact rfl; exact rfl)
    | ((with_reducible apply wl_gno_u); exact rfl; exact rfl; exact rfl)
    | ((with_reducible apply wl_alloc); exact rfl; intro _)
    | ((with_reducible apply wl_storen_box); exact rfl; exact rfl; (repeat first | exact .hd | apply Sel.tl | apply In.tl); exact rfl; exact rfl; exact rfl)
    | ((with_reducible apply wl_putn_box); exact rfl; exact rfl; (repeat first | exact .hd | apply Sel.tl | apply In.tl); exact rfl; exact rfl; exact rfl; exact rfl)
    | ((with_reducible apply wl_buildSlice); exact rfl; exact rfl; exact rfl; exact rfl; exact rfl; exact rfl; exact rfl; intro _)
    | ((with_reducible apply wl_gsplit) <;> first | exact rfl | (intro hb; (replace hb := Tidy.out hb; try (exfalso; omega))))
    | (with_reducible first | apply wl_nil | apply thn_n | apply w_seq | apply w_region | apply w_ret | apply w_skip | apply w_exit | apply w_block | apply thn_r | apply thn_e | apply blk_n | apply blk_r | apply blk_e | apply wx_nil)
    | ((with_reducible apply w_cond_true); exact rfl)
    | ((with_reducible apply w_cond_false); exact rfl)
    | ((with_reducible apply w_cond) <;> first | exact rfl | (intro hb; (replace hb := Tidy.out hb; try (exfalso; omega))))
    | ((with_reducible apply blk_x); exact rfl)
    | ((with_reducible apply wx_v); exact rfl; exact rfl; exact rfl; (intro D ht; (first | ((with_reducible apply vop_ok); exact rfl) | ((with_reducible apply v_fieldAddr); exact rfl) | ((with_reducible apply v_len); exact rfl) | ((with_reducible apply v_lens); exact rfl) | ((with_reducible apply v_load_box); exact rfl; (repeat first | exact .hd | apply Sel.tl | apply In.tl); exact rfl) | ((with_reducible apply v_loadw_box); exact rfl; (repeat first | exact .hd | apply Sel.tl | apply In.tl); exact rfl) | ((with_reducible apply v_loadn_box); exact rfl; (repeat first | exact .hd | apply Sel.tl | apply In.tl); exact rfl; exact rfl) | ((with_reducible apply v_build); exact rfl; exact rfl; exact rfl))); exact fun _ => rfl)
    | ((with_reducible apply wx_gno); exact rfl; exact rfl; exact rfl; exact fun _ => rfl))
  refine wx_non rfl rfl rfl (fun D ht => ?_) ?_
  · have n1 : D 1 = false := ht.not
    (simp only [gat, put, upd, Nat.reduceEqDiff, Nat.reduceAdd, reduceIte, n1, cond_true, cond_false, List.nil_append, List.cons_append, Bool.and_true, Bool.and_false, Bool.true_and, Bool.false_and])
    (with_reducible apply wl_buildSlice); exact rfl; exact rfl; exact rfl; exact rfl; exact rfl; exact rfl; exact rfl; intro g
    refine wl_nil ⟨rfl, (none, g), rfl, ?_⟩
    (simp only [gat, put, upd, Nat.reduceEqDiff, Nat.reduceAdd, reduceIte, n1, cond_true, cond_false, List.nil_append, List.cons_append, Bool.and_true, Bool.and_false, Bool.true_and, Bool.false_and])
    (repeat (first | exact MSub.nil _ | refine MSub.pick (by (repeat first | exact .hd | apply Sel.tl | apply In.tl)) ?_ | exact MSub.refl _ | refine MSub.drop .hd ?_))
  repeat' (first
    | ((with_reducible apply wx_callp (f := 52)); exact rfl; exact rfl; exact rfl; (decide +kernel); exact rfl; (intro D ht w' h; exact row_at (some _) _ _ w'); exact fun _ => rfl)
    | ((with_reducible apply wl_v); exact rfl; (first | ((with_reducible apply vop_ok); exact rfl) | ((with_reducible apply v_fieldAddr); exact rfl) | ((with_reducible apply v_len); exact rfl) | ((with_reducible apply v_lens); exact rfl) | ((with_reducible apply v_load_box); exact rfl; (repeat first | exact .hd | apply Sel.tl | apply In.tl); exact rfl) | ((with_reducible apply v_loadw_box); exact rfl; (repeat first | exact .hd | apply Sel.tl | apply In.tl); exact rfl) | ((with_reducible apply v_loadn_box); exact rfl; (repeat first | exact .hd | apply Sel.tl | apply In.tl); exact rfl; exact rfl) | ((with_reducible apply v_build); exact rfl; exact rfl; exact rfl)))
    | ((with_reducible apply wl_gyes); exact rfl; exact rfl)
    | ((with_reducible apply wl_gno_b); exact rfl; exact rfl; exact rfl; exact rfl)
    | ((with_reducible apply wl_gno_u); exact rfl; exact rfl; exact rfl)
    | ((with_reducible apply wl_alloc); exact rfl; intro _)
    | ((with_reducible apply wl_storen_box); exact rfl; exact rfl; (repeat first | exact .hd | apply Sel.tl | apply In.tl); exact rfl; exact rfl; exact rfl)
    | ((with_reducible apply wl_putn_box); exact rfl; exact rfl; (repeat first | exact .hd | apply Sel.tl | apply In.tl); exact rfl; exact rfl; exact rfl; exact rfl)
    | ((with_reducible apply wl_buildSlice); exact rfl; exact rfl; exact rfl; exact rfl; exact rfl; exact rfl; exact rfl; intro _)
    | ((with_reducible apply wl_gsplit) <;> first | exact rfl | (intro hb; (replace hb := Tidy.out hb; try (exfalso; omega))))
    | (with_reducible first | apply wl_nil | apply thn_n | apply w_seq | apply w_region | apply w_ret | apply w_skip | apply w_exit | apply w_block | apply thn_r | apply thn_e | apply blk_n | apply blk_r | apply blk_e | apply wx_nil)
    | ((with_reducible apply w_cond_true); exact rfl)
    | ((with_reducible apply w_cond_false); exact rfl)
    | ((with_reducible apply w_cond) <;> first | exact rfl | (intro hb; (replace hb := Tidy.out hb; try (exfalso; omega))))
    | ((with_reducible apply blk_x); exact rfl)
    | ((with_reducible apply wx_v); exact rfl; exact rfl; exact rfl; (intro D ht; (first | ((with_reducible apply vop_ok); exact rfl) | ((with_reducible apply v_fieldAddr); exact rfl) | ((with_reducible apply v_len); exact rfl) | ((with_reducible apply v_lens); exact rfl) | ((with_reducible apply v_load_box); exact rfl; (repeat first | exact .hd | apply Sel.tl | apply In.tl); exact rfl) | ((with_reducible apply v_loadw_box); exact rfl; (repeat first | exact .hd | apply Sel.tl | apply In.tl); exact rfl) | ((with_reducible apply v_loadn_box); exact rfl; (repeat first | exact .hd | apply Sel.tl | apply In.tl); exact rfl; exact rfl) | ((with_reducible apply v_build); exact rfl; exact rfl; exact rfl))); exact fun _ => rfl)
    | ((with_reducible apply wx_gno); exact rfl; exact rfl; exact rfl; exact fun _ => rfl))
  refine wx_non rfl rfl rfl (fun D ht => ?_) ?_
  · have n4 : D 4 = false := ht.not
    (simp only [gat, put, upd, Nat.reduceEqDiff, Nat.reduceAdd, reduceIte, n4, cond_true, cond_false, List.nil_append, List.cons_append, Bool.and_true, Bool.and_false, Bool.true_and, Bool.false_and])
    (with_reducible apply wl_buildSlice); exact rfl; exact rfl; exact rfl; exact rfl; exact rfl; exact rfl; exact rfl; intro g
    refine wl_nil ⟨rfl, (none, g), rfl, ?_⟩
    (simp only [gat, put, upd, Nat.reduceEqDiff, Nat.reduceAdd, reduceIte, n4, cond_true, cond_false, List.nil_append, List.cons_append, Bool.and_true, Bool.and_false, Bool.true_and, Bool.false_and])
    (repeat (first | exact MSub.nil _ | refine MSub.pick (by (repeat first | exact .hd | apply Sel.tl | apply In.tl)) ?_ | exact MSub.refl _ | refine MSub.drop .hd ?_))
  repeat' (first
    | ((with_reducible apply wx_callp (f := 52)); exact rfl; exact rfl; exact rfl; (decide +kernel); exact rfl; (intro D ht w' h; exact row_at (some _) _ _ w'); exact fun _ => rfl)
    | ((with_reducible apply wl_v); exact rfl; (first | ((with_reducible apply vop_ok); exact rfl) | ((with_reducible apply v_fieldAddr); exact rfl) | ((with_reducible apply v_len); exact rfl) | ((with_reducible apply v_lens); exact rfl) | ((with_reducible apply v_load_box); exact rfl; (repeat first | exact .hd | apply Sel.tl | apply In.tl); exact rfl) | ((with_reducible apply v_loadw_box); exact rfl; (repeat first | exact .hd | apply Sel.tl | apply In.tl); exact rfl) | ((with_reducible apply v_loadn_box); exact rfl; (repeat first | exact .hd | apply Sel.tl | apply In.tl); exact rfl; exact rfl) | ((with_reducible apply v_build); exact rfl; exact rfl; exact rfl)))
    | ((with_reducible apply wl_gyes); exact rfl; exact rfl)
    | ((with_reducible apply wl_gno_b); exact rfl; exact rfl; exact rfl; exact rfl)
    | ((with_reducible apply wl_gno_u); exact rfl; exact rfl; exact rfl)
    | ((with_reducible apply wl_alloc); exact rfl; intro _)
    | ((with_reducible apply wl_storen_box); exact rfl; exact rfl; (repeat first | exact .hd | apply Sel.tl | apply In.tl); exact rfl; exact rfl; exact rfl)
    | ((with_reducible apply wl_putn_box); exact rfl; exact rfl; (repeat first | exact .hd | apply Sel.tl | apply In.tl); exact rfl; exact rfl; exact rfl; exact rfl)
    | ((with_reducible apply wl_buildSlice); exact rfl; exact rfl; exact rfl; exact rfl; exact rfl; exact rfl; exact rfl; intro _)
    | ((with_reducible apply wl_gsplit) <;> first | exact rfl | (intro hb; (replace hb := Tidy.out hb; try (exfalso; omega))))
    | (with_reducible first | apply wl_nil | apply thn_n | apply w_seq | apply w_region | apply w_ret | apply w_skip | apply w_exit | apply w_block | apply thn_r | apply thn_e | apply blk_n | apply blk_r | apply blk_e | apply wx_nil)
    | ((with_reducible apply w_cond_true); exact rfl)
    | ((with_reducible apply w_cond_false); exact rfl)
    | ((with_reducible apply w_cond) <;> first | exact rfl | (intro hb; (replace hb := Tidy.out hb; try (exfalso; omega))))
    | ((with_reducible apply blk_x); exact rfl)
    | ((with_reducible apply wx_v); exact rfl; exact rfl; exact rfl; (intro D ht; (first | ((with_reducible apply vop_ok); exact rfl) | ((with_reducible apply v_fieldAddr); exact rfl) | ((with_reducible apply v_len); exact rfl) | ((with_reducible apply v_lens); exact rfl) | ((with_reducible apply v_load_box); exact rfl; (repeat first | exact .hd | apply Sel.tl | apply In.tl); exact rfl) | ((with_reducible apply v_loadw_box); exact rfl; (repeat first | exact .hd | apply Sel.tl | apply In.tl); exact rfl) | ((with_reducible apply v_loadn_box); exact rfl; (repeat first | exact .hd | apply Sel.tl | apply In.tl); exact rfl; exact rfl) | ((with_reducible apply v_build); exact rfl; exact rfl; exact rfl))); exact fun _ => rfl)
    | ((with_reducible apply wx_gno); exact rfl; exact rfl; exact rfl; exact fun _ => rfl))
  intro D hD
  have n1 := hD 1 (by decide)
  have n4 := hD 4 (by decide)
  (simp only [gat, put, upd, Nat.reduceEqDiff, Nat.reduceAdd, reduceIte, n1, n4, cond_true, cond_false, List.nil_append, List.cons_append, Bool.and_true, Bool.and_false, Bool.true_and, Bool.false_and])
  generalize (γ 1).2 = g24
  generalize (γ 4).2 = g25
  repeat' (first
    | ((with_reducible apply wl_v); exact rfl; (first | ((with_reducible apply vop_ok); exact rfl) | ((with_reducible apply v_fieldAddr); exact rfl) | ((with_reducible apply v_len); exact rfl) | ((with_reducible apply v_lens); exact rfl) | ((with_reducible apply v_load_box); exact rfl; (repeat first | exact .hd | apply Sel.tl | apply In.tl); exact rfl) | ((with_reducible apply v_loadw_box); exact rfl; (repeat first | exact .hd | apply Sel.tl | apply In.tl); exact rfl) | ((with_reducible apply v_loadn_box); exact rfl; (repeat first | exact .hd | apply Sel.tl | apply In.tl); exact rfl; exact rfl) | ((with_reducible apply v_build); exact rfl; exact rfl; exact rfl)))
    | ((with_reducible apply wl_gyes); exact rfl; exact rfl)
    | ((with_reducible apply wl_gno_b); exact rfl; exact rfl; exact rfl; exact rfl)
    | ((with_reducible apply wl_gno_u); exact rfl; exact rfl; exact rfl)
    | ((with_reducible apply wl_alloc); exact rfl; intro _)
    | ((with_reducible apply wl_storen_box); exact rfl; exact rfl; (repeat first | exact .hd | apply Sel.tl | apply In.tl); exact rfl; exact rfl; exact rfl)
    | ((with_reducible apply wl_putn_box); exact rfl; exact rfl; (repeat first | exact .hd | apply Sel.tl | apply In.tl); exact rfl; exact rfl; exact rfl; exact rfl)
    | ((with_reducible apply wl_buildSlice); exact rfl; exact rfl; exact rfl; exact rfl; exact rfl; exact rfl; exact rfl; intro _)
    | ((with_reducible apply wl_gsplit) <;> first | exact rfl | (intro hb; (replace hb := Tidy.out hb; try (exfalso; omega))))
    | (with_reducible first | apply wl_nil | apply thn_n | apply w_seq | apply w_region | apply w_ret | apply w_skip | apply w_exit | apply w_block | apply thn_r | apply thn_e | apply blk_n | apply blk_r | apply blk_e)
    | ((with_reducible apply w_cond_true); exact rfl)
    | ((with_reducible apply w_cond_false); exact rfl)
    | ((with_reducible apply w_cond) <;> first | exact rfl | (intro hb; (replace hb := Tidy.out hb; try (exfalso; omega))))
    | ((with_reducible apply blk_x); exact rfl))
  refine w_loopK [1, 2, 3, 4, 5, 25] rfl (fun y : Nat × Nat × Nat => [(24, sl (some y.2.1) (y.1 + 1) y.2.2)]) (fun y => .own (some y.2.1) 40 11 (y.1 + 1) y.2.2 ((xFive :: List.replicate y.1 xNeg8).flatMap encN) :: .own (some g25) 40 11 1 1 ([xFive].flatMap encN) :: .box g1 40 (encN xFive) :: .box g2 40 (encN xRef8) :: .box g3 40 (encN xWide) :: .box g4 40 (encN xPlus) :: .box g5 40 (encN xNeg8) :: []) (fun y => y.1 ≤ 33) (fun y => 33 - y.1) (0, g24, 1) (by omega) (by (repeat (first | exact Sub.nil _ | refine Sub.cons rfl ?_))) (by (repeat (first | exact MSub.nil _ | refine MSub.pick (by (repeat first | exact .hd | apply Sel.tl | apply In.tl)) ?_ | exact MSub.refl _ | refine MSub.drop .hd ?_))) ?_
  rintro ⟨k, gA, cA⟩ hk
  dsimp only at hk ⊢
  have hlk : (xFive :: List.replicate k xNeg8).length = k + 1 := by simp
  have mk := fun (z : Int) (v : Value) (w' : World) => TreeMatches_at (xFive :: List.replicate k xNeg8) (wf_cons xFive_wf (wf_rep xNeg8_wf)) z v w'
  rw [hlk] at mk
  by_cases hk1 : k < 33
  · have hsn : (xFive :: List.replicate (k + 1) xNeg8).flatMap encN = (xFive :: List.replicate k xNeg8).flatMap encN ++ encN xNeg8 := by
      rw [List.replicate_succ', ← List.cons_append, List.flatMap_append]; rfl
    generalize (xFive :: List.replicate k xNeg8).flatMap encN = Y at hsn mk
    repeat' (first
      | ((with_reducible apply wl_callp (d := 273)); exact rfl; exact rfl; (intro w' h; exact mk _ _ w' (Reads.of_own (A := some _) h (by (repeat first | exact .hd | apply Sel.tl | apply In.tl)))))
      | ((with_reducible apply wl_append1 (news := encN xNeg8)); exact rfl; exact rfl; exact rfl; (repeat first | exact .hd | apply Sel.tl | apply In.tl); (repeat first | exact .hd | apply Sel.tl | apply In.tl); exact rfl; (simp [encN, Value.oneCell']); omega; (simp only [maxLen]; omega); intro g8 c8)
      | ((with_reducible apply wl_v); exact rfl; (first | ((with_reducible apply vop_ok); exact rfl) | ((with_reducible apply v_fieldAddr); exact rfl) | ((with_reducible apply v_len); exact rfl) | ((with_reducible apply v_lens); exact rfl) | ((with_reducible apply v_load_box); exact rfl; (repeat first | exact .hd | apply Sel.tl | apply In.tl); exact rfl) | ((with_reducible apply v_loadw_box); exact rfl; (repeat first | exact .hd | apply Sel.tl | apply In.tl); exact rfl) | ((with_reducible apply v_loadn_box); exact rfl; (repeat first | exact .hd | apply Sel.tl | apply In.tl); exact rfl; exact rfl) | ((with_reducible apply v_build); exact rfl; exact rfl; exact rfl)))
      | ((with_reducible apply wl_gyes); exact rfl; exact rfl)
      | ((with_reducible apply wl_gno_b); exact rfl; exact rfl; exact rfl; exact rfl)
      | ((with_reducible apply wl_gno_u); exact rfl; exact rfl; exact rfl)
      | ((with_reducible apply wl_alloc); exact rfl; intro _)
      | ((with_reducible apply wl_storen_box); exact rfl; exact rfl; (repeat first | exact .hd | apply Sel.tl | apply In.tl); exact rfl; exact rfl; exact rfl)
      | ((with_reducible apply wl_putn_box); exact rfl; exact rfl; (repeat first | exact .hd | apply Sel.tl | apply In.tl); exact rfl; exact rfl; exact rfl; exact rfl)
      | ((with_reducible apply wl_buildSlice); exact rfl; exact rfl; exact rfl; exact rfl; exact rfl; exact rfl; exact rfl; intro _)
      | ((with_reducible apply wl_gsplit) <;> first | exact rfl | (intro hb; (replace hb := Tidy.out hb; try (exfalso; omega))))
      | (with_reducible first | apply wl_nil | apply thn_n | apply w_seq | apply w_region | apply w_ret | apply w_skip | apply w_exit | apply w_block | apply thn_r | apply thn_e | apply blk_n | apply blk_r | apply blk_e)
      | ((with_reducible apply w_cond_true); exact rfl)
      | ((with_reducible apply w_cond_false); exact rfl)
      | ((with_reducible apply w_cond) <;> first | exact rfl | (intro hb; (replace hb := Tidy.out hb; try (exfalso; omega))))
      | ((with_reducible apply blk_x); exact rfl)
      | ((with_reducible apply wl_v); exact rfl; (with_reducible apply v_succN); exact rfl; exact rfl; (simp only [maxLen] at *; omega))
      | ((with_reducible apply wl_v); exact rfl; (with_reducible apply v_1addN); exact rfl; exact rfl; (simp only [maxLen] at *; omega))
      | ((with_reducible apply wl_v); exact rfl; (with_reducible apply v_addN); exact rfl; exact rfl; (simp only [maxLen] at *; omega))
      | ((with_reducible apply wl_v); exact rfl; (with_reducible apply v_predN); exact rfl; exact rfl; omega; (simp only [maxLen] at *; omega))
      | ((with_reducible apply wl_v); exact rfl; (with_reducible apply v_subN); exact rfl; exact rfl; omega; (simp only [maxLen] at *; omega)))
    refine ⟨(k + 1, g8, c8), (by dsimp only; omega), (by dsimp only; omega), ?_, ?_, ?_⟩
    · (repeat (first | exact Sub.nil _ | refine Sub.cons rfl ?_))
    · (repeat (first | exact Sub.nil _ | refine Sub.cons rfl ?_))
    · dsimp only
      rw [hsn]
      (repeat (first | exact MSub.nil _ | refine MSub.pick (by (repeat first | exact .hd | apply Sel.tl | apply In.tl)) ?_ | exact MSub.refl _ | refine MSub.drop .hd ?_))
  repeat' (first
    | ((with_reducible apply wl_v); exact rfl; (first | ((with_reducible apply vop_ok); exact rfl) | ((with_reducible apply v_fieldAddr); exact rfl) | ((with_reducible apply v_len); exact rfl) | ((with_reducible apply v_lens); exact rfl) | ((with_reducible apply v_load_box); exact rfl; (repeat first | exact .hd | apply Sel.tl | apply In.tl); exact rfl) | ((with_reducible apply v_loadw_box); exact rfl; (repeat first | exact .hd | apply Sel.tl | apply In.tl); exact rfl) | ((with_reducible apply v_loadn_box); exact rfl; (repeat first | exact .hd | apply Sel.tl | apply In.tl); exact rfl; exact rfl) | ((with_reducible apply v_build); exact rfl; exact rfl; exact rfl)))
    | ((with_reducible apply wl_gyes); exact rfl; exact rfl)
    | ((with_reducible apply wl_gno_b); exact rfl; exact rfl; exact rfl; exact rfl)
    | ((with_reducible apply wl_gno_u); exact rfl; exact rfl; exact rfl)
    | ((with_reducible apply wl_alloc); exact rfl; intro _)
    | ((with_reducible apply wl_storen_box); exact rfl; exact rfl; (repeat first | exact .hd | apply Sel.tl | apply In.tl); exact rfl; exact rfl; exact rfl)
    | ((with_reducible apply wl_putn_box); exact rfl; exact rfl; (repeat first | exact .hd | apply Sel.tl | apply In.tl); exact rfl; exact rfl; exact rfl; exact rfl)
    | ((with_reducible apply wl_buildSlice); exact rfl; exact rfl; exact rfl; exact rfl; exact rfl; exact rfl; exact rfl; intro _)
    | ((with_reducible apply wl_gsplit) <;> first | exact rfl | (intro hb; (replace hb := Tidy.out hb; try (exfalso; omega))))
    | (with_reducible first | apply wl_nil | apply thn_n | apply w_seq | apply w_region | apply w_ret | apply w_skip | apply w_exit | apply w_block | apply thn_r | apply thn_e | apply blk_n | apply blk_r | apply blk_e)
    | ((with_reducible apply w_cond_true); exact rfl)
    | ((with_reducible apply w_cond_false); exact rfl)
    | ((with_reducible apply w_cond) <;> first | exact rfl | (intro hb; (replace hb := Tidy.out hb; try (exfalso; omega))))
    | ((with_reducible apply blk_x); exact rfl)
    | ((with_reducible apply wl_v); exact rfl; (with_reducible apply v_succN); exact rfl; exact rfl; (simp only [maxLen] at *; omega))
    | ((with_reducible apply wl_v); exact rfl; (with_reducible apply v_1addN); exact rfl; exact rfl; (simp only [maxLen] at *; omega))
    | ((with_reducible apply wl_v); exact rfl; (with_reducible apply v_addN); exact rfl; exact rfl; (simp only [maxLen] at *; omega))
    | ((with_reducible apply wl_v); exact rfl; (with_reducible apply v_predN); exact rfl; exact rfl; omega; (simp only [maxLen] at *; omega))
    | ((with_reducible apply wl_v); exact rfl; (with_reducible apply v_subN); exact rfl; exact rfl; omega; (simp only [maxLen] at *; omega)))
  refine w_loopK [1, 2, 3, 4, 5] rfl (fun y : List Nd × Option Nat × Nat => [(25, sl y.2.1 y.1.length y.2.2)]) (fun y => .own y.2.1 40 11 y.1.length y.2.2 (y.1.flatMap encN) :: .box g1 40 (encN xFive) :: .box g2 40 (encN xRef8) :: .box g3 40 (encN xWide) :: .box g4 40 (encN xPlus) :: .box g5 40 (encN xNeg8) :: []) (fun y => (∀ n ∈ y.1, wfN n) ∧ 1 ≤ y.1.length ∧ y.1.length ≤ 79) (fun y => 80 - y.1.length) ([xFive], some g25, 1) ⟨wf_one xFive_wf, Nat.le_refl _, Nat.le_of_ble_eq_true rfl⟩ (by (repeat (first | exact Sub.nil _ | refine Sub.cons rfl ?_))) (by (repeat (first | exact MSub.nil _ | refine MSub.pick (by (repeat first | exact .hd | apply Sel.tl | apply In.tl)) ?_ | exact MSub.refl _ | refine MSub.drop .hd ?_))) ?_
  rintro ⟨L, A, cA⟩ ⟨wL, hL1, hL2⟩
  dsimp only at wL hL1 hL2 ⊢
  by_cases hL3 : L.length < 40
  · repeat' (first
      | ((with_reducible apply wl_v); exact rfl; (first | ((with_reducible apply vop_ok); exact rfl) | ((with_reducible apply v_fieldAddr); exact rfl) | ((with_reducible apply v_len); exact rfl) | ((with_reducible apply v_lens); exact rfl) | ((with_reducible apply v_load_box); exact rfl; (repeat first | exact .hd | apply Sel.tl | apply In.tl); exact rfl) | ((with_reducible apply v_loadw_box); exact rfl; (repeat first | exact .hd | apply Sel.tl | apply In.tl); exact rfl) | ((with_reducible apply v_loadn_box); exact rfl; (repeat first | exact .hd | apply Sel.tl | apply In.tl); exact rfl; exact rfl) | ((with_reducible apply v_build); exact rfl; exact rfl; exact rfl)))
      | ((with_reducible apply wl_gyes); exact rfl; exact rfl)
      | ((with_reducible apply wl_gno_b); exact rfl; exact rfl; exact rfl; exact rfl)
      | ((with_reducible apply wl_gno_u); exact rfl; exact rfl; exact rfl)
      | ((with_reducible apply wl_alloc); exact rfl; intro _)
      | ((with_reducible apply wl_storen_box); exact rfl; exact rfl; (repeat first | exact .hd | apply Sel.tl | apply In.tl); exact rfl; exact rfl; exact rfl)
      | ((with_reducible apply wl_putn_box); exact rfl; exact rfl; (repeat first | exact .hd | apply Sel.tl | apply In.tl); exact rfl; exact rfl; exact rfl; exact rfl)
      | ((with_reducible apply wl_buildSlice); exact rfl; exact rfl; exact rfl; exact rfl; exact rfl; exact rfl; exact rfl; intro _)
      | ((with_reducible apply wl_gsplit) <;> first | exact rfl | (intro hb; (replace hb := Tidy.out hb; try (exfalso; omega))))
      | (with_reducible first | apply wl_nil | apply thn_n | apply w_seq | apply w_region | apply w_ret | apply w_skip | apply w_exit | apply w_block | apply thn_r | apply thn_e | apply blk_n | apply blk_r | apply blk_e)
      | ((with_reducible apply w_cond_true); exact rfl)
      | ((with_reducible apply w_cond_false); exact rfl)
      | ((with_reducible apply w_cond) <;> first | exact rfl | (intro hb; (replace hb := Tidy.out hb; try (exfalso; omega))))
      | ((with_reducible apply blk_x); exact rfl))
    refine w_nilrow 0 0 ?_
    refine w_drawXg (id := 52) (fun | 2 => some fun g => sl g.1 (L.length + L.length) g.2 | 4 => some fun g => .slice (some ⟨g.2, 0, none⟩) 1 1 | 5 => some fun g => sl g.1 (L.length + L.length + 1) g.2 | _ => none)
      (fun (D : Done) (q : Nat → Gh) => (bif D 5 then Blk.own (q 5).1 40 11 (L.length + L.length + 1) (q 5).2 (L.flatMap encN ++ L.flatMap encN ++ encN xPlus) else (bif D 2 then Blk.own (q 2).1 40 11 (L.length + L.length) (q 2).2 (L.flatMap encN ++ L.flatMap encN) else Blk.own A 40 11 L.length cA (L.flatMap encN))) :: (bif D 4 then Blk.own (some (q 4).2) 40 11 1 1 (encN xPlus) else nilB) :: .box g1 40 (encN xFive) :: .box g2 40 (encN xRef8) :: .box g3 40 (encN xWide) :: .box g4 40 (encN xPlus) :: .box g5 40 (encN xNeg8) :: []) ?_ ?_ ?_ ?_
    · kernel_rfl
    · kernel_rfl
    · intro γ'
      (repeat (first | exact MSub.nil _ | refine MSub.pick (by (repeat first | exact .hd | apply Sel.tl | apply In.tl)) ?_ | exact MSub.refl _ | refine MSub.drop .hd ?_))
    intro γ'
    repeat' (first
      | ((with_reducible apply wl_v); exact rfl; (first | ((with_reducible apply vop_ok); exact rfl) | ((with_reducible apply v_fieldAddr); exact rfl) | ((with_reducible apply v_len); exact rfl) | ((with_reducible apply v_lens); exact rfl) | ((with_reducible apply v_load_box); exact rfl; (repeat first | exact .hd | apply Sel.tl | apply In.tl); exact rfl) | ((with_reducible apply v_loadw_box); exact rfl; (repeat first | exact .hd | apply Sel.tl | apply In.tl); exact rfl) | ((with_reducible apply v_loadn_box); exact rfl; (repeat first | exact .hd | apply Sel.tl | apply In.tl); exact rfl; exact rfl) | ((with_reducible apply v_build); exact rfl; exact rfl; exact rfl)))
      | ((with_reducible apply wl_gyes); exact rfl; exact rfl)
      | ((with_reducible apply wl_gno_b); exact rfl; exact rfl; exact rfl; exact rfl)
      | ((with_reducible apply wl_gno_u); exact rfl; exact rfl; exact rfl)
      | ((with_reducible apply wl_alloc); exact rfl; intro _)
      | ((with_reducible apply wl_storen_box); exact rfl; exact rfl; (repeat first | exact .hd | apply Sel.tl | apply In.tl); exact rfl; exact rfl; exact rfl)
      | ((with_reducible apply wl_putn_box); exact rfl; exact rfl; (repeat first | exact .hd | apply Sel.tl | apply In.tl); exact rfl; exact rfl; exact rfl; exact rfl)
      | ((with_reducible apply wl_buildSlice); exact rfl; exact rfl; exact rfl; exact rfl; exact rfl; exact rfl; exact rfl; intro _)
      | ((with_reducible apply wl_gsplit) <;> first | exact rfl | (intro hb; (replace hb := Tidy.out hb; try (exfalso; omega))))
      | (with_reducible first | apply wl_nil | apply thn_n | apply w_seq | apply w_region | apply w_ret | apply w_skip | apply w_exit | apply w_block | apply thn_r | apply thn_e | apply blk_n | apply blk_r | apply blk_e | apply wx_nil)
      | ((with_reducible apply w_cond_true); exact rfl)
      | ((with_reducible apply w_cond_false); exact rfl)
      | ((with_reducible apply w_cond) <;> first | exact rfl | (intro hb; (replace hb := Tidy.out hb; try (exfalso; omega))))
      | ((with_reducible apply blk_x); exact rfl)
      | ((with_reducible apply wx_v); exact rfl; exact rfl; exact rfl; (intro D ht; (first | ((with_reducible apply vop_ok); exact rfl) | ((with_reducible apply v_fieldAddr); exact rfl) | ((with_reducible apply v_len); exact rfl) | ((with_reducible apply v_lens); exact rfl) | ((with_reducible apply v_load_box); exact rfl; (repeat first | exact .hd | apply Sel.tl | apply In.tl); exact rfl) | ((with_reducible apply v_loadw_box); exact rfl; (repeat first | exact .hd | apply Sel.tl | apply In.tl); exact rfl) | ((with_reducible apply v_loadn_box); exact rfl; (repeat first | exact .hd | apply Sel.tl | apply In.tl); exact rfl; exact rfl) | ((with_reducible apply v_build); exact rfl; exact rfl; exact rfl))); exact fun _ => rfl)
      | ((with_reducible apply wx_gno); exact rfl; exact rfl; exact rfl; exact fun _ => rfl))
    refine wx_non rfl rfl rfl (fun D ht => ?_) ?_
    · have n2 : D 2 = false := ht.not
      have n5 : D 5 = false := ht.late (j := 5) (f := 60) (by decide +kernel)
      (simp only [gat, put, upd, Nat.reduceEqDiff, Nat.reduceAdd, reduceIte, n2, n5, cond_true, cond_false, List.nil_append, List.cons_append, Bool.and_true, Bool.and_false, Bool.true_and, Bool.false_and])
      (with_reducible apply wl_appendR (m := L.length)); exact rfl; exact rfl; exact rfl; (repeat first | exact .hd | apply Sel.tl | apply In.tl); (intro w hm; exact Reads.of_own hm (by (repeat first | exact .hd | apply Sel.tl | apply In.tl))); exact flat_length' encN_len L; exact encNs_one L; omega; (simp only [maxLen]; omega); intro A' cap' hA
      refine wl_nil ⟨rfl, (A', cap'), rfl, ?_⟩
      (simp only [gat, put, upd, Nat.reduceEqDiff, Nat.reduceAdd, reduceIte, n2, n5, cond_true, cond_false, List.nil_append, List.cons_append, Bool.and_true, Bool.and_false, Bool.true_and, Bool.false_and])
      (repeat (first | exact MSub.nil _ | refine MSub.pick (by (repeat first | exact .hd | apply Sel.tl | apply In.tl)) ?_ | exact MSub.refl _ | refine MSub.drop .hd ?_))
    repeat' (first
      | ((with_reducible apply wl_v); exact rfl; (first | ((with_reducible apply vop_ok); exact rfl) | ((with_reducible apply v_fieldAddr); exact rfl) | ((with_reducible apply v_len); exact rfl) | ((with_reducible apply v_lens); exact rfl) | ((with_reducible apply v_load_box); exact rfl; (repeat first | exact .hd | apply Sel.tl | apply In.tl); exact rfl) | ((with_reducible apply v_loadw_box); exact rfl; (repeat first | exact .hd | apply Sel.tl | apply In.tl); exact rfl) | ((with_reducible apply v_loadn_box); exact rfl; (repeat first | exact .hd | apply Sel.tl | apply In.tl); exact rfl; exact rfl) | ((with_reducible apply v_build); exact rfl; exact rfl; exact rfl)))
      | ((with_reducible apply wl_gyes); exact rfl; exact rfl)
      | ((with_reducible apply wl_gno_b); exact rfl; exact rfl; exact rfl; exact rfl)
      | ((with_reducible apply wl_gno_u); exact rfl; exact rfl; exact rfl)
      | ((with_reducible apply wl_alloc); exact rfl; intro _)
      | ((with_reducible apply wl_storen_box); exact rfl; exact rfl; (repeat first | exact .hd | apply Sel.tl | apply In.tl); exact rfl; exact rfl; exact rfl)
      | ((with_reducible apply wl_putn_box); exact rfl; exact rfl; (repeat first | exact .hd | apply Sel.tl | apply In.tl); exact rfl; exact rfl; exact rfl; exact rfl)
      | ((with_reducible apply wl_buildSlice); exact rfl; exact rfl; exact rfl; exact rfl; exact rfl; exact rfl; exact rfl; intro _)
      | ((with_reducible apply wl_gsplit) <;> first | exact rfl | (intro hb; (replace hb := Tidy.out hb; try (exfalso; omega))))
      | (with_reducible first | apply wl_nil | apply thn_n | apply w_seq | apply w_region | apply w_ret | apply w_skip | apply w_exit | apply w_block | apply thn_r | apply thn_e | apply blk_n | apply blk_r | apply blk_e | apply wx_nil)
      | ((with_reducible apply w_cond_true); exact rfl)
      | ((with_reducible apply w_cond_false); exact rfl)
      | ((with_reducible apply w_cond) <;> first | exact rfl | (intro hb; (replace hb := Tidy.out hb; try (exfalso; omega))))
      | ((with_reducible apply blk_x); exact rfl)
      | ((with_reducible apply wx_v); exact rfl; exact rfl; exact rfl; (intro D ht; (first | ((with_reducible apply vop_ok); exact rfl) | ((with_reducible apply v_fieldAddr); exact rfl) | ((with_reducible apply v_len); exact rfl) | ((with_reducible apply v_lens); exact rfl) | ((with_reducible apply v_load_box); exact rfl; (repeat first | exact .hd | apply Sel.tl | apply In.tl); exact rfl) | ((with_reducible apply v_loadw_box); exact rfl; (repeat first | exact .hd | apply Sel.tl | apply In.tl); exact rfl) | ((with_reducible apply v_loadn_box); exact rfl; (repeat first | exact .hd | apply Sel.tl | apply In.tl); exact rfl; exact rfl) | ((with_reducible apply v_build); exact rfl; exact rfl; exact rfl))); exact fun _ => rfl)
      | ((with_reducible apply wx_gno); exact rfl; exact rfl; exact rfl; exact fun _ => rfl))
    refine wx_non rfl rfl rfl (fun D ht => ?_) ?_
    · have n4 : D 4 = false := ht.not
      have n5 : D 5 = false := ht.late (j := 5) (f := 60) (by decide +kernel)
      (simp only [gat, put, upd, Nat.reduceEqDiff, Nat.reduceAdd, reduceIte, n4, n5, cond_true, cond_false, List.nil_append, List.cons_append, Bool.and_true, Bool.and_false, Bool.true_and, Bool.false_and])
      (with_reducible apply wl_buildSlice); exact rfl; exact rfl; exact rfl; exact rfl; exact rfl; exact rfl; exact rfl; intro g
      refine wl_nil ⟨rfl, (none, g), rfl, ?_⟩
      (simp only [gat, put, upd, Nat.reduceEqDiff, Nat.reduceAdd, reduceIte, n4, n5, cond_true, cond_false, List.nil_append, List.cons_append, Bool.and_true, Bool.and_false, Bool.true_and, Bool.false_and])
      (repeat (first | exact MSub.nil _ | refine MSub.pick (by (repeat first | exact .hd | apply Sel.tl | apply In.tl)) ?_ | exact MSub.refl _ | refine MSub.drop .hd ?_))
    refine wx_non rfl rfl rfl (fun D ht => ?_) ?_
    · have n5 : D 5 = false := ht.not
      have n2 : D 2 = true := ht.early (i := 2) (f := 60) (by decide +kernel)
      have n4 : D 4 = true := ht.early (i := 4) (f := 60) (by decide +kernel)
      (simp only [gat, put, upd, Nat.reduceEqDiff, Nat.reduceAdd, reduceIte, n5, n2, n4, cond_true, cond_false, List.nil_append, List.cons_append, Bool.and_true, Bool.and_false, Bool.true_and, Bool.false_and])
      (with_reducible apply wl_append1 (news := encN xPlus)); exact rfl; exact rfl; exact rfl; (repeat first | exact .hd | apply Sel.tl | apply In.tl); (repeat first | exact .hd | apply Sel.tl | apply In.tl); exact rfl; (simp [encN, Value.oneCell']); omega; (simp only [maxLen]; omega); intro g8 c8
      refine wl_nil ⟨rfl, (some g8, c8), rfl, ?_⟩
      (simp only [gat, put, upd, Nat.reduceEqDiff, Nat.reduceAdd, reduceIte, n5, n2, n4, cond_true, cond_false, List.nil_append, List.cons_append, Bool.and_true, Bool.and_false, Bool.true_and, Bool.false_and])
      (repeat (first | exact MSub.nil _ | refine MSub.pick (by (repeat first | exact .hd | apply Sel.tl | apply In.tl)) ?_ | exact MSub.refl _ | refine MSub.drop .hd ?_))
    repeat' (first
      | ((with_reducible apply wl_v); exact rfl; (first | ((with_reducible apply vop_ok); exact rfl) | ((with_reducible apply v_fieldAddr); exact rfl) | ((with_reducible apply v_len); exact rfl) | ((with_reducible apply v_lens); exact rfl) | ((with_reducible apply v_load_box); exact rfl; (repeat first | exact .hd | apply Sel.tl | apply In.tl); exact rfl) | ((with_reducible apply v_loadw_box); exact rfl; (repeat first | exact .hd | apply Sel.tl | apply In.tl); exact rfl) | ((with_reducible apply v_loadn_box); exact rfl; (repeat first | exact .hd | apply Sel.tl | apply In.tl); exact rfl; exact rfl) | ((with_reducible apply v_build); exact rfl; exact rfl; exact rfl)))
      | ((with_reducible apply wl_gyes); exact rfl; exact rfl)
      | ((with_reducible apply wl_gno_b); exact rfl; exact rfl; exact rfl; exact rfl)
      | ((with_reducible apply wl_gno_u); exact rfl; exact rfl; exact rfl)
      | ((with_reducible apply wl_alloc); exact rfl; intro _)
      | ((with_reducible apply wl_storen_box); exact rfl; exact rfl; (repeat first | exact .hd | apply Sel.tl | apply In.tl); exact rfl; exact rfl; exact rfl)
      | ((with_reducible apply wl_putn_box); exact rfl; exact rfl; (repeat first | exact .hd | apply Sel.tl | apply In.tl); exact rfl; exact rfl; exact rfl; exact rfl)
      | ((with_reducible apply wl_buildSlice); exact rfl; exact rfl; exact rfl; exact rfl; exact rfl; exact rfl; exact rfl; intro _)
      | ((with_reducible apply wl_gsplit) <;> first | exact rfl | (intro hb; (replace hb := Tidy.out hb; try (exfalso; omega))))
      | (with_reducible first | apply wl_nil | apply thn_n | apply w_seq | apply w_region | apply w_ret | apply w_skip | apply w_exit | apply w_block | apply thn_r | apply thn_e | apply blk_n | apply blk_r | apply blk_e | apply wx_nil)
      | ((with_reducible apply w_cond_true); exact rfl)
      | ((with_reducible apply w_cond_false); exact rfl)
      | ((with_reducible apply w_cond) <;> first | exact rfl | (intro hb; (replace hb := Tidy.out hb; try (exfalso; omega))))
      | ((with_reducible apply blk_x); exact rfl)
      | ((with_reducible apply wx_v); exact rfl; exact rfl; exact rfl; (intro D ht; (first | ((with_reducible apply vop_ok); exact rfl) | ((with_reducible apply v_fieldAddr); exact rfl) | ((with_reducible apply v_len); exact rfl) | ((with_reducible apply v_lens); exact rfl) | ((with_reducible apply v_load_box); exact rfl; (repeat first | exact .hd | apply Sel.tl | apply In.tl); exact rfl) | ((with_reducible apply v_loadw_box); exact rfl; (repeat first | exact .hd | apply Sel.tl | apply In.tl); exact rfl) | ((with_reducible apply v_loadn_box); exact rfl; (repeat first | exact .hd | apply Sel.tl | apply In.tl); exact rfl; exact rfl) | ((with_reducible apply v_build); exact rfl; exact rfl; exact rfl))); exact fun _ => rfl)
      | ((with_reducible apply wx_gno); exact rfl; exact rfl; exact rfl; exact fun _ => rfl))
    intro D hD
    have n2 := hD 2 (by decide)
    have n4 := hD 4 (by decide)
    have n5 := hD 5 (by decide)
    (simp only [gat, put, upd, Nat.reduceEqDiff, Nat.reduceAdd, reduceIte, n2, n4, n5, cond_true, cond_false, List.nil_append, List.cons_append, Bool.and_true, Bool.and_false, Bool.true_and, Bool.false_and])
    repeat' (first
      | ((with_reducible apply wl_v); exact rfl; (first | ((with_reducible apply vop_ok); exact rfl) | ((with_reducible apply v_fieldAddr); exact rfl) | ((with_reducible apply v_len); exact rfl) | ((with_reducible apply v_lens); exact rfl) | ((with_reducible apply v_load_box); exact rfl; (repeat first | exact .hd | apply Sel.tl | apply In.tl); exact rfl) | ((with_reducible apply v_loadw_box); exact rfl; (repeat first | exact .hd | apply Sel.tl | apply In.tl); exact rfl) | ((with_reducible apply v_loadn_box); exact rfl; (repeat first | exact .hd | apply Sel.tl | apply In.tl); exact rfl; exact rfl) | ((with_reducible apply v_build); exact rfl; exact rfl; exact rfl)))
      | ((with_reducible apply wl_gyes); exact rfl; exact rfl)
      | ((with_reducible apply wl_gno_b); exact rfl; exact rfl; exact rfl; exact rfl)
      | ((with_reducible apply wl_gno_u); exact rfl; exact rfl; exact rfl)
      | ((with_reducible apply wl_alloc); exact rfl; intro _)
      | ((with_reducible apply wl_storen_box); exact rfl; exact rfl; (repeat first | exact .hd | apply Sel.tl | apply In.tl); exact rfl; exact rfl; exact rfl)
      | ((with_reducible apply wl_putn_box); exact rfl; exact rfl; (repeat first | exact .hd | apply Sel.tl | apply In.tl); exact rfl; exact rfl; exact rfl; exact rfl)
      | ((with_reducible apply wl_buildSlice); exact rfl; exact rfl; exact rfl; exact rfl; exact rfl; exact rfl; exact rfl; intro _)
      | ((with_reducible apply wl_gsplit) <;> first | exact rfl | (intro hb; (replace hb := Tidy.out hb; try (exfalso; omega))))
      | (with_reducible first | apply wl_nil | apply thn_n | apply w_seq | apply w_region | apply w_ret | apply w_skip | apply w_exit | apply w_block | apply thn_r | apply thn_e | apply blk_n | apply blk_r | apply blk_e)
      | ((with_reducible apply w_cond_true); exact rfl)
      | ((with_reducible apply w_cond_false); exact rfl)
      | ((with_reducible apply w_cond) <;> first | exact rfl | (intro hb; (replace hb := Tidy.out hb; try (exfalso; omega))))
      | ((with_reducible apply blk_x); exact rfl))
    have el : (L ++ L ++ [xPlus]).length = L.length + L.length + 1 := by simp only [List.length_append, List.length_cons, List.length_nil]
    have ef : (L ++ L ++ [xPlus]).flatMap encN = L.flatMap encN ++ L.flatMap encN ++ encN xPlus := by rw [List.flatMap_append, List.flatMap_append]; rfl
    refine ⟨(L ++ L ++ [xPlus], (γ' 5).1, (γ' 5).2), ⟨wf_app (wf_app wL wL) (wf_one xPlus_wf), by dsimp only; omega, by dsimp only; omega⟩, (by dsimp only; omega), ?_, ?_, ?_⟩
    · dsimp only
      rw [el]
      (repeat (first | exact Sub.nil _ | refine Sub.cons rfl ?_))
    · (repeat (first | exact Sub.nil _ | refine Sub.cons rfl ?_))
    · dsimp only
      rw [el, ef]
      (repeat (first | exact MSub.nil _ | refine MSub.pick (by (repeat first | exact .hd | apply Sel.tl | apply In.tl)) ?_ | exact MSub.refl _ | refine MSub.drop .hd ?_))
  repeat' (first
    | ((with_reducible apply wl_v); exact rfl; (first | ((with_reducible apply vop_ok); exact rfl) | ((with_reducible apply v_fieldAddr); exact rfl) | ((with_reducible apply v_len); exact rfl) | ((with_reducible apply v_lens); exact rfl) | ((with_reducible apply v_load_box); exact rfl; (repeat first | exact .hd | apply Sel.tl | apply In.tl); exact rfl) | ((with_reducible apply v_loadw_box); exact rfl; (repeat first | exact .hd | apply Sel.tl | apply In.tl); exact rfl) | ((with_reducible apply v_loadn_box); exact rfl; (repeat first | exact .hd | apply Sel.tl | apply In.tl); exact rfl; exact rfl) | ((with_reducible apply v_build); exact rfl; exact rfl; exact rfl)))
    | ((with_reducible apply wl_gyes); exact rfl; exact rfl)
    | ((with_reducible apply wl_gno_b); exact rfl; exact rfl; exact rfl; exact rfl)
    | ((with_reducible apply wl_gno_u); exact rfl; exact rfl; exact rfl)
    | ((with_reducible apply wl_alloc); exact rfl; intro _)
    | ((with_reducible apply wl_storen_box); exact rfl; exact rfl; (repeat first | exact .hd | apply Sel.tl | apply In.tl); exact rfl; exact rfl; exact rfl)
    | ((with_reducible apply wl_putn_box); exact rfl; exact rfl; (repeat first | exact .hd | apply Sel.tl | apply In.tl); exact rfl; exact rfl; exact rfl; exact rfl)
    | ((with_reducible apply wl_buildSlice); exact rfl; exact rfl; exact rfl; exact rfl; exact rfl; exact rfl; exact rfl; intro _)
    | ((with_reducible apply wl_gsplit) <;> first | exact rfl | (intro hb; (replace hb := Tidy.out hb; try (exfalso; omega))))
    | (with_reducible first | apply wl_nil | apply thn_n | apply w_seq | apply w_region | apply w_ret | apply w_skip | apply w_exit | apply w_block | apply thn_r | apply thn_e | apply blk_n | apply blk_r | apply blk_e)
    | ((with_reducible apply w_cond_true); exact rfl)
    | ((with_reducible apply w_cond_false); exact rfl)
    | ((with_reducible apply w_cond) <;> first | exact rfl | (intro hb; (replace hb := Tidy.out hb; try (exfalso; omega))))
    | ((with_reducible apply blk_x); exact rfl))
  refine w_loopK [1, 2, 3, 4, 5] rfl (fun y : List Nd × Option Nat × Nat => [(25, sl y.2.1 y.1.length y.2.2)]) (fun y => .own y.2.1 40 11 y.1.length y.2.2 (y.1.flatMap encN) :: .box g1 40 (encN xFive) :: .box g2 40 (encN xRef8) :: .box g3 40 (encN xWide) :: .box g4 40 (encN xPlus) :: .box g5 40 (encN xNeg8) :: []) (fun y => (∀ n ∈ y.1, wfN n) ∧ 1 ≤ y.1.length ∧ y.1.length ≤ 519) (fun y => 520 - y.1.length) (L, A, cA) ⟨wL, hL1, by dsimp only; omega⟩ (by (repeat (first | exact Sub.nil _ | refine Sub.cons rfl ?_))) (by (repeat (first | exact MSub.nil _ | refine MSub.pick (by (repeat first | exact .hd | apply Sel.tl | apply In.tl)) ?_ | exact MSub.refl _ | refine MSub.drop .hd ?_))) ?_
  clear wL hL1 hL2 hL3
  rintro ⟨L, A, cA⟩ ⟨wL, hL1, hL2⟩
  dsimp only at wL hL1 hL2 ⊢
  have mL := fun (z : Int) (v : Value) (w' : World) h => TreeMatches_at L wL z v w' h
  by_cases hL3 : L.length < 260
  · have mLn := fun (z : Int) (v : Value) (w' : World) => TreeMatches_at (L ++ [xNeg8]) (wf_app wL (wf_one xNeg8_wf)) z v w'
    rw [List.length_append, List.flatMap_append] at mLn
    have mLn' := fun (z : Int) (v : Value) (w' : World) (h : Reads w' v (L.length + 1) (L.flatMap encN ++ encN xNeg8)) => mLn z v w' h
    have hcp := fun (v : Value) (w' : World) h => CopyTree_at L v w' h (by omega)
    repeat' (first
      | ((with_reducible apply wl_v); exact rfl; (first | ((with_reducible apply vop_ok); exact rfl) | ((with_reducible apply v_fieldAddr); exact rfl) | ((with_reducible apply v_len); exact rfl) | ((with_reducible apply v_lens); exact rfl) | ((with_reducible apply v_load_box); exact rfl; (repeat first | exact .hd | apply Sel.tl | apply In.tl); exact rfl) | ((with_reducible apply v_loadw_box); exact rfl; (repeat first | exact .hd | apply Sel.tl | apply In.tl); exact rfl) | ((with_reducible apply v_loadn_box); exact rfl; (repeat first | exact .hd | apply Sel.tl | apply In.tl); exact rfl; exact rfl) | ((with_reducible apply v_build); exact rfl; exact rfl; exact rfl)))
      | ((with_reducible apply wl_gyes); exact rfl; exact rfl)
      | ((with_reducible apply wl_gno_b); exact rfl; exact rfl; exact rfl; exact rfl)
      | ((with_reducible apply wl_gno_u); exact rfl; exact rfl; exact rfl)
      | ((with_reducible apply wl_alloc); exact rfl; intro _)
      | ((with_reducible apply wl_storen_box); exact rfl; exact rfl; (repeat first | exact .hd | apply Sel.tl | apply In.tl); exact rfl; exact rfl; exact rfl)
      | ((with_reducible apply wl_putn_box); exact rfl; exact rfl; (repeat first | exact .hd | apply Sel.tl | apply In.tl); exact rfl; exact rfl; exact rfl; exact rfl)
      | ((with_reducible apply wl_buildSlice); exact rfl; exact rfl; exact rfl; exact rfl; exact rfl; exact rfl; exact rfl; intro _)
      | ((with_reducible apply wl_gsplit) <;> first | exact rfl | (intro hb; (replace hb := Tidy.out hb; try (exfalso; omega))))
      | (with_reducible first | apply wl_nil | apply thn_n | apply w_seq | apply w_region | apply w_ret | apply w_skip | apply w_exit | apply w_block | apply thn_r | apply thn_e | apply blk_n | apply blk_r | apply blk_e)
      | ((with_reducible apply w_cond_true); exact rfl)
      | ((with_reducible apply w_cond_false); exact rfl)
      | ((with_reducible apply w_cond) <;> first | exact rfl | (intro hb; (replace hb := Tidy.out hb; try (exfalso; omega))))
      | ((with_reducible apply blk_x); exact rfl))
    refine w_nilrow 0 0 ?_
    refine w_nilrow 0 0 ?_
    refine w_drawXg (id := 54) (fun | 8 => some fun g => sl g.1 L.length g.2 | 10 => some fun g => .slice (some ⟨g.2, 0, none⟩) 1 1 | 11 => some fun g => sl g.1 (L.length + 1) g.2 | _ => none)
      (fun (D : Done) (q : Nat → Gh) => (bif D 11 then Blk.own (q 11).1 40 11 (L.length + 1) (q 11).2 (L.flatMap encN ++ encN xNeg8) else (bif D 8 then Blk.own (q 8).1 40 11 L.length (q 8).2 (L.flatMap encN) else nilB)) :: (bif D 10 then Blk.own (some (q 10).2) 40 11 1 1 (encN xNeg8) else nilB) :: Blk.own A 40 11 L.length cA (L.flatMap encN) :: .box g1 40 (encN xFive) :: .box g2 40 (encN xRef8) :: .box g3 40 (encN xWide) :: .box g4 40 (encN xPlus) :: .box g5 40 (encN xNeg8) :: []) ?_ ?_ ?_ ?_
    · kernel_rfl
    · kernel_rfl
    · intro γ'
      (repeat (first | exact MSub.nil _ | refine MSub.pick (by (repeat first | exact .hd | apply Sel.tl | apply In.tl)) ?_ | exact MSub.refl _ | refine MSub.drop .hd ?_))
    intro γ'
    repeat' (first
      | ((with_reducible apply wx_v (d := 294)); exact rfl; exact rfl; exact rfl; (intro D ht; (with_reducible apply v_quoN (b := 2)); exact rfl; exact rfl; decide; (simp only [maxLen]; omega)); exact fun _ => rfl)
      | ((with_reducible apply wx_callp (d := 295)); exact rfl; exact rfl; exact rfl; (decide +kernel); exact rfl; (intro D ht w' h; exact mL _ _ w' (Reads.of_own h (by (repeat first | exact .hd | apply Sel.tl | apply In.tl)))); exact fun _ => rfl)
      | ((with_reducible apply wl_v); exact rfl; (first | ((with_reducible apply vop_ok); exact rfl) | ((with_reducible apply v_fieldAddr); exact rfl) | ((with_reducible apply v_len); exact rfl) | ((with_reducible apply v_lens); exact rfl) | ((with_reducible apply v_load_box); exact rfl; (repeat first | exact .hd | apply Sel.tl | apply In.tl); exact rfl) | ((with_reducible apply v_loadw_box); exact rfl; (repeat first | exact .hd | apply Sel.tl | apply In.tl); exact rfl) | ((with_reducible apply v_loadn_box); exact rfl; (repeat first | exact .hd | apply Sel.tl | apply In.tl); exact rfl; exact rfl) | ((with_reducible apply v_build); exact rfl; exact rfl; exact rfl)))
      | ((with_reducible apply wl_gyes); exact rfl; exact rfl)
      | ((with_reducible apply wl_gno_b); exact rfl; exact rfl; exact rfl; exact rfl)
      | ((with_reducible apply wl_gno_u); exact rfl; exact rfl; exact rfl)
      | ((with_reducible apply wl_alloc); exact rfl; intro _)
      | ((with_reducible apply wl_storen_box); exact rfl; exact rfl; (repeat first | exact .hd | apply Sel.tl | apply In.tl); exact rfl; exact rfl; exact rfl)
      | ((with_reducible apply wl_putn_box); exact rfl; exact rfl; (repeat first | exact .hd | apply Sel.tl | apply In.tl); exact rfl; exact rfl; exact rfl; exact rfl)
      | ((with_reducible apply wl_buildSlice); exact rfl; exact rfl; exact rfl; exact rfl; exact rfl; exact rfl; exact rfl; intro _)
      | ((with_reducible apply wl_gsplit) <;> first | exact rfl | (intro hb; (replace hb := Tidy.out hb; try (exfalso; omega))))
      | (with_reducible first | apply wl_nil | apply thn_n | apply w_seq | apply w_region | apply w_ret | apply w_skip | apply w_exit | apply w_block | apply thn_r | apply thn_e | apply blk_n | apply blk_r | apply blk_e | apply wx_nil)
      | ((with_reducible apply w_cond_true); exact rfl)
      | ((with_reducible apply w_cond_false); exact rfl)
      | ((with_reducible apply w_cond) <;> first | exact rfl | (intro hb; (replace hb := Tidy.out hb; try (exfalso; omega))))
      | ((with_reducible apply blk_x); exact rfl)
      | ((with_reducible apply wx_v); exact rfl; exact rfl; exact rfl; (intro D ht; (first | ((with_reducible apply vop_ok); exact rfl) | ((with_reducible apply v_fieldAddr); exact rfl) | ((with_reducible apply v_len); exact rfl) | ((with_reducible apply v_lens); exact rfl) | ((with_reducible apply v_load_box); exact rfl; (repeat first | exact .hd | apply Sel.tl | apply In.tl); exact rfl) | ((with_reducible apply v_loadw_box); exact rfl; (repeat first | exact .hd | apply Sel.tl | apply In.tl); exact rfl) | ((with_reducible apply v_loadn_box); exact rfl; (repeat first | exact .hd | apply Sel.tl | apply In.tl); exact rfl; exact rfl) | ((with_reducible apply v_build); exact rfl; exact rfl; exact rfl))); exact fun _ => rfl)
      | ((with_reducible apply wx_gno); exact rfl; exact rfl; exact rfl; exact fun _ => rfl))
    refine wx_non rfl rfl rfl (fun D ht => ?_) ?_
    · have n8 : D 8 = false := ht.not
      have n11 : D 11 = false := ht.late (j := 11) (f := 60) (by decide +kernel)
      (simp only [gat, put, upd, Nat.reduceEqDiff, Nat.reduceAdd, reduceIte, n8, n11, cond_true, cond_false, List.nil_append, List.cons_append, Bool.and_true, Bool.and_false, Bool.true_and, Bool.false_and])
      (with_reducible apply wl_call (f := 53)); exact rfl; exact rfl; (intro w' h; exact hcp _ w' (Reads.of_own h (by (repeat first | exact .hd | apply Sel.tl | apply In.tl)))); (rintro v H' ⟨A3, c3, _, rfl, rfl⟩)
      refine wl_nil ⟨rfl, (A3, c3), rfl, ?_⟩
      (simp only [gat, put, upd, Nat.reduceEqDiff, Nat.reduceAdd, reduceIte, n8, n11, cond_true, cond_false, List.nil_append, List.cons_append, Bool.and_true, Bool.and_false, Bool.true_and, Bool.false_and])
      (repeat (first | exact MSub.nil _ | refine MSub.pick (by (repeat first | exact .hd | apply Sel.tl | apply In.tl)) ?_ | exact MSub.refl _ | refine MSub.drop .hd ?_))
    repeat' (first
      | ((with_reducible apply wl_v); exact rfl; (first | ((with_reducible apply vop_ok); exact rfl) | ((with_reducible apply v_fieldAddr); exact rfl) | ((with_reducible apply v_len); exact rfl) | ((with_reducible apply v_lens); exact rfl) | ((with_reducible apply v_load_box); exact rfl; (repeat first | exact .hd | apply Sel.tl | apply In.tl); exact rfl) | ((with_reducible apply v_loadw_box); exact rfl; (repeat first | exact .hd | apply Sel.tl | apply In.tl); exact rfl) | ((with_reducible apply v_loadn_box); exact rfl; (repeat first | exact .hd | apply Sel.tl | apply In.tl); exact rfl; exact rfl) | ((with_reducible apply v_build); exact rfl; exact rfl; exact rfl)))
      | ((with_reducible apply wl_gyes); exact rfl; exact rfl)
      | ((with_reducible apply wl_gno_b); exact rfl; exact rfl; exact rfl; exact rfl)
      | ((with_reducible apply wl_gno_u); exact rfl; exact rfl; exact rfl)
      | ((with_reducible apply wl_alloc); exact rfl; intro _)
      | ((with_reducible apply wl_storen_box); exact rfl; exact rfl; (repeat first | exact .hd | apply Sel.tl | apply In.tl); exact rfl; exact rfl; exact rfl)
      | ((with_reducible apply wl_putn_box); exact rfl; exact rfl; (repeat first | exact .hd | apply Sel.tl | apply In.tl); exact rfl; exact rfl; exact rfl; exact rfl)
      | ((with_reducible apply wl_buildSlice); exact rfl; exact rfl; exact rfl; exact rfl; exact rfl; exact rfl; exact rfl; intro _)
      | ((with_reducible apply wl_gsplit) <;> first | exact rfl | (intro hb; (replace hb := Tidy.out hb; try (exfalso; omega))))
      | (with_reducible first | apply wl_nil | apply thn_n | apply w_seq | apply w_region | apply w_ret | apply w_skip | apply w_exit | apply w_block | apply thn_r | apply thn_e | apply blk_n | apply blk_r | apply blk_e | apply wx_nil)
      | ((with_reducible apply w_cond_true); exact rfl)
      | ((with_reducible apply w_cond_false); exact rfl)
      | ((with_reducible apply w_cond) <;> first | exact rfl | (intro hb; (replace hb := Tidy.out hb; try (exfalso; omega))))
      | ((with_reducible apply blk_x); exact rfl)
      | ((with_reducible apply wx_v); exact rfl; exact rfl; exact rfl; (intro D ht; (first | ((with_reducible apply vop_ok); exact rfl) | ((with_reducible apply v_fieldAddr); exact rfl) | ((with_reducible apply v_len); exact rfl) | ((with_reducible apply v_lens); exact rfl) | ((with_reducible apply v_load_box); exact rfl; (repeat first | exact .hd | apply Sel.tl | apply In.tl); exact rfl) | ((with_reducible apply v_loadw_box); exact rfl; (repeat first | exact .hd | apply Sel.tl | apply In.tl); exact rfl) | ((with_reducible apply v_loadn_box); exact rfl; (repeat first | exact .hd | apply Sel.tl | apply In.tl); exact rfl; exact rfl) | ((with_reducible apply v_build); exact rfl; exact rfl; exact rfl))); exact fun _ => rfl)
      | ((with_reducible apply wx_gno); exact rfl; exact rfl; exact rfl; exact fun _ => rfl))
    refine wx_non rfl rfl rfl (fun D ht => ?_) ?_
    · have n10 : D 10 = false := ht.not
      have n11 : D 11 = false := ht.late (j := 11) (f := 60) (by decide +kernel)
      (simp only [gat, put, upd, Nat.reduceEqDiff, Nat.reduceAdd, reduceIte, n10, n11, cond_true, cond_false, List.nil_append, List.cons_append, Bool.and_true, Bool.and_false, Bool.true_and, Bool.false_and])
      (with_reducible apply wl_buildSlice); exact rfl; exact rfl; exact rfl; exact rfl; exact rfl; exact rfl; exact rfl; intro g
      refine wl_nil ⟨rfl, (none, g), rfl, ?_⟩
      (simp only [gat, put, upd, Nat.reduceEqDiff, Nat.reduceAdd, reduceIte, n10, n11, cond_true, cond_false, List.nil_append, List.cons_append, Bool.and_true, Bool.and_false, Bool.true_and, Bool.false_and])
      (repeat (first | exact MSub.nil _ | refine MSub.pick (by (repeat first | exact .hd | apply Sel.tl | apply In.tl)) ?_ | exact MSub.refl _ | refine MSub.drop .hd ?_))
    refine wx_non rfl rfl rfl (fun D ht => ?_) ?_
    · have n11 : D 11 = false := ht.not
      have n8 : D 8 = true := ht.early (i := 8) (f := 60) (by decide +kernel)
      have n10 : D 10 = true := ht.early (i := 10) (f := 60) (by decide +kernel)
      (simp only [gat, put, upd, Nat.reduceEqDiff, Nat.reduceAdd, reduceIte, n11, n8, n10, cond_true, cond_false, List.nil_append, List.cons_append, Bool.and_true, Bool.and_false, Bool.true_and, Bool.false_and])
      (with_reducible apply wl_append1 (news := encN xNeg8)); exact rfl; exact rfl; exact rfl; (repeat first | exact .hd | apply Sel.tl | apply In.tl); (repeat first | exact .hd | apply Sel.tl | apply In.tl); exact rfl; (simp [encN, Value.oneCell']); omega; (simp only [maxLen]; omega); intro g8 c8
      refine wl_nil ⟨rfl, (some g8, c8), rfl, ?_⟩
      (simp only [gat, put, upd, Nat.reduceEqDiff, Nat.reduceAdd, reduceIte, n11, n8, n10, cond_true, cond_false, List.nil_append, List.cons_append, Bool.and_true, Bool.and_false, Bool.true_and, Bool.false_and])
      (repeat (first | exact MSub.nil _ | refine MSub.pick (by (repeat first | exact .hd | apply Sel.tl | apply In.tl)) ?_ | exact MSub.refl _ | refine MSub.drop .hd ?_))
    repeat' (first
      | ((with_reducible apply wx_callp (d := 303)); exact rfl; exact rfl; exact rfl; (decide +kernel); exact rfl; (intro D ht w' h; have n11 : D 11 = true := ht.early (i := 11) (f := 60) (by decide +kernel); simp only [n11, gat, cond_true] at h; exact mLn' _ _ w' (Reads.of_own h (by (repeat first | exact .hd | apply Sel.tl | apply In.tl)))); exact fun _ => rfl)
      | ((with_reducible apply wl_v); exact rfl; (first | ((with_reducible apply vop_ok); exact rfl) | ((with_reducible apply v_fieldAddr); exact rfl) | ((with_reducible apply v_len); exact rfl) | ((with_reducible apply v_lens); exact rfl) | ((with_reducible apply v_load_box); exact rfl; (repeat first | exact .hd | apply Sel.tl | apply In.tl); exact rfl) | ((with_reducible apply v_loadw_box); exact rfl; (repeat first | exact .hd | apply Sel.tl | apply In.tl); exact rfl) | ((with_reducible apply v_loadn_box); exact rfl; (repeat first | exact .hd | apply Sel.tl | apply In.tl); exact rfl; exact rfl) | ((with_reducible apply v_build); exact rfl; exact rfl; exact rfl)))
      | ((with_reducible apply wl_gyes); exact rfl; exact rfl)
      | ((with_reducible apply wl_gno_b); exact rfl; exact rfl; exact rfl; exact rfl)
      | ((with_reducible apply wl_gno_u); exact rfl; exact rfl; exact rfl)
      | ((with_reducible apply wl_alloc); exact rfl; intro _)
      | ((with_reducible apply wl_storen_box); exact rfl; exact rfl; (repeat first | exact .hd | apply Sel.tl | apply In.tl); exact rfl; exact rfl; exact rfl)
      | ((with_reducible apply wl_putn_box); exact rfl; exact rfl; (repeat first | exact .hd | apply Sel.tl | apply In.tl); exact rfl; exact rfl; exact rfl; exact rfl)
      | ((with_reducible apply wl_buildSlice); exact rfl; exact rfl; exact rfl; exact rfl; exact rfl; exact rfl; exact rfl; intro _)
      | ((with_reducible apply wl_gsplit) <;> first | exact rfl | (intro hb; (replace hb := Tidy.out hb; try (exfalso; omega))))
      | (with_reducible first | apply wl_nil | apply thn_n | apply w_seq | apply w_region | apply w_ret | apply w_skip | apply w_exit | apply w_block | apply thn_r | apply thn_e | apply blk_n | apply blk_r | apply blk_e | apply wx_nil)
      | ((with_reducible apply w_cond_true); exact rfl)
      | ((with_reducible apply w_cond_false); exact rfl)
      | ((with_reducible apply w_cond) <;> first | exact rfl | (intro hb; (replace hb := Tidy.out hb; try (exfalso; omega))))
      | ((with_reducible apply blk_x); exact rfl)
      | ((with_reducible apply wx_v); exact rfl; exact rfl; exact rfl; (intro D ht; (first | ((with_reducible apply vop_ok); exact rfl) | ((with_reducible apply v_fieldAddr); exact rfl) | ((with_reducible apply v_len); exact rfl) | ((with_reducible apply v_lens); exact rfl) | ((with_reducible apply v_load_box); exact rfl; (repeat first | exact .hd | apply Sel.tl | apply In.tl); exact rfl) | ((with_reducible apply v_loadw_box); exact rfl; (repeat first | exact .hd | apply Sel.tl | apply In.tl); exact rfl) | ((with_reducible apply v_loadn_box); exact rfl; (repeat first | exact .hd | apply Sel.tl | apply In.tl); exact rfl; exact rfl) | ((with_reducible apply v_build); exact rfl; exact rfl; exact rfl))); exact fun _ => rfl)
      | ((with_reducible apply wx_gno); exact rfl; exact rfl; exact rfl; exact fun _ => rfl))
    intro D hD
    have n8 := hD 8 (by decide)
    have n10 := hD 10 (by decide)
    have n11 := hD 11 (by decide)
    (simp only [gat, put, upd, Nat.reduceEqDiff, Nat.reduceAdd, reduceIte, n8, n10, n11, cond_true, cond_false, List.nil_append, List.cons_append, Bool.and_true, Bool.and_false, Bool.true_and, Bool.false_and])
    repeat' (first
      | ((with_reducible apply wl_v); exact rfl; (first | ((with_reducible apply vop_ok); exact rfl) | ((with_reducible apply v_fieldAddr); exact rfl) | ((with_reducible apply v_len); exact rfl) | ((with_reducible apply v_lens); exact rfl) | ((with_reducible apply v_load_box); exact rfl; (repeat first | exact .hd | apply Sel.tl | apply In.tl); exact rfl) | ((with_reducible apply v_loadw_box); exact rfl; (repeat first | exact .hd | apply Sel.tl | apply In.tl); exact rfl) | ((with_reducible apply v_loadn_box); exact rfl; (repeat first | exact .hd | apply Sel.tl | apply In.tl); exact rfl; exact rfl) | ((with_reducible apply v_build); exact rfl; exact rfl; exact rfl)))
      | ((with_reducible apply wl_gyes); exact rfl; exact rfl)
      | ((with_reducible apply wl_gno_b); exact rfl; exact rfl; exact rfl; exact rfl)
      | ((with_reducible apply wl_gno_u); exact rfl; exact rfl; exact rfl)
      | ((with_reducible apply wl_alloc); exact rfl; intro _)
      | ((with_reducible apply wl_storen_box); exact rfl; exact rfl; (repeat first | exact .hd | apply Sel.tl | apply In.tl); exact rfl; exact rfl; exact rfl)
      | ((with_reducible apply wl_putn_box); exact rfl; exact rfl; (repeat first | exact .hd | apply Sel.tl | apply In.tl); exact rfl; exact rfl; exact rfl; exact rfl)
      | ((with_reducible apply wl_buildSlice); exact rfl; exact rfl; exact rfl; exact rfl; exact rfl; exact rfl; exact rfl; intro _)
      | ((with_reducible apply wl_gsplit) <;> first | exact rfl | (intro hb; (replace hb := Tidy.out hb; try (exfalso; omega))))
      | (with_reducible first | apply wl_nil | apply thn_n | apply w_seq | apply w_region | apply w_ret | apply w_skip | apply w_exit | apply w_block | apply thn_r | apply thn_e | apply blk_n | apply blk_r | apply blk_e)
      | ((with_reducible apply w_cond_true); exact rfl)
      | ((with_reducible apply w_cond_false); exact rfl)
      | ((with_reducible apply w_cond) <;> first | exact rfl | (intro hb; (replace hb := Tidy.out hb; try (exfalso; omega))))
      | ((with_reducible apply blk_x); exact rfl))
    refine w_msub (H' := Blk.own A 40 11 L.length cA (L.flatMap encN) :: .box g1 40 (encN xFive) :: .box g2 40 (encN xRef8) :: .box g3 40 (encN xWide) :: .box g4 40 (encN xPlus) :: .box g5 40 (encN xNeg8) :: []) (by (repeat (first | exact MSub.nil _ | refine MSub.pick (by (repeat first | exact .hd | apply Sel.tl | apply In.tl)) ?_ | exact MSub.refl _ | refine MSub.drop .hd ?_))) ?_
    refine w_nilrow 0 0 ?_
    refine w_nilrow 0 0 ?_
    refine w_nilrow 0 0 ?_
    refine w_drawXg (id := 56) (fun | 1 => some fun g => sl g.1 L.length g.2 | 3 => some fun g => sl g.1 L.length g.2 | 4 => some fun g => sl g.1 (L.length + L.length) g.2 | 6 => some fun g => .slice (some ⟨g.2, 0, none⟩) 1 1 | 7 => some fun g => sl g.1 (L.length + L.length + 1) g.2 | _ => none)
      (fun (D : Done) (q : Nat → Gh) => (bif D 7 then Blk.own (q 7).1 40 11 (L.length + L.length + 1) (q 7).2 (L.flatMap encN ++ L.flatMap encN ++ encN xPlus) else (bif D 4 then Blk.own (q 4).1 40 11 (L.length + L.length) (q 4).2 (L.flatMap encN ++ L.flatMap encN) else (bif D 1 then Blk.own (q 1).1 40 11 L.length (q 1).2 (L.flatMap encN) else nilB))) :: (bif D 3 then Blk.own (q 3).1 40 11 L.length (q 3).2 (L.flatMap encN) else nilB) :: (bif D 6 then Blk.own (some (q 6).2) 40 11 1 1 (encN xPlus) else nilB) :: Blk.own A 40 11 L.length cA (L.flatMap encN) :: .box g1 40 (encN xFive) :: .box g2 40 (encN xRef8) :: .box g3 40 (encN xWide) :: .box g4 40 (encN xPlus) :: .box g5 40 (encN xNeg8) :: []) ?_ ?_ ?_ ?_
    · kernel_rfl
    · kernel_rfl
    · intro γ2
      (repeat (first | exact MSub.nil _ | refine MSub.pick (by (repeat first | exact .hd | apply Sel.tl | apply In.tl)) ?_ | exact MSub.refl _ | refine MSub.drop .hd ?_))
    intro γ2
    repeat' (first
      | ((with_reducible apply wl_v); exact rfl; (first | ((with_reducible apply vop_ok); exact rfl) | ((with_reducible apply v_fieldAddr); exact rfl) | ((with_reducible apply v_len); exact rfl) | ((with_reducible apply v_lens); exact rfl) | ((with_reducible apply v_load_box); exact rfl; (repeat first | exact .hd | apply Sel.tl | apply In.tl); exact rfl) | ((with_reducible apply v_loadw_box); exact rfl; (repeat first | exact .hd | apply Sel.tl | apply In.tl); exact rfl) | ((with_reducible apply v_loadn_box); exact rfl; (repeat first | exact .hd | apply Sel.tl | apply In.tl); exact rfl; exact rfl) | ((with_reducible apply v_build); exact rfl; exact rfl; exact rfl)))
      | ((with_reducible apply wl_gyes); exact rfl; exact rfl)
      | ((with_reducible apply wl_gno_b); exact rfl; exact rfl; exact rfl; exact rfl)
      | ((with_reducible apply wl_gno_u); exact rfl; exact rfl; exact rfl)
      | ((with_reducible apply wl_alloc); exact rfl; intro _)
      | ((with_reducible apply wl_storen_box); exact rfl; exact rfl; (repeat first | exact .hd | apply Sel.tl | apply In.tl); exact rfl; exact rfl; exact rfl)
      | ((with_reducible apply wl_putn_box); exact rfl; exact rfl; (repeat first | exact .hd | apply Sel.tl | apply In.tl); exact rfl; exact rfl; exact rfl; exact rfl)
      | ((with_reducible apply wl_buildSlice); exact rfl; exact rfl; exact rfl; exact rfl; exact rfl; exact rfl; exact rfl; intro _)
      | ((with_reducible apply wl_gsplit) <;> first | exact rfl | (intro hb; (replace hb := Tidy.out hb; try (exfalso; omega))))
      | (with_reducible first | apply wl_nil | apply thn_n | apply w_seq | apply w_region | apply w_ret | apply w_skip | apply w_exit | apply w_block | apply thn_r | apply thn_e | apply blk_n | apply blk_r | apply blk_e | apply wx_nil)
      | ((with_reducible apply w_cond_true); exact rfl)
      | ((with_reducible apply w_cond_false); exact rfl)
      | ((with_reducible apply w_cond) <;> first | exact rfl | (intro hb; (replace hb := Tidy.out hb; try (exfalso; omega))))
      | ((with_reducible apply blk_x); exact rfl)
      | ((with_reducible apply wx_v); exact rfl; exact rfl; exact rfl; (intro D ht; (first | ((with_reducible apply vop_ok); exact rfl) | ((with_reducible apply v_fieldAddr); exact rfl) | ((with_reducible apply v_len); exact rfl) | ((with_reducible apply v_lens); exact rfl) | ((with_reducible apply v_load_box); exact rfl; (repeat first | exact .hd | apply Sel.tl | apply In.tl); exact rfl) | ((with_reducible apply v_loadw_box); exact rfl; (repeat first | exact .hd | apply Sel.tl | apply In.tl); exact rfl) | ((with_reducible apply v_loadn_box); exact rfl; (repeat first | exact .hd | apply Sel.tl | apply In.tl); exact rfl; exact rfl) | ((with_reducible apply v_build); exact rfl; exact rfl; exact rfl))); exact fun _ => rfl)
      | ((with_reducible apply wx_gno); exact rfl; exact rfl; exact rfl; exact fun _ => rfl))
    refine wx_non rfl rfl rfl (fun D ht => ?_) ?_
    · have n1 : D 1 = false := ht.not
      have n4 : D 4 = false := ht.late (j := 4) (f := 60) (by decide +kernel)
      have n7 : D 7 = false := ht.late (j := 7) (f := 60) (by decide +kernel)
      (simp only [gat, put, upd, Nat.reduceEqDiff, Nat.reduceAdd, reduceIte, n1, n4, n7, cond_true, cond_false, List.nil_append, List.cons_append, Bool.and_true, Bool.and_false, Bool.true_and, Bool.false_and])
      (with_reducible apply wl_call (f := 53)); exact rfl; exact rfl; (intro w' h; exact hcp _ w' (Reads.of_own h (by (repeat first | exact .hd | apply Sel.tl | apply In.tl)))); (rintro v H' ⟨A3, c3, _, rfl, rfl⟩)
      refine wl_nil ⟨rfl, (A3, c3), rfl, ?_⟩
      (simp only [gat, put, upd, Nat.reduceEqDiff, Nat.reduceAdd, reduceIte, n1, n4, n7, cond_true, cond_false, List.nil_append, List.cons_append, Bool.and_true, Bool.and_false, Bool.true_and, Bool.false_and])
      (repeat (first | exact MSub.nil _ | refine MSub.pick (by (repeat first | exact .hd | apply Sel.tl | apply In.tl)) ?_ | exact MSub.refl _ | refine MSub.drop .hd ?_))
    repeat' (first
      | ((with_reducible apply wl_v); exact rfl; (first | ((with_reducible apply vop_ok); exact rfl) | ((with_reducible apply v_fieldAddr); exact rfl) | ((with_reducible apply v_len); exact rfl) | ((with_reducible apply v_lens); exact rfl) | ((with_reducible apply v_load_box); exact rfl; (repeat first | exact .hd | apply Sel.tl | apply In.tl); exact rfl) | ((with_reducible apply v_loadw_box); exact rfl; (repeat first | exact .hd | apply Sel.tl | apply In.tl); exact rfl) | ((with_reducible apply v_loadn_box); exact rfl; (repeat first | exact .hd | apply Sel.tl | apply In.tl); exact rfl; exact rfl) | ((with_reducible apply v_build); exact rfl; exact rfl; exact rfl)))
      | ((with_reducible apply wl_gyes); exact rfl; exact rfl)
      | ((with_reducible apply wl_gno_b); exact rfl; exact rfl; exact rfl; exact rfl)
      | ((with_reducible apply wl_gno_u); exact rfl; exact rfl; exact rfl)
      | ((with_reducible apply wl_alloc); exact rfl; intro _)
      | ((with_reducible apply wl_storen_box); exact rfl; exact rfl; (repeat first | exact .hd | apply Sel.tl | apply In.tl); exact rfl; exact rfl; exact rfl)
      | ((with_reducible apply wl_putn_box); exact rfl; exact rfl; (repeat first | exact .hd | apply Sel.tl | apply In.tl); exact rfl; exact rfl; exact rfl; exact rfl)
      | ((with_reducible apply wl_buildSlice); exact rfl; exact rfl; exact rfl; exact rfl; exact rfl; exact rfl; exact rfl; intro _)
      | ((with_reducible apply wl_gsplit) <;> first | exact rfl | (intro hb; (replace hb := Tidy.out hb; try (exfalso; omega))))
      | (with_reducible first | apply wl_nil | apply thn_n | apply w_seq | apply w_region | apply w_ret | apply w_skip | apply w_exit | apply w_block | apply thn_r | apply thn_e | apply blk_n | apply blk_r | apply blk_e | apply wx_nil)
      | ((with_reducible apply w_cond_true); exact rfl)
      | ((with_reducible apply w_cond_false); exact rfl)
      | ((with_reducible apply w_cond) <;> first | exact rfl | (intro hb; (replace hb := Tidy.out hb; try (exfalso; omega))))
      | ((with_reducible apply blk_x); exact rfl)
      | ((with_reducible apply wx_v); exact rfl; exact rfl; exact rfl; (intro D ht; (first | ((with_reducible apply vop_ok); exact rfl) | ((with_reducible apply v_fieldAddr); exact rfl) | ((with_reducible apply v_len); exact rfl) | ((with_reducible apply v_lens); exact rfl) | ((with_reducible apply v_load_box); exact rfl; (repeat first | exact .hd | apply Sel.tl | apply In.tl); exact rfl) | ((with_reducible apply v_loadw_box); exact rfl; (repeat first | exact .hd | apply Sel.tl | apply In.tl); exact rfl) | ((with_reducible apply v_loadn_box); exact rfl; (repeat first | exact .hd | apply Sel.tl | apply In.tl); exact rfl; exact rfl) | ((with_reducible apply v_build); exact rfl; exact rfl; exact rfl))); exact fun _ => rfl)
      | ((with_reducible apply wx_gno); exact rfl; exact rfl; exact rfl; exact fun _ => rfl))
    refine wx_non rfl rfl rfl (fun D ht => ?_) ?_
    · have n3 : D 3 = false := ht.not
      have n4 : D 4 = false := ht.late (j := 4) (f := 60) (by decide +kernel)
      have n7 : D 7 = false := ht.late (j := 7) (f := 60) (by decide +kernel)
      (simp only [gat, put, upd, Nat.reduceEqDiff, Nat.reduceAdd, reduceIte, n3, n4, n7, cond_true, cond_false, List.nil_append, List.cons_append, Bool.and_true, Bool.and_false, Bool.true_and, Bool.false_and])
      (with_reducible apply wl_call (f := 53)); exact rfl; exact rfl; (intro w' h; exact hcp _ w' (Reads.of_own h (by (repeat first | exact .hd | apply Sel.tl | apply In.tl)))); (rintro v H' ⟨A3, c3, _, rfl, rfl⟩)
      refine wl_nil ⟨rfl, (A3, c3), rfl, ?_⟩
      (simp only [gat, put, upd, Nat.reduceEqDiff, Nat.reduceAdd, reduceIte, n3, n4, n7, cond_true, cond_false, List.nil_append, List.cons_append, Bool.and_true, Bool.and_false, Bool.true_and, Bool.false_and])
      (repeat (first | exact MSub.nil _ | refine MSub.pick (by (repeat first | exact .hd | apply Sel.tl | apply In.tl)) ?_ | exact MSub.refl _ | refine MSub.drop .hd ?_))
    refine wx_non rfl rfl rfl (fun D ht => ?_) ?_
    · have n4 : D 4 = false := ht.not
      have n7 : D 7 = false := ht.late (j := 7) (f := 60) (by decide +kernel)
      have n1 : D 1 = true := ht.early (i := 1) (f := 60) (by decide +kernel)
      have n3 : D 3 = true := ht.early (i := 3) (f := 60) (by decide +kernel)
      (simp only [gat, put, upd, Nat.reduceEqDiff, Nat.reduceAdd, reduceIte, n4, n7, n1, n3, cond_true, cond_false, List.nil_append, List.cons_append, Bool.and_true, Bool.and_false, Bool.true_and, Bool.false_and])
      (with_reducible apply wl_appendR (m := L.length)); exact rfl; exact rfl; exact rfl; (repeat first | exact .hd | apply Sel.tl | apply In.tl); (intro w hm; exact Reads.of_own hm (by (repeat first | exact .hd | apply Sel.tl | apply In.tl))); exact flat_length' encN_len L; exact encNs_one L; omega; (simp only [maxLen]; omega); intro A' cap' hA
      refine wl_nil ⟨rfl, (A', cap'), rfl, ?_⟩
      (simp only [gat, put, upd, Nat.reduceEqDiff, Nat.reduceAdd, reduceIte, n4, n7, n1, n3, cond_true, cond_false, List.nil_append, List.cons_append, Bool.and_true, Bool.and_false, Bool.true_and, Bool.false_and])
      (repeat (first | exact MSub.nil _ | refine MSub.pick (by (repeat first | exact .hd | apply Sel.tl | apply In.tl)) ?_ | exact MSub.refl _ | refine MSub.drop .hd ?_))
    repeat' (first
      | ((with_reducible apply wl_v); exact rfl; (first | ((with_reducible apply vop_ok); exact rfl) | ((with_reducible apply v_fieldAddr); exact rfl) | ((with_reducible apply v_len); exact rfl) | ((with_reducible apply v_lens); exact rfl) | ((with_reducible apply v_load_box); exact rfl; (repeat first | exact .hd | apply Sel.tl | apply In.tl); exact rfl) | ((with_reducible apply v_loadw_box); exact rfl; (repeat first | exact .hd | apply Sel.tl | apply In.tl); exact rfl) | ((with_reducible apply v_loadn_box); exact rfl; (repeat first | exact .hd | apply Sel.tl | apply In.tl); exact rfl; exact rfl) | ((with_reducible apply v_build); exact rfl; exact rfl; exact rfl)))
      | ((with_reducible apply wl_gyes); exact rfl; exact rfl)
      | ((with_reducible apply wl_gno_b); exact rfl; exact rfl; exact rfl; exact rfl)
      | ((with_reducible apply wl_gno_u); exact rfl; exact rfl; exact rfl)
      | ((with_reducible apply wl_alloc); exact rfl; intro _)
      | ((with_reducible apply wl_storen_box); exact rfl; exact rfl; (repeat first | exact .hd | apply Sel.tl | apply In.tl); exact rfl; exact rfl; exact rfl)
      | ((with_reducible apply wl_putn_box); exact rfl; exact rfl; (repeat first | exact .hd | apply Sel.tl | apply In.tl); exact rfl; exact rfl; exact rfl; exact rfl)
      | ((with_reducible apply wl_buildSlice); exact rfl; exact rfl; exact rfl; exact rfl; exact rfl; exact rfl; exact rfl; intro _)
      | ((with_reducible apply wl_gsplit) <;> first | exact rfl | (intro hb; (replace hb := Tidy.out hb; try (exfalso; omega))))
      | (with_reducible first | apply wl_nil | apply thn_n | apply w_seq | apply w_region | apply w_ret | apply w_skip | apply w_exit | apply w_block | apply thn_r | apply thn_e | apply blk_n | apply blk_r | apply blk_e | apply wx_nil)
      | ((with_reducible apply w_cond_true); exact rfl)
      | ((with_reducible apply w_cond_false); exact rfl)
      | ((with_reducible apply w_cond) <;> first | exact rfl | (intro hb; (replace hb := Tidy.out hb; try (exfalso; omega))))
      | ((with_reducible apply blk_x); exact rfl)
      | ((with_reducible apply wx_v); exact rfl; exact rfl; exact rfl; (intro D ht; (first | ((with_reducible apply vop_ok); exact rfl) | ((with_reducible apply v_fieldAddr); exact rfl) | ((with_reducible apply v_len); exact rfl) | ((with_reducible apply v_lens); exact rfl) | ((with_reducible apply v_load_box); exact rfl; (repeat first | exact .hd | apply Sel.tl | apply In.tl); exact rfl) | ((with_reducible apply v_loadw_box); exact rfl; (repeat first | exact .hd | apply Sel.tl | apply In.tl); exact rfl) | ((with_reducible apply v_loadn_box); exact rfl; (repeat first | exact .hd | apply Sel.tl | apply In.tl); exact rfl; exact rfl) | ((with_reducible apply v_build); exact rfl; exact rfl; exact rfl))); exact fun _ => rfl)
      | ((with_reducible apply wx_gno); exact rfl; exact rfl; exact rfl; exact fun _ => rfl))
    refine wx_non rfl rfl rfl (fun D ht => ?_) ?_
    · have n6 : D 6 = false := ht.not
      have n7 : D 7 = false := ht.late (j := 7) (f := 60) (by decide +kernel)
      (simp only [gat, put, upd, Nat.reduceEqDiff, Nat.reduceAdd, reduceIte, n6, n7, cond_true, cond_false, List.nil_append, List.cons_append, Bool.and_true, Bool.and_false, Bool.true_and, Bool.false_and])
      (with_reducible apply wl_buildSlice); exact rfl; exact rfl; exact rfl; exact rfl; exact rfl; exact rfl; exact rfl; intro g
      refine wl_nil ⟨rfl, (none, g), rfl, ?_⟩
      (simp only [gat, put, upd, Nat.reduceEqDiff, Nat.reduceAdd, reduceIte, n6, n7, cond_true, cond_false, List.nil_append, List.cons_append, Bool.and_true, Bool.and_false, Bool.true_and, Bool.false_and])
      (repeat (first | exact MSub.nil _ | refine MSub.pick (by (repeat first | exact .hd | apply Sel.tl | apply In.tl)) ?_ | exact MSub.refl _ | refine MSub.drop .hd ?_))
    refine wx_non rfl rfl rfl (fun D ht => ?_) ?_
    · have n7 : D 7 = false := ht.not
      have n4 : D 4 = true := ht.early (i := 4) (f := 60) (by decide +kernel)
      have n6 : D 6 = true := ht.early (i := 6) (f := 60) (by decide +kernel)
      (simp only [gat, put, upd, Nat.reduceEqDiff, Nat.reduceAdd, reduceIte, n7, n4, n6, cond_true, cond_false, List.nil_append, List.cons_append, Bool.and_true, Bool.and_false, Bool.true_and, Bool.false_and])
      (with_reducible apply wl_append1 (news := encN xPlus)); exact rfl; exact rfl; exact rfl; (repeat first | exact .hd | apply Sel.tl | apply In.tl); (repeat first | exact .hd | apply Sel.tl | apply In.tl); exact rfl; (simp [encN, Value.oneCell']); omega; (simp only [maxLen]; omega); intro g8 c8
      refine wl_nil ⟨rfl, (some g8, c8), rfl, ?_⟩
      (simp only [gat, put, upd, Nat.reduceEqDiff, Nat.reduceAdd, reduceIte, n7, n4, n6, cond_true, cond_false, List.nil_append, List.cons_append, Bool.and_true, Bool.and_false, Bool.true_and, Bool.false_and])
      (repeat (first | exact MSub.nil _ | refine MSub.pick (by (repeat first | exact .hd | apply Sel.tl | apply In.tl)) ?_ | exact MSub.refl _ | refine MSub.drop .hd ?_))
    repeat' (first
      | ((with_reducible apply wl_v); exact rfl; (first | ((with_reducible apply vop_ok); exact rfl) | ((with_reducible apply v_fieldAddr); exact rfl) | ((with_reducible apply v_len); exact rfl) | ((with_reducible apply v_lens); exact rfl) | ((with_reducible apply v_load_box); exact rfl; (repeat first | exact .hd | apply Sel.tl | apply In.tl); exact rfl) | ((with_reducible apply v_loadw_box); exact rfl; (repeat first | exact .hd | apply Sel.tl | apply In.tl); exact rfl) | ((with_reducible apply v_loadn_box); exact rfl; (repeat first | exact .hd | apply Sel.tl | apply In.tl); exact rfl; exact rfl) | ((with_reducible apply v_build); exact rfl; exact rfl; exact rfl)))
      | ((with_reducible apply wl_gyes); exact rfl; exact rfl)
      | ((with_reducible apply wl_gno_b); exact rfl; exact rfl; exact rfl; exact rfl)
      | ((with_reducible apply wl_gno_u); exact rfl; exact rfl; exact rfl)
      | ((with_reducible apply wl_alloc); exact rfl; intro _)
      | ((with_reducible apply wl_storen_box); exact rfl; exact rfl; (repeat first | exact .hd | apply Sel.tl | apply In.tl); exact rfl; exact rfl; exact rfl)
      | ((with_reducible apply wl_putn_box); exact rfl; exact rfl; (repeat first | exact .hd | apply Sel.tl | apply In.tl); exact rfl; exact rfl; exact rfl; exact rfl)
      | ((with_reducible apply wl_buildSlice); exact rfl; exact rfl; exact rfl; exact rfl; exact rfl; exact rfl; exact rfl; intro _)
      | ((with_reducible apply wl_gsplit) <;> first | exact rfl | (intro hb; (replace hb := Tidy.out hb; try (exfalso; omega))))
      | (with_reducible first | apply wl_nil | apply thn_n | apply w_seq | apply w_region | apply w_ret | apply w_skip | apply w_exit | apply w_block | apply thn_r | apply thn_e | apply blk_n | apply blk_r | apply blk_e | apply wx_nil)
      | ((with_reducible apply w_cond_true); exact rfl)
      | ((with_reducible apply w_cond_false); exact rfl)
      | ((with_reducible apply w_cond) <;> first | exact rfl | (intro hb; (replace hb := Tidy.out hb; try (exfalso; omega))))
      | ((with_reducible apply blk_x); exact rfl)
      | ((with_reducible apply wx_v); exact rfl; exact rfl; exact rfl; (intro D ht; (first | ((with_reducible apply vop_ok); exact rfl) | ((with_reducible apply v_fieldAddr); exact rfl) | ((with_reducible apply v_len); exact rfl) | ((with_reducible apply v_lens); exact rfl) | ((with_reducible apply v_load_box); exact rfl; (repeat first | exact .hd | apply Sel.tl | apply In.tl); exact rfl) | ((with_reducible apply v_loadw_box); exact rfl; (repeat first | exact .hd | apply Sel.tl | apply In.tl); exact rfl) | ((with_reducible apply v_loadn_box); exact rfl; (repeat first | exact .hd | apply Sel.tl | apply In.tl); exact rfl; exact rfl) | ((with_reducible apply v_build); exact rfl; exact rfl; exact rfl))); exact fun _ => rfl)
      | ((with_reducible apply wx_gno); exact rfl; exact rfl; exact rfl; exact fun _ => rfl))
    intro D hD
    have n1 := hD 1 (by decide)
    have n3 := hD 3 (by decide)
    have n4 := hD 4 (by decide)
    have n6 := hD 6 (by decide)
    have n7 := hD 7 (by decide)
    (simp only [gat, put, upd, Nat.reduceEqDiff, Nat.reduceAdd, reduceIte, n1, n3, n4, n6, n7, cond_true, cond_false, List.nil_append, List.cons_append, Bool.and_true, Bool.and_false, Bool.true_and, Bool.false_and])
    repeat' (first
      | ((with_reducible apply wl_v); exact rfl; (first | ((with_reducible apply vop_ok); exact rfl) | ((with_reducible apply v_fieldAddr); exact rfl) | ((with_reducible apply v_len); exact rfl) | ((with_reducible apply v_lens); exact rfl) | ((with_reducible apply v_load_box); exact rfl; (repeat first | exact .hd | apply Sel.tl | apply In.tl); exact rfl) | ((with_reducible apply v_loadw_box); exact rfl; (repeat first | exact .hd | apply Sel.tl | apply In.tl); exact rfl) | ((with_reducible apply v_loadn_box); exact rfl; (repeat first | exact .hd | apply Sel.tl | apply In.tl); exact rfl; exact rfl) | ((with_reducible apply v_build); exact rfl; exact rfl; exact rfl)))
      | ((with_reducible apply wl_gyes); exact rfl; exact rfl)
      | ((with_reducible apply wl_gno_b); exact rfl; exact rfl; exact rfl; exact rfl)
      | ((with_reducible apply wl_gno_u); exact rfl; exact rfl; exact rfl)
      | ((with_reducible apply wl_alloc); exact rfl; intro _)
      | ((with_reducible apply wl_storen_box); exact rfl; exact rfl; (repeat first | exact .hd | apply Sel.tl | apply In.tl); exact rfl; exact rfl; exact rfl)
      | ((with_reducible apply wl_putn_box); exact rfl; exact rfl; (repeat first | exact .hd | apply Sel.tl | apply In.tl); exact rfl; exact rfl; exact rfl; exact rfl)
      | ((with_reducible apply wl_buildSlice); exact rfl; exact rfl; exact rfl; exact rfl; exact rfl; exact rfl; exact rfl; intro _)
      | ((with_reducible apply wl_gsplit) <;> first | exact rfl | (intro hb; (replace hb := Tidy.out hb; try (exfalso; omega))))
      | (with_reducible first | apply wl_nil | apply thn_n | apply w_seq | apply w_region | apply w_ret | apply w_skip | apply w_exit | apply w_block | apply thn_r | apply thn_e | apply blk_n | apply blk_r | apply blk_e)
      | ((with_reducible apply w_cond_true); exact rfl)
      | ((with_reducible apply w_cond_false); exact rfl)
      | ((with_reducible apply w_cond) <;> first | exact rfl | (intro hb; (replace hb := Tidy.out hb; try (exfalso; omega))))
      | ((with_reducible apply blk_x); exact rfl))
    have el : (L ++ L ++ [xPlus]).length = L.length + L.length + 1 := by simp only [List.length_append, List.length_cons, List.length_nil]
    have ef : (L ++ L ++ [xPlus]).flatMap encN = L.flatMap encN ++ L.flatMap encN ++ encN xPlus := by rw [List.flatMap_append, List.flatMap_append]; rfl
    refine ⟨(L ++ L ++ [xPlus], (γ2 7).1, (γ2 7).2), ⟨wf_app (wf_app wL wL) (wf_one xPlus_wf), by dsimp only; omega, by dsimp only; omega⟩, (by dsimp only; omega), ?_, ?_, ?_⟩
    · dsimp only
      rw [el]
      (repeat (first | exact Sub.nil _ | refine Sub.cons rfl ?_))
    · (repeat (first | exact Sub.nil _ | refine Sub.cons rfl ?_))
    · dsimp only
      rw [el, ef]
      (repeat (first | exact MSub.nil _ | refine MSub.pick (by (repeat first | exact .hd | apply Sel.tl | apply In.tl)) ?_ | exact MSub.refl _ | refine MSub.drop .hd ?_))
  repeat' (first
    | ((with_reducible apply wl_callp (d := 315)); exact rfl; exact rfl; (intro w' h; exact mL _ _ w' (Reads.of_own h (by (repeat first | exact .hd | apply Sel.tl | apply In.tl)))))
    | ((with_reducible apply wl_callp (d := 317)); exact rfl; exact rfl; (intro w' h; exact TreeFunctions_at 255 0 _ (by omega) (by omega) w'))
    | ((with_reducible apply wl_callp (d := 320)); exact rfl; exact rfl; (intro w' h; exact TreeFunctions_at 1 0 _ (by omega) (by omega) w'))
    | ((with_reducible apply wl_callp (f := 28)); exact rfl; exact rfl; (intro w' h; exact awake_at w'))
    | ((with_reducible apply wl_v); exact rfl; (first | ((with_reducible apply vop_ok); exact rfl) | ((with_reducible apply v_fieldAddr); exact rfl) | ((with_reducible apply v_len); exact rfl) | ((with_reducible apply v_lens); exact rfl) | ((with_reducible apply v_load_box); exact rfl; (repeat first | exact .hd | apply Sel.tl | apply In.tl); exact rfl) | ((with_reducible apply v_loadw_box); exact rfl; (repeat first | exact .hd | apply Sel.tl | apply In.tl); exact rfl) | ((with_reducible apply v_loadn_box); exact rfl; (repeat first | exact .hd | apply Sel.tl | apply In.tl); exact rfl; exact rfl) | ((with_reducible apply v_build); exact rfl; exact rfl; exact rfl)))
    | ((with_reducible apply wl_gyes); exact rfl; exact rfl)
    | ((with_reducible apply wl_gno_b); exact rfl; exact rfl; exact rfl; exact rfl)
    | ((with_reducible apply wl_gno_u); exact rfl; exact rfl; exact rfl)
    | ((with_reducible apply wl_alloc); exact rfl; intro _)
    | ((with_reducible apply wl_storen_box); exact rfl; exact rfl; (repeat first | exact .hd | apply Sel.tl | apply In.tl); exact rfl; exact rfl; exact rfl)
    | ((with_reducible apply wl_putn_box); exact rfl; exact rfl; (repeat first | exact .hd | apply Sel.tl | apply In.tl); exact rfl; exact rfl; exact rfl; exact rfl)
    | ((with_reducible apply wl_buildSlice); exact rfl; exact rfl; exact rfl; exact rfl; exact rfl; exact rfl; exact rfl; intro _)
    | ((with_reducible apply wl_gsplit) <;> first | exact rfl | (intro hb; (replace hb := Tidy.out hb; try (exfalso; omega))))
    | (with_reducible first | apply wl_nil | apply thn_n | apply w_seq | apply w_region | apply w_ret | apply w_skip | apply w_exit | apply w_block | apply thn_r | apply thn_e | apply blk_n | apply blk_r | apply blk_e)
    | ((with_reducible apply w_cond_true); exact rfl)
    | ((with_reducible apply w_cond_false); exact rfl)
    | ((with_reducible apply w_cond) <;> first | exact rfl | (intro hb; (replace hb := Tidy.out hb; try (exfalso; omega))))
    | ((with_reducible apply blk_x); exact rfl))
  ((with_reducible apply ret1); exact .inl rfl; exact rfl; exact rfl; exact MSub.nil _)
  rfl
end Go.SL

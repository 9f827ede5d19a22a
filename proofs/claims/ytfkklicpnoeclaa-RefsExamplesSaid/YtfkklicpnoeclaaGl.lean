/-
  Lemmas and walks, packed: Sl17 W41.
-/
import Derived.Test.YtfkklicpnoeclaaGb
import Derived.Test.YtfkklicpnoeclaaGj
import Derived.Test.YtfkklicpnoeclaaGd
set_option linter.unusedSimpArgs false
set_option linter.unusedVariables false
/-
  Arrays of structs: built whole, an element taken; append of one record.
-/
namespace Go.SL
open Go Go.RowKit

section
variable {P : Program} {n : Fr} {w0 : World} {Q : Post} {s : Slots} {H : List Blk} {rest : List Oper} {ty : TypeId} {p : String} {af : Array Edge}

theorem v_index_agg {x ix : Operand} {t e m j sz : Nat} {xs ys : List Value} {k : IntKind} [ht : Und P t (.array m e)] [he : Agg P e sz] (hx : ev s x = some (.agg xs.toArray)) (hi : ev s ix = some (.int k (j : Nat))) (hj : j < m) (hv : (xs.drop (j * sz)).take sz = ys) :
    VOp P w0 s H (.index t x ix) ty (.agg ys.toArray) := fun ρ w _ _ _ _ hρ _ => by
  obtain ⟨d, i, h3, h4, h5, h6⟩ := he.out
  have h0 : (0 : Int) ≤ (j : Int) := by omega
  have hj' : ((j : Nat) : Int) < ((m : Nat) : Int) := by omega
  subst hv
  have he : (xs.toArray.extract (j * sz) (j * sz + sz)) = ((xs.drop (j * sz)).take sz).toArray := by
    apply Array.ext'
    simp [List.extract_eq_take_drop]
  have hA : (isAgg e).run P w = .ok true w := by
    cases d <;> simp_all [isAgg, run_underlying h3]
  simp [execOp, hρ x _ hx, hρ ix _ hi, Instr.index, asIntOf, run_underlying ht.out, sizeOf, typeInfo, part, hA, hj, h5, h6, he]

theorem wl_buildAr {d t e m sz : Nat} {ps : List (Nat × Operand)} {vs xs zs : List Value} {ops : Array Oper} [ht : Und P t (.array m e)] [he : Size P e sz] [hz : ZeroC P t zs] (hn : Nat.blt d n.sz = true) (hps : evd s ps 0 = some vs)
    (hs0 : Nat.blt 0 sz = true) (hl : Nat.beq (vs.length * sz) zs.length = true) (h1 : sizes sz vs = true) (hx : norm (flat vs) = some xs) (k : WL P n w0 ops rest Q ((d, .agg xs.toArray) :: s) H) :
    WL P n w0 ops (⟨some d, .build t ps.toArray, ty, p, af, none⟩ :: rest) Q s H := by
  refine wl_exec rfl d rfl hn (fun a w hs hm => ?_) k
  obtain ⟨it, z, i1, i2, i3⟩ := hz.out
  obtain ⟨ie, j1, j2⟩ := he.out
  have hall := sizes_all h1
  have hlen := Nat.eq_of_beq_eq_true hl
  have hfill := Great.fill_whole (s := sz) (by simpa using hs0) vs z.cells hall (by rw [i3]; simp [hlen])
  rw [← evd_map hs hps] at hfill
  have hb : P.built t (ps.map fun (x : Nat × Operand) => (x.1, a.eval x.2)) = some (flat vs).toArray := by
    unfold Program.built
    simp only [i1, ht.out, i2, j1, j2]
    exact hfill
  have hr := run_build (P := P) w t (ps.map fun (x : Nat × Operand) => (x.1, a.eval x.2)).toArray (flat vs).toArray (by simpa using hb)
  rw [norm_eq hx]
  simp only [execOp, List.map_toArray]
  simp only [Sem.run_bind, hr, Result.andThen_ok, Sem.run_pure]

/-- 'append(s, x)': one record of the call's own behind a row of the call's own. -/
theorem wl_append1 {d t e n' c g sz by_ : Nat} {A : Option Nat} {x y : Operand} {xs news : List Value} {R : List Blk} {ops : Array Oper} [ht : Und P t (.slice e)] [he : Elem P e sz by_] (hn : Nat.blt d n.sz = true)
    (hx : ev s x = some (sl A n' c)) (hy : ev s y = some (.slice (some ⟨g, 0, none⟩) 1 1)) (hsel : Sel (.own A e sz n' c xs) H R)
    (hi : In (.own (some g) e sz 1 1 news) H) (hl : news.length = sz) (h1 : ∀ u ∈ news, u.oneCell' = true) (hby : (n' + 1) * by_ ≤ 140737488355328) (h63 : n' + 1 ≤ maxLen)
    (k : ∀ g' cap', WL P n w0 ops rest Q ((d, sl (some g') (n' + 1) cap') :: s) (.own (some g') e sz (n' + 1) cap' (xs ++ news) :: R)) :
    WL P n w0 ops (⟨some d, .call { callee := .builtin .append, args := #[x, y], argTypes := #[t, t] }, ty, p, af, none⟩ :: rest) Q s H :=
  wl_appendR (m := 1) hn hx hy hsel (fun w hm => Reads.of_own (A := some g) hm hi) (by omega) h1 hby h63 fun A' cap' hA => by
    obtain ⟨g', rfl⟩ := hA (by omega)
    exact k g' cap'
end

theorem v_leqN {P : Program} {w0 : World} {s : Slots} {H : List Blk} {ty t t' : TypeId} {x y : Operand} {k : IntKind} {a b : Int} (hx : ev s x = some (.int k a)) (hy : ev s y = some (.int k b)) (h : a ≤ b) : VOp P w0 s H (.binOp .leq t x y t') ty (.bool true) := by
  have h1 := v_leq (P := P) (w0 := w0) (H := H) (ty := ty) (t := t) (t' := t') hx hy
  rwa [decide_eq_true h] at h1
end Go.SL

/-
  RefsExamples returns true.
-/
namespace Go.SL
open Go Go.Proofs
attribute [local irreducible] W WL WQ WG WA WX VOp thn blk cutP retP FnAt FnIn Held

def xOne : Rct := ⟨2, 3, 2, 3⟩
def xTwo : Rct := ⟨2, 3, 5, 4⟩
def xRef : Nd := ⟨2, zeroV, xOne, 0, 0, 0⟩
def xRng : Nd := ⟨3, zeroV, xTwo, 0, 0, 0⟩
def xNeg : Nd := ⟨4, zeroV, zeroR, 0, 0, 0⟩
def xCall (fn n : Nat) : Nd := ⟨7, zeroV, zeroR, 0, fn, n⟩
def xPick (q : Nat) : Nd := if q = 0 then xRef else xRng
def xTree : List Nd := [xRng, xCall 46 1, xRef, ⟨6, zeroV, zeroR, 1, 0, 0⟩]
def xMoves : List Value := [.int .i64 0, .int .i64 1, .int .i64 (-1), .int .i64 (-2), .int .i64 1019, .int .i64 1020, .int .i64 (-9223372036854775808), .int .i64 9223372036854775807, .int .i64 1020, .int .i64 1021, .int .i64 (-3)]
def xBool : Nd := ⟨1, ⟨2, 0, emptyB⟩, zeroR, 0, 0, 0⟩

theorem xPick_cells (q : Nat) (h : q < 2) : ((encN xRef ++ encN xRng).drop (q * 11)).take 11 = encN (xPick q) := by
  rcases (by omega : q = 0 ∨ q = 1) with rfl | rfl <;> rfl

theorem wf_of {n : Nd} (h1 : n.v.num = 0) (h2 : 0 ≤ n.fn) (h3 : n.fn ≤ 255) : wfN n := ⟨by omega, h2, h3⟩
theorem wf_ref : wfN xRef := wf_of rfl (by decide) (by decide)
theorem wf_rng : wfN xRng := wf_of rfl (by decide) (by decide)
theorem wf_neg : wfN xNeg := wf_of rfl (by decide) (by decide)
theorem wf_call {f n : Nat} (h : f ≤ 255) : wfN (xCall f n) := wf_of rfl (by dsimp only [xCall]; omega) (by dsimp only [xCall]; omega)
theorem wf_pick (q : Nat) : wfN (xPick q) := by
  unfold xPick
  split
  · exact wf_ref
  · exact wf_rng
theorem wf_all {L : List Nd} (h : ∀ n ∈ L, wfN n) {m : Nd} (hm : wfN m) : ∀ n ∈ L ++ [m], wfN n := by
  intro n hn
  rcases List.mem_append.1 hn with hn | hn
  · exact h n hn
  · rw [List.mem_singleton.1 hn]; exact hm

set_option maxRecDepth 20000 in
set_option maxHeartbeats 1000000 in
theorem RefsExamples_at (w : World) : Pure Try.prog 12 [] w (.bool true) := by
  refine fn_at Try.func12 rfl Try.ntmps12 rfl ?_
  repeat' (first
    | ((with_reducible apply wl_v); exact rfl; (first | ((with_reducible apply vop_ok); exact rfl) | ((with_reducible apply v_len); exact rfl) | ((with_reducible apply v_lens); exact rfl) | ((with_reducible apply v_load_box); exact rfl; (repeat first | exact .hd | apply Sel.tl | apply In.tl); exact rfl) | ((with_reducible apply v_loadw_box); exact rfl; (repeat first | exact .hd | apply Sel.tl | apply In.tl); exact rfl) | ((with_reducible apply v_loadn_box); exact rfl; (repeat first | exact .hd | apply Sel.tl | apply In.tl); exact rfl; exact rfl) | ((with_reducible apply v_build); exact rfl; exact rfl; exact rfl)))
    | ((with_reducible apply wl_gyes); exact rfl; exact rfl)
    | ((with_reducible apply wl_gno_b); exact rfl; exact rfl; exact rfl; exact rfl)
    | ((with_reducible apply wl_gno_u); exact rfl; exact rfl; exact rfl)
    | ((with_reducible apply wl_alloc); exact rfl; intro _)
    | ((with_reducible apply wl_storen_box); exact rfl; exact rfl; (repeat first | exact .hd | apply Sel.tl | apply In.tl); exact rfl; exact rfl; exact rfl)
    | ((with_reducible apply wl_putn_box); exact rfl; exact rfl; (repeat first | exact .hd | apply Sel.tl | apply In.tl); exact rfl; exact rfl; exact rfl; exact rfl)
    | ((with_reducible apply wl_buildSlice); exact rfl; exact rfl; exact rfl; exact rfl; exact rfl; exact rfl; exact rfl; intro _)
    | ((with_reducible apply wl_gsplit) <;> first | exact rfl | (intro hb; (replace hb := Tidy.out hb; try (exfalso; omega))))
    | (with_reducible first | apply wl_nil | apply thn_n | apply w_seq | apply w_region | apply w_ret | apply w_skip | apply w_exit | apply w_block | apply thn_r | apply thn_e | apply blk_n | apply blk_r | apply blk_e)
    | ((with_reducible apply w_cond_true); exact rfl)
    | ((with_reducible apply w_cond_false); exact rfl)
    | ((with_reducible apply w_cond) <;> first | exact rfl | (intro hb; (replace hb := Tidy.out hb; try (exfalso; omega))))
    | ((with_reducible apply blk_x); exact rfl))
  rename_i g1 g2
  refine w_loopK [1, 2] rfl (fun fn : Nat => [(3, .int .u8 (fn : Int))]) (fun _ => [.box g2 38 (encR xTwo), .box g1 38 (encR xOne)]) (fun fn => 1 ≤ fn ∧ fn ≤ 51) (fun fn => 51 - fn) 1 (by omega) (by (repeat (first | exact Sub.nil _ | refine Sub.cons rfl ?_))) (by (repeat (first | exact MSub.nil _ | refine MSub.pick (by (repeat first | exact .hd | apply Sel.tl | apply In.tl)) ?_ | exact MSub.refl _ | refine MSub.drop .hd ?_))) ?_
  rintro fn ⟨hf1, hf2⟩
  by_cases hf : fn ≤ 50
  · repeat' (first
      | ((with_reducible apply wl_v); exact rfl; (first | ((with_reducible apply vop_ok); exact rfl) | ((with_reducible apply v_len); exact rfl) | ((with_reducible apply v_lens); exact rfl) | ((with_reducible apply v_load_box); exact rfl; (repeat first | exact .hd | apply Sel.tl | apply In.tl); exact rfl) | ((with_reducible apply v_loadw_box); exact rfl; (repeat first | exact .hd | apply Sel.tl | apply In.tl); exact rfl) | ((with_reducible apply v_loadn_box); exact rfl; (repeat first | exact .hd | apply Sel.tl | apply In.tl); exact rfl; exact rfl) | ((with_reducible apply v_build); exact rfl; exact rfl; exact rfl)))
      | ((with_reducible apply wl_gyes); exact rfl; exact rfl)
      | ((with_reducible apply wl_gno_b); exact rfl; exact rfl; exact rfl; exact rfl)
      | ((with_reducible apply wl_gno_u); exact rfl; exact rfl; exact rfl)
      | ((with_reducible apply wl_alloc); exact rfl; intro _)
      | ((with_reducible apply wl_storen_box); exact rfl; exact rfl; (repeat first | exact .hd | apply Sel.tl | apply In.tl); exact rfl; exact rfl; exact rfl)
      | ((with_reducible apply wl_putn_box); exact rfl; exact rfl; (repeat first | exact .hd | apply Sel.tl | apply In.tl); exact rfl; exact rfl; exact rfl; exact rfl)
      | ((with_reducible apply wl_buildSlice); exact rfl; exact rfl; exact rfl; exact rfl; exact rfl; exact rfl; exact rfl; intro _)
      | ((with_reducible apply wl_gsplit) <;> first | exact rfl | (intro hb; (replace hb := Tidy.out hb; try (exfalso; omega))))
      | (with_reducible first | apply wl_nil | apply thn_n | apply w_seq | apply w_region | apply w_ret | apply w_skip | apply w_exit | apply w_block | apply thn_r | apply thn_e | apply blk_n | apply blk_r | apply blk_e)
      | ((with_reducible apply w_cond_true); exact rfl)
      | ((with_reducible apply w_cond_false); exact rfl)
      | ((with_reducible apply w_cond) <;> first | exact rfl | (intro hb; (replace hb := Tidy.out hb; try (exfalso; omega))))
      | ((with_reducible apply blk_x); exact rfl))
    refine w_loopK [1, 2, 3] rfl (fun m : Nat => [(4, .int .i64 (m : Int))]) (fun _ => [.box g2 38 (encR xTwo), .box g1 38 (encR xOne)]) (fun m => 1 ≤ m ∧ m ≤ 4) (fun m => 4 - m) 1 (by omega) (by (repeat (first | exact Sub.nil _ | refine Sub.cons rfl ?_))) (by (repeat (first | exact MSub.nil _ | refine MSub.pick (by (repeat first | exact .hd | apply Sel.tl | apply In.tl)) ?_ | exact MSub.refl _ | refine MSub.drop .hd ?_))) ?_
    rintro m ⟨hm1, hm2⟩
    by_cases hm : m < 4
    · repeat' (first
        | ((with_reducible apply wl_buildAr); exact rfl; exact rfl; exact rfl; exact rfl; exact rfl; exact rfl)
        | ((with_reducible apply wl_v); exact rfl; (first | ((with_reducible apply vop_ok); exact rfl) | ((with_reducible apply v_len); exact rfl) | ((with_reducible apply v_lens); exact rfl) | ((with_reducible apply v_load_box); exact rfl; (repeat first | exact .hd | apply Sel.tl | apply In.tl); exact rfl) | ((with_reducible apply v_loadw_box); exact rfl; (repeat first | exact .hd | apply Sel.tl | apply In.tl); exact rfl) | ((with_reducible apply v_loadn_box); exact rfl; (repeat first | exact .hd | apply Sel.tl | apply In.tl); exact rfl; exact rfl) | ((with_reducible apply v_build); exact rfl; exact rfl; exact rfl)))
        | ((with_reducible apply wl_gyes); exact rfl; exact rfl)
        | ((with_reducible apply wl_gno_b); exact rfl; exact rfl; exact rfl; exact rfl)
        | ((with_reducible apply wl_gno_u); exact rfl; exact rfl; exact rfl)
        | ((with_reducible apply wl_alloc); exact rfl; intro _)
        | ((with_reducible apply wl_storen_box); exact rfl; exact rfl; (repeat first | exact .hd | apply Sel.tl | apply In.tl); exact rfl; exact rfl; exact rfl)
        | ((with_reducible apply wl_putn_box); exact rfl; exact rfl; (repeat first | exact .hd | apply Sel.tl | apply In.tl); exact rfl; exact rfl; exact rfl; exact rfl)
        | ((with_reducible apply wl_buildSlice); exact rfl; exact rfl; exact rfl; exact rfl; exact rfl; exact rfl; exact rfl; intro _)
        | ((with_reducible apply wl_gsplit) <;> first | exact rfl | (intro hb; (replace hb := Tidy.out hb; try (exfalso; omega))))
        | (with_reducible first | apply wl_nil | apply thn_n | apply w_seq | apply w_region | apply w_ret | apply w_skip | apply w_exit | apply w_block | apply thn_r | apply thn_e | apply blk_n | apply blk_r | apply blk_e)
        | ((with_reducible apply w_cond_true); exact rfl)
        | ((with_reducible apply w_cond_false); exact rfl)
        | ((with_reducible apply w_cond) <;> first | exact rfl | (intro hb; (replace hb := Tidy.out hb; try (exfalso; omega))))
        | ((with_reducible apply blk_x); exact rfl))
      refine w_loopK [1, 2, 3, 4, 27] rfl (fun q : Nat => [(28, .int .i64 (q : Int))]) (fun _ => [.box g2 38 (encR xTwo), .box g1 38 (encR xOne)]) (fun q => q ≤ 2) (fun q => 2 - q) 0 (by omega) (by (repeat (first | exact Sub.nil _ | refine Sub.cons rfl ?_))) (by (repeat (first | exact MSub.nil _ | refine MSub.pick (by (repeat first | exact .hd | apply Sel.tl | apply In.tl)) ?_ | exact MSub.refl _ | refine MSub.drop .hd ?_))) ?_
      intro q hq
      by_cases hq2 : q < 2
      · have hpk := xPick_cells q hq2
        have wpk := wf_pick q
        generalize xPick q = x at hpk wpk
        repeat' (first
          | ((with_reducible apply wl_v (d := 30)); exact rfl; (with_reducible apply v_index_agg (ys := encN x)); exact rfl; exact rfl; exact hq2; exact hpk)
          | ((with_reducible apply wl_buildSlice0); exact rfl; intro _)
          | ((with_reducible apply wl_v); exact rfl; (first | ((with_reducible apply vop_ok); exact rfl) | ((with_reducible apply v_len); exact rfl) | ((with_reducible apply v_lens); exact rfl) | ((with_reducible apply v_load_box); exact rfl; (repeat first | exact .hd | apply Sel.tl | apply In.tl); exact rfl) | ((with_reducible apply v_loadw_box); exact rfl; (repeat first | exact .hd | apply Sel.tl | apply In.tl); exact rfl) | ((with_reducible apply v_loadn_box); exact rfl; (repeat first | exact .hd | apply Sel.tl | apply In.tl); exact rfl; exact rfl) | ((with_reducible apply v_build); exact rfl; exact rfl; exact rfl)))
          | ((with_reducible apply wl_gyes); exact rfl; exact rfl)
          | ((with_reducible apply wl_gno_b); exact rfl; exact rfl; exact rfl; exact rfl)
          | ((with_reducible apply wl_gno_u); exact rfl; exact rfl; exact rfl)
          | ((with_reducible apply wl_alloc); exact rfl; intro _)
          | ((with_reducible apply wl_storen_box); exact rfl; exact rfl; (repeat first | exact .hd | apply Sel.tl | apply In.tl); exact rfl; exact rfl; exact rfl)
          | ((with_reducible apply wl_putn_box); exact rfl; exact rfl; (repeat first | exact .hd | apply Sel.tl | apply In.tl); exact rfl; exact rfl; exact rfl; exact rfl)
          | ((with_reducible apply wl_buildSlice); exact rfl; exact rfl; exact rfl; exact rfl; exact rfl; exact rfl; exact rfl; intro _)
          | ((with_reducible apply wl_gsplit) <;> first | exact rfl | (intro hb; (replace hb := Tidy.out hb; try (exfalso; omega))))
          | (with_reducible first | apply wl_nil | apply thn_n | apply w_seq | apply w_region | apply w_ret | apply w_skip | apply w_exit | apply w_block | apply thn_r | apply thn_e | apply blk_n | apply blk_r | apply blk_e)
          | ((with_reducible apply w_cond_true); exact rfl)
          | ((with_reducible apply w_cond_false); exact rfl)
          | ((with_reducible apply w_cond) <;> first | exact rfl | (intro hb; (replace hb := Tidy.out hb; try (exfalso; omega))))
          | ((with_reducible apply blk_x); exact rfl))
        rename_i g6 g7
        refine w_loopK [1, 2, 3, 4, 6, 27, 28] rfl (fun y : Nat × Nat × Nat => [(7, sl (some y.2.1) y.1 y.2.2), (8, .int .i64 (y.1 : Int))]) (fun y => [.own (some y.2.1) 40 11 y.1 y.2.2 ((List.replicate y.1 xRef).flatMap encN), .box g6 40 (encN x), .box g2 38 (encR xTwo), .box g1 38 (encR xOne)]) (fun y => y.1 ≤ m) (fun y => m - y.1) (0, g7, 0) (by omega) (by (repeat (first | exact Sub.nil _ | refine Sub.cons rfl ?_))) (by (repeat (first | exact MSub.nil _ | refine MSub.pick (by (repeat first | exact .hd | apply Sel.tl | apply In.tl)) ?_ | exact MSub.refl _ | refine MSub.drop .hd ?_))) ?_
        rintro ⟨k, gA, cA⟩ hk
        dsimp only at hk ⊢
        by_cases hkm : k < m
        · repeat' (first
            | ((with_reducible apply wl_append1); exact rfl; exact rfl; exact rfl; (repeat first | exact .hd | apply Sel.tl | apply In.tl); (repeat first | exact .hd | apply Sel.tl | apply In.tl); exact rfl; (simp [encN, Value.oneCell']); omega; (simp only [maxLen]; omega); intro g8 c8)
            | ((with_reducible apply wl_v); exact rfl; (first | ((with_reducible apply vop_ok); exact rfl) | ((with_reducible apply v_len); exact rfl) | ((with_reducible apply v_lens); exact rfl) | ((with_reducible apply v_load_box); exact rfl; (repeat first | exact .hd | apply Sel.tl | apply In.tl); exact rfl) | ((with_reducible apply v_loadw_box); exact rfl; (repeat first | exact .hd | apply Sel.tl | apply In.tl); exact rfl) | ((with_reducible apply v_loadn_box); exact rfl; (repeat first | exact .hd | apply Sel.tl | apply In.tl); exact rfl; exact rfl) | ((with_reducible apply v_build); exact rfl; exact rfl; exact rfl)))
            | ((with_reducible apply wl_gyes); exact rfl; exact rfl)
            | ((with_reducible apply wl_gno_b); exact rfl; exact rfl; exact rfl; exact rfl)
            | ((with_reducible apply wl_gno_u); exact rfl; exact rfl; exact rfl)
            | ((with_reducible apply wl_alloc); exact rfl; intro _)
            | ((with_reducible apply wl_storen_box); exact rfl; exact rfl; (repeat first | exact .hd | apply Sel.tl | apply In.tl); exact rfl; exact rfl; exact rfl)
            | ((with_reducible apply wl_putn_box); exact rfl; exact rfl; (repeat first | exact .hd | apply Sel.tl | apply In.tl); exact rfl; exact rfl; exact rfl; exact rfl)
            | ((with_reducible apply wl_buildSlice); exact rfl; exact rfl; exact rfl; exact rfl; exact rfl; exact rfl; exact rfl; intro _)
            | ((with_reducible apply wl_gsplit) <;> first | exact rfl | (intro hb; (replace hb := Tidy.out hb; try (exfalso; omega))))
            | (with_reducible first | apply wl_nil | apply thn_n | apply w_seq | apply w_region | apply w_ret | apply w_skip | apply w_exit | apply w_block | apply thn_r | apply thn_e | apply blk_n | apply blk_r | apply blk_e)
            | ((with_reducible apply w_cond_true); exact rfl)
            | ((with_reducible apply w_cond_false); exact rfl)
            | ((with_reducible apply w_cond) <;> first | exact rfl | (intro hb; (replace hb := Tidy.out hb; try (exfalso; omega))))
            | ((with_reducible apply blk_x); exact rfl)
            | ((with_reducible apply wl_v); exact rfl; (with_reducible apply v_succN); exact rfl; exact rfl; (simp only [maxLen] at *; omega))
            | ((with_reducible apply wl_v); exact rfl; (with_reducible apply v_1addN); exact rfl; exact rfl; (simp only [maxLen] at *; omega))
            | ((with_reducible apply wl_v); exact rfl; (with_reducible apply v_addN); exact rfl; exact rfl; (simp only [maxLen] at *; omega)))
          refine ⟨(k + 1, g8, c8), hkm, (by dsimp only; omega), ?_, ?_, ?_⟩
          · (repeat (first | exact Sub.nil _ | refine Sub.cons rfl ?_))
          · (repeat (first | exact Sub.nil _ | refine Sub.cons rfl ?_))
          · dsimp only
            rw [List.replicate_succ', List.flatMap_append]
            (repeat (first | exact MSub.nil _ | refine MSub.pick (by (repeat first | exact .hd | apply Sel.tl | apply In.tl)) ?_ | exact MSub.refl _ | refine MSub.drop .hd ?_))
        have e : k = m := by omega
        subst e
        obtain ⟨k, rfl⟩ : ∃ j, k = j + 1 := ⟨k - 1, by omega⟩
        have hset : ((List.replicate (k + 1) xRef).flatMap encN).take (0 + 0 * 11) ++ encN x ++ ((List.replicate (k + 1) xRef).flatMap encN).drop (0 + 0 * 11 + 11) = (x :: List.replicate k xRef).flatMap encN := rfl
        have wT : ∀ n ∈ x :: List.replicate k xRef, wfN n := by
          intro n hn
          rcases List.mem_cons.1 hn with rfl | hn
          · exact wpk
          · rw [List.eq_of_mem_replicate hn]; exact wf_ref
        have hTl : (x :: List.replicate k xRef).length = k + 1 := by simp
        generalize hT : x :: List.replicate k xRef = T at hset wT hTl
        have wT2 := wf_all wT (wf_call (f := fn) (n := k + 1) (by omega))
        have wT3 := wf_all wT2 wf_neg
        have r1 := fun (r : Rct) (v : Value) (w' : World) h => RefsMatches_at (T ++ [xCall fn (k + 1)]) wT2 r v w' h
        have r2 := fun (r : Rct) (v : Value) (w' : World) h => RefsMatches_at (T ++ [xCall fn (k + 1)] ++ [xNeg]) wT3 r v w' h
        have e1 : (T ++ [xCall fn (k + 1)]).length = k + 1 + 1 := by rw [List.length_append, hTl]; rfl
        have e2 : (T ++ [xCall fn (k + 1)] ++ [xNeg]).length = k + 1 + 1 + 1 := by rw [List.length_append, e1]; rfl
        rw [e1] at r1
        rw [e2] at r2
        rw [List.flatMap_append] at r1
        rw [List.flatMap_append, List.flatMap_append] at r2
        have r1' := fun (r : Rct) (v : Value) (w' : World) (h : Reads w' v (k + 1 + 1) (T.flatMap encN ++ encN (xCall fn (k + 1)))) => r1 r v w' h
        have r2' := fun (r : Rct) (v : Value) (w' : World) (h : Reads w' v (k + 1 + 1 + 1) (T.flatMap encN ++ encN (xCall fn (k + 1)) ++ encN xNeg)) => r2 r v w' h
        repeat' (first
          | ((with_reducible apply wl_v (d := 44)); exact rfl; (with_reducible apply v_indexAddr (j := 0)); exact rfl; exact rfl; omega)
          | ((with_reducible apply wl_put_own (vs := encN x)); exact rfl; exact rfl; (repeat first | exact .hd | apply Sel.tl | apply In.tl); exact rfl; exact rfl; (simp [encN, Value.oneCell']); (rw [flat_length' encN_len, List.length_replicate]; omega); rw [hset])
          | ((with_reducible apply wl_append1 (d := 50) (news := encN (xCall fn (k + 1)))); exact rfl; exact rfl; exact rfl; (repeat first | exact .hd | apply Sel.tl | apply In.tl); (repeat first | exact .hd | apply Sel.tl | apply In.tl); exact rfl; (simp [encN, Value.oneCell']); omega; (simp only [maxLen]; omega); intro g8 c8)
          | ((with_reducible apply wl_append1 (d := 65) (news := encN xNeg)); exact rfl; exact rfl; exact rfl; (repeat first | exact .hd | apply Sel.tl | apply In.tl); (repeat first | exact .hd | apply Sel.tl | apply In.tl); exact rfl; (simp [encN, Value.oneCell']); omega; (simp only [maxLen]; omega); intro g9 c9)
          | ((with_reducible apply wl_callp (d := 53)); exact rfl; exact rfl; (intro w' h; exact r1' xTwo _ w' (Reads.of_own (A := some _) h (by (repeat first | exact .hd | apply Sel.tl | apply In.tl)))))
          | ((with_reducible apply wl_callp (d := 58)); exact rfl; exact rfl; (intro w' h; exact r1' zeroR _ w' (Reads.of_own (A := some _) h (by (repeat first | exact .hd | apply Sel.tl | apply In.tl)))))
          | ((with_reducible apply wl_callp (d := 67)); exact rfl; exact rfl; (intro w' h; exact r2' ⟨5, 4, 5, 9⟩ _ w' (Reads.of_own (A := some _) h (by (repeat first | exact .hd | apply Sel.tl | apply In.tl)))))
          | ((with_reducible apply wl_v); exact rfl; (first | ((with_reducible apply vop_ok); exact rfl) | ((with_reducible apply v_len); exact rfl) | ((with_reducible apply v_lens); exact rfl) | ((with_reducible apply v_load_box); exact rfl; (repeat first | exact .hd | apply Sel.tl | apply In.tl); exact rfl) | ((with_reducible apply v_loadw_box); exact rfl; (repeat first | exact .hd | apply Sel.tl | apply In.tl); exact rfl) | ((with_reducible apply v_loadn_box); exact rfl; (repeat first | exact .hd | apply Sel.tl | apply In.tl); exact rfl; exact rfl) | ((with_reducible apply v_build); exact rfl; exact rfl; exact rfl)))
          | ((with_reducible apply wl_gyes); exact rfl; exact rfl)
          | ((with_reducible apply wl_gno_b); exact rfl; exact rfl; exact rfl; exact rfl)
          | ((with_reducible apply wl_gno_u); exact rfl; exact rfl; exact rfl)
          | ((with_reducible apply wl_alloc); exact rfl; intro _)
          | ((with_reducible apply wl_storen_box); exact rfl; exact rfl; (repeat first | exact .hd | apply Sel.tl | apply In.tl); exact rfl; exact rfl; exact rfl)
          | ((with_reducible apply wl_putn_box); exact rfl; exact rfl; (repeat first | exact .hd | apply Sel.tl | apply In.tl); exact rfl; exact rfl; exact rfl; exact rfl)
          | ((with_reducible apply wl_buildSlice); exact rfl; exact rfl; exact rfl; exact rfl; exact rfl; exact rfl; exact rfl; intro _)
          | ((with_reducible apply wl_gsplit) <;> first | exact rfl | (intro hb; (replace hb := Tidy.out hb; try (exfalso; omega))))
          | (with_reducible first | apply wl_nil | apply thn_n | apply w_seq | apply w_region | apply w_ret | apply w_skip | apply w_exit | apply w_block | apply thn_r | apply thn_e | apply blk_n | apply blk_r | apply blk_e)
          | ((with_reducible apply w_cond_true); exact rfl)
          | ((with_reducible apply w_cond_false); exact rfl)
          | ((with_reducible apply w_cond) <;> first | exact rfl | (intro hb; (replace hb := Tidy.out hb; try (exfalso; omega))))
          | ((with_reducible apply blk_x); exact rfl)
          | ((with_reducible apply wl_v); exact rfl; (with_reducible apply v_succN); exact rfl; exact rfl; (simp only [maxLen] at *; omega))
          | ((with_reducible apply wl_v); exact rfl; (with_reducible apply v_1addN); exact rfl; exact rfl; (simp only [maxLen] at *; omega))
          | ((with_reducible apply wl_v); exact rfl; (with_reducible apply v_addN); exact rfl; exact rfl; (simp only [maxLen] at *; omega)))
        refine ⟨q + 1, ?_, (by first | omega | (dsimp only; omega)), (by (repeat (first | exact Sub.nil _ | refine Sub.cons rfl ?_))), (by (repeat (first | exact Sub.nil _ | refine Sub.cons rfl ?_))), (by (repeat (first | exact MSub.nil _ | refine MSub.pick (by (repeat first | exact .hd | apply Sel.tl | apply In.tl)) ?_ | exact MSub.refl _ | refine MSub.drop .hd ?_)))⟩
        omega
      · repeat' (first
          | ((with_reducible apply wl_v); exact rfl; (first | ((with_reducible apply vop_ok); exact rfl) | ((with_reducible apply v_len); exact rfl) | ((with_reducible apply v_lens); exact rfl) | ((with_reducible apply v_load_box); exact rfl; (repeat first | exact .hd | apply Sel.tl | apply In.tl); exact rfl) | ((with_reducible apply v_loadw_box); exact rfl; (repeat first | exact .hd | apply Sel.tl | apply In.tl); exact rfl) | ((with_reducible apply v_loadn_box); exact rfl; (repeat first | exact .hd | apply Sel.tl | apply In.tl); exact rfl; exact rfl) | ((with_reducible apply v_build); exact rfl; exact rfl; exact rfl)))
          | ((with_reducible apply wl_gyes); exact rfl; exact rfl)
          | ((with_reducible apply wl_gno_b); exact rfl; exact rfl; exact rfl; exact rfl)
          | ((with_reducible apply wl_gno_u); exact rfl; exact rfl; exact rfl)
          | ((with_reducible apply wl_alloc); exact rfl; intro _)
          | ((with_reducible apply wl_storen_box); exact rfl; exact rfl; (repeat first | exact .hd | apply Sel.tl | apply In.tl); exact rfl; exact rfl; exact rfl)
          | ((with_reducible apply wl_putn_box); exact rfl; exact rfl; (repeat first | exact .hd | apply Sel.tl | apply In.tl); exact rfl; exact rfl; exact rfl; exact rfl)
          | ((with_reducible apply wl_buildSlice); exact rfl; exact rfl; exact rfl; exact rfl; exact rfl; exact rfl; exact rfl; intro _)
          | ((with_reducible apply wl_gsplit) <;> first | exact rfl | (intro hb; (replace hb := Tidy.out hb; try (exfalso; omega))))
          | (with_reducible first | apply wl_nil | apply thn_n | apply w_seq | apply w_region | apply w_ret | apply w_skip | apply w_exit | apply w_block | apply thn_r | apply thn_e | apply blk_n | apply blk_r | apply blk_e)
          | ((with_reducible apply w_cond_true); exact rfl)
          | ((with_reducible apply w_cond_false); exact rfl)
          | ((with_reducible apply w_cond) <;> first | exact rfl | (intro hb; (replace hb := Tidy.out hb; try (exfalso; omega))))
          | ((with_reducible apply blk_x); exact rfl)
          | ((with_reducible apply wl_v); exact rfl; (with_reducible apply v_succN); exact rfl; exact rfl; (simp only [maxLen] at *; omega))
          | ((with_reducible apply wl_v); exact rfl; (with_reducible apply v_1addN); exact rfl; exact rfl; (simp only [maxLen] at *; omega))
          | ((with_reducible apply wl_v); exact rfl; (with_reducible apply v_addN); exact rfl; exact rfl; (simp only [maxLen] at *; omega)))
        refine ⟨m + 1, ?_, (by first | omega | (dsimp only; omega)), (by (repeat (first | exact Sub.nil _ | refine Sub.cons rfl ?_))), (by (repeat (first | exact Sub.nil _ | refine Sub.cons rfl ?_))), (by (repeat (first | exact MSub.nil _ | refine MSub.pick (by (repeat first | exact .hd | apply Sel.tl | apply In.tl)) ?_ | exact MSub.refl _ | refine MSub.drop .hd ?_)))⟩
        omega
    · repeat' (first
        | ((with_reducible apply wl_v (d := 18)); exact rfl; (with_reducible apply v_addw_id (c := ((fn + 1 : Nat) : Int))); exact rfl; exact rfl; (rw [wrap_u8 (by omega) (by omega)]; omega))
        | ((with_reducible apply wl_v); exact rfl; (first | ((with_reducible apply vop_ok); exact rfl) | ((with_reducible apply v_len); exact rfl) | ((with_reducible apply v_lens); exact rfl) | ((with_reducible apply v_load_box); exact rfl; (repeat first | exact .hd | apply Sel.tl | apply In.tl); exact rfl) | ((with_reducible apply v_loadw_box); exact rfl; (repeat first | exact .hd | apply Sel.tl | apply In.tl); exact rfl) | ((with_reducible apply v_loadn_box); exact rfl; (repeat first | exact .hd | apply Sel.tl | apply In.tl); exact rfl; exact rfl) | ((with_reducible apply v_build); exact rfl; exact rfl; exact rfl)))
        | ((with_reducible apply wl_gyes); exact rfl; exact rfl)
        | ((with_reducible apply wl_gno_b); exact rfl; exact rfl; exact rfl; exact rfl)
        | ((with_reducible apply wl_gno_u); exact rfl; exact rfl; exact rfl)
        | ((with_reducible apply wl_alloc); exact rfl; intro _)
        | ((with_reducible apply wl_storen_box); exact rfl; exact rfl; (repeat first | exact .hd | apply Sel.tl | apply In.tl); exact rfl; exact rfl; exact rfl)
        | ((with_reducible apply wl_putn_box); exact rfl; exact rfl; (repeat first | exact .hd | apply Sel.tl | apply In.tl); exact rfl; exact rfl; exact rfl; exact rfl)
        | ((with_reducible apply wl_buildSlice); exact rfl; exact rfl; exact rfl; exact rfl; exact rfl; exact rfl; exact rfl; intro _)
        | ((with_reducible apply wl_gsplit) <;> first | exact rfl | (intro hb; (replace hb := Tidy.out hb; try (exfalso; omega))))
        | (with_reducible first | apply wl_nil | apply thn_n | apply w_seq | apply w_region | apply w_ret | apply w_skip | apply w_exit | apply w_block | apply thn_r | apply thn_e | apply blk_n | apply blk_r | apply blk_e)
        | ((with_reducible apply w_cond_true); exact rfl)
        | ((with_reducible apply w_cond_false); exact rfl)
        | ((with_reducible apply w_cond) <;> first | exact rfl | (intro hb; (replace hb := Tidy.out hb; try (exfalso; omega))))
        | ((with_reducible apply blk_x); exact rfl))
      refine ⟨fn + 1, ?_, (by first | omega | (dsimp only; omega)), (by (repeat (first | exact Sub.nil _ | refine Sub.cons rfl ?_))), (by (repeat (first | exact Sub.nil _ | refine Sub.cons rfl ?_))), (by (repeat (first | exact MSub.nil _ | refine MSub.pick (by (repeat first | exact .hd | apply Sel.tl | apply In.tl)) ?_ | exact MSub.refl _ | refine MSub.drop .hd ?_)))⟩
      omega
  · have hmv : ∀ i, i < 11 → ∃ z, xMoves[0 + i * 1]? = some (.int .i64 z) := by
      intro i hi
      rcases (by omega : i = 0 ∨ i = 1 ∨ i = 2 ∨ i = 3 ∨ i = 4 ∨ i = 5 ∨ i = 6 ∨ i = 7 ∨ i = 8 ∨ i = 9 ∨ i = 10) with rfl | rfl | rfl | rfl | rfl | rfl | rfl | rfl | rfl | rfl | rfl <;> exact ⟨_, rfl⟩
    have wT : ∀ n ∈ xTree, wfN n := by
      intro n hn
      simp only [xTree, List.mem_cons, List.not_mem_nil, or_false] at hn
      rcases hn with rfl | rfl | rfl | rfl
      · exact wf_rng
      · exact wf_call (by omega)
      · exact wf_ref
      · exact wf_of rfl (by decide) (by decide)
    have m1 := fun (a b : Int) (v : Value) (w' : World) (h : Reads w' v 4 (xTree.flatMap encN)) => RefsMoves_at xTree wT a b v w' h
    have m2 := fun (a b : Int) (v : Value) (w' : World) (h : Reads w' v 1 (encN xBool)) => RefsMoves_at [xBool] (fun n hn => by rw [List.mem_singleton.1 hn]; exact wf_of rfl (by decide) (by decide)) a b v w' h
    repeat' (first
      | ((with_reducible apply wl_v); exact rfl; (first | ((with_reducible apply vop_ok); exact rfl) | ((with_reducible apply v_len); exact rfl) | ((with_reducible apply v_lens); exact rfl) | ((with_reducible apply v_load_box); exact rfl; (repeat first | exact .hd | apply Sel.tl | apply In.tl); exact rfl) | ((with_reducible apply v_loadw_box); exact rfl; (repeat first | exact .hd | apply Sel.tl | apply In.tl); exact rfl) | ((with_reducible apply v_loadn_box); exact rfl; (repeat first | exact .hd | apply Sel.tl | apply In.tl); exact rfl; exact rfl) | ((with_reducible apply v_build); exact rfl; exact rfl; exact rfl)))
      | ((with_reducible apply wl_gyes); exact rfl; exact rfl)
      | ((with_reducible apply wl_gno_b); exact rfl; exact rfl; exact rfl; exact rfl)
      | ((with_reducible apply wl_gno_u); exact rfl; exact rfl; exact rfl)
      | ((with_reducible apply wl_alloc); exact rfl; intro _)
      | ((with_reducible apply wl_storen_box); exact rfl; exact rfl; (repeat first | exact .hd | apply Sel.tl | apply In.tl); exact rfl; exact rfl; exact rfl)
      | ((with_reducible apply wl_putn_box); exact rfl; exact rfl; (repeat first | exact .hd | apply Sel.tl | apply In.tl); exact rfl; exact rfl; exact rfl; exact rfl)
      | ((with_reducible apply wl_buildSlice); exact rfl; exact rfl; exact rfl; exact rfl; exact rfl; exact rfl; exact rfl; intro _)
      | ((with_reducible apply wl_gsplit) <;> first | exact rfl | (intro hb; (replace hb := Tidy.out hb; try (exfalso; omega))))
      | (with_reducible first | apply wl_nil | apply thn_n | apply w_seq | apply w_region | apply w_ret | apply w_skip | apply w_exit | apply w_block | apply thn_r | apply thn_e | apply blk_n | apply blk_r | apply blk_e)
      | ((with_reducible apply w_cond_true); exact rfl)
      | ((with_reducible apply w_cond_false); exact rfl)
      | ((with_reducible apply w_cond) <;> first | exact rfl | (intro hb; (replace hb := Tidy.out hb; try (exfalso; omega))))
      | ((with_reducible apply blk_x); exact rfl))
    rename_i g9 g10
    refine w_loopK [2, 9, 10] rfl (fun i : Nat => [(11, .int .i64 (i : Int))]) (fun _ => [.own (some g10) 3 1 11 11 xMoves, .own (some g9) 40 11 4 4 (xTree.flatMap encN), .box g2 38 (encR xTwo)]) (fun i => i ≤ 11) (fun i => 11 - i) 0 (by omega) (by (repeat (first | exact Sub.nil _ | refine Sub.cons rfl ?_))) (by (repeat (first | exact MSub.nil _ | refine MSub.pick (by (repeat first | exact .hd | apply Sel.tl | apply In.tl)) ?_ | exact MSub.refl _ | refine MSub.drop .hd ?_))) ?_
    intro i hi
    by_cases hi1 : i < 11
    · obtain ⟨zi, hzi⟩ := hmv i hi1
      repeat' (first
        | ((with_reducible apply wl_v); exact rfl; (first | ((with_reducible apply vop_ok); exact rfl) | ((with_reducible apply v_len); exact rfl) | ((with_reducible apply v_lens); exact rfl) | ((with_reducible apply v_load_box); exact rfl; (repeat first | exact .hd | apply Sel.tl | apply In.tl); exact rfl) | ((with_reducible apply v_loadw_box); exact rfl; (repeat first | exact .hd | apply Sel.tl | apply In.tl); exact rfl) | ((with_reducible apply v_loadn_box); exact rfl; (repeat first | exact .hd | apply Sel.tl | apply In.tl); exact rfl; exact rfl) | ((with_reducible apply v_build); exact rfl; exact rfl; exact rfl)))
        | ((with_reducible apply wl_gyes); exact rfl; exact rfl)
        | ((with_reducible apply wl_gno_b); exact rfl; exact rfl; exact rfl; exact rfl)
        | ((with_reducible apply wl_gno_u); exact rfl; exact rfl; exact rfl)
        | ((with_reducible apply wl_alloc); exact rfl; intro _)
        | ((with_reducible apply wl_storen_box); exact rfl; exact rfl; (repeat first | exact .hd | apply Sel.tl | apply In.tl); exact rfl; exact rfl; exact rfl)
        | ((with_reducible apply wl_putn_box); exact rfl; exact rfl; (repeat first | exact .hd | apply Sel.tl | apply In.tl); exact rfl; exact rfl; exact rfl; exact rfl)
        | ((with_reducible apply wl_buildSlice); exact rfl; exact rfl; exact rfl; exact rfl; exact rfl; exact rfl; exact rfl; intro _)
        | ((with_reducible apply wl_gsplit) <;> first | exact rfl | (intro hb; (replace hb := Tidy.out hb; try (exfalso; omega))))
        | (with_reducible first | apply wl_nil | apply thn_n | apply w_seq | apply w_region | apply w_ret | apply w_skip | apply w_exit | apply w_block | apply thn_r | apply thn_e | apply blk_n | apply blk_r | apply blk_e)
        | ((with_reducible apply w_cond_true); exact rfl)
        | ((with_reducible apply w_cond_false); exact rfl)
        | ((with_reducible apply w_cond) <;> first | exact rfl | (intro hb; (replace hb := Tidy.out hb; try (exfalso; omega))))
        | ((with_reducible apply blk_x); exact rfl))
      refine w_loopK [2, 9, 10, 11] rfl (fun j : Nat => [(12, .int .i64 (j : Int))]) (fun _ => [.own (some g10) 3 1 11 11 xMoves, .own (some g9) 40 11 4 4 (xTree.flatMap encN), .box g2 38 (encR xTwo)]) (fun j => j ≤ 11) (fun j => 11 - j) 0 (by omega) (by (repeat (first | exact Sub.nil _ | refine Sub.cons rfl ?_))) (by (repeat (first | exact MSub.nil _ | refine MSub.pick (by (repeat first | exact .hd | apply Sel.tl | apply In.tl)) ?_ | exact MSub.refl _ | refine MSub.drop .hd ?_))) ?_
      intro j hj
      by_cases hj1 : j < 11
      · obtain ⟨zj, hzj⟩ := hmv j hj1
        repeat' (first
          | ((with_reducible apply wl_v); exact rfl; (first | ((with_reducible apply vop_ok); exact rfl) | ((with_reducible apply v_len); exact rfl) | ((with_reducible apply v_lens); exact rfl) | ((with_reducible apply v_load_box); exact rfl; (repeat first | exact .hd | apply Sel.tl | apply In.tl); exact rfl) | ((with_reducible apply v_loadw_box); exact rfl; (repeat first | exact .hd | apply Sel.tl | apply In.tl); exact rfl) | ((with_reducible apply v_loadn_box); exact rfl; (repeat first | exact .hd | apply Sel.tl | apply In.tl); exact rfl; exact rfl) | ((with_reducible apply v_build); exact rfl; exact rfl; exact rfl)))
          | ((with_reducible apply wl_gyes); exact rfl; exact rfl)
          | ((with_reducible apply wl_gno_b); exact rfl; exact rfl; exact rfl; exact rfl)
          | ((with_reducible apply wl_gno_u); exact rfl; exact rfl; exact rfl)
          | ((with_reducible apply wl_alloc); exact rfl; intro _)
          | ((with_reducible apply wl_storen_box); exact rfl; exact rfl; (repeat first | exact .hd | apply Sel.tl | apply In.tl); exact rfl; exact rfl; exact rfl)
          | ((with_reducible apply wl_putn_box); exact rfl; exact rfl; (repeat first | exact .hd | apply Sel.tl | apply In.tl); exact rfl; exact rfl; exact rfl; exact rfl)
          | ((with_reducible apply wl_buildSlice); exact rfl; exact rfl; exact rfl; exact rfl; exact rfl; exact rfl; exact rfl; intro _)
          | ((with_reducible apply wl_gsplit) <;> first | exact rfl | (intro hb; (replace hb := Tidy.out hb; try (exfalso; omega))))
          | (with_reducible first | apply wl_nil | apply thn_n | apply w_seq | apply w_region | apply w_ret | apply w_skip | apply w_exit | apply w_block | apply thn_r | apply thn_e | apply blk_n | apply blk_r | apply blk_e)
          | ((with_reducible apply w_cond_true); exact rfl)
          | ((with_reducible apply w_cond_false); exact rfl)
          | ((with_reducible apply w_cond) <;> first | exact rfl | (intro hb; (replace hb := Tidy.out hb; try (exfalso; omega))))
          | ((with_reducible apply blk_x); exact rfl))
        refine w_nilrow 0 0 ?_
        refine w_drawXg (id := 29) (fun | 14 => some fun g => .slice (some ⟨g.2, 0, none⟩) 1 1 | _ => none)
          (fun (D : Done) (q : Nat → Gh) => (bif D 14 then Blk.own (some (q 14).2) 40 11 1 1 (encN xBool) else nilB) :: .own (some g10) 3 1 11 11 xMoves :: .own (some g9) 40 11 4 4 (xTree.flatMap encN) :: .box g2 38 (encR xTwo) :: []) ?_ ?_ ?_ ?_
        · kernel_rfl
        · kernel_rfl
        · intro γ
          (repeat (first | exact MSub.nil _ | refine MSub.pick (by (repeat first | exact .hd | apply Sel.tl | apply In.tl)) ?_ | exact MSub.refl _ | refine MSub.drop .hd ?_))
        intro γ
        repeat' (first
          | ((with_reducible apply wx_v); exact rfl; exact rfl; exact rfl; (intro D ht; (with_reducible apply v_indexAddr); exact rfl; exact rfl; first | exact hi1 | exact hj1); exact fun _ => rfl)
          | ((with_reducible apply wx_v); exact rfl; exact rfl; exact rfl; (intro D ht; (with_reducible apply v_load_own); exact rfl; (repeat first | exact .hd | apply Sel.tl | apply In.tl); first | exact hzi | exact hzj); exact fun _ => rfl)
          | ((with_reducible apply wx_callp (d := 100)); exact rfl; exact rfl; exact rfl; (decide +kernel); exact rfl; (intro D ht w' h; exact m1 _ _ _ w' (Reads.of_own (A := some g9) h (by (repeat first | exact .hd | apply Sel.tl | apply In.tl)))); exact fun _ => rfl)
          | ((with_reducible apply wl_v); exact rfl; (first | ((with_reducible apply vop_ok); exact rfl) | ((with_reducible apply v_len); exact rfl) | ((with_reducible apply v_lens); exact rfl) | ((with_reducible apply v_load_box); exact rfl; (repeat first | exact .hd | apply Sel.tl | apply In.tl); exact rfl) | ((with_reducible apply v_loadw_box); exact rfl; (repeat first | exact .hd | apply Sel.tl | apply In.tl); exact rfl) | ((with_reducible apply v_loadn_box); exact rfl; (repeat first | exact .hd | apply Sel.tl | apply In.tl); exact rfl; exact rfl) | ((with_reducible apply v_build); exact rfl; exact rfl; exact rfl)))
          | ((with_reducible apply wl_gyes); exact rfl; exact rfl)
          | ((with_reducible apply wl_gno_b); exact rfl; exact rfl; exact rfl; exact rfl)
          | ((with_reducible apply wl_gno_u); exact rfl; exact rfl; exact rfl)
          | ((with_reducible apply wl_alloc); exact rfl; intro _)
          | ((with_reducible apply wl_storen_box); exact rfl; exact rfl; (repeat first | exact .hd | apply Sel.tl | apply In.tl); exact rfl; exact rfl; exact rfl)
          | ((with_reducible apply wl_putn_box); exact rfl; exact rfl; (repeat first | exact .hd | apply Sel.tl | apply In.tl); exact rfl; exact rfl; exact rfl; exact rfl)
          | ((with_reducible apply wl_buildSlice); exact rfl; exact rfl; exact rfl; exact rfl; exact rfl; exact rfl; exact rfl; intro _)
          | ((with_reducible apply wl_gsplit) <;> first | exact rfl | (intro hb; (replace hb := Tidy.out hb; try (exfalso; omega))))
          | (with_reducible first | apply wl_nil | apply thn_n | apply w_seq | apply w_region | apply w_ret | apply w_skip | apply w_exit | apply w_block | apply thn_r | apply thn_e | apply blk_n | apply blk_r | apply blk_e | apply wx_nil)
          | ((with_reducible apply w_cond_true); exact rfl)
          | ((with_reducible apply w_cond_false); exact rfl)
          | ((with_reducible apply w_cond) <;> first | exact rfl | (intro hb; (replace hb := Tidy.out hb; try (exfalso; omega))))
          | ((with_reducible apply blk_x); exact rfl)
          | ((with_reducible apply wx_v); exact rfl; exact rfl; exact rfl; (intro D ht; (first | ((with_reducible apply vop_ok); exact rfl) | ((with_reducible apply v_len); exact rfl) | ((with_reducible apply v_lens); exact rfl) | ((with_reducible apply v_load_box); exact rfl; (repeat first | exact .hd | apply Sel.tl | apply In.tl); exact rfl) | ((with_reducible apply v_loadw_box); exact rfl; (repeat first | exact .hd | apply Sel.tl | apply In.tl); exact rfl) | ((with_reducible apply v_loadn_box); exact rfl; (repeat first | exact .hd | apply Sel.tl | apply In.tl); exact rfl; exact rfl) | ((with_reducible apply v_build); exact rfl; exact rfl; exact rfl))); exact fun _ => rfl)
          | ((with_reducible apply wx_gno); exact rfl; exact rfl; exact rfl; exact fun _ => rfl))
        refine wx_non rfl rfl rfl (fun D ht => ?_) ?_
        · have n14 : D 14 = false := ht.not
          (simp only [gat, put, upd, Nat.reduceEqDiff, Nat.reduceAdd, reduceIte, n14, cond_true, cond_false, List.nil_append, List.cons_append, Bool.and_true, Bool.and_false, Bool.true_and, Bool.false_and])
          (with_reducible apply wl_buildSlice); exact rfl; exact rfl; exact rfl; exact rfl; exact rfl; exact rfl; exact rfl; intro g
          refine wl_nil ⟨rfl, (none, g), rfl, ?_⟩
          (simp only [gat, put, upd, Nat.reduceEqDiff, Nat.reduceAdd, reduceIte, n14, cond_true, cond_false, List.nil_append, List.cons_append, Bool.and_true, Bool.and_false, Bool.true_and, Bool.false_and])
          (repeat (first | exact MSub.nil _ | refine MSub.pick (by (repeat first | exact .hd | apply Sel.tl | apply In.tl)) ?_ | exact MSub.refl _ | refine MSub.drop .hd ?_))
        repeat' (first
          | ((with_reducible apply wx_v); exact rfl; exact rfl; exact rfl; (intro D ht; (with_reducible apply v_indexAddr); exact rfl; exact rfl; first | exact hi1 | exact hj1); exact fun _ => rfl)
          | ((with_reducible apply wx_v); exact rfl; exact rfl; exact rfl; (intro D ht; (with_reducible apply v_load_own); exact rfl; (repeat first | exact .hd | apply Sel.tl | apply In.tl); first | exact hzi | exact hzj); exact fun _ => rfl)
          | ((with_reducible apply wx_callp (d := 114)); exact rfl; exact rfl; exact rfl; (decide +kernel); exact rfl; (intro D ht w' h; have n14 : D 14 = true := ht.early (i := 14) (f := 60) (by decide +kernel); simp only [n14, gat, cond_true] at h; exact m2 _ _ _ w' (Reads.of_own (A := some (γ 14).2) h (by (repeat first | exact .hd | apply Sel.tl | apply In.tl)))); exact fun _ => rfl)
          | ((with_reducible apply wl_v); exact rfl; (first | ((with_reducible apply vop_ok); exact rfl) | ((with_reducible apply v_len); exact rfl) | ((with_reducible apply v_lens); exact rfl) | ((with_reducible apply v_load_box); exact rfl; (repeat first | exact .hd | apply Sel.tl | apply In.tl); exact rfl) | ((with_reducible apply v_loadw_box); exact rfl; (repeat first | exact .hd | apply Sel.tl | apply In.tl); exact rfl) | ((with_reducible apply v_loadn_box); exact rfl; (repeat first | exact .hd | apply Sel.tl | apply In.tl); exact rfl; exact rfl) | ((with_reducible apply v_build); exact rfl; exact rfl; exact rfl)))
          | ((with_reducible apply wl_gyes); exact rfl; exact rfl)
          | ((with_reducible apply wl_gno_b); exact rfl; exact rfl; exact rfl; exact rfl)
          | ((with_reducible apply wl_gno_u); exact rfl; exact rfl; exact rfl)
          | ((with_reducible apply wl_alloc); exact rfl; intro _)
          | ((with_reducible apply wl_storen_box); exact rfl; exact rfl; (repeat first | exact .hd | apply Sel.tl | apply In.tl); exact rfl; exact rfl; exact rfl)
          | ((with_reducible apply wl_putn_box); exact rfl; exact rfl; (repeat first | exact .hd | apply Sel.tl | apply In.tl); exact rfl; exact rfl; exact rfl; exact rfl)
          | ((with_reducible apply wl_buildSlice); exact rfl; exact rfl; exact rfl; exact rfl; exact rfl; exact rfl; exact rfl; intro _)
          | ((with_reducible apply wl_gsplit) <;> first | exact rfl | (intro hb; (replace hb := Tidy.out hb; try (exfalso; omega))))
          | (with_reducible first | apply wl_nil | apply thn_n | apply w_seq | apply w_region | apply w_ret | apply w_skip | apply w_exit | apply w_block | apply thn_r | apply thn_e | apply blk_n | apply blk_r | apply blk_e | apply wx_nil)
          | ((with_reducible apply w_cond_true); exact rfl)
          | ((with_reducible apply w_cond_false); exact rfl)
          | ((with_reducible apply w_cond) <;> first | exact rfl | (intro hb; (replace hb := Tidy.out hb; try (exfalso; omega))))
          | ((with_reducible apply blk_x); exact rfl)
          | ((with_reducible apply wx_v); exact rfl; exact rfl; exact rfl; (intro D ht; (first | ((with_reducible apply vop_ok); exact rfl) | ((with_reducible apply v_len); exact rfl) | ((with_reducible apply v_lens); exact rfl) | ((with_reducible apply v_load_box); exact rfl; (repeat first | exact .hd | apply Sel.tl | apply In.tl); exact rfl) | ((with_reducible apply v_loadw_box); exact rfl; (repeat first | exact .hd | apply Sel.tl | apply In.tl); exact rfl) | ((with_reducible apply v_loadn_box); exact rfl; (repeat first | exact .hd | apply Sel.tl | apply In.tl); exact rfl; exact rfl) | ((with_reducible apply v_build); exact rfl; exact rfl; exact rfl))); exact fun _ => rfl)
          | ((with_reducible apply wx_gno); exact rfl; exact rfl; exact rfl; exact fun _ => rfl))
        intro D hD
        have n14 := hD 14 (by decide)
        (simp only [gat, put, upd, Nat.reduceEqDiff, Nat.reduceAdd, reduceIte, n14, cond_true, cond_false, List.nil_append, List.cons_append, Bool.and_true, Bool.and_false, Bool.true_and, Bool.false_and])
        repeat' (first
          | ((with_reducible apply wl_v); exact rfl; (first | ((with_reducible apply vop_ok); exact rfl) | ((with_reducible apply v_len); exact rfl) | ((with_reducible apply v_lens); exact rfl) | ((with_reducible apply v_load_box); exact rfl; (repeat first | exact .hd | apply Sel.tl | apply In.tl); exact rfl) | ((with_reducible apply v_loadw_box); exact rfl; (repeat first | exact .hd | apply Sel.tl | apply In.tl); exact rfl) | ((with_reducible apply v_loadn_box); exact rfl; (repeat first | exact .hd | apply Sel.tl | apply In.tl); exact rfl; exact rfl) | ((with_reducible apply v_build); exact rfl; exact rfl; exact rfl)))
          | ((with_reducible apply wl_gyes); exact rfl; exact rfl)
          | ((with_reducible apply wl_gno_b); exact rfl; exact rfl; exact rfl; exact rfl)
          | ((with_reducible apply wl_gno_u); exact rfl; exact rfl; exact rfl)
          | ((with_reducible apply wl_alloc); exact rfl; intro _)
          | ((with_reducible apply wl_storen_box); exact rfl; exact rfl; (repeat first | exact .hd | apply Sel.tl | apply In.tl); exact rfl; exact rfl; exact rfl)
          | ((with_reducible apply wl_putn_box); exact rfl; exact rfl; (repeat first | exact .hd | apply Sel.tl | apply In.tl); exact rfl; exact rfl; exact rfl; exact rfl)
          | ((with_reducible apply wl_buildSlice); exact rfl; exact rfl; exact rfl; exact rfl; exact rfl; exact rfl; exact rfl; intro _)
          | ((with_reducible apply wl_gsplit) <;> first | exact rfl | (intro hb; (replace hb := Tidy.out hb; try (exfalso; omega))))
          | (with_reducible first | apply wl_nil | apply thn_n | apply w_seq | apply w_region | apply w_ret | apply w_skip | apply w_exit | apply w_block | apply thn_r | apply thn_e | apply blk_n | apply blk_r | apply blk_e)
          | ((with_reducible apply w_cond_true); exact rfl)
          | ((with_reducible apply w_cond_false); exact rfl)
          | ((with_reducible apply w_cond) <;> first | exact rfl | (intro hb; (replace hb := Tidy.out hb; try (exfalso; omega))))
          | ((with_reducible apply blk_x); exact rfl)
          | ((with_reducible apply wl_v); exact rfl; (with_reducible apply v_succN); exact rfl; exact rfl; (simp only [maxLen] at *; omega))
          | ((with_reducible apply wl_v); exact rfl; (with_reducible apply v_1addN); exact rfl; exact rfl; (simp only [maxLen] at *; omega))
          | ((with_reducible apply wl_v); exact rfl; (with_reducible apply v_addN); exact rfl; exact rfl; (simp only [maxLen] at *; omega)))
        refine ⟨j + 1, ?_, (by first | omega | (dsimp only; omega)), (by (repeat (first | exact Sub.nil _ | refine Sub.cons rfl ?_))), (by (repeat (first | exact Sub.nil _ | refine Sub.cons rfl ?_))), (by (repeat (first | exact MSub.nil _ | refine MSub.pick (by (repeat first | exact .hd | apply Sel.tl | apply In.tl)) ?_ | exact MSub.refl _ | refine MSub.drop .hd ?_)))⟩
        omega
      · repeat' (first
          | ((with_reducible apply wl_v); exact rfl; (first | ((with_reducible apply vop_ok); exact rfl) | ((with_reducible apply v_len); exact rfl) | ((with_reducible apply v_lens); exact rfl) | ((with_reducible apply v_load_box); exact rfl; (repeat first | exact .hd | apply Sel.tl | apply In.tl); exact rfl) | ((with_reducible apply v_loadw_box); exact rfl; (repeat first | exact .hd | apply Sel.tl | apply In.tl); exact rfl) | ((with_reducible apply v_loadn_box); exact rfl; (repeat first | exact .hd | apply Sel.tl | apply In.tl); exact rfl; exact rfl) | ((with_reducible apply v_build); exact rfl; exact rfl; exact rfl)))
          | ((with_reducible apply wl_gyes); exact rfl; exact rfl)
          | ((with_reducible apply wl_gno_b); exact rfl; exact rfl; exact rfl; exact rfl)
          | ((with_reducible apply wl_gno_u); exact rfl; exact rfl; exact rfl)
          | ((with_reducible apply wl_alloc); exact rfl; intro _)
          | ((with_reducible apply wl_storen_box); exact rfl; exact rfl; (repeat first | exact .hd | apply Sel.tl | apply In.tl); exact rfl; exact rfl; exact rfl)
          | ((with_reducible apply wl_putn_box); exact rfl; exact rfl; (repeat first | exact .hd | apply Sel.tl | apply In.tl); exact rfl; exact rfl; exact rfl; exact rfl)
          | ((with_reducible apply wl_buildSlice); exact rfl; exact rfl; exact rfl; exact rfl; exact rfl; exact rfl; exact rfl; intro _)
          | ((with_reducible apply wl_gsplit) <;> first | exact rfl | (intro hb; (replace hb := Tidy.out hb; try (exfalso; omega))))
          | (with_reducible first | apply wl_nil | apply thn_n | apply w_seq | apply w_region | apply w_ret | apply w_skip | apply w_exit | apply w_block | apply thn_r | apply thn_e | apply blk_n | apply blk_r | apply blk_e)
          | ((with_reducible apply w_cond_true); exact rfl)
          | ((with_reducible apply w_cond_false); exact rfl)
          | ((with_reducible apply w_cond) <;> first | exact rfl | (intro hb; (replace hb := Tidy.out hb; try (exfalso; omega))))
          | ((with_reducible apply blk_x); exact rfl)
          | ((with_reducible apply wl_v); exact rfl; (with_reducible apply v_succN); exact rfl; exact rfl; (simp only [maxLen] at *; omega))
          | ((with_reducible apply wl_v); exact rfl; (with_reducible apply v_1addN); exact rfl; exact rfl; (simp only [maxLen] at *; omega))
          | ((with_reducible apply wl_v); exact rfl; (with_reducible apply v_addN); exact rfl; exact rfl; (simp only [maxLen] at *; omega)))
        refine ⟨i + 1, ?_, (by first | omega | (dsimp only; omega)), (by (repeat (first | exact Sub.nil _ | refine Sub.cons rfl ?_))), (by (repeat (first | exact Sub.nil _ | refine Sub.cons rfl ?_))), (by (repeat (first | exact MSub.nil _ | refine MSub.pick (by (repeat first | exact .hd | apply Sel.tl | apply In.tl)) ?_ | exact MSub.refl _ | refine MSub.drop .hd ?_)))⟩
        omega
    · have z1 := fun (w' : World) => RefsMatches_at [] (fun _ h => by cases h) xTwo (.slice none 0 0) w' ⟨none, 0, rfl, Nat.le_refl _, Nat.zero_le _, fun h => by cases h⟩
      have z2 := fun (w' : World) => RefsMoves_at [] (fun _ h => by cases h) 0 0 (.slice none 0 0) w' ⟨none, 0, rfl, Nat.le_refl _, Nat.zero_le _, fun h => by cases h⟩
      repeat' (first
        | ((with_reducible apply wl_callp (f := 10)); exact rfl; exact rfl; (intro w' h; exact z1 w'))
        | ((with_reducible apply wl_callp (f := 11)); exact rfl; exact rfl; (intro w' h; exact z2 w'))
        | ((with_reducible apply wl_callp (f := 47)); exact rfl; exact rfl; (intro w' h; exact awake12_at w'))
        | ((with_reducible apply wl_v); exact rfl; (first | ((with_reducible apply vop_ok); exact rfl) | ((with_reducible apply v_len); exact rfl) | ((with_reducible apply v_lens); exact rfl) | ((with_reducible apply v_load_box); exact rfl; (repeat first | exact .hd | apply Sel.tl | apply In.tl); exact rfl) | ((with_reducible apply v_loadw_box); exact rfl; (repeat first | exact .hd | apply Sel.tl | apply In.tl); exact rfl) | ((with_reducible apply v_loadn_box); exact rfl; (repeat first | exact .hd | apply Sel.tl | apply In.tl); exact rfl; exact rfl) | ((with_reducible apply v_build); exact rfl; exact rfl; exact rfl)))
        | ((with_reducible apply wl_gyes); exact rfl; exact rfl)
        | ((with_reducible apply wl_gno_b); exact rfl; exact rfl; exact rfl; exact rfl)
        | ((with_reducible apply wl_gno_u); exact rfl; exact rfl; exact rfl)
        | ((with_reducible apply wl_alloc); exact rfl; intro _)
        | ((with_reducible apply wl_storen_box); exact rfl; exact rfl; (repeat first | exact .hd | apply Sel.tl | apply In.tl); exact rfl; exact rfl; exact rfl)
        | ((with_reducible apply wl_putn_box); exact rfl; exact rfl; (repeat first | exact .hd | apply Sel.tl | apply In.tl); exact rfl; exact rfl; exact rfl; exact rfl)
        | ((with_reducible apply wl_buildSlice); exact rfl; exact rfl; exact rfl; exact rfl; exact rfl; exact rfl; exact rfl; intro _)
        | ((with_reducible apply wl_gsplit) <;> first | exact rfl | (intro hb; (replace hb := Tidy.out hb; try (exfalso; omega))))
        | (with_reducible first | apply wl_nil | apply thn_n | apply w_seq | apply w_region | apply w_ret | apply w_skip | apply w_exit | apply w_block | apply thn_r | apply thn_e | apply blk_n | apply blk_r | apply blk_e)
        | ((with_reducible apply w_cond_true); exact rfl)
        | ((with_reducible apply w_cond_false); exact rfl)
        | ((with_reducible apply w_cond) <;> first | exact rfl | (intro hb; (replace hb := Tidy.out hb; try (exfalso; omega))))
        | ((with_reducible apply blk_x); exact rfl))
      ((with_reducible apply ret1); exact .inl rfl; exact rfl; exact rfl; exact MSub.nil _)
      rfl
end Go.SL

/-
  The names of the functions: what names, Name, Function and Index return, and the document's Name and Function.
-/
import Derived.Test.YtfkklicpnoeclaaW10
import Derived.Test.YtfkklicpnoeclaaSl9
namespace Go.SL
open Go Go.Proofs
attribute [local irreducible] W WL WQ WG WA VOp thn blk retP FnAt FnIn

def namesL : List ByteArray := [
  ⟨#[65, 66, 83]⟩, ⟨#[83, 73, 71, 78]⟩, ⟨#[73, 78, 84]⟩, ⟨#[84, 82, 85, 78, 67]⟩, ⟨#[82, 79, 85, 78, 68]⟩,
  ⟨#[77, 79, 68]⟩, ⟨#[80, 79, 87, 69, 82]⟩, ⟨#[83, 81, 82, 84]⟩, ⟨#[83, 85, 77]⟩, ⟨#[80, 82, 79, 68, 85, 67, 84]⟩,
  ⟨#[67, 79, 85, 78, 84]⟩, ⟨#[67, 79, 85, 78, 84, 65]⟩, ⟨#[67, 79, 85, 78, 84, 66, 76, 65, 78, 75]⟩, ⟨#[65, 86, 69, 82, 65, 71, 69]⟩, ⟨#[77, 73, 78]⟩,
  ⟨#[77, 65, 88]⟩, ⟨#[77, 69, 68, 73, 65, 78]⟩, ⟨#[76, 65, 82, 71, 69]⟩, ⟨#[83, 77, 65, 76, 76]⟩, ⟨#[73, 70]⟩,
  ⟨#[65, 78, 68]⟩, ⟨#[79, 82]⟩, ⟨#[88, 79, 82]⟩, ⟨#[78, 79, 84]⟩, ⟨#[73, 70, 69, 82, 82, 79, 82]⟩,
  ⟨#[73, 83, 69, 82, 82, 79, 82]⟩, ⟨#[73, 83, 66, 76, 65, 78, 75]⟩, ⟨#[73, 83, 78, 85, 77, 66, 69, 82]⟩, ⟨#[73, 83, 84, 69, 88, 84]⟩, ⟨#[67, 72, 79, 79, 83, 69]⟩,
  ⟨#[76, 69, 78]⟩, ⟨#[76, 69, 70, 84]⟩, ⟨#[82, 73, 71, 72, 84]⟩, ⟨#[77, 73, 68]⟩, ⟨#[85, 80, 80, 69, 82]⟩,
  ⟨#[76, 79, 87, 69, 82]⟩, ⟨#[84, 82, 73, 77]⟩, ⟨#[67, 79, 78, 67, 65, 84]⟩, ⟨#[82, 69, 80, 84]⟩, ⟨#[69, 88, 65, 67, 84]⟩,
  ⟨#[70, 73, 78, 68]⟩, ⟨#[86, 65, 76, 85, 69]⟩, ⟨#[73, 78, 68, 69, 88]⟩, ⟨#[77, 65, 84, 67, 72]⟩, ⟨#[67, 79, 85, 78, 84, 73, 70]⟩,
  ⟨#[68, 83, 85, 77]⟩, ⟨#[68, 67, 79, 85, 78, 84]⟩, ⟨#[68, 65, 86, 71]⟩, ⟨#[68, 77, 73, 78]⟩, ⟨#[68, 77, 65, 88]⟩]

set_option maxRecDepth 20000 in
theorem names_at (w : World) : Pure Try.prog 65 [] w (.agg (namesL.map Value.string).toArray) := by
  refine fn_at Try.func65 rfl Try.ntmps65 rfl ?_
  repeat' (first
    | ((with_reducible apply wl_buildArr); exact rfl; exact rfl; exact rfl; exact rfl; exact rfl)
    | ((with_reducible apply wl_v); exact rfl; (first | ((with_reducible apply vop_ok); exact rfl) | ((with_reducible apply v_build); exact rfl; exact rfl; exact rfl)))
    | ((with_reducible apply wl_alloc); exact rfl; intro _)
    | ((with_reducible apply wl_storen_box); exact rfl; exact rfl; (repeat first | exact .hd | apply Sel.tl | apply In.tl); exact rfl; exact rfl; exact rfl)
    | ((with_reducible apply wl_putn_box); exact rfl; exact rfl; (repeat first | exact .hd | apply Sel.tl | apply In.tl); exact rfl; exact rfl; exact rfl; exact rfl)
    | (with_reducible first | apply wl_nil | apply thn_n | apply w_seq | apply w_region | apply w_ret | apply w_skip | apply w_exit | apply w_block | apply thn_r | apply thn_e | apply blk_n | apply blk_r | apply blk_e)
    | ((with_reducible apply w_cond_true); exact rfl)
    | ((with_reducible apply w_cond_false); exact rfl)
    | ((with_reducible apply w_cond) <;> first | exact rfl | (intro hb; (replace hb := Tidy.out hb; try (exfalso; omega))))
    | ((with_reducible apply blk_x); exact rfl))
  exact retc (.inl rfl) Try.results65 rfl .hd rfl (MSub.nil _) rfl

theorem Ro.str1 {w : World} {g o : Nat} {L : List ByteArray} (h : Ro w g o (L.map Value.string)) (i : Nat) (hi : i < L.length) : Ro w g (o + i * 1) [Value.string L[i]] := by
  have h1 := (h.drop (k := i)).take (k := 1)
  rw [← List.map_drop, ← List.map_take, List.drop_eq_getElem_cons hi] at h1
  rw [Nat.mul_one]
  exact h1

/-- The first index of s in a list, counted from i; else -1. -/
def idxFrom : List ByteArray → ByteArray → Int → Int
  | [], _, _ => -1
  | a :: r, s, i => if s = a then i else idxFrom r s (i + 1)

set_option maxRecDepth 20000 in
theorem Index_at (L : List ByteArray) (b : ByteArray) (tv : Value) (w : World) (ht : Reads w tv L.length (L.map Value.string)) : Pure Try.prog 67 [tv, .string b] w (.int .i64 (idxFrom L b 0)) := by
  obtain ⟨Al, cl, rfl, hl1, hl2, hl3⟩ := ht
  refine fn_at Try.func67 rfl Try.ntmps67 rfl ?_
  repeat' (first
    | ((with_reducible apply wl_v); exact rfl; (first | ((with_reducible apply vop_ok); exact rfl) | ((with_reducible apply v_len); exact rfl) | ((with_reducible apply v_lens); exact rfl) | ((with_reducible apply v_load_box); exact rfl; (repeat first | exact .hd | apply Sel.tl | apply In.tl); exact rfl) | ((with_reducible apply v_eqlb); exact rfl; exact rfl) | ((with_reducible apply v_neqb); exact rfl; exact rfl) | ((with_reducible apply v_loadw_box); exact rfl; (repeat first | exact .hd | apply Sel.tl | apply In.tl); exact rfl) | ((with_reducible apply v_loadn_box); exact rfl; (repeat first | exact .hd | apply Sel.tl | apply In.tl); exact rfl; exact rfl)))
    | (with_reducible first | apply wl_nil | apply thn_n | apply w_seq | apply w_region | apply w_ret | apply w_skip | apply w_exit | apply w_block | apply thn_r | apply thn_e | apply blk_n | apply blk_r | apply blk_e)
    | ((with_reducible apply w_cond_true); exact rfl)
    | ((with_reducible apply w_cond_false); exact rfl)
    | ((with_reducible apply w_cond) <;> first | exact rfl | (intro hb; (replace hb := Tidy.out hb; try (exfalso; omega))))
    | ((with_reducible apply blk_x); exact rfl))
  refine w_loop (fun i : Nat => [(0, .slice Al L.length cl), (1, .string b), (7, .int .i64 (L.length : Int)), (8, .int .i64 (i : Int))]) (fun _ => []) (fun i => i ≤ L.length ∧ idxFrom L b 0 = idxFrom (L.drop i) b (i : Int)) (fun i => L.length - i) 0 ⟨by omega, rfl⟩ ?_ ?_ ?_
  · (repeat (first | exact Sub.nil _ | refine Sub.cons rfl ?_))
  · (repeat (first | exact MSub.nil _ | refine MSub.pick (by (repeat first | exact .hd | apply Sel.tl | apply In.tl)) ?_ | exact MSub.refl _ | refine MSub.drop .hd ?_))
  · rintro i ⟨hi, hrec⟩
    by_cases hlt : i < L.length
    · obtain ⟨gl, ol, rfl, hrl⟩ := hl3 (by omega)
      have he := hrl.str1 i hlt
      rw [List.drop_eq_getElem_cons hlt, idxFrom] at hrec
      repeat' (first
        | ((with_reducible apply wl_v); exact rfl; (with_reducible apply v_indexAddr); exact rfl; exact rfl; exact hlt)
        | ((with_reducible apply wl_v); exact rfl; (with_reducible apply v_load1_ro); exact rfl; exact he)
        | ((with_reducible apply wl_v); exact rfl; (with_reducible apply v_succN); exact rfl; exact rfl; (simp only [maxLen] at *; omega))
        | ((with_reducible apply wl_v); exact rfl; (first | ((with_reducible apply vop_ok); exact rfl) | ((with_reducible apply v_len); exact rfl) | ((with_reducible apply v_lens); exact rfl) | ((with_reducible apply v_load_box); exact rfl; (repeat first | exact .hd | apply Sel.tl | apply In.tl); exact rfl) | ((with_reducible apply v_eqlb); exact rfl; exact rfl) | ((with_reducible apply v_neqb); exact rfl; exact rfl) | ((with_reducible apply v_loadw_box); exact rfl; (repeat first | exact .hd | apply Sel.tl | apply In.tl); exact rfl) | ((with_reducible apply v_loadn_box); exact rfl; (repeat first | exact .hd | apply Sel.tl | apply In.tl); exact rfl; exact rfl)))
        | (with_reducible first | apply wl_nil | apply thn_n | apply w_seq | apply w_region | apply w_ret | apply w_skip | apply w_exit | apply w_block | apply thn_r | apply thn_e | apply blk_n | apply blk_r | apply blk_e)
        | ((with_reducible apply w_cond_true); exact rfl)
        | ((with_reducible apply w_cond_false); exact rfl)
        | ((with_reducible apply w_cond) <;> first | exact rfl | (intro hb; (replace hb := Tidy.out hb; try (exfalso; omega))))
        | ((with_reducible apply blk_x); exact rfl))
      · ((with_reducible apply ret1); exact .inl rfl; exact rfl; exact rfl; exact MSub.nil _)
        rw [hrec, if_pos hb]
      · refine ⟨i + 1, ⟨by omega, ?_⟩, by omega, ?_, ?_⟩
        · rw [hrec, if_neg hb]
          rfl
        · (repeat (first | exact Sub.nil _ | refine Sub.cons rfl ?_))
        · (repeat (first | exact MSub.nil _ | refine MSub.pick (by (repeat first | exact .hd | apply Sel.tl | apply In.tl)) ?_ | exact MSub.refl _ | refine MSub.drop .hd ?_))
    · have e : i = L.length := by omega
      subst e
      repeat' (first
        | ((with_reducible apply wl_v); exact rfl; (first | ((with_reducible apply vop_ok); exact rfl) | ((with_reducible apply v_len); exact rfl) | ((with_reducible apply v_lens); exact rfl) | ((with_reducible apply v_load_box); exact rfl; (repeat first | exact .hd | apply Sel.tl | apply In.tl); exact rfl) | ((with_reducible apply v_eqlb); exact rfl; exact rfl) | ((with_reducible apply v_neqb); exact rfl; exact rfl) | ((with_reducible apply v_loadw_box); exact rfl; (repeat first | exact .hd | apply Sel.tl | apply In.tl); exact rfl) | ((with_reducible apply v_loadn_box); exact rfl; (repeat first | exact .hd | apply Sel.tl | apply In.tl); exact rfl; exact rfl)))
        | (with_reducible first | apply wl_nil | apply thn_n | apply w_seq | apply w_region | apply w_ret | apply w_skip | apply w_exit | apply w_block | apply thn_r | apply thn_e | apply blk_n | apply blk_r | apply blk_e)
        | ((with_reducible apply w_cond_true); exact rfl)
        | ((with_reducible apply w_cond_false); exact rfl)
        | ((with_reducible apply w_cond) <;> first | exact rfl | (intro hb; (replace hb := Tidy.out hb; try (exfalso; omega))))
        | ((with_reducible apply blk_x); exact rfl))
      ((with_reducible apply ret1); exact .inl rfl; exact rfl; exact rfl; exact MSub.nil _)
      rw [hrec, List.drop_length, idxFrom]

def nameE (fn : Int) : ByteArray × Int := if knownF fn = true then (namesL.getD (fn - 1).toNat emptyB, 0) else (emptyB, 10)

theorem namesL_length : namesL.length = 50 := rfl
theorem namesV_get {j : Nat} (h : j < 50) : (namesL.map Value.string)[j]? = some (.string (namesL.getD j emptyB)) := by
  have : j < namesL.length := h
  simp [List.getD_eq_getElem?_getD, this]

set_option maxRecDepth 20000 in
theorem Name_at (fn : Int) (w : World) : Pure Try.prog 32 [.int .u8 fn] w (.tuple #[.string (nameE fn).1, .int .i64 (nameE fn).2]) := by
  refine fn_at Try.func32 rfl Try.ntmps32 rfl ?_
  by_cases hk : knownF fn = true
  · have hk' := hk
    simp only [knownF, Bool.and_eq_true, decide_eq_true_eq] at hk'
    obtain ⟨j, hj⟩ := Int.eq_ofNat_of_zero_le (by omega : 0 ≤ fn - 1)
    have hw : IntKind.u8.wrap (fn - 1) = (j : Int) := (wrap_u8 (by omega) (by omega)).trans hj
    have hkn : ∀ w, Pure Try.prog 64 [.int .u8 fn] w (.bool true) := fun w => hk ▸ known_at fn w
    repeat' (first
      | ((with_reducible apply wl_callp); exact rfl; exact rfl; (intro w hm; exact hkn w))
      | ((with_reducible apply wl_callp); exact rfl; exact rfl; (intro w hm; exact names_at w))
      | ((with_reducible apply wl_v); exact rfl; (with_reducible apply v_subw_id); exact rfl; exact rfl; exact hw)
      | ((with_reducible apply wl_v); exact rfl; (with_reducible apply v_index_arr (j := j)); exact rfl; exact rfl; omega; exact namesV_get (by omega))
      | ((with_reducible apply wl_v); exact rfl; (first | ((with_reducible apply vop_ok); exact rfl)))
      | (with_reducible first | apply wl_nil | apply thn_n | apply w_seq | apply w_region | apply w_ret | apply w_skip | apply w_exit | apply w_block | apply thn_r | apply thn_e | apply blk_n | apply blk_r | apply blk_e)
      | ((with_reducible apply w_cond_true); exact rfl)
      | ((with_reducible apply w_cond_false); exact rfl)
      | ((with_reducible apply w_cond) <;> first | exact rfl | (intro hb; (replace hb := Tidy.out hb; try (exfalso; omega))))
      | ((with_reducible apply blk_x); exact rfl))
    refine ret2 (.inl rfl) Try.results32 rfl rfl (.nil _) ?_
    rw [nameE, if_pos hk, hj]
    rfl
  · have hk2 : knownF fn = false := by simpa using hk
    have hkn : ∀ w, Pure Try.prog 64 [.int .u8 fn] w (.bool false) := fun w => hk2 ▸ known_at fn w
    repeat' (first
      | ((with_reducible apply wl_callp); exact rfl; exact rfl; (intro w hm; exact hkn w))
      | ((with_reducible apply wl_v); exact rfl; (first | ((with_reducible apply vop_ok); exact rfl)))
      | (with_reducible first | apply wl_nil | apply thn_n | apply w_seq | apply w_region | apply w_ret | apply w_skip | apply w_exit | apply w_block | apply thn_r | apply thn_e | apply blk_n | apply blk_r | apply blk_e)
      | ((with_reducible apply w_cond_true); exact rfl)
      | ((with_reducible apply w_cond_false); exact rfl)
      | ((with_reducible apply w_cond) <;> first | exact rfl | (intro hb; (replace hb := Tidy.out hb; try (exfalso; omega))))
      | ((with_reducible apply blk_x); exact rfl))
    refine ret2 (.inl rfl) Try.results32 rfl rfl (.nil _) ?_
    rw [nameE, if_neg hk]
    rfl

theorem idxFrom_bound (L : List ByteArray) (b : ByteArray) (i : Int) (h : 0 ≤ i) : idxFrom L b i = -1 ∨ (i ≤ idxFrom L b i ∧ idxFrom L b i < i + L.length) := by
  induction L generalizing i with
  | nil => exact .inl rfl
  | cons a r ih =>
    unfold idxFrom
    rw [List.length_cons]
    split
    · right; omega
    · rcases ih (i + 1) (by omega) with h1 | h1
      · exact .inl h1
      · right; omega

def functionE (b : ByteArray) : Int × Int := if idxFrom namesL b 0 < 0 then (0, 6) else (idxFrom namesL b 0 + 1, 0)

set_option maxRecDepth 20000 in
theorem Function_at (b : ByteArray) (w : World) : Pure Try.prog 35 [.string b] w (.tuple #[.int .u8 (functionE b).1, .int .i64 (functionE b).2]) := by
  refine fn_at Try.func35 rfl Try.ntmps35 rfl ?_
  have hb1 := idxFrom_bound namesL b 0 (by omega)
  rw [namesL_length] at hb1
  have hix := fun w tv (h : Reads w tv (namesL.map Value.string).length (namesL.map Value.string)) => Index_at namesL b tv w h
  unfold functionE
  generalize idxFrom namesL b 0 = r at hb1 hix
  repeat' (first
    | ((with_reducible apply wl_callp); exact rfl; exact rfl; (intro w hm; exact names_at w))
    | ((with_reducible apply wl_v); exact rfl; (with_reducible apply v_slice_arr); exact rfl)
    | ((with_reducible apply wl_callp); exact rfl; exact rfl; (intro w' hm; exact hix w' _ (Reads.of_box hm (by (repeat first | exact .hd | apply Sel.tl | apply In.tl)) rfl)))
    | ((with_reducible apply wl_v); exact rfl; (with_reducible apply v_addw_id); exact rfl; exact rfl; exact I64.wrap ⟨by omega, by omega⟩)
    | ((with_reducible apply wl_v); exact rfl; (with_reducible apply v_conv_id); exact rfl; exact wrap_u8 (by omega) (by omega))
    | ((with_reducible apply wl_v); exact rfl; (first | ((with_reducible apply vop_ok); exact rfl)))
    | ((with_reducible apply wl_alloc); exact rfl; intro _)
    | ((with_reducible apply wl_storen_box); exact rfl; exact rfl; (repeat first | exact .hd | apply Sel.tl | apply In.tl); exact rfl; exact rfl; exact rfl)
    | ((with_reducible apply wl_putn_box); exact rfl; exact rfl; (repeat first | exact .hd | apply Sel.tl | apply In.tl); exact rfl; exact rfl; exact rfl; exact rfl)
    | (with_reducible first | apply wl_nil | apply thn_n | apply w_seq | apply w_region | apply w_ret | apply w_skip | apply w_exit | apply w_block | apply thn_r | apply thn_e | apply blk_n | apply blk_r | apply blk_e)
    | ((with_reducible apply w_cond_true); exact rfl)
    | ((with_reducible apply w_cond_false); exact rfl)
    | ((with_reducible apply w_cond) <;> first | exact rfl | (intro hb; (replace hb := Tidy.out hb; try (exfalso; omega))))
    | ((with_reducible apply blk_x); exact rfl))
  · refine ret2 (.inl rfl) Try.results35 rfl rfl (.nil _) ?_
    rw [if_pos hb]
  · refine ret2 (.inl rfl) Try.results35 rfl rfl (.nil _) ?_
    rw [if_neg (by omega)]
end Go.SL

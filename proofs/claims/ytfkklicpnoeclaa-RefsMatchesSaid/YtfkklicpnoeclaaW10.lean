/-
  law08.awake returns true; TreeEquals returns true.
-/
import Derived.Test.YtfkklicpnoeclaaW9
namespace Go.SL
open Go Go.Proofs
attribute [local irreducible] W WL WQ WG WA VOp thn blk retP FnAt FnIn

def k1 : Nd := ⟨1, ⟨1, 50000, emptyB⟩, zeroR, 0, 0, 0⟩
def k2 : Nd := ⟨2, zeroV, ⟨1, 1, 1, 1⟩, 0, 0, 0⟩
def k3 : Nd := ⟨3, zeroV, ⟨1, 1, 2, 2⟩, 0, 0, 0⟩
def k6 : Nd := ⟨6, zeroV, zeroR, 1, 0, 0⟩
def k7 : Nd := ⟨7, zeroV, zeroR, 0, 9, 2⟩
def j7 : Nd := ⟨7, zeroV, zeroR, 0, 46, 1⟩

theorem Reads.of_row {w0 w : World} {H : List Blk} {g t sz m c : Nat} {xs : List Value} (hm : Mem w0 w H) (hi : In (.own (some g) t sz m c xs) H) : Reads w (.slice (some ⟨g, 0, none⟩) m c) m xs := Reads.of_own hm hi
theorem aw_depth : depthE [k2, k1, k6] = (2, 0) := by decide +kernel
theorem aw_kids : kidsE [k3, k1, k7] 2 = ([0, 1], 0) := by decide +kernel
theorem aw_sub : subE [k3, k1, k7] 0 = ([k3], 0) := by decide +kernel
theorem aw_c1 : checkE [k3, k1, k7] = 0 := by decide +kernel
theorem aw_c2 : checkE [k3] = 4 := by decide +kernel
theorem aw_c3 : checkE [k1, j7] = 4 := by decide +kernel
theorem aw_c4 : checkE [k2, j7] = 0 := by decide +kernel
theorem aw_ar : arity 20 = (2, 3, 0) := by decide +kernel
theorem aw_depth' (w : World) (tv : Value) (h : Reads w tv ([k2, k1, k6] : List Nd).length (([k2, k1, k6] : List Nd).flatMap encN)) : Pure Try.prog 18 [tv] w (.tuple #[.int .i64 2, .int .i64 0]) := by
  have := Depth_at [k2, k1, k6] tv w h
  rw [aw_depth] at this
  exact this
theorem aw_kids' (w : World) (tv : Value) (h : Reads w tv ([k3, k1, k7] : List Nd).length (([k3, k1, k7] : List Nd).flatMap encN)) : FnAt Try.prog 20 [tv, .int .i64 2] w fun v H => ∃ A cap, v = .tuple #[sl A 2 cap, .int .i64 0] ∧ H = [.own A 3 1 2 cap ([0, 1].map (Value.int .i64))] := by
  have := Kids_at [k3, k1, k7] 2 tv w h
  rw [aw_kids] at this
  exact this
theorem aw_sub' (w : World) (tv : Value) (h : Reads w tv ([k3, k1, k7] : List Nd).length (([k3, k1, k7] : List Nd).flatMap encN)) : FnAt Try.prog 22 [tv, .int .i64 0] w fun v H => ∃ A cap, v = .tuple #[sl A 1 cap, .int .i64 0] ∧ H = [.own A 40 11 1 cap ([k3].flatMap encN)] := by
  have := Sub_at [k3, k1, k7] 0 tv w h (by decide)
  rw [aw_sub] at this
  exact this
theorem aw_c1' (w : World) (tv : Value) (h : Reads w tv ([k3, k1, k7] : List Nd).length (([k3, k1, k7] : List Nd).flatMap encN)) : Pure Try.prog 24 [tv] w (.int .i64 0) := aw_c1 ▸ Check_at [k3, k1, k7] tv w h
theorem aw_c2' (w : World) (tv : Value) (h : Reads w tv ([k3] : List Nd).length (([k3] : List Nd).flatMap encN)) : Pure Try.prog 24 [tv] w (.int .i64 4) := aw_c2 ▸ Check_at [k3] tv w h
theorem aw_c3' (w : World) (tv : Value) (h : Reads w tv ([k1, j7] : List Nd).length (([k1, j7] : List Nd).flatMap encN)) : Pure Try.prog 24 [tv] w (.int .i64 4) := aw_c3 ▸ Check_at [k1, j7] tv w h
theorem aw_c4' (w : World) (tv : Value) (h : Reads w tv ([k2, j7] : List Nd).length (([k2, j7] : List Nd).flatMap encN)) : Pure Try.prog 24 [tv] w (.int .i64 0) := aw_c4 ▸ Check_at [k2, j7] tv w h
theorem aw_ar' (w : World) : Pure Try.prog 33 [.int .u8 20] w (.tuple #[.int .i64 2, .int .i64 3, .int .i64 0]) := by
  have := arity_at 20 w
  rw [aw_ar] at this
  exact this
theorem aw_eqi (w : World) (a b : Value) (h1 : Reads w a 2 ([0, 1].map (Value.int .i64))) (h2 : Reads w b 2 ([0, 1].map (Value.int .i64))) : Pure Try.prog 26 [a, b] w (.bool true) := EqualInts_at [0, 1] [0, 1] a b w h1 h2
theorem aw_eqt (w : World) (a b : Value) (h1 : Reads w a 1 ([k3].flatMap encN)) (h2 : Reads w b 1 ([k3].flatMap encN)) : Pure Try.prog 27 [a, b] w (.bool true) := by
  have := EqualTree_at [k3] [k3] a b w h1 h2
  rw [decide_eq_true rfl] at this
  exact this

set_option maxRecDepth 20000 in
set_option maxHeartbeats 4000000 in
theorem awake_at (w : World) : Pure Try.prog 28 [] w (.bool true) := by
  refine fn_at Try.func28 rfl Try.ntmps28 rfl ?_
  repeat' (first
    | ((with_reducible apply wl_callp); exact rfl; exact rfl; (intro w' hm; exact aw_depth' w' _ (Reads.of_row hm (by (repeat first | exact .hd | apply Sel.tl | apply In.tl)))))
    | ((with_reducible apply wl_call); exact rfl; exact rfl; (intro w' hm; exact aw_kids' w' _ (Reads.of_row hm (by (repeat first | exact .hd | apply Sel.tl | apply In.tl)))); (rintro v H' ⟨A, cap, rfl, rfl⟩))
    | ((with_reducible apply wl_call); exact rfl; exact rfl; (intro w' hm; exact aw_sub' w' _ (Reads.of_row hm (by (repeat first | exact .hd | apply Sel.tl | apply In.tl)))); (rintro v H' ⟨A2, cap2, rfl, rfl⟩))
    | ((with_reducible apply wl_callp); exact rfl; exact rfl; (intro w' hm; exact aw_ar' w'))
    | ((with_reducible apply wl_callp); exact rfl; exact rfl; (intro w' hm; exact aw_eqi w' _ _ (Reads.of_own hm (by (repeat first | exact .hd | apply Sel.tl | apply In.tl))) (Reads.of_row hm (by (repeat first | exact .hd | apply Sel.tl | apply In.tl)))))
    | ((with_reducible apply wl_callp); exact rfl; exact rfl; (intro w' hm; exact aw_eqt w' _ _ (Reads.of_own hm (by (repeat first | exact .hd | apply Sel.tl | apply In.tl))) (Reads.of_row hm (by (repeat first | exact .hd | apply Sel.tl | apply In.tl)))))
    | ((with_reducible apply wl_callp); exact rfl; exact rfl; (intro w' hm; exact aw_c1' w' _ (Reads.of_row hm (by (repeat first | exact .hd | apply Sel.tl | apply In.tl)))))
    | ((with_reducible apply wl_callp); exact rfl; exact rfl; (intro w' hm; exact aw_c2' w' _ (Reads.of_row hm (by (repeat first | exact .hd | apply Sel.tl | apply In.tl)))))
    | ((with_reducible apply wl_callp); exact rfl; exact rfl; (intro w' hm; exact aw_c3' w' _ (Reads.of_row hm (by (repeat first | exact .hd | apply Sel.tl | apply In.tl)))))
    | ((with_reducible apply wl_callp); exact rfl; exact rfl; (intro w' hm; exact aw_c4' w' _ (Reads.of_row hm (by (repeat first | exact .hd | apply Sel.tl | apply In.tl)))))
    | ((with_reducible apply wl_v); exact rfl; (first | ((with_reducible apply vop_ok); exact rfl) | ((with_reducible apply v_load_box); exact rfl; (repeat first | exact .hd | apply Sel.tl | apply In.tl); exact rfl) | ((with_reducible apply v_eqlb); exact rfl; exact rfl) | ((with_reducible apply v_neqb); exact rfl; exact rfl) | ((with_reducible apply v_loadw_box); exact rfl; (repeat first | exact .hd | apply Sel.tl | apply In.tl); exact rfl) | ((with_reducible apply v_loadn_box); exact rfl; (repeat first | exact .hd | apply Sel.tl | apply In.tl); exact rfl; exact rfl) | ((with_reducible apply v_build); exact rfl; exact rfl; exact rfl)))
    | ((with_reducible apply wl_gyes); exact rfl; exact rfl)
    | ((with_reducible apply wl_gno_b); exact rfl; exact rfl; exact rfl; exact rfl)
    | ((with_reducible apply wl_gno_u); exact rfl; exact rfl; exact rfl)
    | ((with_reducible apply wl_alloc); exact rfl; intro _)
    | ((with_reducible apply wl_storen_box); exact rfl; exact rfl; (repeat first | exact .hd | apply Sel.tl | apply In.tl); exact rfl; exact rfl; exact rfl)
    | ((with_reducible apply wl_putn_box); exact rfl; exact rfl; (repeat first | exact .hd | apply Sel.tl | apply In.tl); exact rfl; exact rfl; exact rfl; exact rfl)
    | ((with_reducible apply wl_buildSlice); exact rfl; exact rfl; exact rfl; exact rfl; exact rfl; exact rfl; exact rfl; intro _)
    | ((with_reducible apply wl_gsplit) <;> first | exact rfl | (intro hb; (replace hb := Tidy.out hb; try (exfalso; omega))))
    | (with_reducible first | apply wl_nil | apply thn_n | apply w_seq | apply w_region | apply w_ret | apply w_skip | apply w_exit | apply w_block | apply thn_r | apply thn_e | apply blk_n | apply blk_r | apply blk_e)
    | ((with_reducible apply w_cond_true); exact rfl)
    | ((with_reducible apply w_cond_false); exact rfl)
    | ((with_reducible apply w_cond) <;> first | exact rfl | (intro hb; (replace hb := Tidy.out hb; try (exfalso; omega))))
    | ((with_reducible apply blk_x); exact rfl))
  ((with_reducible apply ret1); exact .inl rfl; exact rfl; exact rfl; exact MSub.nil _)
  rfl

theorem cut300_idem (b : ByteArray) : cut300 (cut300 b) = cut300 b := by
  unfold cut300
  apply ByteArray.ext
  simp only [ByteArray.data_extract, ByteArray.size_extract, Array.extract_extract]
  congr 1
  omega
theorem fewT_idem (L : List Nd) : fewT (fewT L) = fewT L := by
  unfold fewT
  rw [← List.map_take, List.take_take, Nat.min_self, List.map_map]
  apply List.map_congr_left
  intro n _
  show fewN (fewN n) = fewN n
  simp only [fewN, cut300_idem]

set_option maxRecDepth 20000 in
theorem TreeEquals_at (L M : List Nd) (lv mv : Value) (w : World) (hl : Reads w lv L.length (L.flatMap encN)) (hm : Reads w mv M.length (M.flatMap encN)) : Pure Try.prog 4 [lv, mv] w (.bool true) := by
  refine fn_at Try.func4 rfl Try.ntmps4 rfl ?_
  have hf1 := fun (w' : World) (H : List Blk) (hm : Mem w w' H) => Few_at L lv w' (hl.of_w0 hm)
  have hf2 := fun (w' : World) (H : List Blk) (h : Mem w w' H) => Few_at M mv w' (hm.of_w0 h)
  have hidem := fewT_idem L
  generalize fewT L = L1 at hf1 hidem
  generalize fewT M = M1 at hf2
  have hf3 := fun (w' : World) (A : Option Nat) (cap : Nat) (h : Reads w' (sl A L1.length cap) L1.length (L1.flatMap encN)) => Few_at L1 _ w' h
  rw [hidem] at hf3
  have he3 := fun (w' : World) (a b : Value) (h1 : Reads w' a L1.length (L1.flatMap encN)) (h2 : Reads w' b L1.length (L1.flatMap encN)) => Equal_at L1 L1 a b w' h1 h2
  rw [decide_eq_true rfl] at he3
  repeat' (first
    | ((with_reducible apply wl_call); exact rfl; exact rfl; (intro w' h; exact hf1 w' _ h); (rintro v H' ⟨A, cap, rfl, rfl⟩))
    | ((with_reducible apply wl_call); exact rfl; exact rfl; (intro w' h; exact hf2 w' _ h); (rintro v H' ⟨A2, cap2, rfl, rfl⟩))
    | ((with_reducible apply wl_callp); exact rfl; exact rfl; (intro w' h; exact he3 w' _ _ (Reads.of_own h (by (repeat first | exact .hd | apply Sel.tl | apply In.tl))) (Reads.of_own h (by (repeat first | exact .hd | apply Sel.tl | apply In.tl)))))
    | ((with_reducible apply wl_callp); exact rfl; exact rfl; (intro w' h; exact Equal_at L1 M1 _ _ w' (Reads.of_own h (by (repeat first | exact .hd | apply Sel.tl | apply In.tl))) (Reads.of_own h (by (repeat first | exact .hd | apply Sel.tl | apply In.tl)))))
    | ((with_reducible apply wl_callp); exact rfl; exact rfl; (intro w' h; exact EqualTree_at L1 M1 _ _ w' (Reads.of_own h (by (repeat first | exact .hd | apply Sel.tl | apply In.tl))) (Reads.of_own h (by (repeat first | exact .hd | apply Sel.tl | apply In.tl)))))
    | ((with_reducible apply wl_v); exact rfl; (with_reducible apply v_eqlb_same); exact rfl; exact rfl)
    | ((with_reducible apply wl_call); exact rfl; exact rfl; (intro w' h; exact hf3 w' _ _ (Reads.of_own h (by (repeat first | exact .hd | apply Sel.tl | apply In.tl)))); (rintro v H' ⟨A3, cap3, rfl, rfl⟩))
    | ((with_reducible apply wl_callp); exact rfl; exact rfl; (intro w' h; exact awake_at w'))
    | ((with_reducible apply wl_v); exact rfl; (first | ((with_reducible apply vop_ok); exact rfl) | ((with_reducible apply v_eqlb); exact rfl; exact rfl) | ((with_reducible apply v_neqb); exact rfl; exact rfl)))
    | ((with_reducible apply wl_gyes); exact rfl; exact rfl)
    | ((with_reducible apply wl_gno_b); exact rfl; exact rfl; exact rfl; exact rfl)
    | ((with_reducible apply wl_gno_u); exact rfl; exact rfl; exact rfl)
    | ((with_reducible apply wl_gsplit) <;> first | exact rfl | (intro hb; (replace hb := Tidy.out hb; try (exfalso; omega))))
    | (with_reducible first | apply wl_nil | apply thn_n | apply w_seq | apply w_region | apply w_ret | apply w_skip | apply w_exit | apply w_block | apply thn_r | apply thn_e | apply blk_n | apply blk_r | apply blk_e)
    | ((with_reducible apply w_cond_true); exact rfl)
    | ((with_reducible apply w_cond_false); exact rfl)
    | ((with_reducible apply w_cond) <;> first | exact rfl | (intro hb; (replace hb := Tidy.out hb; try (exfalso; omega))))
    | ((with_reducible apply blk_x); exact rfl))
  ((with_reducible apply ret1); exact .inl rfl; exact rfl; exact rfl; exact MSub.nil _)
  rfl
end Go.SL

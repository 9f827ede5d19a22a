/-
  Lemmas and walks, packed: W6 W7 W8 W9 W10 W11 W12 W13 W14 Fin2 Tr2.
-/
import Derived.Test.YtfkklicpnoeclaaGc
import Derived.Test.YtfkklicpnoeclaaGb
set_option linter.unusedSimpArgs false
set_option linter.unusedVariables false
/-
  What 'check' of package tree returns, and Check.
-/
namespace Go.SL
open Go Go.Proofs
attribute [local irreducible] W WL WQ WG WA VOp thn blk retP FnAt FnIn

/-- 'check': the error, and the visits made. -/
def checkT (L : List Nd) (wide : Bool) : Int × List Visit :=
  if 256 < L.length then (5, []) else if L.length = 0 then (4, [])
  else if (walkT L L 0 [] []).1 ≠ 0 then walkT L L 0 [] []
  else if wide = false ∧ kindAt L (L.length - 1) = 3 then (4, (walkT L L 0 [] []).2) else (0, (walkT L L 0 [] []).2)

set_option maxRecDepth 20000 in
set_option maxHeartbeats 2000000 in
theorem check_in (L : List Nd) (wide : Bool) (tv : Value) (w0 : World) (ht : Reads w0 tv L.length (L.flatMap encN)) (f : FuncId) [hf : Callable Try.prog f] (caps : List Value) (Inv : List Visit → List Blk → Prop) (hV : Visits L.length w0 f caps Inv)
    (H : List Blk) (hI : Inv [] H) : FnIn Try.prog 54 [tv, .bool wide, .func (.func f) #[] caps.toArray] w0 H fun v H' => v = .int .i64 (checkT L wide).1 ∧ Inv (checkT L wide).2 H' := by
  have ht' := ht
  obtain ⟨At, ct, rfl, ht1, ht2, ht3⟩ := ht
  refine fn_in Try.func54 rfl Try.ntmps54 rfl ?_
  by_cases h256 : 256 < L.length
  · repeat' (first
      | ((with_reducible apply wl_v); exact rfl; (first | ((with_reducible apply vop_ok); exact rfl) | ((with_reducible apply v_fieldAddr); exact rfl) | ((with_reducible apply v_len); exact rfl) | ((with_reducible apply v_lens); exact rfl) | ((with_reducible apply v_load_box); exact rfl; (repeat first | exact .hd | apply Sel.tl | apply In.tl); exact rfl) | ((with_reducible apply v_eqlb); exact rfl; exact rfl) | ((with_reducible apply v_neqb); exact rfl; exact rfl) | ((with_reducible apply v_loadw_box); exact rfl; (repeat first | exact .hd | apply Sel.tl | apply In.tl); exact rfl) | ((with_reducible apply v_loadn_box); exact rfl; (repeat first | exact .hd | apply Sel.tl | apply In.tl); exact rfl; exact rfl)))
      | ((with_reducible apply wl_gyes); exact rfl; exact rfl)
      | ((with_reducible apply wl_gno_b); exact rfl; exact rfl; exact rfl; exact rfl)
      | ((with_reducible apply wl_gno_u); exact rfl; exact rfl; exact rfl)
      | ((with_reducible apply wl_gsplit) <;> first | exact rfl | (intro hb; (replace hb := Tidy.out hb; try (exfalso; omega))))
      | (with_reducible first | apply wl_nil | apply thn_n | apply w_seq | apply w_region | apply w_ret | apply w_skip | apply w_exit | apply w_block | apply thn_r | apply thn_e | apply blk_n | apply blk_r | apply blk_e)
      | ((with_reducible apply w_cond_true); exact rfl)
      | ((with_reducible apply w_cond_false); exact rfl)
      | ((with_reducible apply w_cond) <;> first | exact rfl | (intro hb; (replace hb := Tidy.out hb; try (exfalso; omega))))
      | ((with_reducible apply blk_x); exact rfl))
    refine ret1 (.inl rfl) Try.results54 rfl (.refl _) ?_
    rw [checkT, if_pos h256]
    exact ⟨rfl, hI⟩
  by_cases h0 : L.length = 0
  · repeat' (first
      | ((with_reducible apply wl_v); exact rfl; (first | ((with_reducible apply vop_ok); exact rfl) | ((with_reducible apply v_fieldAddr); exact rfl) | ((with_reducible apply v_len); exact rfl) | ((with_reducible apply v_lens); exact rfl) | ((with_reducible apply v_load_box); exact rfl; (repeat first | exact .hd | apply Sel.tl | apply In.tl); exact rfl) | ((with_reducible apply v_eqlb); exact rfl; exact rfl) | ((with_reducible apply v_neqb); exact rfl; exact rfl) | ((with_reducible apply v_loadw_box); exact rfl; (repeat first | exact .hd | apply Sel.tl | apply In.tl); exact rfl) | ((with_reducible apply v_loadn_box); exact rfl; (repeat first | exact .hd | apply Sel.tl | apply In.tl); exact rfl; exact rfl)))
      | ((with_reducible apply wl_gyes); exact rfl; exact rfl)
      | ((with_reducible apply wl_gno_b); exact rfl; exact rfl; exact rfl; exact rfl)
      | ((with_reducible apply wl_gno_u); exact rfl; exact rfl; exact rfl)
      | ((with_reducible apply wl_gsplit) <;> first | exact rfl | (intro hb; (replace hb := Tidy.out hb; try (exfalso; omega))))
      | (with_reducible first | apply wl_nil | apply thn_n | apply w_seq | apply w_region | apply w_ret | apply w_skip | apply w_exit | apply w_block | apply thn_r | apply thn_e | apply blk_n | apply blk_r | apply blk_e)
      | ((with_reducible apply w_cond_true); exact rfl)
      | ((with_reducible apply w_cond_false); exact rfl)
      | ((with_reducible apply w_cond) <;> first | exact rfl | (intro hb; (replace hb := Tidy.out hb; try (exfalso; omega))))
      | ((with_reducible apply blk_x); exact rfl))
    refine ret1 (.inl rfl) Try.results54 rfl (.refl _) ?_
    rw [checkT, if_neg h256, if_pos h0]
    exact ⟨rfl, hI⟩
  obtain ⟨gt, ot, rfl, hrt⟩ := ht3 (by omega)
  have hw := walkAt_in L (by omega) (by omega) _ w0 ht' f caps Inv hV H hI
  have hrl := hrt.elem encN_len (L.length - 1) (by omega)
  have hk : kindAt L (L.length - 1) = (L[L.length - 1]'(by omega)).kind := kindAt_get _
  simp only [checkT, if_neg h256, if_neg h0, hk]
  generalize walkT L L 0 [] [] = r at hw
  generalize (L[L.length - 1]'(by omega)) = nl at hrl
  repeat' (first
    | ((with_reducible apply wl_callin); exact rfl; exact rfl; exact hw; (rintro v H' ⟨rfl, hI'⟩))
    | ((with_reducible apply wl_v); exact rfl; (with_reducible apply v_predN); exact rfl; exact rfl; omega; omega)
    | ((with_reducible apply wl_v); exact rfl; (with_reducible apply v_indexAddr); exact rfl; exact rfl; omega)
    | ((with_reducible apply wl_v); exact rfl; (with_reducible apply v_loadf_ro (off := 0)); exact rfl; exact hrl; exact rfl)
    | ((with_reducible apply wl_v); exact rfl; (first | ((with_reducible apply vop_ok); exact rfl) | ((with_reducible apply v_fieldAddr); exact rfl) | ((with_reducible apply v_len); exact rfl) | ((with_reducible apply v_lens); exact rfl) | ((with_reducible apply v_load_box); exact rfl; (repeat first | exact .hd | apply Sel.tl | apply In.tl); exact rfl) | ((with_reducible apply v_eqlb); exact rfl; exact rfl) | ((with_reducible apply v_neqb); exact rfl; exact rfl) | ((with_reducible apply v_loadw_box); exact rfl; (repeat first | exact .hd | apply Sel.tl | apply In.tl); exact rfl) | ((with_reducible apply v_loadn_box); exact rfl; (repeat first | exact .hd | apply Sel.tl | apply In.tl); exact rfl; exact rfl)))
    | ((with_reducible apply wl_gyes); exact rfl; exact rfl)
    | ((with_reducible apply wl_gno_b); exact rfl; exact rfl; exact rfl; exact rfl)
    | ((with_reducible apply wl_gno_u); exact rfl; exact rfl; exact rfl)
    | ((with_reducible apply wl_gsplit) <;> first | exact rfl | (intro hb; (replace hb := Tidy.out hb; try (exfalso; omega))))
    | (with_reducible first | apply wl_nil | apply thn_n | apply w_seq | apply w_region | apply w_ret | apply w_skip | apply w_exit | apply w_block | apply thn_r | apply thn_e | apply blk_n | apply blk_r | apply blk_e)
    | ((with_reducible apply w_cond_true); exact rfl)
    | ((with_reducible apply w_cond_false); exact rfl)
    | ((with_reducible apply w_cond) <;> first | exact rfl | (intro hb; (replace hb := Tidy.out hb; try (exfalso; omega))))
    | ((with_reducible apply blk_x); exact rfl))
  all_goals refine ret1 (.inl rfl) Try.results54 rfl (.refl _) ?_
  all_goals simp_all
end Go.SL

/-
  What Check, Depth and Kids of package tree return.
-/
namespace Go.SL
open Go Go.Proofs
attribute [local irreducible] W WL WQ WG WA VOp thn blk retP FnAt FnIn

theorem visits_nothing (N : Nat) (w0 : World) (H0 : List Blk) : Visits N w0 62 [] fun _ H => H = H0 := by
  rintro vs kids d A cap _ F rfl _ _ _
  refine fn_in Try.func62 rfl Try.ntmps62 rfl ?_
  repeat' (first
    | ((with_reducible apply wl_v); exact rfl; (first | ((with_reducible apply vop_ok); exact rfl)))
    | (with_reducible first | apply wl_nil | apply thn_n | apply w_seq | apply w_region | apply w_ret | apply w_skip | apply w_exit | apply w_block | apply thn_r | apply thn_e | apply blk_n | apply blk_r | apply blk_e)
    | ((with_reducible apply w_cond_true); exact rfl)
    | ((with_reducible apply w_cond_false); exact rfl)
    | ((with_reducible apply w_cond) <;> first | exact rfl | (intro hb; (replace hb := Tidy.out hb; try (exfalso; omega))))
    | ((with_reducible apply blk_x); exact rfl))
  refine ret0 (.inr rfl) Try.results62 (.drop .hd (.refl _)) ⟨_, rfl, .refl _⟩

def checkE (L : List Nd) : Int := (checkT L false).1
theorem Check_at (L : List Nd) (tv : Value) (w : World) (ht : Reads w tv L.length (L.flatMap encN)) : Pure Try.prog 24 [tv] w (.int .i64 (checkE L)) := by
  have ht' := ht
  obtain ⟨At, ct, rfl, ht1, ht2, ht3⟩ := ht
  refine fn_at Try.func24 rfl Try.ntmps24 rfl ?_
  have hw := check_in L false _ w ht' 62 [] (fun _ H => H = []) (visits_nothing _ w []) [] rfl
  repeat' (first
    | ((with_reducible apply wl_callin); exact rfl; exact rfl; exact hw; (rintro v H' ⟨rfl, rfl⟩))
    | ((with_reducible apply wl_v); exact rfl; (first | ((with_reducible apply vop_ok); exact rfl)))
    | (with_reducible first | apply wl_nil | apply thn_n | apply w_seq | apply w_region | apply w_ret | apply w_skip | apply w_exit | apply w_block | apply thn_r | apply thn_e | apply blk_n | apply blk_r | apply blk_e)
    | ((with_reducible apply w_cond_true); exact rfl)
    | ((with_reducible apply w_cond_false); exact rfl)
    | ((with_reducible apply w_cond) <;> first | exact rfl | (intro hb; (replace hb := Tidy.out hb; try (exfalso; omega))))
    | ((with_reducible apply blk_x); exact rfl))
  ((with_reducible apply ret1); exact .inl rfl; exact rfl; exact rfl; exact MSub.nil _)
  rfl

def lastD (vs : List Visit) : Nat := (vs.getLast?.map (·.2)).getD 0
theorem lastD_snoc (vs : List Visit) (x : Visit) : lastD (vs ++ [x]) = x.2 := by simp [lastD]

theorem visits_depth (N : Nat) (w0 : World) (g : Nat) : Visits N w0 55 [.pointer (some ⟨g, 0, none⟩)] fun vs H => H = [.box g 3 [.int .i64 (lastD vs : Int)]] := by
  rintro vs kids d A cap _ F rfl _ _ _
  refine fn_in Try.func55 rfl Try.ntmps55 rfl ?_
  repeat' (first
    | ((with_reducible apply wl_v); exact rfl; (first | ((with_reducible apply vop_ok); exact rfl)))
    | ((with_reducible apply wl_storen_box); exact rfl; exact rfl; (repeat first | exact .hd | apply Sel.tl | apply In.tl); exact rfl; exact rfl; exact rfl)
    | ((with_reducible apply wl_putn_box); exact rfl; exact rfl; (repeat first | exact .hd | apply Sel.tl | apply In.tl); exact rfl; exact rfl; exact rfl; exact rfl)
    | (with_reducible first | apply wl_nil | apply thn_n | apply w_seq | apply w_region | apply w_ret | apply w_skip | apply w_exit | apply w_block | apply thn_r | apply thn_e | apply blk_n | apply blk_r | apply blk_e)
    | ((with_reducible apply w_cond_true); exact rfl)
    | ((with_reducible apply w_cond_false); exact rfl)
    | ((with_reducible apply w_cond) <;> first | exact rfl | (intro hb; (replace hb := Tidy.out hb; try (exfalso; omega))))
    | ((with_reducible apply blk_x); exact rfl))
  exact ret0 (.inr rfl) Try.results55 (H' := .box g 3 [.int .i64 (d : Int)] :: F) (by (repeat (first | exact MSub.nil _ | refine MSub.pick (by (repeat first | exact .hd | apply Sel.tl | apply In.tl)) ?_ | exact MSub.refl _ | refine MSub.drop .hd ?_))) ⟨_, by show _ = [_]; rw [lastD_snoc], .refl _⟩

def depthE (L : List Nd) : Int × Int := if checkE L ≠ 0 then (0, checkE L) else ((lastD (checkT L false).2 : Nat), 0)
theorem Depth_at (L : List Nd) (tv : Value) (w : World) (ht : Reads w tv L.length (L.flatMap encN)) : Pure Try.prog 18 [tv] w (.tuple #[.int .i64 (depthE L).1, .int .i64 (depthE L).2]) := by
  have ht' := ht
  obtain ⟨At, ct, rfl, ht1, ht2, ht3⟩ := ht
  refine fn_at Try.func18 rfl Try.ntmps18 rfl ?_
  have hw := fun g => check_in L false _ w ht' 55 [.pointer (some ⟨g, 0, none⟩)] _ (visits_depth _ w g) [.box g 3 [.int .i64 0]] rfl
  unfold depthE checkE
  generalize checkT L false = r at hw
  repeat' (first
    | ((with_reducible apply wl_callin); exact rfl; exact rfl; exact hw _; (rintro v H' ⟨rfl, rfl⟩))
    | ((with_reducible apply wl_v); exact rfl; (first | ((with_reducible apply vop_ok); exact rfl) | ((with_reducible apply v_makeFunc); exact rfl) | ((with_reducible apply v_load_box); exact rfl; (repeat first | exact .hd | apply Sel.tl | apply In.tl); exact rfl) | ((with_reducible apply v_eqlb); exact rfl; exact rfl) | ((with_reducible apply v_neqb); exact rfl; exact rfl) | ((with_reducible apply v_loadw_box); exact rfl; (repeat first | exact .hd | apply Sel.tl | apply In.tl); exact rfl) | ((with_reducible apply v_loadn_box); exact rfl; (repeat first | exact .hd | apply Sel.tl | apply In.tl); exact rfl; exact rfl)))
    | ((with_reducible apply wl_alloc); exact rfl; intro _)
    | ((with_reducible apply wl_storen_box); exact rfl; exact rfl; (repeat first | exact .hd | apply Sel.tl | apply In.tl); exact rfl; exact rfl; exact rfl)
    | ((with_reducible apply wl_putn_box); exact rfl; exact rfl; (repeat first | exact .hd | apply Sel.tl | apply In.tl); exact rfl; exact rfl; exact rfl; exact rfl)
    | (with_reducible first | apply wl_nil | apply thn_n | apply w_seq | apply w_region | apply w_ret | apply w_skip | apply w_exit | apply w_block | apply thn_r | apply thn_e | apply blk_n | apply blk_r | apply blk_e)
    | ((with_reducible apply w_cond_true); exact rfl)
    | ((with_reducible apply w_cond_false); exact rfl)
    | ((with_reducible apply w_cond) <;> first | exact rfl | (intro hb; (replace hb := Tidy.out hb; try (exfalso; omega))))
    | ((with_reducible apply blk_x); exact rfl))
  · refine ret2 (.inl rfl) Try.results18 rfl rfl (.nil _) ?_
    rw [if_pos hb]
  · refine ret2 (.inl rfl) Try.results18 rfl rfl (.nil _) ?_
    rw [if_neg (by omega)]

/-- The roots below node i, as the visits tell them. -/
def kidsAt (vs : List Visit) (i : Int) : List Nat := if 0 ≤ i then ((vs[i.toNat]?).map (·.1)).getD [] else []
theorem kidsAt_hit (vs : List Visit) (x : Visit) : kidsAt (vs ++ [x]) (vs.length : Int) = x.1 := by simp [kidsAt]
theorem kidsAt_miss (vs : List Visit) (x : Visit) (i : Int) (h : (vs.length : Int) ≠ i) : kidsAt (vs ++ [x]) i = kidsAt vs i := by
  unfold kidsAt
  split
  · have : i.toNat ≠ vs.length := by omega
    rcases Nat.lt_or_gt_of_ne this with h1 | h1
    · rw [List.getElem?_append_left h1]
    · rw [List.getElem?_eq_none (by simp; omega), List.getElem?_eq_none (by omega)]
  · rfl

def intsV (ks : List Nat) : List Value := ks.map fun (k : Nat) => .int .i64 (k : Int)
def KidsInv (g3 g6 : Nat) (i : Int) (vs : List Visit) (H : List Blk) : Prop :=
  ∃ A cap, H = [.own A 3 1 (kidsAt vs i).length cap (intsV (kidsAt vs i)), .box g6 27 [sl A (kidsAt vs i).length cap], .box g3 3 [.int .i64 i]]

theorem visits_kids (N : Nat) (w0 : World) (g3 g6 : Nat) (i : Int) : Visits N w0 57 [.pointer (some ⟨g3, 0, none⟩), .pointer (some ⟨g6, 0, none⟩)] (KidsInv g3 g6 i) := by
  rintro vs kids d A cap _ F ⟨A0, cap0, rfl⟩ _ _ _
  refine fn_in Try.func57 rfl Try.ntmps57 rfl ?_
  repeat' (first
    | ((with_reducible apply wl_v); exact rfl; (first | ((with_reducible apply vop_ok); exact rfl) | ((with_reducible apply v_load_box); exact rfl; (repeat first | exact .hd | apply Sel.tl | apply In.tl); exact rfl) | ((with_reducible apply v_eqlb); exact rfl; exact rfl) | ((with_reducible apply v_neqb); exact rfl; exact rfl) | ((with_reducible apply v_loadw_box); exact rfl; (repeat first | exact .hd | apply Sel.tl | apply In.tl); exact rfl) | ((with_reducible apply v_loadn_box); exact rfl; (repeat first | exact .hd | apply Sel.tl | apply In.tl); exact rfl; exact rfl)))
    | ((with_reducible apply wl_storen_box); exact rfl; exact rfl; (repeat first | exact .hd | apply Sel.tl | apply In.tl); exact rfl; exact rfl; exact rfl)
    | ((with_reducible apply wl_putn_box); exact rfl; exact rfl; (repeat first | exact .hd | apply Sel.tl | apply In.tl); exact rfl; exact rfl; exact rfl; exact rfl)
    | (with_reducible first | apply wl_nil | apply thn_n | apply w_seq | apply w_region | apply w_ret | apply w_skip | apply w_exit | apply w_block | apply thn_r | apply thn_e | apply blk_n | apply blk_r | apply blk_e)
    | ((with_reducible apply w_cond_true); exact rfl)
    | ((with_reducible apply w_cond_false); exact rfl)
    | ((with_reducible apply w_cond) <;> first | exact rfl | (intro hb; (replace hb := Tidy.out hb; try (exfalso; omega))))
    | ((with_reducible apply blk_x); exact rfl))
  · have e : i = (vs.length : Int) := by omega
    subst e
    refine ret0 (.inr rfl) Try.results57 (H' := .own A 3 1 kids.length cap (intsV kids) :: .box g6 27 [sl A kids.length cap] :: .box g3 3 [.int .i64 (vs.length : Int)] :: F) (by (repeat (first | exact MSub.nil _ | refine MSub.pick (by (repeat first | exact .hd | apply Sel.tl | apply In.tl)) ?_ | exact MSub.refl _ | refine MSub.drop .hd ?_))) ⟨_, ⟨A, cap, rfl⟩, ?_⟩
    rw [kidsAt_hit]
    exact .refl _
  · refine ret0 (.inr rfl) Try.results57 (.drop .hd (.refl _)) ⟨_, ⟨A0, cap0, rfl⟩, ?_⟩
    rw [kidsAt_miss _ _ _ (by omega)]
    exact .refl _

/-- Kids: what is found, and the error. -/
def kidsE (L : List Nd) (i : Int) : List Nat × Int :=
  if checkE L ≠ 0 then ([], checkE L) else if i < 0 ∨ (L.length : Int) ≤ i then ([], 3) else (kidsAt (checkT L false).2 i, 0)
theorem Kids_at (L : List Nd) (i : Int) (tv : Value) (w : World) (ht : Reads w tv L.length (L.flatMap encN)) :
    FnAt Try.prog 20 [tv, .int .i64 i] w fun v H => ∃ A cap, v = .tuple #[sl A (kidsE L i).1.length cap, .int .i64 (kidsE L i).2] ∧ H = [.own A 3 1 (kidsE L i).1.length cap (intsV (kidsE L i).1)] := by
  have ht' := ht
  obtain ⟨At, ct, rfl, ht1, ht2, ht3⟩ := ht
  refine fn_at Try.func20 rfl Try.ntmps20 rfl ?_
  have hw := fun g3 g6 => check_in L false _ w ht' 57 [.pointer (some ⟨g3, 0, none⟩), .pointer (some ⟨g6, 0, none⟩)] _ (visits_kids L.length w g3 g6 i) [.own none 3 1 0 0 [], .box g6 27 [.slice none 0 0], .box g3 3 [.int .i64 i]] ⟨none, 0, by rw [show kidsAt [] i = [] by unfold kidsAt; split <;> rfl]; rfl⟩
  unfold kidsE checkE
  generalize checkT L false = r at hw
  repeat' (first
    | ((refine wl_nilrow 3 1 ?_); (with_reducible apply wl_callin); exact rfl; exact rfl; exact hw _ _; (rintro v H' ⟨rfl, A, cap, rfl⟩; refine wl_nilrow 3 1 ?_))
    | ((with_reducible apply wl_v); exact rfl; (first | ((with_reducible apply vop_ok); exact rfl) | ((with_reducible apply v_len); exact rfl) | ((with_reducible apply v_lens); exact rfl) | ((with_reducible apply v_makeFunc); exact rfl) | ((with_reducible apply v_load_box); exact rfl; (repeat first | exact .hd | apply Sel.tl | apply In.tl); exact rfl) | ((with_reducible apply v_eqlb); exact rfl; exact rfl) | ((with_reducible apply v_neqb); exact rfl; exact rfl) | ((with_reducible apply v_loadw_box); exact rfl; (repeat first | exact .hd | apply Sel.tl | apply In.tl); exact rfl) | ((with_reducible apply v_loadn_box); exact rfl; (repeat first | exact .hd | apply Sel.tl | apply In.tl); exact rfl; exact rfl)))
    | ((with_reducible apply wl_gyes); exact rfl; exact rfl)
    | ((with_reducible apply wl_gno_b); exact rfl; exact rfl; exact rfl; exact rfl)
    | ((with_reducible apply wl_gno_u); exact rfl; exact rfl; exact rfl)
    | ((with_reducible apply wl_boxs); exact rfl; exact rfl; intro _)
    | ((with_reducible apply wl_box1); exact rfl; exact rfl; exact rfl; intro _)
    | ((with_reducible apply wl_alloc); exact rfl; intro _)
    | ((with_reducible apply wl_gsplit) <;> first | exact rfl | (intro hb; (replace hb := Tidy.out hb; try (exfalso; omega))))
    | (with_reducible first | apply wl_nil | apply thn_n | apply w_seq | apply w_region | apply w_ret | apply w_skip | apply w_exit | apply w_block | apply thn_r | apply thn_e | apply blk_n | apply blk_r | apply blk_e)
    | ((with_reducible apply w_cond_true); exact rfl)
    | ((with_reducible apply w_cond_false); exact rfl)
    | ((with_reducible apply w_cond) <;> first | exact rfl | (intro hb; (replace hb := Tidy.out hb; try (exfalso; omega))))
    | ((with_reducible apply blk_x); exact rfl))
  · refine ret2 (.inl rfl) Try.results20 rfl rfl (H' := [.own none 3 1 0 0 []]) (by (repeat (first | exact MSub.nil _ | refine MSub.pick (by (repeat first | exact .hd | apply Sel.tl | apply In.tl)) ?_ | exact MSub.refl _ | refine MSub.drop .hd ?_))) ⟨none, 0, ?_⟩
    rw [if_pos hb]
    exact ⟨rfl, rfl⟩
  · refine ret2 (.inl rfl) Try.results20 rfl rfl (H' := [.own none 3 1 0 0 []]) (by (repeat (first | exact MSub.nil _ | refine MSub.pick (by (repeat first | exact .hd | apply Sel.tl | apply In.tl)) ?_ | exact MSub.refl _ | refine MSub.drop .hd ?_))) ⟨none, 0, ?_⟩
    rw [if_neg (by omega), if_pos (by omega)]
    exact ⟨rfl, rfl⟩
  · refine ret2 (.inl rfl) Try.results20 rfl rfl (H' := [.own none 3 1 0 0 []]) (by (repeat (first | exact MSub.nil _ | refine MSub.pick (by (repeat first | exact .hd | apply Sel.tl | apply In.tl)) ?_ | exact MSub.refl _ | refine MSub.drop .hd ?_))) ⟨none, 0, ?_⟩
    rw [if_neg (by omega), if_pos (by omega)]
    exact ⟨rfl, rfl⟩
  · refine ret2 (.inl rfl) Try.results20 rfl rfl (H' := [.own A 3 1 (kidsAt r.2 i).length cap (intsV (kidsAt r.2 i))]) (by (repeat (first | exact MSub.nil _ | refine MSub.pick (by (repeat first | exact .hd | apply Sel.tl | apply In.tl)) ?_ | exact MSub.refl _ | refine MSub.drop .hd ?_))) ⟨A, cap, ?_⟩
    rw [if_neg (by omega), if_neg (by omega)]
    exact ⟨rfl, rfl⟩
end Go.SL

/-
  What Sub of package tree returns.
-/
namespace Go.SL
open Go Go.Proofs
attribute [local irreducible] W WL WQ WG WA VOp thn blk retP FnAt FnIn

/-- Where the tree below each node starts, by the visits so far. -/
def startStep (a : List Nat) (x : Visit × Nat) : List Nat := a.set x.2 (match x.1.1 with | [] => x.2 | k :: _ => a.getD k 0)
def starts (N : Nat) (vs : List Visit) : List Nat := vs.zipIdx.foldl startStep (List.replicate N 0)
theorem starts_snoc (N : Nat) (vs : List Visit) (x : Visit) : starts N (vs ++ [x]) = startStep (starts N vs) (x, vs.length) := by
  simp [starts, List.zipIdx_append]
theorem starts_length (N : Nat) (vs : List Visit) : (starts N vs).length = N := by
  have : ∀ (l : List (Visit × Nat)) (a : List Nat), (l.foldl startStep a).length = a.length := by
    intro l
    induction l with
    | nil => intro a; rfl
    | cons x r ih => intro a; rw [List.foldl_cons, ih]; simp [startStep]
  rw [starts, this, List.length_replicate]

theorem intsV_length (ks : List Nat) : (intsV ks).length = ks.length := by simp [intsV]
theorem intsV_get {ks : List Nat} {i : Nat} (h : i < ks.length) : (intsV ks)[i]? = some (.int .i64 (ks[i] : Int)) := by simp [intsV, h]
theorem intsV_set (ks : List Nat) (i v : Nat) : (intsV ks).set i (.int .i64 (v : Int)) = intsV (ks.set i v) := by simp [intsV, List.map_set]

def SubInv (N g : Nat) (vs : List Visit) (H : List Blk) : Prop :=
  (∀ j, (starts N vs).getD j 0 ≤ j) ∧ ∃ gb, H = [.own (some gb) 3 1 N N (intsV (starts N vs)), .box g 27 [sl (some gb) N N]]

theorem starts_le {N : Nat} {vs : List Visit} {x : Visit} (h : ∀ j, (starts N vs).getD j 0 ≤ j) (hk : ∀ k ∈ x.1, k < vs.length) (j : Nat) : (starts N (vs ++ [x])).getD j 0 ≤ j := by
  rw [starts_snoc, startStep]
  by_cases e : vs.length = j
  · subst e
    by_cases hl : vs.length < (starts N vs).length
    · rw [List.getD_eq_getElem?_getD, List.getElem?_set_self hl]
      simp only [Option.getD_some]
      split
      · exact Nat.le_refl _
      · rename_i k r hx
        have h1 := hk k (by rw [hx]; exact List.mem_cons_self)
        have h2 := h k
        omega
    · rw [List.getD_eq_getElem?_getD, List.getElem?_eq_none (by simp; omega)]
      exact Nat.zero_le _
  · rw [List.getD_eq_getElem?_getD, List.getElem?_set_ne e, ← List.getD_eq_getElem?_getD]
    exact h j

set_option maxRecDepth 20000 in
theorem visits_sub (N : Nat) (w0 : World) (g : Nat) : Visits N w0 60 [.pointer (some ⟨g, 0, none⟩)] (SubInv N g) := by
  rintro vs kids d A cap _ F ⟨hle, gb, rfl⟩ _ hlt hk
  refine fn_in Try.func60 rfl Try.ntmps60 rfl ?_
  have hsl := starts_length N vs
  generalize hst : starts N vs = st at hsl
  have he : (intsV st).set (0 + vs.length * 1) (.int .i64 (vs.length : Int)) = intsV (st.set vs.length vs.length) := by rw [← intsV_set]; simp
  cases kids with
  | nil =>
    repeat' (first
      | ((with_reducible apply wl_v); exact rfl; (with_reducible apply v_indexAddr); exact rfl; exact rfl; exact hlt)
      | ((with_reducible apply wl_store_own); exact rfl; exact rfl; (repeat first | exact .hd | apply Sel.tl | apply In.tl); exact rfl; (rw [intsV_length]; omega); rw [he])
      | ((with_reducible apply wl_v); exact rfl; (first | ((with_reducible apply vop_ok); exact rfl) | ((with_reducible apply v_len); exact rfl) | ((with_reducible apply v_lens); exact rfl) | ((with_reducible apply v_load_box); exact rfl; (repeat first | exact .hd | apply Sel.tl | apply In.tl); exact rfl) | ((with_reducible apply v_loadw_box); exact rfl; (repeat first | exact .hd | apply Sel.tl | apply In.tl); exact rfl) | ((with_reducible apply v_loadn_box); exact rfl; (repeat first | exact .hd | apply Sel.tl | apply In.tl); exact rfl; exact rfl)))
      | ((with_reducible apply wl_storen_box); exact rfl; exact rfl; (repeat first | exact .hd | apply Sel.tl | apply In.tl); exact rfl; exact rfl; exact rfl)
      | ((with_reducible apply wl_putn_box); exact rfl; exact rfl; (repeat first | exact .hd | apply Sel.tl | apply In.tl); exact rfl; exact rfl; exact rfl; exact rfl)
      | (with_reducible first | apply wl_nil | apply thn_n | apply w_seq | apply w_region | apply w_ret | apply w_skip | apply w_exit | apply w_block | apply thn_r | apply thn_e | apply blk_n | apply blk_r | apply blk_e)
      | ((with_reducible apply w_cond_true); exact rfl)
      | ((with_reducible apply w_cond_false); exact rfl)
      | ((with_reducible apply w_cond) <;> first | exact rfl | (intro hb; (replace hb := Tidy.out hb; try (exfalso; omega))))
      | ((with_reducible apply blk_x); exact rfl))
    refine ret0 (.inr rfl) Try.results60 (H' := .own (some gb) 3 1 N N (intsV (st.set vs.length vs.length)) :: .box g 27 [sl (some gb) N N] :: F) (by (repeat (first | exact MSub.nil _ | refine MSub.pick (by (repeat first | exact .hd | apply Sel.tl | apply In.tl)) ?_ | exact MSub.refl _ | refine MSub.drop .hd ?_))) ⟨[.own (some gb) 3 1 N N (intsV (starts N (vs ++ [([], d)]))), .box g 27 [sl (some gb) N N]], ⟨starts_le hle hk, gb, rfl⟩, ?_⟩
    rw [starts_snoc, hst]
    exact .refl _
  | cons k0 kr =>
    have hk0 : k0 < vs.length := hk k0 (by simp)
    have hg : (intsV (st.set vs.length vs.length))[0 + k0 * 1]? = some (.int .i64 ((st.getD k0 0 : Nat) : Int)) := by
      rw [show 0 + k0 * 1 = k0 by omega, intsV_get (by simp; omega)]
      simp [show vs.length ≠ k0 by omega, show k0 < st.length by omega]
    have he2 : (intsV (st.set vs.length vs.length)).set (0 + vs.length * 1) (.int .i64 ((st.getD k0 0 : Nat) : Int)) = intsV (st.set vs.length (st.getD k0 0)) := by
      rw [show 0 + vs.length * 1 = vs.length by omega, intsV_set, List.set_set]
    repeat' (first
      | ((with_reducible apply wl_v); exact rfl; (with_reducible apply v_indexAddr); exact rfl; exact rfl; exact hlt)
      | ((with_reducible apply wl_store_own); exact rfl; exact rfl; (repeat first | exact .hd | apply Sel.tl | apply In.tl); exact rfl; (rw [intsV_length]; omega); rw [he])
      | ((with_reducible apply wl_v); exact rfl; (first | ((with_reducible apply vop_ok); exact rfl) | ((with_reducible apply v_len); exact rfl) | ((with_reducible apply v_lens); exact rfl) | ((with_reducible apply v_load_box); exact rfl; (repeat first | exact .hd | apply Sel.tl | apply In.tl); exact rfl) | ((with_reducible apply v_loadw_box); exact rfl; (repeat first | exact .hd | apply Sel.tl | apply In.tl); exact rfl) | ((with_reducible apply v_loadn_box); exact rfl; (repeat first | exact .hd | apply Sel.tl | apply In.tl); exact rfl; exact rfl)))
      | ((with_reducible apply wl_storen_box); exact rfl; exact rfl; (repeat first | exact .hd | apply Sel.tl | apply In.tl); exact rfl; exact rfl; exact rfl)
      | ((with_reducible apply wl_putn_box); exact rfl; exact rfl; (repeat first | exact .hd | apply Sel.tl | apply In.tl); exact rfl; exact rfl; exact rfl; exact rfl)
      | (with_reducible first | apply wl_nil | apply thn_n | apply w_seq | apply w_region | apply w_ret | apply w_skip | apply w_exit | apply w_block | apply thn_r | apply thn_e | apply blk_n | apply blk_r | apply blk_e)
      | ((with_reducible apply w_cond_true); exact rfl)
      | ((with_reducible apply w_cond_false); exact rfl)
      | ((with_reducible apply w_cond) <;> first | exact rfl | (intro hb; (replace hb := Tidy.out hb; try (exfalso; omega))))
      | ((with_reducible apply blk_x); exact rfl))
    · refine w_some (.tl .hd) (by simp) fun ga hA => ?_
      subst hA
      refine w_drawL 9 (.own (some gb) 3 1 N N (intsV (st.set vs.length (st.getD k0 0))) :: .own (some ga) 3 1 (k0 :: kr).length cap (intsV (k0 :: kr)) :: .box g 27 [sl (some gb) N N] :: F) (by kernel_rfl) (by kernel_rfl) rfl ?_
      repeat' (first
        | ((with_reducible apply wg_l (f := 60)); exact rfl; decide +kernel; exact rfl; (with_reducible apply v_indexAddr (j := 0)); exact rfl; exact rfl; exact Nat.succ_pos _)
        | ((with_reducible apply wg_l (f := 60)); exact rfl; decide +kernel; exact rfl; (with_reducible apply v_indexAddr (j := vs.length)); exact rfl; exact rfl; exact hlt)
        | ((with_reducible apply wg_l (f := 60)); exact rfl; decide +kernel; exact rfl; (with_reducible apply v_indexAddr (j := k0)); exact rfl; exact rfl; omega)
        | ((with_reducible apply wg_l (f := 60)); exact rfl; decide +kernel; exact rfl; (with_reducible apply v_load_own); exact rfl; (repeat first | exact .hd | apply Sel.tl | apply In.tl); first | exact rfl | exact hg)
        | ((with_reducible apply wg_lset_own); exact rfl; exact rfl; (repeat first | exact .hd | apply Sel.tl | apply In.tl); exact rfl; (rw [intsV_length]; simp; omega); (rw [he2]; (repeat (first | exact MSub.nil _ | refine MSub.pick (by (repeat first | exact .hd | apply Sel.tl | apply In.tl)) ?_ | exact MSub.refl _ | refine MSub.drop .hd ?_))))
        | ((with_reducible apply wl_v); exact rfl; (first | ((with_reducible apply vop_ok); exact rfl) | ((with_reducible apply v_len); exact rfl) | ((with_reducible apply v_lens); exact rfl) | ((with_reducible apply v_load_box); exact rfl; (repeat first | exact .hd | apply Sel.tl | apply In.tl); exact rfl) | ((with_reducible apply v_loadw_box); exact rfl; (repeat first | exact .hd | apply Sel.tl | apply In.tl); exact rfl) | ((with_reducible apply v_loadn_box); exact rfl; (repeat first | exact .hd | apply Sel.tl | apply In.tl); exact rfl; exact rfl)))
        | ((with_reducible apply wl_storen_box); exact rfl; exact rfl; (repeat first | exact .hd | apply Sel.tl | apply In.tl); exact rfl; exact rfl; exact rfl)
        | ((with_reducible apply wl_putn_box); exact rfl; exact rfl; (repeat first | exact .hd | apply Sel.tl | apply In.tl); exact rfl; exact rfl; exact rfl; exact rfl)
        | (with_reducible first | apply wl_nil | apply thn_n | apply w_seq | apply w_region | apply w_ret | apply w_skip | apply w_exit | apply w_block | apply thn_r | apply thn_e | apply blk_n | apply blk_r | apply blk_e | apply wg_nil)
        | ((with_reducible apply w_cond_true); exact rfl)
        | ((with_reducible apply w_cond_false); exact rfl)
        | ((with_reducible apply w_cond) <;> first | exact rfl | (intro hb; (replace hb := Tidy.out hb; try (exfalso; omega))))
        | ((with_reducible apply blk_x); exact rfl)
        | ((with_reducible apply wg_v); exact rfl; (intro D ht; (first | ((with_reducible apply vop_ok); exact rfl) | ((with_reducible apply v_len); exact rfl) | ((with_reducible apply v_lens); exact rfl) | ((with_reducible apply v_load_box); exact rfl; (repeat first | exact .hd | apply Sel.tl | apply In.tl); exact rfl) | ((with_reducible apply v_loadw_box); exact rfl; (repeat first | exact .hd | apply Sel.tl | apply In.tl); exact rfl) | ((with_reducible apply v_loadn_box); exact rfl; (repeat first | exact .hd | apply Sel.tl | apply In.tl); exact rfl; exact rfl))); exact fun _ => rfl)
        | (refine wg_put _ _ rfl rfl (fun D => .hd) rfl rfl rfl (fun _ => Nat.le_of_ble_eq_true rfl) (fun D ht => .refl _) ?_)
        | ((with_reducible apply wg_l (f := 60)); exact rfl; decide +kernel; exact rfl; (first | ((with_reducible apply vop_ok); exact rfl) | ((with_reducible apply v_len); exact rfl) | ((with_reducible apply v_lens); exact rfl) | ((with_reducible apply v_load_box); exact rfl; (repeat first | exact .hd | apply Sel.tl | apply In.tl); exact rfl) | ((with_reducible apply v_loadw_box); exact rfl; (repeat first | exact .hd | apply Sel.tl | apply In.tl); exact rfl) | ((with_reducible apply v_loadn_box); exact rfl; (repeat first | exact .hd | apply Sel.tl | apply In.tl); exact rfl; exact rfl))))
      refine ret0 (.inr rfl) Try.results60 (H' := .own (some gb) 3 1 N N (intsV (st.set vs.length (st.getD k0 0))) :: .box g 27 [sl (some gb) N N] :: F) (by (repeat (first | exact MSub.nil _ | refine MSub.pick (by (repeat first | exact .hd | apply Sel.tl | apply In.tl)) ?_ | exact MSub.refl _ | refine MSub.drop .hd ?_))) ?_
      refine ⟨[.own (some gb) 3 1 N N (intsV (starts N (vs ++ [(k0 :: kr, d)]))), .box g 27 [sl (some gb) N N]], ⟨starts_le hle hk, gb, rfl⟩, ?_⟩
      rw [starts_snoc, hst]
      exact .refl _
    · exfalso
      rw [List.length_cons] at hb
      omega

/-! ### slices.Clone -/

theorem encNs_one (L : List Nd) : ∀ u ∈ L.flatMap encN, u.oneCell' = true := by
  intro u hu
  obtain ⟨n, _, h⟩ := List.mem_flatMap.1 hu
  simp only [encN, List.mem_cons, List.not_mem_nil, or_false] at h
  rcases h with rfl | rfl | rfl | rfl | rfl | rfl | rfl | rfl | rfl | rfl | rfl <;> rfl

set_option maxRecDepth 20000 in
theorem Clone_at (L : List Nd) (tv : Value) (w : World) (ht : Reads w tv L.length (L.flatMap encN)) (hlen : L.length ≤ 1000000) :
    FnAt Try.prog 61 [tv] w fun v H => ∃ A cap, v = sl A L.length cap ∧ H = [.own A 40 11 L.length cap (L.flatMap encN)] := by
  have ht' := ht
  obtain ⟨At, ct, rfl, ht1, ht2, ht3⟩ := ht
  refine fn_at Try.func61 rfl Try.ntmps61 rfl ?_
  have hl : (L.flatMap encN).length = L.length * 11 := flat_length' encN_len L
  refine w_nilrow 40 11 ?_
  repeat' (first
    | ((with_reducible apply wl_v); exact rfl; (with_reducible apply v_eqlnil); exact rfl)
    | ((with_reducible apply wl_buildSlice0); exact rfl; intro gb)
    | ((with_reducible apply wl_appendR (n' := 0) (c := 0) (A := some _) (m := L.length)); exact rfl; exact rfl; exact rfl; (repeat first | exact .hd | apply Sel.tl | apply In.tl); (intro w hm; exact ht'.of_w0 hm); exact hl; exact encNs_one L; omega; (simp only [maxLen]; omega); intro A' cap' hA)
    | ((with_reducible apply wl_v); exact rfl; (first | ((with_reducible apply vop_ok); exact rfl) | ((with_reducible apply v_eqlb); exact rfl; exact rfl) | ((with_reducible apply v_neqb); exact rfl; exact rfl)))
    | ((with_reducible apply wl_buildSlice); exact rfl; exact rfl; exact rfl; exact rfl; exact rfl; exact rfl; exact rfl; intro _)
    | (with_reducible first | apply wl_nil | apply thn_n | apply w_seq | apply w_region | apply w_ret | apply w_skip | apply w_exit | apply w_block | apply thn_r | apply thn_e | apply blk_n | apply blk_r | apply blk_e)
    | ((with_reducible apply w_cond_true); exact rfl)
    | ((with_reducible apply w_cond_false); exact rfl)
    | ((with_reducible apply w_cond) <;> first | exact rfl | (intro hb; (replace hb := Tidy.out hb; try (exfalso; omega))))
    | ((with_reducible apply blk_x); exact rfl))
  · have e : L.length = 0 := by
      rcases Nat.eq_zero_or_pos L.length with h | h
      · exact h
      · obtain ⟨g, o, rfl, _⟩ := ht3 h
        cases hb
    have e' : L = [] := List.eq_nil_of_length_eq_zero e
    subst e'
    exact ret1 (.inl rfl) Try.results61 rfl (.refl _) ⟨none, 0, rfl, rfl⟩
  · exact ret1 (.inl rfl) Try.results61 rfl (H' := [.own A' 40 11 (0 + L.length) cap' ([] ++ L.flatMap encN)]) (by (repeat (first | exact MSub.nil _ | refine MSub.pick (by (repeat first | exact .hd | apply Sel.tl | apply In.tl)) ?_ | exact MSub.refl _ | refine MSub.drop .hd ?_))) ⟨A', cap', by rw [Nat.zero_add], by rw [Nat.zero_add]; rfl⟩

/-- Sub: the tree below a node, and the error. -/
def subE (L : List Nd) (i : Int) : List Nd × Int :=
  if checkE L ≠ 0 then ([], checkE L) else if i < 0 ∨ (L.length : Int) ≤ i then ([], 3)
  else ((L.take (i.toNat + 1)).drop ((starts L.length (checkT L false).2).getD i.toNat 0), 0)

theorem zeros_eq (N : Nat) : ((List.range (N * 1)).map fun i => [Value.int .i64 0][i % [Value.int .i64 0].length]!) = intsV (starts N []) := by
  apply List.ext_getElem
  · simp [intsV, starts]
  · intro i h1 h2
    simp [intsV, starts, Nat.mod_one]

set_option maxRecDepth 20000 in
theorem Sub_at (L : List Nd) (i : Int) (tv : Value) (w : World) (ht : Reads w tv L.length (L.flatMap encN)) (hlen : L.length ≤ 1000000) :
    FnAt Try.prog 22 [tv, .int .i64 i] w fun v H => ∃ A cap, v = .tuple #[sl A (subE L i).1.length cap, .int .i64 (subE L i).2] ∧ H = [.own A 40 11 (subE L i).1.length cap ((subE L i).1.flatMap encN)] := by
  have ht' := ht
  obtain ⟨At, ct, rfl, ht1, ht2, ht3⟩ := ht
  refine fn_at Try.func22 rfl Try.ntmps22 rfl ?_
  have hz := zeros_eq L.length
  have hw := fun g gb => check_in L false _ w ht' 60 [.pointer (some ⟨g, 0, none⟩)] _ (visits_sub L.length w g) [.own (some gb) 3 1 L.length L.length (intsV (starts L.length [])), .box g 27 [sl (some gb) L.length L.length]] ⟨fun j => by
    simp only [starts, List.zipIdx_nil, List.foldl_nil, List.getD_eq_getElem?_getD, List.getElem?_replicate]
    split <;> simp, gb, rfl⟩
  unfold subE checkE
  generalize checkT L false = r at hw
  repeat' (first
    | ((with_reducible apply wl_makeSlice (c := L.length)); exact rfl; exact rfl; exact rfl; omega; (simp only [maxLen]; omega); (intro gb; rw [hz]))
    | ((with_reducible apply wl_callin); exact rfl; exact rfl; (refine (hw _ gb).msub ?_; (repeat (first | exact MSub.nil _ | refine MSub.pick (by (repeat first | exact .hd | apply Sel.tl | apply In.tl)) ?_ | exact MSub.refl _ | refine MSub.drop .hd ?_))); (rintro v H' ⟨rfl, hle, gb2, rfl⟩; refine wl_nilrow 40 11 ?_))
    | ((with_reducible apply wl_v); exact rfl; (first | ((with_reducible apply vop_ok); exact rfl) | ((with_reducible apply v_len); exact rfl) | ((with_reducible apply v_lens); exact rfl) | ((with_reducible apply v_makeFunc); exact rfl) | ((with_reducible apply v_load_box); exact rfl; (repeat first | exact .hd | apply Sel.tl | apply In.tl); exact rfl) | ((with_reducible apply v_eqlb); exact rfl; exact rfl) | ((with_reducible apply v_neqb); exact rfl; exact rfl) | ((with_reducible apply v_loadw_box); exact rfl; (repeat first | exact .hd | apply Sel.tl | apply In.tl); exact rfl) | ((with_reducible apply v_loadn_box); exact rfl; (repeat first | exact .hd | apply Sel.tl | apply In.tl); exact rfl; exact rfl)))
    | ((with_reducible apply wl_gyes); exact rfl; exact rfl)
    | ((with_reducible apply wl_gno_b); exact rfl; exact rfl; exact rfl; exact rfl)
    | ((with_reducible apply wl_gno_u); exact rfl; exact rfl; exact rfl)
    | ((with_reducible apply wl_alloc); exact rfl; intro _)
    | ((with_reducible apply wl_storen_box); exact rfl; exact rfl; (repeat first | exact .hd | apply Sel.tl | apply In.tl); exact rfl; exact rfl; exact rfl)
    | ((with_reducible apply wl_putn_box); exact rfl; exact rfl; (repeat first | exact .hd | apply Sel.tl | apply In.tl); exact rfl; exact rfl; exact rfl; exact rfl)
    | ((with_reducible apply wl_gsplit) <;> first | exact rfl | (intro hb; (replace hb := Tidy.out hb; try (exfalso; omega))))
    | (with_reducible first | apply wl_nil | apply thn_n | apply w_seq | apply w_region | apply w_ret | apply w_skip | apply w_exit | apply w_block | apply thn_r | apply thn_e | apply blk_n | apply blk_r | apply blk_e)
    | ((with_reducible apply w_cond_true); exact rfl)
    | ((with_reducible apply w_cond_false); exact rfl)
    | ((with_reducible apply w_cond) <;> first | exact rfl | (intro hb; (replace hb := Tidy.out hb; try (exfalso; omega))))
    | ((with_reducible apply blk_x); exact rfl))
  · refine ret2 (.inl rfl) Try.results22 rfl rfl (H' := [.own none 40 11 0 0 []]) (by (repeat (first | exact MSub.nil _ | refine MSub.pick (by (repeat first | exact .hd | apply Sel.tl | apply In.tl)) ?_ | exact MSub.refl _ | refine MSub.drop .hd ?_))) ⟨none, 0, ?_⟩
    rw [if_pos hb]
    exact ⟨rfl, rfl⟩
  · refine ret2 (.inl rfl) Try.results22 rfl rfl (H' := [.own none 40 11 0 0 []]) (by (repeat (first | exact MSub.nil _ | refine MSub.pick (by (repeat first | exact .hd | apply Sel.tl | apply In.tl)) ?_ | exact MSub.refl _ | refine MSub.drop .hd ?_))) ⟨none, 0, ?_⟩
    rw [if_neg (by omega), if_pos (by omega)]
    exact ⟨rfl, rfl⟩
  · refine ret2 (.inl rfl) Try.results22 rfl rfl (H' := [.own none 40 11 0 0 []]) (by (repeat (first | exact MSub.nil _ | refine MSub.pick (by (repeat first | exact .hd | apply Sel.tl | apply In.tl)) ?_ | exact MSub.refl _ | refine MSub.drop .hd ?_))) ⟨none, 0, ?_⟩
    rw [if_neg (by omega), if_pos (by omega)]
    exact ⟨rfl, rfl⟩
  · obtain ⟨j, rfl⟩ := Int.eq_ofNat_of_zero_le (by omega : 0 ≤ i)
    have hj : j < L.length := by omega
    rw [if_neg (by omega), if_neg (by omega), Int.toNat_natCast]
    generalize hst : starts L.length r.2 = st at hle
    have hstl : st.length = L.length := by rw [← hst]; exact starts_length _ _
    have hlo := hle j
    have hg : (intsV st)[0 + j * 1]? = some (.int .i64 ((st.getD j 0 : Nat) : Int)) := by
      rw [show 0 + j * 1 = j by omega, intsV_get (by omega)]
      simp [show j < st.length by omega]
    generalize st.getD j 0 = lo at hlo hg
    have hcut := ht'.cut (lo := lo) (hi := j + 1) (sz := 11) (by omega) (by omega)
    have hl1 : ((L.take (j + 1)).drop lo).length = j + 1 - lo := by simp; omega
    have hl2 : ((L.flatMap encN).drop (lo * 11)).take ((j + 1 - lo) * 11) = ((L.take (j + 1)).drop lo).flatMap encN := by
      rw [flat_drop encN_len, flat_take encN_len, List.drop_take]
    rw [hl2, ← hl1] at hcut
    have hcl := fun (w' : World) (H : List Blk) (hm : Mem w w' H) => Clone_at _ _ w' (hcut.of_w0 hm) (by rw [hl1]; omega)
    rw [hl1] at hcl
    repeat' (first
      | ((with_reducible apply wl_v); exact rfl; (with_reducible apply v_indexAddr (j := j)); exact rfl; exact rfl; exact hj)
      | ((with_reducible apply wl_v); exact rfl; (with_reducible apply v_load_own); exact rfl; (repeat first | exact .hd | apply Sel.tl | apply In.tl); exact hg)
      | ((with_reducible apply wl_v); exact rfl; (with_reducible apply v_succN); exact rfl; exact rfl; (simp only [maxLen]; omega))
      | ((with_reducible apply wl_v); exact rfl; (with_reducible apply v_slice (lo := lo) (hi := j + 1)); exact rfl; exact ⟨_, rfl⟩; exact ⟨_, rfl⟩; omega; omega)
      | ((with_reducible apply wl_call); exact rfl; exact rfl; (intro w' hm; exact hcl w' _ hm); (rintro v H' ⟨A, cap, rfl, rfl⟩))
      | ((with_reducible apply wl_v); exact rfl; (first | ((with_reducible apply vop_ok); exact rfl) | ((with_reducible apply v_len); exact rfl) | ((with_reducible apply v_lens); exact rfl) | ((with_reducible apply v_makeFunc); exact rfl) | ((with_reducible apply v_load_box); exact rfl; (repeat first | exact .hd | apply Sel.tl | apply In.tl); exact rfl) | ((with_reducible apply v_eqlb); exact rfl; exact rfl) | ((with_reducible apply v_neqb); exact rfl; exact rfl) | ((with_reducible apply v_loadw_box); exact rfl; (repeat first | exact .hd | apply Sel.tl | apply In.tl); exact rfl) | ((with_reducible apply v_loadn_box); exact rfl; (repeat first | exact .hd | apply Sel.tl | apply In.tl); exact rfl; exact rfl)))
      | ((with_reducible apply wl_gyes); exact rfl; exact rfl)
      | ((with_reducible apply wl_gno_b); exact rfl; exact rfl; exact rfl; exact rfl)
      | ((with_reducible apply wl_gno_u); exact rfl; exact rfl; exact rfl)
      | ((with_reducible apply wl_alloc); exact rfl; intro _)
      | ((with_reducible apply wl_storen_box); exact rfl; exact rfl; (repeat first | exact .hd | apply Sel.tl | apply In.tl); exact rfl; exact rfl; exact rfl)
      | ((with_reducible apply wl_putn_box); exact rfl; exact rfl; (repeat first | exact .hd | apply Sel.tl | apply In.tl); exact rfl; exact rfl; exact rfl; exact rfl)
      | ((with_reducible apply wl_gsplit) <;> first | exact rfl | (intro hb; (replace hb := Tidy.out hb; try (exfalso; omega))))
      | (with_reducible first | apply wl_nil | apply thn_n | apply w_seq | apply w_region | apply w_ret | apply w_skip | apply w_exit | apply w_block | apply thn_r | apply thn_e | apply blk_n | apply blk_r | apply blk_e)
      | ((with_reducible apply w_cond_true); exact rfl)
      | ((with_reducible apply w_cond_false); exact rfl)
      | ((with_reducible apply w_cond) <;> first | exact rfl | (intro hb; (replace hb := Tidy.out hb; try (exfalso; omega))))
      | ((with_reducible apply blk_x); exact rfl))
    exact ret2 (.inl rfl) Try.results22 rfl rfl (H' := [.own A 40 11 (j + 1 - lo) cap (((L.take (j + 1)).drop lo).flatMap encN)]) (by (repeat (first | exact MSub.nil _ | refine MSub.pick (by (repeat first | exact .hd | apply Sel.tl | apply In.tl)) ?_ | exact MSub.refl _ | refine MSub.drop .hd ?_))) ⟨A, cap, by rw [hl1], by rw [hl1]⟩
end Go.SL

/-
  The comparisons of slices, and the copy.
-/
namespace Go.SL
open Go Go.Proofs
attribute [local irreducible] W WL WQ WG WA VOp thn blk retP FnAt FnIn

instance : DecidableEq Nd := fun a b => decidable_of_iff (eqN a b = true) eqN_iff
theorem eqN_dec (a b : Nd) : eqN a b = decide (a = b) := by
  cases h : eqN a b
  · symm; rw [decide_eq_false_iff_not, ← eqN_iff, h]; simp
  · symm; rw [decide_eq_true_eq, ← eqN_iff, h]

theorem eq_drop {α : Type} [DecidableEq α] {L M : List α} {i : Nat} (h1 : i < L.length) (h2 : i < M.length) : decide (L.drop i = M.drop i) = (decide (L[i] = M[i]) && decide (L.drop (i + 1) = M.drop (i + 1))) := by
  rw [List.drop_eq_getElem_cons h1, List.drop_eq_getElem_cons h2]
  simp only [List.cons.injEq, Bool.decide_and]

set_option maxRecDepth 20000 in
theorem EqualTree_at (L M : List Nd) (lv mv : Value) (w : World) (hl : Reads w lv L.length (L.flatMap encN)) (hm : Reads w mv M.length (M.flatMap encN)) :
    Pure Try.prog 27 [lv, mv] w (.bool (decide (L = M))) := by
  obtain ⟨Al, cl, rfl, hl1, hl2, hl3⟩ := hl
  obtain ⟨Am, cm, rfl, hm1, hm2, hm3⟩ := hm
  refine fn_at Try.func27 rfl Try.ntmps27 rfl ?_
  by_cases hlen : L.length = M.length
  · repeat' (first
      | ((with_reducible apply wl_v); exact rfl; (first | ((with_reducible apply vop_ok); exact rfl) | ((with_reducible apply v_len); exact rfl) | ((with_reducible apply v_lens); exact rfl) | ((with_reducible apply v_load_box); exact rfl; (repeat first | exact .hd | apply Sel.tl | apply In.tl); exact rfl) | ((with_reducible apply v_eqlb); exact rfl; exact rfl) | ((with_reducible apply v_neqb); exact rfl; exact rfl) | ((with_reducible apply v_loadw_box); exact rfl; (repeat first | exact .hd | apply Sel.tl | apply In.tl); exact rfl) | ((with_reducible apply v_loadn_box); exact rfl; (repeat first | exact .hd | apply Sel.tl | apply In.tl); exact rfl; exact rfl)))
      | (with_reducible first | apply wl_nil | apply thn_n | apply w_seq | apply w_region | apply w_ret | apply w_skip | apply w_exit | apply w_block | apply thn_r | apply thn_e | apply blk_n | apply blk_r | apply blk_e)
      | ((with_reducible apply w_cond_true); exact rfl)
      | ((with_reducible apply w_cond_false); exact rfl)
      | ((with_reducible apply w_cond) <;> first | exact rfl | (intro hb; (replace hb := Tidy.out hb; try (exfalso; omega))))
      | ((with_reducible apply blk_x); exact rfl))
    refine w_loop (fun i : Nat => [(0, .slice Al L.length cl), (1, .slice Am M.length cm), (5, .int .i64 (i : Int))]) (fun _ => []) (fun i => i ≤ L.length ∧ decide (L = M) = decide (L.drop i = M.drop i)) (fun i => L.length - i) 0 ⟨by omega, rfl⟩ ?_ ?_ ?_
    · (repeat (first | exact Sub.nil _ | refine Sub.cons rfl ?_))
    · (repeat (first | exact MSub.nil _ | refine MSub.pick (by (repeat first | exact .hd | apply Sel.tl | apply In.tl)) ?_ | exact MSub.refl _ | refine MSub.drop .hd ?_))
    · rintro i ⟨hi, hrec⟩
      by_cases hlt : i < L.length
      · have hlt2 : i < M.length := by omega
        obtain ⟨gl, ol, rfl, hrl⟩ := hl3 (by omega)
        obtain ⟨gm, om, rfl, hrm⟩ := hm3 (by omega)
        have he1 := hrl.elem encN_len i hlt
        have he2 := hrm.elem encN_len i hlt2
        rw [eq_drop hlt hlt2, ← eqN_dec] at hrec
        repeat' (first
          | ((with_reducible apply wq_v); exact rfl; (with_reducible apply v_indexAddr); exact rfl; exact rfl; (first | exact hlt | exact hlt2))
          | ((with_reducible apply wq_v); exact rfl; (with_reducible apply v_loadw_ro); exact rfl; (first | exact he1 | exact he2); exact rfl)
          | ((with_reducible apply wq_v); exact rfl; (with_reducible apply v_neqN); exact rfl; exact rfl)
          | ((with_reducible apply wl_v); exact rfl; (with_reducible apply v_succN); exact rfl; exact rfl; (simp only [maxLen] at *; omega))
          | ((with_reducible first | apply wl_v | apply wq_v); exact rfl; (first | ((with_reducible apply vop_ok); exact rfl) | ((with_reducible apply v_len); exact rfl) | ((with_reducible apply v_lens); exact rfl) | ((with_reducible apply v_load_box); exact rfl; (repeat first | exact .hd | apply Sel.tl | apply In.tl); exact rfl) | ((with_reducible apply v_eqlb); exact rfl; exact rfl) | ((with_reducible apply v_neqb); exact rfl; exact rfl) | ((with_reducible apply v_loadw_box); exact rfl; (repeat first | exact .hd | apply Sel.tl | apply In.tl); exact rfl) | ((with_reducible apply v_loadn_box); exact rfl; (repeat first | exact .hd | apply Sel.tl | apply In.tl); exact rfl; exact rfl)))
          | (with_reducible first | apply wl_nil | apply thn_n | apply w_seq | apply w_region | apply w_ret | apply w_skip | apply w_exit | apply w_block | apply thn_r | apply thn_e | apply blk_n | apply blk_r | apply blk_e | apply wq_nil)
          | ((with_reducible apply w_cond_true); exact rfl)
          | ((with_reducible apply w_cond_false); exact rfl)
          | ((with_reducible apply w_cond) <;> first | exact rfl | (intro hb; (replace hb := Tidy.out hb; try (exfalso; omega))))
          | ((with_reducible apply blk_x); exact rfl)
          | ((with_reducible apply w_draw); kernel_rfl; kernel_rfl))
        · ((with_reducible apply ret1); exact .inl rfl; exact rfl; exact rfl; exact MSub.nil _)
          rw [hrec, hb]
          rfl
        · refine ⟨i + 1, ⟨by omega, ?_⟩, by omega, ?_, ?_⟩
          · rw [hrec, hb]
            rfl
          · (repeat (first | exact Sub.nil _ | refine Sub.cons rfl ?_))
          · (repeat (first | exact MSub.nil _ | refine MSub.pick (by (repeat first | exact .hd | apply Sel.tl | apply In.tl)) ?_ | exact MSub.refl _ | refine MSub.drop .hd ?_))
      · have e : i = L.length := by omega
        subst e
        repeat' (first
          | ((with_reducible apply wl_v); exact rfl; (first | ((with_reducible apply vop_ok); exact rfl) | ((with_reducible apply v_len); exact rfl) | ((with_reducible apply v_lens); exact rfl) | ((with_reducible apply v_load_box); exact rfl; (repeat first | exact .hd | apply Sel.tl | apply In.tl); exact rfl) | ((with_reducible apply v_eqlb); exact rfl; exact rfl) | ((with_reducible apply v_neqb); exact rfl; exact rfl) | ((with_reducible apply v_loadw_box); exact rfl; (repeat first | exact .hd | apply Sel.tl | apply In.tl); exact rfl) | ((with_reducible apply v_loadn_box); exact rfl; (repeat first | exact .hd | apply Sel.tl | apply In.tl); exact rfl; exact rfl)))
          | (with_reducible first | apply wl_nil | apply thn_n | apply w_seq | apply w_region | apply w_ret | apply w_skip | apply w_exit | apply w_block | apply thn_r | apply thn_e | apply blk_n | apply blk_r | apply blk_e)
          | ((with_reducible apply w_cond_true); exact rfl)
          | ((with_reducible apply w_cond_false); exact rfl)
          | ((with_reducible apply w_cond) <;> first | exact rfl | (intro hb; (replace hb := Tidy.out hb; try (exfalso; omega))))
          | ((with_reducible apply blk_x); exact rfl))
        ((with_reducible apply ret1); exact .inl rfl; exact rfl; exact rfl; exact MSub.nil _)
        rw [hrec, List.drop_length, hlen, List.drop_length]
        rfl
  · repeat' (first
      | ((with_reducible apply wl_v); exact rfl; (first | ((with_reducible apply vop_ok); exact rfl) | ((with_reducible apply v_len); exact rfl) | ((with_reducible apply v_lens); exact rfl) | ((with_reducible apply v_load_box); exact rfl; (repeat first | exact .hd | apply Sel.tl | apply In.tl); exact rfl) | ((with_reducible apply v_eqlb); exact rfl; exact rfl) | ((with_reducible apply v_neqb); exact rfl; exact rfl) | ((with_reducible apply v_loadw_box); exact rfl; (repeat first | exact .hd | apply Sel.tl | apply In.tl); exact rfl) | ((with_reducible apply v_loadn_box); exact rfl; (repeat first | exact .hd | apply Sel.tl | apply In.tl); exact rfl; exact rfl)))
      | (with_reducible first | apply wl_nil | apply thn_n | apply w_seq | apply w_region | apply w_ret | apply w_skip | apply w_exit | apply w_block | apply thn_r | apply thn_e | apply blk_n | apply blk_r | apply blk_e)
      | ((with_reducible apply w_cond_true); exact rfl)
      | ((with_reducible apply w_cond_false); exact rfl)
      | ((with_reducible apply w_cond) <;> first | exact rfl | (intro hb; (replace hb := Tidy.out hb; try (exfalso; omega))))
      | ((with_reducible apply blk_x); exact rfl))
    ((with_reducible apply ret1); exact .inl rfl; exact rfl; exact rfl; exact MSub.nil _)
    rw [decide_eq_false]
    intro e
    exact hlen (congrArg List.length e)
set_option maxRecDepth 20000 in
theorem Equal_at (L M : List Nd) (lv mv : Value) (w : World) (hl : Reads w lv L.length (L.flatMap encN)) (hm : Reads w mv M.length (M.flatMap encN)) :
    Pure Try.prog 29 [lv, mv] w (.bool (decide (L = M))) := by
  obtain ⟨Al, cl, rfl, hl1, hl2, hl3⟩ := hl
  obtain ⟨Am, cm, rfl, hm1, hm2, hm3⟩ := hm
  refine fn_at Try.func29 rfl Try.ntmps29 rfl ?_
  by_cases hlen : L.length = M.length
  · repeat' (first
      | ((with_reducible apply wl_v); exact rfl; (first | ((with_reducible apply vop_ok); exact rfl) | ((with_reducible apply v_len); exact rfl) | ((with_reducible apply v_lens); exact rfl) | ((with_reducible apply v_load_box); exact rfl; (repeat first | exact .hd | apply Sel.tl | apply In.tl); exact rfl) | ((with_reducible apply v_eqlb); exact rfl; exact rfl) | ((with_reducible apply v_neqb); exact rfl; exact rfl) | ((with_reducible apply v_loadw_box); exact rfl; (repeat first | exact .hd | apply Sel.tl | apply In.tl); exact rfl) | ((with_reducible apply v_loadn_box); exact rfl; (repeat first | exact .hd | apply Sel.tl | apply In.tl); exact rfl; exact rfl)))
      | (with_reducible first | apply wl_nil | apply thn_n | apply w_seq | apply w_region | apply w_ret | apply w_skip | apply w_exit | apply w_block | apply thn_r | apply thn_e | apply blk_n | apply blk_r | apply blk_e)
      | ((with_reducible apply w_cond_true); exact rfl)
      | ((with_reducible apply w_cond_false); exact rfl)
      | ((with_reducible apply w_cond) <;> first | exact rfl | (intro hb; (replace hb := Tidy.out hb; try (exfalso; omega))))
      | ((with_reducible apply blk_x); exact rfl))
    refine w_loop (fun i : Nat => [(0, .slice Al L.length cl), (1, .slice Am M.length cm), (12, .int .i64 (L.length : Int)), (13, .int .i64 (i : Int))]) (fun _ => []) (fun i => i ≤ L.length ∧ decide (L = M) = decide (L.drop i = M.drop i)) (fun i => L.length - i) 0 ⟨by omega, rfl⟩ ?_ ?_ ?_
    · (repeat (first | exact Sub.nil _ | refine Sub.cons rfl ?_))
    · (repeat (first | exact MSub.nil _ | refine MSub.pick (by (repeat first | exact .hd | apply Sel.tl | apply In.tl)) ?_ | exact MSub.refl _ | refine MSub.drop .hd ?_))
    · rintro i ⟨hi, hrec⟩
      by_cases hlt : i < L.length
      · have hlt2 : i < M.length := by omega
        obtain ⟨gl, ol, rfl, hrl⟩ := hl3 (by omega)
        obtain ⟨gm, om, rfl, hrm⟩ := hm3 (by omega)
        have he1 := hrl.elem encN_len i hlt
        have he2 := hrm.elem encN_len i hlt2
        rw [eq_drop hlt hlt2, ← eqN_dec] at hrec
        repeat' (first
          | ((with_reducible apply wq_v); exact rfl; (with_reducible apply v_indexAddr); exact rfl; exact rfl; (first | exact hlt | exact hlt2))
          | ((with_reducible apply wq_v); exact rfl; (with_reducible apply v_loadw_ro); exact rfl; (first | exact he1 | exact he2); exact rfl)
          | ((with_reducible apply wq_v); exact rfl; (with_reducible apply v_neqN); exact rfl; exact rfl)
          | ((with_reducible apply wl_v); exact rfl; (with_reducible apply v_succN); exact rfl; exact rfl; (simp only [maxLen] at *; omega))
          | ((with_reducible first | apply wl_v | apply wq_v); exact rfl; (first | ((with_reducible apply vop_ok); exact rfl) | ((with_reducible apply v_len); exact rfl) | ((with_reducible apply v_lens); exact rfl) | ((with_reducible apply v_load_box); exact rfl; (repeat first | exact .hd | apply Sel.tl | apply In.tl); exact rfl) | ((with_reducible apply v_eqlb); exact rfl; exact rfl) | ((with_reducible apply v_neqb); exact rfl; exact rfl) | ((with_reducible apply v_loadw_box); exact rfl; (repeat first | exact .hd | apply Sel.tl | apply In.tl); exact rfl) | ((with_reducible apply v_loadn_box); exact rfl; (repeat first | exact .hd | apply Sel.tl | apply In.tl); exact rfl; exact rfl)))
          | (with_reducible first | apply wl_nil | apply thn_n | apply w_seq | apply w_region | apply w_ret | apply w_skip | apply w_exit | apply w_block | apply thn_r | apply thn_e | apply blk_n | apply blk_r | apply blk_e | apply wq_nil)
          | ((with_reducible apply w_cond_true); exact rfl)
          | ((with_reducible apply w_cond_false); exact rfl)
          | ((with_reducible apply w_cond) <;> first | exact rfl | (intro hb; (replace hb := Tidy.out hb; try (exfalso; omega))))
          | ((with_reducible apply blk_x); exact rfl)
          | ((with_reducible apply w_draw); kernel_rfl; kernel_rfl))
        · ((with_reducible apply ret1); exact .inl rfl; exact rfl; exact rfl; exact MSub.nil _)
          rw [hrec, hb]
          rfl
        · refine ⟨i + 1, ⟨by omega, ?_⟩, by omega, ?_, ?_⟩
          · rw [hrec, hb]
            rfl
          · (repeat (first | exact Sub.nil _ | refine Sub.cons rfl ?_))
          · (repeat (first | exact MSub.nil _ | refine MSub.pick (by (repeat first | exact .hd | apply Sel.tl | apply In.tl)) ?_ | exact MSub.refl _ | refine MSub.drop .hd ?_))
      · have e : i = L.length := by omega
        subst e
        repeat' (first
          | ((with_reducible apply wl_v); exact rfl; (first | ((with_reducible apply vop_ok); exact rfl) | ((with_reducible apply v_len); exact rfl) | ((with_reducible apply v_lens); exact rfl) | ((with_reducible apply v_load_box); exact rfl; (repeat first | exact .hd | apply Sel.tl | apply In.tl); exact rfl) | ((with_reducible apply v_eqlb); exact rfl; exact rfl) | ((with_reducible apply v_neqb); exact rfl; exact rfl) | ((with_reducible apply v_loadw_box); exact rfl; (repeat first | exact .hd | apply Sel.tl | apply In.tl); exact rfl) | ((with_reducible apply v_loadn_box); exact rfl; (repeat first | exact .hd | apply Sel.tl | apply In.tl); exact rfl; exact rfl)))
          | (with_reducible first | apply wl_nil | apply thn_n | apply w_seq | apply w_region | apply w_ret | apply w_skip | apply w_exit | apply w_block | apply thn_r | apply thn_e | apply blk_n | apply blk_r | apply blk_e)
          | ((with_reducible apply w_cond_true); exact rfl)
          | ((with_reducible apply w_cond_false); exact rfl)
          | ((with_reducible apply w_cond) <;> first | exact rfl | (intro hb; (replace hb := Tidy.out hb; try (exfalso; omega))))
          | ((with_reducible apply blk_x); exact rfl))
        ((with_reducible apply ret1); exact .inl rfl; exact rfl; exact rfl; exact MSub.nil _)
        rw [hrec, List.drop_length, hlen, List.drop_length]
        rfl
  · repeat' (first
      | ((with_reducible apply wl_v); exact rfl; (first | ((with_reducible apply vop_ok); exact rfl) | ((with_reducible apply v_len); exact rfl) | ((with_reducible apply v_lens); exact rfl) | ((with_reducible apply v_load_box); exact rfl; (repeat first | exact .hd | apply Sel.tl | apply In.tl); exact rfl) | ((with_reducible apply v_eqlb); exact rfl; exact rfl) | ((with_reducible apply v_neqb); exact rfl; exact rfl) | ((with_reducible apply v_loadw_box); exact rfl; (repeat first | exact .hd | apply Sel.tl | apply In.tl); exact rfl) | ((with_reducible apply v_loadn_box); exact rfl; (repeat first | exact .hd | apply Sel.tl | apply In.tl); exact rfl; exact rfl)))
      | (with_reducible first | apply wl_nil | apply thn_n | apply w_seq | apply w_region | apply w_ret | apply w_skip | apply w_exit | apply w_block | apply thn_r | apply thn_e | apply blk_n | apply blk_r | apply blk_e)
      | ((with_reducible apply w_cond_true); exact rfl)
      | ((with_reducible apply w_cond_false); exact rfl)
      | ((with_reducible apply w_cond) <;> first | exact rfl | (intro hb; (replace hb := Tidy.out hb; try (exfalso; omega))))
      | ((with_reducible apply blk_x); exact rfl))
    ((with_reducible apply ret1); exact .inl rfl; exact rfl; exact rfl; exact MSub.nil _)
    rw [decide_eq_false]
    intro e
    exact hlen (congrArg List.length e)
theorem Ro.cell1 {w : World} {g o : Nat} {L : List Int} (h : Ro w g o (L.map (Value.int .i64))) (i : Nat) (hi : i < L.length) : Ro w g (o + i * 1) [Value.int .i64 L[i]] := by
  have h1 := (h.drop (k := i)).take (k := 1)
  rw [← List.map_drop, ← List.map_take, List.drop_eq_getElem_cons hi] at h1
  rw [Nat.mul_one]
  exact h1
set_option maxRecDepth 20000 in
theorem EqualInts_at (L M : List Int) (lv mv : Value) (w : World) (hl : Reads w lv L.length (L.map (Value.int .i64))) (hm : Reads w mv M.length (M.map (Value.int .i64))) :
    Pure Try.prog 26 [lv, mv] w (.bool (decide (L = M))) := by
  obtain ⟨Al, cl, rfl, hl1, hl2, hl3⟩ := hl
  obtain ⟨Am, cm, rfl, hm1, hm2, hm3⟩ := hm
  refine fn_at Try.func26 rfl Try.ntmps26 rfl ?_
  by_cases hlen : L.length = M.length
  · repeat' (first
      | ((with_reducible apply wl_v); exact rfl; (first | ((with_reducible apply vop_ok); exact rfl) | ((with_reducible apply v_len); exact rfl) | ((with_reducible apply v_lens); exact rfl) | ((with_reducible apply v_load_box); exact rfl; (repeat first | exact .hd | apply Sel.tl | apply In.tl); exact rfl) | ((with_reducible apply v_eqlb); exact rfl; exact rfl) | ((with_reducible apply v_neqb); exact rfl; exact rfl) | ((with_reducible apply v_loadw_box); exact rfl; (repeat first | exact .hd | apply Sel.tl | apply In.tl); exact rfl) | ((with_reducible apply v_loadn_box); exact rfl; (repeat first | exact .hd | apply Sel.tl | apply In.tl); exact rfl; exact rfl)))
      | (with_reducible first | apply wl_nil | apply thn_n | apply w_seq | apply w_region | apply w_ret | apply w_skip | apply w_exit | apply w_block | apply thn_r | apply thn_e | apply blk_n | apply blk_r | apply blk_e)
      | ((with_reducible apply w_cond_true); exact rfl)
      | ((with_reducible apply w_cond_false); exact rfl)
      | ((with_reducible apply w_cond) <;> first | exact rfl | (intro hb; (replace hb := Tidy.out hb; try (exfalso; omega))))
      | ((with_reducible apply blk_x); exact rfl))
    refine w_loop (fun i : Nat => [(0, .slice Al L.length cl), (1, .slice Am M.length cm), (5, .int .i64 (i : Int))]) (fun _ => []) (fun i => i ≤ L.length ∧ decide (L = M) = decide (L.drop i = M.drop i)) (fun i => L.length - i) 0 ⟨by omega, rfl⟩ ?_ ?_ ?_
    · (repeat (first | exact Sub.nil _ | refine Sub.cons rfl ?_))
    · (repeat (first | exact MSub.nil _ | refine MSub.pick (by (repeat first | exact .hd | apply Sel.tl | apply In.tl)) ?_ | exact MSub.refl _ | refine MSub.drop .hd ?_))
    · rintro i ⟨hi, hrec⟩
      by_cases hlt : i < L.length
      · have hlt2 : i < M.length := by omega
        obtain ⟨gl, ol, rfl, hrl⟩ := hl3 (by omega)
        obtain ⟨gm, om, rfl, hrm⟩ := hm3 (by omega)
        have he1 := hrl.cell1 i hlt
        have he2 := hrm.cell1 i hlt2
        rw [eq_drop hlt hlt2] at hrec
        repeat' (first
          | ((with_reducible apply wq_v); exact rfl; (with_reducible apply v_indexAddr); exact rfl; exact rfl; (first | exact hlt | exact hlt2))
          | ((with_reducible apply wq_v); exact rfl; (with_reducible apply v_load1_ro); exact rfl; (first | exact he1 | exact he2))
          | ((with_reducible apply wl_v); exact rfl; (with_reducible apply v_succN); exact rfl; exact rfl; (simp only [maxLen] at *; omega))
          | ((with_reducible first | apply wl_v | apply wq_v); exact rfl; (first | ((with_reducible apply vop_ok); exact rfl) | ((with_reducible apply v_len); exact rfl) | ((with_reducible apply v_lens); exact rfl) | ((with_reducible apply v_load_box); exact rfl; (repeat first | exact .hd | apply Sel.tl | apply In.tl); exact rfl) | ((with_reducible apply v_eqlb); exact rfl; exact rfl) | ((with_reducible apply v_neqb); exact rfl; exact rfl) | ((with_reducible apply v_loadw_box); exact rfl; (repeat first | exact .hd | apply Sel.tl | apply In.tl); exact rfl) | ((with_reducible apply v_loadn_box); exact rfl; (repeat first | exact .hd | apply Sel.tl | apply In.tl); exact rfl; exact rfl)))
          | (with_reducible first | apply wl_nil | apply thn_n | apply w_seq | apply w_region | apply w_ret | apply w_skip | apply w_exit | apply w_block | apply thn_r | apply thn_e | apply blk_n | apply blk_r | apply blk_e | apply wq_nil)
          | ((with_reducible apply w_cond_true); exact rfl)
          | ((with_reducible apply w_cond_false); exact rfl)
          | ((with_reducible apply w_cond) <;> first | exact rfl | (intro hb; (replace hb := Tidy.out hb; try (exfalso; omega))))
          | ((with_reducible apply blk_x); exact rfl)
          | ((with_reducible apply w_draw); kernel_rfl; kernel_rfl))
        · ((with_reducible apply ret1); exact .inl rfl; exact rfl; exact rfl; exact MSub.nil _)
          rw [hrec, decide_eq_false hb]
          rfl
        · refine ⟨i + 1, ⟨by omega, ?_⟩, by omega, ?_, ?_⟩
          · rw [hrec, decide_eq_true (Decidable.not_not.1 hb)]
            rfl
          · (repeat (first | exact Sub.nil _ | refine Sub.cons rfl ?_))
          · (repeat (first | exact MSub.nil _ | refine MSub.pick (by (repeat first | exact .hd | apply Sel.tl | apply In.tl)) ?_ | exact MSub.refl _ | refine MSub.drop .hd ?_))
      · have e : i = L.length := by omega
        subst e
        repeat' (first
          | ((with_reducible apply wl_v); exact rfl; (first | ((with_reducible apply vop_ok); exact rfl) | ((with_reducible apply v_len); exact rfl) | ((with_reducible apply v_lens); exact rfl) | ((with_reducible apply v_load_box); exact rfl; (repeat first | exact .hd | apply Sel.tl | apply In.tl); exact rfl) | ((with_reducible apply v_eqlb); exact rfl; exact rfl) | ((with_reducible apply v_neqb); exact rfl; exact rfl) | ((with_reducible apply v_loadw_box); exact rfl; (repeat first | exact .hd | apply Sel.tl | apply In.tl); exact rfl) | ((with_reducible apply v_loadn_box); exact rfl; (repeat first | exact .hd | apply Sel.tl | apply In.tl); exact rfl; exact rfl)))
          | (with_reducible first | apply wl_nil | apply thn_n | apply w_seq | apply w_region | apply w_ret | apply w_skip | apply w_exit | apply w_block | apply thn_r | apply thn_e | apply blk_n | apply blk_r | apply blk_e)
          | ((with_reducible apply w_cond_true); exact rfl)
          | ((with_reducible apply w_cond_false); exact rfl)
          | ((with_reducible apply w_cond) <;> first | exact rfl | (intro hb; (replace hb := Tidy.out hb; try (exfalso; omega))))
          | ((with_reducible apply blk_x); exact rfl))
        ((with_reducible apply ret1); exact .inl rfl; exact rfl; exact rfl; exact MSub.nil _)
        rw [hrec, List.drop_length, hlen, List.drop_length]
        rfl
  · repeat' (first
      | ((with_reducible apply wl_v); exact rfl; (first | ((with_reducible apply vop_ok); exact rfl) | ((with_reducible apply v_len); exact rfl) | ((with_reducible apply v_lens); exact rfl) | ((with_reducible apply v_load_box); exact rfl; (repeat first | exact .hd | apply Sel.tl | apply In.tl); exact rfl) | ((with_reducible apply v_eqlb); exact rfl; exact rfl) | ((with_reducible apply v_neqb); exact rfl; exact rfl) | ((with_reducible apply v_loadw_box); exact rfl; (repeat first | exact .hd | apply Sel.tl | apply In.tl); exact rfl) | ((with_reducible apply v_loadn_box); exact rfl; (repeat first | exact .hd | apply Sel.tl | apply In.tl); exact rfl; exact rfl)))
      | (with_reducible first | apply wl_nil | apply thn_n | apply w_seq | apply w_region | apply w_ret | apply w_skip | apply w_exit | apply w_block | apply thn_r | apply thn_e | apply blk_n | apply blk_r | apply blk_e)
      | ((with_reducible apply w_cond_true); exact rfl)
      | ((with_reducible apply w_cond_false); exact rfl)
      | ((with_reducible apply w_cond) <;> first | exact rfl | (intro hb; (replace hb := Tidy.out hb; try (exfalso; omega))))
      | ((with_reducible apply blk_x); exact rfl))
    ((with_reducible apply ret1); exact .inl rfl; exact rfl; exact rfl; exact MSub.nil _)
    rw [decide_eq_false]
    intro e
    exact hlen (congrArg List.length e)

/-! ### The copies -/

set_option maxRecDepth 20000 in
theorem CopyTree_at (L : List Nd) (tv : Value) (w : World) (ht : Reads w tv L.length (L.flatMap encN)) (hlen : L.length ≤ 1000000) :
    FnAt Try.prog 53 [tv] w fun v H => ∃ A cap, (0 < L.length → ∃ g, A = some g) ∧ v = sl A L.length cap ∧ H = [.own A 40 11 L.length cap (L.flatMap encN)] := by
  refine fn_at Try.func53 rfl Try.ntmps53 rfl ?_
  have hl : (L.flatMap encN).length = L.length * 11 := flat_length' encN_len L
  refine w_nilrow 40 11 ?_
  repeat' (first
    | ((with_reducible apply wl_appendR (n' := 0) (c := 0) (A := none) (m := L.length)); exact rfl; exact rfl; exact rfl; (repeat first | exact .hd | apply Sel.tl | apply In.tl); (intro w hm; exact ht.of_w0 hm); exact hl; exact encNs_one L; omega; (simp only [maxLen]; omega); intro A' cap' hA)
    | ((with_reducible apply wl_v); exact rfl; (first | ((with_reducible apply vop_ok); exact rfl)))
    | (with_reducible first | apply wl_nil | apply thn_n | apply w_seq | apply w_region | apply w_ret | apply w_skip | apply w_exit | apply w_block | apply thn_r | apply thn_e | apply blk_n | apply blk_r | apply blk_e)
    | ((with_reducible apply w_cond_true); exact rfl)
    | ((with_reducible apply w_cond_false); exact rfl)
    | ((with_reducible apply w_cond) <;> first | exact rfl | (intro hb; (replace hb := Tidy.out hb; try (exfalso; omega))))
    | ((with_reducible apply blk_x); exact rfl))
  exact ret1 (.inl rfl) Try.results53 rfl (H' := [.own A' 40 11 (0 + L.length) cap' ([] ++ L.flatMap encN)]) (by (repeat (first | exact MSub.nil _ | refine MSub.pick (by (repeat first | exact .hd | apply Sel.tl | apply In.tl)) ?_ | exact MSub.refl _ | refine MSub.drop .hd ?_))) ⟨A', cap', hA, by rw [Nat.zero_add], by rw [Nat.zero_add]; rfl⟩

def cut300 (b : ByteArray) : ByteArray := b.extract 0 (min b.size 300)
def fewN (n : Nd) : Nd := { n with v := { n.v with text := cut300 n.v.text } }
/-- Few: at most 300 nodes, with texts of at most 300 bytes. -/
def fewT (L : List Nd) : List Nd := (L.take 300).map fewN

set_option maxRecDepth 20000 in
theorem Few_at (L : List Nd) (tv : Value) (w : World) (ht : Reads w tv L.length (L.flatMap encN)) :
    FnAt Try.prog 17 [tv] w fun v H => ∃ A cap, v = sl A (fewT L).length cap ∧ H = [.own A 40 11 (fewT L).length cap ((fewT L).flatMap encN)] := by
  have ht' := ht
  obtain ⟨At, ct, rfl, ht1, ht2, ht3⟩ := ht
  refine fn_at Try.func17 rfl Try.ntmps17 rfl ?_
  have hcut := ht'.cut (lo := 0) (hi := min L.length 300) (sz := 11) (by omega) (by omega)
  generalize hm : min L.length 300 = m at hcut
  have hm2 : m ≤ 300 := by omega
  have hmL : m ≤ L.length := by omega
  have hl1 : (L.take m).length = m := by simp; omega
  have hl2 : ((L.flatMap encN).drop (0 * 11)).take ((m - 0) * 11) = (L.take m).flatMap encN := by
    rw [Nat.zero_mul, List.drop_zero, Nat.sub_zero, flat_take encN_len]
  rw [hl2, Nat.sub_zero] at hcut
  have hcl := fun (w' : World) (H : List Blk) (hm : Mem w w' H) => CopyTree_at (L.take m) _ w' (by rw [hl1]; exact hcut.of_w0 hm) (by rw [hl1]; omega)
  have hfew : fewT L = (L.take m).map fewN := by
    unfold fewT
    rcases Nat.lt_or_ge L.length 300 with h | h
    · rw [List.take_of_length_le (by omega), List.take_of_length_le (by omega)]
    · rw [show m = 300 by omega]
  rw [hfew]
  generalize L.take m = M at hl1 hcl
  rw [hl1] at hcl
  repeat' (first
    | ((with_reducible apply wl_v); exact rfl; (with_reducible apply v_minN (a := L.length) (b := 300)); exact rfl; exact rfl; exact hm)
    | ((with_reducible apply wl_v); exact rfl; (with_reducible apply v_slice (lo := 0) (hi := m)); exact rfl; exact rfl; exact ⟨_, rfl⟩; omega; omega)
    | ((with_reducible apply wl_call); exact rfl; exact rfl; (intro w' hm; exact hcl w' _ hm); (rintro v H' ⟨A, cap, hA, rfl, rfl⟩))
    | ((with_reducible apply wl_v); exact rfl; (first | ((with_reducible apply vop_ok); exact rfl) | ((with_reducible apply v_fieldAddr); exact rfl) | ((with_reducible apply v_len); exact rfl) | ((with_reducible apply v_lens); exact rfl) | ((with_reducible apply v_load_box); exact rfl; (repeat first | exact .hd | apply Sel.tl | apply In.tl); exact rfl) | ((with_reducible apply v_min); exact rfl; exact rfl) | ((with_reducible apply v_loadw_box); exact rfl; (repeat first | exact .hd | apply Sel.tl | apply In.tl); exact rfl) | ((with_reducible apply v_loadn_box); exact rfl; (repeat first | exact .hd | apply Sel.tl | apply In.tl); exact rfl; exact rfl)))
    | ((with_reducible apply wl_storen_box); exact rfl; exact rfl; (repeat first | exact .hd | apply Sel.tl | apply In.tl); exact rfl; exact rfl; exact rfl)
    | ((with_reducible apply wl_putn_box); exact rfl; exact rfl; (repeat first | exact .hd | apply Sel.tl | apply In.tl); exact rfl; exact rfl; exact rfl; exact rfl)
    | (with_reducible first | apply wl_nil | apply thn_n | apply w_seq | apply w_region | apply w_ret | apply w_skip | apply w_exit | apply w_block | apply thn_r | apply thn_e | apply blk_n | apply blk_r | apply blk_e)
    | ((with_reducible apply w_cond_true); exact rfl)
    | ((with_reducible apply w_cond_false); exact rfl)
    | ((with_reducible apply w_cond) <;> first | exact rfl | (intro hb; (replace hb := Tidy.out hb; try (exfalso; omega))))
    | ((with_reducible apply blk_x); exact rfl))
  refine w_loop (fun i : Nat => [(3, sl A m cap), (4, .int .i64 (i : Int))]) (fun i => [.own A 40 11 m cap (((M.take i).map fewN ++ M.drop i).flatMap encN)]) (fun i => i ≤ m) (fun i => m - i) 0 (by omega) ?_ ?_ ?_
  · (repeat (first | exact Sub.nil _ | refine Sub.cons rfl ?_))
  · (repeat (first | exact MSub.nil _ | refine MSub.pick (by (repeat first | exact .hd | apply Sel.tl | apply In.tl)) ?_ | exact MSub.refl _ | refine MSub.drop .hd ?_))
  · rintro i hi
    by_cases hlt : i < m
    · obtain ⟨g, rfl⟩ := hA (by omega)
      have hlt' : i < M.length := by omega
      have hls : ((M.take i).map fewN ++ M.drop i).length = m := by simp; omega
      have hel : ((M.take i).map fewN ++ M.drop i)[i]? = some M[i] := by
        rw [List.getElem?_append_right (by simp; omega)]
        simp [show min i M.length = i by omega, hlt']
      have hnext : ((M.take i).map fewN ++ M.drop i).set i (fewN M[i]) = (M.take (i + 1)).map fewN ++ M.drop (i + 1) := by
        apply List.ext_getElem?
        intro j
        rw [List.getElem?_set]
        by_cases e : i = j
        · subst e
          rw [if_pos rfl, if_pos (by omega), List.getElem?_append_left (by simp; omega)]
          simp [hlt']
        · rw [if_neg e]
          rcases Nat.lt_or_ge j i with h | h
          · rw [List.getElem?_append_left (by simp; omega), List.getElem?_append_left (by simp; omega)]
            simp [show j < i by omega, show j < i + 1 by omega]
          · rw [List.getElem?_append_right (by simp; omega), List.getElem?_append_right (by simp; omega)]
            simp only [List.length_map, List.length_take, List.getElem?_drop]
            congr 1
            omega
      generalize (M.take i).map fewN ++ M.drop i = T at hls hel hnext
      have hti : i < T.length := by omega
      have hc : (T.flatMap encN)[0 + i * 11 + 1 + 2]? = some (.string M[i].v.text) := by
        rw [show 0 + i * 11 + 1 + 2 = i * 11 + 3 by omega, flat_cell encN_len T i 3 hti (by omega)]
        have : T[i] = M[i] := by
          have := List.getElem?_eq_getElem hti
          rw [hel] at this
          injection this with this
          exact this.symm
        rw [this]
        rfl
      have hs : (T.flatMap encN).set (0 + i * 11 + 1 + 2) (.string (cut300 M[i].v.text)) = ((M.take (i + 1)).map fewN ++ M.drop (i + 1)).flatMap encN := by
        have hTi : T[i] = M[i] := by
          have := List.getElem?_eq_getElem hti
          rw [hel] at this
          injection this with this
          exact this.symm
        rw [← hnext, ← flat_set encN_len T i hti]
        have hfl : (T.flatMap encN).length = T.length * 11 := flat_length' encN_len T
        have hlen3 : 0 + i * 11 + 1 + 2 < (T.flatMap encN).length := by omega
        rw [List.set_eq_take_append_cons_drop, if_pos hlen3]
        have hsplit := List.take_append_drop (i * 11) (T.flatMap encN)
        have hel2 : ((T.flatMap encN).drop (i * 11)) = encN M[i] ++ (T.flatMap encN).drop (i * 11 + 11) := by
          have h1 := flat_elem encN_len T i hti
          rw [hTi] at h1
          rw [← h1, ← List.drop_drop, List.take_append_drop]
        have h3 : (T.flatMap encN).take (0 + i * 11 + 1 + 2) = (T.flatMap encN).take (i * 11) ++ (encN M[i]).take 3 := by
          rw [show 0 + i * 11 + 1 + 2 = i * 11 + 3 by omega, List.take_add, hel2, List.take_append_of_le_length (by rw [encN_len]; omega)]
        have h4 : (T.flatMap encN).drop (0 + i * 11 + 1 + 2 + 1) = (encN M[i]).drop 4 ++ (T.flatMap encN).drop (i * 11 + 11) := by
          rw [show 0 + i * 11 + 1 + 2 + 1 = i * 11 + 4 by omega, ← List.drop_drop, hel2, List.drop_append_of_le_length (by rw [encN_len]; omega)]
        rw [h3, h4]
        simp [encN, fewN]
      repeat' (first
        | ((with_reducible apply wl_v); exact rfl; (first | ((with_reducible apply vop_ok); exact rfl) | ((with_reducible apply v_fieldAddr); exact rfl) | ((with_reducible apply v_len); exact rfl) | ((with_reducible apply v_lens); exact rfl) | ((with_reducible apply v_load_box); exact rfl; (repeat first | exact .hd | apply Sel.tl | apply In.tl); exact rfl) | ((with_reducible apply v_min); exact rfl; exact rfl) | ((with_reducible apply v_loadw_box); exact rfl; (repeat first | exact .hd | apply Sel.tl | apply In.tl); exact rfl) | ((with_reducible apply v_loadn_box); exact rfl; (repeat first | exact .hd | apply Sel.tl | apply In.tl); exact rfl; exact rfl)))
        | ((with_reducible apply wl_storen_box); exact rfl; exact rfl; (repeat first | exact .hd | apply Sel.tl | apply In.tl); exact rfl; exact rfl; exact rfl)
        | ((with_reducible apply wl_putn_box); exact rfl; exact rfl; (repeat first | exact .hd | apply Sel.tl | apply In.tl); exact rfl; exact rfl; exact rfl; exact rfl)
        | (with_reducible first | apply wl_nil | apply thn_n | apply w_seq | apply w_region | apply w_ret | apply w_skip | apply w_exit | apply w_block | apply thn_r | apply thn_e | apply blk_n | apply blk_r | apply blk_e)
        | ((with_reducible apply w_cond_true); exact rfl)
        | ((with_reducible apply w_cond_false); exact rfl)
        | ((with_reducible apply w_cond) <;> first | exact rfl | (intro hb; (replace hb := Tidy.out hb; try (exfalso; omega))))
        | ((with_reducible apply blk_x); exact rfl))
      refine w_drawL 20 (.own (some g) 40 11 m cap (((M.take (i + 1)).map fewN ++ M.drop (i + 1)).flatMap encN) :: []) (by kernel_rfl) (by kernel_rfl) rfl ?_
      repeat' (first
        | ((with_reducible apply wg_l (f := 60)); exact rfl; decide +kernel; exact rfl; (with_reducible apply v_indexAddr (j := i)); exact rfl; exact rfl; exact hlt)
        | ((with_reducible apply wg_l (f := 60)); exact rfl; decide +kernel; exact rfl; (with_reducible apply v_load_own); exact rfl; (repeat first | exact .hd | apply Sel.tl | apply In.tl); exact hc)
        | ((with_reducible apply wg_l (f := 60)); exact rfl; decide +kernel; exact rfl; (with_reducible apply v_minN (a := M[i].v.text.size) (b := 300)); exact rfl; exact rfl; exact rfl)
        | ((with_reducible apply wg_l (f := 60)); exact rfl; decide +kernel; exact rfl; (with_reducible apply v_cut_str); exact rfl; exact rfl; omega)
        | ((with_reducible apply wg_lset_own); exact rfl; exact rfl; (repeat first | exact .hd | apply Sel.tl | apply In.tl); exact rfl; (rw [flat_length' encN_len]; omega); (exact hs ▸ .refl _))
        | ((with_reducible apply wl_v); exact rfl; (with_reducible apply v_succN); exact rfl; exact rfl; (simp only [maxLen]; omega))
        | ((with_reducible apply wl_v); exact rfl; (first | ((with_reducible apply vop_ok); exact rfl) | ((with_reducible apply v_fieldAddr); exact rfl) | ((with_reducible apply v_len); exact rfl) | ((with_reducible apply v_lens); exact rfl) | ((with_reducible apply v_load_box); exact rfl; (repeat first | exact .hd | apply Sel.tl | apply In.tl); exact rfl) | ((with_reducible apply v_min); exact rfl; exact rfl) | ((with_reducible apply v_loadw_box); exact rfl; (repeat first | exact .hd | apply Sel.tl | apply In.tl); exact rfl) | ((with_reducible apply v_loadn_box); exact rfl; (repeat first | exact .hd | apply Sel.tl | apply In.tl); exact rfl; exact rfl)))
        | ((with_reducible apply wl_storen_box); exact rfl; exact rfl; (repeat first | exact .hd | apply Sel.tl | apply In.tl); exact rfl; exact rfl; exact rfl)
        | ((with_reducible apply wl_putn_box); exact rfl; exact rfl; (repeat first | exact .hd | apply Sel.tl | apply In.tl); exact rfl; exact rfl; exact rfl; exact rfl)
        | (with_reducible first | apply wl_nil | apply thn_n | apply w_seq | apply w_region | apply w_ret | apply w_skip | apply w_exit | apply w_block | apply thn_r | apply thn_e | apply blk_n | apply blk_r | apply blk_e | apply wg_nil)
        | ((with_reducible apply w_cond_true); exact rfl)
        | ((with_reducible apply w_cond_false); exact rfl)
        | ((with_reducible apply w_cond) <;> first | exact rfl | (intro hb; (replace hb := Tidy.out hb; try (exfalso; omega))))
        | ((with_reducible apply blk_x); exact rfl)
        | ((with_reducible apply wg_v); exact rfl; (intro D ht; (first | ((with_reducible apply vop_ok); exact rfl) | ((with_reducible apply v_fieldAddr); exact rfl) | ((with_reducible apply v_len); exact rfl) | ((with_reducible apply v_lens); exact rfl) | ((with_reducible apply v_load_box); exact rfl; (repeat first | exact .hd | apply Sel.tl | apply In.tl); exact rfl) | ((with_reducible apply v_min); exact rfl; exact rfl) | ((with_reducible apply v_loadw_box); exact rfl; (repeat first | exact .hd | apply Sel.tl | apply In.tl); exact rfl) | ((with_reducible apply v_loadn_box); exact rfl; (repeat first | exact .hd | apply Sel.tl | apply In.tl); exact rfl; exact rfl))); exact fun _ => rfl)
        | (refine wg_put _ _ rfl rfl (fun D => .hd) rfl rfl rfl (fun _ => Nat.le_of_ble_eq_true rfl) (fun D ht => .refl _) ?_)
        | ((with_reducible apply wg_l (f := 60)); exact rfl; decide +kernel; exact rfl; (first | ((with_reducible apply vop_ok); exact rfl) | ((with_reducible apply v_fieldAddr); exact rfl) | ((with_reducible apply v_len); exact rfl) | ((with_reducible apply v_lens); exact rfl) | ((with_reducible apply v_load_box); exact rfl; (repeat first | exact .hd | apply Sel.tl | apply In.tl); exact rfl) | ((with_reducible apply v_min); exact rfl; exact rfl) | ((with_reducible apply v_loadw_box); exact rfl; (repeat first | exact .hd | apply Sel.tl | apply In.tl); exact rfl) | ((with_reducible apply v_loadn_box); exact rfl; (repeat first | exact .hd | apply Sel.tl | apply In.tl); exact rfl; exact rfl))))
      refine ⟨i + 1, hlt, by omega, ?_, ?_⟩
      · (repeat (first | exact Sub.nil _ | refine Sub.cons rfl ?_))
      · (repeat (first | exact MSub.nil _ | refine MSub.pick (by (repeat first | exact .hd | apply Sel.tl | apply In.tl)) ?_ | exact MSub.refl _ | refine MSub.drop .hd ?_))
    · have e : i = m := by omega
      subst e
      repeat' (first
        | ((with_reducible apply wl_v); exact rfl; (first | ((with_reducible apply vop_ok); exact rfl) | ((with_reducible apply v_fieldAddr); exact rfl) | ((with_reducible apply v_len); exact rfl) | ((with_reducible apply v_lens); exact rfl) | ((with_reducible apply v_load_box); exact rfl; (repeat first | exact .hd | apply Sel.tl | apply In.tl); exact rfl) | ((with_reducible apply v_min); exact rfl; exact rfl) | ((with_reducible apply v_loadw_box); exact rfl; (repeat first | exact .hd | apply Sel.tl | apply In.tl); exact rfl) | ((with_reducible apply v_loadn_box); exact rfl; (repeat first | exact .hd | apply Sel.tl | apply In.tl); exact rfl; exact rfl)))
        | ((with_reducible apply wl_storen_box); exact rfl; exact rfl; (repeat first | exact .hd | apply Sel.tl | apply In.tl); exact rfl; exact rfl; exact rfl)
        | ((with_reducible apply wl_putn_box); exact rfl; exact rfl; (repeat first | exact .hd | apply Sel.tl | apply In.tl); exact rfl; exact rfl; exact rfl; exact rfl)
        | (with_reducible first | apply wl_nil | apply thn_n | apply w_seq | apply w_region | apply w_ret | apply w_skip | apply w_exit | apply w_block | apply thn_r | apply thn_e | apply blk_n | apply blk_r | apply blk_e)
        | ((with_reducible apply w_cond_true); exact rfl)
        | ((with_reducible apply w_cond_false); exact rfl)
        | ((with_reducible apply w_cond) <;> first | exact rfl | (intro hb; (replace hb := Tidy.out hb; try (exfalso; omega))))
        | ((with_reducible apply blk_x); exact rfl))
      have he : (M.take i).map fewN ++ M.drop i = M.map fewN := by
        rw [List.take_of_length_le (by omega), List.drop_of_length_le (by omega), List.append_nil]
      have hl3 : (M.map fewN).length = i := by rw [List.length_map]; exact hl1
      rw [he]
      exact ret1 (.inl rfl) Try.results17 rfl (.refl _) ⟨A, cap, by rw [hl3], by rw [hl3]⟩
end Go.SL

/-
  law08.awake returns true; TreeEquals returns true.
-/
namespace Go.SL
open Go Go.Proofs
attribute [local irreducible] W WL WQ WG WA VOp thn blk retP FnAt FnIn

def k1 : Nd := ⟨1, ⟨1, 50000, emptyB⟩, zeroR, 0, 0, 0⟩
def k2 : Nd := ⟨2, zeroV, ⟨1, 1, 1, 1⟩, 0, 0, 0⟩
def k3 : Nd := ⟨3, zeroV, ⟨1, 1, 2, 2⟩, 0, 0, 0⟩
def k6 : Nd := ⟨6, zeroV, zeroR, 1, 0, 0⟩
def k7 : Nd := ⟨7, zeroV, zeroR, 0, 9, 2⟩
def j7 : Nd := ⟨7, zeroV, zeroR, 0, 46, 1⟩

theorem Reads.of_row {w0 w : World} {H : List Blk} {g t sz m c : Nat} {xs : List Value} (hm : Mem w0 w H) (hi : In (.own (some g) t sz m c xs) H) : Reads w (.slice (some ⟨g, 0, none⟩) m c) m xs := Reads.of_own hm hi
theorem aw_depth : depthE [k2, k1, k6] = (2, 0) := by decide +kernel
theorem aw_kids : kidsE [k3, k1, k7] 2 = ([0, 1], 0) := by decide +kernel
theorem aw_sub : subE [k3, k1, k7] 0 = ([k3], 0) := by decide +kernel
theorem aw_c1 : checkE [k3, k1, k7] = 0 := by decide +kernel
theorem aw_c2 : checkE [k3] = 4 := by decide +kernel
theorem aw_c3 : checkE [k1, j7] = 4 := by decide +kernel
theorem aw_c4 : checkE [k2, j7] = 0 := by decide +kernel
theorem aw_ar : arity 20 = (2, 3, 0) := by decide +kernel
theorem aw_depth' (w : World) (tv : Value) (h : Reads w tv ([k2, k1, k6] : List Nd).length (([k2, k1, k6] : List Nd).flatMap encN)) : Pure Try.prog 18 [tv] w (.tuple #[.int .i64 2, .int .i64 0]) := by
  have := Depth_at [k2, k1, k6] tv w h
  rw [aw_depth] at this
  exact this
theorem aw_kids' (w : World) (tv : Value) (h : Reads w tv ([k3, k1, k7] : List Nd).length (([k3, k1, k7] : List Nd).flatMap encN)) : FnAt Try.prog 20 [tv, .int .i64 2] w fun v H => ∃ A cap, v = .tuple #[sl A 2 cap, .int .i64 0] ∧ H = [.own A 3 1 2 cap ([0, 1].map (Value.int .i64))] := by
  have := Kids_at [k3, k1, k7] 2 tv w h
  rw [aw_kids] at this
  exact this
theorem aw_sub' (w : World) (tv : Value) (h : Reads w tv ([k3, k1, k7] : List Nd).length (([k3, k1, k7] : List Nd).flatMap encN)) : FnAt Try.prog 22 [tv, .int .i64 0] w fun v H => ∃ A cap, v = .tuple #[sl A 1 cap, .int .i64 0] ∧ H = [.own A 40 11 1 cap ([k3].flatMap encN)] := by
  have := Sub_at [k3, k1, k7] 0 tv w h (by decide)
  rw [aw_sub] at this
  exact this
theorem aw_c1' (w : World) (tv : Value) (h : Reads w tv ([k3, k1, k7] : List Nd).length (([k3, k1, k7] : List Nd).flatMap encN)) : Pure Try.prog 24 [tv] w (.int .i64 0) := aw_c1 ▸ Check_at [k3, k1, k7] tv w h
theorem aw_c2' (w : World) (tv : Value) (h : Reads w tv ([k3] : List Nd).length (([k3] : List Nd).flatMap encN)) : Pure Try.prog 24 [tv] w (.int .i64 4) := aw_c2 ▸ Check_at [k3] tv w h
theorem aw_c3' (w : World) (tv : Value) (h : Reads w tv ([k1, j7] : List Nd).length (([k1, j7] : List Nd).flatMap encN)) : Pure Try.prog 24 [tv] w (.int .i64 4) := aw_c3 ▸ Check_at [k1, j7] tv w h
theorem aw_c4' (w : World) (tv : Value) (h : Reads w tv ([k2, j7] : List Nd).length (([k2, j7] : List Nd).flatMap encN)) : Pure Try.prog 24 [tv] w (.int .i64 0) := aw_c4 ▸ Check_at [k2, j7] tv w h
theorem aw_ar' (w : World) : Pure Try.prog 33 [.int .u8 20] w (.tuple #[.int .i64 2, .int .i64 3, .int .i64 0]) := by
  have := arity_at 20 w
  rw [aw_ar] at this
  exact this
theorem aw_eqi (w : World) (a b : Value) (h1 : Reads w a 2 ([0, 1].map (Value.int .i64))) (h2 : Reads w b 2 ([0, 1].map (Value.int .i64))) : Pure Try.prog 26 [a, b] w (.bool true) := EqualInts_at [0, 1] [0, 1] a b w h1 h2
theorem aw_eqt (w : World) (a b : Value) (h1 : Reads w a 1 ([k3].flatMap encN)) (h2 : Reads w b 1 ([k3].flatMap encN)) : Pure Try.prog 27 [a, b] w (.bool true) := by
  have := EqualTree_at [k3] [k3] a b w h1 h2
  rw [decide_eq_true rfl] at this
  exact this

set_option maxRecDepth 20000 in
set_option maxHeartbeats 4000000 in
theorem awake_at (w : World) : Pure Try.prog 28 [] w (.bool true) := by
  refine fn_at Try.func28 rfl Try.ntmps28 rfl ?_
  repeat' (first
    | ((with_reducible apply wl_callp); exact rfl; exact rfl; (intro w' hm; exact aw_depth' w' _ (Reads.of_row hm (by (repeat first | exact .hd | apply Sel.tl | apply In.tl)))))
    | ((with_reducible apply wl_call); exact rfl; exact rfl; (intro w' hm; exact aw_kids' w' _ (Reads.of_row hm (by (repeat first | exact .hd | apply Sel.tl | apply In.tl)))); (rintro v H' ⟨A, cap, rfl, rfl⟩))
    | ((with_reducible apply wl_call); exact rfl; exact rfl; (intro w' hm; exact aw_sub' w' _ (Reads.of_row hm (by (repeat first | exact .hd | apply Sel.tl | apply In.tl)))); (rintro v H' ⟨A2, cap2, rfl, rfl⟩))
    | ((with_reducible apply wl_callp); exact rfl; exact rfl; (intro w' hm; exact aw_ar' w'))
    | ((with_reducible apply wl_callp); exact rfl; exact rfl; (intro w' hm; exact aw_eqi w' _ _ (Reads.of_own hm (by (repeat first | exact .hd | apply Sel.tl | apply In.tl))) (Reads.of_row hm (by (repeat first | exact .hd | apply Sel.tl | apply In.tl)))))
    | ((with_reducible apply wl_callp); exact rfl; exact rfl; (intro w' hm; exact aw_eqt w' _ _ (Reads.of_own hm (by (repeat first | exact .hd | apply Sel.tl | apply In.tl))) (Reads.of_row hm (by (repeat first | exact .hd | apply Sel.tl | apply In.tl)))))
    | ((with_reducible apply wl_callp); exact rfl; exact rfl; (intro w' hm; exact aw_c1' w' _ (Reads.of_row hm (by (repeat first | exact .hd | apply Sel.tl | apply In.tl)))))
    | ((with_reducible apply wl_callp); exact rfl; exact rfl; (intro w' hm; exact aw_c2' w' _ (Reads.of_row hm (by (repeat first | exact .hd | apply Sel.tl | apply In.tl)))))
    | ((with_reducible apply wl_callp); exact rfl; exact rfl; (intro w' hm; exact aw_c3' w' _ (Reads.of_row hm (by (repeat first | exact .hd | apply Sel.tl | apply In.tl)))))
    | ((with_reducible apply wl_callp); exact rfl; exact rfl; (intro w' hm; exact aw_c4' w' _ (Reads.of_row hm (by (repeat first | exact .hd | apply Sel.tl | apply In.tl)))))
    | ((with_reducible apply wl_v); exact rfl; (first | ((with_reducible apply vop_ok); exact rfl) | ((with_reducible apply v_load_box); exact rfl; (repeat first | exact .hd | apply Sel.tl | apply In.tl); exact rfl) | ((with_reducible apply v_eqlb); exact rfl; exact rfl) | ((with_reducible apply v_neqb); exact rfl; exact rfl) | ((with_reducible apply v_loadw_box); exact rfl; (repeat first | exact .hd | apply Sel.tl | apply In.tl); exact rfl) | ((with_reducible apply v_loadn_box); exact rfl; (repeat first | exact .hd | apply Sel.tl | apply In.tl); exact rfl; exact rfl) | ((with_reducible apply v_build); exact rfl; exact rfl; exact rfl)))
    | ((with_reducible apply wl_gyes); exact rfl; exact rfl)
    | ((with_reducible apply wl_gno_b); exact rfl; exact rfl; exact rfl; exact rfl)
    | ((with_reducible apply wl_gno_u); exact rfl; exact rfl; exact rfl)
    | ((with_reducible apply wl_alloc); exact rfl; intro _)
    | ((with_reducible apply wl_storen_box); exact rfl; exact rfl; (repeat first | exact .hd | apply Sel.tl | apply In.tl); exact rfl; exact rfl; exact rfl)
    | ((with_reducible apply wl_putn_box); exact rfl; exact rfl; (repeat first | exact .hd | apply Sel.tl | apply In.tl); exact rfl; exact rfl; exact rfl; exact rfl)
    | ((with_reducible apply wl_buildSlice); exact rfl; exact rfl; exact rfl; exact rfl; exact rfl; exact rfl; exact rfl; intro _)
    | ((with_reducible apply wl_gsplit) <;> first | exact rfl | (intro hb; (replace hb := Tidy.out hb; try (exfalso; omega))))
    | (with_reducible first | apply wl_nil | apply thn_n | apply w_seq | apply w_region | apply w_ret | apply w_skip | apply w_exit | apply w_block | apply thn_r | apply thn_e | apply blk_n | apply blk_r | apply blk_e)
    | ((with_reducible apply w_cond_true); exact rfl)
    | ((with_reducible apply w_cond_false); exact rfl)
    | ((with_reducible apply w_cond) <;> first | exact rfl | (intro hb; (replace hb := Tidy.out hb; try (exfalso; omega))))
    | ((with_reducible apply blk_x); exact rfl))
  ((with_reducible apply ret1); exact .inl rfl; exact rfl; exact rfl; exact MSub.nil _)
  rfl

theorem cut300_idem (b : ByteArray) : cut300 (cut300 b) = cut300 b := by
  unfold cut300
  apply ByteArray.ext
  simp only [ByteArray.data_extract, ByteArray.size_extract, Array.extract_extract]
  congr 1
  omega
theorem fewT_idem (L : List Nd) : fewT (fewT L) = fewT L := by
  unfold fewT
  rw [← List.map_take, List.take_take, Nat.min_self, List.map_map]
  apply List.map_congr_left
  intro n _
  show fewN (fewN n) = fewN n
  simp only [fewN, cut300_idem]

set_option maxRecDepth 20000 in
theorem TreeEquals_at (L M : List Nd) (lv mv : Value) (w : World) (hl : Reads w lv L.length (L.flatMap encN)) (hm : Reads w mv M.length (M.flatMap encN)) : Pure Try.prog 4 [lv, mv] w (.bool true) := by
  refine fn_at Try.func4 rfl Try.ntmps4 rfl ?_
  have hf1 := fun (w' : World) (H : List Blk) (hm : Mem w w' H) => Few_at L lv w' (hl.of_w0 hm)
  have hf2 := fun (w' : World) (H : List Blk) (h : Mem w w' H) => Few_at M mv w' (hm.of_w0 h)
  have hidem := fewT_idem L
  generalize fewT L = L1 at hf1 hidem
  generalize fewT M = M1 at hf2
  have hf3 := fun (w' : World) (A : Option Nat) (cap : Nat) (h : Reads w' (sl A L1.length cap) L1.length (L1.flatMap encN)) => Few_at L1 _ w' h
  rw [hidem] at hf3
  have he3 := fun (w' : World) (a b : Value) (h1 : Reads w' a L1.length (L1.flatMap encN)) (h2 : Reads w' b L1.length (L1.flatMap encN)) => Equal_at L1 L1 a b w' h1 h2
  rw [decide_eq_true rfl] at he3
  repeat' (first
    | ((with_reducible apply wl_call); exact rfl; exact rfl; (intro w' h; exact hf1 w' _ h); (rintro v H' ⟨A, cap, rfl, rfl⟩))
    | ((with_reducible apply wl_call); exact rfl; exact rfl; (intro w' h; exact hf2 w' _ h); (rintro v H' ⟨A2, cap2, rfl, rfl⟩))
    | ((with_reducible apply wl_callp); exact rfl; exact rfl; (intro w' h; exact he3 w' _ _ (Reads.of_own h (by (repeat first | exact .hd | apply Sel.tl | apply In.tl))) (Reads.of_own h (by (repeat first | exact .hd | apply Sel.tl | apply In.tl)))))
    | ((with_reducible apply wl_callp); exact rfl; exact rfl; (intro w' h; exact Equal_at L1 M1 _ _ w' (Reads.of_own h (by (repeat first | exact .hd | apply Sel.tl | apply In.tl))) (Reads.of_own h (by (repeat first | exact .hd | apply Sel.tl | apply In.tl)))))
    | ((with_reducible apply wl_callp); exact rfl; exact rfl; (intro w' h; exact EqualTree_at L1 M1 _ _ w' (Reads.of_own h (by (repeat first | exact .hd | apply Sel.tl | apply In.tl))) (Reads.of_own h (by (repeat first | exact .hd | apply Sel.tl | apply In.tl)))))
    | ((with_reducible apply wl_v); exact rfl; (with_reducible apply v_eqlb_same); exact rfl; exact rfl)
    | ((with_reducible apply wl_call); exact rfl; exact rfl; (intro w' h; exact hf3 w' _ _ (Reads.of_own h (by (repeat first | exact .hd | apply Sel.tl | apply In.tl)))); (rintro v H' ⟨A3, cap3, rfl, rfl⟩))
    | ((with_reducible apply wl_callp); exact rfl; exact rfl; (intro w' h; exact awake_at w'))
    | ((with_reducible apply wl_v); exact rfl; (first | ((with_reducible apply vop_ok); exact rfl) | ((with_reducible apply v_eqlb); exact rfl; exact rfl) | ((with_reducible apply v_neqb); exact rfl; exact rfl)))
    | ((with_reducible apply wl_gyes); exact rfl; exact rfl)
    | ((with_reducible apply wl_gno_b); exact rfl; exact rfl; exact rfl; exact rfl)
    | ((with_reducible apply wl_gno_u); exact rfl; exact rfl; exact rfl)
    | ((with_reducible apply wl_gsplit) <;> first | exact rfl | (intro hb; (replace hb := Tidy.out hb; try (exfalso; omega))))
    | (with_reducible first | apply wl_nil | apply thn_n | apply w_seq | apply w_region | apply w_ret | apply w_skip | apply w_exit | apply w_block | apply thn_r | apply thn_e | apply blk_n | apply blk_r | apply blk_e)
    | ((with_reducible apply w_cond_true); exact rfl)
    | ((with_reducible apply w_cond_false); exact rfl)
    | ((with_reducible apply w_cond) <;> first | exact rfl | (intro hb; (replace hb := Tidy.out hb; try (exfalso; omega))))
    | ((with_reducible apply blk_x); exact rfl))
  ((with_reducible apply ret1); exact .inl rfl; exact rfl; exact rfl; exact MSub.nil _)
  rfl
end Go.SL

/-
  The names of the functions: what names, Name, Function and Index return, and the document's Name and Function.
-/
namespace Go.SL
open Go Go.Proofs
attribute [local irreducible] W WL WQ WG WA VOp thn blk retP FnAt FnIn

def namesL : List ByteArray := [
  ⟨#[65, 66, 83]⟩, ⟨#[83, 73, 71, 78]⟩, ⟨#[73, 78, 84]⟩, ⟨#[84, 82, 85, 78, 67]⟩, ⟨#[82, 79, 85, 78, 68]⟩,
  ⟨#[77, 79, 68]⟩, ⟨#[80, 79, 87, 69, 82]⟩, ⟨#[83, 81, 82, 84]⟩, ⟨#[83, 85, 77]⟩, ⟨#[80, 82, 79, 68, 85, 67, 84]⟩,
  ⟨#[67, 79, 85, 78, 84]⟩, ⟨#[67, 79, 85, 78, 84, 65]⟩, ⟨#[67, 79, 85, 78, 84, 66, 76, 65, 78, 75]⟩, ⟨#[65, 86, 69, 82, 65, 71, 69]⟩, ⟨#[77, 73, 78]⟩,
  ⟨#[77, 65, 88]⟩, ⟨#[77, 69, 68, 73, 65, 78]⟩, ⟨#[76, 65, 82, 71, 69]⟩, ⟨#[83, 77, 65, 76, 76]⟩, ⟨#[73, 70]⟩,
  ⟨#[65, 78, 68]⟩, ⟨#[79, 82]⟩, ⟨#[88, 79, 82]⟩, ⟨#[78, 79, 84]⟩, ⟨#[73, 70, 69, 82, 82, 79, 82]⟩,
  ⟨#[73, 83, 69, 82, 82, 79, 82]⟩, ⟨#[73, 83, 66, 76, 65, 78, 75]⟩, ⟨#[73, 83, 78, 85, 77, 66, 69, 82]⟩, ⟨#[73, 83, 84, 69, 88, 84]⟩, ⟨#[67, 72, 79, 79, 83, 69]⟩,
  ⟨#[76, 69, 78]⟩, ⟨#[76, 69, 70, 84]⟩, ⟨#[82, 73, 71, 72, 84]⟩, ⟨#[77, 73, 68]⟩, ⟨#[85, 80, 80, 69, 82]⟩,
  ⟨#[76, 79, 87, 69, 82]⟩, ⟨#[84, 82, 73, 77]⟩, ⟨#[67, 79, 78, 67, 65, 84]⟩, ⟨#[82, 69, 80, 84]⟩, ⟨#[69, 88, 65, 67, 84]⟩,
  ⟨#[70, 73, 78, 68]⟩, ⟨#[86, 65, 76, 85, 69]⟩, ⟨#[73, 78, 68, 69, 88]⟩, ⟨#[77, 65, 84, 67, 72]⟩, ⟨#[67, 79, 85, 78, 84, 73, 70]⟩,
  ⟨#[68, 83, 85, 77]⟩, ⟨#[68, 67, 79, 85, 78, 84]⟩, ⟨#[68, 65, 86, 71]⟩, ⟨#[68, 77, 73, 78]⟩, ⟨#[68, 77, 65, 88]⟩]

set_option maxRecDepth 20000 in
theorem names_at (w : World) : Pure Try.prog 65 [] w (.agg (namesL.map Value.string).toArray) := by
  refine fn_at Try.func65 rfl Try.ntmps65 rfl ?_
  repeat' (first
    | ((with_reducible apply wl_buildArr); exact rfl; exact rfl; exact rfl; exact rfl; exact rfl)
    | ((with_reducible apply wl_v); exact rfl; (first | ((with_reducible apply vop_ok); exact rfl) | ((with_reducible apply v_build); exact rfl; exact rfl; exact rfl)))
    | ((with_reducible apply wl_alloc); exact rfl; intro _)
    | ((with_reducible apply wl_storen_box); exact rfl; exact rfl; (repeat first | exact .hd | apply Sel.tl | apply In.tl); exact rfl; exact rfl; exact rfl)
    | ((with_reducible apply wl_putn_box); exact rfl; exact rfl; (repeat first | exact .hd | apply Sel.tl | apply In.tl); exact rfl; exact rfl; exact rfl; exact rfl)
    | (with_reducible first | apply wl_nil | apply thn_n | apply w_seq | apply w_region | apply w_ret | apply w_skip | apply w_exit | apply w_block | apply thn_r | apply thn_e | apply blk_n | apply blk_r | apply blk_e)
    | ((with_reducible apply w_cond_true); exact rfl)
    | ((with_reducible apply w_cond_false); exact rfl)
    | ((with_reducible apply w_cond) <;> first | exact rfl | (intro hb; (replace hb := Tidy.out hb; try (exfalso; omega))))
    | ((with_reducible apply blk_x); exact rfl))
  exact retc (.inl rfl) Try.results65 rfl .hd rfl (MSub.nil _) rfl

theorem Ro.str1 {w : World} {g o : Nat} {L : List ByteArray} (h : Ro w g o (L.map Value.string)) (i : Nat) (hi : i < L.length) : Ro w g (o + i * 1) [Value.string L[i]] := by
  have h1 := (h.drop (k := i)).take (k := 1)
  rw [← List.map_drop, ← List.map_take, List.drop_eq_getElem_cons hi] at h1
  rw [Nat.mul_one]
  exact h1

/-- The first index of s in a list, counted from i; else -1. -/
def idxFrom : List ByteArray → ByteArray → Int → Int
  | [], _, _ => -1
  | a :: r, s, i => if s = a then i else idxFrom r s (i + 1)

set_option maxRecDepth 20000 in
theorem Index_at (L : List ByteArray) (b : ByteArray) (tv : Value) (w : World) (ht : Reads w tv L.length (L.map Value.string)) : Pure Try.prog 67 [tv, .string b] w (.int .i64 (idxFrom L b 0)) := by
  obtain ⟨Al, cl, rfl, hl1, hl2, hl3⟩ := ht
  refine fn_at Try.func67 rfl Try.ntmps67 rfl ?_
  repeat' (first
    | ((with_reducible apply wl_v); exact rfl; (first | ((with_reducible apply vop_ok); exact rfl) | ((with_reducible apply v_len); exact rfl) | ((with_reducible apply v_lens); exact rfl) | ((with_reducible apply v_load_box); exact rfl; (repeat first | exact .hd | apply Sel.tl | apply In.tl); exact rfl) | ((with_reducible apply v_eqlb); exact rfl; exact rfl) | ((with_reducible apply v_neqb); exact rfl; exact rfl) | ((with_reducible apply v_loadw_box); exact rfl; (repeat first | exact .hd | apply Sel.tl | apply In.tl); exact rfl) | ((with_reducible apply v_loadn_box); exact rfl; (repeat first | exact .hd | apply Sel.tl | apply In.tl); exact rfl; exact rfl)))
    | (with_reducible first | apply wl_nil | apply thn_n | apply w_seq | apply w_region | apply w_ret | apply w_skip | apply w_exit | apply w_block | apply thn_r | apply thn_e | apply blk_n | apply blk_r | apply blk_e)
    | ((with_reducible apply w_cond_true); exact rfl)
    | ((with_reducible apply w_cond_false); exact rfl)
    | ((with_reducible apply w_cond) <;> first | exact rfl | (intro hb; (replace hb := Tidy.out hb; try (exfalso; omega))))
    | ((with_reducible apply blk_x); exact rfl))
  refine w_loop (fun i : Nat => [(0, .slice Al L.length cl), (1, .string b), (7, .int .i64 (L.length : Int)), (8, .int .i64 (i : Int))]) (fun _ => []) (fun i => i ≤ L.length ∧ idxFrom L b 0 = idxFrom (L.drop i) b (i : Int)) (fun i => L.length - i) 0 ⟨by omega, rfl⟩ ?_ ?_ ?_
  · (repeat (first | exact Sub.nil _ | refine Sub.cons rfl ?_))
  · (repeat (first | exact MSub.nil _ | refine MSub.pick (by (repeat first | exact .hd | apply Sel.tl | apply In.tl)) ?_ | exact MSub.refl _ | refine MSub.drop .hd ?_))
  · rintro i ⟨hi, hrec⟩
    by_cases hlt : i < L.length
    · obtain ⟨gl, ol, rfl, hrl⟩ := hl3 (by omega)
      have he := hrl.str1 i hlt
      rw [List.drop_eq_getElem_cons hlt, idxFrom] at hrec
      repeat' (first
        | ((with_reducible apply wl_v); exact rfl; (with_reducible apply v_indexAddr); exact rfl; exact rfl; exact hlt)
        | ((with_reducible apply wl_v); exact rfl; (with_reducible apply v_load1_ro); exact rfl; exact he)
        | ((with_reducible apply wl_v); exact rfl; (with_reducible apply v_succN); exact rfl; exact rfl; (simp only [maxLen] at *; omega))
        | ((with_reducible apply wl_v); exact rfl; (first | ((with_reducible apply vop_ok); exact rfl) | ((with_reducible apply v_len); exact rfl) | ((with_reducible apply v_lens); exact rfl) | ((with_reducible apply v_load_box); exact rfl; (repeat first | exact .hd | apply Sel.tl | apply In.tl); exact rfl) | ((with_reducible apply v_eqlb); exact rfl; exact rfl) | ((with_reducible apply v_neqb); exact rfl; exact rfl) | ((with_reducible apply v_loadw_box); exact rfl; (repeat first | exact .hd | apply Sel.tl | apply In.tl); exact rfl) | ((with_reducible apply v_loadn_box); exact rfl; (repeat first | exact .hd | apply Sel.tl | apply In.tl); exact rfl; exact rfl)))
        | (with_reducible first | apply wl_nil | apply thn_n | apply w_seq | apply w_region | apply w_ret | apply w_skip | apply w_exit | apply w_block | apply thn_r | apply thn_e | apply blk_n | apply blk_r | apply blk_e)
        | ((with_reducible apply w_cond_true); exact rfl)
        | ((with_reducible apply w_cond_false); exact rfl)
        | ((with_reducible apply w_cond) <;> first | exact rfl | (intro hb; (replace hb := Tidy.out hb; try (exfalso; omega))))
        | ((with_reducible apply blk_x); exact rfl))
      · ((with_reducible apply ret1); exact .inl rfl; exact rfl; exact rfl; exact MSub.nil _)
        rw [hrec, if_pos hb]
      · refine ⟨i + 1, ⟨by omega, ?_⟩, by omega, ?_, ?_⟩
        · rw [hrec, if_neg hb]
          rfl
        · (repeat (first | exact Sub.nil _ | refine Sub.cons rfl ?_))
        · (repeat (first | exact MSub.nil _ | refine MSub.pick (by (repeat first | exact .hd | apply Sel.tl | apply In.tl)) ?_ | exact MSub.refl _ | refine MSub.drop .hd ?_))
    · have e : i = L.length := by omega
      subst e
      repeat' (first
        | ((with_reducible apply wl_v); exact rfl; (first | ((with_reducible apply vop_ok); exact rfl) | ((with_reducible apply v_len); exact rfl) | ((with_reducible apply v_lens); exact rfl) | ((with_reducible apply v_load_box); exact rfl; (repeat first | exact .hd | apply Sel.tl | apply In.tl); exact rfl) | ((with_reducible apply v_eqlb); exact rfl; exact rfl) | ((with_reducible apply v_neqb); exact rfl; exact rfl) | ((with_reducible apply v_loadw_box); exact rfl; (repeat first | exact .hd | apply Sel.tl | apply In.tl); exact rfl) | ((with_reducible apply v_loadn_box); exact rfl; (repeat first | exact .hd | apply Sel.tl | apply In.tl); exact rfl; exact rfl)))
        | (with_reducible first | apply wl_nil | apply thn_n | apply w_seq | apply w_region | apply w_ret | apply w_skip | apply w_exit | apply w_block | apply thn_r | apply thn_e | apply blk_n | apply blk_r | apply blk_e)
        | ((with_reducible apply w_cond_true); exact rfl)
        | ((with_reducible apply w_cond_false); exact rfl)
        | ((with_reducible apply w_cond) <;> first | exact rfl | (intro hb; (replace hb := Tidy.out hb; try (exfalso; omega))))
        | ((with_reducible apply blk_x); exact rfl))
      ((with_reducible apply ret1); exact .inl rfl; exact rfl; exact rfl; exact MSub.nil _)
      rw [hrec, List.drop_length, idxFrom]

def nameE (fn : Int) : ByteArray × Int := if knownF fn = true then (namesL.getD (fn - 1).toNat emptyB, 0) else (emptyB, 10)

theorem namesL_length : namesL.length = 50 := rfl
theorem namesV_get {j : Nat} (h : j < 50) : (namesL.map Value.string)[j]? = some (.string (namesL.getD j emptyB)) := by
  have : j < namesL.length := h
  simp [List.getD_eq_getElem?_getD, this]

set_option maxRecDepth 20000 in
theorem Name_at (fn : Int) (w : World) : Pure Try.prog 32 [.int .u8 fn] w (.tuple #[.string (nameE fn).1, .int .i64 (nameE fn).2]) := by
  refine fn_at Try.func32 rfl Try.ntmps32 rfl ?_
  by_cases hk : knownF fn = true
  · have hk' := hk
    simp only [knownF, Bool.and_eq_true, decide_eq_true_eq] at hk'
    obtain ⟨j, hj⟩ := Int.eq_ofNat_of_zero_le (by omega : 0 ≤ fn - 1)
    have hw : IntKind.u8.wrap (fn - 1) = (j : Int) := (wrap_u8 (by omega) (by omega)).trans hj
    have hkn : ∀ w, Pure Try.prog 64 [.int .u8 fn] w (.bool true) := fun w => hk ▸ known_at fn w
    repeat' (first
      | ((with_reducible apply wl_callp); exact rfl; exact rfl; (intro w hm; exact hkn w))
      | ((with_reducible apply wl_callp); exact rfl; exact rfl; (intro w hm; exact names_at w))
      | ((with_reducible apply wl_v); exact rfl; (with_reducible apply v_subw_id); exact rfl; exact rfl; exact hw)
      | ((with_reducible apply wl_v); exact rfl; (with_reducible apply v_index_arr (j := j)); exact rfl; exact rfl; omega; exact namesV_get (by omega))
      | ((with_reducible apply wl_v); exact rfl; (first | ((with_reducible apply vop_ok); exact rfl)))
      | (with_reducible first | apply wl_nil | apply thn_n | apply w_seq | apply w_region | apply w_ret | apply w_skip | apply w_exit | apply w_block | apply thn_r | apply thn_e | apply blk_n | apply blk_r | apply blk_e)
      | ((with_reducible apply w_cond_true); exact rfl)
      | ((with_reducible apply w_cond_false); exact rfl)
      | ((with_reducible apply w_cond) <;> first | exact rfl | (intro hb; (replace hb := Tidy.out hb; try (exfalso; omega))))
      | ((with_reducible apply blk_x); exact rfl))
    refine ret2 (.inl rfl) Try.results32 rfl rfl (.nil _) ?_
    rw [nameE, if_pos hk, hj]
    rfl
  · have hk2 : knownF fn = false := by simpa using hk
    have hkn : ∀ w, Pure Try.prog 64 [.int .u8 fn] w (.bool false) := fun w => hk2 ▸ known_at fn w
    repeat' (first
      | ((with_reducible apply wl_callp); exact rfl; exact rfl; (intro w hm; exact hkn w))
      | ((with_reducible apply wl_v); exact rfl; (first | ((with_reducible apply vop_ok); exact rfl)))
      | (with_reducible first | apply wl_nil | apply thn_n | apply w_seq | apply w_region | apply w_ret | apply w_skip | apply w_exit | apply w_block | apply thn_r | apply thn_e | apply blk_n | apply blk_r | apply blk_e)
      | ((with_reducible apply w_cond_true); exact rfl)
      | ((with_reducible apply w_cond_false); exact rfl)
      | ((with_reducible apply w_cond) <;> first | exact rfl | (intro hb; (replace hb := Tidy.out hb; try (exfalso; omega))))
      | ((with_reducible apply blk_x); exact rfl))
    refine ret2 (.inl rfl) Try.results32 rfl rfl (.nil _) ?_
    rw [nameE, if_neg hk]
    rfl

theorem idxFrom_bound (L : List ByteArray) (b : ByteArray) (i : Int) (h : 0 ≤ i) : idxFrom L b i = -1 ∨ (i ≤ idxFrom L b i ∧ idxFrom L b i < i + L.length) := by
  induction L generalizing i with
  | nil => exact .inl rfl
  | cons a r ih =>
    unfold idxFrom
    rw [List.length_cons]
    split
    · right; omega
    · rcases ih (i + 1) (by omega) with h1 | h1
      · exact .inl h1
      · right; omega

def functionE (b : ByteArray) : Int × Int := if idxFrom namesL b 0 < 0 then (0, 6) else (idxFrom namesL b 0 + 1, 0)

set_option maxRecDepth 20000 in
theorem Function_at (b : ByteArray) (w : World) : Pure Try.prog 35 [.string b] w (.tuple #[.int .u8 (functionE b).1, .int .i64 (functionE b).2]) := by
  refine fn_at Try.func35 rfl Try.ntmps35 rfl ?_
  have hb1 := idxFrom_bound namesL b 0 (by omega)
  rw [namesL_length] at hb1
  have hix := fun w tv (h : Reads w tv (namesL.map Value.string).length (namesL.map Value.string)) => Index_at namesL b tv w h
  unfold functionE
  generalize idxFrom namesL b 0 = r at hb1 hix
  repeat' (first
    | ((with_reducible apply wl_callp); exact rfl; exact rfl; (intro w hm; exact names_at w))
    | ((with_reducible apply wl_v); exact rfl; (with_reducible apply v_slice_arr); exact rfl)
    | ((with_reducible apply wl_callp); exact rfl; exact rfl; (intro w' hm; exact hix w' _ (Reads.of_box hm (by (repeat first | exact .hd | apply Sel.tl | apply In.tl)) rfl)))
    | ((with_reducible apply wl_v); exact rfl; (with_reducible apply v_addw_id); exact rfl; exact rfl; exact I64.wrap ⟨by omega, by omega⟩)
    | ((with_reducible apply wl_v); exact rfl; (with_reducible apply v_conv_id); exact rfl; exact wrap_u8 (by omega) (by omega))
    | ((with_reducible apply wl_v); exact rfl; (first | ((with_reducible apply vop_ok); exact rfl)))
    | ((with_reducible apply wl_alloc); exact rfl; intro _)
    | ((with_reducible apply wl_storen_box); exact rfl; exact rfl; (repeat first | exact .hd | apply Sel.tl | apply In.tl); exact rfl; exact rfl; exact rfl)
    | ((with_reducible apply wl_putn_box); exact rfl; exact rfl; (repeat first | exact .hd | apply Sel.tl | apply In.tl); exact rfl; exact rfl; exact rfl; exact rfl)
    | (with_reducible first | apply wl_nil | apply thn_n | apply w_seq | apply w_region | apply w_ret | apply w_skip | apply w_exit | apply w_block | apply thn_r | apply thn_e | apply blk_n | apply blk_r | apply blk_e)
    | ((with_reducible apply w_cond_true); exact rfl)
    | ((with_reducible apply w_cond_false); exact rfl)
    | ((with_reducible apply w_cond) <;> first | exact rfl | (intro hb; (replace hb := Tidy.out hb; try (exfalso; omega))))
    | ((with_reducible apply blk_x); exact rfl))
  · refine ret2 (.inl rfl) Try.results35 rfl rfl (.nil _) ?_
    rw [if_pos hb]
  · refine ret2 (.inl rfl) Try.results35 rfl rfl (.nil _) ?_
    rw [if_neg (by omega)]
end Go.SL

/-
  The document's Name, Function, Arity and Wide.
-/
namespace Go.SL
open Go Go.Proofs
attribute [local irreducible] W WL WQ WG WA VOp thn blk retP FnAt FnIn

def refNameE (fn : Int) : ByteArray := if 51 ≤ fn then emptyB else (emptyB :: namesL).getD fn.toNat emptyB

theorem wrap_i64 {a : Int} (h1 : 0 ≤ a) (h2 : a ≤ 255) : IntKind.i64.wrap a = a := I64.wrap ⟨by omega, by omega⟩

set_option maxRecDepth 20000 in
theorem refName_at (fn : Int) (h0 : 0 ≤ fn) (h1 : fn ≤ 255) (w : World) : Pure Try.prog 37 [.int .u8 fn] w (.string (refNameE fn)) := by
  obtain ⟨j, rfl⟩ := Int.eq_ofNat_of_zero_le h0
  refine fn_at Try.func37 rfl Try.ntmps37 rfl ?_
  have hg : ∀ h : j < 51, ((emptyB :: namesL).map Value.string)[0 + j * 1]? = some (.string ((emptyB :: namesL).getD j emptyB)) := by
    intro h
    have : j < (emptyB :: namesL).length := h
    rw [show 0 + j * 1 = j by omega]
    simp only [List.getElem?_map, List.getD_eq_getElem?_getD, List.getElem?_eq_getElem this]
    rfl
  repeat' (first
    | ((with_reducible apply wl_v); exact rfl; (with_reducible apply v_conv_id); exact rfl; exact wrap_i64 h0 h1)
    | ((with_reducible apply wl_v); exact rfl; (with_reducible apply v_indexAddr (j := j)); exact rfl; exact rfl; omega)
    | ((with_reducible apply wl_v); exact rfl; (with_reducible apply v_load_own); exact rfl; (repeat first | exact .hd | apply Sel.tl | apply In.tl); exact hg (by omega))
    | ((with_reducible apply wl_v); exact rfl; (first | ((with_reducible apply vop_ok); exact rfl) | ((with_reducible apply v_len); exact rfl) | ((with_reducible apply v_lens); exact rfl) | ((with_reducible apply v_load_box); exact rfl; (repeat first | exact .hd | apply Sel.tl | apply In.tl); exact rfl) | ((with_reducible apply v_loadw_box); exact rfl; (repeat first | exact .hd | apply Sel.tl | apply In.tl); exact rfl) | ((with_reducible apply v_loadn_box); exact rfl; (repeat first | exact .hd | apply Sel.tl | apply In.tl); exact rfl; exact rfl)))
    | ((with_reducible apply wl_buildSlice); exact rfl; exact rfl; exact rfl; exact rfl; exact rfl; exact rfl; exact rfl; intro _)
    | (with_reducible first | apply wl_nil | apply thn_n | apply w_seq | apply w_region | apply w_ret | apply w_skip | apply w_exit | apply w_block | apply thn_r | apply thn_e | apply blk_n | apply blk_r | apply blk_e)
    | ((with_reducible apply w_cond_true); exact rfl)
    | ((with_reducible apply w_cond_false); exact rfl)
    | ((with_reducible apply w_cond) <;> first | exact rfl | (intro hb; (replace hb := Tidy.out hb; try (exfalso; omega))))
    | ((with_reducible apply blk_x); exact rfl))
  · ((with_reducible apply ret1); exact .inl rfl; exact rfl; exact rfl; exact MSub.nil _)
    rw [refNameE, if_pos (by omega)]
    rfl
  · ((with_reducible apply ret1); exact .inl rfl; exact rfl; exact rfl; exact MSub.nil _)
    rw [refNameE, if_neg (by omega)]
    rfl

theorem refName_pos {i : Nat} (h : i < 50) : refNameE ((i : Int) + 1) = namesL[i]'h := by
  have h2 : i < namesL.length := h
  rw [refNameE, if_neg (by omega), show ((i : Int) + 1).toNat = i + 1 by omega]
  simp [h2]
  rfl

set_option maxRecDepth 20000 in
theorem refFunction_at (b : ByteArray) (w : World) : Pure Try.prog 36 [.string b] w (.tuple #[.int .u8 (functionE b).1, .int .i64 (functionE b).2]) := by
  refine fn_at Try.func36 rfl Try.ntmps36 rfl ?_
  repeat' (first
    | ((with_reducible apply wl_v); exact rfl; (first | ((with_reducible apply vop_ok); exact rfl) | ((with_reducible apply v_eqlb); exact rfl; exact rfl) | ((with_reducible apply v_neqb); exact rfl; exact rfl)))
    | (with_reducible first | apply wl_nil | apply thn_n | apply w_seq | apply w_region | apply w_ret | apply w_skip | apply w_exit | apply w_block | apply thn_r | apply thn_e | apply blk_n | apply blk_r | apply blk_e)
    | ((with_reducible apply w_cond_true); exact rfl)
    | ((with_reducible apply w_cond_false); exact rfl)
    | ((with_reducible apply w_cond) <;> first | exact rfl | (intro hb; (replace hb := Tidy.out hb; try (exfalso; omega))))
    | ((with_reducible apply blk_x); exact rfl))
  refine w_loop (fun i : Nat => [(0, .string b), (4, .int .u8 ((i : Int) + 1))]) (fun _ => []) (fun i => i ≤ 50 ∧ idxFrom namesL b 0 = idxFrom (namesL.drop i) b (i : Int)) (fun i => 50 - i) 0 ⟨by omega, rfl⟩ ?_ ?_ ?_
  · (repeat (first | exact Sub.nil _ | refine Sub.cons rfl ?_))
  · (repeat (first | exact MSub.nil _ | refine MSub.pick (by (repeat first | exact .hd | apply Sel.tl | apply In.tl)) ?_ | exact MSub.refl _ | refine MSub.drop .hd ?_))
  · rintro i ⟨hi, hrec⟩
    by_cases hlt : i < 50
    · have hl : i < namesL.length := hlt
      have hr : ∀ w, Pure Try.prog 37 [.int .u8 ((i : Int) + 1)] w (.string (namesL[i]'hl)) := fun w => refName_pos hlt ▸ refName_at _ (by omega) (by omega) w
      rw [List.drop_eq_getElem_cons hl, idxFrom] at hrec
      repeat' (first
        | ((with_reducible apply wl_callp); exact rfl; exact rfl; (intro w hm; exact hr w))
        | ((with_reducible apply wl_v); exact rfl; (with_reducible apply v_addw_id (c := ((i + 1 : Nat) : Int) + 1)); exact rfl; exact rfl; exact wrap_u8 (by omega) (by omega))
        | ((with_reducible apply wl_v); exact rfl; (first | ((with_reducible apply vop_ok); exact rfl) | ((with_reducible apply v_eqlb); exact rfl; exact rfl) | ((with_reducible apply v_neqb); exact rfl; exact rfl)))
        | (with_reducible first | apply wl_nil | apply thn_n | apply w_seq | apply w_region | apply w_ret | apply w_skip | apply w_exit | apply w_block | apply thn_r | apply thn_e | apply blk_n | apply blk_r | apply blk_e)
        | ((with_reducible apply w_cond_true); exact rfl)
        | ((with_reducible apply w_cond_false); exact rfl)
        | ((with_reducible apply w_cond) <;> first | exact rfl | (intro hb; (replace hb := Tidy.out hb; try (exfalso; omega))))
        | ((with_reducible apply blk_x); exact rfl))
      · refine ret2 (.inl rfl) Try.results36 rfl rfl (.nil _) ?_
        rw [functionE, hrec, if_pos hb.symm, if_neg (by omega)]
      · refine ⟨i + 1, ⟨by omega, ?_⟩, by omega, ?_, ?_⟩
        · rw [hrec, if_neg (fun h => hb h.symm)]
          rfl
        · (repeat (first | exact Sub.nil _ | refine Sub.cons rfl ?_))
        · (repeat (first | exact MSub.nil _ | refine MSub.pick (by (repeat first | exact .hd | apply Sel.tl | apply In.tl)) ?_ | exact MSub.refl _ | refine MSub.drop .hd ?_))
    · have e : i = 50 := by omega
      subst e
      repeat' (first
        | ((with_reducible apply wl_v); exact rfl; (first | ((with_reducible apply vop_ok); exact rfl) | ((with_reducible apply v_eqlb); exact rfl; exact rfl) | ((with_reducible apply v_neqb); exact rfl; exact rfl)))
        | (with_reducible first | apply wl_nil | apply thn_n | apply w_seq | apply w_region | apply w_ret | apply w_skip | apply w_exit | apply w_block | apply thn_r | apply thn_e | apply blk_n | apply blk_r | apply blk_e)
        | ((with_reducible apply w_cond_true); exact rfl)
        | ((with_reducible apply w_cond_false); exact rfl)
        | ((with_reducible apply w_cond) <;> first | exact rfl | (intro hb; (replace hb := Tidy.out hb; try (exfalso; omega))))
        | ((with_reducible apply blk_x); exact rfl))
      refine ret2 (.inl rfl) Try.results36 rfl rfl (.nil _) ?_
      rw [functionE, hrec]
      rfl

def refArityE (fn : Int) : Int × Int :=
  if fn = 5 ∨ fn = 6 ∨ fn = 7 ∨ fn = 25 ∨ fn = 39 ∨ fn = 40 ∨ fn = 18 ∨ fn = 19 ∨ fn = 45 ∨ fn = 44 then (2, 2)
  else if fn = 20 ∨ fn = 41 ∨ fn = 43 then (2, 3)
  else if fn = 32 ∨ fn = 33 then (1, 2)
  else if fn = 34 then (3, 3)
  else if fn = 21 ∨ fn = 22 ∨ fn = 23 ∨ fn = 38 ∨ fn = 9 ∨ fn = 10 ∨ fn = 11 ∨ fn = 12 ∨ fn = 14 ∨ fn = 15 ∨ fn = 16 ∨ fn = 17 then (1, 16)
  else if fn = 30 then (2, 16)
  else (1, 1)

set_option maxRecDepth 10000 in
theorem refArity_at (fn : Int) (w : World) : Pure Try.prog 38 [.int .u8 fn] w (.tuple #[.int .i64 (refArityE fn).1, .int .i64 (refArityE fn).2]) := by
  refine fn_at Try.func38 rfl Try.ntmps38 rfl ?_
  repeat' (first
    | ((with_reducible apply wl_v); exact rfl; (first | ((with_reducible apply vop_ok); exact rfl) | ((with_reducible apply v_eqlb); exact rfl; exact rfl) | ((with_reducible apply v_neqb); exact rfl; exact rfl)))
    | (with_reducible first | apply wl_nil | apply thn_n | apply w_seq | apply w_region | apply w_ret | apply w_skip | apply w_exit | apply w_block | apply thn_r | apply thn_e | apply blk_n | apply blk_r | apply blk_e)
    | ((with_reducible apply w_cond_true); exact rfl)
    | ((with_reducible apply w_cond_false); exact rfl)
    | ((with_reducible apply w_cond) <;> first | exact rfl | (intro hb; (replace hb := Tidy.out hb; try (exfalso; omega))))
    | ((with_reducible apply blk_x); exact rfl))
  all_goals (((with_reducible apply ret2); exact .inl rfl; exact rfl; exact rfl; exact rfl; exact MSub.nil _); simp_all [refArityE])

def refWideE (fn i : Int) : Bool :=
  if i < 0 ∨ (refArityE fn).2 ≤ i then false
  else if fn = 9 ∨ fn = 10 ∨ fn = 11 ∨ fn = 12 ∨ fn = 14 ∨ fn = 15 ∨ fn = 16 ∨ fn = 17 then true
  else if fn = 13 ∨ fn = 18 ∨ fn = 19 ∨ fn = 45 ∨ fn = 43 then decide (i = 0)
  else if fn = 44 then decide (i = 1)
  else decide (46 ≤ fn) && decide (fn ≤ 50)

set_option maxRecDepth 10000 in
theorem refWide_at (fn i : Int) (w : World) : Pure Try.prog 39 [.int .u8 fn, .int .i64 i] w (.bool (refWideE fn i)) := by
  refine fn_at Try.func39 rfl Try.ntmps39 rfl ?_
  repeat' (first
    | ((with_reducible apply wl_callp); exact rfl; exact rfl; (intro w hm; exact refArity_at fn w))
    | ((with_reducible apply wl_v); exact rfl; (first | ((with_reducible apply vop_ok); exact rfl) | ((with_reducible apply v_eqlb); exact rfl; exact rfl) | ((with_reducible apply v_neqb); exact rfl; exact rfl)))
    | ((with_reducible apply wl_gyes); exact rfl; exact rfl)
    | ((with_reducible apply wl_gno_b); exact rfl; exact rfl; exact rfl; exact rfl)
    | ((with_reducible apply wl_gno_u); exact rfl; exact rfl; exact rfl)
    | ((with_reducible apply wl_gsplit) <;> first | exact rfl | (intro hb; (replace hb := Tidy.out hb; try (exfalso; omega))))
    | (with_reducible first | apply wl_nil | apply thn_n | apply w_seq | apply w_region | apply w_ret | apply w_skip | apply w_exit | apply w_block | apply thn_r | apply thn_e | apply blk_n | apply blk_r | apply blk_e)
    | ((with_reducible apply w_cond_true); exact rfl)
    | ((with_reducible apply w_cond_false); exact rfl)
    | ((with_reducible apply w_cond) <;> first | exact rfl | (intro hb; (replace hb := Tidy.out hb; try (exfalso; omega))))
    | ((with_reducible apply blk_x); exact rfl))
  all_goals (((with_reducible apply ret1); exact .inl rfl; exact rfl; exact rfl; exact MSub.nil _); ((try simp only [← Int.not_lt] at *); simp_all [refWideE, -Int.not_lt, -Int.not_le, ← Int.not_lt]))

end Go.SL

/-
  TreeFunctions and TreeNames return true.
-/
namespace Go.SL
open Go Go.Proofs
attribute [local irreducible] W WL WQ WG WA VOp thn blk retP FnAt FnIn

theorem names_ok : ∀ j, j < 50 → namesL.getD j emptyB ≠ emptyB ∧ functionE (namesL.getD j emptyB) = ((j : Int) + 1, 0) := by decide +kernel

theorem arity_known {fn : Int} (h : knownF fn = true) : arity fn = ((refArityE fn).1, (refArityE fn).2, 0) := by
  unfold arity refArityE
  (repeat' split) <;> simp_all
theorem arity_unknown {fn : Int} (h : knownF fn = false) : arity fn = (0, 0, 10) := by
  simp only [knownF, Bool.and_eq_false_iff, decide_eq_false_iff_not] at h
  have hk : knownF fn = false := by simp only [knownF, Bool.and_eq_false_iff, decide_eq_false_iff_not]; exact h
  unfold arity
  (repeat' split) <;> first | (exfalso; omega) | (simp_all; done) | rfl
theorem refArity_bound (fn : Int) : 1 ≤ (refArityE fn).1 ∧ (refArityE fn).1 ≤ (refArityE fn).2 ∧ (refArityE fn).2 ≤ 16 := by
  unfold refArityE
  (repeat' split) <;> simp
theorem wide_known {fn : Int} (h : knownF fn = true) (i : Int) : wideF fn i = (refWideE fn i, if i < 0 ∨ (refArityE fn).2 ≤ i then 3 else 0) := by
  unfold wideF refWideE
  rw [arity_known h]
  simp only [ne_eq, not_true_eq_false, if_false]
  by_cases h1 : i < 0 ∨ (refArityE fn).2 ≤ i
  · simp only [if_pos h1]
  · simp only [if_neg h1]
    by_cases h2 : fn = 9 ∨ fn = 10 ∨ fn = 11 ∨ fn = 12 ∨ fn = 14 ∨ fn = 15 ∨ fn = 16 ∨ fn = 17
    · simp only [if_pos h2]
    · simp only [if_neg h2]
      by_cases h3 : fn = 44
      · subst h3
        simp
      · simp only [if_neg h3]
        by_cases h4 : fn = 18 ∨ fn = 19 ∨ fn = 45 ∨ fn = 43 ∨ fn = 13
        · rw [if_pos h4, if_pos (by omega)]
        · rw [if_neg h4, if_neg (by omega)]
          rfl
theorem wide_unknown {fn : Int} (h : knownF fn = false) (i : Int) : wideF fn i = (false, 10) := by
  unfold wideF
  rw [arity_unknown h]
  rfl

set_option maxRecDepth 20000 in
set_option maxHeartbeats 2000000 in
theorem TreeFunctions_at (fn i : Int) (b : ByteArray) (h0 : 0 ≤ fn) (h1 : fn ≤ 255) (w : World) : Pure Try.prog 8 [.int .u8 fn, .int .i64 i, .string b] w (.bool true) := by
  refine fn_at Try.func8 rfl Try.ntmps8 rfl ?_
  have hF := Function_at b
  have hG := refFunction_at b
  generalize functionE b = q at hF hG
  cases hk : knownF fn
  · have hk' := hk
    simp only [knownF, Bool.and_eq_false_iff, decide_eq_false_iff_not] at hk'
    have e1 : nameE fn = (emptyB, 10) := by rw [nameE, if_neg (by simp [hk])]
    have e2 : refNameE fn = emptyB := by
      rw [refNameE]
      split
      · rfl
      · rw [show fn.toNat = 0 by omega]
        rfl
    have c1 := e1 ▸ Name_at fn
    have c2 := arity_unknown hk ▸ arity_at fn
    have c3 := wide_unknown hk i ▸ wide_at fn i
    have c4 := e2 ▸ refName_at fn h0 h1
    repeat' (first
      | ((with_reducible apply wl_callp); exact rfl; exact rfl; (intro w hm; exact c1 w))
      | ((with_reducible apply wl_callp); exact rfl; exact rfl; (intro w hm; exact c2 w))
      | ((with_reducible apply wl_callp); exact rfl; exact rfl; (intro w hm; exact c3 w))
      | ((with_reducible apply wl_callp); exact rfl; exact rfl; (intro w hm; exact hF w))
      | ((with_reducible apply wl_callp); exact rfl; exact rfl; (intro w hm; exact hG w))
      | ((with_reducible apply wl_callp); exact rfl; exact rfl; (intro w hm; exact c4 w))
      | ((with_reducible apply wl_callp); exact rfl; exact rfl; (intro w hm; exact awake_at w))
      | ((with_reducible apply wl_v); exact rfl; (with_reducible apply v_eqls_t); exact rfl; exact rfl; exact rfl)
      | ((with_reducible apply wl_v); exact rfl; (first | ((with_reducible apply vop_ok); exact rfl) | ((with_reducible apply v_eqlb); exact rfl; exact rfl) | ((with_reducible apply v_neqb); exact rfl; exact rfl)))
      | ((with_reducible apply wl_gyes); exact rfl; exact rfl)
      | ((with_reducible apply wl_gno_b); exact rfl; exact rfl; exact rfl; exact rfl)
      | ((with_reducible apply wl_gno_u); exact rfl; exact rfl; exact rfl)
      | ((with_reducible apply wl_gsplit) <;> first | exact rfl | (intro hb; (replace hb := Tidy.out hb; try (exfalso; omega))))
      | (with_reducible first | apply wl_nil | apply thn_n | apply w_seq | apply w_region | apply w_ret | apply w_skip | apply w_exit | apply w_block | apply thn_r | apply thn_e | apply blk_n | apply blk_r | apply blk_e)
      | ((with_reducible apply w_cond_true); exact rfl)
      | ((with_reducible apply w_cond_false); exact rfl)
      | ((with_reducible apply w_cond) <;> first | exact rfl | (intro hb; (replace hb := Tidy.out hb; try (exfalso; omega))))
      | ((with_reducible apply blk_x); exact rfl))
    ((with_reducible apply ret1); exact .inl rfl; exact rfl; exact rfl; exact MSub.nil _)
    rfl
  · have hk' := hk
    simp only [knownF, Bool.and_eq_true, decide_eq_true_eq] at hk'
    obtain ⟨j, hj⟩ := Int.eq_ofNat_of_zero_le (by omega : 0 ≤ fn - 1)
    have hne := (names_ok j (by omega)).1
    have e1 : nameE fn = (namesL.getD j emptyB, 0) := by rw [nameE, if_pos hk, hj]; rfl
    have e2 : refNameE fn = namesL.getD j emptyB := by
      rw [refNameE, if_neg (by omega), show fn.toNat = j + 1 by omega]
      rfl
    have c1 := e1 ▸ Name_at fn
    have c2 := arity_known hk ▸ arity_at fn
    have c3 := wide_known hk i ▸ wide_at fn i
    have c4 := e2 ▸ refName_at fn h0 h1
    generalize namesL.getD j emptyB = nm at hne c1 c4
    have c5 := refArity_at fn
    have c6 := refWide_at fn i
    generalize refArityE fn = ar at c2 c3 c5
    generalize refWideE fn i = wd at c3 c6
    by_cases hw : i < 0 ∨ ar.2 ≤ i
    · rw [if_pos hw] at c3
      dsimp only at c1 c2 c3
      repeat' (first
        | ((with_reducible apply wl_callp); exact rfl; exact rfl; (intro w hm; exact c1 w))
        | ((with_reducible apply wl_callp); exact rfl; exact rfl; (intro w hm; exact c2 w))
        | ((with_reducible apply wl_callp); exact rfl; exact rfl; (intro w hm; exact c3 w))
        | ((with_reducible apply wl_callp); exact rfl; exact rfl; (intro w hm; exact hF w))
        | ((with_reducible apply wl_callp); exact rfl; exact rfl; (intro w hm; exact hG w))
        | ((with_reducible apply wl_callp); exact rfl; exact rfl; (intro w hm; exact c4 w))
        | ((with_reducible apply wl_callp); exact rfl; exact rfl; (intro w hm; exact c5 w))
        | ((with_reducible apply wl_callp); exact rfl; exact rfl; (intro w hm; exact c6 w))
        | ((with_reducible apply wl_callp); exact rfl; exact rfl; (intro w hm; exact awake_at w))
        | ((with_reducible apply wl_v); exact rfl; (with_reducible apply v_eqls_t); exact rfl; exact rfl; exact rfl)
        | ((with_reducible apply wl_v); exact rfl; (with_reducible apply v_eqls_f); exact rfl; exact rfl; exact hne)
        | ((with_reducible apply wl_v); exact rfl; (with_reducible apply v_eqlb_same); exact rfl; exact rfl)
        | ((with_reducible apply wl_v); exact rfl; (first | ((with_reducible apply vop_ok); exact rfl) | ((with_reducible apply v_eqlb); exact rfl; exact rfl) | ((with_reducible apply v_neqb); exact rfl; exact rfl)))
        | ((with_reducible apply wl_gyes); exact rfl; exact rfl)
        | ((with_reducible apply wl_gno_b); exact rfl; exact rfl; exact rfl; exact rfl)
        | ((with_reducible apply wl_gno_u); exact rfl; exact rfl; exact rfl)
        | ((with_reducible apply wl_gsplit) <;> first | exact rfl | (intro hb; (replace hb := Tidy.out hb; try (exfalso; omega))))
        | (with_reducible first | apply wl_nil | apply thn_n | apply w_seq | apply w_region | apply w_ret | apply w_skip | apply w_exit | apply w_block | apply thn_r | apply thn_e | apply blk_n | apply blk_r | apply blk_e)
        | ((with_reducible apply w_cond_true); exact rfl)
        | ((with_reducible apply w_cond_false); exact rfl)
        | ((with_reducible apply w_cond) <;> first | exact rfl | (intro hb; (replace hb := Tidy.out hb; try (exfalso; omega))))
        | ((with_reducible apply blk_x); exact rfl))
      all_goals (((with_reducible apply ret1); exact .inl rfl; exact rfl; exact rfl; exact MSub.nil _); rfl)
    · rw [if_neg hw] at c3
      dsimp only at c1 c2 c3
      repeat' (first
        | ((with_reducible apply wl_callp); exact rfl; exact rfl; (intro w hm; exact c1 w))
        | ((with_reducible apply wl_callp); exact rfl; exact rfl; (intro w hm; exact c2 w))
        | ((with_reducible apply wl_callp); exact rfl; exact rfl; (intro w hm; exact c3 w))
        | ((with_reducible apply wl_callp); exact rfl; exact rfl; (intro w hm; exact hF w))
        | ((with_reducible apply wl_callp); exact rfl; exact rfl; (intro w hm; exact hG w))
        | ((with_reducible apply wl_callp); exact rfl; exact rfl; (intro w hm; exact c4 w))
        | ((with_reducible apply wl_callp); exact rfl; exact rfl; (intro w hm; exact c5 w))
        | ((with_reducible apply wl_callp); exact rfl; exact rfl; (intro w hm; exact c6 w))
        | ((with_reducible apply wl_callp); exact rfl; exact rfl; (intro w hm; exact awake_at w))
        | ((with_reducible apply wl_v); exact rfl; (with_reducible apply v_eqls_t); exact rfl; exact rfl; exact rfl)
        | ((with_reducible apply wl_v); exact rfl; (with_reducible apply v_eqls_f); exact rfl; exact rfl; exact hne)
        | ((with_reducible apply wl_v); exact rfl; (with_reducible apply v_eqlb_same); exact rfl; exact rfl)
        | ((with_reducible apply wl_v); exact rfl; (first | ((with_reducible apply vop_ok); exact rfl) | ((with_reducible apply v_eqlb); exact rfl; exact rfl) | ((with_reducible apply v_neqb); exact rfl; exact rfl)))
        | ((with_reducible apply wl_gyes); exact rfl; exact rfl)
        | ((with_reducible apply wl_gno_b); exact rfl; exact rfl; exact rfl; exact rfl)
        | ((with_reducible apply wl_gno_u); exact rfl; exact rfl; exact rfl)
        | ((with_reducible apply wl_gsplit) <;> first | exact rfl | (intro hb; (replace hb := Tidy.out hb; try (exfalso; omega))))
        | (with_reducible first | apply wl_nil | apply thn_n | apply w_seq | apply w_region | apply w_ret | apply w_skip | apply w_exit | apply w_block | apply thn_r | apply thn_e | apply blk_n | apply blk_r | apply blk_e)
        | ((with_reducible apply w_cond_true); exact rfl)
        | ((with_reducible apply w_cond_false); exact rfl)
        | ((with_reducible apply w_cond) <;> first | exact rfl | (intro hb; (replace hb := Tidy.out hb; try (exfalso; omega))))
        | ((with_reducible apply blk_x); exact rfl))
      all_goals (((with_reducible apply ret1); exact .inl rfl; exact rfl; exact rfl; exact MSub.nil _); rfl)

set_option maxRecDepth 20000 in
set_option maxHeartbeats 2000000 in
theorem TreeNames_at (fn : Int) (h0 : 0 ≤ fn) (h1 : fn ≤ 255) (w : World) : Pure Try.prog 9 [.int .u8 fn] w (.bool true) := by
  refine fn_at Try.func9 rfl Try.ntmps9 rfl ?_
  cases hk : knownF fn
  · have hk' := hk
    simp only [knownF, Bool.and_eq_false_iff, decide_eq_false_iff_not] at hk'
    have e1 : nameE fn = (emptyB, 10) := by rw [nameE, if_neg (by simp [hk])]
    have c1 := e1 ▸ Name_at fn
    have c2 := arity_unknown hk ▸ arity_at fn
    repeat' (first
      | ((with_reducible apply wl_callp); exact rfl; exact rfl; (intro w hm; exact c1 w))
      | ((with_reducible apply wl_callp); exact rfl; exact rfl; (intro w hm; exact c2 w))
      | ((with_reducible apply wl_callp); exact rfl; exact rfl; (intro w hm; exact awake_at w))
      | ((with_reducible apply wl_v); exact rfl; (first | ((with_reducible apply vop_ok); exact rfl) | ((with_reducible apply v_eqlb); exact rfl; exact rfl) | ((with_reducible apply v_neqb); exact rfl; exact rfl)))
      | ((with_reducible apply wl_gyes); exact rfl; exact rfl)
      | ((with_reducible apply wl_gno_b); exact rfl; exact rfl; exact rfl; exact rfl)
      | ((with_reducible apply wl_gno_u); exact rfl; exact rfl; exact rfl)
      | ((with_reducible apply wl_gsplit) <;> first | exact rfl | (intro hb; (replace hb := Tidy.out hb; try (exfalso; omega))))
      | (with_reducible first | apply wl_nil | apply thn_n | apply w_seq | apply w_region | apply w_ret | apply w_skip | apply w_exit | apply w_block | apply thn_r | apply thn_e | apply blk_n | apply blk_r | apply blk_e)
      | ((with_reducible apply w_cond_true); exact rfl)
      | ((with_reducible apply w_cond_false); exact rfl)
      | ((with_reducible apply w_cond) <;> first | exact rfl | (intro hb; (replace hb := Tidy.out hb; try (exfalso; omega))))
      | ((with_reducible apply blk_x); exact rfl))
    all_goals (((with_reducible apply ret1); exact .inl rfl; exact rfl; exact rfl; exact MSub.nil _); rfl)
  · have hk' := hk
    simp only [knownF, Bool.and_eq_true, decide_eq_true_eq] at hk'
    obtain ⟨j, hj⟩ := Int.eq_ofNat_of_zero_le (by omega : 0 ≤ fn - 1)
    have hfn := (names_ok j (by omega)).2
    have e1 : nameE fn = (namesL.getD j emptyB, 0) := by rw [nameE, if_pos hk, hj]; rfl
    have c1 := e1 ▸ Name_at fn
    have c2 := arity_known hk ▸ arity_at fn
    have hF := hfn ▸ Function_at (namesL.getD j emptyB)
    generalize namesL.getD j emptyB = nm at hF c1
    have hw := wide_known hk
    have ha := refArity_bound fn
    have c3 := fun i => hw i ▸ wide_at fn i
    have h46 : 46 ≤ fn → refWideE fn 0 = true := by
      intro h
      unfold refWideE
      rw [if_neg (by omega), if_neg (by omega), if_neg (by omega), if_neg (by omega)]
      simp only [Bool.and_eq_true, decide_eq_true_eq]
      omega
    generalize refArityE fn = ar at c2 c3 ha
    obtain ⟨m, hm⟩ := Int.eq_ofNat_of_zero_le (by omega : 0 ≤ ar.2)
    dsimp only at c1 c2 c3 hF
    rw [hm] at c2 c3 ha
    repeat' (first
      | ((with_reducible apply wl_callp); exact rfl; exact rfl; (intro w hm; exact c1 w))
      | ((with_reducible apply wl_callp); exact rfl; exact rfl; (intro w hm; exact c2 w))
      | ((with_reducible apply wl_callp); exact rfl; exact rfl; (intro w hm; exact hF w))
      | ((with_reducible apply wl_v); exact rfl; (first | ((with_reducible apply vop_ok); exact rfl) | ((with_reducible apply v_eqlb); exact rfl; exact rfl) | ((with_reducible apply v_neqb); exact rfl; exact rfl)))
      | ((with_reducible apply wl_gyes); exact rfl; exact rfl)
      | ((with_reducible apply wl_gno_b); exact rfl; exact rfl; exact rfl; exact rfl)
      | ((with_reducible apply wl_gno_u); exact rfl; exact rfl; exact rfl)
      | ((with_reducible apply wl_gsplit) <;> first | exact rfl | (intro hb; (replace hb := Tidy.out hb; try (exfalso; omega))))
      | (with_reducible first | apply wl_nil | apply thn_n | apply w_seq | apply w_region | apply w_ret | apply w_skip | apply w_exit | apply w_block | apply thn_r | apply thn_e | apply blk_n | apply blk_r | apply blk_e)
      | ((with_reducible apply w_cond_true); exact rfl)
      | ((with_reducible apply w_cond_false); exact rfl)
      | ((with_reducible apply w_cond) <;> first | exact rfl | (intro hb; (replace hb := Tidy.out hb; try (exfalso; omega))))
      | ((with_reducible apply blk_x); exact rfl))
    have w0' := c3 0
    rw [if_neg (by omega)] at w0'
    have wm := c3 (m : Int)
    rw [if_pos (by omega)] at wm
    refine w_loop (fun i : Nat => [(0, .int .u8 fn), (6, .int .i64 (m : Int)), (10, .int .i64 (i : Int))]) (fun _ => []) (fun i => i ≤ m) (fun i => m - i) 0 (by omega) ?_ ?_ ?_
    · (repeat (first | exact Sub.nil _ | refine Sub.cons rfl ?_))
    · (repeat (first | exact MSub.nil _ | refine MSub.pick (by (repeat first | exact .hd | apply Sel.tl | apply In.tl)) ?_ | exact MSub.refl _ | refine MSub.drop .hd ?_))
    · rintro i hi
      by_cases hlt : i < m
      · have wi := c3 (i : Int)
        rw [if_neg (by omega)] at wi
        repeat' (first
          | ((with_reducible apply wl_callp); exact rfl; exact rfl; (intro w hm; exact wi w))
          | ((with_reducible apply wl_v); exact rfl; (with_reducible apply v_succN); exact rfl; exact rfl; (simp only [maxLen]; omega))
          | ((with_reducible apply wl_v); exact rfl; (first | ((with_reducible apply vop_ok); exact rfl) | ((with_reducible apply v_eqlb); exact rfl; exact rfl) | ((with_reducible apply v_neqb); exact rfl; exact rfl)))
          | ((with_reducible apply wl_gyes); exact rfl; exact rfl)
          | ((with_reducible apply wl_gno_b); exact rfl; exact rfl; exact rfl; exact rfl)
          | ((with_reducible apply wl_gno_u); exact rfl; exact rfl; exact rfl)
          | ((with_reducible apply wl_gsplit) <;> first | exact rfl | (intro hb; (replace hb := Tidy.out hb; try (exfalso; omega))))
          | (with_reducible first | apply wl_nil | apply thn_n | apply w_seq | apply w_region | apply w_ret | apply w_skip | apply w_exit | apply w_block | apply thn_r | apply thn_e | apply blk_n | apply blk_r | apply blk_e)
          | ((with_reducible apply w_cond_true); exact rfl)
          | ((with_reducible apply w_cond_false); exact rfl)
          | ((with_reducible apply w_cond) <;> first | exact rfl | (intro hb; (replace hb := Tidy.out hb; try (exfalso; omega))))
          | ((with_reducible apply blk_x); exact rfl))
        refine ⟨i + 1, by omega, by omega, ?_, ?_⟩
        · (repeat (first | exact Sub.nil _ | refine Sub.cons rfl ?_))
        · (repeat (first | exact MSub.nil _ | refine MSub.pick (by (repeat first | exact .hd | apply Sel.tl | apply In.tl)) ?_ | exact MSub.refl _ | refine MSub.drop .hd ?_))
      · have e : i = m := by omega
        subst e
        cases hb0 : refWideE fn 0
        · have hlt46 : fn < 46 := by
            rcases Int.lt_or_le fn 46 with h | h
            · exact h
            · rw [h46 h] at hb0
              cases hb0
          rw [hb0] at w0'
          repeat' (first
            | ((with_reducible apply wl_callp); exact rfl; exact rfl; (intro w hm; exact w0' w))
            | ((with_reducible apply wl_callp); exact rfl; exact rfl; (intro w hm; exact wm w))
            | ((with_reducible apply wl_callp); exact rfl; exact rfl; (intro w hm; exact awake_at w))
            | ((with_reducible apply wl_v); exact rfl; (first | ((with_reducible apply vop_ok); exact rfl) | ((with_reducible apply v_eqlb); exact rfl; exact rfl) | ((with_reducible apply v_neqb); exact rfl; exact rfl)))
            | ((with_reducible apply wl_gyes); exact rfl; exact rfl)
            | ((with_reducible apply wl_gno_b); exact rfl; exact rfl; exact rfl; exact rfl)
            | ((with_reducible apply wl_gno_u); exact rfl; exact rfl; exact rfl)
            | ((with_reducible apply wl_gsplit) <;> first | exact rfl | (intro hb; (replace hb := Tidy.out hb; try (exfalso; omega))))
            | (with_reducible first | apply wl_nil | apply thn_n | apply w_seq | apply w_region | apply w_ret | apply w_skip | apply w_exit | apply w_block | apply thn_r | apply thn_e | apply blk_n | apply blk_r | apply blk_e)
            | ((with_reducible apply w_cond_true); exact rfl)
            | ((with_reducible apply w_cond_false); exact rfl)
            | ((with_reducible apply w_cond) <;> first | exact rfl | (intro hb; (replace hb := Tidy.out hb; try (exfalso; omega))))
            | ((with_reducible apply blk_x); exact rfl))
          all_goals (((with_reducible apply ret1); exact .inl rfl; exact rfl; exact rfl; exact MSub.nil _); rfl)
        · rw [hb0] at w0'
          repeat' (first
            | ((with_reducible apply wl_callp); exact rfl; exact rfl; (intro w hm; exact w0' w))
            | ((with_reducible apply wl_callp); exact rfl; exact rfl; (intro w hm; exact wm w))
            | ((with_reducible apply wl_callp); exact rfl; exact rfl; (intro w hm; exact awake_at w))
            | ((with_reducible apply wl_v); exact rfl; (first | ((with_reducible apply vop_ok); exact rfl) | ((with_reducible apply v_eqlb); exact rfl; exact rfl) | ((with_reducible apply v_neqb); exact rfl; exact rfl)))
            | ((with_reducible apply wl_gyes); exact rfl; exact rfl)
            | ((with_reducible apply wl_gno_b); exact rfl; exact rfl; exact rfl; exact rfl)
            | ((with_reducible apply wl_gno_u); exact rfl; exact rfl; exact rfl)
            | ((with_reducible apply wl_gsplit) <;> first | exact rfl | (intro hb; (replace hb := Tidy.out hb; try (exfalso; omega))))
            | (with_reducible first | apply wl_nil | apply thn_n | apply w_seq | apply w_region | apply w_ret | apply w_skip | apply w_exit | apply w_block | apply thn_r | apply thn_e | apply blk_n | apply blk_r | apply blk_e)
            | ((with_reducible apply w_cond_true); exact rfl)
            | ((with_reducible apply w_cond_false); exact rfl)
            | ((with_reducible apply w_cond) <;> first | exact rfl | (intro hb; (replace hb := Tidy.out hb; try (exfalso; omega))))
            | ((with_reducible apply blk_x); exact rfl))
          all_goals (((with_reducible apply ret1); exact .inl rfl; exact rfl; exact rfl; exact MSub.nil _); rfl)
end Go.SL

/-
  What Join of package tree returns.
-/
namespace Go.SL
open Go Go.Proofs
attribute [local irreducible] W WL WQ WG WA VOp thn blk retP FnAt FnIn

/-- A slice of trees reads. -/
def ReadsLL (w : World) (v : Value) (Ls : List (List Nd)) : Prop :=
  ∃ vals : List Value, vals.length = Ls.length ∧ Reads w v Ls.length vals ∧ ∀ (i : Nat) (x : Value) (L : List Nd), vals[i]? = some x → Ls[i]? = some L → Reads w x L.length (L.flatMap encN)

def joinLoop : List (List Nd) → List Nd → List Nd × Int
  | [], out => (out, 0)
  | t :: r, out => if (checkT t (decide ((t.length : Int) = 1))).1 ≠ 0 then ([], (checkT t (decide ((t.length : Int) = 1))).1) else joinLoop r (if out.length ≤ 256 then out ++ t else out)

/-- Join: the tree, and the error. -/
def joinE (root : Nd) (Ls : List (List Nd)) : List Nd × Int :=
  if (joinLoop Ls []).2 ≠ 0 then joinLoop Ls []
  else if checkE ((joinLoop Ls []).1 ++ [root]) ≠ 0 then ([], checkE ((joinLoop Ls []).1 ++ [root])) else ((joinLoop Ls []).1 ++ [root], 0)

theorem checkT_small {t : List Nd} {b : Bool} (h : (checkT t b).1 = 0) : t.length ≤ 256 := by
  unfold checkT at h
  split at h
  · cases h
  · omega

set_option maxRecDepth 20000 in
set_option maxHeartbeats 1000000 in
theorem Join_at (root : Nd) (Ls : List (List Nd)) (lv : Value) (w : World) (hl : ReadsLL w lv Ls) :
    FnAt Try.prog 30 [.agg (encN root).toArray, lv] w fun v H => ∃ A cap, v = .tuple #[sl A (joinE root Ls).1.length cap, .int .i64 (joinE root Ls).2] ∧ H = [.own A 40 11 (joinE root Ls).1.length cap ((joinE root Ls).1.flatMap encN)] := by
  obtain ⟨vals, hvl, ⟨Al, cl, rfl, hl1, hl2, hl3⟩, hel⟩ := hl
  refine fn_at Try.func30 rfl Try.ntmps30 rfl ?_
  repeat' (first
    | ((with_reducible apply wl_v); exact rfl; (first | ((with_reducible apply vop_ok); exact rfl) | ((with_reducible apply v_len); exact rfl) | ((with_reducible apply v_lens); exact rfl) | ((with_reducible apply v_load_box); exact rfl; (repeat first | exact .hd | apply Sel.tl | apply In.tl); exact rfl) | ((with_reducible apply v_eqlb); exact rfl; exact rfl) | ((with_reducible apply v_neqb); exact rfl; exact rfl) | ((with_reducible apply v_loadw_box); exact rfl; (repeat first | exact .hd | apply Sel.tl | apply In.tl); exact rfl) | ((with_reducible apply v_loadn_box); exact rfl; (repeat first | exact .hd | apply Sel.tl | apply In.tl); exact rfl; exact rfl)))
    | ((with_reducible apply wl_boxs); exact rfl; exact rfl; intro _)
    | ((with_reducible apply wl_box1); exact rfl; exact rfl; exact rfl; intro _)
    | ((with_reducible apply wl_buildSlice); exact rfl; exact rfl; exact rfl; exact rfl; exact rfl; exact rfl; exact rfl; intro _)
    | (with_reducible first | apply wl_nil | apply thn_n | apply w_seq | apply w_region | apply w_ret | apply w_skip | apply w_exit | apply w_block | apply thn_r | apply thn_e | apply blk_n | apply blk_r | apply blk_e)
    | ((with_reducible apply w_cond_true); exact rfl)
    | ((with_reducible apply w_cond_false); exact rfl)
    | ((with_reducible apply w_cond) <;> first | exact rfl | (intro hb; (replace hb := Tidy.out hb; try (exfalso; omega))))
    | ((with_reducible apply blk_x); exact rfl))
  rename_i g
  refine w_nilrow 40 11 ?_
  refine w_loopR (fun (i : Nat) s H => ∃ out A cap, s = [(2, .pointer (some ⟨g, 0, none⟩)), (6, sl A out.length cap), (11, .slice Al Ls.length cl), (12, .int .i64 (Ls.length : Int)), (13, .int .i64 (i : Int))] ∧
      H = [.own A 40 11 out.length cap (out.flatMap encN), .box g 40 (encN root)] ∧ i ≤ Ls.length ∧ out.length ≤ 512 ∧ joinLoop Ls [] = joinLoop (Ls.drop i) out) (fun i => Ls.length - i) 0 ?_ ?_
  · refine ⟨_, _, ?_, ?_, ⟨[], none, 0, rfl, rfl, by omega, by simp, rfl⟩⟩
    · (repeat (first | exact Sub.nil _ | refine Sub.cons rfl ?_))
    · (repeat (first | exact MSub.nil _ | refine MSub.pick (by (repeat first | exact .hd | apply Sel.tl | apply In.tl)) ?_ | exact MSub.refl _ | refine MSub.drop .hd ?_))
  · rintro i _ _ ⟨out, A, cap, rfl, rfl, hi, ho, hrec⟩
    have hfl : (out.flatMap encN).length = out.length * 11 := flat_length' encN_len out
    by_cases hlt : i < Ls.length
    · obtain ⟨gl, ol, rfl, hrl⟩ := hl3 (by omega)
      have hx := List.getElem?_eq_getElem (show i < vals.length by omega)
      have hL := List.getElem?_eq_getElem hlt
      have hr1 := hrl.cellV i hx
      have hR := hel i _ _ hx hL
      have hR' := hR
      rw [List.drop_eq_getElem_cons hlt, joinLoop] at hrec
      generalize Ls[i] = L at hR hR' hrec
      obtain ⟨Ax, cx, hv, hx1, hx2, hx3⟩ := hR
      rw [hv] at hr1 hR'
      have hchk := fun H0 => check_in L (decide ((L.length : Int) = 1)) _ w hR' 62 [] (fun _ H => H = H0) (visits_nothing _ w H0) H0 rfl
      have hsm := checkT_small (t := L) (b := decide ((L.length : Int) = 1))
      generalize checkT L (decide ((L.length : Int) = 1)) = r at hchk hsm hrec
      have hfl2 : (L.flatMap encN).length = L.length * 11 := flat_length' encN_len L
      repeat' (first
        | ((with_reducible apply wl_v); exact rfl; (with_reducible apply v_indexAddr); exact rfl; exact rfl; exact hlt)
        | ((with_reducible apply wl_v); exact rfl; (with_reducible apply v_load1_ro); exact rfl; exact hr1)
        | ((with_reducible apply wl_callin); exact rfl; exact rfl; exact hchk _; (rintro v H' ⟨rfl, rfl⟩; refine wl_nilrow 40 11 ?_))
        | ((with_reducible apply wl_appendR (A := A) (m := L.length)); exact rfl; exact rfl; exact rfl; (repeat first | exact .hd | apply Sel.tl | apply In.tl); (intro w hm; exact hR'.of_w0 hm); exact hfl2; exact encNs_one L; omega; (simp only [maxLen]; omega); intro A' cap' hA)
        | ((with_reducible apply wl_v); exact rfl; (with_reducible apply v_succN); exact rfl; exact rfl; (simp only [maxLen] at *; omega))
        | ((with_reducible apply wl_v); exact rfl; (first | ((with_reducible apply vop_ok); exact rfl) | ((with_reducible apply v_len); exact rfl) | ((with_reducible apply v_lens); exact rfl) | ((with_reducible apply v_load_box); exact rfl; (repeat first | exact .hd | apply Sel.tl | apply In.tl); exact rfl) | ((with_reducible apply v_eqlb); exact rfl; exact rfl) | ((with_reducible apply v_neqb); exact rfl; exact rfl) | ((with_reducible apply v_loadw_box); exact rfl; (repeat first | exact .hd | apply Sel.tl | apply In.tl); exact rfl) | ((with_reducible apply v_loadn_box); exact rfl; (repeat first | exact .hd | apply Sel.tl | apply In.tl); exact rfl; exact rfl)))
        | ((with_reducible apply wl_boxs); exact rfl; exact rfl; intro _)
        | ((with_reducible apply wl_box1); exact rfl; exact rfl; exact rfl; intro _)
        | ((with_reducible apply wl_buildSlice); exact rfl; exact rfl; exact rfl; exact rfl; exact rfl; exact rfl; exact rfl; intro _)
        | (with_reducible first | apply wl_nil | apply thn_n | apply w_seq | apply w_region | apply w_ret | apply w_skip | apply w_exit | apply w_block | apply thn_r | apply thn_e | apply blk_n | apply blk_r | apply blk_e)
        | ((with_reducible apply w_cond_true); exact rfl)
        | ((with_reducible apply w_cond_false); exact rfl)
        | ((with_reducible apply w_cond) <;> first | exact rfl | (intro hb; (replace hb := Tidy.out hb; try (exfalso; omega))))
        | ((with_reducible apply blk_x); exact rfl))
      · refine ret2 (.inl rfl) Try.results30 rfl rfl (H' := [.own none 40 11 0 0 []]) (by (repeat (first | exact MSub.nil _ | refine MSub.pick (by (repeat first | exact .hd | apply Sel.tl | apply In.tl)) ?_ | exact MSub.refl _ | refine MSub.drop .hd ?_))) ⟨none, 0, ?_⟩
        rw [if_pos hb] at hrec
        rw [joinE, hrec, if_pos hb]
        exact ⟨rfl, rfl⟩
      · have e1 : (out ++ L).length = out.length + L.length := List.length_append
        have e2 : (out ++ L).flatMap encN = out.flatMap encN ++ L.flatMap encN := List.flatMap_append
        refine ⟨i + 1, _, _, ?_, ?_, ?_, ⟨out ++ L, A', cap', rfl, rfl, by omega, ?_, ?_⟩⟩
        · omega
        · rw [e1]
          (repeat (first | exact Sub.nil _ | refine Sub.cons rfl ?_))
        · rw [e1, e2]
          (repeat (first | exact MSub.nil _ | refine MSub.pick (by (repeat first | exact .hd | apply Sel.tl | apply In.tl)) ?_ | exact MSub.refl _ | refine MSub.drop .hd ?_))
        · have := hsm (by omega)
          omega
        · rw [hrec, if_neg (by omega), if_pos (by omega)]
      · refine ⟨i + 1, _, _, ?_, ?_, ?_, ⟨out, A, cap, rfl, rfl, by omega, ho, ?_⟩⟩
        · omega
        · (repeat (first | exact Sub.nil _ | refine Sub.cons rfl ?_))
        · (repeat (first | exact MSub.nil _ | refine MSub.pick (by (repeat first | exact .hd | apply Sel.tl | apply In.tl)) ?_ | exact MSub.refl _ | refine MSub.drop .hd ?_))
        · rw [hrec, if_neg (by omega), if_neg (by omega)]
    · have e : i = Ls.length := by omega
      subst e
      rw [List.drop_length, joinLoop] at hrec
      have e1 : (out ++ [root]).length = out.length + 1 := by simp
      have e2 : (out ++ [root]).flatMap encN = out.flatMap encN ++ encN root := by simp
      have hck := Check_at (out ++ [root])
      rw [joinE, hrec, if_neg (by simp)]
      generalize checkE (out ++ [root]) = e at hck
      rw [e1, e2] at hck
      refine w_nilrow 40 11 ?_
      repeat' (first
        | ((with_reducible apply wl_append); exact rfl; exact rfl; exact rfl; (repeat first | exact .hd | apply Sel.tl | apply In.tl); (intro w hm; exact hm.cells_own (by (repeat first | exact .hd | apply Sel.tl | apply In.tl))); exact rfl; (simp [Value.oneCell', sl]); omega; (simp only [maxLen]; omega); (intro A' cap' hA'))
        | ((with_reducible apply wl_callp); exact rfl; exact rfl; (intro w' hm; exact hck _ w' (Reads.of_own hm (by (repeat first | exact .hd | apply Sel.tl | apply In.tl)))))
        | ((with_reducible apply wl_v); exact rfl; (first | ((with_reducible apply vop_ok); exact rfl) | ((with_reducible apply v_len); exact rfl) | ((with_reducible apply v_lens); exact rfl) | ((with_reducible apply v_load_box); exact rfl; (repeat first | exact .hd | apply Sel.tl | apply In.tl); exact rfl) | ((with_reducible apply v_eqlb); exact rfl; exact rfl) | ((with_reducible apply v_neqb); exact rfl; exact rfl) | ((with_reducible apply v_loadw_box); exact rfl; (repeat first | exact .hd | apply Sel.tl | apply In.tl); exact rfl) | ((with_reducible apply v_loadn_box); exact rfl; (repeat first | exact .hd | apply Sel.tl | apply In.tl); exact rfl; exact rfl)))
        | ((with_reducible apply wl_boxs); exact rfl; exact rfl; intro _)
        | ((with_reducible apply wl_box1); exact rfl; exact rfl; exact rfl; intro _)
        | ((with_reducible apply wl_buildSlice); exact rfl; exact rfl; exact rfl; exact rfl; exact rfl; exact rfl; exact rfl; intro _)
        | (with_reducible first | apply wl_nil | apply thn_n | apply w_seq | apply w_region | apply w_ret | apply w_skip | apply w_exit | apply w_block | apply thn_r | apply thn_e | apply blk_n | apply blk_r | apply blk_e)
        | ((with_reducible apply w_cond_true); exact rfl)
        | ((with_reducible apply w_cond_false); exact rfl)
        | ((with_reducible apply w_cond) <;> first | exact rfl | (intro hb; (replace hb := Tidy.out hb; try (exfalso; omega))))
        | ((with_reducible apply blk_x); exact rfl))
      · refine ret2 (.inl rfl) Try.results30 rfl rfl (H' := [.own none 40 11 0 0 []]) (by (repeat (first | exact MSub.nil _ | refine MSub.pick (by (repeat first | exact .hd | apply Sel.tl | apply In.tl)) ?_ | exact MSub.refl _ | refine MSub.drop .hd ?_))) ⟨none, 0, ?_⟩
        rw [if_pos hb]
        exact ⟨rfl, rfl⟩
      · refine ret2 (.inl rfl) Try.results30 rfl rfl (H' := [.own A' 40 11 (out.length + 1) cap' (out.flatMap encN ++ encN root)]) (by (repeat (first | exact MSub.nil _ | refine MSub.pick (by (repeat first | exact .hd | apply Sel.tl | apply In.tl)) ?_ | exact MSub.refl _ | refine MSub.drop .hd ?_))) ⟨A', cap', ?_⟩
        rw [if_neg (by omega), e1, e2]
        exact ⟨rfl, rfl⟩
end Go.SL

/-
  More readings of arguments: rows of whatever reads, structs, pairs, rows of rows.
-/
namespace Go.SL
open Go Go.Proofs Go.ChangeShapes Go.WideShapes Go.ChangeAt Go.RowKit Go.Deep

section
variable {H : Type} {enc : TypeId × Value → H} {w : World} {base : Nat} {spare : Nat → Bool} {held : Bool}

/-- A slice, its elements read one by one. -/
theorem open_rows {α : Type} [Inhabited α] {encA : α → List Value} {ok : α → Prop} {P : Program} {t e m fuel : Nat} {cs : List Value} {x : DataW H × List MemPlace} (ht : P.underlying t = some (.slice e)) (hm : P.cellsOf e = m) (hm0 : 0 < m) (hlenA : ∀ a, (encA a).length = m)
    (helem : ∀ (n : Nat) (cs : List Value) (y : DataW H × List MemPlace), DataW.trod enc P w 0 spare held n e cs = some y → ∃ a, cs = encA a ∧ ok a) (h : DataW.trod enc P w 0 spare held fuel t cs = some x) :
    ∃ (v : Value) (L : List α), cs = [v] ∧ Reads w v L.length (L.flatMap encA) ∧ ∀ a ∈ L, ok a := by
  rcases open_slice ht h with ⟨h0, _⟩ | ⟨a, len, cap, mm, n, D, Pl, h0, hb, hl, hmx, hmm, _, hx⟩
  · exact ⟨_, [], h0, ⟨none, 0, rfl, Nat.le_refl _, Nat.zero_le _, fun h => by cases h⟩, fun _ h => by cases h⟩
  · have hlm : len ≤ mm := by rw [hmm]; split <;> omega
    obtain ⟨F, hF⟩ := choose_lt (α := α) (n := len) (p := fun i nd => w.cells? 0 (a.add (i * m)) m = some (encA nd) ∧ ok nd) (fun i hi => by
      obtain ⟨cs', h1, h2⟩ := hx i (by omega)
      rw [hm] at h1
      obtain ⟨nd, rfl, hw⟩ := helem _ _ _ h2
      exact ⟨nd, h1, hw⟩)
    have hlen : ((List.range len).map F).length = len := by simp
    refine ⟨_, (List.range len).map F, h0, ⟨some a, cap, by rw [hlen], by omega, hmx, fun hpos => ?_⟩, fun n hn => ?_⟩
    rotate_left
    · obtain ⟨i, hi, rfl⟩ := List.mem_map.1 hn
      exact (hF i (List.mem_range.1 hi)).2
    rw [hlen] at hpos
    obtain ⟨g, o, spot⟩ := a
    have hspot : spot = none := by
      obtain ⟨_, _, h3⟩ := World.cells?_some (hF 0 (by omega)).1
      have h4' := h3 0 hm0
      rw [List.getElem?_eq_getElem (by rw [hlenA]; exact hm0)] at h4'
      have h4 := World.cell?_spot h4'
      simpa [Addr.add] using h4
    subst hspot
    have hcell : ∀ (i : Nat) (nd : α), ((List.range len).map F)[i]? = some nd → Cells w g (o + i * m) (encA nd) := by
      intro i nd hnd k v hv
      have hil : i < len := by have := (List.getElem?_eq_some_iff.1 hnd).1; omega
      have hnd' : F i = nd := by simpa [hil] using hnd
      subst hnd'
      have hk : k < m := by have := (List.getElem?_eq_some_iff.1 hv).1; rwa [hlenA] at this
      obtain ⟨_, _, h3⟩ := World.cells?_some (hF i hil).1
      have := h3 k hk
      rw [hv, addr_add, addr_add] at this
      exact this
    refine ⟨g, o, rfl, ?_, cells_flat hlenA w g o _ hcell⟩
    obtain ⟨u, hu⟩ : ∃ u, (encA (F 0))[0]? = some u := ⟨_, List.getElem?_eq_getElem (by rw [hlenA]; exact hm0)⟩
    have h5 := hcell 0 (F 0) (by simp [hpos]) 0 u hu
    simp only [World.cell?] at h5
    split at h5
    · rename_i h6
      exact (Array.getElem?_eq_some_iff.1 h6).1
    · cases h5

set_option maxRecDepth 100000 in
theorem cells_tree {fuel : Nat} {cs : List Value} {x : DataW H × List MemPlace} (h : DataW.trod enc Try.prog w 0 spare held fuel 22 cs = some x) : ∃ (v : Value) (L : List Nd), cs = [v] ∧ Reads w v L.length (L.flatMap encN) ∧ ∀ n ∈ L, okN n :=
  open_rows Try.underlying22 (by kernel_rfl) (by decide) encN_len (fun _ _ _ h => trod_node h) h

set_option maxRecDepth 100000 in
/-- An argument that is a slice of trees. -/
theorem open_trees {v : Value} {d : DataW H} {p : List MemPlace} (hv : Value.okWide Try.prog w .any base 43 v) (h : DataW.Trod enc Try.prog w 0 spare held 43 v d p) : ∃ Ls : List (List Nd), ReadsLL w v Ls ∧ ∀ L ∈ Ls, ∀ n ∈ L, okN n := by
  obtain ⟨fuel, hf⟩ := h
  have hc : v.cells.toList = [v] := by
    obtain ⟨a, n, c, rfl⟩ := okWide_slice Try.underlying43 hv
    rfl
  rw [hc] at hf
  letI : Inhabited (Value × List Nd) := ⟨(undef, [])⟩
  obtain ⟨u, R, he, hr, hok⟩ := open_rows (α := Value × List Nd) (encA := fun a => [a.1]) (ok := fun a => Reads w a.1 a.2.length (a.2.flatMap encN) ∧ ∀ n ∈ a.2, okN n) (m := 1) Try.underlying43 (by kernel_rfl) (by decide) (fun _ => rfl)
    (fun n cs y hy => by
      obtain ⟨v, L, rfl, h1, h2⟩ := cells_tree hy
      exact ⟨(v, L), rfl, h1, h2⟩) hf
  simp only [List.cons.injEq, and_true] at he
  subst he
  have hfl : ∀ R : List (Value × List Nd), R.flatMap (fun a => [a.1]) = R.map (·.1) := fun R => by
    induction R with
    | nil => rfl
    | cons a r ih => rw [List.flatMap_cons, ih]; rfl
  rw [hfl R] at hr
  refine ⟨R.map (·.2), ⟨R.map (·.1), by simp, by simpa using hr, fun i x L hx hL => ?_⟩, fun L hL => ?_⟩
  · simp only [List.getElem?_map, Option.map_eq_some_iff] at hx hL
    obtain ⟨a, ha, rfl⟩ := hx
    obtain ⟨b, hb, rfl⟩ := hL
    have e : a = b := Option.some.inj (ha.symm.trans hb)
    subst e
    exact (hok a (List.mem_of_getElem? ha)).1
  · obtain ⟨a, ha, rfl⟩ := List.mem_map.1 hL
    exact (hok a ha).2

set_option maxRecDepth 100000 in
theorem open_node {v : Value} {d : DataW H} {p : List MemPlace} (hv : Value.okWide Try.prog w .any base 40 v) (h : DataW.Trod enc Try.prog w 0 spare held 40 v d p) : ∃ n : Nd, v = .agg (encN n).toArray ∧ okN n := by
  obtain ⟨fuel, hf⟩ := h
  obtain ⟨cs, rfl, _⟩ := okWide_struct Try.underlying40 hv
  obtain ⟨n, e, hn⟩ := trod_node hf
  exact ⟨n, by rw [← e]; simp [Value.cells], hn⟩

set_option maxRecDepth 100000 in
theorem open_rect {v : Value} {d : DataW H} {p : List MemPlace} (hv : Value.okWide Try.prog w .any base 38 v) (h : DataW.Trod enc Try.prog w 0 spare held 38 v d p) : ∃ r : Rct, v = .agg (encR r).toArray ∧ okR r := by
  obtain ⟨fuel, hf⟩ := h
  obtain ⟨cs, rfl, _⟩ := okWide_struct Try.underlying38 hv
  obtain ⟨r, e, hr⟩ := trod_rect hf
  exact ⟨r, by rw [← e]; simp [Value.cells], hr⟩
end

end Go.SL

/-
  What the history of a walk tells: parents, the nodes below a node, where a tree begins. No program in sight.
-/
namespace Go.SL
open Go

theorem walkF_ind (P : List STree → Hist → Prop) (hs : ∀ dn n st h l top, Inv dn st h → P st h → stepF n st = .inr (l, top) → P (l ++ [nodeF n top]) (h ++ [(top, nodeF n top)])) :
    ∀ (r dn : List Nd) (st : List STree) (h : Hist) (st' : List STree) (h' : Hist), Inv dn st h → P st h → walkF r st h = (0, st', h') → P st' h'
  | [], dn, st, h, st', h', hI, hP, hw => by
    simp only [walkF, Prod.mk.injEq] at hw
    obtain ⟨_, rfl, rfl⟩ := hw
    exact hP
  | n :: r, dn, st, h, st', h', hI, hP, hw => by
    rw [walkF] at hw
    cases hsf : stepF n st with
    | inl e =>
      rw [hsf] at hw
      simp only [Prod.mk.injEq] at hw
      obtain ⟨rfl, _⟩ := hw
      exfalso
      unfold stepF at hsf
      split at hsf
      · injection hsf with hs
        exact absurd hs (by assumption)
      · split at hsf
        · cases hsf
        · split at hsf <;> cases hsf
    | inr x =>
      obtain ⟨l, top⟩ := x
      rw [hsf] at hw
      exact walkF_ind P hs r _ _ _ _ _ (hI.step hsf).1 (hs _ _ _ _ _ _ hI hP hsf) hw

/-! ### The tree at a root -/

structure RootOk (st : List STree) (h : Hist) : Prop where
  root : ∀ a S b, st = a ++ S :: b → ∃ top, h[(flatS a).length + S.ns.length - 1]? = some (top, S)
  kid : ∀ j y, h[j]? = some y → ∀ a S b, y.1 = a ++ S :: b → ∃ top, h[lo j y + (flatS a).length + S.ns.length - 1]? = some (top, S)

theorem get_snoc {α : Type} {l : List α} {a x : α} {i : Nat} (h : l[i]? = some x) : (l ++ [a])[i]? = some x := by
  rw [List.getElem?_append_left (List.getElem?_eq_some_iff.1 h).1]; exact h

/-- What a step makes of the stack. -/
theorem Inv.facts {dn : List Nd} {st : List STree} {h : Hist} (hI : Inv dn st h) {n : Nd} {l top : List STree} (hs : stepF n st = .inr (l, top)) :
    st = l ++ top ∧ (flatS l).length + (flatS top).length = h.length ∧ lo h.length (top, nodeF n top) = (flatS l).length ∧ (∀ S ∈ l, 0 < S.ns.length) ∧ (∀ S ∈ top, 0 < S.ns.length) := by
  obtain ⟨hI', rfl⟩ := hI.step hs
  have h1 : (flatS l).length + (flatS top).length = h.length := by rw [hI.len, ← hI.flat, flatS_append, List.length_append]
  refine ⟨rfl, h1, by simp only [lo, nodeF_len]; omega, fun S hS => (hI.good S (List.mem_append_left _ hS)).pos, fun S hS => (hI.good S (List.mem_append_right _ hS)).pos⟩

theorem rootOk_step {dn : List Nd} {n : Nd} {st : List STree} {h : Hist} {l top : List STree} (hI : Inv dn st h) (hP : RootOk st h) (hs : stepF n st = .inr (l, top)) : RootOk (l ++ [nodeF n top]) (h ++ [(top, nodeF n top)]) := by
  obtain ⟨rfl, hlen, hlo, hl, ht⟩ := hI.facts hs
  refine ⟨fun a S b hab => ?_, fun j y hy a S b hab => ?_⟩
  · rcases List.append_eq_append_iff.1 hab with ⟨c, hc1, hc2⟩ | ⟨c, hc1, hc2⟩
    · cases c with
      | nil =>
        simp only [List.nil_append, List.cons.injEq] at hc2
        obtain ⟨rfl, _⟩ := hc2
        rw [List.append_nil] at hc1
        subst hc1
        refine ⟨top, ?_⟩
        rw [nodeF_len, show (flatS a).length + ((flatS top).length + 1) - 1 = h.length by omega]
        simp
      | cons T c' =>
        exfalso
        have := congrArg List.length hc2
        simp at this
    · subst hc1
      cases c with
      | nil =>
        simp only [List.nil_append, List.cons.injEq] at hc2
        obtain ⟨rfl, _⟩ := hc2
        refine ⟨top, ?_⟩
        rw [List.append_nil] at hlen
        rw [nodeF_len, show (flatS a).length + ((flatS top).length + 1) - 1 = h.length by omega]
        simp
      | cons T c' =>
        simp only [List.cons_append, List.cons.injEq] at hc2
        obtain ⟨rfl, _⟩ := hc2
        obtain ⟨t, h1⟩ := hP.root a S (c' ++ top) (by simp)
        exact ⟨t, get_snoc h1⟩
  · rcases snoc_get hy with ⟨hj, hy⟩ | ⟨rfl, rfl⟩
    · obtain ⟨t, h1⟩ := hP.kid j y hy a S b hab
      exact ⟨t, get_snoc h1⟩
    · dsimp only at hab
      subst hab
      obtain ⟨t, h1⟩ := hP.root (l ++ a) S b (by simp)
      refine ⟨t, get_snoc ?_⟩
      rw [hlo]
      rw [flatS_append, List.length_append] at h1
      exact h1

/-! ### Parents -/

def setAll (o : List Int) (ks : List Nat) (v : Int) : List Int := ks.foldl (fun o k => o.set k v) o
theorem setAll_length (o : List Int) (ks : List Nat) (v : Int) : (setAll o ks v).length = o.length := by
  unfold setAll
  induction ks generalizing o with
  | nil => rfl
  | cons k r ih => rw [List.foldl_cons, ih, List.length_set]
theorem setAll_get (o : List Int) (ks : List Nat) (v : Int) (k : Nat) (hk : k < o.length) : (setAll o ks v)[k]? = if k ∈ ks then some v else o[k]? := by
  unfold setAll
  induction ks generalizing o with
  | nil => simp
  | cons j r ih =>
    rw [List.foldl_cons, ih (o.set j v) (by simpa using hk), List.getElem?_set]
    by_cases h1 : k ∈ r
    · simp [h1]
    · by_cases h2 : j = k
      · subst h2; simp [hk]
      · simp [h1, h2]
        exact fun e => absurd e.symm h2

def parStep (o : List Int) (x : (List STree × STree) × Nat) : List Int := setAll (o ++ [-1]) (kidsH x.2 x.1) (x.2 : Int)
def parH (h : Hist) : List Int := h.zipIdx.foldl parStep []
theorem parH_snoc (h : Hist) (x : List STree × STree) : parH (h ++ [x]) = setAll (parH h ++ [-1]) (kidsH h.length x) (h.length : Int) := by
  simp [parH, List.zipIdx_append, parStep]

structure ParOk (st : List STree) (h : Hist) : Prop where
  len : (parH h).length = h.length
  kid : ∀ j y, h[j]? = some y → ∀ k ∈ kidsH j y, (parH h)[k]? = some (j : Int)
  root : ∀ k ∈ rootsFrom 0 st, (parH h)[k]? = some (-1)

theorem parOk_step {dn : List Nd} {n : Nd} {st : List STree} {h : Hist} {l top : List STree} (hI : Inv dn st h) (hP : ParOk st h) (hs : stepF n st = .inr (l, top)) : ParOk (l ++ [nodeF n top]) (h ++ [(top, nodeF n top)]) := by
  have hI' := (hI.step hs).1
  obtain ⟨rfl, hlen, hlo, hl, ht⟩ := hI.facts hs
  have hL : (parH h ++ [-1]).length = h.length + 1 := by simp [hP.len]
  have hkn : ∀ k ∈ kidsH h.length (top, nodeF n top), (flatS l).length ≤ k ∧ k < h.length := fun k hk => by
    rw [kidsH, hlo] at hk
    have := roots_lt ht hk
    omega
  have hkr : ∀ k, k ∈ kidsH h.length (top, nodeF n top) ↔ k ∈ rootsFrom (0 + (flatS l).length) top := fun k => by rw [kidsH, hlo, Nat.zero_add]
  refine ⟨by rw [parH_snoc, setAll_length, hL]; simp, fun j y hy k hk => ?_, fun k hk => ?_⟩
  · have hkj : k < (h ++ [(top, nodeF n top)]).length := by
      obtain ⟨m, _, e2, e3, _, e5, _⟩ := hI'.node j y hy
      have h1 := roots_lt (fun T hT => (e3 T hT).pos) hk
      have h2 : y.2.ns.length = (flatS y.1).length + 1 := by rw [e2, nodeF_len]
      have h3 := (List.getElem?_eq_some_iff.1 hy).1
      simp only [lo] at h1
      omega
    rw [parH_snoc, setAll_get _ _ _ _ (by rw [hL]; simpa using hkj)]
    rcases snoc_get hy with ⟨hj, hy'⟩ | ⟨rfl, rfl⟩
    · rw [if_neg]
      · have h1 := hP.kid j y hy' k hk
        rw [List.getElem?_append_left (List.getElem?_eq_some_iff.1 h1).1]
        exact h1
      · intro hm
        have := hI'.one j h.length y (top, nodeF n top) hy (by simp) k hk hm
        omega
    · rw [if_pos hk]
  · rw [rootsFrom_append] at hk
    rcases List.mem_append.1 hk with hk | hk
    · have h1 := roots_lt hl hk
      rw [parH_snoc, setAll_get _ _ _ _ (by rw [hL]; omega), if_neg]
      · have h2 := hP.root k (by rw [rootsFrom_append]; exact List.mem_append_left _ hk)
        rw [List.getElem?_append_left (List.getElem?_eq_some_iff.1 h2).1]
        exact h2
      · intro hm
        have := hkn k hm
        omega
    · simp only [rootsFrom, nodeF_len, List.mem_singleton] at hk
      have hkh : k = h.length := by omega
      subst hkh
      rw [parH_snoc, setAll_get _ _ _ _ (by rw [hL]; omega), if_neg]
      · rw [List.getElem?_append_right (by rw [hP.len]; exact Nat.le_refl _), hP.len]
        simp
      · intro hm
        have := hkn _ hm
        omega

/-! ### A tree that is checked -/

/-- All that the walk tells of a tree without an error. -/
structure Whole (L : List Nd) (S : STree) (h : Hist) : Prop where
  walk : walkF L [] [] = (0, [S], h)
  ns : S.ns = L
  good : Good S
  inv : Inv L [S] h
  rootOk : RootOk [S] h
  parOk : ParOk [S] h
  pos : 0 < L.length
  last : ∃ top, h[L.length - 1]? = some (top, S)

theorem whole_of {L : List Nd} {st : List STree} {h : Hist} (hw : walkF L [] [] = (0, st, h)) : ∃ S, st = [S] ∧ Whole L S h := by
  obtain ⟨S, rfl, h1, h2, h3⟩ := walk_good hw
  have h4 := walkF_ind RootOk (fun dn n st h l top => rootOk_step) L [] [] [] _ _ Inv.nil ⟨fun a S b hab => (by simp at hab), fun j y hy => (by simp at hy)⟩ hw
  have h5 := walkF_ind ParOk (fun dn n st h l top => parOk_step) L [] [] [] _ _ Inv.nil ⟨rfl, fun j y hy => (by simp at hy), fun k hk => (by simp [rootsFrom] at hk)⟩ hw
  refine ⟨S, rfl, hw, h1, h2, h3, h4, h5, by rw [← h1]; exact h2.pos, ?_⟩
  obtain ⟨top, h6⟩ := h4.root [] S [] rfl
  rw [h1] at h6
  simp only [flatS, List.flatMap_nil, List.length_nil, Nat.zero_add] at h6
  exact ⟨top, h6⟩

theorem walkT_err {L r : List Nd} {i : Nat} {st : List Pt} {vs : List Visit} : (walkT L r i st vs).1 = 0 ∨ (walkT L r i st vs).1 ≠ 0 := by omega

/-- What Check says of a tree: the walk is whole, and the root is no range. -/
theorem check_whole {L : List Nd} (h : checkE L = 0) : L.length ≤ 256 ∧ ∃ S H, Whole L S H ∧ S.kind ≠ 3 ∧ checkT L false = (0, visitsOf H) := by
  have hsm : L.length ≤ 256 ∧ 0 < L.length ∧ (walkT L L 0 [] []).1 = 0 ∧ kindAt L (L.length - 1) ≠ 3 ∧ checkT L false = (0, (walkT L L 0 [] []).2) := by
    unfold checkE at h
    unfold checkT at h ⊢
    split at h
    · cases h
    rename_i h1
    split at h
    · cases h
    rename_i h2
    split at h
    · rename_i h3
      exact absurd h h3
    rename_i h3
    split at h
    · cases h
    rename_i h4
    rw [if_neg h1, if_neg h2, if_neg h3, if_neg h4]
    exact ⟨by omega, by omega, by omega, fun e => h4 ⟨rfl, e⟩, rfl⟩
  obtain ⟨h1, h2, h3, h4, h5⟩ := hsm
  rw [walkT_walkF] at h3 h5
  dsimp only at h3 h5
  have hw : walkF L [] [] = (0, (walkF L [] []).2.1, (walkF L [] []).2.2) := by rw [← h3]
  obtain ⟨S, e, hW⟩ := whole_of hw
  refine ⟨h1, S, _, hW, ?_, h5⟩
  rw [STree.kind, hW.ns, List.getLast?_eq_getElem?]
  exact h4

theorem visitsOf_get (h : Hist) (i : Nat) : (visitsOf h)[i]? = (h[i]?).map fun x => (kidsH i x, x.2.d) := by
  simp only [visitsOf, List.getElem?_map, List.getElem?_zipIdx]
  cases h[i]? <;> simp
theorem visitsOf_length (h : Hist) : (visitsOf h).length = h.length := by simp [visitsOf]

theorem kidsE_whole {L : List Nd} {H : Hist} (hc : checkE L = 0) (ht : checkT L false = (0, visitsOf H)) {i : Nat} {x : List STree × STree} (hx : H[i]? = some x) (hi : i < L.length) : kidsE L (i : Int) = (kidsH i x, 0) := by
  unfold kidsE
  rw [if_neg (by omega), if_neg (by omega), ht]
  simp only [kidsAt]
  rw [if_pos (by omega), Int.toNat_natCast, visitsOf_get, hx]
  rfl

/-! ### Two lists that rise, with the same members -/

theorem rise_ext : ∀ {a b : List Nat}, a.Pairwise (· < ·) → b.Pairwise (· < ·) → (∀ k, k ∈ a ↔ k ∈ b) → a = b
  | [], [], _, _, _ => rfl
  | [], y :: b, _, _, h => by have := (h y).2 List.mem_cons_self; cases this
  | x :: a, [], _, _, h => by have := (h x).1 List.mem_cons_self; cases this
  | x :: a, y :: b, ha, hb, h => by
    have ha' := List.pairwise_cons.1 ha
    have hb' := List.pairwise_cons.1 hb
    have hxy : x = y := by
      have h1 := (h x).1 List.mem_cons_self
      have h2 := (h y).2 List.mem_cons_self
      rcases List.mem_cons.1 h1 with h1 | h1
      · exact h1
      · rcases List.mem_cons.1 h2 with h2 | h2
        · exact h2.symm
        · have := ha'.1 y h2
          have := hb'.1 x h1
          omega
    subst hxy
    rw [rise_ext ha'.2 hb'.2 fun k => ?_]
    constructor
    · intro hk
      have h1 := (h k).1 (List.mem_cons_of_mem _ hk)
      rcases List.mem_cons.1 h1 with rfl | h1
      · have := ha'.1 _ hk; omega
      · exact h1
    · intro hk
      have h1 := (h k).2 (List.mem_cons_of_mem _ hk)
      rcases List.mem_cons.1 h1 with rfl | h1
      · have := hb'.1 _ hk; omega
      · exact h1

/-- The nodes directly below node i, by the parents. -/
def underL (P : List Int) (i : Nat) : List Nat := (List.range i).filter fun k => decide (P[k]? = some (i : Int))

theorem kidsH_rise {L : List Nd} {S : STree} {H : Hist} (hW : Whole L S H) {i : Nat} {x : List STree × STree} (hx : H[i]? = some x) : (kidsH i x).Pairwise (· < ·) ∧ ∀ k ∈ kidsH i x, lo i x ≤ k ∧ k < i := by
  obtain ⟨m, _, e2, e3, _, e5, _⟩ := hW.inv.node i x hx
  have hp : ∀ T ∈ x.1, 0 < T.ns.length := fun T hT => (e3 T hT).pos
  refine ⟨roots_inc hp, fun k hk => ?_⟩
  have h1 := roots_lt hp hk
  have h2 : x.2.ns.length = (flatS x.1).length + 1 := by rw [e2, nodeF_len]
  simp only [lo] at h1 ⊢
  omega

theorem under_eq {L : List Nd} {S : STree} {H : Hist} (hW : Whole L S H) {i : Nat} {x : List STree × STree} (hx : H[i]? = some x) : underL (parH H) i = kidsH i x := by
  obtain ⟨h1, h2⟩ := kidsH_rise hW hx
  refine rise_ext (List.Pairwise.filter _ List.pairwise_lt_range) h1 fun k => ?_
  simp only [underL, List.mem_filter, List.mem_range, decide_eq_true_eq]
  constructor
  · rintro ⟨hk, hp⟩
    have hkl : k < H.length := by have := (List.getElem?_eq_some_iff.1 hx).1; omega
    rcases hW.inv.up k hkl with hr | ⟨j, y, hy, hkj⟩
    · have := hW.parOk.root k hr
      rw [hp] at this
      injection this with this
      omega
    · have := hW.parOk.kid j y hy k hkj
      rw [hp] at this
      injection this with this
      have e : i = j := by omega
      subst e
      rw [hx] at hy
      injection hy with hy
      subst hy
      exact hkj
  · intro hk
    exact ⟨(h2 k hk).2, hW.parOk.kid i x hx k hk⟩

/-! ### Where the tree of a node begins -/

theorem lo_first {L : List Nd} {S : STree} {H : Hist} (hW : Whole L S H) {i : Nat} {x : List STree × STree} (hx : H[i]? = some x) :
    (x.1 = [] ∧ lo i x = i) ∨ ∃ T r top, x.1 = T :: r ∧ H[lo i x + T.ns.length - 1]? = some (top, T) ∧ lo (lo i x + T.ns.length - 1) (top, T) = lo i x ∧ (kidsH i x).head? = some (lo i x + T.ns.length - 1) := by
  obtain ⟨m, _, e2, e3, _, e5, _⟩ := hW.inv.node i x hx
  cases hc : x.1 with
  | nil =>
    left
    refine ⟨rfl, ?_⟩
    simp only [lo, e2, nodeF_len, hc, flatS, List.flatMap_nil, List.length_nil]
    omega
  | cons T r =>
    right
    obtain ⟨top, h1⟩ := hW.rootOk.kid i x hx [] T r (by simp [hc])
    simp only [flatS, List.flatMap_nil, List.length_nil, Nat.add_zero] at h1
    have hT := (e3 T (by simp [hc])).pos
    refine ⟨T, r, top, rfl, h1, ?_, by simp [kidsH, hc, rootsFrom]⟩
    have hle : lo i x + T.ns.length ≤ i + 1 := by
      have : x.2.ns.length = (flatS x.1).length + 1 := by rw [e2, nodeF_len]
      rw [hc, flatS_cons, List.length_append] at this
      simp only [lo]
      omega
    simp only [lo] at hle ⊢
    omega

theorem starts_get {N : Nat} : ∀ {L : List Nd} {S : STree} {H : Hist}, Whole L S H → H.length ≤ N → ∀ m, m ≤ H.length → ∀ i x, i < m → H[i]? = some x → (starts N ((visitsOf H).take m)).getD i 0 = lo i x := by
  intro L S H hW hN m
  induction m with
  | zero => intro _ i x hi; omega
  | succ m ih =>
    intro hm i x hi hx
    obtain ⟨y, hy⟩ : ∃ y, H[m]? = some y := ⟨_, List.getElem?_eq_getElem (by omega)⟩
    have hv : (visitsOf H)[m]? = some (kidsH m y, y.2.d) := by rw [visitsOf_get, hy]; rfl
    have hlt : m < (visitsOf H).length := by rw [visitsOf_length]; omega
    have hge : (visitsOf H)[m] = (kidsH m y, y.2.d) := by rw [List.getElem?_eq_getElem hlt] at hv; exact Option.some.inj hv
    have hl : ((visitsOf H).take m).length = m := by rw [List.length_take]; omega
    rw [List.take_succ_eq_append_getElem hlt, hge, starts_snoc, startStep, hl]
    by_cases e : i = m
    · subst e
      rw [hx] at hy
      injection hy with hy
      subst hy
      rw [List.getD_eq_getElem?_getD, List.getElem?_set_self (by rw [starts_length]; omega), Option.getD_some]
      rcases lo_first hW hx with ⟨h1, h2⟩ | ⟨T, r, top, h1, h2, h3, h4⟩
      · have : kidsH i x = [] := by simp [kidsH, h1, rootsFrom]
        rw [this, h2]
      · cases hk : kidsH i x with
        | nil => rw [hk] at h4; cases h4
        | cons k0 kr =>
          rw [hk] at h4
          simp only [List.head?_cons, Option.some.injEq] at h4
          subst h4
          have hki := ((kidsH_rise hW hx).2 (lo i x + T.ns.length - 1) (by rw [hk]; exact List.mem_cons_self)).2
          have := ih (by omega) _ _ hki h2
          dsimp only
          rw [this, h3]
    · rw [List.getD_eq_getElem?_getD, List.getElem?_set_ne (fun h => e h.symm), ← List.getD_eq_getElem?_getD]
      exact ih (by omega) i x (by omega) hx

/-- Sub at a node of a tree that is checked: the tree of the node. -/
theorem subE_whole {L : List Nd} {S : STree} {H : Hist} (hW : Whole L S H) (hc : checkE L = 0) (ht : checkT L false = (0, visitsOf H)) {i : Nat} {x : List STree × STree} (hx : H[i]? = some x) : subE L (i : Int) = (x.2.ns, 0) := by
  have hi : i < L.length := by rw [← hW.inv.len]; exact (List.getElem?_eq_some_iff.1 hx).1
  have hs := starts_get hW (N := L.length) (by rw [hW.inv.len]; exact Nat.le_refl _) H.length (Nat.le_refl _) i x (by rw [hW.inv.len]; exact hi) hx
  rw [List.take_of_length_le (by rw [visitsOf_length]; exact Nat.le_refl _)] at hs
  obtain ⟨m, _, e2, e3, _, e5, e6⟩ := hW.inv.node i x hx
  unfold subE
  rw [if_neg (by omega), if_neg (by omega), ht, Int.toNat_natCast]
  simp only
  rw [hs, e6]

/-- A node k before node i: the next node up is within the tree of i exactly if k is. -/
theorem up_within {L : List Nd} {S : STree} {H : Hist} (hW : Whole L S H) {i k : Nat} {x : List STree × STree} (hx : H[i]? = some x) (hk : k < i) :
    ∃ u : Int, (parH H)[k]? = some u ∧ (u = -1 ∨ ∃ j : Nat, u = (j : Int) ∧ k < j ∧ j < L.length) ∧ (lo i x ≤ k ↔ ∃ j : Nat, u = (j : Int) ∧ lo i x ≤ j ∧ j ≤ i) := by
  have hkl : k < H.length := by have := (List.getElem?_eq_some_iff.1 hx).1; omega
  obtain ⟨m, _, e2, e3, _, e5, _⟩ := hW.inv.node i x hx
  rcases hW.inv.up k hkl with hr | ⟨j, y, hy, hkj⟩
  · -- the root of all: it stands last
    exfalso
    have hlen := hW.inv.len
    simp only [rootsFrom, List.mem_singleton, hW.ns] at hr
    have := (List.getElem?_eq_some_iff.1 hx).1
    omega
  · have hj := (List.getElem?_eq_some_iff.1 hy).1
    have hkj' := (kidsH_rise hW hy).2 k hkj
    refine ⟨(j : Int), hW.parOk.kid j y hy k hkj, .inr ⟨j, rfl, hkj'.2, by rw [← hW.inv.len]; exact hj⟩, fun h1 => ⟨j, rfl, by omega, ?_⟩, ?_⟩
    · -- were j beyond i, the tree of i would begin behind k
      rcases Nat.lt_or_ge i j with h2 | h2
      · have := hW.inv.mid i j x y hx hy k hkj hk h2
        omega
      · exact h2
    · rintro ⟨j', e, h1, h2⟩
      have e' : j' = j := by omega
      subst e'
      have := hW.inv.lam i j' x y hx hy h2 h1
      omega
end Go.SL

/-
  What Check, Depth and Kids of package tree return.
-/
import Derived.Test.YtfkklicpnoeclaaW6
import Derived.Test.YtfkklicpnoeclaaSl8
namespace Go.SL
open Go Go.Proofs
attribute [local irreducible] W WL WQ WG WA VOp thn blk retP FnAt FnIn

theorem visits_nothing (N : Nat) (w0 : World) (H0 : List Blk) : Visits N w0 62 [] fun _ H => H = H0 := by
  rintro vs kids d A cap _ F rfl _ _ _
  refine fn_in Try.func62 rfl Try.ntmps62 rfl ?_
  repeat' (first
    | ((with_reducible apply wl_v); exact rfl; (first | ((with_reducible apply vop_ok); exact rfl)))
    | (with_reducible first | apply wl_nil | apply thn_n | apply w_seq | apply w_region | apply w_ret | apply w_skip | apply w_exit | apply w_block | apply thn_r | apply thn_e | apply blk_n | apply blk_r | apply blk_e)
    | ((with_reducible apply w_cond_true); exact rfl)
    | ((with_reducible apply w_cond_false); exact rfl)
    | ((with_reducible apply w_cond) <;> first | exact rfl | (intro hb; (replace hb := Tidy.out hb; try (exfalso; omega))))
    | ((with_reducible apply blk_x); exact rfl))
  refine ret0 (.inr rfl) Try.results62 (.drop .hd (.refl _)) ⟨_, rfl, .refl _⟩

def checkE (L : List Nd) : Int := (checkT L false).1
theorem Check_at (L : List Nd) (tv : Value) (w : World) (ht : Reads w tv L.length (L.flatMap encN)) : Pure Try.prog 24 [tv] w (.int .i64 (checkE L)) := by
  have ht' := ht
  obtain ⟨At, ct, rfl, ht1, ht2, ht3⟩ := ht
  refine fn_at Try.func24 rfl Try.ntmps24 rfl ?_
  have hw := check_in L false _ w ht' 62 [] (fun _ H => H = []) (visits_nothing _ w []) [] rfl
  repeat' (first
    | ((with_reducible apply wl_callin); exact rfl; exact rfl; exact hw; (rintro v H' ⟨rfl, rfl⟩))
    | ((with_reducible apply wl_v); exact rfl; (first | ((with_reducible apply vop_ok); exact rfl)))
    | (with_reducible first | apply wl_nil | apply thn_n | apply w_seq | apply w_region | apply w_ret | apply w_skip | apply w_exit | apply w_block | apply thn_r | apply thn_e | apply blk_n | apply blk_r | apply blk_e)
    | ((with_reducible apply w_cond_true); exact rfl)
    | ((with_reducible apply w_cond_false); exact rfl)
    | ((with_reducible apply w_cond) <;> first | exact rfl | (intro hb; (replace hb := Tidy.out hb; try (exfalso; omega))))
    | ((with_reducible apply blk_x); exact rfl))
  ((with_reducible apply ret1); exact .inl rfl; exact rfl; exact rfl; exact MSub.nil _)
  rfl

def lastD (vs : List Visit) : Nat := (vs.getLast?.map (·.2)).getD 0
theorem lastD_snoc (vs : List Visit) (x : Visit) : lastD (vs ++ [x]) = x.2 := by simp [lastD]

theorem visits_depth (N : Nat) (w0 : World) (g : Nat) : Visits N w0 55 [.pointer (some ⟨g, 0, none⟩)] fun vs H => H = [.box g 3 [.int .i64 (lastD vs : Int)]] := by
  rintro vs kids d A cap _ F rfl _ _ _
  refine fn_in Try.func55 rfl Try.ntmps55 rfl ?_
  repeat' (first
    | ((with_reducible apply wl_v); exact rfl; (first | ((with_reducible apply vop_ok); exact rfl)))
    | ((with_reducible apply wl_storen_box); exact rfl; exact rfl; (repeat first | exact .hd | apply Sel.tl | apply In.tl); exact rfl; exact rfl; exact rfl)
    | ((with_reducible apply wl_putn_box); exact rfl; exact rfl; (repeat first | exact .hd | apply Sel.tl | apply In.tl); exact rfl; exact rfl; exact rfl; exact rfl)
    | (with_reducible first | apply wl_nil | apply thn_n | apply w_seq | apply w_region | apply w_ret | apply w_skip | apply w_exit | apply w_block | apply thn_r | apply thn_e | apply blk_n | apply blk_r | apply blk_e)
    | ((with_reducible apply w_cond_true); exact rfl)
    | ((with_reducible apply w_cond_false); exact rfl)
    | ((with_reducible apply w_cond) <;> first | exact rfl | (intro hb; (replace hb := Tidy.out hb; try (exfalso; omega))))
    | ((with_reducible apply blk_x); exact rfl))
  exact ret0 (.inr rfl) Try.results55 (H' := .box g 3 [.int .i64 (d : Int)] :: F) (by (repeat (first | exact MSub.nil _ | refine MSub.pick (by (repeat first | exact .hd | apply Sel.tl | apply In.tl)) ?_ | exact MSub.refl _ | refine MSub.drop .hd ?_))) ⟨_, by show _ = [_]; rw [lastD_snoc], .refl _⟩

def depthE (L : List Nd) : Int × Int := if checkE L ≠ 0 then (0, checkE L) else ((lastD (checkT L false).2 : Nat), 0)
theorem Depth_at (L : List Nd) (tv : Value) (w : World) (ht : Reads w tv L.length (L.flatMap encN)) : Pure Try.prog 18 [tv] w (.tuple #[.int .i64 (depthE L).1, .int .i64 (depthE L).2]) := by
  have ht' := ht
  obtain ⟨At, ct, rfl, ht1, ht2, ht3⟩ := ht
  refine fn_at Try.func18 rfl Try.ntmps18 rfl ?_
  have hw := fun g => check_in L false _ w ht' 55 [.pointer (some ⟨g, 0, none⟩)] _ (visits_depth _ w g) [.box g 3 [.int .i64 0]] rfl
  unfold depthE checkE
  generalize checkT L false = r at hw
  repeat' (first
    | ((with_reducible apply wl_callin); exact rfl; exact rfl; exact hw _; (rintro v H' ⟨rfl, rfl⟩))
    | ((with_reducible apply wl_v); exact rfl; (first | ((with_reducible apply vop_ok); exact rfl) | ((with_reducible apply v_makeFunc); exact rfl) | ((with_reducible apply v_load_box); exact rfl; (repeat first | exact .hd | apply Sel.tl | apply In.tl); exact rfl) | ((with_reducible apply v_eqlb); exact rfl; exact rfl) | ((with_reducible apply v_neqb); exact rfl; exact rfl) | ((with_reducible apply v_loadw_box); exact rfl; (repeat first | exact .hd | apply Sel.tl | apply In.tl); exact rfl) | ((with_reducible apply v_loadn_box); exact rfl; (repeat first | exact .hd | apply Sel.tl | apply In.tl); exact rfl; exact rfl)))
    | ((with_reducible apply wl_alloc); exact rfl; intro _)
    | ((with_reducible apply wl_storen_box); exact rfl; exact rfl; (repeat first | exact .hd | apply Sel.tl | apply In.tl); exact rfl; exact rfl; exact rfl)
    | ((with_reducible apply wl_putn_box); exact rfl; exact rfl; (repeat first | exact .hd | apply Sel.tl | apply In.tl); exact rfl; exact rfl; exact rfl; exact rfl)
    | (with_reducible first | apply wl_nil | apply thn_n | apply w_seq | apply w_region | apply w_ret | apply w_skip | apply w_exit | apply w_block | apply thn_r | apply thn_e | apply blk_n | apply blk_r | apply blk_e)
    | ((with_reducible apply w_cond_true); exact rfl)
    | ((with_reducible apply w_cond_false); exact rfl)
    | ((with_reducible apply w_cond) <;> first | exact rfl | (intro hb; (replace hb := Tidy.out hb; try (exfalso; omega))))
    | ((with_reducible apply blk_x); exact rfl))
  · refine ret2 (.inl rfl) Try.results18 rfl rfl (.nil _) ?_
    rw [if_pos hb]
  · refine ret2 (.inl rfl) Try.results18 rfl rfl (.nil _) ?_
    rw [if_neg (by omega)]

/-- The roots below node i, as the visits tell them. -/
def kidsAt (vs : List Visit) (i : Int) : List Nat := if 0 ≤ i then ((vs[i.toNat]?).map (·.1)).getD [] else []
theorem kidsAt_hit (vs : List Visit) (x : Visit) : kidsAt (vs ++ [x]) (vs.length : Int) = x.1 := by simp [kidsAt]
theorem kidsAt_miss (vs : List Visit) (x : Visit) (i : Int) (h : (vs.length : Int) ≠ i) : kidsAt (vs ++ [x]) i = kidsAt vs i := by
  unfold kidsAt
  split
  · have : i.toNat ≠ vs.length := by omega
    rcases Nat.lt_or_gt_of_ne this with h1 | h1
    · rw [List.getElem?_append_left h1]
    · rw [List.getElem?_eq_none (by simp; omega), List.getElem?_eq_none (by omega)]
  · rfl

def intsV (ks : List Nat) : List Value := ks.map fun (k : Nat) => .int .i64 (k : Int)
def KidsInv (g3 g6 : Nat) (i : Int) (vs : List Visit) (H : List Blk) : Prop :=
  ∃ A cap, H = [.own A 3 1 (kidsAt vs i).length cap (intsV (kidsAt vs i)), .box g6 27 [sl A (kidsAt vs i).length cap], .box g3 3 [.int .i64 i]]

theorem visits_kids (N : Nat) (w0 : World) (g3 g6 : Nat) (i : Int) : Visits N w0 57 [.pointer (some ⟨g3, 0, none⟩), .pointer (some ⟨g6, 0, none⟩)] (KidsInv g3 g6 i) := by
  rintro vs kids d A cap _ F ⟨A0, cap0, rfl⟩ _ _ _
  refine fn_in Try.func57 rfl Try.ntmps57 rfl ?_
  repeat' (first
    | ((with_reducible apply wl_v); exact rfl; (first | ((with_reducible apply vop_ok); exact rfl) | ((with_reducible apply v_load_box); exact rfl; (repeat first | exact .hd | apply Sel.tl | apply In.tl); exact rfl) | ((with_reducible apply v_eqlb); exact rfl; exact rfl) | ((with_reducible apply v_neqb); exact rfl; exact rfl) | ((with_reducible apply v_loadw_box); exact rfl; (repeat first | exact .hd | apply Sel.tl | apply In.tl); exact rfl) | ((with_reducible apply v_loadn_box); exact rfl; (repeat first | exact .hd | apply Sel.tl | apply In.tl); exact rfl; exact rfl)))
    | ((with_reducible apply wl_storen_box); exact rfl; exact rfl; (repeat first | exact .hd | apply Sel.tl | apply In.tl); exact rfl; exact rfl; exact rfl)
    | ((with_reducible apply wl_putn_box); exact rfl; exact rfl; (repeat first | exact .hd | apply Sel.tl | apply In.tl); exact rfl; exact rfl; exact rfl; exact rfl)
    | (with_reducible first | apply wl_nil | apply thn_n | apply w_seq | apply w_region | apply w_ret | apply w_skip | apply w_exit | apply w_block | apply thn_r | apply thn_e | apply blk_n | apply blk_r | apply blk_e)
    | ((with_reducible apply w_cond_true); exact rfl)
    | ((with_reducible apply w_cond_false); exact rfl)
    | ((with_reducible apply w_cond) <;> first | exact rfl | (intro hb; (replace hb := Tidy.out hb; try (exfalso; omega))))
    | ((with_reducible apply blk_x); exact rfl))
  · have e : i = (vs.length : Int) := by omega
    subst e
    refine ret0 (.inr rfl) Try.results57 (H' := .own A 3 1 kids.length cap (intsV kids) :: .box g6 27 [sl A kids.length cap] :: .box g3 3 [.int .i64 (vs.length : Int)] :: F) (by (repeat (first | exact MSub.nil _ | refine MSub.pick (by (repeat first | exact .hd | apply Sel.tl | apply In.tl)) ?_ | exact MSub.refl _ | refine MSub.drop .hd ?_))) ⟨_, ⟨A, cap, rfl⟩, ?_⟩
    rw [kidsAt_hit]
    exact .refl _
  · refine ret0 (.inr rfl) Try.results57 (.drop .hd (.refl _)) ⟨_, ⟨A0, cap0, rfl⟩, ?_⟩
    rw [kidsAt_miss _ _ _ (by omega)]
    exact .refl _

/-- Kids: what is found, and the error. -/
def kidsE (L : List Nd) (i : Int) : List Nat × Int :=
  if checkE L ≠ 0 then ([], checkE L) else if i < 0 ∨ (L.length : Int) ≤ i then ([], 3) else (kidsAt (checkT L false).2 i, 0)
theorem Kids_at (L : List Nd) (i : Int) (tv : Value) (w : World) (ht : Reads w tv L.length (L.flatMap encN)) :
    FnAt Try.prog 20 [tv, .int .i64 i] w fun v H => ∃ A cap, v = .tuple #[sl A (kidsE L i).1.length cap, .int .i64 (kidsE L i).2] ∧ H = [.own A 3 1 (kidsE L i).1.length cap (intsV (kidsE L i).1)] := by
  have ht' := ht
  obtain ⟨At, ct, rfl, ht1, ht2, ht3⟩ := ht
  refine fn_at Try.func20 rfl Try.ntmps20 rfl ?_
  have hw := fun g3 g6 => check_in L false _ w ht' 57 [.pointer (some ⟨g3, 0, none⟩), .pointer (some ⟨g6, 0, none⟩)] _ (visits_kids L.length w g3 g6 i) [.own none 3 1 0 0 [], .box g6 27 [.slice none 0 0], .box g3 3 [.int .i64 i]] ⟨none, 0, by rw [show kidsAt [] i = [] by unfold kidsAt; split <;> rfl]; rfl⟩
  unfold kidsE checkE
  generalize checkT L false = r at hw
  repeat' (first
    | ((refine wl_nilrow 3 1 ?_); (with_reducible apply wl_callin); exact rfl; exact rfl; exact hw _ _; (rintro v H' ⟨rfl, A, cap, rfl⟩; refine wl_nilrow 3 1 ?_))
    | ((with_reducible apply wl_v); exact rfl; (first | ((with_reducible apply vop_ok); exact rfl) | ((with_reducible apply v_len); exact rfl) | ((with_reducible apply v_lens); exact rfl) | ((with_reducible apply v_makeFunc); exact rfl) | ((with_reducible apply v_load_box); exact rfl; (repeat first | exact .hd | apply Sel.tl | apply In.tl); exact rfl) | ((with_reducible apply v_eqlb); exact rfl; exact rfl) | ((with_reducible apply v_neqb); exact rfl; exact rfl) | ((with_reducible apply v_loadw_box); exact rfl; (repeat first | exact .hd | apply Sel.tl | apply In.tl); exact rfl) | ((with_reducible apply v_loadn_box); exact rfl; (repeat first | exact .hd | apply Sel.tl | apply In.tl); exact rfl; exact rfl)))
    | ((with_reducible apply wl_gyes); exact rfl; exact rfl)
    | ((with_reducible apply wl_gno_b); exact rfl; exact rfl; exact rfl; exact rfl)
    | ((with_reducible apply wl_gno_u); exact rfl; exact rfl; exact rfl)
    | ((with_reducible apply wl_boxs); exact rfl; exact rfl; intro _)
    | ((with_reducible apply wl_box1); exact rfl; exact rfl; exact rfl; intro _)
    | ((with_reducible apply wl_alloc); exact rfl; intro _)
    | ((with_reducible apply wl_gsplit) <;> first | exact rfl | (intro hb; (replace hb := Tidy.out hb; try (exfalso; omega))))
    | (with_reducible first | apply wl_nil | apply thn_n | apply w_seq | apply w_region | apply w_ret | apply w_skip | apply w_exit | apply w_block | apply thn_r | apply thn_e | apply blk_n | apply blk_r | apply blk_e)
    | ((with_reducible apply w_cond_true); exact rfl)
    | ((with_reducible apply w_cond_false); exact rfl)
    | ((with_reducible apply w_cond) <;> first | exact rfl | (intro hb; (replace hb := Tidy.out hb; try (exfalso; omega))))
    | ((with_reducible apply blk_x); exact rfl))
  · refine ret2 (.inl rfl) Try.results20 rfl rfl (H' := [.own none 3 1 0 0 []]) (by (repeat (first | exact MSub.nil _ | refine MSub.pick (by (repeat first | exact .hd | apply Sel.tl | apply In.tl)) ?_ | exact MSub.refl _ | refine MSub.drop .hd ?_))) ⟨none, 0, ?_⟩
    rw [if_pos hb]
    exact ⟨rfl, rfl⟩
  · refine ret2 (.inl rfl) Try.results20 rfl rfl (H' := [.own none 3 1 0 0 []]) (by (repeat (first | exact MSub.nil _ | refine MSub.pick (by (repeat first | exact .hd | apply Sel.tl | apply In.tl)) ?_ | exact MSub.refl _ | refine MSub.drop .hd ?_))) ⟨none, 0, ?_⟩
    rw [if_neg (by omega), if_pos (by omega)]
    exact ⟨rfl, rfl⟩
  · refine ret2 (.inl rfl) Try.results20 rfl rfl (H' := [.own none 3 1 0 0 []]) (by (repeat (first | exact MSub.nil _ | refine MSub.pick (by (repeat first | exact .hd | apply Sel.tl | apply In.tl)) ?_ | exact MSub.refl _ | refine MSub.drop .hd ?_))) ⟨none, 0, ?_⟩
    rw [if_neg (by omega), if_pos (by omega)]
    exact ⟨rfl, rfl⟩
  · refine ret2 (.inl rfl) Try.results20 rfl rfl (H' := [.own A 3 1 (kidsAt r.2 i).length cap (intsV (kidsAt r.2 i))]) (by (repeat (first | exact MSub.nil _ | refine MSub.pick (by (repeat first | exact .hd | apply Sel.tl | apply In.tl)) ?_ | exact MSub.refl _ | refine MSub.drop .hd ?_))) ⟨A, cap, ?_⟩
    rw [if_neg (by omega), if_neg (by omega)]
    exact ⟨rfl, rfl⟩
end Go.SL

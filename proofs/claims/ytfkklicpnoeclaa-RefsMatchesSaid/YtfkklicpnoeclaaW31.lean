/-
  What Move of package refs returns.
-/
import Derived.Test.YtfkklicpnoeclaaW30
import Derived.Test.YtfkklicpnoeclaaSl15
namespace Go.SL
open Go Go.Proofs
attribute [local irreducible] W WL WQ WG WA VOp thn blk cutP retP FnAt FnIn Held

def farF (b : Int) : Bool := decide (b ≤ -1024) || decide (1024 ≤ b)
def mvR (c o : Int) (r : Rct) : Rct := ⟨IntKind.i64.wrap (r.c1 + c), IntKind.i64.wrap (r.r1 + o), IntKind.i64.wrap (r.c2 + c), IntKind.i64.wrap (r.r2 + o)⟩
def mvN (c o : Int) (n : Nd) : Nd := bif rangesF n then { n with rect := mvR c o n.rect } else n
def stuckN (c o : Int) (n : Nd) : Bool := rangesF n && (farF c || farF o || decide (rectE (mvR c o n.rect) ≠ 0))
def moveE (L : List Nd) (c o : Int) : List Nd × Int := if checkE L ≠ 0 then ([], checkE L) else if L.any (stuckN c o) = true then ([], 3) else (L.map (mvN c o), 0)

theorem far_at (b : Int) (w : World) : Pure Try.prog 71 [.int .i64 b, .int .i64 1024] w (.bool (farF b)) := by
  refine fn_at Try.func71 rfl Try.ntmps71 rfl ?_
  repeat' (first
    | ((with_reducible apply wl_v); exact rfl; (with_reducible apply v_neg); exact rfl; (unfold I64; omega))
    | ((with_reducible apply wl_v); exact rfl; (first | ((with_reducible apply vop_ok); exact rfl)))
    | ((with_reducible apply wl_gyes); exact rfl; exact rfl)
    | ((with_reducible apply wl_gno_b); exact rfl; exact rfl; exact rfl; exact rfl)
    | ((with_reducible apply wl_gno_u); exact rfl; exact rfl; exact rfl)
    | ((with_reducible apply wl_gsplit) <;> first | exact rfl | (intro hb; (replace hb := Tidy.out hb; try (exfalso; omega))))
    | (with_reducible first | apply wl_nil | apply thn_n | apply w_seq | apply w_region | apply w_ret | apply w_skip | apply w_exit | apply w_block | apply thn_r | apply thn_e | apply blk_n | apply blk_r | apply blk_e)
    | ((with_reducible apply w_cond_true); exact rfl)
    | ((with_reducible apply w_cond_false); exact rfl)
    | ((with_reducible apply w_cond) <;> first | exact rfl | (intro hb; (replace hb := Tidy.out hb; try (exfalso; omega))))
    | ((with_reducible apply blk_x); exact rfl))
  all_goals
    ((with_reducible apply ret1); exact .inl rfl; exact rfl; exact rfl; exact MSub.nil _)
    simp [farF, *]
    try (intro h; omega)

theorem put_rect (Lc : List Nd) (i : Nat) (hi : i < Lc.length) (r : Rct) : (Lc.flatMap encN).take (i * 11 + 4) ++ encR r ++ (Lc.flatMap encN).drop (i * 11 + 4 + 4) = (Lc.set i { Lc[i] with rect := r }).flatMap encN := by
  rw [← flat_set encN_len Lc i hi]
  have h1 : Lc.flatMap encN = (Lc.flatMap encN).take (i * 11) ++ (encN Lc[i] ++ (Lc.flatMap encN).drop (i * 11 + 11)) := by
    rw [← flat_elem encN_len Lc i hi]
    conv => lhs; rw [← List.take_append_drop (i * 11) (Lc.flatMap encN)]
    congr 1
    conv => lhs; rw [← List.take_append_drop 11 ((Lc.flatMap encN).drop (i * 11))]
    rw [List.drop_drop]
  have hl : ((Lc.flatMap encN).take (i * 11)).length = i * 11 := by
    rw [List.length_take, flat_length' encN_len]; omega
  generalize (Lc.flatMap encN).take (i * 11) = X at h1 hl
  generalize (Lc.flatMap encN).drop (i * 11 + 11) = S at h1
  rw [h1, ← hl, List.take_length_add_append, Nat.add_assoc, List.drop_length_add_append]
  simp [encN, encR]

set_option maxRecDepth 20000 in
set_option maxHeartbeats 4000000 in
theorem Move_at (L : List Nd) (c o : Int) (tv : Value) (w : World) (ht : Reads w tv L.length (L.flatMap encN)) (hlen : L.length ≤ 1000000) :
    FnAt Try.prog 48 [tv, .int .i64 c, .int .i64 o] w fun v H => ∃ A cap, v = .tuple #[sl A (moveE L c o).1.length cap, .int .i64 (moveE L c o).2] ∧ H = [.own A 40 11 (moveE L c o).1.length cap ((moveE L c o).1.flatMap encN)] := by
  have ht' := ht
  obtain ⟨Al, cl, rfl, hl1, hl2, hl3⟩ := ht
  refine fn_at Try.func48 rfl Try.ntmps48 rfl ?_
  refine w_nilrow 40 11 ?_
  have hck := fun w0 (hm : Reads w0 (.slice Al L.length cl) L.length (L.flatMap encN)) => Check_at L _ w0 hm
  have hne : checkE L = 0 → 0 < L.length := by
    intro h
    cases L with
    | nil => exact absurd h (by decide +kernel)
    | cons a r => simp
  unfold moveE
  generalize checkE L = e at hck hne
  by_cases hb0 : e = 0
  rotate_left
  · repeat' (first
      | ((with_reducible apply wl_callp); exact rfl; exact rfl; (intro w' hm; exact hck w' (ht'.of_w0 hm)))
      | ((with_reducible apply wl_v); exact rfl; (first | ((with_reducible apply vop_ok); exact rfl) | ((with_reducible apply v_fieldAddr); exact rfl) | ((with_reducible apply v_len); exact rfl) | ((with_reducible apply v_lens); exact rfl) | ((with_reducible apply v_load_box); exact rfl; (repeat first | exact .hd | apply Sel.tl | apply In.tl); exact rfl) | ((with_reducible apply v_eqlb); exact rfl; exact rfl) | ((with_reducible apply v_neqb); exact rfl; exact rfl) | ((with_reducible apply v_loadw_box); exact rfl; (repeat first | exact .hd | apply Sel.tl | apply In.tl); exact rfl) | ((with_reducible apply v_loadn_box); exact rfl; (repeat first | exact .hd | apply Sel.tl | apply In.tl); exact rfl; exact rfl) | ((with_reducible apply v_build); exact rfl; exact rfl; exact rfl)))
      | ((with_reducible apply wl_gyes); exact rfl; exact rfl)
      | ((with_reducible apply wl_gno_b); exact rfl; exact rfl; exact rfl; exact rfl)
      | ((with_reducible apply wl_gno_u); exact rfl; exact rfl; exact rfl)
      | ((with_reducible apply wl_alloc); exact rfl; intro _)
      | ((with_reducible apply wl_storen_box); exact rfl; exact rfl; (repeat first | exact .hd | apply Sel.tl | apply In.tl); exact rfl; exact rfl; exact rfl)
      | ((with_reducible apply wl_putn_box); exact rfl; exact rfl; (repeat first | exact .hd | apply Sel.tl | apply In.tl); exact rfl; exact rfl; exact rfl; exact rfl)
      | ((with_reducible apply wl_gsplit) <;> first | exact rfl | (intro hb; (replace hb := Tidy.out hb; try (exfalso; omega))))
      | (with_reducible first | apply wl_nil | apply thn_n | apply w_seq | apply w_region | apply w_ret | apply w_skip | apply w_exit | apply w_block | apply thn_r | apply thn_e | apply blk_n | apply blk_r | apply blk_e)
      | ((with_reducible apply w_cond_true); exact rfl)
      | ((with_reducible apply w_cond_false); exact rfl)
      | ((with_reducible apply w_cond) <;> first | exact rfl | (intro hb; (replace hb := Tidy.out hb; try (exfalso; omega))))
      | ((with_reducible apply blk_x); exact rfl))
    refine ret2 (.inl rfl) Try.results48 rfl rfl (H' := [.own none 40 11 0 0 []]) (by (repeat (first | exact MSub.nil _ | refine MSub.pick (by (repeat first | exact .hd | apply Sel.tl | apply In.tl)) ?_ | exact MSub.refl _ | refine MSub.drop .hd ?_))) ⟨none, 0, ?_⟩
    rw [if_pos hb0]
    exact ⟨rfl, rfl⟩
  rw [if_neg (by omega)]
  have hN := hne hb0
  obtain ⟨gl, ol, rfl, hrl⟩ := hl3 hN
  have hfl := flat_length' encN_len L
  repeat' (first
    | ((with_reducible apply wl_callp); exact rfl; exact rfl; (intro w' hm; exact hck w' (ht'.of_w0 hm)))
    | ((with_reducible apply wl_makeSlice (c := L.length)); exact rfl; exact rfl; exact rfl; omega; (simp only [maxLen]; omega); (intro gO))
    | ((with_reducible apply wl_copy); exact rfl; exact rfl; exact rfl; (repeat first | exact .hd | apply Sel.tl | apply In.tl); exact hrl; exact hfl; exact encNs_one L)
    | ((with_reducible apply wl_v); exact rfl; (first | ((with_reducible apply vop_ok); exact rfl) | ((with_reducible apply v_fieldAddr); exact rfl) | ((with_reducible apply v_len); exact rfl) | ((with_reducible apply v_lens); exact rfl) | ((with_reducible apply v_load_box); exact rfl; (repeat first | exact .hd | apply Sel.tl | apply In.tl); exact rfl) | ((with_reducible apply v_eqlb); exact rfl; exact rfl) | ((with_reducible apply v_neqb); exact rfl; exact rfl) | ((with_reducible apply v_loadw_box); exact rfl; (repeat first | exact .hd | apply Sel.tl | apply In.tl); exact rfl) | ((with_reducible apply v_loadn_box); exact rfl; (repeat first | exact .hd | apply Sel.tl | apply In.tl); exact rfl; exact rfl) | ((with_reducible apply v_build); exact rfl; exact rfl; exact rfl)))
    | ((with_reducible apply wl_gyes); exact rfl; exact rfl)
    | ((with_reducible apply wl_gno_b); exact rfl; exact rfl; exact rfl; exact rfl)
    | ((with_reducible apply wl_gno_u); exact rfl; exact rfl; exact rfl)
    | ((with_reducible apply wl_alloc); exact rfl; intro _)
    | ((with_reducible apply wl_storen_box); exact rfl; exact rfl; (repeat first | exact .hd | apply Sel.tl | apply In.tl); exact rfl; exact rfl; exact rfl)
    | ((with_reducible apply wl_putn_box); exact rfl; exact rfl; (repeat first | exact .hd | apply Sel.tl | apply In.tl); exact rfl; exact rfl; exact rfl; exact rfl)
    | ((with_reducible apply wl_gsplit) <;> first | exact rfl | (intro hb; (replace hb := Tidy.out hb; try (exfalso; omega))))
    | (with_reducible first | apply wl_nil | apply thn_n | apply w_seq | apply w_region | apply w_ret | apply w_skip | apply w_exit | apply w_block | apply thn_r | apply thn_e | apply blk_n | apply blk_r | apply blk_e)
    | ((with_reducible apply w_cond_true); exact rfl)
    | ((with_reducible apply w_cond_false); exact rfl)
    | ((with_reducible apply w_cond) <;> first | exact rfl | (intro hb; (replace hb := Tidy.out hb; try (exfalso; omega))))
    | ((with_reducible apply blk_x); exact rfl))
  refine w_loop (fun y : Nat × List Nd => [(1, .int .i64 c), (2, .int .i64 o), (9, .slice (some ⟨gO, 0, none⟩) L.length L.length), (10, .func (.func 71) #[] #[]), (25, .slice (some ⟨gO, 0, none⟩) L.length L.length), (26, .int .i64 (L.length : Int)), (27, .int .i64 (y.1 : Int))])
    (fun y => [.own (some gO) 40 11 L.length L.length (y.2.flatMap encN), .own none 40 11 0 0 []])
    (fun y => y.1 ≤ L.length ∧ y.2 = (L.take y.1).map (mvN c o) ++ L.drop y.1 ∧ (L.take y.1).any (stuckN c o) = false) (fun y => L.length - y.1) (0, L) ⟨by omega, rfl, rfl⟩ ?_ ?_ ?_
  · (repeat (first | exact Sub.nil _ | refine Sub.cons rfl ?_))
  · (repeat (first | exact MSub.nil _ | refine MSub.pick (by (repeat first | exact .hd | apply Sel.tl | apply In.tl)) ?_ | exact MSub.refl _ | refine MSub.drop .hd ?_))
  rintro ⟨i, Lc⟩ ⟨hi, hLc, hst⟩
  dsimp only at hi hLc hst ⊢
  by_cases hlt : i < L.length
  · have hlc : Lc.length = L.length := by rw [hLc]; simp; omega
    have hltc : i < Lc.length := by omega
    have htl : ((L.take i).map (mvN c o)).length = i := by simp; omega
    have hget : Lc[i]? = some L[i] := by
      rw [hLc, List.getElem?_append_right (by omega), htl, Nat.sub_self, List.drop_eq_getElem_cons hlt]
      rfl
    have hset : Lc.set i (mvN c o L[i]) = (L.take (i + 1)).map (mvN c o) ++ L.drop (i + 1) := by
      rw [hLc, List.set_append_right _ _ (by omega), htl, Nat.sub_self, List.drop_eq_getElem_cons hlt, List.set_cons_zero, List.take_succ_eq_append_getElem hlt, List.map_append, List.append_assoc]
      rfl
    have hkeep : mvN c o L[i] = L[i] → Lc = (L.take (i + 1)).map (mvN c o) ++ L.drop (i + 1) := by
      intro h
      rw [List.take_succ_eq_append_getElem hlt, List.map_append, List.append_assoc, List.map_cons, List.map_nil, h, List.singleton_append, ← List.drop_eq_getElem_cons hlt]
      exact hLc
    have hst1 : (L.take (i + 1)).any (stuckN c o) = stuckN c o L[i] := by
      rw [List.take_succ_eq_append_getElem hlt, List.any_append, hst]; simp
    have hstL : stuckN c o L[i] = true → L.any (stuckN c o) = true := fun h => List.any_eq_true.2 ⟨_, List.getElem_mem hlt, h⟩
    have hput := put_rect Lc i hltc
    have hgi : Lc[i] = L[i] := by
      have := List.getElem?_eq_getElem hltc
      rw [hget] at this
      exact (Option.some.inj this).symm
    rw [hgi] at hput
    generalize L[i] = n at hget hset hkeep hst1 hstL hput
    have hran := fun w => ranges_at n w
    have hmv : mvN c o n = bif rangesF n then { n with rect := mvR c o n.rect } else n := rfl
    have hsk : stuckN c o n = (rangesF n && (farF c || farF o || decide (rectE (mvR c o n.rect) ≠ 0))) := rfl
    generalize rangesF n = q at hran hmv hsk
    have hf1 := fun w => far_at c w
    have hf2 := fun w => far_at o w
    have hrc := fun w => rect_at (mvR c o n.rect) w
    cases q
    · repeat' (first
        | ((with_reducible apply wl_v); exact rfl; (with_reducible apply v_indexAddr); exact rfl; exact rfl; exact hlt)
        | ((with_reducible apply wl_v); exact rfl; (with_reducible apply v_loadi_own); exact encN_len; exact rfl; (repeat first | exact .hd | apply Sel.tl | apply In.tl); exact hget)
        | ((with_reducible apply wl_callp); exact rfl; exact rfl; (intro w hm; exact hran w))
        | ((with_reducible apply wl_v); exact rfl; (first | ((with_reducible apply vop_ok); exact rfl) | ((with_reducible apply v_fieldAddr); exact rfl) | ((with_reducible apply v_len); exact rfl) | ((with_reducible apply v_lens); exact rfl) | ((with_reducible apply v_load_box); exact rfl; (repeat first | exact .hd | apply Sel.tl | apply In.tl); exact rfl) | ((with_reducible apply v_eqlb); exact rfl; exact rfl) | ((with_reducible apply v_neqb); exact rfl; exact rfl) | ((with_reducible apply v_loadw_box); exact rfl; (repeat first | exact .hd | apply Sel.tl | apply In.tl); exact rfl) | ((with_reducible apply v_loadn_box); exact rfl; (repeat first | exact .hd | apply Sel.tl | apply In.tl); exact rfl; exact rfl) | ((with_reducible apply v_build); exact rfl; exact rfl; exact rfl)))
        | ((with_reducible apply wl_gyes); exact rfl; exact rfl)
        | ((with_reducible apply wl_gno_b); exact rfl; exact rfl; exact rfl; exact rfl)
        | ((with_reducible apply wl_gno_u); exact rfl; exact rfl; exact rfl)
        | ((with_reducible apply wl_alloc); exact rfl; intro _)
        | ((with_reducible apply wl_storen_box); exact rfl; exact rfl; (repeat first | exact .hd | apply Sel.tl | apply In.tl); exact rfl; exact rfl; exact rfl)
        | ((with_reducible apply wl_putn_box); exact rfl; exact rfl; (repeat first | exact .hd | apply Sel.tl | apply In.tl); exact rfl; exact rfl; exact rfl; exact rfl)
        | ((with_reducible apply wl_gsplit) <;> first | exact rfl | (intro hb; (replace hb := Tidy.out hb; try (exfalso; omega))))
        | (with_reducible first | apply wl_nil | apply thn_n | apply w_seq | apply w_region | apply w_ret | apply w_skip | apply w_exit | apply w_block | apply thn_r | apply thn_e | apply blk_n | apply blk_r | apply blk_e)
        | ((with_reducible apply w_cond_true); exact rfl)
        | ((with_reducible apply w_cond_false); exact rfl)
        | ((with_reducible apply w_cond) <;> first | exact rfl | (intro hb; (replace hb := Tidy.out hb; try (exfalso; omega))))
        | ((with_reducible apply blk_x); exact rfl)
        | ((with_reducible apply wl_v); exact rfl; (with_reducible apply v_succN); exact rfl; exact rfl; (simp only [maxLen] at *; omega))
        | ((with_reducible apply wl_v); exact rfl; (with_reducible apply v_1addN); exact rfl; exact rfl; (simp only [maxLen] at *; omega))
        | ((with_reducible apply wl_v); exact rfl; (with_reducible apply v_addN); exact rfl; exact rfl; (simp only [maxLen] at *; omega)))
      refine ⟨(i + 1, Lc), ⟨hlt, hkeep (by rw [hmv]; rfl), by rw [hst1, hsk]; rfl⟩, (by dsimp only; omega), ?_, ?_⟩
      · (repeat (first | exact Sub.nil _ | refine Sub.cons rfl ?_))
      · (repeat (first | exact MSub.nil _ | refine MSub.pick (by (repeat first | exact .hd | apply Sel.tl | apply In.tl)) ?_ | exact MSub.refl _ | refine MSub.drop .hd ?_))
    generalize hfe1 : farF c = f1 at hf1 hsk
    generalize hfe2 : farF o = f2 at hf2 hsk
    generalize hre : rectE (mvR c o n.rect) = re at hrc hsk
    repeat' (first
      | ((with_reducible apply wl_v); exact rfl; (with_reducible apply v_indexAddr); exact rfl; exact rfl; exact hlt)
      | ((with_reducible apply wl_v); exact rfl; (with_reducible apply v_loadi_own); exact encN_len; exact rfl; (repeat first | exact .hd | apply Sel.tl | apply In.tl); exact hget)
      | ((with_reducible apply wl_v (d := 47)); exact rfl; (with_reducible apply v_addw); exact rfl; exact rfl)
      | ((with_reducible apply wl_v (d := 52)); exact rfl; (with_reducible apply v_addw); exact rfl; exact rfl)
      | ((with_reducible apply wl_v (d := 57)); exact rfl; (with_reducible apply v_addw); exact rfl; exact rfl)
      | ((with_reducible apply wl_v (d := 62)); exact rfl; (with_reducible apply v_addw); exact rfl; exact rfl)
      | ((with_reducible apply wl_callp); exact rfl; exact rfl; (intro w hm; exact hran w))
      | ((with_reducible apply wl_callvp); exact rfl; exact rfl; infer_instance; exact rfl; (intro w hm; exact hf1 w))
      | ((with_reducible apply wl_callvp); exact rfl; exact rfl; infer_instance; exact rfl; (intro w hm; exact hf2 w))
      | ((with_reducible apply wl_callp); exact rfl; exact rfl; (intro w hm; exact hrc w))
      | ((with_reducible apply wl_put_own (vs := encR (mvR c o n.rect))); exact rfl; exact rfl; (repeat first | exact .hd | apply Sel.tl | apply In.tl); exact rfl; exact rfl; (simp [encR, Value.oneCell']); (rw [flat_length' encN_len]; omega))
      | ((with_reducible apply wl_v); exact rfl; (first | ((with_reducible apply vop_ok); exact rfl) | ((with_reducible apply v_fieldAddr); exact rfl) | ((with_reducible apply v_len); exact rfl) | ((with_reducible apply v_lens); exact rfl) | ((with_reducible apply v_load_box); exact rfl; (repeat first | exact .hd | apply Sel.tl | apply In.tl); exact rfl) | ((with_reducible apply v_eqlb); exact rfl; exact rfl) | ((with_reducible apply v_neqb); exact rfl; exact rfl) | ((with_reducible apply v_loadw_box); exact rfl; (repeat first | exact .hd | apply Sel.tl | apply In.tl); exact rfl) | ((with_reducible apply v_loadn_box); exact rfl; (repeat first | exact .hd | apply Sel.tl | apply In.tl); exact rfl; exact rfl) | ((with_reducible apply v_build); exact rfl; exact rfl; exact rfl)))
      | ((with_reducible apply wl_gyes); exact rfl; exact rfl)
      | ((with_reducible apply wl_gno_b); exact rfl; exact rfl; exact rfl; exact rfl)
      | ((with_reducible apply wl_gno_u); exact rfl; exact rfl; exact rfl)
      | ((with_reducible apply wl_alloc); exact rfl; intro _)
      | ((with_reducible apply wl_storen_box); exact rfl; exact rfl; (repeat first | exact .hd | apply Sel.tl | apply In.tl); exact rfl; exact rfl; exact rfl)
      | ((with_reducible apply wl_putn_box); exact rfl; exact rfl; (repeat first | exact .hd | apply Sel.tl | apply In.tl); exact rfl; exact rfl; exact rfl; exact rfl)
      | ((with_reducible apply wl_gsplit) <;> first | exact rfl | (intro hb; (replace hb := Tidy.out hb; try (exfalso; omega))))
      | (with_reducible first | apply wl_nil | apply thn_n | apply w_seq | apply w_region | apply w_ret | apply w_skip | apply w_exit | apply w_block | apply thn_r | apply thn_e | apply blk_n | apply blk_r | apply blk_e)
      | ((with_reducible apply w_cond_true); exact rfl)
      | ((with_reducible apply w_cond_false); exact rfl)
      | ((with_reducible apply w_cond) <;> first | exact rfl | (intro hb; (replace hb := Tidy.out hb; try (exfalso; omega))))
      | ((with_reducible apply blk_x); exact rfl)
      | ((with_reducible apply wl_v); exact rfl; (with_reducible apply v_succN); exact rfl; exact rfl; (simp only [maxLen] at *; omega))
      | ((with_reducible apply wl_v); exact rfl; (with_reducible apply v_1addN); exact rfl; exact rfl; (simp only [maxLen] at *; omega))
      | ((with_reducible apply wl_v); exact rfl; (with_reducible apply v_addN); exact rfl; exact rfl; (simp only [maxLen] at *; omega)))
    · have hs := hstL (by rw [hsk]; simp [*])
      refine ret2 (.inl rfl) Try.results48 rfl rfl (H' := [.own none 40 11 0 0 []]) (by (repeat (first | exact MSub.nil _ | refine MSub.pick (by (repeat first | exact .hd | apply Sel.tl | apply In.tl)) ?_ | exact MSub.refl _ | refine MSub.drop .hd ?_))) ⟨none, 0, ?_⟩
      rw [if_pos hs]
      exact ⟨rfl, rfl⟩
    · have hs := hstL (by rw [hsk]; simp [*])
      refine ret2 (.inl rfl) Try.results48 rfl rfl (H' := [.own none 40 11 0 0 []]) (by (repeat (first | exact MSub.nil _ | refine MSub.pick (by (repeat first | exact .hd | apply Sel.tl | apply In.tl)) ?_ | exact MSub.refl _ | refine MSub.drop .hd ?_))) ⟨none, 0, ?_⟩
      rw [if_pos hs]
      exact ⟨rfl, rfl⟩
    · have hs := hstL (by rw [hsk]; simp [*])
      refine ret2 (.inl rfl) Try.results48 rfl rfl (H' := [.own none 40 11 0 0 []]) (by (repeat (first | exact MSub.nil _ | refine MSub.pick (by (repeat first | exact .hd | apply Sel.tl | apply In.tl)) ?_ | exact MSub.refl _ | refine MSub.drop .hd ?_))) ⟨none, 0, ?_⟩
      rw [if_pos hs]
      exact ⟨rfl, rfl⟩
    · have hs : stuckN c o n = false := by
        rw [hsk]
        have h3 : re = 0 := by omega
        simp [*]
      rw [hmv, cond_true] at hset
      refine ⟨(i + 1, Lc.set i { n with rect := mvR c o n.rect }), ⟨hlt, hset, hst1.trans hs⟩, (by dsimp only; omega), ?_, ?_⟩
      · (repeat (first | exact Sub.nil _ | refine Sub.cons rfl ?_))
      · dsimp only
        rw [← hput (mvR c o n.rect)]
        simp only [Nat.zero_add]
        (repeat (first | exact MSub.nil _ | refine MSub.pick (by (repeat first | exact .hd | apply Sel.tl | apply In.tl)) ?_ | exact MSub.refl _ | refine MSub.drop .hd ?_))
  · have e : i = L.length := by omega
    subst e
    rw [List.take_length] at hLc hst
    rw [List.drop_length, List.append_nil] at hLc
    repeat' (first
      | ((with_reducible apply wl_v); exact rfl; (first | ((with_reducible apply vop_ok); exact rfl) | ((with_reducible apply v_fieldAddr); exact rfl) | ((with_reducible apply v_len); exact rfl) | ((with_reducible apply v_lens); exact rfl) | ((with_reducible apply v_load_box); exact rfl; (repeat first | exact .hd | apply Sel.tl | apply In.tl); exact rfl) | ((with_reducible apply v_eqlb); exact rfl; exact rfl) | ((with_reducible apply v_neqb); exact rfl; exact rfl) | ((with_reducible apply v_loadw_box); exact rfl; (repeat first | exact .hd | apply Sel.tl | apply In.tl); exact rfl) | ((with_reducible apply v_loadn_box); exact rfl; (repeat first | exact .hd | apply Sel.tl | apply In.tl); exact rfl; exact rfl) | ((with_reducible apply v_build); exact rfl; exact rfl; exact rfl)))
      | ((with_reducible apply wl_gyes); exact rfl; exact rfl)
      | ((with_reducible apply wl_gno_b); exact rfl; exact rfl; exact rfl; exact rfl)
      | ((with_reducible apply wl_gno_u); exact rfl; exact rfl; exact rfl)
      | ((with_reducible apply wl_alloc); exact rfl; intro _)
      | ((with_reducible apply wl_storen_box); exact rfl; exact rfl; (repeat first | exact .hd | apply Sel.tl | apply In.tl); exact rfl; exact rfl; exact rfl)
      | ((with_reducible apply wl_putn_box); exact rfl; exact rfl; (repeat first | exact .hd | apply Sel.tl | apply In.tl); exact rfl; exact rfl; exact rfl; exact rfl)
      | ((with_reducible apply wl_gsplit) <;> first | exact rfl | (intro hb; (replace hb := Tidy.out hb; try (exfalso; omega))))
      | (with_reducible first | apply wl_nil | apply thn_n | apply w_seq | apply w_region | apply w_ret | apply w_skip | apply w_exit | apply w_block | apply thn_r | apply thn_e | apply blk_n | apply blk_r | apply blk_e)
      | ((with_reducible apply w_cond_true); exact rfl)
      | ((with_reducible apply w_cond_false); exact rfl)
      | ((with_reducible apply w_cond) <;> first | exact rfl | (intro hb; (replace hb := Tidy.out hb; try (exfalso; omega))))
      | ((with_reducible apply blk_x); exact rfl))
    refine ret2 (.inl rfl) Try.results48 rfl rfl (H' := [.own (some gO) 40 11 L.length L.length (Lc.flatMap encN)]) (by (repeat (first | exact MSub.nil _ | refine MSub.pick (by (repeat first | exact .hd | apply Sel.tl | apply In.tl)) ?_ | exact MSub.refl _ | refine MSub.drop .hd ?_))) ⟨some gO, L.length, ?_⟩
    rw [if_neg (by rw [hst]; decide), hLc]
    exact ⟨by rw [List.length_map]; rfl, by rw [List.length_map]⟩
end Go.SL

/-
  The reference's Move returns what Move returns.
-/
import Derived.Test.YtfkklicpnoeclaaW31
import Derived.Test.YtfkklicpnoeclaaW18
namespace Go.SL
open Go Go.Proofs
attribute [local irreducible] W WL WQ WG WA VOp thn blk cutP retP FnAt FnIn Held

theorem walkT_fields (L : List Nd) : ∀ (r : List Nd) (i : Nat) (st : List Pt) (vs : List Visit), (walkT L r i st vs).1 = 0 → ∀ n ∈ r, fieldsE n = 0
  | [], _, _, _ => fun _ _ h => by cases h
  | n :: r, i, st, vs => by
    intro h
    rw [walkT] at h
    have hn : fieldsE n = 0 := by
      by_cases hf : fieldsE n = 0
      · exact hf
      · unfold stepT at h
        rw [if_pos hf] at h
        exact h
    cases hs : stepT L n i st with
    | inl e =>
      rw [hs] at h
      dsimp only at h
      unfold stepT at hs
      rw [if_neg (by omega)] at hs
      split at hs
      · injection hs with hs; omega
      · split at hs
        · injection hs with hs; omega
        · cases hs
    | inr y =>
      obtain ⟨st', kids, d⟩ := y
      rw [hs] at h
      intro m hm
      rcases List.mem_cons.1 hm with rfl | hm
      · exact hn
      · exact walkT_fields L r _ _ _ h m hm

theorem check_fields {L : List Nd} (h : checkE L = 0) : ∀ n ∈ L, fieldsE n = 0 := by
  refine walkT_fields L L 0 [] [] ?_
  unfold checkE checkT at h
  split at h
  · cases h
  split at h
  · cases h
  split at h
  · rename_i h3
    exact absurd h h3
  · rename_i h3
    omega

theorem fields_rect {n : Nd} (h : fieldsE n = 0) (hr : rangesF n = true) : rectOk n.rect = true := by
  unfold fieldsE at h
  split at h
  · cases h
  rename_i hk
  have hk1 : kindOk n = true := by
    cases hh : kindOk n
    · exact absurd (Or.inl hh) hk
    · rfl
  simp only [rangesF, Bool.or_eq_true, decide_eq_true_eq] at hr
  unfold kindOk at hk1
  rw [if_neg (by omega), if_pos hr] at hk1
  simp only [Bool.and_eq_true, decide_eq_true_eq] at hk1
  have h1 := hk1.1
  unfold rectE at h1
  cases hq : rectOk n.rect
  · rw [hq] at h1; cases h1
  · rfl

def outF (c o : Int) : Bool := decide (c < -1024) || decide (1024 < c) || decide (o < -1024) || decide (1024 < o)
def stuckR (c o : Int) (n : Nd) : Bool := rangesF n && (outF c o || decide (rectE (mvR c o n.rect) ≠ 0))

theorem rectE_ne {r : Rct} : rectE r ≠ 0 ↔ rectOk r = false := by unfold rectE; cases rectOk r <;> simp
theorem rectOk_iff' (r : Rct) : rectOk r = true ↔ 1 ≤ r.c1 ∧ r.c1 ≤ 1024 ∧ 1 ≤ r.r1 ∧ r.r1 ≤ 1024 ∧ 1 ≤ r.c2 ∧ r.c2 ≤ 1024 ∧ 1 ≤ r.r2 ∧ r.r2 ≤ 1024 ∧ r.c1 ≤ r.c2 ∧ r.r1 ≤ r.r2 := by
  simp only [rectOk, valid, Bool.and_eq_true, decide_eq_true_eq]
  omega

theorem stuck_eq {c o : Int} {n : Nd} (h : fieldsE n = 0) : stuckR c o n = stuckN c o n := by
  unfold stuckR stuckN
  cases hr : rangesF n
  · rfl
  have hk := (rectOk_iff' n.rect).1 (fields_rect h hr)
  rw [Bool.true_and, Bool.true_and, Bool.eq_iff_iff]
  simp only [outF, farF, Bool.or_eq_true, decide_eq_true_eq, rectE_ne]
  by_cases hin : (c < -1024 ∨ 1024 < c) ∨ (o < -1024 ∨ 1024 < o)
  · constructor
    · intro _; left; omega
    · intro _; left; omega
  have hv : rectOk (mvR c o n.rect) = false ↔ ¬ (1 ≤ n.rect.c1 + c ∧ n.rect.c1 + c ≤ 1024 ∧ 1 ≤ n.rect.r1 + o ∧ n.rect.r1 + o ≤ 1024 ∧ 1 ≤ n.rect.c2 + c ∧ n.rect.c2 + c ≤ 1024 ∧ 1 ≤ n.rect.r2 + o ∧ n.rect.r2 + o ≤ 1024 ∧ n.rect.c1 + c ≤ n.rect.c2 + c ∧ n.rect.r1 + o ≤ n.rect.r2 + o) := by
    rw [← Bool.not_eq_true, rectOk_iff']
    unfold mvR
    dsimp only
    rw [I64.wrap (by unfold I64; omega), I64.wrap (by unfold I64; omega), I64.wrap (by unfold I64; omega), I64.wrap (by unfold I64; omega)]
  rw [hv]
  omega
theorem any_congr {α : Type} {f g : α → Bool} : ∀ {L : List α}, (∀ x ∈ L, f x = g x) → L.any f = L.any g
  | [], _ => rfl
  | x :: r, h => by rw [List.any_cons, List.any_cons, h x List.mem_cons_self, any_congr fun y hy => h y (List.mem_cons_of_mem _ hy)]

set_option maxRecDepth 20000 in
set_option maxHeartbeats 4000000 in
theorem refMove_at (L : List Nd) (hwf : ∀ n ∈ L, wfN n) (c o : Int) (tv : Value) (w : World) (ht : Reads w tv L.length (L.flatMap encN)) (hlen : L.length ≤ 1000000) :
    FnAt Try.prog 49 [tv, .int .i64 c, .int .i64 o] w fun v H => ∃ A cap, v = .tuple #[sl A (moveE L c o).1.length cap, .int .i64 (moveE L c o).2] ∧ H = [.own A 40 11 (moveE L c o).1.length cap ((moveE L c o).1.flatMap encN)] := by
  have ht' := ht
  obtain ⟨Al, cl, rfl, hl1, hl2, hl3⟩ := ht
  refine fn_at Try.func49 rfl Try.ntmps49 rfl ?_
  refine w_nilrow 40 11 ?_
  have hck := fun w0 (hm : Reads w0 (.slice Al L.length cl) L.length (L.flatMap encN)) => refCheck_at L hwf _ w0 hm
  have hne : checkE L = 0 → 0 < L.length := by
    intro h
    cases L with
    | nil => exact absurd h (by decide +kernel)
    | cons a r => simp
  have hstk : checkE L = 0 → L.any (stuckN c o) = L.any (stuckR c o) := fun h => any_congr fun n hn => (stuck_eq (check_fields h n hn)).symm
  unfold moveE
  generalize checkE L = e at hck hne hstk
  by_cases hb0 : e = 0
  rotate_left
  · repeat' (first
      | ((with_reducible apply wl_callp); exact rfl; exact rfl; (intro w' hm; exact hck w' (ht'.of_w0 hm)))
      | ((with_reducible apply wl_v); exact rfl; (first | ((with_reducible apply vop_ok); exact rfl) | ((with_reducible apply v_fieldAddr); exact rfl) | ((with_reducible apply v_len); exact rfl) | ((with_reducible apply v_lens); exact rfl) | ((with_reducible apply v_load_box); exact rfl; (repeat first | exact .hd | apply Sel.tl | apply In.tl); exact rfl) | ((with_reducible apply v_eqlb); exact rfl; exact rfl) | ((with_reducible apply v_neqb); exact rfl; exact rfl) | ((with_reducible apply v_loadw_box); exact rfl; (repeat first | exact .hd | apply Sel.tl | apply In.tl); exact rfl) | ((with_reducible apply v_loadn_box); exact rfl; (repeat first | exact .hd | apply Sel.tl | apply In.tl); exact rfl; exact rfl)))
      | ((with_reducible apply wl_gyes); exact rfl; exact rfl)
      | ((with_reducible apply wl_gno_b); exact rfl; exact rfl; exact rfl; exact rfl)
      | ((with_reducible apply wl_gno_u); exact rfl; exact rfl; exact rfl)
      | ((with_reducible apply wl_alloc); exact rfl; intro _)
      | ((with_reducible apply wl_storen_box); exact rfl; exact rfl; (repeat first | exact .hd | apply Sel.tl | apply In.tl); exact rfl; exact rfl; exact rfl)
      | ((with_reducible apply wl_putn_box); exact rfl; exact rfl; (repeat first | exact .hd | apply Sel.tl | apply In.tl); exact rfl; exact rfl; exact rfl; exact rfl)
      | ((with_reducible apply wl_buildSlice); exact rfl; exact rfl; exact rfl; exact rfl; exact rfl; exact rfl; exact rfl; intro _)
      | ((with_reducible apply wl_gsplit) <;> first | exact rfl | (intro hb; (replace hb := Tidy.out hb; try (exfalso; omega))))
      | (with_reducible first | apply wl_nil | apply thn_n | apply w_seq | apply w_region | apply w_ret | apply w_skip | apply w_exit | apply w_block | apply thn_r | apply thn_e | apply blk_n | apply blk_r | apply blk_e)
      | ((with_reducible apply w_cond_true); exact rfl)
      | ((with_reducible apply w_cond_false); exact rfl)
      | ((with_reducible apply w_cond) <;> first | exact rfl | (intro hb; (replace hb := Tidy.out hb; try (exfalso; omega))))
      | ((with_reducible apply blk_x); exact rfl))
    refine ret2 (.inl rfl) Try.results49 rfl rfl (H' := [.own none 40 11 0 0 []]) (by (repeat (first | exact MSub.nil _ | refine MSub.pick (by (repeat first | exact .hd | apply Sel.tl | apply In.tl)) ?_ | exact MSub.refl _ | refine MSub.drop .hd ?_))) ⟨none, 0, ?_⟩
    rw [if_pos hb0]
    exact ⟨rfl, rfl⟩
  rw [if_neg (by omega), hstk hb0]
  have hN := hne hb0
  obtain ⟨gl, ol, rfl, hrl⟩ := hl3 hN
  have hfl := flat_length' encN_len L
  repeat' (first
    | ((with_reducible apply wl_callp); exact rfl; exact rfl; (intro w' hm; exact hck w' (ht'.of_w0 hm)))
    | ((with_reducible apply wl_buildSlice0); exact rfl; intro gb)
    | ((with_reducible apply wl_appendR (n' := 0) (c := 0) (A := some gb) (m := L.length)); exact rfl; exact rfl; exact rfl; (repeat first | exact .hd | apply Sel.tl | apply In.tl); (intro w hm; exact ht'.of_w0 hm); exact hfl; exact encNs_one L; omega; (simp only [maxLen]; omega); (intro A' cap' hA; rw [Nat.zero_add, List.nil_append]; obtain ⟨gO, rfl⟩ := hA (by omega)))
    | ((with_reducible apply wl_v); exact rfl; (first | ((with_reducible apply vop_ok); exact rfl) | ((with_reducible apply v_fieldAddr); exact rfl) | ((with_reducible apply v_len); exact rfl) | ((with_reducible apply v_lens); exact rfl) | ((with_reducible apply v_load_box); exact rfl; (repeat first | exact .hd | apply Sel.tl | apply In.tl); exact rfl) | ((with_reducible apply v_eqlb); exact rfl; exact rfl) | ((with_reducible apply v_neqb); exact rfl; exact rfl) | ((with_reducible apply v_loadw_box); exact rfl; (repeat first | exact .hd | apply Sel.tl | apply In.tl); exact rfl) | ((with_reducible apply v_loadn_box); exact rfl; (repeat first | exact .hd | apply Sel.tl | apply In.tl); exact rfl; exact rfl)))
    | ((with_reducible apply wl_gyes); exact rfl; exact rfl)
    | ((with_reducible apply wl_gno_b); exact rfl; exact rfl; exact rfl; exact rfl)
    | ((with_reducible apply wl_gno_u); exact rfl; exact rfl; exact rfl)
    | ((with_reducible apply wl_alloc); exact rfl; intro _)
    | ((with_reducible apply wl_storen_box); exact rfl; exact rfl; (repeat first | exact .hd | apply Sel.tl | apply In.tl); exact rfl; exact rfl; exact rfl)
    | ((with_reducible apply wl_putn_box); exact rfl; exact rfl; (repeat first | exact .hd | apply Sel.tl | apply In.tl); exact rfl; exact rfl; exact rfl; exact rfl)
    | ((with_reducible apply wl_buildSlice); exact rfl; exact rfl; exact rfl; exact rfl; exact rfl; exact rfl; exact rfl; intro _)
    | ((with_reducible apply wl_gsplit) <;> first | exact rfl | (intro hb; (replace hb := Tidy.out hb; try (exfalso; omega))))
    | (with_reducible first | apply wl_nil | apply thn_n | apply w_seq | apply w_region | apply w_ret | apply w_skip | apply w_exit | apply w_block | apply thn_r | apply thn_e | apply blk_n | apply blk_r | apply blk_e)
    | ((with_reducible apply w_cond_true); exact rfl)
    | ((with_reducible apply w_cond_false); exact rfl)
    | ((with_reducible apply w_cond) <;> first | exact rfl | (intro hb; (replace hb := Tidy.out hb; try (exfalso; omega))))
    | ((with_reducible apply blk_x); exact rfl))
  refine w_loop (fun y : Nat × List Nd => [(1, .int .i64 c), (2, .int .i64 o), (9, sl (some gO) L.length cap'), (10, .int .i64 (y.1 : Int))])
    (fun y => [.own (some gO) 40 11 L.length cap' (y.2.flatMap encN), .own none 40 11 0 0 []])
    (fun y => y.1 ≤ L.length ∧ y.2 = (L.take y.1).map (mvN c o) ++ L.drop y.1 ∧ (L.take y.1).any (stuckR c o) = false) (fun y => L.length - y.1) (0, L) ⟨by omega, rfl, rfl⟩ ?_ ?_ ?_
  · (repeat (first | exact Sub.nil _ | refine Sub.cons rfl ?_))
  · (repeat (first | exact MSub.nil _ | refine MSub.pick (by (repeat first | exact .hd | apply Sel.tl | apply In.tl)) ?_ | exact MSub.refl _ | refine MSub.drop .hd ?_))
  rintro ⟨i, Lc⟩ ⟨hi, hLc, hst⟩
  dsimp only at hi hLc hst ⊢
  by_cases hlt : i < L.length
  · have hlc : Lc.length = L.length := by rw [hLc]; simp; omega
    have hltc : i < Lc.length := by omega
    have htl : ((L.take i).map (mvN c o)).length = i := by simp; omega
    have hget : Lc[i]? = some L[i] := by
      rw [hLc, List.getElem?_append_right (by omega), htl, Nat.sub_self, List.drop_eq_getElem_cons hlt]
      rfl
    have hset : Lc.set i (mvN c o L[i]) = (L.take (i + 1)).map (mvN c o) ++ L.drop (i + 1) := by
      rw [hLc, List.set_append_right _ _ (by omega), htl, Nat.sub_self, List.drop_eq_getElem_cons hlt, List.set_cons_zero, List.take_succ_eq_append_getElem hlt, List.map_append, List.append_assoc]
      rfl
    have hkeep : mvN c o L[i] = L[i] → Lc = (L.take (i + 1)).map (mvN c o) ++ L.drop (i + 1) := by
      intro h
      rw [List.take_succ_eq_append_getElem hlt, List.map_append, List.append_assoc, List.map_cons, List.map_nil, h, List.singleton_append, ← List.drop_eq_getElem_cons hlt]
      exact hLc
    have hst1 : (L.take (i + 1)).any (stuckR c o) = stuckR c o L[i] := by
      rw [List.take_succ_eq_append_getElem hlt, List.any_append, hst]; simp
    have hstL : stuckR c o L[i] = true → L.any (stuckR c o) = true := fun h => List.any_eq_true.2 ⟨_, List.getElem_mem hlt, h⟩
    have hput := put_rect Lc i hltc
    have hgi : Lc[i] = L[i] := by
      have := List.getElem?_eq_getElem hltc
      rw [hget] at this
      exact (Option.some.inj this).symm
    rw [hgi] at hput
    have hrect : ((Lc.flatMap encN).drop (0 + i * 11 + 4)).take 4 = encR L[i].rect := by
      have h2 := congrArg (fun l => (l.drop 4).take 4) (flat_elem encN_len Lc i hltc)
      rw [List.drop_take, List.take_take, List.drop_drop, hgi] at h2
      rw [Nat.zero_add]
      exact h2
    generalize L[i] = n at hget hset hkeep hst1 hstL hput hrect
    have hmv : mvN c o n = bif rangesF n then { n with rect := mvR c o n.rect } else n := rfl
    have hsk : stuckR c o n = (rangesF n && (outF c o || decide (rectE (mvR c o n.rect) ≠ 0))) := rfl
    have hrc := fun w => refRect_at (mvR c o n.rect) w
    by_cases hq : n.kind = 2 ∨ n.kind = 3
    rotate_left
    · have hrf : rangesF n = false := by simp only [rangesF, Bool.or_eq_false_iff, decide_eq_false_iff_not]; omega
      rw [hrf] at hmv hsk
      repeat' (first
        | ((with_reducible apply wl_v); exact rfl; (with_reducible apply v_indexAddr); exact rfl; exact rfl; exact hlt)
        | ((with_reducible apply wl_v); exact rfl; (with_reducible apply v_loadc_own); exact encN_len; exact rfl; (repeat first | exact .hd | apply Sel.tl | apply In.tl); decide; exact hget; exact rfl)
        | ((with_reducible apply wl_v); exact rfl; (first | ((with_reducible apply vop_ok); exact rfl) | ((with_reducible apply v_fieldAddr); exact rfl) | ((with_reducible apply v_len); exact rfl) | ((with_reducible apply v_lens); exact rfl) | ((with_reducible apply v_load_box); exact rfl; (repeat first | exact .hd | apply Sel.tl | apply In.tl); exact rfl) | ((with_reducible apply v_eqlb); exact rfl; exact rfl) | ((with_reducible apply v_neqb); exact rfl; exact rfl) | ((with_reducible apply v_loadw_box); exact rfl; (repeat first | exact .hd | apply Sel.tl | apply In.tl); exact rfl) | ((with_reducible apply v_loadn_box); exact rfl; (repeat first | exact .hd | apply Sel.tl | apply In.tl); exact rfl; exact rfl)))
        | ((with_reducible apply wl_gyes); exact rfl; exact rfl)
        | ((with_reducible apply wl_gno_b); exact rfl; exact rfl; exact rfl; exact rfl)
        | ((with_reducible apply wl_gno_u); exact rfl; exact rfl; exact rfl)
        | ((with_reducible apply wl_alloc); exact rfl; intro _)
        | ((with_reducible apply wl_storen_box); exact rfl; exact rfl; (repeat first | exact .hd | apply Sel.tl | apply In.tl); exact rfl; exact rfl; exact rfl)
        | ((with_reducible apply wl_putn_box); exact rfl; exact rfl; (repeat first | exact .hd | apply Sel.tl | apply In.tl); exact rfl; exact rfl; exact rfl; exact rfl)
        | ((with_reducible apply wl_buildSlice); exact rfl; exact rfl; exact rfl; exact rfl; exact rfl; exact rfl; exact rfl; intro _)
        | ((with_reducible apply wl_gsplit) <;> first | exact rfl | (intro hb; (replace hb := Tidy.out hb; try (exfalso; omega))))
        | (with_reducible first | apply wl_nil | apply thn_n | apply w_seq | apply w_region | apply w_ret | apply w_skip | apply w_exit | apply w_block | apply thn_r | apply thn_e | apply blk_n | apply blk_r | apply blk_e)
        | ((with_reducible apply w_cond_true); exact rfl)
        | ((with_reducible apply w_cond_false); exact rfl)
        | ((with_reducible apply w_cond) <;> first | exact rfl | (intro hb; (replace hb := Tidy.out hb; try (exfalso; omega))))
        | ((with_reducible apply blk_x); exact rfl)
        | ((with_reducible apply wl_v); exact rfl; (with_reducible apply v_succN); exact rfl; exact rfl; (simp only [maxLen] at *; omega))
        | ((with_reducible apply wl_v); exact rfl; (with_reducible apply v_1addN); exact rfl; exact rfl; (simp only [maxLen] at *; omega))
        | ((with_reducible apply wl_v); exact rfl; (with_reducible apply v_addN); exact rfl; exact rfl; (simp only [maxLen] at *; omega)))
      refine ⟨(i + 1, Lc), ⟨hlt, hkeep (by rw [hmv]; rfl), by rw [hst1, hsk]; rfl⟩, (by dsimp only; omega), ?_, ?_⟩
      · (repeat (first | exact Sub.nil _ | refine Sub.cons rfl ?_))
      · (repeat (first | exact MSub.nil _ | refine MSub.pick (by (repeat first | exact .hd | apply Sel.tl | apply In.tl)) ?_ | exact MSub.refl _ | refine MSub.drop .hd ?_))
    have hrf : rangesF n = true := by simp only [rangesF, Bool.or_eq_true, decide_eq_true_eq]; exact hq
    rw [hrf] at hmv hsk
    by_cases hout : (c < -1024 ∨ 1024 < c) ∨ (o < -1024 ∨ 1024 < o)
    · have hs := hstL (by rw [hsk]; simp only [outF, Bool.true_and, Bool.or_eq_true, decide_eq_true_eq]; left; omega)
      repeat' (first
        | ((with_reducible apply wl_v); exact rfl; (with_reducible apply v_indexAddr); exact rfl; exact rfl; exact hlt)
        | ((with_reducible apply wl_v); exact rfl; (with_reducible apply v_loadc_own); exact encN_len; exact rfl; (repeat first | exact .hd | apply Sel.tl | apply In.tl); decide; exact hget; exact rfl)
        | ((with_reducible apply wl_v); exact rfl; (first | ((with_reducible apply vop_ok); exact rfl) | ((with_reducible apply v_fieldAddr); exact rfl) | ((with_reducible apply v_len); exact rfl) | ((with_reducible apply v_lens); exact rfl) | ((with_reducible apply v_load_box); exact rfl; (repeat first | exact .hd | apply Sel.tl | apply In.tl); exact rfl) | ((with_reducible apply v_eqlb); exact rfl; exact rfl) | ((with_reducible apply v_neqb); exact rfl; exact rfl) | ((with_reducible apply v_loadw_box); exact rfl; (repeat first | exact .hd | apply Sel.tl | apply In.tl); exact rfl) | ((with_reducible apply v_loadn_box); exact rfl; (repeat first | exact .hd | apply Sel.tl | apply In.tl); exact rfl; exact rfl)))
        | ((with_reducible apply wl_gyes); exact rfl; exact rfl)
        | ((with_reducible apply wl_gno_b); exact rfl; exact rfl; exact rfl; exact rfl)
        | ((with_reducible apply wl_gno_u); exact rfl; exact rfl; exact rfl)
        | ((with_reducible apply wl_alloc); exact rfl; intro _)
        | ((with_reducible apply wl_storen_box); exact rfl; exact rfl; (repeat first | exact .hd | apply Sel.tl | apply In.tl); exact rfl; exact rfl; exact rfl)
        | ((with_reducible apply wl_putn_box); exact rfl; exact rfl; (repeat first | exact .hd | apply Sel.tl | apply In.tl); exact rfl; exact rfl; exact rfl; exact rfl)
        | ((with_reducible apply wl_buildSlice); exact rfl; exact rfl; exact rfl; exact rfl; exact rfl; exact rfl; exact rfl; intro _)
        | ((with_reducible apply wl_gsplit) <;> first | exact rfl | (intro hb; (replace hb := Tidy.out hb; try (exfalso; omega))))
        | (with_reducible first | apply wl_nil | apply thn_n | apply w_seq | apply w_region | apply w_ret | apply w_skip | apply w_exit | apply w_block | apply thn_r | apply thn_e | apply blk_n | apply blk_r | apply blk_e)
        | ((with_reducible apply w_cond_true); exact rfl)
        | ((with_reducible apply w_cond_false); exact rfl)
        | ((with_reducible apply w_cond) <;> first | exact rfl | (intro hb; (replace hb := Tidy.out hb; try (exfalso; omega))))
        | ((with_reducible apply blk_x); exact rfl)
        | ((with_reducible apply wl_v); exact rfl; (with_reducible apply v_succN); exact rfl; exact rfl; (simp only [maxLen] at *; omega))
        | ((with_reducible apply wl_v); exact rfl; (with_reducible apply v_1addN); exact rfl; exact rfl; (simp only [maxLen] at *; omega))
        | ((with_reducible apply wl_v); exact rfl; (with_reducible apply v_addN); exact rfl; exact rfl; (simp only [maxLen] at *; omega)))
      all_goals
        refine ret2 (.inl rfl) Try.results49 rfl rfl (H' := [.own none 40 11 0 0 []]) (by (repeat (first | exact MSub.nil _ | refine MSub.pick (by (repeat first | exact .hd | apply Sel.tl | apply In.tl)) ?_ | exact MSub.refl _ | refine MSub.drop .hd ?_))) ⟨none, 0, ?_⟩
        rw [if_pos hs]
        exact ⟨rfl, rfl⟩
    have hof : outF c o = false := by simp only [outF, Bool.or_eq_false_iff, decide_eq_false_iff_not]; omega
    generalize hre : rectE (mvR c o n.rect) = re at hrc hsk
    rw [hof] at hsk
    repeat' (first
      | ((with_reducible apply wl_v); exact rfl; (with_reducible apply v_indexAddr); exact rfl; exact rfl; exact hlt)
      | ((with_reducible apply wl_v); exact rfl; (with_reducible apply v_loadc_own); exact encN_len; exact rfl; (repeat first | exact .hd | apply Sel.tl | apply In.tl); decide; exact hget; exact rfl)
      | ((with_reducible apply wl_v (d := 58)); exact rfl; (with_reducible apply v_loads_own (ys := encR n.rect)); exact rfl; (repeat first | exact .hd | apply Sel.tl | apply In.tl); exact hrect; exact rfl)
      | ((with_reducible apply wl_v (d := 62)); exact rfl; (with_reducible apply v_addw); exact rfl; exact rfl)
      | ((with_reducible apply wl_v (d := 66)); exact rfl; (with_reducible apply v_addw); exact rfl; exact rfl)
      | ((with_reducible apply wl_v (d := 70)); exact rfl; (with_reducible apply v_addw); exact rfl; exact rfl)
      | ((with_reducible apply wl_v (d := 74)); exact rfl; (with_reducible apply v_addw); exact rfl; exact rfl)
      | ((with_reducible apply wl_callp); exact rfl; exact rfl; (intro w hm; exact hrc w))
      | ((with_reducible apply wl_put_own (vs := encR (mvR c o n.rect))); exact rfl; exact rfl; (repeat first | exact .hd | apply Sel.tl | apply In.tl); exact rfl; exact rfl; (simp [encR, Value.oneCell']); (rw [flat_length' encN_len]; omega))
      | ((with_reducible apply wl_v); exact rfl; (first | ((with_reducible apply vop_ok); exact rfl) | ((with_reducible apply v_fieldAddr); exact rfl) | ((with_reducible apply v_len); exact rfl) | ((with_reducible apply v_lens); exact rfl) | ((with_reducible apply v_load_box); exact rfl; (repeat first | exact .hd | apply Sel.tl | apply In.tl); exact rfl) | ((with_reducible apply v_eqlb); exact rfl; exact rfl) | ((with_reducible apply v_neqb); exact rfl; exact rfl) | ((with_reducible apply v_loadw_box); exact rfl; (repeat first | exact .hd | apply Sel.tl | apply In.tl); exact rfl) | ((with_reducible apply v_loadn_box); exact rfl; (repeat first | exact .hd | apply Sel.tl | apply In.tl); exact rfl; exact rfl)))
      | ((with_reducible apply wl_gyes); exact rfl; exact rfl)
      | ((with_reducible apply wl_gno_b); exact rfl; exact rfl; exact rfl; exact rfl)
      | ((with_reducible apply wl_gno_u); exact rfl; exact rfl; exact rfl)
      | ((with_reducible apply wl_alloc); exact rfl; intro _)
      | ((with_reducible apply wl_storen_box); exact rfl; exact rfl; (repeat first | exact .hd | apply Sel.tl | apply In.tl); exact rfl; exact rfl; exact rfl)
      | ((with_reducible apply wl_putn_box); exact rfl; exact rfl; (repeat first | exact .hd | apply Sel.tl | apply In.tl); exact rfl; exact rfl; exact rfl; exact rfl)
      | ((with_reducible apply wl_buildSlice); exact rfl; exact rfl; exact rfl; exact rfl; exact rfl; exact rfl; exact rfl; intro _)
      | ((with_reducible apply wl_gsplit) <;> first | exact rfl | (intro hb; (replace hb := Tidy.out hb; try (exfalso; omega))))
      | (with_reducible first | apply wl_nil | apply thn_n | apply w_seq | apply w_region | apply w_ret | apply w_skip | apply w_exit | apply w_block | apply thn_r | apply thn_e | apply blk_n | apply blk_r | apply blk_e)
      | ((with_reducible apply w_cond_true); exact rfl)
      | ((with_reducible apply w_cond_false); exact rfl)
      | ((with_reducible apply w_cond) <;> first | exact rfl | (intro hb; (replace hb := Tidy.out hb; try (exfalso; omega))))
      | ((with_reducible apply blk_x); exact rfl)
      | ((with_reducible apply wl_v); exact rfl; (with_reducible apply v_succN); exact rfl; exact rfl; (simp only [maxLen] at *; omega))
      | ((with_reducible apply wl_v); exact rfl; (with_reducible apply v_1addN); exact rfl; exact rfl; (simp only [maxLen] at *; omega))
      | ((with_reducible apply wl_v); exact rfl; (with_reducible apply v_addN); exact rfl; exact rfl; (simp only [maxLen] at *; omega)))
    all_goals first
      | (have hs := hstL (by rw [hsk]; simp [hb])
         refine ret2 (.inl rfl) Try.results49 rfl rfl (H' := [.own none 40 11 0 0 []]) (by (repeat (first | exact MSub.nil _ | refine MSub.pick (by (repeat first | exact .hd | apply Sel.tl | apply In.tl)) ?_ | exact MSub.refl _ | refine MSub.drop .hd ?_))) ⟨none, 0, ?_⟩
         rw [if_pos hs]
         exact ⟨rfl, rfl⟩)
      | (have hs : stuckR c o n = false := by
           rw [hsk]
           have h3 : re = 0 := by omega
           simp [h3]
         rw [hmv, cond_true] at hset
         refine ⟨(i + 1, Lc.set i { n with rect := mvR c o n.rect }), ⟨hlt, hset, hst1.trans hs⟩, (by dsimp only; omega), ?_, ?_⟩
         · (repeat (first | exact Sub.nil _ | refine Sub.cons rfl ?_))
         · dsimp only
           rw [← hput (mvR c o n.rect)]
           simp only [Nat.zero_add]
           (repeat (first | exact MSub.nil _ | refine MSub.pick (by (repeat first | exact .hd | apply Sel.tl | apply In.tl)) ?_ | exact MSub.refl _ | refine MSub.drop .hd ?_)))
  · have e : i = L.length := by omega
    subst e
    rw [List.take_length] at hLc hst
    rw [List.drop_length, List.append_nil] at hLc
    repeat' (first
      | ((with_reducible apply wl_v); exact rfl; (first | ((with_reducible apply vop_ok); exact rfl) | ((with_reducible apply v_fieldAddr); exact rfl) | ((with_reducible apply v_len); exact rfl) | ((with_reducible apply v_lens); exact rfl) | ((with_reducible apply v_load_box); exact rfl; (repeat first | exact .hd | apply Sel.tl | apply In.tl); exact rfl) | ((with_reducible apply v_eqlb); exact rfl; exact rfl) | ((with_reducible apply v_neqb); exact rfl; exact rfl) | ((with_reducible apply v_loadw_box); exact rfl; (repeat first | exact .hd | apply Sel.tl | apply In.tl); exact rfl) | ((with_reducible apply v_loadn_box); exact rfl; (repeat first | exact .hd | apply Sel.tl | apply In.tl); exact rfl; exact rfl)))
      | ((with_reducible apply wl_gyes); exact rfl; exact rfl)
      | ((with_reducible apply wl_gno_b); exact rfl; exact rfl; exact rfl; exact rfl)
      | ((with_reducible apply wl_gno_u); exact rfl; exact rfl; exact rfl)
      | ((with_reducible apply wl_alloc); exact rfl; intro _)
      | ((with_reducible apply wl_storen_box); exact rfl; exact rfl; (repeat first | exact .hd | apply Sel.tl | apply In.tl); exact rfl; exact rfl; exact rfl)
      | ((with_reducible apply wl_putn_box); exact rfl; exact rfl; (repeat first | exact .hd | apply Sel.tl | apply In.tl); exact rfl; exact rfl; exact rfl; exact rfl)
      | ((with_reducible apply wl_buildSlice); exact rfl; exact rfl; exact rfl; exact rfl; exact rfl; exact rfl; exact rfl; intro _)
      | ((with_reducible apply wl_gsplit) <;> first | exact rfl | (intro hb; (replace hb := Tidy.out hb; try (exfalso; omega))))
      | (with_reducible first | apply wl_nil | apply thn_n | apply w_seq | apply w_region | apply w_ret | apply w_skip | apply w_exit | apply w_block | apply thn_r | apply thn_e | apply blk_n | apply blk_r | apply blk_e)
      | ((with_reducible apply w_cond_true); exact rfl)
      | ((with_reducible apply w_cond_false); exact rfl)
      | ((with_reducible apply w_cond) <;> first | exact rfl | (intro hb; (replace hb := Tidy.out hb; try (exfalso; omega))))
      | ((with_reducible apply blk_x); exact rfl))
    refine ret2 (.inl rfl) Try.results49 rfl rfl (H' := [.own (some gO) 40 11 L.length cap' (Lc.flatMap encN)]) (by (repeat (first | exact MSub.nil _ | refine MSub.pick (by (repeat first | exact .hd | apply Sel.tl | apply In.tl)) ?_ | exact MSub.refl _ | refine MSub.drop .hd ?_))) ⟨some gO, cap', ?_⟩
    rw [if_neg (by rw [hst]; decide), hLc]
    exact ⟨by rw [List.length_map], by rw [List.length_map]⟩
end Go.SL

/-
  What the functions of packages glyph and val return that package tree calls.
-/
import Derived.Test.YtfkklicpnoeclaaE1
namespace Go.SL
open Go Go.Proofs
attribute [local irreducible] W WL WQ WG VOp thn blk retP FnAt FnIn

def ints (b : ByteArray) : List Int := b.data.toList.map fun c => (c.toNat : Int)
theorem bytesV_eq (b : ByteArray) : bytesV b = (ints b).map (Value.int .u8) := by simp [bytesV, ints]
theorem ints_length (b : ByteArray) : (ints b).length = b.size := by simp [ints]

theorem upd_step {α β : Type} (f : α → α) (E : α → β) (xs : List α) (i : Nat) (h : i < xs.length) : (((xs.take i).map f ++ xs.drop i).map E).set i (E (f xs[i])) = ((xs.take (i + 1)).map f ++ xs.drop (i + 1)).map E := by
  rw [← List.map_set, List.set_append_right _ _ (by simp; omega)]
  have e1 : xs.drop i = xs[i] :: xs.drop (i + 1) := List.drop_eq_getElem_cons h
  have e2 : xs.take (i + 1) = xs.take i ++ [xs[i]] := List.take_succ_eq_append_getElem h
  have e3 : i - ((xs.take i).map f).length = 0 := by simp; omega
  rw [e3, e1, e2]
  simp only [List.set_cons_zero, List.map_append, List.map_cons, List.map_nil, List.append_assoc, List.cons_append, List.nil_append]

set_option maxRecDepth 10000 in
/-- 'changed': every byte by a function. -/
theorem changed_at (f : FuncId) [Callable Try.prog f] (g : Int → Int) (hf : ∀ c w, Pure Try.prog f [.int .u8 c] w (.int .u8 (g c))) (a : ByteArray) (ha : a.size ≤ 1000000) (w : World) :
    FnAt Try.prog 96 [.string a, .func (.func f) #[] #[]] w fun v H => ∃ gb cap, v = .slice (some ⟨gb, 0, none⟩) a.size cap ∧ H = [.byt gb 5 a.size cap (((ints a).map g).map (Value.int .u8))] := by
  refine fn_at Try.func96 rfl Try.ntmps96 rfl ?_
  repeat' (first
    | ((with_reducible apply wl_toBytes); exact rfl; exact rfl; intro gb cap)
    | ((with_reducible apply wl_v); exact rfl; (first | ((with_reducible apply vop_ok); exact rfl) | ((with_reducible apply v_len); exact rfl) | ((with_reducible apply v_lens); exact rfl) | ((with_reducible apply v_load_box); exact rfl; (repeat first | exact .hd | apply Sel.tl | apply In.tl); exact rfl) | ((with_reducible apply v_loadw_box); exact rfl; (repeat first | exact .hd | apply Sel.tl | apply In.tl); exact rfl) | ((with_reducible apply v_loadn_box); exact rfl; (repeat first | exact .hd | apply Sel.tl | apply In.tl); exact rfl; exact rfl)))
    | ((with_reducible apply wl_storen_box); exact rfl; exact rfl; (repeat first | exact .hd | apply Sel.tl | apply In.tl); exact rfl; exact rfl; exact rfl)
    | ((with_reducible apply wl_putn_box); exact rfl; exact rfl; (repeat first | exact .hd | apply Sel.tl | apply In.tl); exact rfl; exact rfl; exact rfl; exact rfl)
    | (with_reducible first | apply wl_nil | apply thn_n | apply w_seq | apply w_region | apply w_ret | apply w_skip | apply w_exit | apply w_block | apply thn_r | apply thn_e | apply blk_n | apply blk_r | apply blk_e)
    | ((with_reducible apply w_cond_true); exact rfl)
    | ((with_reducible apply w_cond_false); exact rfl)
    | ((with_reducible apply w_cond) <;> first | exact rfl | (intro hb; (replace hb := Tidy.out hb; try (exfalso; omega))))
    | ((with_reducible apply blk_x); exact rfl))
  refine w_loop (fun i : Nat => [(5, .slice (some ⟨gb, 0, none⟩) a.size cap), (10, .slice (some ⟨gb, 0, none⟩) a.size cap), (11, .int .i64 (a.size : Int)), (12, .int .i64 (i : Int)), (1, .func (.func f) #[] #[])])
    (fun i => [.byt gb 5 a.size cap ((((ints a).take i).map g ++ (ints a).drop i).map (Value.int .u8))]) (fun i => i ≤ a.size) (fun i => a.size - i) 0 (by omega) ?_ ?_ ?_
  · (repeat (first | exact Sub.nil _ | refine Sub.cons rfl ?_))
  · rw [bytesV_eq]; simp only [List.take_zero, List.map_nil, List.nil_append, List.drop_zero]; (repeat (first | exact MSub.nil _ | refine MSub.pick (by (repeat first | exact .hd | apply Sel.tl | apply In.tl)) ?_ | exact MSub.refl _ | refine MSub.drop .hd ?_))
  · intro i hi
    have hl := ints_length a
    by_cases hlt : i < a.size
    · have hil : i < (ints a).length := by omega
      have hget : ((((ints a).take i).map g ++ (ints a).drop i).map (Value.int .u8))[0 + i * 1]? = some (.int .u8 (ints a)[i]) := by
        rw [List.getElem?_map, show 0 + i * 1 = i by omega, List.getElem?_append_right (by simp; omega)]
        simp [Nat.min_eq_left (Nat.le_of_lt hil), List.getElem?_drop]
      repeat' (first
        | ((with_reducible apply wl_v); exact rfl; (with_reducible apply v_indexAddr); exact rfl; exact rfl; exact hlt)
        | ((with_reducible apply wl_v); exact rfl; (with_reducible apply v_load_byt); exact rfl; exact .hd; exact hget)
        | ((with_reducible apply wl_callvp); exact rfl; exact rfl; infer_instance; exact rfl; (intro w hm; exact hf _ w))
        | ((with_reducible apply wl_store_byt); exact rfl; exact rfl; exact .hd; exact rfl; (simp; omega))
        | ((with_reducible apply wl_v); exact rfl; (with_reducible apply v_add); exact rfl; exact rfl; (constructor <;> omega))
        | ((with_reducible apply wl_v); exact rfl; (first | ((with_reducible apply vop_ok); exact rfl) | ((with_reducible apply v_len); exact rfl) | ((with_reducible apply v_lens); exact rfl) | ((with_reducible apply v_load_box); exact rfl; (repeat first | exact .hd | apply Sel.tl | apply In.tl); exact rfl) | ((with_reducible apply v_loadw_box); exact rfl; (repeat first | exact .hd | apply Sel.tl | apply In.tl); exact rfl) | ((with_reducible apply v_loadn_box); exact rfl; (repeat first | exact .hd | apply Sel.tl | apply In.tl); exact rfl; exact rfl)))
        | ((with_reducible apply wl_storen_box); exact rfl; exact rfl; (repeat first | exact .hd | apply Sel.tl | apply In.tl); exact rfl; exact rfl; exact rfl)
        | ((with_reducible apply wl_putn_box); exact rfl; exact rfl; (repeat first | exact .hd | apply Sel.tl | apply In.tl); exact rfl; exact rfl; exact rfl; exact rfl)
        | (with_reducible first | apply wl_nil | apply thn_n | apply w_seq | apply w_region | apply w_ret | apply w_skip | apply w_exit | apply w_block | apply thn_r | apply thn_e | apply blk_n | apply blk_r | apply blk_e)
        | ((with_reducible apply w_cond_true); exact rfl)
        | ((with_reducible apply w_cond_false); exact rfl)
        | ((with_reducible apply w_cond) <;> first | exact rfl | (intro hb; (replace hb := Tidy.out hb; try (exfalso; omega))))
        | ((with_reducible apply blk_x); exact rfl))
      refine ⟨i + 1, by omega, by omega, ?_, ?_⟩
      · (repeat (first | exact Sub.nil _ | refine Sub.cons rfl ?_))
      · rw [show 0 + i * 1 = i by omega, upd_step g (Value.int .u8) (ints a) i hil]
        (repeat (first | exact MSub.nil _ | refine MSub.pick (by (repeat first | exact .hd | apply Sel.tl | apply In.tl)) ?_ | exact MSub.refl _ | refine MSub.drop .hd ?_))
    · have e : i = a.size := by omega
      subst e
      repeat' (first
        | ((with_reducible apply wl_v); exact rfl; (first | ((with_reducible apply vop_ok); exact rfl) | ((with_reducible apply v_len); exact rfl) | ((with_reducible apply v_lens); exact rfl) | ((with_reducible apply v_load_box); exact rfl; (repeat first | exact .hd | apply Sel.tl | apply In.tl); exact rfl) | ((with_reducible apply v_loadw_box); exact rfl; (repeat first | exact .hd | apply Sel.tl | apply In.tl); exact rfl) | ((with_reducible apply v_loadn_box); exact rfl; (repeat first | exact .hd | apply Sel.tl | apply In.tl); exact rfl; exact rfl)))
        | ((with_reducible apply wl_storen_box); exact rfl; exact rfl; (repeat first | exact .hd | apply Sel.tl | apply In.tl); exact rfl; exact rfl; exact rfl)
        | ((with_reducible apply wl_putn_box); exact rfl; exact rfl; (repeat first | exact .hd | apply Sel.tl | apply In.tl); exact rfl; exact rfl; exact rfl; exact rfl)
        | (with_reducible first | apply wl_nil | apply thn_n | apply w_seq | apply w_region | apply w_ret | apply w_skip | apply w_exit | apply w_block | apply thn_r | apply thn_e | apply blk_n | apply blk_r | apply blk_e)
        | ((with_reducible apply w_cond_true); exact rfl)
        | ((with_reducible apply w_cond_false); exact rfl)
        | ((with_reducible apply w_cond) <;> first | exact rfl | (intro hb; (replace hb := Tidy.out hb; try (exfalso; omega))))
        | ((with_reducible apply blk_x); exact rfl))
      refine ret1 (.inl rfl) Try.results96 rfl (.refl _) ⟨gb, cap, rfl, ?_⟩
      rw [List.take_of_length_le (by omega), List.drop_of_length_le (by omega), List.append_nil]

def markB (c : Int) : Int := if c < 32 ∨ 126 < c then 0 else 32

set_option maxRecDepth 10000 in
theorem mark_at (c : Int) (w : World) : Pure Try.prog 97 [.int .u8 c] w (.int .u8 (markB c)) := by
  refine fn_at Try.func97 rfl Try.ntmps97 rfl ?_
  repeat' (first
    | ((with_reducible apply wl_v); exact rfl; (first | ((with_reducible apply vop_ok); exact rfl)))
    | ((with_reducible apply wl_gyes); exact rfl; exact rfl)
    | ((with_reducible apply wl_gno_b); exact rfl; exact rfl; exact rfl; exact rfl)
    | ((with_reducible apply wl_gno_u); exact rfl; exact rfl; exact rfl)
    | ((with_reducible apply wl_gsplit) <;> first | exact rfl | (intro hb; (replace hb := Tidy.out hb; try (exfalso; omega))))
    | (with_reducible first | apply wl_nil | apply thn_n | apply w_seq | apply w_region | apply w_ret | apply w_skip | apply w_exit | apply w_block | apply thn_r | apply thn_e | apply blk_n | apply blk_r | apply blk_e)
    | ((with_reducible apply w_cond_true); exact rfl)
    | ((with_reducible apply w_cond_false); exact rfl)
    | ((with_reducible apply w_cond) <;> first | exact rfl | (intro hb; (replace hb := Tidy.out hb; try (exfalso; omega))))
    | ((with_reducible apply blk_x); exact rfl))
  all_goals (((with_reducible apply ret1); exact .inl rfl; exact rfl; exact rfl; exact MSub.nil _); ((try simp only [← Int.not_lt] at *); simp_all [markB, -Int.not_lt, -Int.not_le]))

set_option maxRecDepth 10000 in
theorem isZero_at (c : Int) (w : World) : Pure Try.prog 98 [.int .i32 c] w (.bool (decide (c = 0))) := by
  refine fn_at Try.func98 rfl Try.ntmps98 rfl ?_
  repeat' (first
    | ((with_reducible apply wl_v); exact rfl; (first | ((with_reducible apply vop_ok); exact rfl) | ((with_reducible apply v_eqlb); exact rfl; exact rfl) | ((with_reducible apply v_neqb); exact rfl; exact rfl)))
    | (with_reducible first | apply wl_nil | apply thn_n | apply w_seq | apply w_region | apply w_ret | apply w_skip | apply w_exit | apply w_block | apply thn_r | apply thn_e | apply blk_n | apply blk_r | apply blk_e)
    | ((with_reducible apply w_cond_true); exact rfl)
    | ((with_reducible apply w_cond_false); exact rfl)
    | ((with_reducible apply w_cond) <;> first | exact rfl | (intro hb; (replace hb := Tidy.out hb; try (exfalso; omega))))
    | ((with_reducible apply blk_x); exact rfl))
  all_goals (((with_reducible apply ret1); exact .inl rfl; exact rfl; exact rfl; exact MSub.nil _); rfl)

def firstAt (q : Int → Bool) (l : List Int) : Int := match l.findIdx? q with
  | some i => (i : Int)
  | none => -1

theorem ints_get (b : ByteArray) (i : Nat) (h : i < b.size) : (ints b)[i]'(by rw [ints_length]; exact h) = (b[i].toNat : Int) := by
  simp [ints]; rfl

theorem firstAt_hit {q : Int → Bool} {l : List Int} {i : Nat} (h : i < l.length) (hq : q l[i] = true) (hno : ∀ j (h : j < l.length), j < i → q l[j] = false) : firstAt q l = (i : Int) := by
  have : l.findIdx? q = some i := by
    rw [List.findIdx?_eq_some_iff_getElem]
    exact ⟨h, hq, fun j hj => by simpa using hno j (by omega) hj⟩
  simp [firstAt, this]
theorem firstAt_miss {q : Int → Bool} {l : List Int} (hno : ∀ j (h : j < l.length), q l[j] = false) : firstAt q l = -1 := by
  have : l.findIdx? q = none := by
    rw [List.findIdx?_eq_none_iff]
    intro x hx
    obtain ⟨j, hj, rfl⟩ := List.getElem_of_mem hx
    exact hno j hj
  simp [firstAt, this]

set_option maxRecDepth 10000 in
theorem indexFunc_at (f : FuncId) [Callable Try.prog f] (q : Int → Bool) (hf : ∀ c w, Pure Try.prog f [.int .i32 c] w (.bool (q c))) (a : ByteArray) (ha : a.size ≤ 1000000) (hasc : ∀ i (h : i < a.size), (a[i]'h).toNat < 128) (w : World) :
    Pure Try.prog 99 [.string a, .func (.func f) #[] #[], .bool true] w (.int .i64 (firstAt q (ints a))) := by
  refine fn_at Try.func99 rfl Try.ntmps99 rfl ?_
  have hl := ints_length a
  repeat' (first
    | ((with_reducible apply wl_range_str); exact rfl; exact rfl; intro gi)
    | ((with_reducible apply wl_v); exact rfl; (first | ((with_reducible apply vop_ok); exact rfl) | ((with_reducible apply v_eqlb); exact rfl; exact rfl) | ((with_reducible apply v_neqb); exact rfl; exact rfl)))
    | (with_reducible first | apply wl_nil | apply thn_n | apply w_seq | apply w_region | apply w_ret | apply w_skip | apply w_exit | apply w_block | apply thn_r | apply thn_e | apply blk_n | apply blk_r | apply blk_e)
    | ((with_reducible apply w_cond_true); exact rfl)
    | ((with_reducible apply w_cond_false); exact rfl)
    | ((with_reducible apply w_cond) <;> first | exact rfl | (intro hb; (replace hb := Tidy.out hb; try (exfalso; omega))))
    | ((with_reducible apply blk_x); exact rfl))
  refine w_loop (fun i : Nat => [(0, .string a), (1, .func (.func f) #[] #[]), (2, .bool true), (10, .pointer (some ⟨gi, 0, none⟩))])
    (fun i => [.obj gi (.stringIter a i)]) (fun i => i ≤ a.size ∧ ∀ j (h : j < (ints a).length), j < i → q (ints a)[j] = false) (fun i => a.size - i) 0 ⟨by omega, fun j _ h => by omega⟩ ?_ ?_ ?_
  · (repeat (first | exact Sub.nil _ | refine Sub.cons rfl ?_))
  · (repeat (first | exact MSub.nil _ | refine MSub.pick (by (repeat first | exact .hd | apply Sel.tl | apply In.tl)) ?_ | exact MSub.refl _ | refine MSub.drop .hd ?_))
  · rintro i ⟨hi, hno⟩
    repeat' (first
      | ((with_reducible apply wl_next_str); exact rfl; exact rfl; exact .hd; exact hasc i; all_goals intro hb)
      | ((with_reducible apply wl_callvp); exact rfl; exact rfl; infer_instance; exact rfl; (intro w hm; exact hf _ w))
      | ((with_reducible apply wl_v); exact rfl; (first | ((with_reducible apply vop_ok); exact rfl) | ((with_reducible apply v_eqlb); exact rfl; exact rfl) | ((with_reducible apply v_neqb); exact rfl; exact rfl)))
      | (with_reducible first | apply wl_nil | apply thn_n | apply w_seq | apply w_region | apply w_ret | apply w_skip | apply w_exit | apply w_block | apply thn_r | apply thn_e | apply blk_n | apply blk_r | apply blk_e)
      | ((with_reducible apply w_cond_true); exact rfl)
      | ((with_reducible apply w_cond_false); exact rfl)
      | ((with_reducible apply w_cond) <;> first | exact rfl | (intro hb; (replace hb := Tidy.out hb; try (exfalso; omega))))
      | ((with_reducible apply blk_x); exact rfl))
    all_goals (try simp only [beq_true] at *)
    · rename_i hlt
      have hq := hb
      refine ret1 (.inl rfl) Try.results99 rfl (MSub.nil _) ?_
      have h1 := ints_get a i hlt
      rw [firstAt_hit (i := i) (by omega) (by rw [h1]; exact hq) hno]
    · rename_i hlt
      have hq := hb
      refine ⟨i + 1, ⟨by omega, fun j hj hji => ?_⟩, by omega, ?_, ?_⟩
      · by_cases e : j = i
        · subst e
          rw [ints_get a j hlt]; exact hq
        · exact hno j hj (by omega)
      · (repeat (first | exact Sub.nil _ | refine Sub.cons rfl ?_))
      · (repeat (first | exact MSub.nil _ | refine MSub.pick (by (repeat first | exact .hd | apply Sel.tl | apply In.tl)) ?_ | exact MSub.refl _ | refine MSub.drop .hd ?_))
    · have hge := hb
      refine ret1 (.inl rfl) Try.results99 rfl (MSub.nil _) ?_
      rw [firstAt_miss fun j hj => hno j hj (by omega)]

set_option maxRecDepth 10000 in
theorem IndexFunc_at (f : FuncId) [Callable Try.prog f] (q : Int → Bool) (hf : ∀ c w, Pure Try.prog f [.int .i32 c] w (.bool (q c))) (a : ByteArray) (ha : a.size ≤ 1000000) (hasc : ∀ i (h : i < a.size), (a[i]'h).toNat < 128) (w : World) :
    Pure Try.prog 95 [.string a, .func (.func f) #[] #[]] w (.int .i64 (firstAt q (ints a))) := by
  refine fn_at Try.func95 rfl Try.ntmps95 rfl ?_
  repeat' (first
    | ((with_reducible apply wl_callp); exact rfl; exact rfl; (intro w hm; exact indexFunc_at f q hf a ha hasc w))
    | ((with_reducible apply wl_v); exact rfl; (first | ((with_reducible apply vop_ok); exact rfl)))
    | (with_reducible first | apply wl_nil | apply thn_n | apply w_seq | apply w_region | apply w_ret | apply w_skip | apply w_exit | apply w_block | apply thn_r | apply thn_e | apply blk_n | apply blk_r | apply blk_e)
    | ((with_reducible apply w_cond_true); exact rfl)
    | ((with_reducible apply w_cond_false); exact rfl)
    | ((with_reducible apply w_cond) <;> first | exact rfl | (intro hb; (replace hb := Tidy.out hb; try (exfalso; omega))))
    | ((with_reducible apply blk_x); exact rfl))
  all_goals (((with_reducible apply ret1); exact .inl rfl; exact rfl; exact rfl; exact MSub.nil _); rfl)

def marked (a : ByteArray) : ByteArray := ⟨(((ints a).map markB).map fun n => UInt8.ofNat n.toNat).toArray⟩

theorem marked_size (a : ByteArray) : (marked a).size = a.size := by
  have : (marked a).size = ((ints a).map markB).length := by simp [marked, ByteArray.size]
  rw [this]; simp [ints_length]

theorem marked_ints (a : ByteArray) : ints (marked a) = (ints a).map markB := by
  simp only [ints, marked, List.map_map]
  congr 1
  funext c
  simp only [Function.comp, markB]
  split <;> simp

theorem firstAt_neg (q : Int → Bool) (l : List Int) : decide (firstAt q l < 0) = l.all fun c => !q c := by
  unfold firstAt
  cases h : l.findIdx? q with
  | none =>
    rw [List.findIdx?_eq_none_iff] at h
    rw [Bool.eq_iff_iff]
    simpa using h
  | some i =>
    rw [List.findIdx?_eq_some_iff_getElem] at h
    obtain ⟨h1, h2, _⟩ := h
    rw [Bool.eq_iff_iff]
    simp only [decide_eq_true_eq, List.all_eq_true]
    constructor
    · intro h; omega
    · intro h
      have := h _ (List.getElem_mem h1)
      rw [h2] at this
      cases this

theorem plain_marks (a : ByteArray) : decide (firstAt (fun c => decide (c = 0)) (ints (marked a)) < 0) = plainB a := by
  rw [firstAt_neg, marked_ints]
  simp only [ints, List.all_map, plainB]
  congr 1
  funext c
  have e : (decide (markB (c.toNat : Int) = 0)) = !(decide (32 ≤ c.toNat) && decide (c.toNat ≤ 126)) := by
    rw [Bool.eq_iff_iff]
    by_cases h : (c.toNat : Int) < 32 ∨ 126 < (c.toNat : Int)
    · simp only [markB, if_pos h]; simp; omega
    · simp only [markB, if_neg h]; simp; omega
  simp only [Function.comp, e, Bool.not_not]

theorem marked_ascii (a : ByteArray) : ∀ i (h : i < (marked a).size), ((marked a)[i]'h).toNat < 128 := by
  intro i h
  have h1 := ints_get (marked a) i h
  have h2 : ((marked a)[i].toNat : Int) = markB ((ints a)[i]'(by rw [ints_length, ← marked_size]; exact h)) := by
    rw [← h1]
    simp [marked_ints]
  have h3 : ∀ x, markB x = 0 ∨ markB x = 32 := fun x => by unfold markB; split <;> simp
  rcases h3 ((ints a)[i]'(by rw [ints_length, ← marked_size]; exact h)) with h4 | h4 <;> omega

set_option maxRecDepth 10000 in
theorem printable_at (a : ByteArray) (ha : a.size ≤ 1000000) (w : World) : Pure Try.prog 94 [.string a] w (.bool (plainB a)) := by
  refine fn_at Try.func94 rfl Try.ntmps94 rfl ?_
  repeat' (first
    | ((with_reducible apply wl_call (R := fun v H => ∃ gb cap, v = .slice (some ⟨gb, 0, none⟩) a.size cap ∧ H = [.byt gb 5 a.size cap (((ints a).map markB).map (Value.int .u8))])); exact rfl; exact rfl; (intro w hm; exact changed_at 97 markB mark_at a ha w); (rintro v H' ⟨gb, cap, rfl, rfl⟩))
    | ((with_reducible apply wl_v); exact rfl; (with_reducible apply v_ofBytes); exact rfl; exact .hd; simp [ints_length])
    | ((with_reducible apply wl_callp); exact rfl; exact rfl; (intro w hm; exact IndexFunc_at 98 (fun c => decide (c = 0)) isZero_at (marked a) (by rw [marked_size]; exact ha) (marked_ascii a) w))
    | ((with_reducible apply wl_v); exact rfl; (first | ((with_reducible apply vop_ok); exact rfl)))
    | (with_reducible first | apply wl_nil | apply thn_n | apply w_seq | apply w_region | apply w_ret | apply w_skip | apply w_exit | apply w_block | apply thn_r | apply thn_e | apply blk_n | apply blk_r | apply blk_e)
    | ((with_reducible apply w_cond_true); exact rfl)
    | ((with_reducible apply w_cond_false); exact rfl)
    | ((with_reducible apply w_cond) <;> first | exact rfl | (intro hb; (replace hb := Tidy.out hb; try (exfalso; omega))))
    | ((with_reducible apply blk_x); exact rfl))
  all_goals (((with_reducible apply ret1); exact .inl rfl; exact rfl; exact rfl; exact MSub.nil _); rw [← plain_marks])

set_option maxRecDepth 10000 in
theorem glyph_at (a : ByteArray) (w : World) : Pure Try.prog 92 [.string a] w (.int .i64 (glyphE a)) := by
  refine fn_at Try.func92 rfl Try.ntmps92 rfl ?_
  repeat' (first
    | ((with_reducible apply wl_callp); exact rfl; exact rfl; (intro w hm; exact printable_at a (by omega) w))
    | ((with_reducible apply wl_v); exact rfl; (first | ((with_reducible apply vop_ok); exact rfl) | ((with_reducible apply v_len); exact rfl) | ((with_reducible apply v_lens); exact rfl)))
    | (with_reducible first | apply wl_nil | apply thn_n | apply w_seq | apply w_region | apply w_ret | apply w_skip | apply w_exit | apply w_block | apply thn_r | apply thn_e | apply blk_n | apply blk_r | apply blk_e)
    | ((with_reducible apply w_cond_true); exact rfl)
    | ((with_reducible apply w_cond_false); exact rfl)
    | ((with_reducible apply w_cond) <;> first | exact rfl | (intro hb; (replace hb := Tidy.out hb; try (exfalso; omega))))
    | ((with_reducible apply blk_x); exact rfl))
  · ((with_reducible apply ret1); exact .inl rfl; exact rfl; exact rfl; exact MSub.nil _)
    have : decide (256 < a.size) = true := by simp; omega
    simp [glyphE, this]
  all_goals
    ((with_reducible apply ret1); exact .inl rfl; exact rfl; exact rfl; exact MSub.nil _)
    have h256 : decide (256 < a.size) = false := by simp; omega
    simp only [glyphE, h256, hb, cond_true, cond_false]

set_option maxRecDepth 10000 in
theorem val_at (v : Vl) (w : World) : Pure Try.prog 90 [.agg (encV v).toArray] w (.int .i64 (valE v)) := by
  refine fn_at Try.func90 rfl Try.ntmps90 rfl ?_
  repeat' (first
    | ((with_reducible apply wl_callp); exact rfl; exact rfl; (intro w hm; exact glyph_at v.text w))
    | ((with_reducible apply wl_v); exact rfl; exact v_eqlV (b := ⟨0, 0, emptyB⟩) rfl rfl)
    | ((with_reducible apply wl_v); exact rfl; (first | ((with_reducible apply vop_ok); exact rfl) | ((with_reducible apply v_fieldAddr); exact rfl) | ((with_reducible apply v_load_box); exact rfl; (repeat first | exact .hd | apply Sel.tl | apply In.tl); exact rfl) | ((with_reducible apply v_eqlb); exact rfl; exact rfl) | ((with_reducible apply v_neqb); exact rfl; exact rfl) | ((with_reducible apply v_loadw_box); exact rfl; (repeat first | exact .hd | apply Sel.tl | apply In.tl); exact rfl) | ((with_reducible apply v_loadn_box); exact rfl; (repeat first | exact .hd | apply Sel.tl | apply In.tl); exact rfl; exact rfl) | ((with_reducible apply v_build); exact rfl; exact rfl; exact rfl) | ((with_reducible apply v_shr); exact rfl; exact rfl; exact rfl)))
    | ((with_reducible apply wl_gyes); exact rfl; exact rfl)
    | ((with_reducible apply wl_gno_b); exact rfl; exact rfl; exact rfl; exact rfl)
    | ((with_reducible apply wl_gno_u); exact rfl; exact rfl; exact rfl)
    | ((with_reducible apply wl_boxs); exact rfl; exact rfl; intro _)
    | ((with_reducible apply wl_box1); exact rfl; exact rfl; exact rfl; intro _)
    | ((with_reducible apply wl_gsplit) <;> first | exact rfl | (intro hb; (replace hb := Tidy.out hb; try (exfalso; omega))))
    | (with_reducible first | apply wl_nil | apply thn_n | apply w_seq | apply w_region | apply w_ret | apply w_skip | apply w_exit | apply w_block | apply thn_r | apply thn_e | apply blk_n | apply blk_r | apply blk_e)
    | ((with_reducible apply w_cond_true); exact rfl)
    | ((with_reducible apply w_cond_false); exact rfl)
    | ((with_reducible apply w_cond) <;> first | exact rfl | (intro hb; (replace hb := Tidy.out hb; try (exfalso; omega))))
    | ((with_reducible apply blk_x); exact rfl))
  all_goals (((with_reducible apply ret1); exact .inl rfl; exact rfl; exact rfl; exact MSub.nil _); ((try simp only [← Int.not_lt] at *); simp_all [valE, valOk, eqV, emptyB, -Int.not_lt, -Int.not_le, ← Int.not_lt]); try (by_cases h : v.num = 0 <;> simp_all))
end Go.SL

/-
  Lemmas and walks, packed: Tr7 W40.
-/
import Derived.Test.YtfkklicpnoeclaaGe
import Derived.Test.YtfkklicpnoeclaaGi
import Derived.Test.YtfkklicpnoeclaaGj
set_option linter.unusedSimpArgs false
set_option linter.unusedVariables false
/-
  The uses of a tree are those of the trees below its root. No program in sight.
-/
namespace Go.SL
open Go

/-- A use whose node is counted from i on. -/
def shU (i : Int) (u : Us) : Us := if 0 ≤ u.node then { u with node := u.node + i } else u

theorem useOf_shift (n : Nd) (i j : Nat) (r : List Nd) : useOf n (i + j) r = shU (j : Int) (useOf n i r) := by
  unfold useOf
  split
  · split
    · unfold shU
      dsimp only
      rw [if_pos (by omega)]
      congr 1
      omega
    · unfold shU
      rw [if_neg (by dsimp only; omega)]
  · unfold shU
    rw [if_neg (by dsimp only; omega)]

theorem usesFrom_shift : ∀ (L : List Nd) (i j : Nat), usesFrom L (i + j) = (usesFrom L i).map (shU (j : Int))
  | [], _, _ => rfl
  | n :: r, i, j => by
    have h := usesFrom_shift r (i + 1) j
    rw [show i + 1 + j = i + j + 1 by omega] at h
    rw [usesFrom, usesFrom, h, useOf_shift]
    cases rangesF n <;> rfl

theorem usesFrom_at (L : List Nd) (i : Nat) : usesFrom L i = (usesF L).map (shU (i : Int)) := by
  have h := usesFrom_shift L 0 i
  rw [Nat.zero_add] at h
  exact h

theorem usesFrom_append {m : Nd} (hm : rangesF m = false) (rest : List Nd) : ∀ (a : List Nd) (i : Nat), usesFrom (a ++ m :: rest) i = usesFrom (a ++ [m]) i ++ usesFrom rest (i + a.length + 1)
  | [], i => by simp [usesFrom, hm]
  | x :: a, i => by
    have h := usesFrom_append hm rest a (i + 1)
    have e : useOf x i (a ++ m :: rest) = useOf x i (a ++ [m]) := by cases a <;> rfl
    rw [List.cons_append, List.cons_append, usesFrom, usesFrom, e, h, show i + (x :: a).length + 1 = i + 1 + a.length + 1 by simp; omega]
    cases rangesF x <;> rfl

def relB (n : Nd) : Bool := decide (n.kind = 7) && decide (46 ≤ n.fn)
def aloneR (S : STree) : Bool := match S.ns with
  | [m] => rangesF m
  | _ => false
def pieceF (n : Nd) (N : Nat) (S : STree) (i : Nat) : List Us :=
  match S.ns with
  | [m] => bif rangesF m then [if relB n then ⟨m.rect, (N : Int), n.fn⟩ else ⟨m.rect, -1, 0⟩] else (usesF S.ns).map (shU (i : Int))
  | _ => (usesF S.ns).map (shU (i : Int))
def piecesF (n : Nd) (N : Nat) : List STree → Nat → List Us
  | [], _ => []
  | S :: r, i => pieceF n N S i ++ piecesF n N r (i + S.ns.length)

theorem arity_least {fn : Int} (h : (arity fn).2.2 = 0) : 1 ≤ (arity fn).1 := by
  unfold arity at h ⊢
  repeat' split
  all_goals first | (simp_all; done) | decide

theorem call_least {n : Nd} (hf : fieldsE n = 0) (h7 : n.kind = 7) : 1 ≤ n.n := by
  unfold fieldsE at hf
  split at hf
  · cases hf
  rw [if_neg (show ¬ n.kind ≠ 7 by omega)] at hf
  split at hf
  · rename_i h; exact absurd hf h
  rename_i ha
  split at hf
  · cases hf
  rename_i hn
  have := arity_least (fn := n.fn) (by omega)
  omega

/-- The first node of a well made tree is no call. -/
theorem Good.head {T : STree} (h : Good T) : ∃ m r, T.ns = m :: r ∧ m.kind ≠ 7 := by
  induction h with
  | mk n top hg hf hb hfit hd ih =>
    cases top with
    | nil =>
      refine ⟨n, [], rfl, fun h7 => ?_⟩
      have h1 := call_least hf h7
      have h2 : Go.SL.below n = n.n := by simp [Go.SL.below, h7]
      simp only [List.length_nil] at hb
      omega
    | cons S r =>
      obtain ⟨m, r', e, hm⟩ := ih S List.mem_cons_self
      exact ⟨m, r' ++ flatS r ++ [n], by simp [nodeF, flatS_cons, e], hm⟩

/-- A well made tree: its root is a range alone, or no range. -/
theorem Good.root {S : STree} (h : Good S) : ∃ a m, S.ns = a ++ [m] ∧ S.kind = m.kind ∧ (rangesF m = true → a = []) := by
  cases h with
  | mk n top hg hf hb hfit hd =>
    refine ⟨flatS top, n, rfl, nodeF_kind n top, fun hr => ?_⟩
    have hk : n.kind = 2 ∨ n.kind = 3 := by simpa [rangesF] using hr
    have h0 : Go.SL.below n = 0 := by unfold Go.SL.below; rw [if_neg (by omega), if_neg (by omega), if_neg (by omega)]
    have ht : top = [] := List.eq_nil_of_length_eq_zero (by omega)
    subst ht
    rfl

theorem pieceF_not {n : Nd} {N : Nat} {S : STree} {i : Nat} {a : List Nd} {m : Nd} (h : S.ns = a ++ [m]) (hr : rangesF m = false) : pieceF n N S i = (usesF S.ns).map (shU (i : Int)) := by
  unfold pieceF
  rw [h]
  cases a with
  | nil => dsimp only [List.nil_append]; rw [hr]; rfl
  | cons x a => cases a <;> rfl

theorem pieces_uses (n : Nd) (hn : rangesF n = false) : ∀ (l : List STree) (i : Nat), (∀ S ∈ l, Good S) → (relB n = true → l.length ≤ 1) → usesFrom (flatS l ++ [n]) i = piecesF n (i + (flatS l).length) l i
  | [], i, _, _ => by simp [flatS, usesFrom, hn, piecesF]
  | S :: r, i, hg, hl => by
    obtain ⟨a, m, e, _, hm⟩ := (hg S List.mem_cons_self).root
    have ih := pieces_uses n hn r (i + S.ns.length) (fun T hT => hg T (List.mem_cons_of_mem _ hT)) (fun h => by have := hl h; simp only [List.length_cons] at this; omega)
    have hN : i + S.ns.length + (flatS r).length = i + (flatS (S :: r)).length := by rw [flatS_cons, List.length_append]; omega
    rw [hN] at ih
    have hfl : flatS (S :: r) ++ [n] = S.ns ++ (flatS r ++ [n]) := by rw [flatS_cons, List.append_assoc]
    rw [piecesF, hfl]
    cases hr : rangesF m
    · rw [pieceF_not e hr, ← usesFrom_at]
      have h1 := usesFrom_append hr (flatS r ++ [n]) a i
      have h2 : S.ns ++ (flatS r ++ [n]) = a ++ m :: (flatS r ++ [n]) := by rw [e]; simp
      have h3 : i + a.length + 1 = i + S.ns.length := by rw [e]; simp; omega
      rw [h2, h1, h3, ih, ← e]
    · have ha := hm hr
      subst ha
      rw [List.nil_append] at e
      have h3 : i + S.ns.length = i + 1 := by rw [e]; rfl
      rw [h3] at ih ⊢
      have h4 : pieceF n (i + (flatS (S :: r)).length) S i = [if relB n then ⟨m.rect, ((i + (flatS (S :: r)).length : Nat) : Int), n.fn⟩ else ⟨m.rect, -1, 0⟩] := by
        unfold pieceF
        rw [e]
        dsimp only
        rw [hr]
        rfl
      rw [h4, e, List.singleton_append, usesFrom, hr, cond_true, ih, List.singleton_append]
      congr 1
      cases r with
      | nil =>
        have h5 : (flatS (S :: ([] : List STree))).length = 1 := by rw [flatS_cons, e]; rfl
        rw [h5]
        by_cases hb : relB n = true
        · have hb' : n.kind = 7 ∧ 46 ≤ n.fn := by simpa [relB] using hb
          simp only [flatS, List.flatMap_nil, List.nil_append, useOf, if_pos hb', if_pos hb]
        · have hb' : ¬ (n.kind = 7 ∧ 46 ≤ n.fn) := by simpa [relB] using hb
          simp only [flatS, List.flatMap_nil, List.nil_append, useOf, if_neg hb', if_neg hb]
      | cons T r' =>
        have hb : ¬ relB n = true := fun h => by have := hl h; simp only [List.length_cons] at this; omega
        rw [if_neg hb]
        obtain ⟨x, r'', e', hx⟩ := (hg T (by simp)).head
        rw [flatS_cons, e', List.cons_append, List.cons_append, useOf, if_neg (fun h => hx h.1)]

theorem piecesF_snoc (n : Nd) (N : Nat) (S : STree) : ∀ (l : List STree) (i : Nat), piecesF n N (l ++ [S]) i = piecesF n N l i ++ pieceF n N S (i + (flatS l).length)
  | [], i => by simp [piecesF, flatS]
  | T :: r, i => by
    rw [List.cons_append, piecesF, piecesF, piecesF_snoc n N S r, flatS_cons, List.length_append, List.append_assoc, Nat.add_assoc]

theorem pieceF_len (n : Nd) (N : Nat) (S : STree) (i : Nat) : (pieceF n N S i).length ≤ S.ns.length := by
  have h : ((usesF S.ns).map (shU (i : Int))).length ≤ S.ns.length := by rw [List.length_map]; exact usesFrom_len _ _
  unfold pieceF
  split
  · rename_i m hm
    cases rangesF m
    · exact h
    · rw [hm]; exact Nat.le_refl _
  · exact h
theorem piecesF_len (n : Nd) (N : Nat) : ∀ (l : List STree) (i : Nat), (piecesF n N l i).length ≤ (flatS l).length
  | [], _ => Nat.zero_le _
  | S :: r, i => by
    have h1 := pieceF_len n N S i
    have h2 := piecesF_len n N r (i + S.ns.length)
    rw [piecesF, flatS_cons, List.length_append, List.length_append]
    omega

theorem uses_node : ∀ (L : List Nd) (i : Nat), ∀ u ∈ usesFrom L i, u.node ≤ ((i + L.length : Nat) : Int)
  | [], _, u, h => by cases h
  | n :: r, i, u, h => by
    have ih := uses_node r (i + 1)
    rw [usesFrom] at h
    have hr : ∀ v ∈ usesFrom r (i + 1), v.node ≤ ((i + (n :: r).length : Nat) : Int) := fun v hv => by
      have := ih v hv
      simp only [List.length_cons]
      omega
    cases hq : rangesF n
    · rw [hq, cond_false] at h
      exact hr u h
    · rw [hq, cond_true] at h
      rcases List.mem_cons.1 h with rfl | h
      · unfold useOf
        split
        · split
          · simp only [List.length_cons]; omega
          · dsimp only; omega
        · dsimp only; omega
      · exact hr u h

theorem pieceF_one {n : Nd} {N : Nat} {S : STree} {i : Nat} {m : Nd} (h : S.ns = [m]) (hr : rangesF m = true) : pieceF n N S i = [if relB n then ⟨m.rect, (N : Int), n.fn⟩ else ⟨m.rect, -1, 0⟩] := by
  unfold pieceF
  rw [h]
  dsimp only
  rw [hr]
  rfl

/-- The root of a whole tree, and its parts. -/
theorem whole_uses {L : List Nd} {n : Nd} {top : List STree} (hL : L = flatS top ++ [n]) (hg : ∀ S ∈ top, Good S) (hb : (top.length : Int) = below n) (hf : fieldsE n = 0) (hr : rangesF n = false) : usesF L = piecesF n (L.length - 1) top 0 := by
  have h1 := pieces_uses n hr top 0 hg (fun h => by
    have hb' : n.kind = 7 ∧ 46 ≤ n.fn := by simpa [relB] using h
    have := rel_one hf hb'
    omega)
  have h2 : L.length - 1 = 0 + (flatS top).length := by rw [hL]; simp
  rw [h2, hL]
  exact h1
end Go.SL

/-
  RefsParts returns true.
-/
namespace Go.SL
open Go Go.Proofs
attribute [local irreducible] W WL WQ WG WA VOp thn blk cutP retP FnAt FnIn Held

theorem set_same {α : Type} : ∀ {L : List α} {i : Nat} {a : α}, L[i]? = some a → L.set i a = L
  | [], _, _, h => by simp at h
  | x :: r, 0, a, h => by
    injection h with h
    rw [h]; rfl
  | x :: r, i + 1, a, h => by rw [List.set_cons_succ, set_same (L := r) (by simpa using h)]
theorem encUs_one' (L : List Us) : ∀ u ∈ L.flatMap encU, u.oneCell' = true := by
  intro u hu
  obtain ⟨a, _, ha⟩ := List.mem_flatMap.1 hu
  simp only [encU, List.mem_cons, List.not_mem_nil, or_false] at ha
  rcases ha with rfl | rfl | rfl | rfl | rfl | rfl <;> rfl

set_option maxRecDepth 20000 in
set_option maxHeartbeats 4000000 in
theorem RefsParts_at (L : List Nd) (tv : Value) (w : World) (hl : Reads w tv L.length (L.flatMap encN)) : Pure Try.prog 16 [tv] w (.bool true) := by
  refine fn_at Try.func16 rfl Try.ntmps16 rfl ?_
  have hf1 := fun (w' : World) (H : List Blk) (hm : Mem w w' H) => Few_at L tv w' (hl.of_w0 hm)
  have hle := few_len L
  generalize fewT L = T at hf1 hle
  have u1 := fun (v : Value) (w' : World) h => Uses_at T v w' h (by omega)
  have c1 := fun (v : Value) (w' : World) h => Check_at T v w' h
  by_cases hck : checkE T = 0
  rotate_left
  · have e : usesE T = ([], checkE T) := by unfold usesE; rw [if_pos hck]
    rw [e] at u1
    dsimp only at u1
    generalize checkE T = ce at u1 c1 hck
    repeat' (first
      | ((with_reducible apply wl_call (d := 18)); exact rfl; exact rfl; (intro w' h; exact hf1 w' _ h); (rintro v H' ⟨A1, cap1, rfl, rfl⟩))
      | ((with_reducible apply wl_call (d := 21)); exact rfl; exact rfl; (intro w' h; exact u1 _ w' (Reads.of_own (A := A1) h (by (repeat first | exact .hd | apply Sel.tl | apply In.tl)))); (rintro v H' ⟨A2, cap2, rfl, rfl⟩))
      | ((with_reducible apply wl_callp (f := 24)); exact rfl; exact rfl; (intro w' h; exact c1 _ w' (Reads.of_own (A := A1) h (by (repeat first | exact .hd | apply Sel.tl | apply In.tl)))))
      | ((with_reducible apply wl_v); exact rfl; (with_reducible apply v_eql_same); exact rfl; exact rfl)
      | ((with_reducible apply wl_callp (f := 47)); exact rfl; exact rfl; (intro w' h; exact awake12_at w'))
      | ((with_reducible apply wl_v); exact rfl; (first | ((with_reducible apply vop_ok); exact rfl) | ((with_reducible apply v_fieldAddr); exact rfl) | ((with_reducible apply v_len); exact rfl) | ((with_reducible apply v_lens); exact rfl) | ((with_reducible apply v_load_box); exact rfl; (repeat first | exact .hd | apply Sel.tl | apply In.tl); exact rfl) | ((with_reducible apply v_eqlb); exact rfl; exact rfl) | ((with_reducible apply v_neqb); exact rfl; exact rfl) | ((with_reducible apply v_loadw_box); exact rfl; (repeat first | exact .hd | apply Sel.tl | apply In.tl); exact rfl) | ((with_reducible apply v_loadn_box); exact rfl; (repeat first | exact .hd | apply Sel.tl | apply In.tl); exact rfl; exact rfl) | ((with_reducible apply v_build); exact rfl; exact rfl; exact rfl)))
      | ((with_reducible apply wl_gyes); exact rfl; exact rfl)
      | ((with_reducible apply wl_gno_b); exact rfl; exact rfl; exact rfl; exact rfl)
      | ((with_reducible apply wl_gno_u); exact rfl; exact rfl; exact rfl)
      | ((with_reducible apply wl_alloc); exact rfl; intro _)
      | ((with_reducible apply wl_storen_box); exact rfl; exact rfl; (repeat first | exact .hd | apply Sel.tl | apply In.tl); exact rfl; exact rfl; exact rfl)
      | ((with_reducible apply wl_putn_box); exact rfl; exact rfl; (repeat first | exact .hd | apply Sel.tl | apply In.tl); exact rfl; exact rfl; exact rfl; exact rfl)
      | ((with_reducible apply wl_buildSlice); exact rfl; exact rfl; exact rfl; exact rfl; exact rfl; exact rfl; exact rfl; intro _)
      | ((with_reducible apply wl_gsplit) <;> first | exact rfl | (intro hb; (replace hb := Tidy.out hb; try (exfalso; omega))))
      | (with_reducible first | apply wl_nil | apply thn_n | apply w_seq | apply w_region | apply w_ret | apply w_skip | apply w_exit | apply w_block | apply thn_r | apply thn_e | apply blk_n | apply blk_r | apply blk_e)
      | ((with_reducible apply w_cond_true); exact rfl)
      | ((with_reducible apply w_cond_false); exact rfl)
      | ((with_reducible apply w_cond) <;> first | exact rfl | (intro hb; (replace hb := Tidy.out hb; try (exfalso; omega))))
      | ((with_reducible apply blk_x); exact rfl))
    all_goals
      ((with_reducible apply ret1); exact .inl rfl; exact rfl; exact rfl; exact MSub.nil _)
      rfl
  obtain ⟨hlen, S, Hi, hW, hk3, hct⟩ := check_whole hck
  have e : usesE T = (usesF T, 0) := by unfold usesE; rw [if_neg (by omega)]
  rw [e] at u1
  dsimp only at u1
  have hpos := hW.pos
  obtain ⟨top, hx⟩ := hW.last
  obtain ⟨n, hn, e2, hgt, hgT, hTl, hseg⟩ := hW.inv.node _ _ hx
  obtain ⟨n', hb, e2', hfn⟩ := hW.lens _ _ hx
  have hflat : T = flatS top ++ [n] := by
    have h1 := hW.inv.flat
    rw [flatS_one] at h1
    rw [← h1]
    exact congrArg STree.ns e2
  dsimp only at e2 e2' hgt hgT hTl hb
  have hnn : n = n' := by
    have h1 := congrArg STree.ns (e2.symm.trans e2')
    have := congrArg List.getLast? h1
    simpa [nodeF] using this
  subst hnn
  have hk := fun (v : Value) (w' : World) h => Kids_at T ((T.length - 1 : Nat) : Int) v w' h
  rw [kidsE_whole hck hct hx (by omega)] at hk
  dsimp only at hk
  have hkl : (kidsH (T.length - 1) (top, S)).length = top.length := rootsFrom_length _ _
  have htl : top.length ≤ 255 := by
    have h1 := len_le_flat fun T hT => (hgt T hT).pos
    have h2 : T.length = (flatS top).length + 1 := by rw [hflat]; simp
    omega
  have hkid := fun k (hk : k < top.length) => kid_tree hW hx hk
  have hul := usesF_len T
  have hfinal : n.kind ≠ 2 → usesF T = piecesF n (T.length - 1) top 0 := fun h2 => whole_uses hflat hgt hb hfn (by
    have : n.kind ≠ 3 := by
      intro h3
      apply hk3
      rw [e2, nodeF_kind, h3]
    simp [rangesF, this, h2])
  have hfinal2 : n.kind = 2 → usesF T = [⟨n.rect, -1, 0⟩] ∧ top.length = 0 := fun h2 => by
    have h0 : below n = 0 := by unfold below; rw [if_neg (by omega), if_neg (by omega), if_neg (by omega)]
    have ht : top = [] := List.eq_nil_of_length_eq_zero (by omega)
    refine ⟨?_, by rw [ht]; rfl⟩
    rw [hflat, ht]
    simp [flatS, usesF, usesFrom, rangesF, h2, useOf]
  generalize hUT : usesF T = UT at u1 hul hfinal hfinal2
  generalize hks : kidsH (T.length - 1) (top, S) = ks at hk hkl hkid
  repeat' (first
    | ((with_reducible apply wl_call (d := 18)); exact rfl; exact rfl; (intro w' h; exact hf1 w' _ h); (rintro v H' ⟨A1, cap1, rfl, rfl⟩; refine wl_some (A := A1) (by (repeat first | exact .hd | apply Sel.tl | apply In.tl)) hpos fun g1 hA1 => ?_; subst hA1))
    | ((with_reducible apply wl_call (d := 21)); exact rfl; exact rfl; (intro w' h; exact u1 _ w' (Reads.of_own (A := some g1) h (by (repeat first | exact .hd | apply Sel.tl | apply In.tl)))); (rintro v H' ⟨A2, cap2, rfl, rfl⟩))
    | ((with_reducible apply wl_v); exact rfl; (with_reducible apply v_indexAddr (j := T.length - 1)); exact rfl; exact rfl; omega)
    | ((with_reducible apply wl_v (d := 43)); exact rfl; (with_reducible apply v_loadi_own); exact encN_len; exact rfl; (repeat first | exact .hd | apply Sel.tl | apply In.tl); exact hn)
    | ((with_reducible apply wl_call (f := 20)); exact rfl; exact rfl; (intro w' h; exact hk _ w' (Reads.of_own (A := some g1) h (by (repeat first | exact .hd | apply Sel.tl | apply In.tl)))); (rintro v H' ⟨A3, cap3, rfl, rfl⟩))
    | ((with_reducible apply wl_v); exact rfl; (first | ((with_reducible apply vop_ok); exact rfl) | ((with_reducible apply v_fieldAddr); exact rfl) | ((with_reducible apply v_len); exact rfl) | ((with_reducible apply v_lens); exact rfl) | ((with_reducible apply v_load_box); exact rfl; (repeat first | exact .hd | apply Sel.tl | apply In.tl); exact rfl) | ((with_reducible apply v_eqlb); exact rfl; exact rfl) | ((with_reducible apply v_neqb); exact rfl; exact rfl) | ((with_reducible apply v_loadw_box); exact rfl; (repeat first | exact .hd | apply Sel.tl | apply In.tl); exact rfl) | ((with_reducible apply v_loadn_box); exact rfl; (repeat first | exact .hd | apply Sel.tl | apply In.tl); exact rfl; exact rfl) | ((with_reducible apply v_build); exact rfl; exact rfl; exact rfl)))
    | ((with_reducible apply wl_gyes); exact rfl; exact rfl)
    | ((with_reducible apply wl_gno_b); exact rfl; exact rfl; exact rfl; exact rfl)
    | ((with_reducible apply wl_gno_u); exact rfl; exact rfl; exact rfl)
    | ((with_reducible apply wl_alloc); exact rfl; intro _)
    | ((with_reducible apply wl_storen_box); exact rfl; exact rfl; (repeat first | exact .hd | apply Sel.tl | apply In.tl); exact rfl; exact rfl; exact rfl)
    | ((with_reducible apply wl_putn_box); exact rfl; exact rfl; (repeat first | exact .hd | apply Sel.tl | apply In.tl); exact rfl; exact rfl; exact rfl; exact rfl)
    | ((with_reducible apply wl_buildSlice); exact rfl; exact rfl; exact rfl; exact rfl; exact rfl; exact rfl; exact rfl; intro _)
    | ((with_reducible apply wl_gsplit) <;> first | exact rfl | (intro hb; (replace hb := Tidy.out hb; try (exfalso; omega))))
    | (with_reducible first | apply wl_nil | apply thn_n | apply w_seq | apply w_region | apply w_ret | apply w_skip | apply w_exit | apply w_block | apply thn_r | apply thn_e | apply blk_n | apply blk_r | apply blk_e)
    | ((with_reducible apply w_cond_true); exact rfl)
    | ((with_reducible apply w_cond_false); exact rfl)
    | ((with_reducible apply w_cond) <;> first | exact rfl | (intro hb; (replace hb := Tidy.out hb; try (exfalso; omega))))
    | ((with_reducible apply blk_x); exact rfl)
    | ((with_reducible apply wl_v); exact rfl; (with_reducible apply v_succN); exact rfl; exact rfl; (simp only [maxLen] at *; omega))
    | ((with_reducible apply wl_v); exact rfl; (with_reducible apply v_1addN); exact rfl; exact rfl; (simp only [maxLen] at *; omega))
    | ((with_reducible apply wl_v); exact rfl; (with_reducible apply v_addN); exact rfl; exact rfl; (simp only [maxLen] at *; omega))
    | ((with_reducible apply wl_v); exact rfl; (with_reducible apply v_predN); exact rfl; exact rfl; omega; (simp only [maxLen] at *; omega))
    | ((with_reducible apply wl_v); exact rfl; (with_reducible apply v_subN); exact rfl; exact rfl; omega; (simp only [maxLen] at *; omega)))
  rename_i g5
  refine w_nilrow 68 6 ?_
  refine w_loopK [0, 3, 5, 6] rfl (fun y : Nat × Option Nat × Nat => [(8, sl y.2.1 (piecesF n (T.length - 1) (top.take y.1) 0).length y.2.2), (9, .int .i64 ((flatS (top.take y.1)).length : Int)), (10, .int .i64 (y.1 : Int))])
    (fun y => [.own y.2.1 68 6 (piecesF n (T.length - 1) (top.take y.1) 0).length y.2.2 ((piecesF n (T.length - 1) (top.take y.1) 0).flatMap encU), .own A3 3 1 ks.length cap3 (intsV ks), .box g5 40 (encN n), .own A2 68 6 UT.length cap2 (UT.flatMap encU), .own (some g1) 40 11 T.length cap1 (T.flatMap encN)])
    (fun y => y.1 ≤ top.length) (fun y => top.length - y.1) (0, none, 0) (by omega) (by (repeat (first | exact Sub.nil _ | refine Sub.cons rfl ?_))) (by (repeat (first | exact MSub.nil _ | refine MSub.pick (by (repeat first | exact .hd | apply Sel.tl | apply In.tl)) ?_ | exact MSub.refl _ | refine MSub.drop .hd ?_))) ?_
  rintro ⟨k, Aw, cw⟩ hkk
  dsimp only at hkk ⊢
  by_cases hlt : k < top.length
  · refine w_some (A := A3) (.tl .hd) (by omega) fun g3 hA3 => ?_
    subst hA3
    obtain ⟨ktop, r, hr1, hr2⟩ := hkid k hlt
    have hrv : (intsV ks)[0 + k * 1]? = some (.int .i64 (r : Int)) := by rw [Nat.zero_add, Nat.mul_one]; simp [intsV, hr1]
    have s1 := fun v w' h => Sub_at T (r : Int) v w' h (by omega)
    rw [subE_whole hW hck hct hr2] at s1
    dsimp only at s1
    have hgk := hgt top[k] (List.getElem_mem hlt)
    have hsn : (piecesF n (T.length - 1) (top.take (k + 1)) 0) = piecesF n (T.length - 1) (top.take k) 0 ++ pieceF n (T.length - 1) top[k] (flatS (top.take k)).length := by
      rw [List.take_succ_eq_append_getElem hlt, piecesF_snoc, Nat.zero_add]
    have hfl : (flatS (top.take (k + 1))).length = (flatS (top.take k)).length + top[k].ns.length := by
      rw [List.take_succ_eq_append_getElem hlt, flatS_append, flatS_one, List.length_append]
    have hbound : (flatS (top.take k)).length + top[k].ns.length ≤ 256 := by
      have h1 : (flatS top).length + 1 = T.length := by rw [hflat]; simp
      have h2 : (flatS top).length = (flatS (top.take (k + 1))).length + (flatS (top.drop (k + 1))).length := by
        conv => lhs; rw [← List.take_append_drop (k + 1) top]
        rw [flatS_append, List.length_append]
      omega
    have hpl : (piecesF n (T.length - 1) (top.take k) 0).length ≤ 300 := by
      have := piecesF_len n (T.length - 1) (top.take k) 0
      omega
    generalize piecesF n (T.length - 1) (top.take k) 0 = X at hsn hpl
    generalize (flatS (top.take k)).length = fr at hsn hfl hbound
    obtain ⟨a, m, hS, hSk, hSr⟩ := hgk.root
    have ck := checkE_good hgk (by omega)
    have hpos' := hgk.pos
    generalize top[k] = S' at *
    have u2 := fun (v : Value) (w' : World) h => Uses_at S'.ns v w' h (by omega)
    unfold usesE at u2
    rw [ck] at u2
    cases hrm : rangesF m
    · have hmk : m.kind ≠ 2 ∧ m.kind ≠ 3 := by
        simp only [rangesF, Bool.or_eq_false_iff, decide_eq_false_iff_not] at hrm
        exact hrm
      rw [if_neg (show ¬ S'.kind = 3 by rw [hSk]; exact hmk.2), if_neg (by decide)] at u2
      rw [pieceF_not hS hrm] at hsn
      have hm0 : S'.ns.length = 1 → S'.ns[0]? = some m := fun h1 => by
        have ha : a = [] := by
          rw [hS] at h1
          simp at h1
          exact h1
        rw [hS, ha]; rfl
      have hnode : ∀ u ∈ usesF S'.ns, u.node ≤ 256 := fun u hu => by
        have := uses_node S'.ns 0 u hu
        omega
      have hUl := usesF_len S'.ns
      dsimp only at u2
      generalize S'.ns = ms at *
      generalize usesF ms = U at u2 hsn hnode hUl
      repeat' (first
        | ((with_reducible apply wl_v); exact rfl; (with_reducible apply v_indexAddr); exact rfl; exact rfl; omega)
        | ((with_reducible apply wl_v); exact rfl; (with_reducible apply v_load_own); exact rfl; (repeat first | exact .hd | apply Sel.tl | apply In.tl); exact hrv)
        | ((with_reducible apply wl_call (f := 22)); exact rfl; exact rfl; (intro w' h; exact s1 _ w' (Reads.of_own (A := some g1) h (by (repeat first | exact .hd | apply Sel.tl | apply In.tl)))); (rintro v H' ⟨A4, cap4, rfl, rfl⟩; refine wl_some (A := A4) (by (repeat first | exact .hd | apply Sel.tl | apply In.tl)) (by omega) fun g4 hA4 => ?_; subst hA4))
        | ((with_reducible apply wl_call (f := 40)); exact rfl; exact rfl; (intro w' h; exact u2 _ w' (Reads.of_own (A := some g4) h (by (repeat first | exact .hd | apply Sel.tl | apply In.tl)))); (rintro v H' ⟨A5, cap5, rfl, rfl⟩))
        | ((with_reducible apply wl_v); exact rfl; (with_reducible apply v_indexAddr (j := 0)); exact rfl; exact rfl; omega)
        | ((with_reducible apply wl_v (d := 83)); exact rfl; (with_reducible apply v_loadc_own (i := 0)); exact encN_len; exact rfl; (repeat first | exact .hd | apply Sel.tl | apply In.tl); decide; exact hm0 (by omega); exact rfl)
        | ((with_reducible apply wl_v (d := 89)); exact rfl; (with_reducible apply v_loadc_own (i := 0)); exact encN_len; exact rfl; (repeat first | exact .hd | apply Sel.tl | apply In.tl); decide; exact hm0 (by omega); exact rfl)
        | ((with_reducible apply wl_v); exact rfl; (first | ((with_reducible apply vop_ok); exact rfl) | ((with_reducible apply v_fieldAddr); exact rfl) | ((with_reducible apply v_len); exact rfl) | ((with_reducible apply v_lens); exact rfl) | ((with_reducible apply v_load_box); exact rfl; (repeat first | exact .hd | apply Sel.tl | apply In.tl); exact rfl) | ((with_reducible apply v_eqlb); exact rfl; exact rfl) | ((with_reducible apply v_neqb); exact rfl; exact rfl) | ((with_reducible apply v_loadw_box); exact rfl; (repeat first | exact .hd | apply Sel.tl | apply In.tl); exact rfl) | ((with_reducible apply v_loadn_box); exact rfl; (repeat first | exact .hd | apply Sel.tl | apply In.tl); exact rfl; exact rfl) | ((with_reducible apply v_build); exact rfl; exact rfl; exact rfl)))
        | ((with_reducible apply wl_gyes); exact rfl; exact rfl)
        | ((with_reducible apply wl_gno_b); exact rfl; exact rfl; exact rfl; exact rfl)
        | ((with_reducible apply wl_gno_u); exact rfl; exact rfl; exact rfl)
        | ((with_reducible apply wl_alloc); exact rfl; intro _)
        | ((with_reducible apply wl_storen_box); exact rfl; exact rfl; (repeat first | exact .hd | apply Sel.tl | apply In.tl); exact rfl; exact rfl; exact rfl)
        | ((with_reducible apply wl_putn_box); exact rfl; exact rfl; (repeat first | exact .hd | apply Sel.tl | apply In.tl); exact rfl; exact rfl; exact rfl; exact rfl)
        | ((with_reducible apply wl_buildSlice); exact rfl; exact rfl; exact rfl; exact rfl; exact rfl; exact rfl; exact rfl; intro _)
        | ((with_reducible apply wl_gsplit) <;> first | exact rfl | (intro hb; (replace hb := Tidy.out hb; try (exfalso; omega))))
        | (with_reducible first | apply wl_nil | apply thn_n | apply w_seq | apply w_region | apply w_ret | apply w_skip | apply w_exit | apply w_block | apply thn_r | apply thn_e | apply blk_n | apply blk_r | apply blk_e)
        | ((with_reducible apply w_cond_true); exact rfl)
        | ((with_reducible apply w_cond_false); exact rfl)
        | ((with_reducible apply w_cond) <;> first | exact rfl | (intro hb; (replace hb := Tidy.out hb; try (exfalso; omega))))
        | ((with_reducible apply blk_x); exact rfl)
        | ((with_reducible apply wl_v); exact rfl; (with_reducible apply v_succN); exact rfl; exact rfl; (simp only [maxLen] at *; omega))
        | ((with_reducible apply wl_v); exact rfl; (with_reducible apply v_1addN); exact rfl; exact rfl; (simp only [maxLen] at *; omega))
        | ((with_reducible apply wl_v); exact rfl; (with_reducible apply v_addN); exact rfl; exact rfl; (simp only [maxLen] at *; omega))
        | ((with_reducible apply wl_v); exact rfl; (with_reducible apply v_predN); exact rfl; exact rfl; omega; (simp only [maxLen] at *; omega))
        | ((with_reducible apply wl_v); exact rfl; (with_reducible apply v_subN); exact rfl; exact rfl; omega; (simp only [maxLen] at *; omega)))
      all_goals
        refine w_loopK [0, 3, 5, 6, 8, 9, 10, 11, 13] rfl (fun y : Nat × List Us => [(16, .int .i64 (y.1 : Int))]) (fun y => [.own A5 68 6 U.length cap5 (y.2.flatMap encU), .own (some g4) 40 11 ms.length cap4 (ms.flatMap encN), .own Aw 68 6 X.length cw (X.flatMap encU), .own (some g3) 3 1 ks.length cap3 (intsV ks), .box g5 40 (encN n), .own A2 68 6 UT.length cap2 (UT.flatMap encU), .own (some g1) 40 11 T.length cap1 (T.flatMap encN)])
          (fun y => y.1 ≤ U.length ∧ y.2 = (U.take y.1).map (shU (fr : Int)) ++ U.drop y.1) (fun y => U.length - y.1) (0, U) ⟨by omega, rfl⟩ (by (repeat (first | exact Sub.nil _ | refine Sub.cons rfl ?_))) (by (repeat (first | exact MSub.nil _ | refine MSub.pick (by (repeat first | exact .hd | apply Sel.tl | apply In.tl)) ?_ | exact MSub.refl _ | refine MSub.drop .hd ?_))) ?_
        rintro ⟨j, Lc⟩ ⟨hj, hLc⟩
        dsimp only at hj hLc ⊢
        by_cases hjl : j < U.length
        · have hlc : Lc.length = U.length := by rw [hLc]; simp; omega
          have htl' : ((U.take j).map (shU (fr : Int))).length = j := by simp; omega
          have hget : Lc[j]? = some U[j] := by
            rw [hLc, List.getElem?_append_right (by omega), htl', Nat.sub_self, List.drop_eq_getElem_cons hjl]
            rfl
          have hset : Lc.set j (shU (fr : Int) U[j]) = (U.take (j + 1)).map (shU (fr : Int)) ++ U.drop (j + 1) := by
            rw [hLc, List.set_append_right _ _ (by omega), htl', Nat.sub_self, List.drop_eq_getElem_cons hjl, List.set_cons_zero, List.take_succ_eq_append_getElem hjl, List.map_append, List.append_assoc]
            rfl
          have hnd := hnode U[j] (List.getElem_mem hjl)
          have hgi : Lc[j]'(by omega) = U[j] := by
            have := List.getElem?_eq_getElem (show j < Lc.length by omega)
            rw [hget] at this
            exact (Option.some.inj this).symm
          have hset2 : 0 ≤ U[j].node → (Lc.flatMap encU).set (0 + j * 6 + 4) (.int .i64 (U[j].node + (fr : Int))) = (Lc.set j (shU (fr : Int) U[j])).flatMap encU := fun h0 => by
            rw [Nat.zero_add]
            refine flat_setc encU_len Lc j 4 (by omega) (by decide) _ _ ?_
            rw [hgi, shU, if_pos h0]
            rfl
          have hset3 : ¬ 0 ≤ U[j].node → Lc.set j (shU (fr : Int) U[j]) = Lc := fun h0 => by
            rw [shU, if_neg h0]
            exact (set_same hget)
          generalize U[j] = u at hget hset hnd hset2 hset3
          refine w_some (A := A5) .hd (by omega) fun g6 hA5 => ?_
          subst hA5
          repeat' (first
            | ((with_reducible apply wl_v); exact rfl; (with_reducible apply v_indexAddr); exact rfl; exact rfl; omega)
            | ((with_reducible apply wl_v); exact rfl; (with_reducible apply v_loadc_own); exact encU_len; exact rfl; (repeat first | exact .hd | apply Sel.tl | apply In.tl); decide; exact hget; exact rfl)
            | ((with_reducible apply wl_v (d := 133)); exact rfl; (with_reducible apply v_add); exact rfl; exact rfl; (unfold I64; omega))
            | ((with_reducible apply wl_store_own); exact rfl; exact rfl; (repeat first | exact .hd | apply Sel.tl | apply In.tl); exact rfl; (rw [flat_length' encU_len]; omega); rw [hset2 (by omega)])
            | ((with_reducible apply wl_v); exact rfl; (first | ((with_reducible apply vop_ok); exact rfl) | ((with_reducible apply v_fieldAddr); exact rfl) | ((with_reducible apply v_len); exact rfl) | ((with_reducible apply v_lens); exact rfl) | ((with_reducible apply v_load_box); exact rfl; (repeat first | exact .hd | apply Sel.tl | apply In.tl); exact rfl) | ((with_reducible apply v_eqlb); exact rfl; exact rfl) | ((with_reducible apply v_neqb); exact rfl; exact rfl) | ((with_reducible apply v_loadw_box); exact rfl; (repeat first | exact .hd | apply Sel.tl | apply In.tl); exact rfl) | ((with_reducible apply v_loadn_box); exact rfl; (repeat first | exact .hd | apply Sel.tl | apply In.tl); exact rfl; exact rfl) | ((with_reducible apply v_build); exact rfl; exact rfl; exact rfl)))
            | ((with_reducible apply wl_gyes); exact rfl; exact rfl)
            | ((with_reducible apply wl_gno_b); exact rfl; exact rfl; exact rfl; exact rfl)
            | ((with_reducible apply wl_gno_u); exact rfl; exact rfl; exact rfl)
            | ((with_reducible apply wl_alloc); exact rfl; intro _)
            | ((with_reducible apply wl_storen_box); exact rfl; exact rfl; (repeat first | exact .hd | apply Sel.tl | apply In.tl); exact rfl; exact rfl; exact rfl)
            | ((with_reducible apply wl_putn_box); exact rfl; exact rfl; (repeat first | exact .hd | apply Sel.tl | apply In.tl); exact rfl; exact rfl; exact rfl; exact rfl)
            | ((with_reducible apply wl_buildSlice); exact rfl; exact rfl; exact rfl; exact rfl; exact rfl; exact rfl; exact rfl; intro _)
            | ((with_reducible apply wl_gsplit) <;> first | exact rfl | (intro hb; (replace hb := Tidy.out hb; try (exfalso; omega))))
            | (with_reducible first | apply wl_nil | apply thn_n | apply w_seq | apply w_region | apply w_ret | apply w_skip | apply w_exit | apply w_block | apply thn_r | apply thn_e | apply blk_n | apply blk_r | apply blk_e)
            | ((with_reducible apply w_cond_true); exact rfl)
            | ((with_reducible apply w_cond_false); exact rfl)
            | ((with_reducible apply w_cond) <;> first | exact rfl | (intro hb; (replace hb := Tidy.out hb; try (exfalso; omega))))
            | ((with_reducible apply blk_x); exact rfl)
            | ((with_reducible apply wl_v); exact rfl; (with_reducible apply v_succN); exact rfl; exact rfl; (simp only [maxLen] at *; omega))
            | ((with_reducible apply wl_v); exact rfl; (with_reducible apply v_1addN); exact rfl; exact rfl; (simp only [maxLen] at *; omega))
            | ((with_reducible apply wl_v); exact rfl; (with_reducible apply v_addN); exact rfl; exact rfl; (simp only [maxLen] at *; omega))
            | ((with_reducible apply wl_v); exact rfl; (with_reducible apply v_predN); exact rfl; exact rfl; omega; (simp only [maxLen] at *; omega))
            | ((with_reducible apply wl_v); exact rfl; (with_reducible apply v_subN); exact rfl; exact rfl; omega; (simp only [maxLen] at *; omega)))
          · refine ⟨(j + 1, Lc.set j (shU (fr : Int) u)), ?_, (by first | omega | (dsimp only; omega)), (by (repeat (first | exact Sub.nil _ | refine Sub.cons rfl ?_))), (by (repeat (first | exact Sub.nil _ | refine Sub.cons rfl ?_))), (by (repeat (first | exact MSub.nil _ | refine MSub.pick (by (repeat first | exact .hd | apply Sel.tl | apply In.tl)) ?_ | exact MSub.refl _ | refine MSub.drop .hd ?_)))⟩
            exact ⟨hjl, hset⟩
          · refine ⟨(j + 1, Lc), ?_, (by first | omega | (dsimp only; omega)), (by (repeat (first | exact Sub.nil _ | refine Sub.cons rfl ?_))), (by (repeat (first | exact Sub.nil _ | refine Sub.cons rfl ?_))), (by (repeat (first | exact MSub.nil _ | refine MSub.pick (by (repeat first | exact .hd | apply Sel.tl | apply In.tl)) ?_ | exact MSub.refl _ | refine MSub.drop .hd ?_)))⟩
            exact ⟨hjl, by rw [← hset, hset3 (by omega)]⟩
        · have e : j = U.length := by omega
          subst e
          rw [List.take_length, List.drop_length, List.append_nil] at hLc
          have hlc : Lc.length = U.length := by rw [hLc]; simp
          rw [← hLc] at hsn
          rw [← hlc]
          repeat' (first
            | ((with_reducible apply wl_appendR (A := Aw) (m := Lc.length) (news := Lc.flatMap encU)); exact rfl; exact rfl; exact rfl; (repeat first | exact .hd | apply Sel.tl | apply In.tl); (intro w hm; exact Reads.of_own (A := A5) hm (by (repeat first | exact .hd | apply Sel.tl | apply In.tl))); exact flat_length' encU_len Lc; exact encUs_one' Lc; omega; (simp only [maxLen]; omega); intro A9 c9 h9)
            | ((with_reducible apply wl_v); exact rfl; (first | ((with_reducible apply vop_ok); exact rfl) | ((with_reducible apply v_fieldAddr); exact rfl) | ((with_reducible apply v_len); exact rfl) | ((with_reducible apply v_lens); exact rfl) | ((with_reducible apply v_load_box); exact rfl; (repeat first | exact .hd | apply Sel.tl | apply In.tl); exact rfl) | ((with_reducible apply v_eqlb); exact rfl; exact rfl) | ((with_reducible apply v_neqb); exact rfl; exact rfl) | ((with_reducible apply v_loadw_box); exact rfl; (repeat first | exact .hd | apply Sel.tl | apply In.tl); exact rfl) | ((with_reducible apply v_loadn_box); exact rfl; (repeat first | exact .hd | apply Sel.tl | apply In.tl); exact rfl; exact rfl) | ((with_reducible apply v_build); exact rfl; exact rfl; exact rfl)))
            | ((with_reducible apply wl_gyes); exact rfl; exact rfl)
            | ((with_reducible apply wl_gno_b); exact rfl; exact rfl; exact rfl; exact rfl)
            | ((with_reducible apply wl_gno_u); exact rfl; exact rfl; exact rfl)
            | ((with_reducible apply wl_alloc); exact rfl; intro _)
            | ((with_reducible apply wl_storen_box); exact rfl; exact rfl; (repeat first | exact .hd | apply Sel.tl | apply In.tl); exact rfl; exact rfl; exact rfl)
            | ((with_reducible apply wl_putn_box); exact rfl; exact rfl; (repeat first | exact .hd | apply Sel.tl | apply In.tl); exact rfl; exact rfl; exact rfl; exact rfl)
            | ((with_reducible apply wl_buildSlice); exact rfl; exact rfl; exact rfl; exact rfl; exact rfl; exact rfl; exact rfl; intro _)
            | ((with_reducible apply wl_gsplit) <;> first | exact rfl | (intro hb; (replace hb := Tidy.out hb; try (exfalso; omega))))
            | (with_reducible first | apply wl_nil | apply thn_n | apply w_seq | apply w_region | apply w_ret | apply w_skip | apply w_exit | apply w_block | apply thn_r | apply thn_e | apply blk_n | apply blk_r | apply blk_e)
            | ((with_reducible apply w_cond_true); exact rfl)
            | ((with_reducible apply w_cond_false); exact rfl)
            | ((with_reducible apply w_cond) <;> first | exact rfl | (intro hb; (replace hb := Tidy.out hb; try (exfalso; omega))))
            | ((with_reducible apply blk_x); exact rfl)
            | ((with_reducible apply wl_v); exact rfl; (with_reducible apply v_succN); exact rfl; exact rfl; (simp only [maxLen] at *; omega))
            | ((with_reducible apply wl_v); exact rfl; (with_reducible apply v_1addN); exact rfl; exact rfl; (simp only [maxLen] at *; omega))
            | ((with_reducible apply wl_v); exact rfl; (with_reducible apply v_addN); exact rfl; exact rfl; (simp only [maxLen] at *; omega))
            | ((with_reducible apply wl_v); exact rfl; (with_reducible apply v_predN); exact rfl; exact rfl; omega; (simp only [maxLen] at *; omega))
            | ((with_reducible apply wl_v); exact rfl; (with_reducible apply v_subN); exact rfl; exact rfl; omega; (simp only [maxLen] at *; omega)))
          refine ⟨(k + 1, A9, c9), hlt, (by dsimp only; omega), ?_, ?_, ?_⟩
          · dsimp only
            rw [hfl, hsn, List.length_append]
            (repeat (first | exact Sub.nil _ | refine Sub.cons rfl ?_))
          · (repeat (first | exact Sub.nil _ | refine Sub.cons rfl ?_))
          · dsimp only
            rw [hsn, List.length_append, List.flatMap_append]
            (repeat (first | exact MSub.nil _ | refine MSub.pick (by (repeat first | exact .hd | apply Sel.tl | apply In.tl)) ?_ | exact MSub.refl _ | refine MSub.drop .hd ?_))
    · have ha := hSr hrm
      subst ha
      rw [List.nil_append] at hS
      rw [pieceF_one hS hrm] at hsn
      have hm0 : S'.ns[0]? = some m := by rw [hS]; rfl
      have hl1 : S'.ns.length = 1 := by rw [hS]; rfl
      have hmk : m.kind = 2 ∨ m.kind = 3 := by simpa [rangesF] using hrm
      rw [hl1] at hfl hbound
      rw [hl1] at s1
      rw [hSk] at u2
      generalize hms : S'.ns = ms at *
      rcases hmk with hmk | hmk
      · rw [if_neg (show ¬ m.kind = 3 by omega), if_neg (by decide)] at u2
        dsimp only at u2
        repeat' (first
          | ((with_reducible apply wl_v); exact rfl; (with_reducible apply v_indexAddr); exact rfl; exact rfl; omega)
          | ((with_reducible apply wl_v); exact rfl; (with_reducible apply v_load_own); exact rfl; (repeat first | exact .hd | apply Sel.tl | apply In.tl); exact hrv)
          | ((with_reducible apply wl_call (f := 22)); exact rfl; exact rfl; (intro w' h; exact s1 _ w' (Reads.of_own (A := some g1) h (by (repeat first | exact .hd | apply Sel.tl | apply In.tl)))); (rintro v H' ⟨A4, cap4, rfl, rfl⟩; refine wl_some (A := A4) (by (repeat first | exact .hd | apply Sel.tl | apply In.tl)) (by omega) fun g4 hA4 => ?_; subst hA4))
          | ((with_reducible apply wl_call (f := 40)); exact rfl; exact rfl; (intro w' h; exact u2 _ w' (by rw [hl1]; exact Reads.of_own (A := some g4) h (by (repeat first | exact .hd | apply Sel.tl | apply In.tl)))); (rintro v H' ⟨A5, cap5, rfl, rfl⟩))
          | ((with_reducible apply wl_v); exact rfl; (with_reducible apply v_indexAddr (j := 0)); exact rfl; exact rfl; omega)
          | ((with_reducible apply wl_v (d := 83)); exact rfl; (with_reducible apply v_loadc_own (i := 0)); exact encN_len; exact rfl; (repeat first | exact .hd | apply Sel.tl | apply In.tl); decide; exact hm0; exact rfl)
          | ((with_reducible apply wl_v (d := 89)); exact rfl; (with_reducible apply v_loadc_own (i := 0)); exact encN_len; exact rfl; (repeat first | exact .hd | apply Sel.tl | apply In.tl); decide; exact hm0; exact rfl)
          | ((with_reducible apply wl_v (d := 96)); exact rfl; (with_reducible apply v_loads_own (ys := encR m.rect)); exact rfl; (repeat first | exact .hd | apply Sel.tl | apply In.tl); (rw [hS]; rfl); exact rfl)
          | ((with_reducible apply w_drawB (T := 68) (fun D => [.int .i64 m.rect.c1, .int .i64 m.rect.r1, .int .i64 m.rect.c2, .int .i64 m.rect.r2, .int .i64 (bif D 6 then ((T.length - 1 : Nat) : Int) else -1), .int .u8 (bif D 8 then n.fn else 0)]) (xs' := [.int .i64 m.rect.c1, .int .i64 m.rect.r1, .int .i64 m.rect.c2, .int .i64 m.rect.r2, .int .i64 ((T.length - 1 : Nat) : Int), .int .u8 n.fn])); decide +kernel; decide +kernel; (repeat first | exact .hd | apply Sel.tl | apply In.tl); exact rfl; (intro D hD; simp only [hD 6 (by decide), hD 8 (by decide), cond_true]))
          | ((with_reducible apply wg_v); exact rfl; (intro D ht; (with_reducible apply v_predN); exact rfl; exact rfl; omega; (simp only [maxLen]; omega)); exact fun _ => rfl)
          | ((with_reducible apply wl_appendR (A := Aw) (m := 1) (news := encU ⟨m.rect, ((T.length - 1 : Nat) : Int), n.fn⟩)); exact rfl; exact rfl; exact rfl; (repeat first | exact .hd | apply Sel.tl | apply In.tl); (intro w hm; exact Reads.of_own (A := some _) hm (by (repeat first | exact .hd | apply Sel.tl | apply In.tl))); exact rfl; (simp [encU, Value.oneCell']); omega; (simp only [maxLen]; omega); intro A9 c9 h9)
          | ((with_reducible apply wl_appendR (A := Aw) (m := 1) (news := encU ⟨m.rect, -1, 0⟩)); exact rfl; exact rfl; exact rfl; (repeat first | exact .hd | apply Sel.tl | apply In.tl); (intro w hm; exact Reads.of_own (A := some _) hm (by (repeat first | exact .hd | apply Sel.tl | apply In.tl))); exact rfl; (simp [encU, Value.oneCell']); omega; (simp only [maxLen]; omega); intro A9 c9 h9)
          | ((with_reducible apply wl_v); exact rfl; (first | ((with_reducible apply vop_ok); exact rfl) | ((with_reducible apply v_fieldAddr); exact rfl) | ((with_reducible apply v_len); exact rfl) | ((with_reducible apply v_lens); exact rfl) | ((with_reducible apply v_load_box); exact rfl; (repeat first | exact .hd | apply Sel.tl | apply In.tl); exact rfl) | ((with_reducible apply v_eqlb); exact rfl; exact rfl) | ((with_reducible apply v_neqb); exact rfl; exact rfl) | ((with_reducible apply v_loadw_box); exact rfl; (repeat first | exact .hd | apply Sel.tl | apply In.tl); exact rfl) | ((with_reducible apply v_loadn_box); exact rfl; (repeat first | exact .hd | apply Sel.tl | apply In.tl); exact rfl; exact rfl) | ((with_reducible apply v_build); exact rfl; exact rfl; exact rfl)))
          | ((with_reducible apply wl_gyes); exact rfl; exact rfl)
          | ((with_reducible apply wl_gno_b); exact rfl; exact rfl; exact rfl; exact rfl)
          | ((with_reducible apply wl_gno_u); exact rfl; exact rfl; exact rfl)
          | ((with_reducible apply wl_alloc); exact rfl; intro _)
          | ((with_reducible apply wl_storen_box); exact rfl; exact rfl; (repeat first | exact .hd | apply Sel.tl | apply In.tl); exact rfl; exact rfl; exact rfl)
          | ((with_reducible apply wl_putn_box); exact rfl; exact rfl; (repeat first | exact .hd | apply Sel.tl | apply In.tl); exact rfl; exact rfl; exact rfl; exact rfl)
          | ((with_reducible apply wl_buildSlice); exact rfl; exact rfl; exact rfl; exact rfl; exact rfl; exact rfl; exact rfl; intro _)
          | ((with_reducible apply wl_gsplit) <;> first | exact rfl | (intro hb; (replace hb := Tidy.out hb; try (exfalso; omega))))
          | (with_reducible first | apply wl_nil | apply thn_n | apply w_seq | apply w_region | apply w_ret | apply w_skip | apply w_exit | apply w_block | apply thn_r | apply thn_e | apply blk_n | apply blk_r | apply blk_e | apply wg_nil)
          | ((with_reducible apply w_cond_true); exact rfl)
          | ((with_reducible apply w_cond_false); exact rfl)
          | ((with_reducible apply w_cond) <;> first | exact rfl | (intro hb; (replace hb := Tidy.out hb; try (exfalso; omega))))
          | ((with_reducible apply blk_x); exact rfl)
          | ((with_reducible apply wl_v); exact rfl; (with_reducible apply v_succN); exact rfl; exact rfl; (simp only [maxLen] at *; omega))
          | ((with_reducible apply wl_v); exact rfl; (with_reducible apply v_1addN); exact rfl; exact rfl; (simp only [maxLen] at *; omega))
          | ((with_reducible apply wl_v); exact rfl; (with_reducible apply v_addN); exact rfl; exact rfl; (simp only [maxLen] at *; omega))
          | ((with_reducible apply wl_v); exact rfl; (with_reducible apply v_predN); exact rfl; exact rfl; omega; (simp only [maxLen] at *; omega))
          | ((with_reducible apply wl_v); exact rfl; (with_reducible apply v_subN); exact rfl; exact rfl; omega; (simp only [maxLen] at *; omega))
          | ((with_reducible apply wg_v); exact rfl; (intro D ht; (first | ((with_reducible apply vop_ok); exact rfl) | ((with_reducible apply v_fieldAddr); exact rfl) | ((with_reducible apply v_len); exact rfl) | ((with_reducible apply v_lens); exact rfl) | ((with_reducible apply v_load_box); exact rfl; (repeat first | exact .hd | apply Sel.tl | apply In.tl); exact rfl) | ((with_reducible apply v_eqlb); exact rfl; exact rfl) | ((with_reducible apply v_neqb); exact rfl; exact rfl) | ((with_reducible apply v_loadw_box); exact rfl; (repeat first | exact .hd | apply Sel.tl | apply In.tl); exact rfl) | ((with_reducible apply v_loadn_box); exact rfl; (repeat first | exact .hd | apply Sel.tl | apply In.tl); exact rfl; exact rfl) | ((with_reducible apply v_build); exact rfl; exact rfl; exact rfl))); exact fun _ => rfl)
          | (refine wg_put _ _ rfl rfl (fun D => .hd) rfl rfl rfl (fun _ => Nat.le_of_ble_eq_true rfl) (fun D ht => .refl _) ?_)
          | ((with_reducible apply wg_l (f := 60)); exact rfl; decide +kernel; exact rfl; (first | ((with_reducible apply vop_ok); exact rfl) | ((with_reducible apply v_fieldAddr); exact rfl) | ((with_reducible apply v_len); exact rfl) | ((with_reducible apply v_lens); exact rfl) | ((with_reducible apply v_load_box); exact rfl; (repeat first | exact .hd | apply Sel.tl | apply In.tl); exact rfl) | ((with_reducible apply v_eqlb); exact rfl; exact rfl) | ((with_reducible apply v_neqb); exact rfl; exact rfl) | ((with_reducible apply v_loadw_box); exact rfl; (repeat first | exact .hd | apply Sel.tl | apply In.tl); exact rfl) | ((with_reducible apply v_loadn_box); exact rfl; (repeat first | exact .hd | apply Sel.tl | apply In.tl); exact rfl; exact rfl) | ((with_reducible apply v_build); exact rfl; exact rfl; exact rfl))))
        all_goals
          have hz : ∃ u, piecesF n (T.length - 1) (top.take (k + 1)) 0 = X ++ [u] ∧ u = (if relB n then ⟨m.rect, ((T.length - 1 : Nat) : Int), n.fn⟩ else ⟨m.rect, -1, 0⟩) := ⟨_, hsn, rfl⟩
          obtain ⟨u, hz, hu⟩ := hz
          first
            | (have hq : relB n = true := by (unfold relB; simp only [Bool.and_eq_true, decide_eq_true_eq]; omega)
               rw [if_pos hq] at hu)
            | (have hq : ¬ relB n = true := by (unfold relB; simp only [Bool.and_eq_true, decide_eq_true_eq]; omega)
               rw [if_neg hq] at hu)
          subst hu
          refine ⟨(k + 1, A9, c9), hlt, (by dsimp only; omega), ?_, ?_, ?_⟩
          · dsimp only
            rw [hfl, hz, List.length_append, List.length_singleton]
            (repeat (first | exact Sub.nil _ | refine Sub.cons rfl ?_))
          · (repeat (first | exact Sub.nil _ | refine Sub.cons rfl ?_))
          · dsimp only
            rw [hz, List.length_append, List.length_singleton, flat_snoc]
            (repeat (first | exact MSub.nil _ | refine MSub.pick (by (repeat first | exact .hd | apply Sel.tl | apply In.tl)) ?_ | exact MSub.refl _ | refine MSub.drop .hd ?_))
      · rw [if_pos hmk, if_pos (by decide)] at u2
        dsimp only at u2
        repeat' (first
          | ((with_reducible apply wl_v); exact rfl; (with_reducible apply v_indexAddr); exact rfl; exact rfl; omega)
          | ((with_reducible apply wl_v); exact rfl; (with_reducible apply v_load_own); exact rfl; (repeat first | exact .hd | apply Sel.tl | apply In.tl); exact hrv)
          | ((with_reducible apply wl_call (f := 22)); exact rfl; exact rfl; (intro w' h; exact s1 _ w' (Reads.of_own (A := some g1) h (by (repeat first | exact .hd | apply Sel.tl | apply In.tl)))); (rintro v H' ⟨A4, cap4, rfl, rfl⟩; refine wl_some (A := A4) (by (repeat first | exact .hd | apply Sel.tl | apply In.tl)) (by omega) fun g4 hA4 => ?_; subst hA4))
          | ((with_reducible apply wl_call (f := 40)); exact rfl; exact rfl; (intro w' h; exact u2 _ w' (by rw [hl1]; exact Reads.of_own (A := some g4) h (by (repeat first | exact .hd | apply Sel.tl | apply In.tl)))); (rintro v H' ⟨A5, cap5, rfl, rfl⟩))
          | ((with_reducible apply wl_v); exact rfl; (with_reducible apply v_indexAddr (j := 0)); exact rfl; exact rfl; omega)
          | ((with_reducible apply wl_v (d := 83)); exact rfl; (with_reducible apply v_loadc_own (i := 0)); exact encN_len; exact rfl; (repeat first | exact .hd | apply Sel.tl | apply In.tl); decide; exact hm0; exact rfl)
          | ((with_reducible apply wl_v (d := 89)); exact rfl; (with_reducible apply v_loadc_own (i := 0)); exact encN_len; exact rfl; (repeat first | exact .hd | apply Sel.tl | apply In.tl); decide; exact hm0; exact rfl)
          | ((with_reducible apply wl_v (d := 96)); exact rfl; (with_reducible apply v_loads_own (ys := encR m.rect)); exact rfl; (repeat first | exact .hd | apply Sel.tl | apply In.tl); (rw [hS]; rfl); exact rfl)
          | ((with_reducible apply w_drawB (T := 68) (fun D => [.int .i64 m.rect.c1, .int .i64 m.rect.r1, .int .i64 m.rect.c2, .int .i64 m.rect.r2, .int .i64 (bif D 6 then ((T.length - 1 : Nat) : Int) else -1), .int .u8 (bif D 8 then n.fn else 0)]) (xs' := [.int .i64 m.rect.c1, .int .i64 m.rect.r1, .int .i64 m.rect.c2, .int .i64 m.rect.r2, .int .i64 ((T.length - 1 : Nat) : Int), .int .u8 n.fn])); decide +kernel; decide +kernel; (repeat first | exact .hd | apply Sel.tl | apply In.tl); exact rfl; (intro D hD; simp only [hD 6 (by decide), hD 8 (by decide), cond_true]))
          | ((with_reducible apply wg_v); exact rfl; (intro D ht; (with_reducible apply v_predN); exact rfl; exact rfl; omega; (simp only [maxLen]; omega)); exact fun _ => rfl)
          | ((with_reducible apply wl_appendR (A := Aw) (m := 1) (news := encU ⟨m.rect, ((T.length - 1 : Nat) : Int), n.fn⟩)); exact rfl; exact rfl; exact rfl; (repeat first | exact .hd | apply Sel.tl | apply In.tl); (intro w hm; exact Reads.of_own (A := some _) hm (by (repeat first | exact .hd | apply Sel.tl | apply In.tl))); exact rfl; (simp [encU, Value.oneCell']); omega; (simp only [maxLen]; omega); intro A9 c9 h9)
          | ((with_reducible apply wl_appendR (A := Aw) (m := 1) (news := encU ⟨m.rect, -1, 0⟩)); exact rfl; exact rfl; exact rfl; (repeat first | exact .hd | apply Sel.tl | apply In.tl); (intro w hm; exact Reads.of_own (A := some _) hm (by (repeat first | exact .hd | apply Sel.tl | apply In.tl))); exact rfl; (simp [encU, Value.oneCell']); omega; (simp only [maxLen]; omega); intro A9 c9 h9)
          | ((with_reducible apply wl_v); exact rfl; (first | ((with_reducible apply vop_ok); exact rfl) | ((with_reducible apply v_fieldAddr); exact rfl) | ((with_reducible apply v_len); exact rfl) | ((with_reducible apply v_lens); exact rfl) | ((with_reducible apply v_load_box); exact rfl; (repeat first | exact .hd | apply Sel.tl | apply In.tl); exact rfl) | ((with_reducible apply v_eqlb); exact rfl; exact rfl) | ((with_reducible apply v_neqb); exact rfl; exact rfl) | ((with_reducible apply v_loadw_box); exact rfl; (repeat first | exact .hd | apply Sel.tl | apply In.tl); exact rfl) | ((with_reducible apply v_loadn_box); exact rfl; (repeat first | exact .hd | apply Sel.tl | apply In.tl); exact rfl; exact rfl) | ((with_reducible apply v_build); exact rfl; exact rfl; exact rfl)))
          | ((with_reducible apply wl_gyes); exact rfl; exact rfl)
          | ((with_reducible apply wl_gno_b); exact rfl; exact rfl; exact rfl; exact rfl)
          | ((with_reducible apply wl_gno_u); exact rfl; exact rfl; exact rfl)
          | ((with_reducible apply wl_alloc); exact rfl; intro _)
          | ((with_reducible apply wl_storen_box); exact rfl; exact rfl; (repeat first | exact .hd | apply Sel.tl | apply In.tl); exact rfl; exact rfl; exact rfl)
          | ((with_reducible apply wl_putn_box); exact rfl; exact rfl; (repeat first | exact .hd | apply Sel.tl | apply In.tl); exact rfl; exact rfl; exact rfl; exact rfl)
          | ((with_reducible apply wl_buildSlice); exact rfl; exact rfl; exact rfl; exact rfl; exact rfl; exact rfl; exact rfl; intro _)
          | ((with_reducible apply wl_gsplit) <;> first | exact rfl | (intro hb; (replace hb := Tidy.out hb; try (exfalso; omega))))
          | (with_reducible first | apply wl_nil | apply thn_n | apply w_seq | apply w_region | apply w_ret | apply w_skip | apply w_exit | apply w_block | apply thn_r | apply thn_e | apply blk_n | apply blk_r | apply blk_e | apply wg_nil)
          | ((with_reducible apply w_cond_true); exact rfl)
          | ((with_reducible apply w_cond_false); exact rfl)
          | ((with_reducible apply w_cond) <;> first | exact rfl | (intro hb; (replace hb := Tidy.out hb; try (exfalso; omega))))
          | ((with_reducible apply blk_x); exact rfl)
          | ((with_reducible apply wl_v); exact rfl; (with_reducible apply v_succN); exact rfl; exact rfl; (simp only [maxLen] at *; omega))
          | ((with_reducible apply wl_v); exact rfl; (with_reducible apply v_1addN); exact rfl; exact rfl; (simp only [maxLen] at *; omega))
          | ((with_reducible apply wl_v); exact rfl; (with_reducible apply v_addN); exact rfl; exact rfl; (simp only [maxLen] at *; omega))
          | ((with_reducible apply wl_v); exact rfl; (with_reducible apply v_predN); exact rfl; exact rfl; omega; (simp only [maxLen] at *; omega))
          | ((with_reducible apply wl_v); exact rfl; (with_reducible apply v_subN); exact rfl; exact rfl; omega; (simp only [maxLen] at *; omega))
          | ((with_reducible apply wg_v); exact rfl; (intro D ht; (first | ((with_reducible apply vop_ok); exact rfl) | ((with_reducible apply v_fieldAddr); exact rfl) | ((with_reducible apply v_len); exact rfl) | ((with_reducible apply v_lens); exact rfl) | ((with_reducible apply v_load_box); exact rfl; (repeat first | exact .hd | apply Sel.tl | apply In.tl); exact rfl) | ((with_reducible apply v_eqlb); exact rfl; exact rfl) | ((with_reducible apply v_neqb); exact rfl; exact rfl) | ((with_reducible apply v_loadw_box); exact rfl; (repeat first | exact .hd | apply Sel.tl | apply In.tl); exact rfl) | ((with_reducible apply v_loadn_box); exact rfl; (repeat first | exact .hd | apply Sel.tl | apply In.tl); exact rfl; exact rfl) | ((with_reducible apply v_build); exact rfl; exact rfl; exact rfl))); exact fun _ => rfl)
          | (refine wg_put _ _ rfl rfl (fun D => .hd) rfl rfl rfl (fun _ => Nat.le_of_ble_eq_true rfl) (fun D ht => .refl _) ?_)
          | ((with_reducible apply wg_l (f := 60)); exact rfl; decide +kernel; exact rfl; (first | ((with_reducible apply vop_ok); exact rfl) | ((with_reducible apply v_fieldAddr); exact rfl) | ((with_reducible apply v_len); exact rfl) | ((with_reducible apply v_lens); exact rfl) | ((with_reducible apply v_load_box); exact rfl; (repeat first | exact .hd | apply Sel.tl | apply In.tl); exact rfl) | ((with_reducible apply v_eqlb); exact rfl; exact rfl) | ((with_reducible apply v_neqb); exact rfl; exact rfl) | ((with_reducible apply v_loadw_box); exact rfl; (repeat first | exact .hd | apply Sel.tl | apply In.tl); exact rfl) | ((with_reducible apply v_loadn_box); exact rfl; (repeat first | exact .hd | apply Sel.tl | apply In.tl); exact rfl; exact rfl) | ((with_reducible apply v_build); exact rfl; exact rfl; exact rfl))))
        all_goals
          have hz : ∃ u, piecesF n (T.length - 1) (top.take (k + 1)) 0 = X ++ [u] ∧ u = (if relB n then ⟨m.rect, ((T.length - 1 : Nat) : Int), n.fn⟩ else ⟨m.rect, -1, 0⟩) := ⟨_, hsn, rfl⟩
          obtain ⟨u, hz, hu⟩ := hz
          first
            | (have hq : relB n = true := by (unfold relB; simp only [Bool.and_eq_true, decide_eq_true_eq]; omega)
               rw [if_pos hq] at hu)
            | (have hq : ¬ relB n = true := by (unfold relB; simp only [Bool.and_eq_true, decide_eq_true_eq]; omega)
               rw [if_neg hq] at hu)
          subst hu
          refine ⟨(k + 1, A9, c9), hlt, (by dsimp only; omega), ?_, ?_, ?_⟩
          · dsimp only
            rw [hfl, hz, List.length_append, List.length_singleton]
            (repeat (first | exact Sub.nil _ | refine Sub.cons rfl ?_))
          · (repeat (first | exact Sub.nil _ | refine Sub.cons rfl ?_))
          · dsimp only
            rw [hz, List.length_append, List.length_singleton, flat_snoc]
            (repeat (first | exact MSub.nil _ | refine MSub.pick (by (repeat first | exact .hd | apply Sel.tl | apply In.tl)) ?_ | exact MSub.refl _ | refine MSub.drop .hd ?_))
  · have e : k = top.length := by omega
    subst e
    rw [List.take_of_length_le (Nat.le_refl _)]
    by_cases h2 : n.kind = 2
    · obtain ⟨hu, ht0⟩ := hfinal2 h2
      rw [hu]
      repeat' (first
        | ((with_reducible apply wl_callp (f := 46)); exact rfl; exact rfl; (intro w' h; exact EqualUses_same [⟨n.rect, -1, 0⟩] _ _ w' (Reads.of_own (A := A2) h (by (repeat first | exact .hd | apply Sel.tl | apply In.tl))) (Reads.of_own (A := some _) h (by (repeat first | exact .hd | apply Sel.tl | apply In.tl)))))
        | ((with_reducible apply wl_callp (f := 47)); exact rfl; exact rfl; (intro w' h; exact awake12_at w'))
        | ((with_reducible apply wl_v); exact rfl; (first | ((with_reducible apply vop_ok); exact rfl) | ((with_reducible apply v_fieldAddr); exact rfl) | ((with_reducible apply v_len); exact rfl) | ((with_reducible apply v_lens); exact rfl) | ((with_reducible apply v_load_box); exact rfl; (repeat first | exact .hd | apply Sel.tl | apply In.tl); exact rfl) | ((with_reducible apply v_eqlb); exact rfl; exact rfl) | ((with_reducible apply v_neqb); exact rfl; exact rfl) | ((with_reducible apply v_loadw_box); exact rfl; (repeat first | exact .hd | apply Sel.tl | apply In.tl); exact rfl) | ((with_reducible apply v_loadn_box); exact rfl; (repeat first | exact .hd | apply Sel.tl | apply In.tl); exact rfl; exact rfl) | ((with_reducible apply v_build); exact rfl; exact rfl; exact rfl)))
        | ((with_reducible apply wl_gyes); exact rfl; exact rfl)
        | ((with_reducible apply wl_gno_b); exact rfl; exact rfl; exact rfl; exact rfl)
        | ((with_reducible apply wl_gno_u); exact rfl; exact rfl; exact rfl)
        | ((with_reducible apply wl_alloc); exact rfl; intro _)
        | ((with_reducible apply wl_storen_box); exact rfl; exact rfl; (repeat first | exact .hd | apply Sel.tl | apply In.tl); exact rfl; exact rfl; exact rfl)
        | ((with_reducible apply wl_putn_box); exact rfl; exact rfl; (repeat first | exact .hd | apply Sel.tl | apply In.tl); exact rfl; exact rfl; exact rfl; exact rfl)
        | ((with_reducible apply wl_buildSlice); exact rfl; exact rfl; exact rfl; exact rfl; exact rfl; exact rfl; exact rfl; intro _)
        | ((with_reducible apply wl_gsplit) <;> first | exact rfl | (intro hb; (replace hb := Tidy.out hb; try (exfalso; omega))))
        | (with_reducible first | apply wl_nil | apply thn_n | apply w_seq | apply w_region | apply w_ret | apply w_skip | apply w_exit | apply w_block | apply thn_r | apply thn_e | apply blk_n | apply blk_r | apply blk_e)
        | ((with_reducible apply w_cond_true); exact rfl)
        | ((with_reducible apply w_cond_false); exact rfl)
        | ((with_reducible apply w_cond) <;> first | exact rfl | (intro hb; (replace hb := Tidy.out hb; try (exfalso; omega))))
        | ((with_reducible apply blk_x); exact rfl))
      all_goals
        ((with_reducible apply ret1); exact .inl rfl; exact rfl; exact rfl; exact MSub.nil _)
        rfl
    · rw [hfinal h2]
      generalize piecesF n (T.length - 1) top 0 = X
      repeat' (first
        | ((with_reducible apply wl_callp (f := 46)); exact rfl; exact rfl; (intro w' h; exact EqualUses_same X _ _ w' (Reads.of_own (A := A2) h (by (repeat first | exact .hd | apply Sel.tl | apply In.tl))) (Reads.of_own (A := Aw) h (by (repeat first | exact .hd | apply Sel.tl | apply In.tl)))))
        | ((with_reducible apply wl_callp (f := 47)); exact rfl; exact rfl; (intro w' h; exact awake12_at w'))
        | ((with_reducible apply wl_v); exact rfl; (first | ((with_reducible apply vop_ok); exact rfl) | ((with_reducible apply v_fieldAddr); exact rfl) | ((with_reducible apply v_len); exact rfl) | ((with_reducible apply v_lens); exact rfl) | ((with_reducible apply v_load_box); exact rfl; (repeat first | exact .hd | apply Sel.tl | apply In.tl); exact rfl) | ((with_reducible apply v_eqlb); exact rfl; exact rfl) | ((with_reducible apply v_neqb); exact rfl; exact rfl) | ((with_reducible apply v_loadw_box); exact rfl; (repeat first | exact .hd | apply Sel.tl | apply In.tl); exact rfl) | ((with_reducible apply v_loadn_box); exact rfl; (repeat first | exact .hd | apply Sel.tl | apply In.tl); exact rfl; exact rfl) | ((with_reducible apply v_build); exact rfl; exact rfl; exact rfl)))
        | ((with_reducible apply wl_gyes); exact rfl; exact rfl)
        | ((with_reducible apply wl_gno_b); exact rfl; exact rfl; exact rfl; exact rfl)
        | ((with_reducible apply wl_gno_u); exact rfl; exact rfl; exact rfl)
        | ((with_reducible apply wl_alloc); exact rfl; intro _)
        | ((with_reducible apply wl_storen_box); exact rfl; exact rfl; (repeat first | exact .hd | apply Sel.tl | apply In.tl); exact rfl; exact rfl; exact rfl)
        | ((with_reducible apply wl_putn_box); exact rfl; exact rfl; (repeat first | exact .hd | apply Sel.tl | apply In.tl); exact rfl; exact rfl; exact rfl; exact rfl)
        | ((with_reducible apply wl_buildSlice); exact rfl; exact rfl; exact rfl; exact rfl; exact rfl; exact rfl; exact rfl; intro _)
        | ((with_reducible apply wl_gsplit) <;> first | exact rfl | (intro hb; (replace hb := Tidy.out hb; try (exfalso; omega))))
        | (with_reducible first | apply wl_nil | apply thn_n | apply w_seq | apply w_region | apply w_ret | apply w_skip | apply w_exit | apply w_block | apply thn_r | apply thn_e | apply blk_n | apply blk_r | apply blk_e)
        | ((with_reducible apply w_cond_true); exact rfl)
        | ((with_reducible apply w_cond_false); exact rfl)
        | ((with_reducible apply w_cond) <;> first | exact rfl | (intro hb; (replace hb := Tidy.out hb; try (exfalso; omega))))
        | ((with_reducible apply blk_x); exact rfl))
      all_goals
        ((with_reducible apply ret1); exact .inl rfl; exact rfl; exact rfl; exact MSub.nil _)
        rfl
end Go.SL

/-
  What is known of trees that were joined. No program in sight.
-/
import Derived.Test.YtfkklicpnoeclaaTr3
namespace Go.SL
open Go

theorem checkT_ok_good {t : List Nd} {b : Bool} (h : (checkT t b).1 = 0) : t.length ≤ 256 ∧ ∃ T, Good T ∧ T.ns = t := by
  refine ⟨checkT_small h, ?_⟩
  unfold checkT at h
  split at h
  · cases h
  split at h
  · cases h
  split at h
  · rename_i h1
    exact absurd h h1
  rename_i h1
  have h2 : (walkT t t 0 [] []).1 = 0 := by omega
  rw [walkT_walkF] at h2
  dsimp only at h2
  have hw : walkF t [] [] = (0, (walkF t [] []).2.1, (walkF t [] []).2.2) := by rw [← h2]
  obtain ⟨S, _, hW⟩ := whole_of hw
  exact ⟨S, hW.good, hW.ns⟩

theorem joinLoop_ok : ∀ (ts : List (List Nd)) (out : List Nd), (joinLoop ts out).2 = 0 → (∃ Ts : List STree, Ts.map STree.ns = ts ∧ ∀ T ∈ Ts, Good T ∧ T.ns.length ≤ 256) ∧ out.length ≤ (joinLoop ts out).1.length ∧ ((joinLoop ts out).1.length ≤ 256 → (joinLoop ts out).1 = out ++ ts.flatten)
  | [], out, _ => ⟨⟨[], rfl, fun _ h => by cases h⟩, by simp [joinLoop], fun _ => by simp [joinLoop]⟩
  | t :: r, out, h => by
    rw [joinLoop] at h ⊢
    split at h
    · rename_i h1
      exact absurd h h1
    rename_i h1
    rw [if_neg h1]
    obtain ⟨hl, T, hT, e⟩ := checkT_ok_good (t := t) (b := decide ((t.length : Int) = 1)) (by omega)
    obtain ⟨⟨Ts, e1, h2⟩, h3, h4⟩ := joinLoop_ok r _ h
    refine ⟨⟨T :: Ts, by simp [e, e1], fun U hU => ?_⟩, ?_, fun h5 => ?_⟩
    · rcases List.mem_cons.1 hU with rfl | hU
      · exact ⟨hT, by rw [e]; exact hl⟩
      · exact h2 U hU
    · refine Nat.le_trans ?_ h3
      split
      · rw [List.length_append]; omega
      · exact Nat.le_refl _
    · rw [h4 h5]
      have h6 : out.length ≤ 256 := by
        refine Nat.le_trans ?_ (Nat.le_trans h3 h5)
        split
        · rw [List.length_append]; omega
        · exact Nat.le_refl _
      rw [if_pos h6, List.flatten_cons, List.append_assoc]

theorem joinLoop_err : ∀ (ts : List (List Nd)) (out : List Nd), (joinLoop ts out).2 ≠ 0 → (joinLoop ts out).1 = []
  | [], out, h => absurd rfl h
  | t :: r, out, h => by
    rw [joinLoop] at h ⊢
    split at h
    · rename_i h1
      rw [if_pos h1]
    · rename_i h1
      rw [if_neg h1]
      exact joinLoop_err r _ h

theorem joinE_err {r : Nd} {Ls : List (List Nd)} (h : (joinE r Ls).2 ≠ 0) : (joinE r Ls).1 = [] := by
  unfold joinE at h ⊢
  split at h
  · rename_i h1
    rw [if_pos h1]
    exact joinLoop_err _ _ h1
  · rename_i h1
    rw [if_neg h1]
    split at h
    · rename_i h2
      rw [if_pos h2]
    · exact absurd rfl h

theorem walk_flat {Ts : List STree} (h : ∀ T ∈ Ts, Good T) : ∀ (rest : List Nd) (st : List STree) (h0 : Hist), ∃ h1, walkF (flatS Ts ++ rest) st h0 = walkF rest (st ++ Ts) h1 := by
  induction Ts with
  | nil => intro rest st h0; exact ⟨h0, by simp [flatS]⟩
  | cons T r ih =>
    intro rest st h0
    obtain ⟨H, _, f⟩ := (h T List.mem_cons_self).walk
    obtain ⟨h1, e⟩ := ih (fun U hU => h U (List.mem_cons_of_mem _ hU)) rest (st ++ [T]) (h0 ++ H)
    exact ⟨h1, by rw [flatS_cons, List.append_assoc, f, e, List.append_assoc, List.singleton_append]⟩

/-- What was joined without an error: the trees below its root are those that were joined. -/
theorem joinE_ok {r : Nd} {Ls : List (List Nd)} (h : (joinE r Ls).2 = 0) : ∃ (Ts : List STree) (H : Hist), Ts.map STree.ns = Ls ∧ (∀ T ∈ Ts, Good T ∧ T.ns.length ≤ 256) ∧ (joinE r Ls).1 = flatS Ts ++ [r] ∧ checkE (joinE r Ls).1 = 0 ∧
    Whole (joinE r Ls).1 (nodeF r Ts) H ∧ checkT (joinE r Ls).1 false = (0, visitsOf H) ∧ H[(joinE r Ls).1.length - 1]? = some (Ts, nodeF r Ts) := by
  unfold joinE at h ⊢
  split at h
  · rename_i h1
    exact absurd h h1
  rename_i h1
  split at h
  · rename_i h2
    exact absurd h h2
  rename_i h2
  rw [if_neg h1, if_neg h2]
  have hz : checkE ((joinLoop Ls []).1 ++ [r]) = 0 := by omega
  obtain ⟨⟨Ts, e1, hg⟩, _, h4⟩ := joinLoop_ok Ls [] (by omega)
  obtain ⟨hl, S, H, hW, hk3, hct⟩ := check_whole hz
  have hout := h4 (by rw [List.length_append] at hl; omega)
  have hfl : Ls.flatten = flatS Ts := by rw [← e1, flatS, List.flatMap_def]
  rw [List.nil_append, hfl] at hout
  rw [hout] at hz hl hW hct ⊢
  dsimp only
  -- the last step
  obtain ⟨hh, hwk⟩ := walk_flat (fun T hT => (hg T hT).1) [r] [] []
  rw [hW.walk, List.nil_append] at hwk
  obtain ⟨l, top, hs, hw2⟩ := walkF_cons hwk.symm
  rw [walkF] at hw2
  simp only [Prod.mk.injEq] at hw2
  obtain ⟨_, hst, _⟩ := hw2
  obtain ⟨_, hlt⟩ := stepF_below hs
  have hl0 : l = [] := by
    have := congrArg List.length hst
    simp at this
    exact this
  subst hl0
  rw [List.nil_append] at hst hlt
  subst hlt
  have hS : S = nodeF r Ts := (List.cons.inj hst).1.symm
  subst hS
  obtain ⟨top, hlast⟩ := hW.last
  refine ⟨Ts, H, e1, hg, rfl, hz, hW, hct, ?_⟩
  -- the history's last entry is the last step
  obtain ⟨hh2, hwk2⟩ := walk_flat (fun T hT => (hg T hT).1) [r] [] []
  rw [hW.walk, List.nil_append, walkF, hs] at hwk2
  simp only [walkF, Prod.mk.injEq] at hwk2
  obtain ⟨_, _, e⟩ := hwk2
  have hHl := hW.inv.len
  rw [e] at hHl ⊢
  rw [← hHl]
  simp

theorem max_le_foldl (l : List STree) (d : Nat) : l.foldl (fun d S => max d (S.d + 1)) (d + 1) = l.foldl (fun d S => max d S.d) d + 1 := by
  induction l generalizing d with
  | nil => rfl
  | cons S r ih =>
    rw [List.foldl_cons, List.foldl_cons, show max (d + 1) (S.d + 1) = max d S.d + 1 by omega, ih]

/-- The depth of a node is one more than the deepest tree below it. -/
theorem depthF_max (top : List STree) : depthF top = top.foldl (fun d S => max d S.d) 0 + 1 := max_le_foldl top 0

theorem Good.deep {T : STree} (h : Good T) : 1 ≤ T.d := by
  cases h with
  | mk n top _ _ _ _ _ =>
    simp only [nodeF, depthF_max]
    omega
theorem Good.le32 {T : STree} (h : Good T) : T.d ≤ 32 := by
  cases h with
  | mk n top _ _ _ _ hd => exact hd
theorem Good.range1 {T : STree} (h : Good T) (h3 : T.kind = 3) : T.d = 1 := by
  cases h with
  | mk n top hg hf hb hfit hd =>
    rw [nodeF_kind] at h3
    have : Go.SL.below n = 0 := by simp [Go.SL.below, h3]
    have ht : top = [] := List.eq_nil_of_length_eq_zero (by omega)
    subst ht
    rfl
end Go.SL

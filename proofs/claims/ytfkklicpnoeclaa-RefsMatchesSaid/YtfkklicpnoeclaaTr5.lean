/-
  Uses by parents: a use's parent is a function that may be released exactly if that function is the next node. No program in sight.
-/
import Derived.Test.YtfkklicpnoeclaaTr2
import Derived.Test.YtfkklicpnoeclaaW28
namespace Go.SL
open Go

theorem stepF_len {n : Nd} {st l top : List STree} (hs : stepF n st = .inr (l, top)) : fieldsE n = 0 ∧ (top.length : Int) = below n := by
  unfold stepF at hs
  split at hs
  · cases hs
  rename_i hf
  split at hs
  · cases hs
  rename_i hb
  split at hs
  · cases hs
  simp only [Sum.inr.injEq, Prod.mk.injEq] at hs
  obtain ⟨rfl, rfl⟩ := hs
  have hlk : (lastK st (below n).toNat).length = min st.length (below n).toNat := by simp [lastK]; omega
  have hb0 : (0 : Int) ≤ below n := by
    have hk : kindOk n = true := by
      cases hk : kindOk n
      · exfalso
        apply hf
        intro h0
        simp [fieldsE, hk] at h0
      · rfl
    unfold below
    by_cases h7 : n.kind = 7
    · simp [kindOk, h7] at hk
      simp [h7]; exact hk
    · (repeat' split) <;> omega
  have hle : ¬ (st.length : Int) < below n := fun h => hb (Or.inl h)
  exact ⟨by omega, by omega⟩

def LenOk (h : Hist) : Prop := ∀ (j : Nat) (y : List STree × STree), h[j]? = some y → ∃ n, (y.1.length : Int) = below n ∧ y.2 = nodeF n y.1 ∧ fieldsE n = 0
theorem Whole.lens {L : List Nd} {S : STree} {h : Hist} (hW : Whole L S h) : LenOk h := by
  refine walkF_ind (fun _ h => LenOk h) (fun dn n st h l top hI hP hs => ?_) L [] [] [] [S] h ?_ ?_ hW.walk
  · intro j y hy
    by_cases hj : j < h.length
    · rw [List.getElem?_append_left hj] at hy
      exact hP j y hy
    · rw [List.getElem?_append_right (by omega)] at hy
      obtain ⟨h1, h2⟩ := stepF_len hs
      have e : y = (top, nodeF n top) := by
        cases hq : j - h.length with
        | zero => rw [hq] at hy; exact (Option.some.inj hy).symm
        | succ k => rw [hq] at hy; simp at hy
      subst e
      exact ⟨n, h2, rfl, h1⟩
  · exact Inv.nil
  · intro j y hy
    simp at hy

def relN (m : Nd) : Prop := m.kind = 7 ∧ 46 ≤ m.fn

theorem rel_one {m : Nd} (hf : fieldsE m = 0) (hr : relN m) : below m = 1 := by
  obtain ⟨h7, h46⟩ := hr
  unfold fieldsE at hf
  split at hf
  · cases hf
  rw [if_neg (show ¬ m.kind ≠ 7 by omega)] at hf
  split at hf
  · rename_i h; exact absurd hf h
  rename_i ha
  split at hf
  · cases hf
  rename_i hn
  have h50 : m.fn ≤ 50 := by
    by_cases h : m.fn ≤ 50
    · exact h
    · exfalso
      apply ha
      have hk : knownF m.fn = false := by
        unfold knownF
        rw [decide_eq_true (show 1 ≤ m.fn by omega), decide_eq_false h]
        rfl
      unfold arity
      rw [hk, if_neg (by omega), if_neg (by omega), if_neg (by omega), if_neg (by omega), if_neg (by omega), if_neg (by omega)]
      decide
  have har : arity m.fn = (1, 1, 0) := by
    have : m.fn = 46 ∨ m.fn = 47 ∨ m.fn = 48 ∨ m.fn = 49 ∨ m.fn = 50 := by omega
    rcases this with h | h | h | h | h <;> rw [h] <;> decide +kernel
  rw [har] at hn
  dsimp only at hn
  unfold below
  rw [if_neg (by omega), if_neg (by omega), if_pos h7]
  omega

/-- The parent of node i: none, or a later node; a function that may be released is the parent of the node before it and of no other. -/
theorem parent_use {L : List Nd} {S : STree} {h : Hist} (hW : Whole L S h) {i : Nat} (hi : i < L.length) :
    ∃ u : Int, (parH h)[i]? = some u ∧ (u = -1 ∨ ∃ j : Nat, u = (j : Int) ∧ j < L.length) ∧ (∀ m, L[i + 1]? = some m → relN m → u = ((i + 1 : Nat) : Int)) ∧ (∀ (j : Nat) m, u = (j : Int) → L[j]? = some m → relN m → j = i + 1) := by
  have hHl := hW.inv.len
  have key : ∀ j m, L[j]? = some m → relN m → ∃ y, h[j]? = some y ∧ 0 < j ∧ kidsH j y = [j - 1] := by
    intro j m hm hr
    have hj : j < L.length := (List.getElem?_eq_some_iff.1 hm).1
    obtain ⟨y, hy⟩ : ∃ y, h[j]? = some y := ⟨_, List.getElem?_eq_getElem (by omega)⟩
    obtain ⟨n, hn, e2, hgt, hgT, hTl, hseg⟩ := hW.inv.node j y hy
    obtain ⟨n', hl', e2', hf'⟩ := hW.lens j y hy
    have hnn : n' = n := by
      rw [e2] at e2'
      have := congrArg (fun T : STree => T.ns.getLast?) e2'
      simpa [nodeF] using this.symm
    subst hnn
    rw [hm] at hn
    obtain rfl := Option.some.inj hn
    rw [rel_one hf' hr] at hl'
    obtain ⟨T, hT⟩ : ∃ T, y.1 = [T] := by
      match hq : y.1, hl' with
      | [T], _ => exact ⟨T, rfl⟩
      | [], h => simp at h
      | _ :: _ :: _, h => simp at h; omega
    have hlen : y.2.ns.length = T.ns.length + 1 := by rw [e2, nodeF_len, hT]; simp [flatS]
    have hTp : 0 < T.ns.length := (hgt T (by rw [hT]; simp)).pos
    refine ⟨y, hy, by omega, ?_⟩
    unfold kidsH lo
    rw [hT]
    simp only [rootsFrom, List.cons.injEq, and_true]
    omega
  have hpk := hW.parOk
  have hup : ∃ u : Int, (parH h)[i]? = some u ∧ (u = -1 ∨ ∃ j : Nat, u = (j : Int) ∧ j < L.length ∧ ∃ y, h[j]? = some y ∧ i ∈ kidsH j y) := by
    rcases hW.inv.up i (by omega) with hr | ⟨j, y, hy, hk⟩
    · exact ⟨-1, hpk.root i hr, .inl rfl⟩
    · have hj : j < h.length := (List.getElem?_eq_some_iff.1 hy).1
      exact ⟨(j : Int), hpk.kid j y hy i hk, .inr ⟨j, rfl, by omega, y, hy, hk⟩⟩
  obtain ⟨u, hu, hcase⟩ := hup
  refine ⟨u, hu, ?_, ?_, ?_⟩
  · rcases hcase with h | ⟨j, h1, h2, _⟩
    · exact .inl h
    · exact .inr ⟨j, h1, h2⟩
  · intro m hm hr
    obtain ⟨y, hy, _, hk⟩ := key (i + 1) m hm hr
    have := hpk.kid (i + 1) y hy i (by rw [hk]; simp)
    rw [hu] at this
    exact Option.some.inj this
  · intro j m hj hm hr
    rcases hcase with h | ⟨j', h1, h2, y', hy', hk'⟩
    · omega
    · obtain rfl : j = j' := by omega
      obtain ⟨y, hy, hp, hk⟩ := key j m hm hr
      rw [hy'] at hy
      obtain rfl := Option.some.inj hy
      rw [hk] at hk'
      have := List.mem_singleton.1 hk'
      omega
end Go.SL

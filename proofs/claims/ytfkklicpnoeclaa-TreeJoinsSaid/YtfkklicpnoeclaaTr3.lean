/-
  What is known of the tree of each node, and of trees that are joined. No program in sight.
-/
import Derived.Test.YtfkklicpnoeclaaTr2
import Derived.Test.YtfkklicpnoeclaaW23
namespace Go.SL
open Go

theorem whole_good {T : STree} (hT : Good T) : ∃ h, Whole T.ns T h := by
  obtain ⟨h, hw⟩ := hT.walk1
  obtain ⟨S, e, hW⟩ := whole_of hw
  have : S = T := (List.cons.inj e).1.symm
  subst this
  exact ⟨h, hW⟩

theorem kindAt_last {T : STree} (h : 0 < T.ns.length) : kindAt T.ns (T.ns.length - 1) = T.kind := by
  rw [STree.kind, List.getLast?_eq_getElem?]
  rfl

theorem checkT_good {T : STree} {h : Hist} (hW : Whole T.ns T h) (hl : T.ns.length ≤ 256) (b : Bool) : checkT T.ns b = (if b = false ∧ T.kind = 3 then 4 else 0, visitsOf h) := by
  have h1 : walkT T.ns T.ns 0 [] [] = (0, visitsOf h) := by rw [walkT_walkF, hW.walk]
  unfold checkT
  rw [if_neg (by omega), if_neg (by have := hW.pos; omega), h1, if_neg (by simp), kindAt_last hW.pos]
  split <;> rfl

theorem lastD_visits {L : List Nd} {S : STree} {H : Hist} (hW : Whole L S H) : lastD (visitsOf H) = S.d := by
  obtain ⟨top, h1⟩ := hW.last
  have hl : (visitsOf H).length = L.length := by rw [visitsOf_length, hW.inv.len]
  rw [lastD, List.getLast?_eq_getElem?, hl, visitsOf_get, h1]
  rfl

theorem depthE_good {T : STree} (hT : Good T) (hl : T.ns.length ≤ 256) : depthE T.ns = if T.kind = 3 then (0, 4) else ((T.d : Int), 0) := by
  obtain ⟨h, hW⟩ := whole_good hT
  have h1 := checkT_good hW hl false
  unfold depthE checkE
  rw [h1, lastD_visits hW]
  by_cases h3 : T.kind = 3 <;> simp [h3]

theorem checkE_good {T : STree} (hT : Good T) (hl : T.ns.length ≤ 256) : checkE T.ns = if T.kind = 3 then 4 else 0 := by
  obtain ⟨h, hW⟩ := whole_good hT
  have h1 := checkT_good hW hl false
  unfold checkE
  rw [h1]
  by_cases h3 : T.kind = 3 <;> simp [h3]

theorem depthE_whole {L : List Nd} {S : STree} {H : Hist} (hW : Whole L S H) (hc : checkE L = 0) (ht : checkT L false = (0, visitsOf H)) : depthE L = ((S.d : Int), 0) := by
  unfold depthE
  rw [if_neg (by omega), ht, lastD_visits hW]

/-- A range alone. -/
theorem good_range {T : STree} (hT : Good T) (h3 : T.kind = 3) : ∃ n, T.ns = [n] ∧ n.kind = 3 ∧ fieldsE n = 0 := by
  cases hT with
  | mk n top hg hf hb hfit hd =>
    rw [nodeF_kind] at h3
    have : below n = 0 := by simp [below, h3]
    have ht : top = [] := List.eq_nil_of_length_eq_zero (by omega)
    subst ht
    exact ⟨n, rfl, h3, hf⟩

theorem checkT_part {T : STree} (hT : Good T) (hl : T.ns.length ≤ 256) : (checkT T.ns (decide ((T.ns.length : Int) = 1))).1 = 0 := by
  rw [checkT_alone]
  by_cases h3 : T.kind = 3
  · obtain ⟨n, e, hk, hf⟩ := good_range hT h3
    have : aloneT T.ns = true := by
      rw [e]
      simp [aloneT, hk, (fieldsE_ok hf).1]
    rw [this]
    rfl
  · rw [checkE_good hT hl, if_neg h3]
    split <;> rfl

theorem joinLoop_good : ∀ (ts : List STree) (out : List Nd), (∀ T ∈ ts, Good T) → out.length + (flatS ts).length ≤ 256 → joinLoop (ts.map STree.ns) out = (out ++ flatS ts, 0)
  | [], out, _, _ => by simp [joinLoop, flatS]
  | T :: r, out, hg, hl => by
    rw [flatS_cons, List.length_append] at hl
    rw [List.map_cons, joinLoop, checkT_part (hg T List.mem_cons_self) (by omega), if_neg (by simp), if_pos (by omega), joinLoop_good r _ (fun S hS => hg S (List.mem_cons_of_mem _ hS)) (by rw [List.length_append]; omega), flatS_cons, List.append_assoc]

/-- The tree of a node is what its parts come to when they are joined. -/
theorem joinE_good {n : Nd} {top : List STree} (hG : Good (nodeF n top)) (ht : ∀ T ∈ top, Good T) (hl : (nodeF n top).ns.length ≤ 256) (h3 : n.kind ≠ 3) : joinE n (top.map STree.ns) = ((nodeF n top).ns, 0) := by
  have h1 := joinLoop_good top [] ht (by rw [nodeF_len] at hl; simp; omega)
  rw [List.nil_append] at h1
  have h2 : flatS top ++ [n] = (nodeF n top).ns := rfl
  unfold joinE
  rw [h1]
  dsimp only
  rw [if_neg (by simp), h2, checkE_good hG hl, nodeF_kind, if_neg h3, if_neg (by simp)]

/-- The root number k below a node. -/
theorem roots_get {o : Nat} : ∀ {l : List STree} {k : Nat} (h : k < l.length), (rootsFrom o l)[k]? = some (o + (flatS (l.take k)).length + l[k].ns.length - 1)
  | [], k, h => by simp at h
  | S :: r, 0, _ => by simp [rootsFrom, flatS]
  | S :: r, k + 1, h => by
    have := roots_get (o := o + S.ns.length) (l := r) (k := k) (by simpa using h)
    simp only [rootsFrom, List.getElem?_cons_succ, this, List.take_succ_cons, flatS_cons, List.length_append, List.getElem_cons_succ]
    congr 1
    omega

theorem kid_tree {L : List Nd} {S : STree} {H : Hist} (hW : Whole L S H) {i : Nat} {x : List STree × STree} (hx : H[i]? = some x) {k : Nat} (hk : k < x.1.length) :
    ∃ top r, (kidsH i x)[k]? = some r ∧ H[r]? = some (top, x.1[k]) := by
  have h1 := roots_get (o := lo i x) hk
  have h2 : x.1 = x.1.take k ++ x.1[k] :: x.1.drop (k + 1) := by rw [← List.drop_eq_getElem_cons hk, List.take_append_drop]
  obtain ⟨top, h3⟩ := hW.rootOk.kid i x hx _ _ _ h2
  exact ⟨top, _, h1, h3⟩

theorem kids_last {L : List Nd} {S : STree} {H : Hist} (hW : Whole L S H) {i : Nat} {x : List STree × STree} (hx : H[i]? = some x) (hk : 0 < x.1.length) : (kidsH i x)[x.1.length - 1]? = some (i - 1) := by
  obtain ⟨m, _, e2, e3, _, e5, _⟩ := hW.inv.node i x hx
  have h1 := roots_get (o := lo i x) (l := x.1) (k := x.1.length - 1) (by omega)
  have h2 : x.2.ns.length = (flatS x.1).length + 1 := by rw [e2, nodeF_len]
  have h3 : (flatS x.1).length = (flatS (x.1.take (x.1.length - 1))).length + (x.1[x.1.length - 1]'(by omega)).ns.length := by
    conv => lhs; rw [← List.take_append_drop (x.1.length - 1) x.1, List.drop_eq_getElem_cons (by omega : x.1.length - 1 < x.1.length)]
    rw [flatS_append, flatS_cons, List.length_append, List.length_append, show x.1.length - 1 + 1 = x.1.length by omega, List.drop_length]
    simp [flatS]
  have h4 := (e3 _ (List.getElem_mem (by omega : x.1.length - 1 < x.1.length))).pos
  rw [kidsH, h1]
  simp only [lo] at h1 ⊢
  congr 1
  omega

/-! ### Who is below whom -/

def kidsL (H : Hist) (j : Nat) : List Nat := ((H[j]?).map (kidsH j)).getD []
/-- Is k directly below one of the first i nodes? -/
def ownB (H : Hist) (i k : Nat) : Bool := (List.range i).any fun j => (kidsL H j).contains k
theorem ownB_succ (H : Hist) (i k : Nat) : ownB H (i + 1) k = (ownB H i k || (kidsL H i).contains k) := by
  simp [ownB, List.range_succ]
theorem ownB_iff {H : Hist} {i k : Nat} : ownB H i k = true ↔ ∃ j y, j < i ∧ H[j]? = some y ∧ k ∈ kidsH j y := by
  simp only [ownB, List.any_eq_true, List.mem_range, List.contains_eq_mem, decide_eq_true_eq]
  constructor
  · rintro ⟨j, hj, hk⟩
    unfold kidsL at hk
    cases hy : H[j]? with
    | none => rw [hy] at hk; simp at hk
    | some y => rw [hy] at hk; exact ⟨j, y, hj, hy, by simpa using hk⟩
  · rintro ⟨j, y, hj, hy, hk⟩
    exact ⟨j, hj, by simpa [kidsL, hy] using hk⟩
theorem ownB_all {L : List Nd} {S : STree} {H : Hist} (hW : Whole L S H) {k : Nat} (hk : k < L.length) : ownB H L.length k = decide (k < L.length - 1) := by
  have hr : rootsFrom 0 [S] = [L.length - 1] := by simp [rootsFrom, hW.ns]
  rw [Bool.eq_iff_iff, ownB_iff, decide_eq_true_eq]
  constructor
  · rintro ⟨j, y, hj, hy, hkk⟩
    have h1 := hW.inv.apart j y hy k hkk
    rw [hr] at h1
    simp at h1
    omega
  · intro h
    rcases hW.inv.up k (by rw [hW.inv.len]; exact hk) with h1 | ⟨j, y, hy, h2⟩
    · rw [hr] at h1
      simp at h1
      omega
    · exact ⟨j, y, by rw [← hW.inv.len]; exact (List.getElem?_eq_some_iff.1 hy).1, hy, h2⟩

/-- A kid of node i is no kid of an earlier node, nor an earlier kid of node i. -/
theorem kid_new {L : List Nd} {S : STree} {H : Hist} (hW : Whole L S H) {i : Nat} {x : List STree × STree} (hx : H[i]? = some x) {c r : Nat} (hc : (kidsH i x)[c]? = some r) : ownB H i r = false ∧ r ∉ (kidsH i x).take c := by
  have hm := List.mem_of_getElem? hc
  constructor
  · cases hb : ownB H i r
    · rfl
    · obtain ⟨j, y, hj, hy, hk⟩ := ownB_iff.1 hb
      have := hW.inv.one i j x y hx hy r hm hk
      omega
  · intro h
    have hinc := (kidsH_rise hW hx).1
    obtain ⟨hlt, he⟩ := List.getElem?_eq_some_iff.1 hc
    obtain ⟨d, hd, hde⟩ := List.mem_take_iff_getElem.1 h
    have := List.pairwise_iff_getElem.1 hinc d c (by omega) hlt (by omega)
    omega
end Go.SL

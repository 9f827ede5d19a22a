/-
  Trees as the walk finds them: every node's tree, the trees below it, and where they lie. No program in sight.
-/
import Derived.Test.YtfkklicpnoeclaaMd
namespace Go.SL
open Go

/-! ### Trees on the stack -/

/-- A tree: its nodes, and its depth. -/
structure STree where
  ns : List Nd
  d : Nat

def STree.kind (S : STree) : Int := ((S.ns.getLast?).map Nd.kind).getD 0
def fit1 (n : Nd) (i : Int) (k : Int) : Bool := !(decide (k = 3) && !mayAt n i) && !(decide (n.kind = 7) && releasedF n.fn && decide (k ≠ 2) && decide (k ≠ 3))
def fitsF (n : Nd) : Int → List STree → Bool
  | _, [] => true
  | i, S :: r => fit1 n i S.kind && fitsF n (i + 1) r
def lastK (st : List STree) (k : Nat) : List STree := st.drop (st.length - k)
def depthF (top : List STree) : Nat := top.foldl (fun d S => max d (S.d + 1)) 1
def flatS (st : List STree) : List Nd := st.flatMap STree.ns

def nodeF (n : Nd) (top : List STree) : STree := ⟨flatS top ++ [n], depthF top⟩

def stepF (n : Nd) (st : List STree) : Int ⊕ (List STree × List STree) :=
  if fieldsE n ≠ 0 then .inl (fieldsE n)
  else if (st.length : Int) < below n ∨ fitsF n 0 (lastK st (below n).toNat) = false then .inl 4
  else if 32 < depthF (lastK st (below n).toNat) then .inl 9
  else .inr (st.take (st.length - (below n).toNat), lastK st (below n).toNat)

abbrev Hist := List (List STree × STree)
def walkF : List Nd → List STree → Hist → Int × List STree × Hist
  | [], st, h => (if st.length = 1 then 0 else 4, st, h)
  | n :: r, st, h => match stepF n st with
    | .inl e => (e, st, h)
    | .inr (lo, top) => walkF r (lo ++ [nodeF n top]) (h ++ [(top, nodeF n top)])

theorem flatS_append (a b : List STree) : flatS (a ++ b) = flatS a ++ flatS b := List.flatMap_append
theorem flatS_one (S : STree) : flatS [S] = S.ns := by simp [flatS]
theorem flatS_cons (S : STree) (r : List STree) : flatS (S :: r) = S.ns ++ flatS r := List.flatMap_cons

theorem nodeF_len (n : Nd) (top : List STree) : (nodeF n top).ns.length = (flatS top).length + 1 := by simp [nodeF]
theorem nodeF_kind (n : Nd) (top : List STree) : (nodeF n top).kind = n.kind := by simp [nodeF, STree.kind]

/-! ### Trees that are well made -/

inductive Good : STree → Prop
  | mk (n : Nd) (top : List STree) (hg : ∀ S ∈ top, Good S) (hf : fieldsE n = 0) (hb : (top.length : Int) = Go.SL.below n) (hfit : fitsF n 0 top = true) (hd : depthF top ≤ 32) : Good (nodeF n top)

theorem Good.pos {S : STree} (h : Good S) : 0 < S.ns.length := by
  cases h with
  | mk n top _ _ _ _ _ => rw [nodeF_len]; omega

theorem lastK_append (st top : List STree) : lastK (st ++ top) top.length = top := by
  unfold lastK
  rw [List.length_append, Nat.add_sub_cancel, List.drop_left]

/-- The walk over a well made tree puts it on the stack, and makes the same history wherever. -/
theorem Good.walk {S : STree} (h : Good S) : ∃ H : Hist, H.length = S.ns.length ∧ ∀ rest st h0, walkF (S.ns ++ rest) st h0 = walkF rest (st ++ [S]) (h0 ++ H) := by
  induction h with
  | mk n top hg hf hb hfit hd ih =>
    have forest : ∀ l : List STree, (∀ S ∈ l, ∃ H : Hist, H.length = S.ns.length ∧ ∀ rest st h0, walkF (S.ns ++ rest) st h0 = walkF rest (st ++ [S]) (h0 ++ H)) →
        ∃ H : Hist, H.length = (flatS l).length ∧ ∀ rest st h0, walkF (flatS l ++ rest) st h0 = walkF rest (st ++ l) (h0 ++ H) := by
      intro l
      induction l with
      | nil => intro _; exact ⟨[], by simp [flatS], fun rest st h0 => by simp [flatS]⟩
      | cons S r ihl =>
        intro hl
        obtain ⟨H1, e1, f1⟩ := hl S List.mem_cons_self
        obtain ⟨H2, e2, f2⟩ := ihl fun T hT => hl T (List.mem_cons_of_mem _ hT)
        refine ⟨H1 ++ H2, by simp [flatS_cons, e1, e2], fun rest st h0 => ?_⟩
        rw [flatS_cons, List.append_assoc, f1, f2, List.append_assoc, List.append_assoc, List.singleton_append]
    obtain ⟨H, e, f⟩ := forest top ih
    refine ⟨H ++ [(top, nodeF n top)], by simp [nodeF_len, e], fun rest st h0 => ?_⟩
    have e1 : (nodeF n top).ns = flatS top ++ [n] := rfl
    rw [e1, List.append_assoc, f, List.singleton_append, walkF]
    have e2 : (Go.SL.below n).toNat = top.length := by omega
    have e3 : (st ++ top).length - top.length = st.length := by simp
    have e4 : stepF n (st ++ top) = .inr (st, top) := by
      unfold stepF
      rw [if_neg (by simp [hf]), e2, lastK_append, if_neg, if_neg (by omega), e3, List.take_left]
      simp [hfit]
      omega
    rw [e4]
    simp

/-! ### Where trees lie -/

/-- The roots of trees that lie in a row from o on. -/
def rootsFrom : Nat → List STree → List Nat
  | _, [] => []
  | o, S :: r => (o + S.ns.length - 1) :: rootsFrom (o + S.ns.length) r

/-- Where the tree of node i begins. -/
def lo (i : Nat) (x : List STree × STree) : Nat := i + 1 - x.2.ns.length
/-- The roots directly below node i. -/
def kidsH (i : Nat) (x : List STree × STree) : List Nat := rootsFrom (lo i x) x.1

theorem rootsFrom_length (o : Nat) (l : List STree) : (rootsFrom o l).length = l.length := by
  induction l generalizing o with
  | nil => rfl
  | cons S r ih => simp [rootsFrom, ih]

theorem rootsFrom_append (o : Nat) (a b : List STree) : rootsFrom o (a ++ b) = rootsFrom o a ++ rootsFrom (o + (flatS a).length) b := by
  induction a generalizing o with
  | nil => simp [rootsFrom, flatS]
  | cons S r ih => simp [rootsFrom, ih, flatS_cons, Nat.add_assoc]

theorem mem_roots {o k : Nat} {l : List STree} (h : k ∈ rootsFrom o l) : ∃ a S b, l = a ++ S :: b ∧ k = o + (flatS a).length + S.ns.length - 1 := by
  induction l generalizing o with
  | nil => cases h
  | cons S r ih =>
    rcases List.mem_cons.1 h with rfl | h
    · exact ⟨[], S, r, rfl, by simp [flatS]⟩
    · obtain ⟨a, T, b, rfl, rfl⟩ := ih h
      exact ⟨S :: a, T, b, rfl, by simp [flatS_cons, Nat.add_assoc]⟩

theorem roots_of {o : Nat} {a b : List STree} {S : STree} : o + (flatS a).length + S.ns.length - 1 ∈ rootsFrom o (a ++ S :: b) := by
  rw [rootsFrom_append]
  exact List.mem_append_right _ List.mem_cons_self

theorem roots_lt {o k : Nat} {l : List STree} (hp : ∀ S ∈ l, 0 < S.ns.length) (h : k ∈ rootsFrom o l) : o ≤ k ∧ k < o + (flatS l).length := by
  obtain ⟨a, S, b, rfl, rfl⟩ := mem_roots h
  have := hp S (by simp)
  simp only [flatS_append, flatS_cons, List.length_append]
  omega

theorem roots_inc {o : Nat} {l : List STree} (hp : ∀ S ∈ l, 0 < S.ns.length) : (rootsFrom o l).Pairwise (· < ·) := by
  induction l generalizing o with
  | nil => exact List.Pairwise.nil
  | cons S r ih =>
    refine List.pairwise_cons.2 ⟨fun k hk => ?_, ih fun T hT => hp T (List.mem_cons_of_mem _ hT)⟩
    have h1 := hp S List.mem_cons_self
    have h2 := (roots_lt (fun T hT => hp T (List.mem_cons_of_mem _ hT)) hk).1
    omega

/-- The history and the stack after the nodes 'done'. -/
structure Inv (dn : List Nd) (st : List STree) (h : Hist) : Prop where
  flat : flatS st = dn
  good : ∀ S ∈ st, Good S
  len : h.length = dn.length
  node : ∀ i x, h[i]? = some x → ∃ n, dn[i]? = some n ∧ x.2 = nodeF n x.1 ∧ (∀ T ∈ x.1, Good T) ∧ Good x.2 ∧ x.2.ns.length ≤ i + 1 ∧ (dn.take (i + 1)).drop (lo i x) = x.2.ns
  deep : ∀ x ∈ h, ∃ S ∈ st, x.2.d ≤ S.d
  cut : ∀ a b, st = a ++ b → ∀ j x, h[j]? = some x → (flatS a).length ≤ j → (flatS a).length ≤ lo j x
  lam : ∀ i j x y, h[i]? = some x → h[j]? = some y → j ≤ i → lo i x ≤ j → lo i x ≤ lo j y
  mid : ∀ i j x y, h[i]? = some x → h[j]? = some y → ∀ k ∈ kidsH j y, k < i → i < j → k < lo i x
  up : ∀ k < h.length, k ∈ rootsFrom 0 st ∨ ∃ j y, h[j]? = some y ∧ k ∈ kidsH j y
  apart : ∀ j y, h[j]? = some y → ∀ k ∈ kidsH j y, k ∉ rootsFrom 0 st
  one : ∀ i j x y, h[i]? = some x → h[j]? = some y → ∀ k, k ∈ kidsH i x → k ∈ kidsH j y → i = j

theorem Inv.nil : Inv [] [] [] where
  flat := rfl
  good := fun _ h => by cases h
  len := rfl
  node := fun i x h => by simp at h
  deep := fun _ h => by cases h
  cut := fun a b _ j x h => by simp at h
  lam := fun i j x y h => by simp at h
  mid := fun i j x y h => by simp at h
  up := fun k h => by simp at h
  apart := fun j y h => by simp at h
  one := fun i j x y h => by simp at h

theorem depthF_ge (top : List STree) : ∀ S ∈ top, S.d + 1 ≤ depthF top := by
  have : ∀ (l : List STree) (d : Nat), d ≤ l.foldl (fun d S => max d (S.d + 1)) d ∧ ∀ S ∈ l, S.d + 1 ≤ l.foldl (fun d S => max d (S.d + 1)) d := by
    intro l
    induction l with
    | nil => intro d; exact ⟨Nat.le_refl _, fun _ h => by cases h⟩
    | cons T r ih =>
      intro d
      obtain ⟨h1, h2⟩ := ih (max d (T.d + 1))
      refine ⟨?_, fun S hS => ?_⟩
      · rw [List.foldl_cons]; omega
      · rw [List.foldl_cons]
        rcases List.mem_cons.1 hS with rfl | hS
        · omega
        · exact h2 S hS
  exact (this top 1).2

theorem snoc_get {α : Type} {l : List α} {a x : α} {i : Nat} (h : (l ++ [a])[i]? = some x) : (i < l.length ∧ l[i]? = some x) ∨ (i = l.length ∧ x = a) := by
  rcases Nat.lt_trichotomy i l.length with h1 | h1 | h1
  · rw [List.getElem?_append_left h1] at h
    exact .inl ⟨h1, h⟩
  · subst h1
    simp at h
    exact .inr ⟨rfl, h.symm⟩
  · rw [List.getElem?_eq_none (by simp; omega)] at h
    cases h

theorem Inv.step {dn : List Nd} {st : List STree} {h : Hist} (hI : Inv dn st h) {n : Nd} {l top : List STree} (hs : stepF n st = .inr (l, top)) :
    Inv (dn ++ [n]) (l ++ [nodeF n top]) (h ++ [(top, nodeF n top)]) ∧ st = l ++ top := by
  unfold stepF at hs
  split at hs
  · cases hs
  rename_i hf
  split at hs
  · cases hs
  rename_i hb
  split at hs
  · cases hs
  rename_i hd
  simp only [Sum.inr.injEq, Prod.mk.injEq] at hs
  obtain ⟨rfl, rfl⟩ := hs
  have hst : st.take (st.length - (below n).toNat) ++ lastK st (below n).toNat = st := List.take_append_drop _ _
  have hlk : (lastK st (below n).toNat).length = min st.length (below n).toNat := by simp [lastK]; omega
  generalize st.take (st.length - (below n).toNat) = l at hst ⊢
  generalize lastK st (below n).toNat = top at hst hb hd hlk ⊢
  subst hst
  have hb1 : (0 : Int) ≤ below n ∧ fitsF n 0 top = true ∧ below n ≤ ((l ++ top).length : Int) := by
    refine ⟨?_, ?_, ?_⟩
    · have hk : kindOk n = true := by
        cases hk : kindOk n
        · exfalso
          apply hf
          intro h0
          simp [fieldsE, hk] at h0
        · rfl
      unfold below
      by_cases h7 : n.kind = 7
      · simp [kindOk, h7] at hk
        simp [h7]; exact hk
      · (repeat' split) <;> omega
    · cases hh : fitsF n 0 top
      · exact absurd (Or.inr hh) hb
      · rfl
    · omega
  obtain ⟨hb0, hfit, hble⟩ := hb1
  have hbl : (top.length : Int) = below n := by omega
  have hgt : ∀ S ∈ top, Good S := fun S hS => hI.good S (List.mem_append_right _ hS)
  have hgl : ∀ S ∈ l, Good S := fun S hS => hI.good S (List.mem_append_left _ hS)
  have hG : Good (nodeF n top) := .mk n top hgt (by omega) hbl hfit (by omega)
  have hflat : flatS l ++ flatS top = dn := by rw [← flatS_append]; exact hI.flat
  have hlen : h.length = (flatS l).length + (flatS top).length := by rw [hI.len, ← hflat, List.length_append]
  have hlo : lo h.length (top, nodeF n top) = (flatS l).length := by simp only [lo, nodeF_len]; omega
  have hkids : kidsH h.length (top, nodeF n top) = rootsFrom (0 + (flatS l).length) top := by rw [kidsH, hlo, Nat.zero_add]
  have hroots : rootsFrom 0 (l ++ top) = rootsFrom 0 l ++ kidsH h.length (top, nodeF n top) := by rw [rootsFrom_append, hkids]
  have hroots' : rootsFrom 0 (l ++ [nodeF n top]) = rootsFrom 0 l ++ [h.length] := by
    rw [rootsFrom_append]
    simp only [rootsFrom, nodeF_len]
    congr 2
    omega
  have hposl : ∀ S ∈ l, 0 < S.ns.length := fun S hS => (hgl S hS).pos
  have hpost : ∀ S ∈ top, 0 < S.ns.length := fun S hS => (hgt S hS).pos
  have hkb : ∀ k ∈ kidsH h.length (top, nodeF n top), (flatS l).length ≤ k ∧ k < h.length := fun k hk => by
    rw [hkids] at hk
    have := roots_lt hpost hk
    omega
  have hkj : ∀ j y, h[j]? = some y → ∀ k ∈ kidsH j y, k < j := fun j y hy k hk => by
    obtain ⟨m, _, e2, e3, _, e5, _⟩ := hI.node j y hy
    have h1 := roots_lt (fun T hT => (e3 T hT).pos) hk
    have h2 : y.2.ns.length = (flatS y.1).length + 1 := by rw [e2, nodeF_len]
    simp only [lo] at h1
    omega
  refine ⟨⟨?_, ?_, ?_, ?_, ?_, ?_, ?_, ?_, ?_, ?_, ?_⟩, rfl⟩
  · rw [flatS_append, flatS_one]
    show flatS l ++ (flatS top ++ [n]) = dn ++ [n]
    rw [← List.append_assoc, hflat]
  · intro S hS
    rcases List.mem_append.1 hS with hS | hS
    · exact hgl S hS
    · rw [List.mem_singleton.1 hS]; exact hG
  · simp [hI.len]
  · intro i x hx
    rcases snoc_get hx with ⟨hi, hx⟩ | ⟨rfl, rfl⟩
    · obtain ⟨m, e1, e2, e3, e4, e5, e6⟩ := hI.node i x hx
      refine ⟨m, ?_, e2, e3, e4, e5, ?_⟩
      · rw [List.getElem?_append_left (by rw [← hI.len]; exact hi)]; exact e1
      · rw [List.take_append_of_le_length (by rw [← hI.len]; exact hi)]; exact e6
    · refine ⟨n, by rw [hI.len]; simp, rfl, hgt, hG, by simp only [nodeF_len]; omega, ?_⟩
      rw [hlo, hI.len, List.take_of_length_le (by simp), ← hflat, List.append_assoc, List.drop_left]
      rfl
  · intro x hx
    rcases List.mem_append.1 hx with hx | hx
    · obtain ⟨S, hS, hd1⟩ := hI.deep x hx
      rcases List.mem_append.1 hS with hS | hS
      · exact ⟨S, List.mem_append_left _ hS, hd1⟩
      · refine ⟨nodeF n top, List.mem_append_right _ (List.mem_singleton.2 rfl), ?_⟩
        have := depthF_ge top S hS
        simp only [nodeF]; omega
    · rw [List.mem_singleton.1 hx]
      exact ⟨nodeF n top, List.mem_append_right _ (List.mem_singleton.2 rfl), Nat.le_refl _⟩
  · intro a b hab j x hx hj
    -- the cut lies in l, or behind all
    rcases List.append_eq_append_iff.1 hab with ⟨c, hc1, hc2⟩ | ⟨c, hc1, hc2⟩
    · -- a = l ++ c, [node] = c ++ b
      cases c with
      | nil =>
        rw [List.append_nil] at hc1
        subst hc1
        rcases snoc_get hx with ⟨hi, hx⟩ | ⟨rfl, rfl⟩
        · exact hI.cut a top rfl j x hx hj
        · rw [hlo]; exact Nat.le_refl _
      | cons T c' =>
        have hT : T = nodeF n top ∧ c' ++ b = [] := by
          simp only [List.cons_append, List.cons.injEq] at hc2
          exact ⟨hc2.1.symm, hc2.2.symm⟩
        obtain ⟨rfl, hcb⟩ := hT
        have hc' : c' = [] := (List.append_eq_nil_iff.1 hcb).1
        subst hc'
        exfalso
        have hj' : j < h.length + 1 := by
          have := (List.getElem?_eq_some_iff.1 hx).1
          simpa using this
        rw [hc1, flatS_append, flatS_one, List.length_append, nodeF_len] at hj
        omega
    · -- l = a ++ c
      subst hc1
      rcases snoc_get hx with ⟨hi, hx⟩ | ⟨rfl, rfl⟩
      · exact hI.cut a (c ++ top) (by simp) j x hx hj
      · rw [hlo, flatS_append, List.length_append]; omega
  · intro i j x y hx hy hji hle
    rcases snoc_get hx with ⟨hi, hx⟩ | ⟨rfl, rfl⟩
    · rcases snoc_get hy with ⟨hj, hy⟩ | ⟨rfl, rfl⟩
      · exact hI.lam i j x y hx hy hji hle
      · omega
    · rcases snoc_get hy with ⟨hj, hy⟩ | ⟨rfl, rfl⟩
      · rw [hlo] at hle ⊢
        exact hI.cut l top rfl j y hy hle
      · exact Nat.le_refl _
  · intro i j x y hx hy k hk hki hij
    rcases snoc_get hy with ⟨hj, hy⟩ | ⟨rfl, rfl⟩
    · rcases snoc_get hx with ⟨hi, hx⟩ | ⟨rfl, rfl⟩
      · exact hI.mid i j x y hx hy k hk hki hij
      · omega
    · rcases snoc_get hx with ⟨hi, hx'⟩ | ⟨rfl, rfl⟩
      · rw [hkids] at hk
        obtain ⟨a, S, b, hab, rfl⟩ := mem_roots hk
        have hS := hpost S (by simp [hab])
        have := hI.cut (l ++ a ++ [S]) b (by simp [hab]) i x hx'
        simp only [flatS_append, flatS_one, List.length_append] at this
        omega
      · omega
  · intro k hk
    rw [List.length_append, List.length_singleton] at hk
    by_cases hkh : k = h.length
    · left; rw [hroots', hkh]; simp
    · rcases hI.up k (by omega) with h1 | ⟨j, y, h1, h2⟩
      · rw [hroots] at h1
        rcases List.mem_append.1 h1 with h1 | h1
        · left; rw [hroots']; exact List.mem_append_left _ h1
        · right
          exact ⟨h.length, (top, nodeF n top), by simp, h1⟩
      · right
        refine ⟨j, y, ?_, h2⟩
        rw [List.getElem?_append_left (List.getElem?_eq_some_iff.1 h1).1]; exact h1
  · intro j y hy k hk
    rw [hroots']
    intro hm
    rcases snoc_get hy with ⟨hj, hy⟩ | ⟨rfl, rfl⟩
    · rcases List.mem_append.1 hm with hm | hm
      · exact hI.apart j y hy k hk (by rw [hroots]; exact List.mem_append_left _ hm)
      · have h1 := List.mem_singleton.1 hm
        have h2 := hkj j y hy k hk
        omega
    · have h1 := hkb k hk
      rcases List.mem_append.1 hm with hm | hm
      · have := roots_lt hposl hm
        omega
      · have := List.mem_singleton.1 hm
        omega
  · intro i j x y hx hy k hkx hky
    rcases snoc_get hx with ⟨hi, hx⟩ | ⟨rfl, rfl⟩
    · rcases snoc_get hy with ⟨hj, hy⟩ | ⟨rfl, rfl⟩
      · exact hI.one i j x y hx hy k hkx hky
      · exfalso
        exact hI.apart i x hx k hkx (by rw [hroots]; exact List.mem_append_right _ hky)
    · rcases snoc_get hy with ⟨hj, hy⟩ | ⟨rfl, rfl⟩
      · exfalso
        exact hI.apart j y hy k hky (by rw [hroots]; exact List.mem_append_right _ hkx)
      · rfl

theorem walkF_inv : ∀ (r dn : List Nd) (st : List STree) (h : Hist) (st' : List STree) (h' : Hist), Inv dn st h → walkF r st h = (0, st', h') → Inv (dn ++ r) st' h' ∧ st'.length = 1
  | [], dn, st, h, st', h', hI, hw => by
    simp only [walkF, Prod.mk.injEq] at hw
    obtain ⟨h1, rfl, rfl⟩ := hw
    refine ⟨by simpa using hI, ?_⟩
    split at h1
    · assumption
    · cases h1
  | n :: r, dn, st, h, st', h', hI, hw => by
    rw [walkF] at hw
    cases hs : stepF n st with
    | inl e =>
      rw [hs] at hw
      simp only [Prod.mk.injEq] at hw
      obtain ⟨rfl, _⟩ := hw
      exfalso
      unfold stepF at hs
      split at hs
      · injection hs with hs
        exact absurd hs (by assumption)
      · split at hs
        · cases hs
        · split at hs <;> cases hs
    | inr x =>
      obtain ⟨l, top⟩ := x
      rw [hs] at hw
      have := walkF_inv r _ _ _ _ _ (hI.step hs).1 hw
      simpa using this

/-- A walk without an error: a well made tree, and its history. -/
theorem walk_good {L : List Nd} {st : List STree} {h : Hist} (hw : walkF L [] [] = (0, st, h)) : ∃ S, st = [S] ∧ S.ns = L ∧ Good S ∧ Inv L [S] h := by
  obtain ⟨hI, h1⟩ := walkF_inv L [] [] [] st h Inv.nil hw
  match st, h1 with
  | [S], _ =>
    rw [List.nil_append] at hI
    exact ⟨S, rfl, by rw [← hI.flat, flatS_one], hI.good S (by simp), hI⟩

theorem Good.walk1 {S : STree} (hS : Good S) : ∃ h, walkF S.ns [] [] = (0, [S], h) := by
  obtain ⟨H, _, f⟩ := hS.walk
  refine ⟨H, ?_⟩
  have := f [] [] []
  rw [List.append_nil] at this
  rw [this]
  simp [walkF]

/-! ### The walk of Md is this walk -/

def ptsFrom : Nat → List STree → List Pt
  | _, [] => []
  | o, S :: r => ⟨o + S.ns.length - 1, S.d, decide (S.kind = 3)⟩ :: ptsFrom (o + S.ns.length) r
theorem ptsFrom_length (o : Nat) (l : List STree) : (ptsFrom o l).length = l.length := by
  induction l generalizing o with
  | nil => rfl
  | cons S r ih => simp [ptsFrom, ih]
theorem ptsFrom_append (o : Nat) (a b : List STree) : ptsFrom o (a ++ b) = ptsFrom o a ++ ptsFrom (o + (flatS a).length) b := by
  induction a generalizing o with
  | nil => simp [ptsFrom, flatS]
  | cons S r ih => simp [ptsFrom, ih, flatS_cons, Nat.add_assoc]
theorem ptsFrom_drop (o : Nat) (l : List STree) (m : Nat) : (ptsFrom o l).drop m = ptsFrom (o + (flatS (l.take m)).length) (l.drop m) := by
  induction l generalizing o m with
  | nil => simp [ptsFrom]
  | cons S r ih => cases m with
    | zero => simp [flatS]
    | succ m => simp [ptsFrom, ih, flatS_cons, Nat.add_assoc]
theorem ptsFrom_take (o : Nat) (l : List STree) (m : Nat) : (ptsFrom o l).take m = ptsFrom o (l.take m) := by
  induction l generalizing o m with
  | nil => simp [ptsFrom]
  | cons S r ih => cases m with
    | zero => simp [ptsFrom]
    | succ m => simp [ptsFrom, ih]
theorem ptsFrom_roots (o : Nat) (l : List STree) : (ptsFrom o l).map Pt.root = rootsFrom o l := by
  induction l generalizing o with
  | nil => rfl
  | cons S r ih => simp [ptsFrom, rootsFrom, ih]
theorem ptsFrom_depth (o : Nat) (l : List STree) : depthOf (ptsFrom o l) = depthF l := by
  have : ∀ (l : List STree) (o d : Nat), (ptsFrom o l).foldl (fun d p => max d (p.depth + 1)) d = l.foldl (fun d S => max d (S.d + 1)) d := by
    intro l
    induction l with
    | nil => intro o d; rfl
    | cons S r ih => intro o d; rw [ptsFrom, List.foldl_cons, List.foldl_cons, ih]
  exact this l o 1

theorem kindAt_root {L : List Nd} {o : Nat} {a b : List STree} {S : STree} (hS : 0 < S.ns.length) (hL : (L.drop o).take (flatS (a ++ S :: b)).length = flatS (a ++ S :: b)) : kindAt L (o + (flatS a).length + S.ns.length - 1) = S.kind := by
  have h1 : (flatS (a ++ S :: b))[(flatS a).length + (S.ns.length - 1)]? = S.ns[S.ns.length - 1]? := by
    rw [flatS_append, List.getElem?_append_right (by omega), Nat.add_sub_cancel_left, flatS_cons, List.getElem?_append_left (by omega)]
  rw [← hL, List.getElem?_take] at h1
  rw [if_pos (by rw [flatS_append, flatS_cons]; simp; omega), List.getElem?_drop] at h1
  rw [kindAt, STree.kind, List.getLast?_eq_getElem?, ← h1]
  congr 3
  omega

theorem fits_pts {L : List Nd} (n : Nd) {o : Nat} : ∀ (b a : List STree) (i : Int), (∀ S ∈ b, 0 < S.ns.length) → (L.drop o).take (flatS (a ++ b)).length = flatS (a ++ b) → fitsFrom L n i (ptsFrom (o + (flatS a).length) b) = fitsF n i b
  | [], a, i, _, _ => rfl
  | S :: r, a, i, hp, hL => by
    have h1 := kindAt_root (hp S List.mem_cons_self) hL
    have h2 := fits_pts n r (a ++ [S]) (i + 1) (fun T hT => hp T (List.mem_cons_of_mem _ hT)) (by simpa using hL)
    rw [flatS_append, flatS_one, List.length_append, ← Nat.add_assoc] at h2
    rw [ptsFrom, fitsFrom, fitsF, h2]
    congr 1
    simp only [fitOne, fit1, h1]

def visitsOf (h : Hist) : List Visit := h.zipIdx.map fun x => (kidsH x.2 x.1, x.1.2.d)
theorem visitsOf_snoc (h : Hist) (x : List STree × STree) : visitsOf (h ++ [x]) = visitsOf h ++ [(kidsH h.length x, x.2.d)] := by
  simp [visitsOf, List.zipIdx_append]

theorem walkT_eq {L : List Nd} : ∀ (r dn : List Nd) (st : List STree) (h : Hist), dn ++ r = L → Inv dn st h → walkT L r dn.length (ptsFrom 0 st) (visitsOf h) = ((walkF r st h).1, visitsOf (walkF r st h).2.2)
  | [], dn, st, h, hL, hI => by simp [walkT, walkF, ptsFrom_length]
  | n :: r, dn, st, h, hL, hI => by
    have hlast : ∀ k, topOf (ptsFrom 0 st) k = ptsFrom (flatS (st.take (st.length - k))).length (lastK st k) := fun k => by
      unfold topOf lastK
      rw [ptsFrom_length, ptsFrom_drop, Nat.zero_add]
    have hfits : ∀ k, fitsFrom L n 0 (topOf (ptsFrom 0 st) k) = fitsF n 0 (lastK st k) := fun k => by
      rw [hlast]
      have := fits_pts (L := L) n (o := 0) (lastK st k) (st.take (st.length - k)) 0 (fun S hS => (hI.good S (List.mem_of_mem_drop hS)).pos) (by
        rw [show st.take (st.length - k) ++ lastK st k = st from List.take_append_drop _ _, hI.flat, List.drop_zero, ← hL, List.take_left])
      rwa [Nat.zero_add] at this
    have hdep : ∀ k, depthOf (topOf (ptsFrom 0 st) k) = depthF (lastK st k) := fun k => by rw [hlast, ptsFrom_depth]
    rw [walkT, walkF]
    have hs : stepT L n dn.length (ptsFrom 0 st) = match stepF n st with
      | .inl e => .inl e
      | .inr (l, top) => .inr (ptsFrom 0 (l ++ [nodeF n top]), kidsH h.length (top, nodeF n top), (nodeF n top).d) := by
      unfold stepT stepF
      rw [ptsFrom_length, hfits, hdep]
      by_cases c1 : fieldsE n ≠ 0
      · rw [if_pos c1, if_pos c1]
      rw [if_neg c1, if_neg c1]
      by_cases c2 : (st.length : Int) < below n ∨ fitsF n 0 (lastK st (below n).toNat) = false
      · rw [if_pos c2, if_pos c2]
      rw [if_neg c2, if_neg c2]
      by_cases c3 : 32 < depthF (lastK st (below n).toNat)
      · rw [if_pos c3, if_pos c3]
      rw [if_neg c3, if_neg c3]
      have hfl : flatS (st.take (st.length - (below n).toNat)) ++ flatS (lastK st (below n).toNat) = dn := by
        rw [← flatS_append, show st.take (st.length - (below n).toNat) ++ lastK st (below n).toNat = st from List.take_append_drop _ _]
        exact hI.flat
      have hlen : dn.length = (flatS (st.take (st.length - (below n).toNat))).length + (flatS (lastK st (below n).toNat)).length := by rw [← hfl, List.length_append]
      have e1 := ptsFrom_take 0 st (st.length - (below n).toNat)
      have e2 : (topOf (ptsFrom 0 st) (below n).toNat).map Pt.root = kidsH h.length (lastK st (below n).toNat, nodeF n (lastK st (below n).toNat)) := by
        rw [hlast, ptsFrom_roots, kidsH]
        congr 1
        simp only [lo, nodeF_len, hI.len]
        omega
      dsimp only
      rw [e1, e2, ptsFrom_append]
      simp only [ptsFrom, nodeF_len, nodeF_kind]
      congr 4
      have e3 : 0 + (flatS (st.take (st.length - (below n).toNat))).length + ((flatS (lastK st (below n).toNat)).length + 1) - 1 = dn.length := by omega
      rw [e3]
      rfl
    rw [hs]
    cases hsf : stepF n st with
    | inl e => rfl
    | inr x =>
      obtain ⟨l, top⟩ := x
      dsimp only
      have h1 := walkT_eq r (dn ++ [n]) (l ++ [nodeF n top]) (h ++ [(top, nodeF n top)]) (by simpa using hL) (hI.step hsf).1
      rw [visitsOf_snoc, List.length_append, List.length_singleton] at h1
      exact h1

/-- The walk of Md from its beginning. -/
theorem walkT_walkF (L : List Nd) : walkT L L 0 [] [] = ((walkF L [] []).1, visitsOf (walkF L [] []).2.2) := by
  have := walkT_eq (L := L) L [] [] [] rfl Inv.nil
  exact this
end Go.SL

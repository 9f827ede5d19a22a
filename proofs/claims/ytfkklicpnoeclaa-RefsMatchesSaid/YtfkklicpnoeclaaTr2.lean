/-
  What the history of a walk tells: parents, the nodes below a node, where a tree begins. No program in sight.
-/
import Derived.Test.YtfkklicpnoeclaaTr
import Derived.Test.YtfkklicpnoeclaaW8
namespace Go.SL
open Go

theorem walkF_ind (P : List STree → Hist → Prop) (hs : ∀ dn n st h l top, Inv dn st h → P st h → stepF n st = .inr (l, top) → P (l ++ [nodeF n top]) (h ++ [(top, nodeF n top)])) :
    ∀ (r dn : List Nd) (st : List STree) (h : Hist) (st' : List STree) (h' : Hist), Inv dn st h → P st h → walkF r st h = (0, st', h') → P st' h'
  | [], dn, st, h, st', h', hI, hP, hw => by
    simp only [walkF, Prod.mk.injEq] at hw
    obtain ⟨_, rfl, rfl⟩ := hw
    exact hP
  | n :: r, dn, st, h, st', h', hI, hP, hw => by
    rw [walkF] at hw
    cases hsf : stepF n st with
    | inl e =>
      rw [hsf] at hw
      simp only [Prod.mk.injEq] at hw
      obtain ⟨rfl, _⟩ := hw
      exfalso
      unfold stepF at hsf
      split at hsf
      · injection hsf with hs
        exact absurd hs (by assumption)
      · split at hsf
        · cases hsf
        · split at hsf <;> cases hsf
    | inr x =>
      obtain ⟨l, top⟩ := x
      rw [hsf] at hw
      exact walkF_ind P hs r _ _ _ _ _ (hI.step hsf).1 (hs _ _ _ _ _ _ hI hP hsf) hw

/-! ### The tree at a root -/

structure RootOk (st : List STree) (h : Hist) : Prop where
  root : ∀ a S b, st = a ++ S :: b → ∃ top, h[(flatS a).length + S.ns.length - 1]? = some (top, S)
  kid : ∀ j y, h[j]? = some y → ∀ a S b, y.1 = a ++ S :: b → ∃ top, h[lo j y + (flatS a).length + S.ns.length - 1]? = some (top, S)

theorem get_snoc {α : Type} {l : List α} {a x : α} {i : Nat} (h : l[i]? = some x) : (l ++ [a])[i]? = some x := by
  rw [List.getElem?_append_left (List.getElem?_eq_some_iff.1 h).1]; exact h

/-- What a step makes of the stack. -/
theorem Inv.facts {dn : List Nd} {st : List STree} {h : Hist} (hI : Inv dn st h) {n : Nd} {l top : List STree} (hs : stepF n st = .inr (l, top)) :
    st = l ++ top ∧ (flatS l).length + (flatS top).length = h.length ∧ lo h.length (top, nodeF n top) = (flatS l).length ∧ (∀ S ∈ l, 0 < S.ns.length) ∧ (∀ S ∈ top, 0 < S.ns.length) := by
  obtain ⟨hI', rfl⟩ := hI.step hs
  have h1 : (flatS l).length + (flatS top).length = h.length := by rw [hI.len, ← hI.flat, flatS_append, List.length_append]
  refine ⟨rfl, h1, by simp only [lo, nodeF_len]; omega, fun S hS => (hI.good S (List.mem_append_left _ hS)).pos, fun S hS => (hI.good S (List.mem_append_right _ hS)).pos⟩

theorem rootOk_step {dn : List Nd} {n : Nd} {st : List STree} {h : Hist} {l top : List STree} (hI : Inv dn st h) (hP : RootOk st h) (hs : stepF n st = .inr (l, top)) : RootOk (l ++ [nodeF n top]) (h ++ [(top, nodeF n top)]) := by
  obtain ⟨rfl, hlen, hlo, hl, ht⟩ := hI.facts hs
  refine ⟨fun a S b hab => ?_, fun j y hy a S b hab => ?_⟩
  · rcases List.append_eq_append_iff.1 hab with ⟨c, hc1, hc2⟩ | ⟨c, hc1, hc2⟩
    · cases c with
      | nil =>
        simp only [List.nil_append, List.cons.injEq] at hc2
        obtain ⟨rfl, _⟩ := hc2
        rw [List.append_nil] at hc1
        subst hc1
        refine ⟨top, ?_⟩
        rw [nodeF_len, show (flatS a).length + ((flatS top).length + 1) - 1 = h.length by omega]
        simp
      | cons T c' =>
        exfalso
        have := congrArg List.length hc2
        simp at this
    · subst hc1
      cases c with
      | nil =>
        simp only [List.nil_append, List.cons.injEq] at hc2
        obtain ⟨rfl, _⟩ := hc2
        refine ⟨top, ?_⟩
        rw [List.append_nil] at hlen
        rw [nodeF_len, show (flatS a).length + ((flatS top).length + 1) - 1 = h.length by omega]
        simp
      | cons T c' =>
        simp only [List.cons_append, List.cons.injEq] at hc2
        obtain ⟨rfl, _⟩ := hc2
        obtain ⟨t, h1⟩ := hP.root a S (c' ++ top) (by simp)
        exact ⟨t, get_snoc h1⟩
  · rcases snoc_get hy with ⟨hj, hy⟩ | ⟨rfl, rfl⟩
    · obtain ⟨t, h1⟩ := hP.kid j y hy a S b hab
      exact ⟨t, get_snoc h1⟩
    · dsimp only at hab
      subst hab
      obtain ⟨t, h1⟩ := hP.root (l ++ a) S b (by simp)
      refine ⟨t, get_snoc ?_⟩
      rw [hlo]
      rw [flatS_append, List.length_append] at h1
      exact h1

/-! ### Parents -/

def setAll (o : List Int) (ks : List Nat) (v : Int) : List Int := ks.foldl (fun o k => o.set k v) o
theorem setAll_length (o : List Int) (ks : List Nat) (v : Int) : (setAll o ks v).length = o.length := by
  unfold setAll
  induction ks generalizing o with
  | nil => rfl
  | cons k r ih => rw [List.foldl_cons, ih, List.length_set]
theorem setAll_get (o : List Int) (ks : List Nat) (v : Int) (k : Nat) (hk : k < o.length) : (setAll o ks v)[k]? = if k ∈ ks then some v else o[k]? := by
  unfold setAll
  induction ks generalizing o with
  | nil => simp
  | cons j r ih =>
    rw [List.foldl_cons, ih (o.set j v) (by simpa using hk), List.getElem?_set]
    by_cases h1 : k ∈ r
    · simp [h1]
    · by_cases h2 : j = k
      · subst h2; simp [hk]
      · simp [h1, h2]
        exact fun e => absurd e.symm h2

def parStep (o : List Int) (x : (List STree × STree) × Nat) : List Int := setAll (o ++ [-1]) (kidsH x.2 x.1) (x.2 : Int)
def parH (h : Hist) : List Int := h.zipIdx.foldl parStep []
theorem parH_snoc (h : Hist) (x : List STree × STree) : parH (h ++ [x]) = setAll (parH h ++ [-1]) (kidsH h.length x) (h.length : Int) := by
  simp [parH, List.zipIdx_append, parStep]

structure ParOk (st : List STree) (h : Hist) : Prop where
  len : (parH h).length = h.length
  kid : ∀ j y, h[j]? = some y → ∀ k ∈ kidsH j y, (parH h)[k]? = some (j : Int)
  root : ∀ k ∈ rootsFrom 0 st, (parH h)[k]? = some (-1)

theorem parOk_step {dn : List Nd} {n : Nd} {st : List STree} {h : Hist} {l top : List STree} (hI : Inv dn st h) (hP : ParOk st h) (hs : stepF n st = .inr (l, top)) : ParOk (l ++ [nodeF n top]) (h ++ [(top, nodeF n top)]) := by
  have hI' := (hI.step hs).1
  obtain ⟨rfl, hlen, hlo, hl, ht⟩ := hI.facts hs
  have hL : (parH h ++ [-1]).length = h.length + 1 := by simp [hP.len]
  have hkn : ∀ k ∈ kidsH h.length (top, nodeF n top), (flatS l).length ≤ k ∧ k < h.length := fun k hk => by
    rw [kidsH, hlo] at hk
    have := roots_lt ht hk
    omega
  have hkr : ∀ k, k ∈ kidsH h.length (top, nodeF n top) ↔ k ∈ rootsFrom (0 + (flatS l).length) top := fun k => by rw [kidsH, hlo, Nat.zero_add]
  refine ⟨by rw [parH_snoc, setAll_length, hL]; simp, fun j y hy k hk => ?_, fun k hk => ?_⟩
  · have hkj : k < (h ++ [(top, nodeF n top)]).length := by
      obtain ⟨m, _, e2, e3, _, e5, _⟩ := hI'.node j y hy
      have h1 := roots_lt (fun T hT => (e3 T hT).pos) hk
      have h2 : y.2.ns.length = (flatS y.1).length + 1 := by rw [e2, nodeF_len]
      have h3 := (List.getElem?_eq_some_iff.1 hy).1
      simp only [lo] at h1
      omega
    rw [parH_snoc, setAll_get _ _ _ _ (by rw [hL]; simpa using hkj)]
    rcases snoc_get hy with ⟨hj, hy'⟩ | ⟨rfl, rfl⟩
    · rw [if_neg]
      · have h1 := hP.kid j y hy' k hk
        rw [List.getElem?_append_left (List.getElem?_eq_some_iff.1 h1).1]
        exact h1
      · intro hm
        have := hI'.one j h.length y (top, nodeF n top) hy (by simp) k hk hm
        omega
    · rw [if_pos hk]
  · rw [rootsFrom_append] at hk
    rcases List.mem_append.1 hk with hk | hk
    · have h1 := roots_lt hl hk
      rw [parH_snoc, setAll_get _ _ _ _ (by rw [hL]; omega), if_neg]
      · have h2 := hP.root k (by rw [rootsFrom_append]; exact List.mem_append_left _ hk)
        rw [List.getElem?_append_left (List.getElem?_eq_some_iff.1 h2).1]
        exact h2
      · intro hm
        have := hkn k hm
        omega
    · simp only [rootsFrom, nodeF_len, List.mem_singleton] at hk
      have hkh : k = h.length := by omega
      subst hkh
      rw [parH_snoc, setAll_get _ _ _ _ (by rw [hL]; omega), if_neg]
      · rw [List.getElem?_append_right (by rw [hP.len]; exact Nat.le_refl _), hP.len]
        simp
      · intro hm
        have := hkn _ hm
        omega

/-! ### A tree that is checked -/

/-- All that the walk tells of a tree without an error. -/
structure Whole (L : List Nd) (S : STree) (h : Hist) : Prop where
  walk : walkF L [] [] = (0, [S], h)
  ns : S.ns = L
  good : Good S
  inv : Inv L [S] h
  rootOk : RootOk [S] h
  parOk : ParOk [S] h
  pos : 0 < L.length
  last : ∃ top, h[L.length - 1]? = some (top, S)

theorem whole_of {L : List Nd} {st : List STree} {h : Hist} (hw : walkF L [] [] = (0, st, h)) : ∃ S, st = [S] ∧ Whole L S h := by
  obtain ⟨S, rfl, h1, h2, h3⟩ := walk_good hw
  have h4 := walkF_ind RootOk (fun dn n st h l top => rootOk_step) L [] [] [] _ _ Inv.nil ⟨fun a S b hab => (by simp at hab), fun j y hy => (by simp at hy)⟩ hw
  have h5 := walkF_ind ParOk (fun dn n st h l top => parOk_step) L [] [] [] _ _ Inv.nil ⟨rfl, fun j y hy => (by simp at hy), fun k hk => (by simp [rootsFrom] at hk)⟩ hw
  refine ⟨S, rfl, hw, h1, h2, h3, h4, h5, by rw [← h1]; exact h2.pos, ?_⟩
  obtain ⟨top, h6⟩ := h4.root [] S [] rfl
  rw [h1] at h6
  simp only [flatS, List.flatMap_nil, List.length_nil, Nat.zero_add] at h6
  exact ⟨top, h6⟩

theorem walkT_err {L r : List Nd} {i : Nat} {st : List Pt} {vs : List Visit} : (walkT L r i st vs).1 = 0 ∨ (walkT L r i st vs).1 ≠ 0 := by omega

/-- What Check says of a tree: the walk is whole, and the root is no range. -/
theorem check_whole {L : List Nd} (h : checkE L = 0) : L.length ≤ 256 ∧ ∃ S H, Whole L S H ∧ S.kind ≠ 3 ∧ checkT L false = (0, visitsOf H) := by
  have hsm : L.length ≤ 256 ∧ 0 < L.length ∧ (walkT L L 0 [] []).1 = 0 ∧ kindAt L (L.length - 1) ≠ 3 ∧ checkT L false = (0, (walkT L L 0 [] []).2) := by
    unfold checkE at h
    unfold checkT at h ⊢
    split at h
    · cases h
    rename_i h1
    split at h
    · cases h
    rename_i h2
    split at h
    · rename_i h3
      exact absurd h h3
    rename_i h3
    split at h
    · cases h
    rename_i h4
    rw [if_neg h1, if_neg h2, if_neg h3, if_neg h4]
    exact ⟨by omega, by omega, by omega, fun e => h4 ⟨rfl, e⟩, rfl⟩
  obtain ⟨h1, h2, h3, h4, h5⟩ := hsm
  rw [walkT_walkF] at h3 h5
  dsimp only at h3 h5
  have hw : walkF L [] [] = (0, (walkF L [] []).2.1, (walkF L [] []).2.2) := by rw [← h3]
  obtain ⟨S, e, hW⟩ := whole_of hw
  refine ⟨h1, S, _, hW, ?_, h5⟩
  rw [STree.kind, hW.ns, List.getLast?_eq_getElem?]
  exact h4

theorem visitsOf_get (h : Hist) (i : Nat) : (visitsOf h)[i]? = (h[i]?).map fun x => (kidsH i x, x.2.d) := by
  simp only [visitsOf, List.getElem?_map, List.getElem?_zipIdx]
  cases h[i]? <;> simp
theorem visitsOf_length (h : Hist) : (visitsOf h).length = h.length := by simp [visitsOf]

theorem kidsE_whole {L : List Nd} {H : Hist} (hc : checkE L = 0) (ht : checkT L false = (0, visitsOf H)) {i : Nat} {x : List STree × STree} (hx : H[i]? = some x) (hi : i < L.length) : kidsE L (i : Int) = (kidsH i x, 0) := by
  unfold kidsE
  rw [if_neg (by omega), if_neg (by omega), ht]
  simp only [kidsAt]
  rw [if_pos (by omega), Int.toNat_natCast, visitsOf_get, hx]
  rfl

/-! ### Two lists that rise, with the same members -/

theorem rise_ext : ∀ {a b : List Nat}, a.Pairwise (· < ·) → b.Pairwise (· < ·) → (∀ k, k ∈ a ↔ k ∈ b) → a = b
  | [], [], _, _, _ => rfl
  | [], y :: b, _, _, h => by have := (h y).2 List.mem_cons_self; cases this
  | x :: a, [], _, _, h => by have := (h x).1 List.mem_cons_self; cases this
  | x :: a, y :: b, ha, hb, h => by
    have ha' := List.pairwise_cons.1 ha
    have hb' := List.pairwise_cons.1 hb
    have hxy : x = y := by
      have h1 := (h x).1 List.mem_cons_self
      have h2 := (h y).2 List.mem_cons_self
      rcases List.mem_cons.1 h1 with h1 | h1
      · exact h1
      · rcases List.mem_cons.1 h2 with h2 | h2
        · exact h2.symm
        · have := ha'.1 y h2
          have := hb'.1 x h1
          omega
    subst hxy
    rw [rise_ext ha'.2 hb'.2 fun k => ?_]
    constructor
    · intro hk
      have h1 := (h k).1 (List.mem_cons_of_mem _ hk)
      rcases List.mem_cons.1 h1 with rfl | h1
      · have := ha'.1 _ hk; omega
      · exact h1
    · intro hk
      have h1 := (h k).2 (List.mem_cons_of_mem _ hk)
      rcases List.mem_cons.1 h1 with rfl | h1
      · have := hb'.1 _ hk; omega
      · exact h1

/-- The nodes directly below node i, by the parents. -/
def underL (P : List Int) (i : Nat) : List Nat := (List.range i).filter fun k => decide (P[k]? = some (i : Int))

theorem kidsH_rise {L : List Nd} {S : STree} {H : Hist} (hW : Whole L S H) {i : Nat} {x : List STree × STree} (hx : H[i]? = some x) : (kidsH i x).Pairwise (· < ·) ∧ ∀ k ∈ kidsH i x, lo i x ≤ k ∧ k < i := by
  obtain ⟨m, _, e2, e3, _, e5, _⟩ := hW.inv.node i x hx
  have hp : ∀ T ∈ x.1, 0 < T.ns.length := fun T hT => (e3 T hT).pos
  refine ⟨roots_inc hp, fun k hk => ?_⟩
  have h1 := roots_lt hp hk
  have h2 : x.2.ns.length = (flatS x.1).length + 1 := by rw [e2, nodeF_len]
  simp only [lo] at h1 ⊢
  omega

theorem under_eq {L : List Nd} {S : STree} {H : Hist} (hW : Whole L S H) {i : Nat} {x : List STree × STree} (hx : H[i]? = some x) : underL (parH H) i = kidsH i x := by
  obtain ⟨h1, h2⟩ := kidsH_rise hW hx
  refine rise_ext (List.Pairwise.filter _ List.pairwise_lt_range) h1 fun k => ?_
  simp only [underL, List.mem_filter, List.mem_range, decide_eq_true_eq]
  constructor
  · rintro ⟨hk, hp⟩
    have hkl : k < H.length := by have := (List.getElem?_eq_some_iff.1 hx).1; omega
    rcases hW.inv.up k hkl with hr | ⟨j, y, hy, hkj⟩
    · have := hW.parOk.root k hr
      rw [hp] at this
      injection this with this
      omega
    · have := hW.parOk.kid j y hy k hkj
      rw [hp] at this
      injection this with this
      have e : i = j := by omega
      subst e
      rw [hx] at hy
      injection hy with hy
      subst hy
      exact hkj
  · intro hk
    exact ⟨(h2 k hk).2, hW.parOk.kid i x hx k hk⟩

/-! ### Where the tree of a node begins -/

theorem lo_first {L : List Nd} {S : STree} {H : Hist} (hW : Whole L S H) {i : Nat} {x : List STree × STree} (hx : H[i]? = some x) :
    (x.1 = [] ∧ lo i x = i) ∨ ∃ T r top, x.1 = T :: r ∧ H[lo i x + T.ns.length - 1]? = some (top, T) ∧ lo (lo i x + T.ns.length - 1) (top, T) = lo i x ∧ (kidsH i x).head? = some (lo i x + T.ns.length - 1) := by
  obtain ⟨m, _, e2, e3, _, e5, _⟩ := hW.inv.node i x hx
  cases hc : x.1 with
  | nil =>
    left
    refine ⟨rfl, ?_⟩
    simp only [lo, e2, nodeF_len, hc, flatS, List.flatMap_nil, List.length_nil]
    omega
  | cons T r =>
    right
    obtain ⟨top, h1⟩ := hW.rootOk.kid i x hx [] T r (by simp [hc])
    simp only [flatS, List.flatMap_nil, List.length_nil, Nat.add_zero] at h1
    have hT := (e3 T (by simp [hc])).pos
    refine ⟨T, r, top, rfl, h1, ?_, by simp [kidsH, hc, rootsFrom]⟩
    have hle : lo i x + T.ns.length ≤ i + 1 := by
      have : x.2.ns.length = (flatS x.1).length + 1 := by rw [e2, nodeF_len]
      rw [hc, flatS_cons, List.length_append] at this
      simp only [lo]
      omega
    simp only [lo] at hle ⊢
    omega

theorem starts_get {N : Nat} : ∀ {L : List Nd} {S : STree} {H : Hist}, Whole L S H → H.length ≤ N → ∀ m, m ≤ H.length → ∀ i x, i < m → H[i]? = some x → (starts N ((visitsOf H).take m)).getD i 0 = lo i x := by
  intro L S H hW hN m
  induction m with
  | zero => intro _ i x hi; omega
  | succ m ih =>
    intro hm i x hi hx
    obtain ⟨y, hy⟩ : ∃ y, H[m]? = some y := ⟨_, List.getElem?_eq_getElem (by omega)⟩
    have hv : (visitsOf H)[m]? = some (kidsH m y, y.2.d) := by rw [visitsOf_get, hy]; rfl
    have hlt : m < (visitsOf H).length := by rw [visitsOf_length]; omega
    have hge : (visitsOf H)[m] = (kidsH m y, y.2.d) := by rw [List.getElem?_eq_getElem hlt] at hv; exact Option.some.inj hv
    have hl : ((visitsOf H).take m).length = m := by rw [List.length_take]; omega
    rw [List.take_succ_eq_append_getElem hlt, hge, starts_snoc, startStep, hl]
    by_cases e : i = m
    · subst e
      rw [hx] at hy
      injection hy with hy
      subst hy
      rw [List.getD_eq_getElem?_getD, List.getElem?_set_self (by rw [starts_length]; omega), Option.getD_some]
      rcases lo_first hW hx with ⟨h1, h2⟩ | ⟨T, r, top, h1, h2, h3, h4⟩
      · have : kidsH i x = [] := by simp [kidsH, h1, rootsFrom]
        rw [this, h2]
      · cases hk : kidsH i x with
        | nil => rw [hk] at h4; cases h4
        | cons k0 kr =>
          rw [hk] at h4
          simp only [List.head?_cons, Option.some.injEq] at h4
          subst h4
          have hki := ((kidsH_rise hW hx).2 (lo i x + T.ns.length - 1) (by rw [hk]; exact List.mem_cons_self)).2
          have := ih (by omega) _ _ hki h2
          dsimp only
          rw [this, h3]
    · rw [List.getD_eq_getElem?_getD, List.getElem?_set_ne (fun h => e h.symm), ← List.getD_eq_getElem?_getD]
      exact ih (by omega) i x (by omega) hx

/-- Sub at a node of a tree that is checked: the tree of the node. -/
theorem subE_whole {L : List Nd} {S : STree} {H : Hist} (hW : Whole L S H) (hc : checkE L = 0) (ht : checkT L false = (0, visitsOf H)) {i : Nat} {x : List STree × STree} (hx : H[i]? = some x) : subE L (i : Int) = (x.2.ns, 0) := by
  have hi : i < L.length := by rw [← hW.inv.len]; exact (List.getElem?_eq_some_iff.1 hx).1
  have hs := starts_get hW (N := L.length) (by rw [hW.inv.len]; exact Nat.le_refl _) H.length (Nat.le_refl _) i x (by rw [hW.inv.len]; exact hi) hx
  rw [List.take_of_length_le (by rw [visitsOf_length]; exact Nat.le_refl _)] at hs
  obtain ⟨m, _, e2, e3, _, e5, e6⟩ := hW.inv.node i x hx
  unfold subE
  rw [if_neg (by omega), if_neg (by omega), ht, Int.toNat_natCast]
  simp only
  rw [hs, e6]

/-- A node k before node i: the next node up is within the tree of i exactly if k is. -/
theorem up_within {L : List Nd} {S : STree} {H : Hist} (hW : Whole L S H) {i k : Nat} {x : List STree × STree} (hx : H[i]? = some x) (hk : k < i) :
    ∃ u : Int, (parH H)[k]? = some u ∧ (u = -1 ∨ ∃ j : Nat, u = (j : Int) ∧ k < j ∧ j < L.length) ∧ (lo i x ≤ k ↔ ∃ j : Nat, u = (j : Int) ∧ lo i x ≤ j ∧ j ≤ i) := by
  have hkl : k < H.length := by have := (List.getElem?_eq_some_iff.1 hx).1; omega
  obtain ⟨m, _, e2, e3, _, e5, _⟩ := hW.inv.node i x hx
  rcases hW.inv.up k hkl with hr | ⟨j, y, hy, hkj⟩
  · -- the root of all: it stands last
    exfalso
    have hlen := hW.inv.len
    simp only [rootsFrom, List.mem_singleton, hW.ns] at hr
    have := (List.getElem?_eq_some_iff.1 hx).1
    omega
  · have hj := (List.getElem?_eq_some_iff.1 hy).1
    have hkj' := (kidsH_rise hW hy).2 k hkj
    refine ⟨(j : Int), hW.parOk.kid j y hy k hkj, .inr ⟨j, rfl, hkj'.2, by rw [← hW.inv.len]; exact hj⟩, fun h1 => ⟨j, rfl, by omega, ?_⟩, ?_⟩
    · -- were j beyond i, the tree of i would begin behind k
      rcases Nat.lt_or_ge i j with h2 | h2
      · have := hW.inv.mid i j x y hx hy k hkj hk h2
        omega
      · exact h2
    · rintro ⟨j', e, h1, h2⟩
      have e' : j' = j := by omega
      subst e'
      have := hW.inv.lam i j' x y hx hy h2 h1
      omega
end Go.SL

/-
  Lemmas and walks, put together: Tr Tr2 W18.
-/
import Derived.Test.YtpohljcebgacjaaGreatDoorKe24
set_option linter.unusedSimpArgs false
set_option linter.unusedVariables false
set_option maxRecDepth 20000
namespace Go.SL
open Go
structure STree where
 ns : List Nd
 d : Nat
def STree.kind (S : STree) : Int := ((S.ns.getLast?).map Nd.kind).getD 0
def fit1 (n : Nd) (i : Int) (k : Int) : Bool := !(decide (k = 3) && !mayAt n i) && !(decide (n.kind = 7) && releasedF n.fn && decide (k ≠ 2) && decide (k ≠ 3))
def fitsF (n : Nd) : Int → List STree → Bool
 | _, [] => true
 | i, S :: r => fit1 n i S.kind && fitsF n (i + 1) r
def lastK (st : List STree) (k : Nat) : List STree := st.drop (st.length - k)
def depthF (top : List STree) : Nat := top.foldl (fun d S => max d (S.d + 1)) 1
def flatS (st : List STree) : List Nd := st.flatMap STree.ns
def nodeF (n : Nd) (top : List STree) : STree := ⟨flatS top ++ [n], depthF top⟩
def stepF (n : Nd) (st : List STree) : Int ⊕ (List STree × List STree) :=
 if fieldsE n ≠ 0 then .inl (fieldsE n)
 else if (st.length : Int) < below n ∨ fitsF n 0 (lastK st (below n).toNat) = false then .inl 4
 else if 32 < depthF (lastK st (below n).toNat) then .inl 9
 else .inr (st.take (st.length - (below n).toNat), lastK st (below n).toNat)
abbrev Hist := List (List STree × STree)
def walkF : List Nd → List STree → Hist → Int × List STree × Hist
 | [], st, h => (if st.length = 1 then 0 else 4, st, h)
 | n :: r, st, h => match stepF n st with
  | .inl e => (e, st, h)
  | .inr (lo, top) => walkF r (lo ++ [nodeF n top]) (h ++ [(top, nodeF n top)])
theorem flatS_append (a b : List STree) : flatS (a ++ b) = flatS a ++ flatS b := List.flatMap_append
theorem flatS_one (S : STree) : flatS [S] = S.ns := by simp [flatS]
theorem flatS_cons (S : STree) (r : List STree) : flatS (S :: r) = S.ns ++ flatS r := List.flatMap_cons
theorem nodeF_len (n : Nd) (top : List STree) : (nodeF n top).ns.length = (flatS top).length + 1 := by simp [nodeF]
theorem nodeF_kind (n : Nd) (top : List STree) : (nodeF n top).kind = n.kind := by simp [nodeF, STree.kind]
inductive Good : STree → Prop
 | mk (n : Nd) (top : List STree) (hg : ∀ S ∈ top, Good S) (hf : fieldsE n = 0) (hb : (top.length : Int) = Go.SL.below n) (hfit : fitsF n 0 top = true) (hd : depthF top ≤ 32) : Good (nodeF n top)
theorem Good.pos {S : STree} (h : Good S) : 0 < S.ns.length := by
 cases h with
 | mk n top _ _ _ _ _ => rw [nodeF_len]; omega
def rootsFrom : Nat → List STree → List Nat
 | _, [] => []
 | o, S :: r => (o + S.ns.length - 1) :: rootsFrom (o + S.ns.length) r
def lo (i : Nat) (x : List STree × STree) : Nat := i + 1 - x.2.ns.length
def kidsH (i : Nat) (x : List STree × STree) : List Nat := rootsFrom (lo i x) x.1
theorem rootsFrom_length (o : Nat) (l : List STree) : (rootsFrom o l).length = l.length := by
 induction l generalizing o with
 | nil => rfl
 | cons S r ih => simp [rootsFrom, ih]
theorem rootsFrom_append (o : Nat) (a b : List STree) : rootsFrom o (a ++ b) = rootsFrom o a ++ rootsFrom (o + (flatS a).length) b := by
 induction a generalizing o with
 | nil => simp [rootsFrom, flatS]
 | cons S r ih => simp [rootsFrom, ih, flatS_cons, Nat.add_assoc]
theorem mem_roots {o k : Nat} {l : List STree} (h : k ∈ rootsFrom o l) : ∃ a S b, l = a ++ S :: b ∧ k = o + (flatS a).length + S.ns.length - 1 := by
 induction l generalizing o with
 | nil => cases h
 | cons S r ih =>
  rcases List.mem_cons.1 h with rfl | h
  ·
   exact ⟨[], S, r, rfl, by simp [flatS]⟩
  ·
   obtain ⟨a, T, b, rfl, rfl⟩ := ih h
   exact ⟨S :: a, T, b, rfl, by simp [flatS_cons, Nat.add_assoc]⟩
theorem roots_lt {o k : Nat} {l : List STree} (hp : ∀ S ∈ l, 0 < S.ns.length) (h : k ∈ rootsFrom o l) : o ≤ k ∧ k < o + (flatS l).length := by
 obtain ⟨a, S, b, rfl, rfl⟩ := mem_roots h
 have := hp S (by simp)
 simp only [flatS_append, flatS_cons, List.length_append]
 omega
structure Inv (dn : List Nd) (st : List STree) (h : Hist) : Prop where
 flat : flatS st = dn
 good : ∀ S ∈ st, Good S
 len : h.length = dn.length
 node : ∀ i x, h[i]? = some x → ∃ n, dn[i]? = some n ∧ x.2 = nodeF n x.1 ∧ (∀ T ∈ x.1, Good T) ∧ Good x.2 ∧ x.2.ns.length ≤ i + 1 ∧ (dn.take (i + 1)).drop (lo i x) = x.2.ns
 deep : ∀ x ∈ h, ∃ S ∈ st, x.2.d ≤ S.d
 cut : ∀ a b, st = a ++ b → ∀ j x, h[j]? = some x → (flatS a).length ≤ j → (flatS a).length ≤ lo j x
 lam : ∀ i j x y, h[i]? = some x → h[j]? = some y → j ≤ i → lo i x ≤ j → lo i x ≤ lo j y
 mid : ∀ i j x y, h[i]? = some x → h[j]? = some y → ∀ k ∈ kidsH j y, k < i → i < j → k < lo i x
 up : ∀ k < h.length, k ∈ rootsFrom 0 st ∨ ∃ j y, h[j]? = some y ∧ k ∈ kidsH j y
 apart : ∀ j y, h[j]? = some y → ∀ k ∈ kidsH j y, k ∉ rootsFrom 0 st
 one : ∀ i j x y, h[i]? = some x → h[j]? = some y → ∀ k, k ∈ kidsH i x → k ∈ kidsH j y → i = j
theorem Inv.nil : Inv [] [] [] := {
 flat := rfl
 good := fun _ h => by cases h
 len := rfl
 node := fun i x h => by simp at h
 deep := fun _ h => by cases h
 cut := fun a b _ j x h => by simp at h
 lam := fun i j x y h => by simp at h
 mid := fun i j x y h => by simp at h
 up := fun k h => by simp at h
 apart := fun j y h => by simp at h
 one := fun i j x y h => by simp at h }
theorem depthF_ge (top : List STree) : ∀ S ∈ top, S.d + 1 ≤ depthF top := by
 have : ∀ (l : List STree) (d : Nat), d ≤ l.foldl (fun d S => max d (S.d + 1)) d ∧ ∀ S ∈ l, S.d + 1 ≤ l.foldl (fun d S => max d (S.d + 1)) d := by
  intro l
  induction l with
  | nil => intro d; exact ⟨Nat.le_refl _, fun _ h => by cases h⟩
  | cons T r ih =>
   intro d
   obtain ⟨h1, h2⟩ := ih (max d (T.d + 1))
   refine ⟨?_, fun S hS => ?_⟩
   ·
    rw [List.foldl_cons]; omega
   ·
    rw [List.foldl_cons]
    rcases List.mem_cons.1 hS with rfl | hS
    ·
     omega
    ·
     exact h2 S hS
 exact (this top 1).2
theorem snoc_get {α : Type} {l : List α} {a x : α} {i : Nat} (h : (l ++ [a])[i]? = some x) : (i < l.length ∧ l[i]? = some x) ∨ (i = l.length ∧ x = a) := by
 rcases Nat.lt_trichotomy i l.length with h1 | h1 | h1
 ·
  rw [List.getElem?_append_left h1] at h
  exact .inl ⟨h1, h⟩
 ·
  subst h1
  simp at h
  exact .inr ⟨rfl, h.symm⟩
 ·
  rw [List.getElem?_eq_none (by simp; omega)] at h
  cases h
theorem Inv.step {dn : List Nd} {st : List STree} {h : Hist} (hI : Inv dn st h) {n : Nd} {l top : List STree} (hs : stepF n st = .inr (l, top)) :
  Inv (dn ++ [n]) (l ++ [nodeF n top]) (h ++ [(top, nodeF n top)]) ∧ st = l ++ top := by
 unfold stepF at hs
 split at hs
 ·
  cases hs
 rename_i hf
 split at hs
 ·
  cases hs
 rename_i hb
 split at hs
 ·
  cases hs
 rename_i hd
 simp only [Sum.inr.injEq, Prod.mk.injEq] at hs
 obtain ⟨rfl, rfl⟩ := hs
 have hst : st.take (st.length - (below n).toNat) ++ lastK st (below n).toNat = st := List.take_append_drop _ _
 have hlk : (lastK st (below n).toNat).length = min st.length (below n).toNat := by simp [lastK]; omega
 generalize st.take (st.length - (below n).toNat) = l at hst ⊢
 generalize lastK st (below n).toNat = top at hst hb hd hlk ⊢
 subst hst
 have hb1 : (0 : Int) ≤ below n ∧ fitsF n 0 top = true ∧ below n ≤ ((l ++ top).length : Int) := by
  refine ⟨?_, ?_, ?_⟩
  ·
   have hk : kindOk n = true := by
    cases hk : kindOk n
    ·
     exfalso
     apply hf
     intro h0
     simp [fieldsE, hk] at h0
    ·
     rfl
   unfold below
   by_cases h7 : n.kind = 7
   ·
    simp [kindOk, h7] at hk
    simp [h7]; exact hk
   ·
    (repeat' split) <;> omega
  ·
   cases hh : fitsF n 0 top
   ·
    exact absurd (Or.inr hh) hb
   ·
    rfl
  ·
   omega
 obtain ⟨hb0, hfit, hble⟩ := hb1
 have hbl : (top.length : Int) = below n := by omega
 have hgt : ∀ S ∈ top, Good S := fun S hS => hI.good S (List.mem_append_right _ hS)
 have hgl : ∀ S ∈ l, Good S := fun S hS => hI.good S (List.mem_append_left _ hS)
 have hG : Good (nodeF n top) := .mk n top hgt (by omega) hbl hfit (by omega)
 have hflat : flatS l ++ flatS top = dn := by rw [← flatS_append]; exact hI.flat
 have hlen : h.length = (flatS l).length + (flatS top).length := by rw [hI.len, ← hflat, List.length_append]
 have hlo : lo h.length (top, nodeF n top) = (flatS l).length := by simp only [lo, nodeF_len]; omega
 have hkids : kidsH h.length (top, nodeF n top) = rootsFrom (0 + (flatS l).length) top := by rw [kidsH, hlo, Nat.zero_add]
 have hroots : rootsFrom 0 (l ++ top) = rootsFrom 0 l ++ kidsH h.length (top, nodeF n top) := by rw [rootsFrom_append, hkids]
 have hroots' : rootsFrom 0 (l ++ [nodeF n top]) = rootsFrom 0 l ++ [h.length] := by
  rw [rootsFrom_append]
  simp only [rootsFrom, nodeF_len]
  congr 2
  omega
 have hposl : ∀ S ∈ l, 0 < S.ns.length := fun S hS => (hgl S hS).pos
 have hpost : ∀ S ∈ top, 0 < S.ns.length := fun S hS => (hgt S hS).pos
 have hkb : ∀ k ∈ kidsH h.length (top, nodeF n top), (flatS l).length ≤ k ∧ k < h.length := fun k hk => by
  rw [hkids] at hk
  have := roots_lt hpost hk
  omega
 have hkj : ∀ j y, h[j]? = some y → ∀ k ∈ kidsH j y, k < j := fun j y hy k hk => by
  obtain ⟨m, _, e2, e3, _, e5, _⟩ := hI.node j y hy
  have h1 := roots_lt (fun T hT => (e3 T hT).pos) hk
  have h2 : y.2.ns.length = (flatS y.1).length + 1 := by rw [e2, nodeF_len]
  simp only [lo] at h1
  omega
 refine ⟨⟨?_, ?_, ?_, ?_, ?_, ?_, ?_, ?_, ?_, ?_, ?_⟩, rfl⟩
 ·
  rw [flatS_append, flatS_one]
  show flatS l ++ (flatS top ++ [n]) = dn ++ [n]
  rw [← List.append_assoc, hflat]
 ·
  intro S hS
  rcases List.mem_append.1 hS with hS | hS
  ·
   exact hgl S hS
  ·
   rw [List.mem_singleton.1 hS]; exact hG
 ·
  simp [hI.len]
 ·
  intro i x hx
  rcases snoc_get hx with ⟨hi, hx⟩ | ⟨rfl, rfl⟩
  ·
   obtain ⟨m, e1, e2, e3, e4, e5, e6⟩ := hI.node i x hx
   refine ⟨m, ?_, e2, e3, e4, e5, ?_⟩
   ·
    rw [List.getElem?_append_left (by rw [← hI.len]; exact hi)]; exact e1
   ·
    rw [List.take_append_of_le_length (by rw [← hI.len]; exact hi)]; exact e6
  ·
   refine ⟨n, by rw [hI.len]; simp, rfl, hgt, hG, by simp only [nodeF_len]; omega, ?_⟩
   rw [hlo, hI.len, List.take_of_length_le (by simp), ← hflat, List.append_assoc, List.drop_left]
   rfl
 ·
  intro x hx
  rcases List.mem_append.1 hx with hx | hx
  ·
   obtain ⟨S, hS, hd1⟩ := hI.deep x hx
   rcases List.mem_append.1 hS with hS | hS
   ·
    exact ⟨S, List.mem_append_left _ hS, hd1⟩
   ·
    refine ⟨nodeF n top, List.mem_append_right _ (List.mem_singleton.2 rfl), ?_⟩
    have := depthF_ge top S hS
    simp only [nodeF]; omega
  ·
   rw [List.mem_singleton.1 hx]
   exact ⟨nodeF n top, List.mem_append_right _ (List.mem_singleton.2 rfl), Nat.le_refl _⟩
 ·
  intro a b hab j x hx hj
  -- the cut lies in l, or behind all
  rcases List.append_eq_append_iff.1 hab with ⟨c, hc1, hc2⟩ | ⟨c, hc1, hc2⟩
  ·
   -- a = l ++ c, [node] = c ++ b
   cases c with
   | nil =>
    rw [List.append_nil] at hc1
    subst hc1
    rcases snoc_get hx with ⟨hi, hx⟩ | ⟨rfl, rfl⟩
    ·
     exact hI.cut a top rfl j x hx hj
    ·
     rw [hlo]; exact Nat.le_refl _
   | cons T c' =>
    have hT : T = nodeF n top ∧ c' ++ b = [] := by
     simp only [List.cons_append, List.cons.injEq] at hc2
     exact ⟨hc2.1.symm, hc2.2.symm⟩
    obtain ⟨rfl, hcb⟩ := hT
    have hc' : c' = [] := (List.append_eq_nil_iff.1 hcb).1
    subst hc'
    exfalso
    have hj' : j < h.length + 1 := by
     have := (List.getElem?_eq_some_iff.1 hx).1
     simpa using this
    rw [hc1, flatS_append, flatS_one, List.length_append, nodeF_len] at hj
    omega
  ·
   -- l = a ++ c
   subst hc1
   rcases snoc_get hx with ⟨hi, hx⟩ | ⟨rfl, rfl⟩
   ·
    exact hI.cut a (c ++ top) (by simp) j x hx hj
   ·
    rw [hlo, flatS_append, List.length_append]; omega
 ·
  intro i j x y hx hy hji hle
  rcases snoc_get hx with ⟨hi, hx⟩ | ⟨rfl, rfl⟩
  ·
   rcases snoc_get hy with ⟨hj, hy⟩ | ⟨rfl, rfl⟩
   ·
    exact hI.lam i j x y hx hy hji hle
   ·
    omega
  ·
   rcases snoc_get hy with ⟨hj, hy⟩ | ⟨rfl, rfl⟩
   ·
    rw [hlo] at hle ⊢
    exact hI.cut l top rfl j y hy hle
   ·
    exact Nat.le_refl _
 ·
  intro i j x y hx hy k hk hki hij
  rcases snoc_get hy with ⟨hj, hy⟩ | ⟨rfl, rfl⟩
  ·
   rcases snoc_get hx with ⟨hi, hx⟩ | ⟨rfl, rfl⟩
   ·
    exact hI.mid i j x y hx hy k hk hki hij
   ·
    omega
  ·
   rcases snoc_get hx with ⟨hi, hx'⟩ | ⟨rfl, rfl⟩
   ·
    rw [hkids] at hk
    obtain ⟨a, S, b, hab, rfl⟩ := mem_roots hk
    have hS := hpost S (by simp [hab])
    have := hI.cut (l ++ a ++ [S]) b (by simp [hab]) i x hx'
    simp only [flatS_append, flatS_one, List.length_append] at this
    omega
   ·
    omega
 ·
  intro k hk
  rw [List.length_append, List.length_singleton] at hk
  by_cases hkh : k = h.length
  ·
   left; rw [hroots', hkh]; simp
  ·
   rcases hI.up k (by omega) with h1 | ⟨j, y, h1, h2⟩
   ·
    rw [hroots] at h1
    rcases List.mem_append.1 h1 with h1 | h1
    ·
     left; rw [hroots']; exact List.mem_append_left _ h1
    ·
     right
     exact ⟨h.length, (top, nodeF n top), by simp, h1⟩
   ·
    right
    refine ⟨j, y, ?_, h2⟩
    rw [List.getElem?_append_left (List.getElem?_eq_some_iff.1 h1).1]; exact h1
 ·
  intro j y hy k hk
  rw [hroots']
  intro hm
  rcases snoc_get hy with ⟨hj, hy⟩ | ⟨rfl, rfl⟩
  ·
   rcases List.mem_append.1 hm with hm | hm
   ·
    exact hI.apart j y hy k hk (by rw [hroots]; exact List.mem_append_left _ hm)
   ·
    have h1 := List.mem_singleton.1 hm
    have h2 := hkj j y hy k hk
    omega
  ·
   have h1 := hkb k hk
   rcases List.mem_append.1 hm with hm | hm
   ·
    have := roots_lt hposl hm
    omega
   ·
    have := List.mem_singleton.1 hm
    omega
 ·
  intro i j x y hx hy k hkx hky
  rcases snoc_get hx with ⟨hi, hx⟩ | ⟨rfl, rfl⟩
  ·
   rcases snoc_get hy with ⟨hj, hy⟩ | ⟨rfl, rfl⟩
   ·
    exact hI.one i j x y hx hy k hkx hky
   ·
    exfalso
    exact hI.apart i x hx k hkx (by rw [hroots]; exact List.mem_append_right _ hky)
  ·
   rcases snoc_get hy with ⟨hj, hy⟩ | ⟨rfl, rfl⟩
   ·
    exfalso
    exact hI.apart j y hy k hky (by rw [hroots]; exact List.mem_append_right _ hkx)
   ·
    rfl
theorem walkF_inv : ∀ (r dn : List Nd) (st : List STree) (h : Hist) (st' : List STree) (h' : Hist), Inv dn st h → walkF r st h = (0, st', h') → Inv (dn ++ r) st' h' ∧ st'.length = 1
 | [], dn, st, h, st', h', hI, hw => by
  simp only [walkF, Prod.mk.injEq] at hw
  obtain ⟨h1, rfl, rfl⟩ := hw
  refine ⟨by simpa using hI, ?_⟩
  split at h1
  ·
   assumption
  ·
   cases h1
 | n :: r, dn, st, h, st', h', hI, hw => by
  rw [walkF] at hw
  cases hs : stepF n st with
  | inl e =>
   rw [hs] at hw
   simp only [Prod.mk.injEq] at hw
   obtain ⟨rfl, _⟩ := hw
   exfalso
   unfold stepF at hs
   split at hs
   ·
    injection hs with hs
    exact absurd hs (by assumption)
   ·
    split at hs
    ·
     cases hs
    ·
     split at hs <;> cases hs
  | inr x =>
   obtain ⟨l, top⟩ := x
   rw [hs] at hw
   have := walkF_inv r _ _ _ _ _ (hI.step hs).1 hw
   simpa using this
theorem walk_good {L : List Nd} {st : List STree} {h : Hist} (hw : walkF L [] [] = (0, st, h)) : ∃ S, st = [S] ∧ S.ns = L ∧ Good S ∧ Inv L [S] h := by
 obtain ⟨hI, h1⟩ := walkF_inv L [] [] [] st h Inv.nil hw
 match st, h1 with
 | [S], _ =>
  rw [List.nil_append] at hI
  exact ⟨S, rfl, by rw [← hI.flat, flatS_one], hI.good S (by simp), hI⟩
def ptsFrom : Nat → List STree → List Pt
 | _, [] => []
 | o, S :: r => ⟨o + S.ns.length - 1, S.d, decide (S.kind = 3)⟩ :: ptsFrom (o + S.ns.length) r
theorem ptsFrom_length (o : Nat) (l : List STree) : (ptsFrom o l).length = l.length := by
 induction l generalizing o with
 | nil => rfl
 | cons S r ih => simp [ptsFrom, ih]
theorem ptsFrom_append (o : Nat) (a b : List STree) : ptsFrom o (a ++ b) = ptsFrom o a ++ ptsFrom (o + (flatS a).length) b := by
 induction a generalizing o with
 | nil => simp [ptsFrom, flatS]
 | cons S r ih => simp [ptsFrom, ih, flatS_cons, Nat.add_assoc]
theorem ptsFrom_drop (o : Nat) (l : List STree) (m : Nat) : (ptsFrom o l).drop m = ptsFrom (o + (flatS (l.take m)).length) (l.drop m) := by
 induction l generalizing o m with
 | nil => simp [ptsFrom]
 | cons S r ih => cases m with
  | zero => simp [flatS]
  | succ m => simp [ptsFrom, ih, flatS_cons, Nat.add_assoc]
theorem ptsFrom_take (o : Nat) (l : List STree) (m : Nat) : (ptsFrom o l).take m = ptsFrom o (l.take m) := by
 induction l generalizing o m with
 | nil => simp [ptsFrom]
 | cons S r ih => cases m with
  | zero => simp [ptsFrom]
  | succ m => simp [ptsFrom, ih]
theorem ptsFrom_roots (o : Nat) (l : List STree) : (ptsFrom o l).map Pt.root = rootsFrom o l := by
 induction l generalizing o with
 | nil => rfl
 | cons S r ih => simp [ptsFrom, rootsFrom, ih]
theorem ptsFrom_depth (o : Nat) (l : List STree) : depthOf (ptsFrom o l) = depthF l := by
 have : ∀ (l : List STree) (o d : Nat), (ptsFrom o l).foldl (fun d p => max d (p.depth + 1)) d = l.foldl (fun d S => max d (S.d + 1)) d := by
  intro l
  induction l with
  | nil => intro o d; rfl
  | cons S r ih => intro o d; rw [ptsFrom, List.foldl_cons, List.foldl_cons, ih]
 exact this l o 1
theorem kindAt_root {L : List Nd} {o : Nat} {a b : List STree} {S : STree} (hS : 0 < S.ns.length) (hL : (L.drop o).take (flatS (a ++ S :: b)).length = flatS (a ++ S :: b)) : kindAt L (o + (flatS a).length + S.ns.length - 1) = S.kind := by
 have h1 : (flatS (a ++ S :: b))[(flatS a).length + (S.ns.length - 1)]? = S.ns[S.ns.length - 1]? := by
  rw [flatS_append, List.getElem?_append_right (by omega), Nat.add_sub_cancel_left, flatS_cons, List.getElem?_append_left (by omega)]
 rw [← hL, List.getElem?_take] at h1
 rw [if_pos (by rw [flatS_append, flatS_cons]; simp; omega), List.getElem?_drop] at h1
 rw [kindAt, STree.kind, List.getLast?_eq_getElem?, ← h1]
 congr 3
 omega
theorem fits_pts {L : List Nd} (n : Nd) {o : Nat} : ∀ (b a : List STree) (i : Int), (∀ S ∈ b, 0 < S.ns.length) → (L.drop o).take (flatS (a ++ b)).length = flatS (a ++ b) → fitsFrom L n i (ptsFrom (o + (flatS a).length) b) = fitsF n i b
 | [], a, i, _, _ => rfl
 | S :: r, a, i, hp, hL => by
  have h1 := kindAt_root (hp S List.mem_cons_self) hL
  have h2 := fits_pts n r (a ++ [S]) (i + 1) (fun T hT => hp T (List.mem_cons_of_mem _ hT)) (by simpa using hL)
  rw [flatS_append, flatS_one, List.length_append, ← Nat.add_assoc] at h2
  rw [ptsFrom, fitsFrom, fitsF, h2]
  congr 1
  simp only [fitOne, fit1, h1]
def visitsOf (h : Hist) : List Visit := h.zipIdx.map fun x => (kidsH x.2 x.1, x.1.2.d)
theorem visitsOf_snoc (h : Hist) (x : List STree × STree) : visitsOf (h ++ [x]) = visitsOf h ++ [(kidsH h.length x, x.2.d)] := by
 simp [visitsOf, List.zipIdx_append]
theorem walkT_eq {L : List Nd} : ∀ (r dn : List Nd) (st : List STree) (h : Hist), dn ++ r = L → Inv dn st h → walkT L r dn.length (ptsFrom 0 st) (visitsOf h) = ((walkF r st h).1, visitsOf (walkF r st h).2.2)
 | [], dn, st, h, hL, hI => by simp [walkT, walkF, ptsFrom_length]
 | n :: r, dn, st, h, hL, hI => by
  have hlast : ∀ k, topOf (ptsFrom 0 st) k = ptsFrom (flatS (st.take (st.length - k))).length (lastK st k) := fun k => by
   unfold topOf lastK
   rw [ptsFrom_length, ptsFrom_drop, Nat.zero_add]
  have hfits : ∀ k, fitsFrom L n 0 (topOf (ptsFrom 0 st) k) = fitsF n 0 (lastK st k) := fun k => by
   rw [hlast]
   have := fits_pts (L := L) n (o := 0) (lastK st k) (st.take (st.length - k)) 0 (fun S hS => (hI.good S (List.mem_of_mem_drop hS)).pos) (by
    rw [show st.take (st.length - k) ++ lastK st k = st from List.take_append_drop _ _, hI.flat, List.drop_zero, ← hL, List.take_left])
   rwa [Nat.zero_add] at this
  have hdep : ∀ k, depthOf (topOf (ptsFrom 0 st) k) = depthF (lastK st k) := fun k => by rw [hlast, ptsFrom_depth]
  rw [walkT, walkF]
  have hs : stepT L n dn.length (ptsFrom 0 st) = match stepF n st with
   | .inl e => .inl e
   | .inr (l, top) => .inr (ptsFrom 0 (l ++ [nodeF n top]), kidsH h.length (top, nodeF n top), (nodeF n top).d) := by
   unfold stepT stepF
   rw [ptsFrom_length, hfits, hdep]
   by_cases c1 : fieldsE n ≠ 0
   ·
    rw [if_pos c1, if_pos c1]
   rw [if_neg c1, if_neg c1]
   by_cases c2 : (st.length : Int) < below n ∨ fitsF n 0 (lastK st (below n).toNat) = false
   ·
    rw [if_pos c2, if_pos c2]
   rw [if_neg c2, if_neg c2]
   by_cases c3 : 32 < depthF (lastK st (below n).toNat)
   ·
    rw [if_pos c3, if_pos c3]
   rw [if_neg c3, if_neg c3]
   have hfl : flatS (st.take (st.length - (below n).toNat)) ++ flatS (lastK st (below n).toNat) = dn := by
    rw [← flatS_append, show st.take (st.length - (below n).toNat) ++ lastK st (below n).toNat = st from List.take_append_drop _ _]
    exact hI.flat
   have hlen : dn.length = (flatS (st.take (st.length - (below n).toNat))).length + (flatS (lastK st (below n).toNat)).length := by rw [← hfl, List.length_append]
   have e1 := ptsFrom_take 0 st (st.length - (below n).toNat)
   have e2 : (topOf (ptsFrom 0 st) (below n).toNat).map Pt.root = kidsH h.length (lastK st (below n).toNat, nodeF n (lastK st (below n).toNat)) := by
    rw [hlast, ptsFrom_roots, kidsH]
    congr 1
    simp only [lo, nodeF_len, hI.len]
    omega
   dsimp only
   rw [e1, e2, ptsFrom_append]
   simp only [ptsFrom, nodeF_len, nodeF_kind]
   congr 4
   have e3 : 0 + (flatS (st.take (st.length - (below n).toNat))).length + ((flatS (lastK st (below n).toNat)).length + 1) - 1 = dn.length := by omega
   rw [e3]
   rfl
  rw [hs]
  cases hsf : stepF n st with
  | inl e => rfl
  | inr x =>
   obtain ⟨l, top⟩ := x
   dsimp only
   have h1 := walkT_eq r (dn ++ [n]) (l ++ [nodeF n top]) (h ++ [(top, nodeF n top)]) (by simpa using hL) (hI.step hsf).1
   rw [visitsOf_snoc, List.length_append, List.length_singleton] at h1
   exact h1
theorem walkT_walkF (L : List Nd) : walkT L L 0 [] [] = ((walkF L [] []).1, visitsOf (walkF L [] []).2.2) := by
 have := walkT_eq (L := L) L [] [] [] rfl Inv.nil
 exact this
theorem walkF_ind (P : List STree → Hist → Prop) (hs : ∀ dn n st h l top, Inv dn st h → P st h → stepF n st = .inr (l, top) → P (l ++ [nodeF n top]) (h ++ [(top, nodeF n top)])) :
  ∀ (r dn : List Nd) (st : List STree) (h : Hist) (st' : List STree) (h' : Hist), Inv dn st h → P st h → walkF r st h = (0, st', h') → P st' h'
 | [], dn, st, h, st', h', hI, hP, hw => by
  simp only [walkF, Prod.mk.injEq] at hw
  obtain ⟨_, rfl, rfl⟩ := hw
  exact hP
 | n :: r, dn, st, h, st', h', hI, hP, hw => by
  rw [walkF] at hw
  cases hsf : stepF n st with
  | inl e =>
   rw [hsf] at hw
   simp only [Prod.mk.injEq] at hw
   obtain ⟨rfl, _⟩ := hw
   exfalso
   unfold stepF at hsf
   split at hsf
   ·
    injection hsf with hs
    exact absurd hs (by assumption)
   ·
    split at hsf
    ·
     cases hsf
    ·
     split at hsf <;> cases hsf
  | inr x =>
   obtain ⟨l, top⟩ := x
   rw [hsf] at hw
   exact walkF_ind P hs r _ _ _ _ _ (hI.step hsf).1 (hs _ _ _ _ _ _ hI hP hsf) hw
structure RootOk (st : List STree) (h : Hist) : Prop where
 root : ∀ a S b, st = a ++ S :: b → ∃ top, h[(flatS a).length + S.ns.length - 1]? = some (top, S)
 kid : ∀ j y, h[j]? = some y → ∀ a S b, y.1 = a ++ S :: b → ∃ top, h[lo j y + (flatS a).length + S.ns.length - 1]? = some (top, S)
theorem get_snoc {α : Type} {l : List α} {a x : α} {i : Nat} (h : l[i]? = some x) : (l ++ [a])[i]? = some x := by
 rw [List.getElem?_append_left (List.getElem?_eq_some_iff.1 h).1]; exact h
theorem Inv.facts {dn : List Nd} {st : List STree} {h : Hist} (hI : Inv dn st h) {n : Nd} {l top : List STree} (hs : stepF n st = .inr (l, top)) :
  st = l ++ top ∧ (flatS l).length + (flatS top).length = h.length ∧ lo h.length (top, nodeF n top) = (flatS l).length ∧ (∀ S ∈ l, 0 < S.ns.length) ∧ (∀ S ∈ top, 0 < S.ns.length) := by
 obtain ⟨hI', rfl⟩ := hI.step hs
 have h1 : (flatS l).length + (flatS top).length = h.length := by rw [hI.len, ← hI.flat, flatS_append, List.length_append]
 refine ⟨rfl, h1, by simp only [lo, nodeF_len]; omega, fun S hS => (hI.good S (List.mem_append_left _ hS)).pos, fun S hS => (hI.good S (List.mem_append_right _ hS)).pos⟩
theorem rootOk_step {dn : List Nd} {n : Nd} {st : List STree} {h : Hist} {l top : List STree} (hI : Inv dn st h) (hP : RootOk st h) (hs : stepF n st = .inr (l, top)) : RootOk (l ++ [nodeF n top]) (h ++ [(top, nodeF n top)]) := by
 obtain ⟨rfl, hlen, hlo, hl, ht⟩ := hI.facts hs
 refine ⟨fun a S b hab => ?_, fun j y hy a S b hab => ?_⟩
 ·
  rcases List.append_eq_append_iff.1 hab with ⟨c, hc1, hc2⟩ | ⟨c, hc1, hc2⟩
  ·
   cases c with
   | nil =>
    simp only [List.nil_append, List.cons.injEq] at hc2
    obtain ⟨rfl, _⟩ := hc2
    rw [List.append_nil] at hc1
    subst hc1
    refine ⟨top, ?_⟩
    rw [nodeF_len, show (flatS a).length + ((flatS top).length + 1) - 1 = h.length by omega]
    simp
   | cons T c' =>
    exfalso
    have := congrArg List.length hc2
    simp at this
  ·
   subst hc1
   cases c with
   | nil =>
    simp only [List.nil_append, List.cons.injEq] at hc2
    obtain ⟨rfl, _⟩ := hc2
    refine ⟨top, ?_⟩
    rw [List.append_nil] at hlen
    rw [nodeF_len, show (flatS a).length + ((flatS top).length + 1) - 1 = h.length by omega]
    simp
   | cons T c' =>
    simp only [List.cons_append, List.cons.injEq] at hc2
    obtain ⟨rfl, _⟩ := hc2
    obtain ⟨t, h1⟩ := hP.root a S (c' ++ top) (by simp)
    exact ⟨t, get_snoc h1⟩
 ·
  rcases snoc_get hy with ⟨hj, hy⟩ | ⟨rfl, rfl⟩
  ·
   obtain ⟨t, h1⟩ := hP.kid j y hy a S b hab
   exact ⟨t, get_snoc h1⟩
  ·
   dsimp only at hab
   subst hab
   obtain ⟨t, h1⟩ := hP.root (l ++ a) S b (by simp)
   refine ⟨t, get_snoc ?_⟩
   rw [hlo]
   rw [flatS_append, List.length_append] at h1
   exact h1
def setAll (o : List Int) (ks : List Nat) (v : Int) : List Int := ks.foldl (fun o k => o.set k v) o
theorem setAll_length (o : List Int) (ks : List Nat) (v : Int) : (setAll o ks v).length = o.length := by
 unfold setAll
 induction ks generalizing o with
 | nil => rfl
 | cons k r ih => rw [List.foldl_cons, ih, List.length_set]
theorem setAll_get (o : List Int) (ks : List Nat) (v : Int) (k : Nat) (hk : k < o.length) : (setAll o ks v)[k]? = if k ∈ ks then some v else o[k]? := by
 unfold setAll
 induction ks generalizing o with
 | nil => simp
 | cons j r ih =>
  rw [List.foldl_cons, ih (o.set j v) (by simpa using hk), List.getElem?_set]
  by_cases h1 : k ∈ r
  ·
   simp [h1]
  ·
   by_cases h2 : j = k
   ·
    subst h2; simp [hk]
   ·
    simp [h1, h2]
    exact fun e => absurd e.symm h2
def parStep (o : List Int) (x : (List STree × STree) × Nat) : List Int := setAll (o ++ [-1]) (kidsH x.2 x.1) (x.2 : Int)
def parH (h : Hist) : List Int := h.zipIdx.foldl parStep []
theorem parH_snoc (h : Hist) (x : List STree × STree) : parH (h ++ [x]) = setAll (parH h ++ [-1]) (kidsH h.length x) (h.length : Int) := by
 simp [parH, List.zipIdx_append, parStep]
structure ParOk (st : List STree) (h : Hist) : Prop where
 len : (parH h).length = h.length
 kid : ∀ j y, h[j]? = some y → ∀ k ∈ kidsH j y, (parH h)[k]? = some (j : Int)
 root : ∀ k ∈ rootsFrom 0 st, (parH h)[k]? = some (-1)
theorem parOk_step {dn : List Nd} {n : Nd} {st : List STree} {h : Hist} {l top : List STree} (hI : Inv dn st h) (hP : ParOk st h) (hs : stepF n st = .inr (l, top)) : ParOk (l ++ [nodeF n top]) (h ++ [(top, nodeF n top)]) := by
 have hI' := (hI.step hs).1
 obtain ⟨rfl, hlen, hlo, hl, ht⟩ := hI.facts hs
 have hL : (parH h ++ [-1]).length = h.length + 1 := by simp [hP.len]
 have hkn : ∀ k ∈ kidsH h.length (top, nodeF n top), (flatS l).length ≤ k ∧ k < h.length := fun k hk => by
  rw [kidsH, hlo] at hk
  have := roots_lt ht hk
  omega
 have hkr : ∀ k, k ∈ kidsH h.length (top, nodeF n top) ↔ k ∈ rootsFrom (0 + (flatS l).length) top := fun k => by rw [kidsH, hlo, Nat.zero_add]
 refine ⟨by rw [parH_snoc, setAll_length, hL]; simp, fun j y hy k hk => ?_, fun k hk => ?_⟩
 ·
  have hkj : k < (h ++ [(top, nodeF n top)]).length := by
   obtain ⟨m, _, e2, e3, _, e5, _⟩ := hI'.node j y hy
   have h1 := roots_lt (fun T hT => (e3 T hT).pos) hk
   have h2 : y.2.ns.length = (flatS y.1).length + 1 := by rw [e2, nodeF_len]
   have h3 := (List.getElem?_eq_some_iff.1 hy).1
   simp only [lo] at h1
   omega
  rw [parH_snoc, setAll_get _ _ _ _ (by rw [hL]; simpa using hkj)]
  rcases snoc_get hy with ⟨hj, hy'⟩ | ⟨rfl, rfl⟩
  ·
   rw [if_neg]
   ·
    have h1 := hP.kid j y hy' k hk
    rw [List.getElem?_append_left (List.getElem?_eq_some_iff.1 h1).1]
    exact h1
   ·
    intro hm
    have := hI'.one j h.length y (top, nodeF n top) hy (by simp) k hk hm
    omega
  ·
   rw [if_pos hk]
 ·
  rw [rootsFrom_append] at hk
  rcases List.mem_append.1 hk with hk | hk
  ·
   have h1 := roots_lt hl hk
   rw [parH_snoc, setAll_get _ _ _ _ (by rw [hL]; omega), if_neg]
   ·
    have h2 := hP.root k (by rw [rootsFrom_append]; exact List.mem_append_left _ hk)
    rw [List.getElem?_append_left (List.getElem?_eq_some_iff.1 h2).1]
    exact h2
   ·
    intro hm
    have := hkn k hm
    omega
  ·
   simp only [rootsFrom, nodeF_len, List.mem_singleton] at hk
   have hkh : k = h.length := by omega
   subst hkh
   rw [parH_snoc, setAll_get _ _ _ _ (by rw [hL]; omega), if_neg]
   ·
    rw [List.getElem?_append_right (by rw [hP.len]; exact Nat.le_refl _), hP.len]
    simp
   ·
    intro hm
    have := hkn _ hm
    omega
structure Whole (L : List Nd) (S : STree) (h : Hist) : Prop where
 walk : walkF L [] [] = (0, [S], h)
 ns : S.ns = L
 good : Good S
 inv : Inv L [S] h
 rootOk : RootOk [S] h
 parOk : ParOk [S] h
 pos : 0 < L.length
 last : ∃ top, h[L.length - 1]? = some (top, S)
theorem whole_of {L : List Nd} {st : List STree} {h : Hist} (hw : walkF L [] [] = (0, st, h)) : ∃ S, st = [S] ∧ Whole L S h := by
 obtain ⟨S, rfl, h1, h2, h3⟩ := walk_good hw
 have h4 := walkF_ind RootOk (fun dn n st h l top => rootOk_step) L [] [] [] _ _ Inv.nil ⟨fun a S b hab => (by simp at hab), fun j y hy => (by simp at hy)⟩ hw
 have h5 := walkF_ind ParOk (fun dn n st h l top => parOk_step) L [] [] [] _ _ Inv.nil ⟨rfl, fun j y hy => (by simp at hy), fun k hk => (by simp [rootsFrom] at hk)⟩ hw
 refine ⟨S, rfl, hw, h1, h2, h3, h4, h5, by rw [← h1]; exact h2.pos, ?_⟩
 obtain ⟨top, h6⟩ := h4.root [] S [] rfl
 rw [h1] at h6
 simp only [flatS, List.flatMap_nil, List.length_nil, Nat.zero_add] at h6
 exact ⟨top, h6⟩
theorem check_whole {L : List Nd} (h : checkE L = 0) : L.length ≤ 256 ∧ ∃ S H, Whole L S H ∧ S.kind ≠ 3 ∧ checkT L false = (0, visitsOf H) := by
 have hsm : L.length ≤ 256 ∧ 0 < L.length ∧ (walkT L L 0 [] []).1 = 0 ∧ kindAt L (L.length - 1) ≠ 3 ∧ checkT L false = (0, (walkT L L 0 [] []).2) := by
  unfold checkE at h
  unfold checkT at h ⊢
  split at h
  ·
   cases h
  rename_i h1
  split at h
  ·
   cases h
  rename_i h2
  split at h
  ·
   rename_i h3
   exact absurd h h3
  rename_i h3
  split at h
  ·
   cases h
  rename_i h4
  rw [if_neg h1, if_neg h2, if_neg h3, if_neg h4]
  exact ⟨by omega, by omega, by omega, fun e => h4 ⟨rfl, e⟩, rfl⟩
 obtain ⟨h1, h2, h3, h4, h5⟩ := hsm
 rw [walkT_walkF] at h3 h5
 dsimp only at h3 h5
 have hw : walkF L [] [] = (0, (walkF L [] []).2.1, (walkF L [] []).2.2) := by rw [← h3]
 obtain ⟨S, e, hW⟩ := whole_of hw
 refine ⟨h1, S, _, hW, ?_, h5⟩
 rw [STree.kind, hW.ns, List.getLast?_eq_getElem?]
 exact h4
end Go.SL
namespace Go.SL
open Go Go.Proofs
attribute [local irreducible] W WL WQ WG WA VOp thn blk cutP retP FnAt FnIn
theorem stepT_err {L : List Nd} {n : Nd} {i : Nat} {st : List Pt} {e : Int} (h : stepT L n i st = .inl e) : e ≠ 0 := by
 unfold stepT at h
 split at h
 ·
  injection h with h; subst h; assumption
 ·
  split at h
  ·
   injection h with h; omega
  ·
   split at h
   ·
    injection h with h; omega
   ·
    cases h
theorem stepT_shape {L : List Nd} {n : Nd} {i : Nat} {st st' : List Pt} {ks : List Nat} {d : Nat} (h : stepT L n i st = .inr (st', ks, d)) : ∃ a, (∀ p ∈ a, p ∈ st) ∧ a.length ≤ st.length ∧ st' = a ++ [⟨i, d, decide (n.kind = 3)⟩] ∧ d ≤ 32 := by
 unfold stepT at h
 split at h
 ·
  cases h
 ·
  split at h
  ·
   cases h
  ·
   split at h
   ·
    cases h
   ·
    simp only [Sum.inr.injEq, Prod.mk.injEq] at h
    obtain ⟨rfl, rfl, rfl⟩ := h
    exact ⟨_, fun p hp => List.mem_of_mem_take hp, by simp, rfl, by omega⟩
theorem topsOk_step {L : List Nd} {i : Nat} (hi : i < L.length) {st st' : List Pt} {ks : List Nat} {d : Nat} (ho : TopsOk L i st) (h : stepT L L[i] i st = .inr (st', ks, d)) : TopsOk L (i + 1) st' := by
 obtain ⟨a, h1, h2, rfl, h3⟩ := stepT_shape h
 refine ⟨fun p hp => ?_, by have := ho.small; simp; omega⟩
 rcases List.mem_append.1 hp with hp | hp
 ·
  obtain ⟨q1, q2, q3⟩ := ho.ok p (h1 p hp)
  exact ⟨by omega, q2, q3⟩
 ·
  rw [List.mem_singleton.1 hp]
  exact ⟨Nat.lt_succ_self i, h3, by rw [kindAt_get hi]⟩
def judgeT (L : List Nd) : List Nd → Nat → List Pt → List Pt × Int
 | [], _, st => (st, 0)
 | n :: r, i, st => match stepT L n i st with
  | .inl e => ([], e)
  | .inr x => judgeT L r (i + 1) x.1
def lastP (st : List Pt) : Nat := (st.getLast?.map Pt.depth).getD 0
theorem judge_walk (L : List Nd) : ∀ (r : List Nd) (i : Nat) (st : List Pt) (vs : List Visit), lastD vs = lastP st →
  (walkT L r i st vs).1 = (if (judgeT L r i st).2 ≠ 0 then (judgeT L r i st).2 else if (judgeT L r i st).1.length = 1 then 0 else 4) ∧ ((judgeT L r i st).2 = 0 → lastD (walkT L r i st vs).2 = lastP (judgeT L r i st).1)
 | [], i, st, vs, h => by
  refine ⟨?_, fun _ => h⟩
  by_cases h1 : st.length = 1 <;> simp [walkT, judgeT, h1]
 | n :: r, i, st, vs, h => by
  rw [walkT, judgeT]
  cases hs : stepT L n i st with
  | inl e => have := stepT_err hs; simp [this]
  | inr x =>
   obtain ⟨st', ks, d⟩ := x
   obtain ⟨a, _, _, rfl, _⟩ := stepT_shape hs
   dsimp only
   exact judge_walk L r (i + 1) _ _ (by simp [lastD, lastP])
theorem refDepth_eq (L : List Nd) : depthE L = (if 256 < L.length then (0, 5) else if (judgeT L L 0 []).2 ≠ 0 then (0, (judgeT L L 0 []).2) else if (judgeT L L 0 []).1.length ≠ 1 ∨ kindAt L (L.length - 1) = 3 then (0, 4) else (((lastP (judgeT L L 0 []).1 : Nat) : Int), 0) : Int × Int) := by
 obtain ⟨h1, h2⟩ := judge_walk L L 0 [] [] rfl
 have h0 : L.length = 0 → (judgeT L L 0 []).2 = 0 ∧ (judgeT L L 0 []).1.length = 0 := fun c => by
  have : L = [] := List.eq_nil_of_length_eq_zero c
  subst this
  simp [judgeT]
 unfold depthE checkE checkT
 generalize walkT L L 0 [] [] = wk at h1 h2
 generalize judgeT L L 0 [] = j at h0 h1 h2
 generalize kindAt L (L.length - 1) = k
 obtain ⟨w1, w2⟩ := wk
 obtain ⟨j1, j2⟩ := j
 dsimp only at h0 h1 h2 ⊢
 by_cases c1 : 256 < L.length
 ·
  simp [c1]
 by_cases c2 : L.length = 0
 ·
  obtain ⟨a1, a2⟩ := h0 c2
  simp only [if_neg c1, if_pos c2]
  simp [a1, a2]
 simp only [if_neg c1, if_neg c2]
 clear c1 c2 h0
 by_cases c3 : j2 = 0
 ·
  have h2' := h2 c3
  by_cases c4 : j1.length = 1
  ·
   by_cases c5 : k = 3 <;> simp_all
  ·
   simp_all
 ·
  simp_all
theorem judge_at (L : List Nd) (hlen : L.length ≤ 256) (hwf : ∀ n ∈ L, wfN n) (tv : Value) (w : World) (ht : Reads w tv L.length (L.flatMap encN)) :
  FnAt Tryz.prog 219 [tv] w fun v H => ∃ A cap, v = .tuple #[sl A (judgeT L L 0 []).1.length cap, .int .i64 (judgeT L L 0 []).2] ∧ H = [.own A 276 2 (judgeT L L 0 []).1.length cap ((judgeT L L 0 []).1.flatMap encT)] := by
 have ht' := ht
 obtain ⟨At, ct, rfl, ht1, ht2, ht3⟩ := ht
 refine fn_at Tryz.func219 rfl Tryz.ntmps219 rfl ?_
 refine w_nilrow 276 2 ?_
 refine w_nilrow 276 2 ?_
 generalize hR : judgeT L L 0 [] = R
 repeat' (first | refine sT ?_ | refine sM fun _ => ?_ | (refine sC ?_ ?_ <;> intro hb <;> try omega) | fail)
 refine w_loopK [0] rfl (fun x : Nat × List Pt × Option Nat × Nat => [(4, sl x.2.2.1 x.2.1.length x.2.2.2), (5, .int .i64 (x.1 : Int))]) (fun x => [.own x.2.2.1 276 2 x.2.1.length x.2.2.2 (x.2.1.flatMap encT), .own none 276 2 0 0 []]) (fun x => x.1 ≤ L.length ∧ TopsOk L x.1 x.2.1 ∧ R = judgeT L (L.drop x.1) x.1 x.2.1) (fun x => L.length - x.1) (0, [], none, 0) ⟨by omega, ⟨fun p hp => by simp at hp, Nat.zero_le _⟩, hR.symm⟩ sB mS ?_
 rintro ⟨i, st, A, cap⟩ ⟨hi, hok, hrec⟩
 dsimp only at hi hok hrec ⊢
 by_cases hlt : i < L.length
 ·
  rw [List.drop_eq_getElem_cons hlt, judgeT] at hrec
  have hnode := fun (w' : World) (H : List Blk) (hm : Mem w w' H) (hr : Reads w' (sl A st.length cap) st.length (st.flatMap encT)) => refNode_at L i hlt hlen (hwf _ (List.getElem_mem hlt)) st hok _ _ w' (ht'.of_w0 hm) hr
  have hto := fun {st' ks d} => topsOk_step (st' := st') (ks := ks) (d := d) hlt hok
  unfold nodeR at hnode
  generalize hs : stepT L L[i] i st = s at hrec hnode hto
  cases s with
  | inl e =>
   have he := stepT_err hs
   dsimp only at hrec hnode
   subst hrec
   repeat' (first | ((with_reducible apply wl_call); exact rfl; exact rfl; (intro w' hm; exact hnode w' _ hm (Reads.of_own hm pK)); (rintro v H' ⟨A', cap', rfl, rfl⟩)) | refine sT ?_ | refine sM fun _ => ?_ | (refine sC ?_ ?_ <;> intro hb <;> try omega) | fail)
   ·
    exact ret2 (.inl rfl) Tryz.results219 rfl rfl (H' := [.own none 276 2 0 0 []]) mS ⟨none, 0, rfl, rfl⟩
  | inr x =>
   obtain ⟨st', ks, d⟩ := x
   dsimp only at hrec hnode
   repeat' (first | ((with_reducible apply wl_call); exact rfl; exact rfl; (intro w' hm; exact hnode w' _ hm (Reads.of_own hm pK)); (rintro v H' ⟨A', cap', rfl, rfl⟩)) | refine sT ?_ | refine sN ?_ | refine sM fun _ => ?_ | (refine sC ?_ ?_ <;> intro hb <;> try omega) | fail)
   refine ⟨(i + 1, st', A', cap'), ?_, (by first | omega | (dsimp only; omega)), sB, sB, mS⟩
   exact ⟨hlt, hto rfl, hrec⟩
 ·
  have e : i = L.length := by omega
  subst e
  rw [List.drop_length, judgeT] at hrec
  subst hrec
  repeat' (first | refine sT ?_ | refine sM fun _ => ?_ | (refine sC ?_ ?_ <;> intro hb <;> try omega) | fail)
  exact ret2 (.inl rfl) Tryz.results219 rfl rfl (H' := [.own A 276 2 st.length cap (st.flatMap encT)]) mS ⟨A, cap, rfl, rfl⟩
theorem lastP_one {st : List Pt} (h : st.length = 1) : ∃ p, st = [p] ∧ lastP st = p.depth := by
 match st, h with
 | [p], _ => exact ⟨p, rfl, rfl⟩
theorem refDepth_at (L : List Nd) (hwf : ∀ n ∈ L, wfN n) (tv : Value) (w : World) (ht : Reads w tv L.length (L.flatMap encN)) : Pure Tryz.prog 176 [tv] w (.tuple #[.int .i64 (depthE L).1, .int .i64 (depthE L).2]) := by
 have ht' := ht
 obtain ⟨At, ct, rfl, ht1, ht2, ht3⟩ := ht
 refine fn_at Tryz.func176 rfl Tryz.ntmps176 rfl ?_
 have hd := refDepth_eq L
 generalize hde : depthE L = de at hd
 by_cases h256 : 256 < L.length
 ·
  rw [if_pos h256] at hd
  subst hd
  repeat' (first | refine sT ?_ | refine sM fun _ => ?_ | (refine sC ?_ ?_ <;> intro hb <;> try omega) | fail)
  (refine rT2 ?_)
  rfl
 have hj := fun (w' : World) (H : List Blk) (hm : Mem w w' H) => judge_at L (by omega) hwf _ w' (ht'.of_w0 hm)
 rw [if_neg h256] at hd
 have h0 : L.length = 0 → (judgeT L L 0 []).1.length = 0 := fun c => by
  have : L = [] := List.eq_nil_of_length_eq_zero c
  subst this
  simp [judgeT]
 generalize judgeT L L 0 [] = j at hj hd h0
 obtain ⟨st, e⟩ := j
 dsimp only at hj hd h0
 by_cases he : e = 0
 ·
  rw [if_neg (by simp [he])] at hd
  by_cases hl : st.length = 1
  ·
   obtain ⟨p, rfl, hp⟩ := lastP_one hl
   obtain ⟨gt, ot, rfl, hrt⟩ := ht3 (by omega)
   have hrl := hrt.elem encN_len (L.length - 1) (by omega)
   have hk : kindAt L (L.length - 1) = (L[L.length - 1]'(by omega)).kind := kindAt_get _
   rw [hk, hp] at hd
   generalize (L[L.length - 1]'(by omega)) = nl at hrl hd
   subst he
   repeat' (first | ((with_reducible apply wl_call); exact rfl; exact rfl; (intro w' hm; exact hj w' _ hm); (rintro v H' ⟨A', cap', rfl, rfl⟩)) | refine sT ?_ | refine sN ?_ | refine sO ?_ | refine sM fun _ => ?_ | (refine sC ?_ ?_ <;> intro hb <;> try omega) | fail)
   ·
    rw [if_pos (.inr hb)] at hd
    subst hd
    (refine rT2 ?_)
    rfl
   ·
    rw [if_neg (by simp; omega)] at hd
    subst hd
    refine wl_some .hd (by simp) fun ga hA => ?_
    subst hA
    repeat' (first | ((with_reducible apply wl_v); exact rfl; (with_reducible apply v_indexAddr (j := 0)); exact rfl; exact rfl; exact Nat.one_pos) | ((with_reducible apply wl_v); exact rfl; (with_reducible apply v_load_own); exact rfl; exact pK; exact rfl) | refine sT ?_ | refine sM fun _ => ?_ | (refine sC ?_ ?_ <;> intro hb <;> try omega) | fail)
    (refine rT2 ?_)
    rfl
  ·
   rw [if_pos (.inl hl)] at hd
   subst hd he
   repeat' (first | ((with_reducible apply wl_call); exact rfl; exact rfl; (intro w' hm; exact hj w' _ hm); (rintro v H' ⟨A', cap', rfl, rfl⟩)) | refine sT ?_ | refine sN ?_ | refine sO ?_ | refine sM fun _ => ?_ | (refine sC ?_ ?_ <;> intro hb <;> try omega) | fail)
   (refine rT2 ?_)
   rfl
 ·
  rw [if_pos he] at hd
  subst hd
  repeat' (first | ((with_reducible apply wl_call); exact rfl; exact rfl; (intro w' hm; exact hj w' _ hm); (rintro v H' ⟨A', cap', rfl, rfl⟩)) | refine sT ?_ | refine sM fun _ => ?_ | (refine sC ?_ ?_ <;> intro hb <;> try omega) | fail)
  (refine rT2 ?_)
  rfl
theorem refCheck_at (L : List Nd) (hwf : ∀ n ∈ L, wfN n) (tv : Value) (w : World) (ht : Reads w tv L.length (L.flatMap encN)) : Pure Tryz.prog 123 [tv] w (.int .i64 (checkE L)) := by
 refine fn_at Tryz.func123 rfl Tryz.ntmps123 rfl ?_
 have hd : (depthE L).2 = checkE L := by
  unfold depthE
  split
  ·
   rfl
  ·
   rename_i h; simp at h; simp [h]
 repeat' (first | ((with_reducible apply wl_callp); exact rfl; exact rfl; (intro w' hm; exact refDepth_at L hwf tv w' (ht.of_w0 hm))) | refine sT ?_ | refine sM fun _ => ?_ | (refine sC ?_ ?_ <;> intro hb <;> try omega) | fail)
 (refine rT1 ?_)
 rw [hd]
end Go.SL

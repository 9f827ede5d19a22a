/-
  Drawn regions with two chains that make memory: both orders at each step; a cut behind a region.
-/
import Derived.Test.YtfkklicpnoeclaaSl9
namespace Go.SL
open Go Go.RowKit

section
variable {P : Program} {n : Fr} {w0 : World} {Q : Post} {s : Slots} {H : List Blk} {l : List Oper} {f : Nat} {L : Array Bool}

theorem wa_step {i : Nat} {o : Oper} (hi : l[i]? = some o) (h : WL P n w0 l.toArray [o] (thn (WA P n w0 l Q f (L.setIfInBounds i true)) Q) s H) (a : Act) (w : World) (hs : St n s a) (hm : Mem w0 w H) :
    wpOp P l.toArray (post n w0 Q) i (wpAny P .any l.toArray (post n w0 Q) f (L.setIfInBounds i true)) a w := by
  have h1 := h a w hs hm
  have hi' : l.toArray[i]? = some o := by simpa using hi
  unfold wpOp
  simp only [hi']
  unfold wpList at h1
  have hnext : ∀ a w, wpList P l.toArray (post n w0 (thn (WA P n w0 l Q f (L.setIfInBounds i true)) Q)) [] a w → wpAny P .any l.toArray (post n w0 Q) f (L.setIfInBounds i true) a w := by
    rintro a w ⟨s', H', h1, h2, h3⟩
    exact h3 a w h1 h2
  split
  · rename_i hw
    rw [if_pos hw] at h1
    refine h1.imp (fun h2 => upon_mono hnext (fun c a w h => h) (fun a w h => h) h2) fun ⟨h2, a0, w0, h3⟩ => ⟨h2, a0, w0, h3⟩
  · rename_i hw
    rw [if_neg hw] at h1
    exact hnext _ _ h1

/-- Two operations are ready: both may come first. -/
theorem wa_two {i j : Nat} {oi oj : Oper} (hi : l[i]? = some oi) (hj : l[j]? = some oj) (hr : Region.ready .any l.toArray L = [i, j]) (h1 : WL P n w0 l.toArray [oi] (thn (WA P n w0 l Q f (L.setIfInBounds i true)) Q) s H)
    (h2 : WL P n w0 l.toArray [oj] (thn (WA P n w0 l Q f (L.setIfInBounds j true)) Q) s H) : WA P n w0 l Q (f + 1) L s H := by
  intro a w hs hm
  refine ⟨fun h0 => (by rw [hr] at h0; cases h0), fun k hk => ?_⟩
  rw [hr] at hk
  rcases List.mem_cons.1 hk with e | hk
  · subst e
    exact wa_step hi h1 a w hs hm
  · have e : k = j := by simpa using hk
    subst e
    exact wa_step hj h2 a w hs hm

/-- Behind a piece of code: one shape of slots and blocks for all ways through it. -/
theorem w_cut {ι : Type} {c : Code} {K : Slots → List Blk → Prop} (sI : ι → Slots) (HI : ι → List Blk) (h : W P n w0 c (fun e s' H' => e = .normal ∧ ∃ i, Sub (sI i) s' ∧ MSub (HI i) H') s H) (k : ∀ i, K (sI i) (HI i))
    (hK : ∀ s1 s2 H1 H2, Sub s1 s2 → MSub H1 H2 → K s1 H1 → K s2 H2) : W P n w0 c (thn K Q) s H := by
  refine w_mono (fun e s' H' hq => ?_) h
  obtain ⟨rfl, i, h1, h2⟩ := hq
  exact thn_n (hK _ _ _ _ h1 h2 (k i))
end
end Go.SL

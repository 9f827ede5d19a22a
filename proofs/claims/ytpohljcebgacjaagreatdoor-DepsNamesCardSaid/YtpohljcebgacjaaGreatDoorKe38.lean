/-
  Lemmas and walks, put together: Sl29.
-/
import Derived.Test.YtpohljcebgacjaaGreatDoorKe11
set_option linter.unusedSimpArgs false
set_option linter.unusedVariables false
set_option maxRecDepth 20000
namespace Go.SL
open Go Go.RowKit
section
variable {P : Program} {ops : Array Oper} {es ps : List Nat} {C : World → Prop}
theorem AnyE_firsti {Q : Act → World → Prop} {i : Nat} {oi : Oper} (hi : ops[i]? = some oi) (hsel : ∀ (j : Nat) (o : Oper) cs b, ops[j]? = some o → o.op ≠ .select cs b)
  (hnb : ∀ x ∈ es, ∀ y, y ∈ es ∨ y ∈ ps → x ≠ y → (x = i ∨ y = i) → NotBoth ops x y) :
  ∀ (f : Nat) (L : Array Bool) (a : Act) (w : World), ClosedL ops L → C w →
   (∀ j oj, ops[j]? = some oj → j ≠ i → L.getD j true = false → (∀ e ∈ oj.after, Region.binds .any e = true → e.on ≠ i) → oi.apart ops oj = true) →
   i ∈ Region.ready .any ops L → EOp P ops es ps C (AnyE P ops es ps C Q f (L.setIfInBounds i true)) i oi a w → AnyE P ops es ps C Q (f + 1) L a w
 | 0, L, a, w, hcl, hC, _, hr, hy => ⟨hC, fun h => (by rw [h] at hr; cases hr), fun j hj => by
   by_cases hji : j = i
   ·
    subst hji; exact ⟨oi, hi, hy⟩
   ·
    exfalso
    have hne := ready_mono hj hji
    have hE : ∃ a' w', AnyE P ops es ps C Q 0 (L.setIfInBounds i true) a' w' := by
     cases hy with
     | pass _ hk => exact ⟨_, _, hk⟩
     | quiet _ _ _ _ _ hk => exact ⟨_, _, hk⟩
     | eff _ _ hk => obtain ⟨v, w', h⟩ := hk.ex; exact ⟨_, _, h⟩
    obtain ⟨a', w', _, h0, _⟩ := hE
    rw [h0] at hne
    cases hne⟩
 | f + 1, L, a, w, hcl, hC, hfree, hr, hy => ⟨hC, fun h => (by rw [h] at hr; cases hr), fun j hj => by
   by_cases hji : j = i
   ·
    subst hji; exact ⟨oi, hi, hy⟩
   ·
    have hj' := ready_mono hj hji
    obtain ⟨hjun, oj, hoj, hall⟩ := mem_ready.1 hj
    have hnot : ∀ e ∈ oj.after, Region.binds .any e = true → e.on ≠ i := fun e he hb heq => by
     have h1 := hall e he hb
     have h0 := (mem_ready.1 hr).1
     rw [heq] at h1
     rcases Nat.lt_or_ge i L.size with h' | h'
     ·
      simp [h'] at h0 h1; rw [h0] at h1; cases h1
     ·
      simp [Array.getElem?_eq_none h'] at h1
    have hap := hfree j oj hoj hji hjun hnot
    obtain ⟨h1, h2, h3⟩ := Oper.apart_spec hap
    have hsi := fun cs b => hsel i oi cs b hi
    have hsj := fun cs b => hsel j oj cs b hoj
    have hej : ∀ v, execOp (a.put oi.dst v).eval oj = execOp a.eval oj := fun v => execOp_put oj hsj a oi.dst v h1
    have hwj : ∀ v, Region.wanted oj (yielded ops (a.put oi.dst v).tmps) = Region.wanted oj (yielded ops a.tmps) := fun v => wanted_put oj a oi.dst v h1
    have hcomm : ∀ v u, (a.put oi.dst v).put oj.dst u = (a.put oj.dst u).put oi.dst v := fun v u => Act.put_comm a v u h2
    have hset : (L.setIfInBounds i true).setIfInBounds j true = (L.setIfInBounds j true).setIfInBounds i true := Array.setIfInBounds_comm _ _ (Ne.symm hji)
    have hfree' : ∀ k ok, ops[k]? = some ok → k ≠ i → (L.setIfInBounds j true).getD k true = false →
      (∀ e ∈ ok.after, Region.binds .any e = true → e.on ≠ i) → oi.apart ops ok = true := fun k ok hk hki hun hno => by
     refine hfree k ok hk hki ?_ hno
     by_cases hjk : j = k
     ·
      subst hjk; exact hjun
     ·
      rw [getD_set_ne true hjk] at hun; exact hun
    have ih := AnyE_firsti (Q := Q) hi hsel hnb f (L.setIfInBounds j true)
    have hcl' := hcl.set hj
    have hr' := ready_mono hr (Ne.symm hji)
    -- what comes of j behind an outcome of i
    have hJ : ∀ v w', AnyE P ops es ps C Q (f + 1) (L.setIfInBounds i true) (a.put oi.dst v) w' → EOp P ops es ps C (AnyE P ops es ps C Q f ((L.setIfInBounds j true).setIfInBounds i true)) j oj (a.put oi.dst v) w' := fun v w' h => by
     obtain ⟨o, ho, hE⟩ := h.2.2 j hj'
     have e : o = oj := Option.some.inj (ho.symm.trans hoj)
     subst e
     rw [hset] at hE
     exact hE
    refine ⟨oj, hoj, ?_⟩
    have hstill : (∃ v, AnyE P ops es ps C Q (f + 1) (L.setIfInBounds i true) (a.put oi.dst v) w ∧ ∀ (u : Value) (w2 : World) (K' : Act → World → Prop), C w2 → (i ∈ ps → w2 = w) → K' ((a.put oj.dst u).put oi.dst v) w2 → EOp P ops es ps C K' i oi (a.put oj.dst u) w2) ∨
      (Region.wanted oi (yielded ops a.tmps) = true ∧ i ∈ es ∧ NormUp P (fun v w' => AnyE P ops es ps C Q (f + 1) (L.setIfInBounds i true) (a.put oi.dst v) w') ((execOp a.eval oi).run P w)) := by
     cases hy with
     | pass hw hk => exact .inl ⟨undef, hk, fun u w2 K' _ _ hk' => .pass ((wanted_put oi a oj.dst u h3).trans hw) hk'⟩
     | quiet hw hies v hrun hst hk =>
      refine .inl ⟨v, hk, fun u w2 K' hC2 hps hk' => ?_⟩
      have he := execOp_put oi hsi a oj.dst u h3
      have hrun2 : (execOp a.eval oi).run P w2 = .ok (.value v) w2 := by
       rcases hst with h | h
       ·
        rw [hps h]; exact hrun
       ·
        exact h w2 hC2
      exact .quiet ((wanted_put oi a oj.dst u h3).trans hw) hies v (by rw [he]; exact hrun2) (by rw [he]; exact hst) hk'
     | eff hw hies hk => exact .inr ⟨hw, hies, hk⟩
    rcases hstill with ⟨v, hk, hS⟩ | ⟨hw, hies, hk⟩
    ·
     cases hJ v w hk with
     | pass hwj' hkj => exact .pass ((hwj v).symm.trans hwj') (ih _ w hcl' hC hfree' hr' (hS undef w _ hC (fun _ => rfl) (by rw [← hcomm]; exact hkj)))
     | quiet hwj' hjes u hrun hst hkj =>
      rw [hej] at hrun hst
      exact .quiet ((hwj v).symm.trans hwj') hjes u hrun hst (ih _ w hcl' hC hfree' hr' (hS u w _ hC (fun _ => rfl) (by rw [← hcomm]; exact hkj)))
     | eff hwj' hjes hkj =>
      rw [hej] at hkj
      exact .eff ((hwj v).symm.trans hwj') hjes (hkj.mono fun u w2 hk2 => ih _ w2 hcl' hk2.inC hfree' hr' (hS u w2 _ hk2.inC (fun hps => (hnb j hjes i (.inr hps) hji (.inr rfl) L hcl hj hr).elim) (by rw [← hcomm]; exact hk2)))
    ·
     obtain ⟨v0, w1, h0⟩ := hk.ex
     cases hJ v0 w1 h0 with
     | pass hwj' hkj =>
      have hwa := (hwj v0).symm.trans hwj'
      refine .pass hwa (ih _ w hcl' hC hfree' hr' (EOp.of_put hap hsi (.eff hw hies hk) fun v w' h => ?_))
      cases hJ v w' h with
      | pass _ h' => rw [← hcomm]; exact h'
      | quiet hw2 _ _ _ _ _ => rw [hwj, hwa] at hw2; cases hw2
      | eff hw2 _ _ => rw [hwj, hwa] at hw2; cases hw2
     | quiet hwj' hjes u hrun hst hkj =>
      have hwa := (hwj v0).symm.trans hwj'
      have hst2 : ∀ w1, C w1 → (execOp a.eval oj).run P w1 = .ok (.value u) w1 := by
       rcases hst with h | h
       ·
        exact (hnb i hies j (.inr h) (Ne.symm hji) (.inl rfl) L hcl hr hj).elim
       ·
        rw [hej] at h; exact h
      refine .quiet hwa hjes u (hst2 w hC) (.inr hst2) (ih _ w hcl' hC hfree' hr' (EOp.of_put hap hsi (.eff hw hies hk) fun v w' h => ?_))
      cases hJ v w' h with
      | pass hw2 _ => rw [hwj, hwa] at hw2; cases hw2
      | eff _ hjes2 _ => exact absurd hjes2 hjes
      | quiet _ _ u' hr2 hst' h' =>
       have hst3 : (execOp a.eval oj).run P w = .ok (.value u') w := by
        rcases hst' with h | h
        ·
         exact (hnb i hies j (.inr h) (Ne.symm hji) (.inl rfl) L hcl hr hj).elim
        ·
         have := h w hC
         rw [hej] at this; exact this
       rw [hst2 w hC] at hst3
       injection hst3 with h4
       injection h4 with h4
       subst h4
       rw [← hcomm]; exact h'
     | eff hwj' hjes hkj => exact (hnb i hies j (.inl hjes) (Ne.symm hji) (.inl rfl) L hcl hr hj).elim⟩
end
section
variable {P : Program} {n : Fr} {w0 : World} {Q : Post} {s : Slots} {H S : List Blk} {l : List Oper} {ty : TypeId} {p : String} {af : Array Edge} {es : List Nat} {gu : Option (Nat × Bool)} {f : Nat} {L : Array Bool}
def WE (P : Program) (n : Fr) (w0 : World) (l : List Oper) (S : List Blk) (es : List Nat) (Q : Post) (f : Nat) (L : Array Bool) (s : Slots) (H : List Blk) : Prop :=
 ∀ a w, St n s a → Mem w0 w H → Mem w0 w S → ClosedL l.toArray L → AnyE P l.toArray es [] (fun w => Mem w0 w S) (post n w0 Q .normal) f L a w
theorem w_drawE {id : Nat} (es : List Nat) (S : List Blk) (N : Nat) (hN : l.length = N) (hm : P.follows .mixedOrders = true) (hS : MSub S H)
  (h : WE P n w0 l S es Q N (Array.replicate N false) s H) : W P n w0 (.region id l.toArray true) Q s H := by
 intro a w hs hmem
 subst hN
 refine wp_region_any hm (wpAny_of_AnyE (es := es) (ps := []) (C := fun w => Mem w0 w S) (Q := post n w0 Q .normal) (fun _ _ h => h) _ _ _ _ ?_)
 have hcl : ClosedL l.toArray (Array.replicate l.length false) := fun i o _ hi => by
  rw [Array.getD_eq_getD_getElem?, Array.getElem?_replicate] at hi
  split at hi <;> cases hi
 have := h a _ hs hmem.drew (hS.use hmem.drew) hcl
 simpa using this
theorem we_done (hr : Region.ready .any l.toArray L = []) (h : Q .normal s H) : WE P n w0 l S es Q f L s H := by
 intro a w hs hm hS hcl
 cases f with
 | zero => exact ⟨hS, hr, s, H, hs, hm, h⟩
 | succ f => exact ⟨hS, fun _ => ⟨s, H, hs, hm, h⟩, fun i hi => by rw [hr] at hi; cases hi⟩
theorem we_v {i : Nat} {op : Op} {d : Nat} {v : Value} (hi : l[i]? = some ⟨some d, op, ty, p, af, gu⟩) (hn : Nat.blt d n.sz = true) (hg : gok l s gu = some true) (hk : es.contains i = false) (hsel : Region.noSelect l.toArray = true)
  (hr : (Region.ready .any l.toArray L).contains i = true) (hf : Region.free .any l.toArray L i = true) (hv : VOp P w0 s S op ty v) (h : WE P n w0 l S es Q f (L.setIfInBounds i true) ((d, v) :: s) H) : WE P n w0 l S es Q (f + 1) L s H := by
 intro a w hs hm hS hcl
 have hi' : l.toArray[i]? = some ⟨some d, op, ty, p, af, gu⟩ := by simpa using hi
 have hr' : i ∈ Region.ready .any l.toArray L := by simpa using hr
 have hk' : i ∉ es := by simpa using hk
 refine AnyE_firsti hi' (Region.noSelect_spec hsel) (fun x hx y hy _ hxy => ?_) f L a w hcl hS (Region.free_spec hi' hf) hr'
  (.quiet (gok_wanted rfl hg hs) hk' v (hv a.eval w (some d) p af gu hs.eval hS) (.inr fun w1 h1 => hv a.eval w1 (some d) p af gu hs.eval h1) (h _ _ (hs.put (Nat.blt_eq ▸ hn) v) hm hS (hcl.set hr')))
 rcases hxy with rfl | rfl
 ·
  exact (hk' hx).elim
 ·
  rcases hy with hy | hy
  ·
   exact (hk' hy).elim
  ·
   cases hy
theorem we_step {i : Nat} {op : Op} {dst : Option Tmp} (hi : l[i]? = some ⟨dst, op, ty, p, af, gu⟩) (hg : gok l s gu = some true) (hk : es.contains i = true) (hr : (Region.ready .any l.toArray L).contains i = true)
  (h : WL P n w0 #[] [⟨dst, op, ty, p, af, none⟩] (ceP S (WE P n w0 l S es Q f (L.setIfInBounds i true))) s H) (a : Act) (w : World) (hs : St n s a) (hm : Mem w0 w H) (hcl : ClosedL l.toArray L) :
  EOp P l.toArray es [] (fun w => Mem w0 w S) (AnyE P l.toArray es [] (fun w => Mem w0 w S) (post n w0 Q .normal) f (L.setIfInBounds i true)) i ⟨dst, op, ty, p, af, gu⟩ a w := by
 have hr' : i ∈ Region.ready .any l.toArray L := by simpa using hr
 refine .eff (gok_wanted rfl hg hs) (by simpa using hk) ?_
 have h1 := h a w hs hm
 unfold wpList at h1
 simp only [Region.wanted, if_true] at h1
 replace h1 := h1.elim id fun ⟨_, a0, w1, s', H'', _, _, he, _⟩ => by cases he
 have hexec : execOp a.eval ⟨dst, op, ty, p, af, gu⟩ = execOp a.eval ⟨dst, op, ty, p, af, none⟩ := rfl
 rw [hexec]
 have nxt : ∀ (a' : Act) (w' : World), wpList P #[] (post n w0 (ceP S (WE P n w0 l S es Q f (L.setIfInBounds i true)))) [] a' w' → AnyE P l.toArray es [] (fun w => Mem w0 w S) (post n w0 Q .normal) f (L.setIfInBounds i true) a' w' := by
  rintro a' w' ⟨s', H', hs', hm', _, hSub, hK⟩
  exact hK a' w' hs' hm' (hSub.use hm') (hcl.set hr')
 unfold Oper.wp at h1
 generalize (execOp a.eval ⟨dst, op, ty, p, af, none⟩).run P w = r at h1 ⊢
 cases r with
 | ok x w' =>
  cases x <;> simp only [Oper.upon] at h1 <;> simp only [NormUp]
  case value u => exact nxt _ _ h1
  case skip => exact nxt _ _ h1
  case defer dd =>
   obtain ⟨s', H'', hs', _⟩ := h1
   have h2 := congrArg List.length (hs'.defers.trans hs.defers.symm)
   cases dst <;> simp [Act.put] at h2
  case enter f args =>
   refine h1.mono fun e w'' he => ?_
   cases e with
   | returned v => exact ⟨v, rfl, nxt _ _ he⟩
   | panicked c =>
    obtain ⟨s', H'', _, _, he', _⟩ := he
    cases he'
   | outgrown =>
    obtain ⟨a0, w1, s', H'', _, _, he', _⟩ := he
    cases he'
  case row f args => exact Rows.mono h1 fun u w'' he => nxt _ _ he
 | halt x w' =>
  cases x <;> simp only [Oper.upon] at h1
  all_goals
   obtain ⟨s', H'', _, _, he', _⟩ := h1
   cases he'
theorem we_one {i : Nat} {op : Op} {dst : Option Tmp} (hi : l[i]? = some ⟨dst, op, ty, p, af, gu⟩) (hg : gok l s gu = some true) (hk : es.contains i = true) (hr : Region.ready .any l.toArray L = [i])
  (h : WL P n w0 #[] [⟨dst, op, ty, p, af, none⟩] (ceP S (WE P n w0 l S es Q f (L.setIfInBounds i true))) s H) : WE P n w0 l S es Q (f + 1) L s H := by
 intro a w hs hm hS hcl
 refine ⟨hS, fun h0 => (by rw [hr] at h0; cases h0), fun j hj => ?_⟩
 rw [hr] at hj
 have e : j = i := by simpa using hj
 subst e
 exact ⟨_, by simpa using hi, we_step hi hg hk (by rw [hr]; simp) h a w hs hm hcl⟩
theorem we_two {i j : Nat} {op op' : Op} {dst dst' : Option Tmp} {ty' : TypeId} {p' : String} {af' : Array Edge} {gu' : Option (Nat × Bool)} (hi : l[i]? = some ⟨dst, op, ty, p, af, gu⟩) (hj : l[j]? = some ⟨dst', op', ty', p', af', gu'⟩) (hg : gok l s gu = some true) (hg' : gok l s gu' = some true)
  (hk : es.contains i = true) (hk' : es.contains j = true) (hr : Region.ready .any l.toArray L = [i, j])
  (h : WL P n w0 #[] [⟨dst, op, ty, p, af, none⟩] (ceP S (WE P n w0 l S es Q f (L.setIfInBounds i true))) s H)
  (h' : WL P n w0 #[] [⟨dst', op', ty', p', af', none⟩] (ceP S (WE P n w0 l S es Q f (L.setIfInBounds j true))) s H) : WE P n w0 l S es Q (f + 1) L s H := by
 intro a w hs hm hS hcl
 refine ⟨hS, fun h0 => (by rw [hr] at h0; cases h0), fun k hk0 => ?_⟩
 rw [hr] at hk0
 rcases List.mem_cons.1 hk0 with e | hk0
 ·
  subst e
  exact ⟨_, by simpa using hi, we_step hi hg hk (by rw [hr]; simp) h a w hs hm hcl⟩
 ·
  have e : k = j := by simpa using hk0
  subst e
  exact ⟨_, by simpa using hj, we_step hj hg' hk' (by rw [hr]; simp) h' a w hs hm hcl⟩
end
end Go.SL

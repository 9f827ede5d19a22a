/-
  Regions that draw their order and write memory: what is owned is told by which operations have been carried out; every operation yields one value whenever its turn comes. One walk in the text's order then serves every order.
-/
import Derived.Test.YtfkklicpnoeclaaSl5
namespace Go.SL
open Go Go.RowKit

section
variable {P : Program} {ops : Array Oper} {md : Region.Mode} {C : Array Bool → World → Prop}

/-- What is asked of an operation's run: its value is v, and behind it the world is as D says. -/
def GivesUp (P : Program) (D : World → Prop) (v : Value) : Result Next → Prop
  | .ok (.value u) w' => u = v ∧ D w'
  | .ok .skip w' => v = undef ∧ D w'
  | .ok (.enter f args) w' => Calls P f args w' fun e w'' => e = .returned v ∧ D w''
  | _ => False

/-- Whenever operation i may come up, it yields v. -/
def Gives (P : Program) (md : Region.Mode) (ops : Array Oper) (C : Array Bool → World → Prop) (i : Nat) (o : Oper) (v : Value) (a : Act) : Prop :=
  (Region.wanted o (yielded ops a.tmps) = true ∧ ∀ L w, i ∈ Region.ready md ops L → C L w → GivesUp P (C (L.setIfInBounds i true)) v ((execOp a.eval o).run P w)) ∨
  (Region.wanted o (yielded ops a.tmps) = false ∧ v = undef ∧ ∀ L w, i ∈ Region.ready md ops L → C L w → C (L.setIfInBounds i true) w)

theorem Gives.of_same {i : Nat} {o : Oper} {v : Value} {a a' : Act} (hy : Gives P md ops C i o v a) (he : execOp a'.eval o = execOp a.eval o)
    (hw : Region.wanted o (yielded ops a'.tmps) = Region.wanted o (yielded ops a.tmps)) : Gives P md ops C i o v a' := by
  unfold Gives at *
  rw [he, hw]
  exact hy

def gOp (P : Program) (md : Region.Mode) (ops : Array Oper) (C : Array Bool → World → Prop) (i : Nat) (K : Act → Prop) (a : Act) : Prop :=
  ∃ o v, ops[i]? = some o ∧ Gives P md ops C i o v a ∧ K (a.put o.dst v)

def AnyG (P : Program) (md : Region.Mode) (ops : Array Oper) (C : Array Bool → World → Prop) (Q : Array Bool → Act → Prop) : Nat → Array Bool → Act → Prop
  | 0, L, a => Region.ready md ops L = [] ∧ Q L a
  | f + 1, L, a => (Region.ready md ops L = [] → Q L a) ∧ ∀ i ∈ Region.ready md ops L, gOp P md ops C i (AnyG P md ops C Q f (L.setIfInBounds i true)) a

theorem wpAny_of_AnyG {Q : Array Bool → Act → Prop} {Q' : Exit → Act → World → Prop} (hQ : ∀ L a w, Region.ready md ops L = [] → C L w → Q L a → Q' .normal a w) : ∀ (f : Nat) (L : Array Bool) (a : Act) (w : World), C L w →
    AnyG P md ops C Q f L a → wpAny P md ops Q' f L a w
  | 0, L, a, w, hC, h => ⟨h.1, hQ L a w h.1 hC h.2⟩
  | f + 1, L, a, w, hC, h => ⟨fun h0 => hQ L a w h0 hC (h.1 h0), fun i hi => by
      obtain ⟨o, v, ho, hg, hk⟩ := h.2 i hi
      unfold wpOp
      simp only [ho]
      rcases hg with ⟨hw, hg⟩ | ⟨hw, rfl, hg⟩
      · simp only [hw, if_true]
        refine .inl ?_
        have h1 := hg L w hi hC
        unfold Oper.wp
        generalize (execOp a.eval o).run P w = r at h1 ⊢
        cases r with
        | ok x w' =>
          cases x <;> simp only [GivesUp] at h1 <;> simp only [Oper.upon]
          case value u => obtain ⟨rfl, h2⟩ := h1; exact wpAny_of_AnyG hQ f _ _ _ h2 hk
          case skip => obtain ⟨rfl, h2⟩ := h1; exact wpAny_of_AnyG hQ f _ _ _ h2 hk
          case enter g args => exact h1.mono fun e w'' ⟨he, h2⟩ => by subst he; exact wpAny_of_AnyG hQ f _ _ _ h2 hk
        | halt x w' => simp only [GivesUp] at h1
      · simp only [hw, Bool.false_eq_true, if_false]
        exact wpAny_of_AnyG hQ f _ _ _ (hg L w hi hC) hk⟩

theorem gOp_mono {i : Nat} {a : Act} {K K' : Act → Prop} (h : ∀ a, K a → K' a) (hh : gOp P md ops C i K a) : gOp P md ops C i K' a :=
  let ⟨o, v, h1, h2, h3⟩ := hh
  ⟨o, v, h1, h2, h _ h3⟩

theorem gOp_put {i j : Nat} {oi oj : Oper} {v : Value} (hj : ops[j]? = some oj) (hap : oi.apart ops oj = true)
    (hsi : ∀ cs b, oi.op ≠ .select cs b) (hsj : ∀ cs b, oj.op ≠ .select cs b) {K : Act → Prop} {a : Act}
    (hy : Gives P md ops C i oi v a) (h : gOp P md ops C j K (a.put oi.dst v)) :
    gOp P md ops C j (fun a' => Gives P md ops C i oi v a' ∧ K (a'.put oi.dst v)) a := by
  obtain ⟨h1, h2, h3⟩ := Oper.apart_spec hap
  obtain ⟨o, u, ho, hg, hk⟩ := h
  have e : o = oj := Option.some.inj (ho.symm.trans hj)
  subst e
  refine ⟨o, u, ho, hg.of_same (execOp_put o hsj a oi.dst v h1).symm (wanted_put o a oi.dst v h1).symm, hy.of_same (execOp_put oi hsi a o.dst u h3) (wanted_put oi a o.dst u h3), ?_⟩
  rw [← Act.put_comm a v u h2]
  exact hk

theorem AnyG_first {Q : Array Bool → Act → Prop} {i : Nat} {oi : Oper} {v : Value} (hi : ops[i]? = some oi) (hsel : ∀ (j : Nat) (o : Oper) cs b, ops[j]? = some o → o.op ≠ .select cs b) :
    ∀ (f : Nat) (L : Array Bool) (a : Act),
      (∀ j oj, ops[j]? = some oj → j ≠ i → L.getD j true = false → (∀ e ∈ oj.after, Region.binds md e = true → e.on ≠ i) → oi.apart ops oj = true) →
      i ∈ Region.ready md ops L → Gives P md ops C i oi v a → AnyG P md ops C Q f (L.setIfInBounds i true) (a.put oi.dst v) → AnyG P md ops C Q (f + 1) L a
  | 0, L, a, _, hr, hy, H => ⟨fun h => (by rw [h] at hr; cases hr), fun j hj => by
      by_cases hji : j = i
      · subst hji; exact ⟨oi, v, hi, hy, H⟩
      · have := ready_mono hj hji
        rw [H.1] at this
        cases this⟩
  | f + 1, L, a, hfree, hr, hy, H => ⟨fun h => (by rw [h] at hr; cases hr), fun j hj => by
      by_cases hji : j = i
      · subst hji; exact ⟨oi, v, hi, hy, H⟩
      · have h1 := H.2 j (ready_mono hj hji)
        obtain ⟨hjun, oj, hoj, hall⟩ := mem_ready.1 hj
        have hnot : ∀ e ∈ oj.after, Region.binds md e = true → e.on ≠ i := fun e he hb heq => by
          have h1 := hall e he hb
          have h0 := (mem_ready.1 hr).1
          rw [heq] at h1
          rcases Nat.lt_or_ge i L.size with h' | h'
          · simp [h'] at h0 h1; rw [h0] at h1; cases h1
          · simp [Array.getElem?_eq_none h'] at h1
        have h2 := gOp_put hoj (hfree j oj hoj hji hjun hnot) (fun cs b => hsel i oi cs b hi) (fun cs b => hsel j oj cs b hoj) hy h1
        have hfree' : ∀ k ok, ops[k]? = some ok → k ≠ i → (L.setIfInBounds j true).getD k true = false →
            (∀ e ∈ ok.after, Region.binds md e = true → e.on ≠ i) → oi.apart ops ok = true := fun k ok hk hki hun hno => by
          refine hfree k ok hk hki ?_ hno
          by_cases hjk : j = k
          · subst hjk; exact hjun
          · rw [getD_set_ne true hjk] at hun; exact hun
        refine gOp_mono (fun a' h3 => AnyG_first hi hsel f (L.setIfInBounds j true) a' hfree' (ready_mono hr (Ne.symm hji)) h3.1 ?_) h2
        rw [Array.setIfInBounds_comm _ _ hji]
        exact h3.2⟩

/-- The walk in the text's order: operation k and those behind it. -/
def wpG (P : Program) (md : Region.Mode) (ops : Array Oper) (C : Array Bool → World → Prop) (Q : Act → Prop) : List Oper → Nat → Act → Prop
  | [], _, a => Q a
  | o :: r, k, a => ∃ v, Gives P md ops C k o v a ∧ wpG P md ops C Q r (k + 1) (a.put o.dst v)

theorem AnyG_lex {Q : Act → Prop} (hs : Region.noSelect ops = true) : ∀ (l : List Oper) (k : Nat) (L : Array Bool) (a : Act), (∀ j, l[j]? = ops[k + j]?) →
    Region.lexFrom md ops l.length k L = true → wpG P md ops C Q l k a → AnyG P md ops C (fun _ a => Q a) l.length L a
  | [], _, _, _, _, hB, h => ⟨by simpa [Region.lexFrom] using hB, h⟩
  | o :: l, k, L, a, hl, hB, h => by
    have h0 : ops[k]? = some o := by simpa using (hl 0).symm
    simp only [List.length_cons, Region.lexFrom, Bool.and_eq_true] at hB
    obtain ⟨⟨hr, hf⟩, hB'⟩ := hB
    obtain ⟨v, hy, hK⟩ := h
    exact AnyG_first h0 (Region.noSelect_spec hs) l.length L a (Region.free_spec h0 hf) (by simpa using hr) hy
      (AnyG_lex hs l (k + 1) _ _ (fun j => by have := hl (j + 1); simpa [Nat.add_assoc, Nat.add_comm 1 j] using this) hB' hK)

/-- The region, with what is owned said by a list of the operations' numbers that have been carried out. -/
theorem wp_region_G {id : Nat} {Q : Exit → Act → World → Prop} {a : Act} {w : World} (hm : P.follows .mixedOrders = true) (hB : Region.lexB .any ops = true) (hC : C (Array.replicate ops.size false) { w with drawn := w.drawn + 1 })
    (h : wpG P .any ops C (fun a' => ∀ L w', Region.ready .any ops L = [] → C L w' → Q .normal a' w') ops.toList 0 a) : (Code.region id ops true).wp P Q a w := by
  simp only [Region.lexB, Bool.and_eq_true] at hB
  refine wp_region_any hm (wpAny_of_AnyG (Q := fun _ a' => ∀ L w', Region.ready .any ops L = [] → C L w' → Q .normal a' w') (fun L a' w' hr hw' h => h L w' hr hw') _ _ _ _ hC ?_)
  have := AnyG_lex (C := C) (md := .any) hB.1 ops.toList 0 (Array.replicate ops.size false) a (by simp) (by simpa using hB.2) h
  simpa using this
end

/-! ### In the judgement -/

/-- Of every operation of the region: has it been carried out? -/
abbrev Done := Nat → Bool
def done (L : Array Bool) : Done := fun i => L.getD i false

section
variable {P : Program} {n : Fr} {w0 : World} {Q : Post} {s : Slots} {H : List Blk} {l rest : List Oper} {ty : TypeId} {p : String} {af : Array Edge}

/-- The class of worlds: what is owned, by what has been carried out; only sets that are closed under 'before' come up. -/
def Cls (w0 : World) (l : List Oper) (HL : Done → List Blk) (L : Array Bool) (w : World) : Prop :=
  L.size = l.length ∧ (∀ i o, l[i]? = some o → done L i = true → ∀ e ∈ o.after, Region.binds .any e = true → done L e.on = true) ∧ Mem w0 w (HL (done L))

/-- The operations that operation o waits for. -/
def waits (o : Oper) : List Nat := o.after.toList.filterMap fun e => if Region.binds .any e then some e.on else none

/-- Before operation k: those that it waits for are done, it is not; what is done is closed. -/
structure Turn (l : List Oper) (k : Nat) (o : Oper) (D : Done) : Prop where
  not : D k = false
  before : ∀ i ∈ waits o, D i = true
  closed : ∀ i x, l[i]? = some x → D i = true → ∀ j ∈ waits x, D j = true

def put (D : Done) (k : Nat) : Done := fun i => if i = k then true else D i

def WG (P : Program) (n : Fr) (w0 : World) (l : List Oper) (HL : Done → List Blk) (K : Slots → Prop) (rest : List Oper) (k : Nat) (s : Slots) : Prop :=
  ∀ a, St n s a → (∀ j, rest[j]? = l[k + j]?) → wpG P .any l.toArray (Cls w0 l HL) (fun a' => ∃ s', St n s' a' ∧ K s') rest k a

theorem waits_mem {o : Oper} {i : Nat} : i ∈ waits o ↔ ∃ e ∈ o.after, Region.binds .any e = true ∧ e.on = i := by
  unfold waits
  rw [List.mem_filterMap]
  constructor
  · rintro ⟨e, he, h⟩
    split at h
    · rename_i hb
      injection h with h
      exact ⟨e, by simpa using he, hb, h⟩
    · cases h
  · rintro ⟨e, he, hb, h⟩
    exact ⟨e, by simpa using he, by simp [hb, h]⟩

theorem turn_of {HL : Done → List Blk} {k : Nat} {o : Oper} {L : Array Bool} {w : World} (hk : l[k]? = some o) (hr : k ∈ Region.ready .any l.toArray L) (hc : Cls w0 l HL L w) : Turn l k o (done L) ∧ done (L.setIfInBounds k true) = put (done L) k ∧ (∀ w', Mem w0 w' (HL (put (done L) k)) → Cls w0 l HL (L.setIfInBounds k true) w') := by
  obtain ⟨hsz, hcl, _⟩ := hc
  obtain ⟨h0, o', ho', hall⟩ := mem_ready.1 hr
  have e : o' = o := by
    rw [List.getElem?_toArray, hk] at ho'
    exact (Option.some.inj ho').symm
  subst e
  have hlt : k < L.size := by rw [hsz]; exact (List.getElem?_eq_some_iff.1 hk).1
  have hd : done (L.setIfInBounds k true) = put (done L) k := by
    funext i
    unfold done put
    by_cases hik : i = k
    · subst hik; simp [hlt]
    · rw [if_neg hik, getD_set_ne false (Ne.symm hik)]
  have hcl' : ∀ i x, l[i]? = some x → done L i = true → ∀ j ∈ waits x, done L j = true := fun i x hx hi j hj => by
    obtain ⟨e, he, hb, rfl⟩ := waits_mem.1 hj
    exact hcl i x hx hi e he hb
  refine ⟨⟨?_, fun i hi => ?_, hcl'⟩, hd, fun w' hm => ⟨by simpa using hsz, fun i x hx hi e he hb => ?_, hd ▸ hm⟩⟩
  · unfold done; simp [hlt] at h0 ⊢; exact h0
  · obtain ⟨e, he, hb, rfl⟩ := waits_mem.1 hi
    exact hall e he hb
  · rw [hd] at hi ⊢
    by_cases hik : i = k
    · subst hik
      rw [hk] at hx
      injection hx with hx
      subst hx
      have h1 := hall e he hb
      unfold put
      split
      · rfl
      · exact h1
    · have hi' : done L i = true := by unfold put at hi; rwa [if_neg hik] at hi
      have := hcl i x hx hi' e he hb
      unfold put
      split
      · rfl
      · exact this

theorem w_drawG {id : Nat} (HL : Done → List Blk) (hm : P.follows .mixedOrders = true) (hB : Region.lexB .any l.toArray = true) (h0 : MSub (HL fun _ => false) H)
    (h : WG P n w0 l HL (fun s' => ∀ D : Done, (∀ i, i < l.length → D i = true) → Q .normal s' (HL D)) l 0 s) : W P n w0 (.region id l.toArray true) Q s H := by
  intro a w hs hmem
  have hrep : done (Array.replicate l.toArray.size false) = fun _ => false := by
    funext i
    unfold done
    rw [Array.getD_eq_getD_getElem?, Array.getElem?_replicate]
    split <;> rfl
  refine wp_region_G (C := Cls w0 l HL) hm hB ⟨by simp, fun i o _ hi => (by rw [hrep] at hi; cases hi), by rw [hrep]; exact h0.use hmem.drew⟩ ?_
  have h1 := h a hs (by simp)
  have mono : ∀ (r : List Oper) (k : Nat) (a : Act) (K K' : Act → Prop), (∀ a, K a → K' a) → wpG P .any l.toArray (Cls w0 l HL) K r k a → wpG P .any l.toArray (Cls w0 l HL) K' r k a := by
    intro r
    induction r with
    | nil => intro k a K K' hk h; exact hk _ h
    | cons o r ih =>
      rintro k a K K' hk ⟨v, h1, h2⟩
      exact ⟨v, h1, ih _ _ K K' hk h2⟩
  simp only [List.toList_toArray]
  refine mono _ _ _ _ _ ?_ h1
  rintro a' ⟨s', h2, h3⟩ L w' hr ⟨hsz, hcl, hmem'⟩
  refine ⟨s', HL (done L), h2, hmem', h3 _ fun i hi => ?_⟩
  -- nothing is ready: all is done
  have all : ∀ i, i < l.length → done L i = true := by
    intro i
    induction i using Nat.strongRecOn with
    | _ i ih =>
      intro hi
      cases hd : done L i with
      | true => rfl
      | false =>
        exfalso
        have hlx : ∀ (f k : Nat) (L0 : Array Bool), Region.lexFrom .any l.toArray f k L0 = true → ∀ j o, k ≤ j → j < k + f → l[j]? = some o → ∀ x ∈ waits o, L0.getD x false = true ∨ (k ≤ x ∧ x < j) := by
          intro f
          induction f with
          | zero => intro k L0 _ j o h1 h2; omega
          | succ f ihf =>
            intro k L0 hlex j o h1 h2 ho x hx
            simp only [Region.lexFrom, Bool.and_eq_true] at hlex
            obtain ⟨⟨hrk, _⟩, hrest⟩ := hlex
            by_cases hjk : j = k
            · subst hjk
              obtain ⟨_, o', ho', hall⟩ := mem_ready.1 (by simpa using hrk : j ∈ Region.ready .any l.toArray L0)
              rw [List.getElem?_toArray, ho] at ho'
              injection ho' with ho'
              subst ho'
              obtain ⟨e, he, hb, rfl⟩ := waits_mem.1 hx
              exact .inl (hall e he hb)
            · rcases ihf (k + 1) _ hrest j o (by omega) (by omega) ho x hx with h | ⟨h3, h4⟩
              · by_cases hxk : k = x
                · subst hxk; right; omega
                · rw [getD_set_ne false hxk] at h; exact .inl h
              · right; omega
        simp only [Region.lexB, Bool.and_eq_true] at hB
        obtain ⟨o, ho⟩ : ∃ o, l[i]? = some o := ⟨_, List.getElem?_eq_getElem hi⟩
        have hmem : i ∈ Region.ready .any l.toArray L := by
          refine mem_ready.2 ⟨?_, o, by simpa using ho, fun e he hb => ?_⟩
          · have : i < L.size := by omega
            unfold done at hd
            simp [this] at hd ⊢; exact hd
          · have hx := hlx l.toArray.size 0 _ hB.2 i o (Nat.zero_le _) (by simpa using hi) ho e.on (waits_mem.2 ⟨e, he, hb, rfl⟩)
            rcases hx with h | ⟨_, h⟩
            · have : (done (Array.replicate l.toArray.size false)) e.on = true := h
              rw [hrep] at this; cases this
            · exact ih e.on h (by omega)
        rw [hr] at hmem
        cases hmem
  exact all i hi

variable {HL : Done → List Blk} {K : Slots → Prop} {k : Nat}

theorem wg_nil (h : K s) : WG P n w0 l HL K [] k s := fun _ hs _ => ⟨s, hs, h⟩

/-- An operation that yields a value, whatever else has been carried out. -/
theorem wg_v {op : Op} {d : Nat} {v : Value} (hn : Nat.blt d n.sz = true) (hv : ∀ D, Turn l k ⟨some d, op, ty, p, af, none⟩ D → VOp P w0 s (HL D) op ty v) (hk : ∀ D, HL (put D k) = HL D) (h : WG P n w0 l HL K rest (k + 1) ((d, v) :: s)) :
    WG P n w0 l HL K (⟨some d, op, ty, p, af, none⟩ :: rest) k s := by
  intro a hs hl
  have h0 : l[k]? = some ⟨some d, op, ty, p, af, none⟩ := by simpa using (hl 0).symm
  refine ⟨v, .inl ⟨rfl, fun L w hr hc => ?_⟩, h _ (hs.put (Nat.blt_eq ▸ hn) v) fun j => by have := hl (j + 1); simpa [Nat.add_assoc, Nat.add_comm 1 j] using this⟩
  obtain ⟨ht, hd, hnext⟩ := turn_of h0 hr hc
  rw [hv _ ht a.eval w _ _ _ _ hs.eval hc.2.2]
  exact ⟨rfl, hnext w (by rw [hk]; exact hc.2.2)⟩

theorem wg_callp {d : Nat} {f : FuncId} {xs : List Operand} {vs : List Value} {v : Value} {ts : Array TypeId} [Callable P f] (hn : Nat.blt d n.sz = true) (hx : evs s xs = some vs)
    (hF : ∀ D, Turn l k ⟨some d, .call { callee := .value (.func f), args := xs.toArray, argTypes := ts }, ty, p, af, none⟩ D → ∀ w, Mem w0 w (HL D) → Pure P f vs w v) (hk : ∀ D, HL (put D k) = HL D) (h : WG P n w0 l HL K rest (k + 1) ((d, v) :: s)) :
    WG P n w0 l HL K (⟨some d, .call { callee := .value (.func f), args := xs.toArray, argTypes := ts }, ty, p, af, none⟩ :: rest) k s := by
  intro a hs hl
  have h0 := (hl 0).symm
  simp only [Nat.add_zero, List.getElem?_cons_zero] at h0
  refine ⟨v, .inl ⟨rfl, fun L w hr hc => ?_⟩, h _ (hs.put (Nat.blt_eq ▸ hn) v) fun j => by have := hl (j + 1); simpa [Nat.add_assoc, Nat.add_comm 1 j] using this⟩
  obtain ⟨ht, hd, hnext⟩ := turn_of h0 hr hc
  have hrun := run_call (P := P) (w := w) (ρ := a.eval) (d := some d) (ty := ty) (p := p) (af := af) (g := none) (f := f) (c := .func f) (xs := xs) (caps := []) (ts := ts) rfl (evs_map hs hx)
  rw [List.append_nil] at hrun
  rw [hrun]
  refine Calls.mono (hF _ ht w hc.2.2) ?_
  rintro e w' ⟨u, H', rfl, hm', rfl⟩
  exact ⟨rfl, hnext w' (by rw [hk]; exact (hc.2.2.call hm').right)⟩

/-- A store: what is owned turns as HL says. -/
theorem wg_heap {op : Op} (hv : ∀ D, Turn l k ⟨none, op, ty, p, af, none⟩ D → ∀ a w, St n s a → Mem w0 w (HL D) → ∃ w', (execOp a.eval ⟨none, op, ty, p, af, none⟩).run P w = .ok .skip w' ∧ Mem w0 w' (HL (put D k))) (h : WG P n w0 l HL K rest (k + 1) s) :
    WG P n w0 l HL K (⟨none, op, ty, p, af, none⟩ :: rest) k s := by
  intro a hs hl
  have h0 : l[k]? = some ⟨none, op, ty, p, af, none⟩ := by simpa using (hl 0).symm
  refine ⟨undef, .inl ⟨rfl, fun L w hr hc => ?_⟩, h _ (hs.put_none _) fun j => by have := hl (j + 1); simpa [Nat.add_assoc, Nat.add_comm 1 j] using this⟩
  obtain ⟨ht, hd, hnext⟩ := turn_of h0 hr hc
  obtain ⟨w', hr', hm'⟩ := hv _ ht a w hs hc.2.2
  rw [hr']
  exact ⟨rfl, hnext w' hm'⟩


theorem wg_put {t T g off m : Nat} {x a : Operand} {v : Value} {vs : List Value} [Size P t m] (xs : Done → List Value) (R : Done → List Blk) (ha : ev s a = some (.pointer (some ⟨g, off, none⟩))) (hx : ev s x = some v)
    (hsel : ∀ D, Sel (.box g T (xs D)) (HL D) (R D)) (hv : v.cells = vs.toArray) (hl : vs.length = m) (h1 : vs.all Value.oneCell' = true) (hfit : ∀ D, off + m ≤ (xs D).length)
    (hnew : ∀ D, Turn l k ⟨none, .store t a x, ty, p, af, none⟩ D → MSub (HL (put D k)) (.box g T ((xs D).take off ++ vs ++ (xs D).drop (off + m)) :: R D)) (h : WG P n w0 l HL K rest (k + 1) s) :
    WG P n w0 l HL K (⟨none, .store t a x, ty, p, af, none⟩ :: rest) k s := by
  refine wg_heap (fun D ht a' w hs hm => ?_) h
  have hm' := hm.sel (hsel D)
  have hb := (hm'.on _ List.mem_cons_self).1
  simp only [Blk.on] at hb
  have h1' : ∀ u ∈ vs, u.oneCell' = true := by simpa using h1
  have hr := run_storeVar (P := P) (t := t) (off := off) hv hl h1' hb (by simpa using hfit D)
  simp only at hr
  refine ⟨_, ?_, (hnew D ht).use (hm'.upd (setRow_grown _ _ _) (b' := .box g T ((xs D).take off ++ vs ++ (xs D).drop (off + m))) (setRow_heap _ _ _ _ _ _ hb) fun k hk => .inl hk)⟩
  simp [execOp, hs.eval a _ ha, hs.eval x _ hx, Instr.storeAt, Instr.sureAddr, hr]

theorem wg_put_own {t T g off m sz n' c : Nat} {x a : Operand} {v : Value} {vs : List Value} [Size P t m] (xs : Done → List Value) (R : Done → List Blk) (ha : ev s a = some (.pointer (some ⟨g, off, none⟩))) (hx : ev s x = some v)
    (hsel : ∀ D, Sel (.own (some g) T sz n' c (xs D)) (HL D) (R D)) (hv : v.cells = vs.toArray) (hl : vs.length = m) (h1 : vs.all Value.oneCell' = true) (hfit : ∀ D, off + m ≤ (xs D).length)
    (hnew : ∀ D, Turn l k ⟨none, .store t a x, ty, p, af, none⟩ D → MSub (HL (put D k)) (.own (some g) T sz n' c ((xs D).take off ++ vs ++ (xs D).drop (off + m)) :: R D)) (h : WG P n w0 l HL K rest (k + 1) s) :
    WG P n w0 l HL K (⟨none, .store t a x, ty, p, af, none⟩ :: rest) k s := by
  refine wg_heap (fun D ht a' w hs hm => ?_) h
  have hm' := hm.sel (hsel D)
  obtain ⟨h2, h3, h4, junk, h5, hb⟩ := (hm'.on _ List.mem_cons_self).1
  have h1' : ∀ u ∈ vs, u.oneCell' = true := by simpa using h1
  have hr := run_storeVar (P := P) (t := t) (off := off) hv hl h1' hb (by have := hfit D; simp; omega)
  simp only at hr
  have hf := hfit D
  have he : (xs D ++ junk).take off ++ vs ++ (xs D ++ junk).drop (off + m) = ((xs D).take off ++ vs ++ (xs D).drop (off + m)) ++ junk := by
    rw [List.take_append_of_le_length (by omega), List.drop_append_of_le_length hf]
    simp
  rw [he] at hr
  have hlen : ((xs D).take off ++ vs ++ (xs D).drop (off + m)).length = (xs D).length := by simp; omega
  refine ⟨_, ?_, (hnew D ht).use (hm'.upd (setRow_grown _ _ _) (b' := .own (some g) T sz n' c ((xs D).take off ++ vs ++ (xs D).drop (off + m)))
    ⟨hlen.trans h2, h3, h4, junk, by rw [List.length_append, hlen, ← List.length_append]; exact h5, setRow_heap _ _ _ _ _ _ hb⟩ fun k hk => .inl hk)⟩
  simp [execOp, hs.eval a _ ha, hs.eval x _ hx, Instr.storeAt, Instr.sureAddr, hr]

/-! ### Results that lie in boxes -/

theorem res_cell {w : World} {t T T' g m : Nat} {xs : List Value} {a : Act} [Agg P T m] (hs : St n s a) (hm : Mem w0 w H) (ht : look s t = some (.pointer (some ⟨g, 0, none⟩))) (hi : In (.box g T' xs) H) (hl : Nat.beq xs.length m = true) :
    (do let b ← asAddr (a.tmps.getD t undef); loadVar T b).run P w = .ok (.agg xs.toArray) w := by
  have h1 := hs.has t _ ht
  have h2 := run_load_agg (P := P) (t := T) (Nat.eq_of_beq_eq_true hl) (hm.cells_box hi)
  simp [Array.getD_eq_getD_getElem?, h1, asAddr, h2]

section res
variable {fn : Func} {R : Value → List Blk → Prop} {e : Exit} {t u T U T' U' g h m q : Nat} {xs ys : List Value} {v : Value}
theorem retc (he : e = .ret ∨ e = .normal) (hr : fn.results = #[.cell t T]) [Agg P T m] (ht : look s t = some (.pointer (some ⟨g, 0, none⟩))) (hi : In (.box g T' xs) H) (hl : Nat.beq xs.length m = true) {H' : List Blk} (hs : MSub H' H) (hR : R (.agg xs.toArray) H') : retP P fn n w0 R e s H :=
  ⟨he, _, H', hs, fun a w hst hm => by
    have h1 := res_cell (P := P) (T := T) hst hm ht hi hl
    simp only [results, hr]
    simp only [List.mapM_toArray, List.mapM_cons, List.mapM_nil, Sem.run_bind, Sem.run_map] at h1 ⊢
    simp only [h1, Result.andThen_ok, Sem.run_pure]
    rfl, hR⟩
theorem retct (he : e = .ret ∨ e = .normal) (hr : fn.results = #[.cell t T, .tmp u]) [Agg P T m] (ht : look s t = some (.pointer (some ⟨g, 0, none⟩))) (hi : In (.box g T' xs) H) (hl : Nat.beq xs.length m = true) (hu : look s u = some v) {H' : List Blk} (hs : MSub H' H) (hR : R (.tuple #[.agg xs.toArray, v]) H') : retP P fn n w0 R e s H :=
  ⟨he, _, H', hs, fun a w hst hm => by
    have h1 := res_cell (P := P) (T := T) hst hm ht hi hl
    have h2 : a.tmps.getD u undef = v := by simp [Array.getD_eq_getD_getElem?, hst.has u _ hu]
    simp only [results, hr]
    simp only [List.mapM_toArray, List.mapM_cons, List.mapM_nil, Sem.run_bind, Sem.run_map] at h1 ⊢
    simp only [h1, Result.andThen_ok, Sem.run_pure, h2]
    rfl, hR⟩
theorem retcc (he : e = .ret ∨ e = .normal) (hr : fn.results = #[.cell t T, .cell u U]) [Agg P T m] [Agg P U q] (ht : look s t = some (.pointer (some ⟨g, 0, none⟩))) (hi : In (.box g T' xs) H) (hl : Nat.beq xs.length m = true) (hu : look s u = some (.pointer (some ⟨h, 0, none⟩))) (hi' : In (.box h U' ys) H) (hl' : Nat.beq ys.length q = true) {H' : List Blk} (hs : MSub H' H) (hR : R (.tuple #[.agg xs.toArray, .agg ys.toArray]) H') : retP P fn n w0 R e s H :=
  ⟨he, _, H', hs, fun a w hst hm => by
    have h1 := res_cell (P := P) (T := T) hst hm ht hi hl
    have h2 := res_cell (P := P) (T := U) hst hm hu hi' hl'
    simp only [results, hr]
    simp only [List.mapM_toArray, List.mapM_cons, List.mapM_nil, Sem.run_bind, Sem.run_map] at h1 h2 ⊢
    simp only [h1, h2, Result.andThen_ok, Sem.run_pure]
    rfl, hR⟩
end res


theorem wl_callvp {d : Nat} {ops : Array Oper} {f : FuncId} {c : Operand} {xs : List Operand} {vs caps : List Value} {v : Value} {ts : Array TypeId} (hn : Nat.blt d n.sz = true) (hc : ev s c = some (.func (.func f) #[] caps.toArray)) (hfc : Callable P f) (hx : evs s xs = some vs)
    (hF : ∀ w, Mem w0 w H → Pure P f (vs ++ caps) w v) (k : WL P n w0 ops rest Q ((d, v) :: s) H) :
    WL P n w0 ops (⟨some d, .call { callee := .value c, args := xs.toArray, argTypes := ts }, ty, p, af, none⟩ :: rest) Q s H :=
  wl_callv hn hc hfc hx (FnIn.of_at hF) fun u H' ⟨H1, h1, h2⟩ => by
    subst h1; subst h2
    exact wl_msub ⟨H1, List.perm_append_comm⟩ k


/-- One box is written in the region. -/
theorem w_drawB {id T g : Nat} {xs xs' : List Value} {R : List Blk} (f : Done → List Value) (hm : P.follows .mixedOrders = true) (hB : Region.lexB .any l.toArray = true) (hsel : Sel (.box g T xs) H R) (h0 : f (fun _ => false) = xs)
    (h1 : ∀ D : Done, (∀ i, i < l.length → D i = true) → f D = xs') (h : WG P n w0 l (fun D => .box g T (f D) :: R) (fun s' => Q .normal s' (.box g T xs' :: R)) l 0 s) : W P n w0 (.region id l.toArray true) Q s H := by
  subst h0
  refine w_drawG (fun D => .box g T (f D) :: R) hm hB ⟨[], by simpa using hsel.perm⟩ fun a hs hl => ?_
  have mono : ∀ (r : List Oper) (k : Nat) (a : Act) (K K' : Act → Prop), (∀ a, K a → K' a) → wpG P .any l.toArray (Cls w0 l fun D => .box g T (f D) :: R) K r k a → wpG P .any l.toArray (Cls w0 l fun D => .box g T (f D) :: R) K' r k a := by
    intro r
    induction r with
    | nil => intro k a K K' hk h; exact hk _ h
    | cons o r ih =>
      rintro k a K K' hk ⟨v, h1, h2⟩
      exact ⟨v, h1, ih _ _ K K' hk h2⟩
  refine mono _ _ _ _ _ ?_ (h a hs hl)
  rintro a' ⟨s', h2, h3⟩
  exact ⟨s', h2, fun D hD => by rw [h1 D hD]; exact h3⟩

theorem w_drawO {id T g sz n' c : Nat} {xs xs' : List Value} {R : List Blk} (f : Done → List Value) (hm : P.follows .mixedOrders = true) (hB : Region.lexB .any l.toArray = true) (hsel : Sel (.own (some g) T sz n' c xs) H R) (h0 : f (fun _ => false) = xs)
    (h1 : ∀ D : Done, (∀ i, i < l.length → D i = true) → f D = xs') (h : WG P n w0 l (fun D => .own (some g) T sz n' c (f D) :: R) (fun s' => Q .normal s' (.own (some g) T sz n' c xs' :: R)) l 0 s) : W P n w0 (.region id l.toArray true) Q s H := by
  subst h0
  refine w_drawG (fun D => .own (some g) T sz n' c (f D) :: R) hm hB ⟨[], by simpa using hsel.perm⟩ fun a hs hl => ?_
  have mono : ∀ (r : List Oper) (k : Nat) (a : Act) (K K' : Act → Prop), (∀ a, K a → K' a) → wpG P .any l.toArray (Cls w0 l fun D => .own (some g) T sz n' c (f D) :: R) K r k a → wpG P .any l.toArray (Cls w0 l fun D => .own (some g) T sz n' c (f D) :: R) K' r k a := by
    intro r
    induction r with
    | nil => intro k a K K' hk h; exact hk _ h
    | cons o r ih =>
      rintro k a K K' hk ⟨v, h1, h2⟩
      exact ⟨v, h1, ih _ _ K K' hk h2⟩
  refine mono _ _ _ _ _ ?_ (h a hs hl)
  rintro a' ⟨s', h2, h3⟩
  exact ⟨s', h2, fun D hD => by rw [h1 D hD]; exact h3⟩

end
end Go.SL

/-
  A drawn region whose one store comes after all else.
-/
import Derived.Test.YtfkklicpnoeclaaSv
namespace Go.SL
open Go Go.RowKit

/-- Operation j waits for operation k, at once or by way of others. -/
def reaches (l : List Oper) : Nat → Nat → Nat → Bool
  | 0, j, k => Nat.beq j k
  | f + 1, j, k => Nat.beq j k || match l[j]? with
    | none => false
    | some x => (waits x).any fun i => reaches l f i k

theorem reaches_done {l : List Oper} {D : Done} (hc : ∀ i x, l[i]? = some x → D i = true → ∀ j ∈ waits x, D j = true) : ∀ (f j k : Nat), reaches l f j k = true → D j = true → D k = true
  | 0, j, k, h, hj => by
    have := Nat.eq_of_beq_eq_true h
    subst this
    exact hj
  | f + 1, j, k, h, hj => by
    simp only [reaches, Bool.or_eq_true] at h
    rcases h with h | h
    · have := Nat.eq_of_beq_eq_true h
      subst this
      exact hj
    · cases hx : l[j]? with
      | none => rw [hx] at h; cases h
      | some x =>
        rw [hx] at h
        obtain ⟨i, hi, hr⟩ := List.any_eq_true.1 h
        exact reaches_done hc f i k hr (hc j x hx hj i hi)

section
variable {P : Program} {n : Fr} {w0 : World} {Q : Post} {K : Slots → Prop} {s : Slots} {H H1 : List Blk} {l rest : List Oper} {k j f : Nat} {ty : TypeId} {p : String} {af : Array Edge}

theorem Turn.late {o : Oper} {D : Done} (ht : Turn l k o D) (h : reaches l f j k = true) : D j = false := by
  cases hD : D j
  · rfl
  · have := reaches_done ht.closed f j k h hD
    rw [ht.not] at this
    cases this

theorem w_drawL {id : Nat} (j : Nat) (H1 : List Blk) (hm : P.follows .mixedOrders = true) (hB : Region.lexB .any l.toArray = true) (hj : Nat.blt j l.length = true)
    (h : WG P n w0 l (fun D => if D j then H1 else H) (fun s' => Q .normal s' H1) l 0 s) : W P n w0 (.region id l.toArray true) Q s H := by
  refine w_drawG (fun D => if D j then H1 else H) hm hB (by simp only [Bool.false_eq_true, if_false]; exact .refl _) fun a hs hl => ?_
  have mono : ∀ (r : List Oper) (k : Nat) (a : Act) (K K' : Act → Prop), (∀ a, K a → K' a) → wpG P .any l.toArray (Cls w0 l fun D => if D j then H1 else H) K r k a → wpG P .any l.toArray (Cls w0 l fun D => if D j then H1 else H) K' r k a := by
    intro r
    induction r with
    | nil => intro k a K K' hk h; exact hk _ h
    | cons o r ih =>
      rintro k a K K' hk ⟨v, h1, h2⟩
      exact ⟨v, h1, ih _ _ K K' hk h2⟩
  refine mono _ _ _ _ _ ?_ (h a hs hl)
  rintro a' ⟨s', h2, h3⟩
  refine ⟨s', h2, fun D hD => ?_⟩
  rw [if_pos (hD j (Nat.blt_eq ▸ hj))]
  exact h3

theorem wg_l {op : Op} {d : Nat} {v : Value} (hn : Nat.blt d n.sz = true) (hr : reaches l f j k = true) (hne : Nat.beq j k = false) (hv : VOp P w0 s H op ty v) (h : WG P n w0 l (fun D => if D j then H1 else H) K rest (k + 1) ((d, v) :: s)) :
    WG P n w0 l (fun D => if D j then H1 else H) K (⟨some d, op, ty, p, af, none⟩ :: rest) k s := by
  refine wg_v hn (fun D ht => ?_) (fun D => ?_) h
  · rw [ht.late hr]
    exact hv
  · have : put D k j = D j := by
      unfold put
      rw [if_neg]
      intro e
      subst e
      rw [Nat.beq_refl] at hne
      cases hne
    simp only [this]

theorem wg_lput_own {t T g off m sz n' c : Nat} {x a : Operand} {v : Value} {vs xs : List Value} {R : List Blk} [Size P t m] (ha : ev s a = some (.pointer (some ⟨g, off, none⟩))) (hx : ev s x = some v)
    (hsel : Sel (.own (some g) T sz n' c xs) H R) (hv : v.cells = vs.toArray) (hl : vs.length = m) (h1 : vs.all Value.oneCell' = true) (hfit : off + m ≤ xs.length)
    (hnew : MSub H1 (.own (some g) T sz n' c (xs.take off ++ vs ++ xs.drop (off + m)) :: R)) (h : WG P n w0 l (fun D => if D k then H1 else H) K rest (k + 1) s) :
    WG P n w0 l (fun D => if D k then H1 else H) K (⟨none, .store t a x, ty, p, af, none⟩ :: rest) k s := by
  refine wg_heap (fun D ht a' w hs hm => ?_) h
  have e1 : D k = false := ht.not
  have e2 : put D k k = true := by simp [put]
  simp only [e1, Bool.false_eq_true, if_false] at hm
  simp only [e2, if_true]
  have hm' := hm.sel hsel
  obtain ⟨h2, h3, h4, junk, h5, hb⟩ := (hm'.on _ List.mem_cons_self).1
  have h1' : ∀ u ∈ vs, u.oneCell' = true := by simpa using h1
  have hr := run_storeVar (P := P) (t := t) (off := off) hv hl h1' hb (by simp; omega)
  simp only at hr
  have he : (xs ++ junk).take off ++ vs ++ (xs ++ junk).drop (off + m) = (xs.take off ++ vs ++ xs.drop (off + m)) ++ junk := by
    rw [List.take_append_of_le_length (by omega), List.drop_append_of_le_length hfit]
    simp
  rw [he] at hr
  have hlen : (xs.take off ++ vs ++ xs.drop (off + m)).length = xs.length := by simp; omega
  refine ⟨_, ?_, hnew.use (hm'.upd (setRow_grown _ _ _) (b' := .own (some g) T sz n' c (xs.take off ++ vs ++ xs.drop (off + m)))
    ⟨hlen.trans h2, h3, h4, junk, by rw [List.length_append, hlen, ← List.length_append]; exact h5, setRow_heap _ _ _ _ _ _ hb⟩ fun k hk => .inl hk)⟩
  simp [execOp, hs.eval a _ ha, hs.eval x _ hx, Instr.storeAt, Instr.sureAddr, hr]

/-- A store of one cell. -/
theorem wg_lset_own {t T g off sz n' c : Nat} {x a : Operand} {v : Value} {xs : List Value} {R : List Blk} [Size P t 1] (ha : ev s a = some (.pointer (some ⟨g, off, none⟩))) (hx : ev s x = some v)
    (hsel : Sel (.own (some g) T sz n' c xs) H R) (hv : v.oneCell' = true) (hfit : off < xs.length)
    (hnew : MSub H1 (.own (some g) T sz n' c (xs.set off v) :: R)) (h : WG P n w0 l (fun D => if D k then H1 else H) K rest (k + 1) s) :
    WG P n w0 l (fun D => if D k then H1 else H) K (⟨none, .store t a x, ty, p, af, none⟩ :: rest) k s := by
  refine wg_lput_own (m := 1) ha hx hsel (vs := [v]) (by cases v <;> first | rfl | cases hv) rfl (by simpa using hv) (by omega) ?_ h
  rw [take_set _ _ _ hfit]
  exact hnew

/-! ### append of whatever reads -/

theorem wl_append_addr {d t e n' c m c' sz by_ : Nat} {a2 : Addr} {A : Option Nat} {x y : Operand} {xs news : List Value} {R : List Blk} {ops : Array Oper} [ht : Und P t (.slice e)] [he : Elem P e sz by_] (hn : Nat.blt d n.sz = true)
    (hx : ev s x = some (sl A n' c)) (hy : ev s y = some (.slice (some a2) m c')) (hsel : Sel (.own A e sz n' c xs) H R)
    (hnews : ∀ w, Mem w0 w H → ∀ j u, news[j]? = some u → w.cell? (a2.add j) = some u) (hl : news.length = m * sz) (h1 : ∀ u ∈ news, u.oneCell' = true) (hby : (n' + m) * by_ ≤ 140737488355328) (h63 : n' + m ≤ maxLen)
    (k : ∀ A' cap', (0 < n' + m → ∃ g, A' = some g) → WL P n w0 ops rest Q ((d, sl A' (n' + m) cap') :: s) (.own A' e sz (n' + m) cap' (xs ++ news) :: R)) :
    WL P n w0 ops (⟨some d, .call { callee := .builtin .append, args := #[x, y], argTypes := #[t, t] }, ty, p, af, none⟩ :: rest) Q s H := by
  intro a w hs hm
  have hm' := hm.sel hsel
  obtain ⟨i, z, i1, i2, i3, i4, i5, i6⟩ := he.out
  have hb := (hm'.on _ List.mem_cons_self)
  have hown : w.ownsRow w0.heap.size e sz (sl A n' c) n' xs := by
    obtain ⟨⟨b1, b2, b3, b4⟩, b5⟩ := hb
    refine ⟨b1, ?_⟩
    cases A with
    | none => obtain ⟨rfl, rfl⟩ := b4; exact .inl ⟨rfl, rfl⟩
    | some g =>
      obtain ⟨junk, j1, j2⟩ := b4
      refine .inr ⟨g, c, _, rfl, b5 g rfl, j2, b2, b3, by simpa using j1, ?_⟩
      simp only [List.toList_toArray]
      rw [← b1, List.take_left]
  obtain ⟨v', w', hr, h2, h3, h4, h5⟩ := run_append_own_at (P := P) w w0.heap.size t ty e i z sz by_ ht.out i1 i4 i2 i3 i5 i6 (sl A n' c) n' xs hown a2 m c' news hl
    (hnews w hm) h1 h63 hby hm.below.size
  have hsh : ∃ A' cap', v' = sl A' (n' + m) cap' ∧ (Blk.own A' e sz (n' + m) cap' (xs ++ news)).on w' ∧ (0 < n' + m → ∃ g, A' = some g) := by
    obtain ⟨q1, q2⟩ := h2
    rcases q2 with ⟨rfl, q3⟩ | ⟨g, cap, cur, rfl, _, q4, q5, q6, q7, q8⟩
    · refine ⟨none, 0, by rw [q3]; rfl, ⟨q1, by omega, Nat.zero_le _, q3, rfl⟩, fun h => by omega⟩
    · refine ⟨some g, cap, rfl, ⟨q1, q5, q6, cur.toList.drop ((n' + m) * sz), ?_, ?_⟩, fun _ => ⟨g, rfl⟩⟩
      · rw [← q8, List.take_append_drop]; simpa using q7
      · rw [← q8, List.take_append_drop]; simpa using q4
  obtain ⟨A', cap', rfl, hon, hsome⟩ := hsh
  refine wpList_plain rfl fun K hK => ?_
  unfold Oper.wp execOp
  simp only [resolve, invoke, builtin, Sem.run_bind, Sem.run_pure, Result.andThen_ok, List.map_toArray, List.map_cons, List.map_nil, hs.eval x _ hx, hs.eval y _ hy, hr, Oper.upon]
  have hkey : ∀ (B : Option Nat) (q r : Nat), (sl B q r).ownBlock = B := fun B q r => by cases B <;> rfl
  rw [hkey] at h3
  refine hK _ _ (k A' cap' hsome _ _ (hs.put (Nat.blt_eq ▸ hn) _) (hm'.upd h3 hon fun j hj => ?_))
  rw [hkey, hkey] at h5
  simp only [Blk.key] at hj ⊢
  rcases h5 with h5 | h5
  · left; rw [← h5]; exact hj
  · right; rw [h5] at hj; injection hj with hj; omega

theorem run_append_none (w : World) (t ty e : TypeId) (i : TypeInfo) (ht : P.underlying t = some (.slice e)) (hi : P.info? e = some i) (B : Option Addr) (m c c' : Nat) (h : m ≤ c) :
    (Builtin.append_ #[t, t] ty #[.slice B m c, .slice none 0 c']).run P w = .ok (.slice B m c) w := by
  cases B <;> simp [Builtin.append_, run_underlying ht, sizeOf, typeInfo, hi, Builtin.lenOf, Builtin.firstCells, h, storeCells]

theorem wl_appendR {d t e n' c m sz by_ : Nat} {A : Option Nat} {x y : Operand} {yv : Value} {xs news : List Value} {R : List Blk} {ops : Array Oper} [ht : Und P t (.slice e)] [he : Elem P e sz by_] (hn : Nat.blt d n.sz = true)
    (hx : ev s x = some (sl A n' c)) (hy : ev s y = some yv) (hsel : Sel (.own A e sz n' c xs) H R)
    (hnews : ∀ w, Mem w0 w H → Reads w yv m news) (hl : news.length = m * sz) (h1 : ∀ u ∈ news, u.oneCell' = true) (hby : (n' + m) * by_ ≤ 140737488355328) (h63 : n' + m ≤ maxLen)
    (k : ∀ A' cap', (0 < m → ∃ g, A' = some g) → WL P n w0 ops rest Q ((d, sl A' (n' + m) cap') :: s) (.own A' e sz (n' + m) cap' (xs ++ news) :: R)) :
    WL P n w0 ops (⟨some d, .call { callee := .builtin .append, args := #[x, y], argTypes := #[t, t] }, ty, p, af, none⟩ :: rest) Q s H := by
  intro a w hs hm
  have hm' := hm.sel hsel
  have hb := (hm'.on _ List.mem_cons_self).1
  obtain ⟨B, c', rfl, h2, h3, h4⟩ := hnews w hm
  by_cases h0 : m = 0
  · subst h0
    have hnil : news = [] := List.eq_nil_of_length_eq_zero (by simpa using hl)
    subst hnil
    cases B with
    | some a2 => exact wl_append_addr hn hx hy hsel (fun w hm j u hu => by simp at hu) hl h1 hby h63 (fun A' cap' hA => k A' cap' (fun h => by omega)) a w hs hm
    | none =>
      obtain ⟨i, z, i1, i2, i3, i4, i5, i6⟩ := he.out
      have hr := run_append_none (P := P) w t ty e i ht.out i1 (A.map fun g => ⟨g, 0, none⟩) n' c c' hb.2.1
      refine wpList_plain rfl fun K hK => ?_
      unfold Oper.wp execOp
      simp only [resolve, invoke, builtin, Sem.run_bind, Sem.run_pure, Result.andThen_ok, List.map_toArray, List.map_cons, List.map_nil, hs.eval x _ hx, hs.eval y _ hy, sl, hr, Oper.upon]
      refine hK _ _ (k A c (fun h => by omega) _ _ (hs.put (Nat.blt_eq ▸ hn) _) ?_)
      simpa using hm'
  · obtain ⟨g, o, rfl, hro⟩ := h4 (by omega)
    exact wl_append hn hx hy hsel (fun w' hm2 => by
      obtain ⟨B, c'', e1, e2, e3, e4⟩ := hnews w' hm2
      obtain ⟨g', o', e5, hro'⟩ := e4 (by omega)
      injection e1 with e1 e1' e1''
      subst e1
      injection e5 with e5
      injection e5 with e5 e6
      subst e5; subst e6
      exact hro'.cells) hl h1 hby h63 (fun A' cap' hA => k A' cap' (fun h => hA (by omega))) a w hs hm
end

theorem v_eqlb_same {P : Program} {w0 : World} {s : Slots} {H : List Blk} {ty t t' : TypeId} {x y : Operand} {a : Bool} [ht : Und P t .bool] (hx : ev s x = some (.bool a)) (hy : ev s y = some (.bool a)) : VOp P w0 s H (.binOp .eql t x y t') ty (.bool true) := by
  have h := v_eqlb (P := P) (w0 := w0) (H := H) (ty := ty) (t := t) (t' := t') hx hy
  rwa [beq_self_eq_true] at h
theorem v_minN {P : Program} {w0 : World} {s : Slots} {H : List Blk} {ty : TypeId} {x y : Operand} {a b m : Nat} {ts : Array TypeId} (hx : ev s x = some (.int .i64 (a : Nat))) (hy : ev s y = some (.int .i64 (b : Nat))) (hm : min a b = m) :
    VOp P w0 s H (.call { callee := .builtin .min, args := #[x, y], argTypes := ts }) ty (.int .i64 (m : Nat)) := by
  have h : (if ((b : Nat) : Int) < ((a : Nat) : Int) then ((b : Nat) : Int) else ((a : Nat) : Int)) = ((m : Nat) : Int) := by
    split <;> omega
  rw [← h]
  exact v_min hx hy
theorem v_cut_str {P : Program} {w0 : World} {s : Slots} {H : List Blk} {ty t hi : Nat} {a : ByteArray} {x q : Operand} {k : IntKind} [ht : Und P t .string] (hx : ev s x = some (.string a)) (hq : ev s q = some (.int k (hi : Nat))) (h2 : hi ≤ a.size) :
    VOp P w0 s H (.slice t x none (some q) none) ty (.string (a.extract 0 hi)) := fun ρ w _ _ _ _ hρ _ => by
  have e2 : ((hi : Nat) : Int) ≤ ((a.size : Nat) : Int) := by omega
  simp [execOp, hρ x _ hx, hρ q _ hq, Instr.sliceAt, run_underlying ht.out, Instr.slice, Instr.sliceBounds, Instr.sliceBound, asIntOf, h2]

end Go.SL

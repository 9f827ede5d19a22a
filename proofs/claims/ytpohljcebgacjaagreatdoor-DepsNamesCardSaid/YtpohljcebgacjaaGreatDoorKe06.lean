/-
  Lemmas and walks, put together: Sl8 Sl9 Sl10 Sl11 Sl12.
-/
import Derived.Laws.Slices
import Derived.Test.YtpohljcebgacjaaGreatDoorKe04
set_option linter.unusedSimpArgs false
set_option linter.unusedVariables false
set_option maxRecDepth 20000
namespace Go.SL
open Go Go.RowKit
def reaches (l : List Oper) : Nat → Nat → Nat → Bool
 | 0, j, k => Nat.beq j k
 | f + 1, j, k => Nat.beq j k || match l[j]? with
  | none => false
  | some x => (waits x).any fun i => reaches l f i k
theorem reaches_done {l : List Oper} {D : Done} (hc : ∀ i x, l[i]? = some x → D i = true → ∀ j ∈ waits x, D j = true) : ∀ (f j k : Nat), reaches l f j k = true → D j = true → D k = true
 | 0, j, k, h, hj => by
  have := Nat.eq_of_beq_eq_true h
  subst this
  exact hj
 | f + 1, j, k, h, hj => by
  simp only [reaches, Bool.or_eq_true] at h
  rcases h with h | h
  ·
   have := Nat.eq_of_beq_eq_true h
   subst this
   exact hj
  ·
   cases hx : l[j]? with
   | none => rw [hx] at h; cases h
   | some x =>
    rw [hx] at h
    obtain ⟨i, hi, hr⟩ := List.any_eq_true.1 h
    exact reaches_done hc f i k hr (hc j x hx hj i hi)
section
variable {P : Program} {n : Fr} {w0 : World} {Q : Post} {K : Slots → Prop} {s : Slots} {H H1 : List Blk} {l rest : List Oper} {k j f : Nat} {ty : TypeId} {p : String} {af : Array Edge}
theorem Turn.late {o : Oper} {D : Done} (ht : Turn l k o D) (h : reaches l f j k = true) : D j = false := by
 cases hD : D j
 ·
  rfl
 ·
  have := reaches_done ht.closed f j k h hD
  rw [ht.not] at this
  cases this
theorem w_drawL {id : Nat} (j : Nat) (H1 : List Blk) (hm : P.follows .mixedOrders = true) (hB : Region.lexB .any l.toArray = true) (hj : Nat.blt j l.length = true)
  (h : WG P n w0 l (fun D => if D j then H1 else H) (fun s' => Q .normal s' H1) l 0 s) : W P n w0 (.region id l.toArray true) Q s H := by
 refine w_drawG (fun D => if D j then H1 else H) hm hB (by simp only [Bool.false_eq_true, if_false]; exact .refl _) fun a hs hl => ?_
 have mono : ∀ (r : List Oper) (k : Nat) (a : Act) (K K' : Act → Prop), (∀ a, K a → K' a) → wpG P .any l.toArray (Cls w0 l fun D => if D j then H1 else H) K r k a → wpG P .any l.toArray (Cls w0 l fun D => if D j then H1 else H) K' r k a := by
  intro r
  induction r with
  | nil => intro k a K K' hk h; exact hk _ h
  | cons o r ih =>
   rintro k a K K' hk ⟨v, h1, h2⟩
   exact ⟨v, h1, ih _ _ K K' hk h2⟩
 refine mono _ _ _ _ _ ?_ (h a hs hl)
 rintro a' ⟨s', h2, h3⟩
 refine ⟨s', h2, fun D hD => ?_⟩
 rw [if_pos (hD j (Nat.blt_eq ▸ hj))]
 exact h3
theorem wg_l {op : Op} {d : Nat} {v : Value} (hn : Nat.blt d n.sz = true) (hr : reaches l f j k = true) (hne : Nat.beq j k = false) (hv : VOp P w0 s H op ty v) (h : WG P n w0 l (fun D => if D j then H1 else H) K rest (k + 1) ((d, v) :: s)) :
  WG P n w0 l (fun D => if D j then H1 else H) K (⟨some d, op, ty, p, af, none⟩ :: rest) k s := by
 refine wg_v hn (fun D ht => ?_) (fun D => ?_) h
 ·
  rw [ht.late hr]
  exact hv
 ·
  have : put D k j = D j := by
   unfold put
   rw [if_neg]
   intro e
   subst e
   rw [Nat.beq_refl] at hne
   cases hne
  simp only [this]
theorem wl_append_addr {d t e n' c m c' sz by_ : Nat} {a2 : Addr} {A : Option Nat} {x y : Operand} {xs news : List Value} {R : List Blk} {ops : Array Oper} [ht : Und P t (.slice e)] [he : Elem P e sz by_] (hn : Nat.blt d n.sz = true)
  (hx : ev s x = some (sl A n' c)) (hy : ev s y = some (.slice (some a2) m c')) (hsel : Sel (.own A e sz n' c xs) H R)
  (hnews : ∀ w, Mem w0 w H → ∀ j u, news[j]? = some u → w.cell? (a2.add j) = some u) (hl : news.length = m * sz) (h1 : ∀ u ∈ news, u.oneCell' = true) (hby : (n' + m) * by_ ≤ 140737488355328) (h63 : n' + m ≤ maxLen)
  (k : ∀ A' cap', (0 < n' + m → ∃ g, A' = some g) → WL P n w0 ops rest Q ((d, sl A' (n' + m) cap') :: s) (.own A' e sz (n' + m) cap' (xs ++ news) :: R)) :
  WL P n w0 ops (⟨some d, .call { callee := .builtin .append, args := #[x, y], argTypes := #[t, t] }, ty, p, af, none⟩ :: rest) Q s H := by
 intro a w hs hm
 have hm' := hm.sel hsel
 obtain ⟨i, z, i1, i2, i3, i4, i5, i6⟩ := he.out
 have hb := (hm'.on _ List.mem_cons_self)
 have hown : w.ownsRow w0.heap.size e sz (sl A n' c) n' xs := by
  obtain ⟨⟨b1, b2, b3, b4⟩, b5⟩ := hb
  refine ⟨b1, ?_⟩
  cases A with
  | none => obtain ⟨rfl, rfl⟩ := b4; exact .inl ⟨rfl, rfl⟩
  | some g =>
   obtain ⟨junk, j1, j2⟩ := b4
   refine .inr ⟨g, c, _, rfl, b5 g rfl, j2, b2, b3, by simpa using j1, ?_⟩
   simp only [List.toList_toArray]
   rw [← b1, List.take_left]
 obtain ⟨v', w', hr, h2, h3, h4, h5⟩ := run_append_own_at (P := P) w w0.heap.size t ty e i z sz by_ ht.out i1 i4 i2 i3 i5 i6 (sl A n' c) n' xs hown a2 m c' news hl
  (hnews w hm) h1 h63 hby hm.below.size
 have hsh : ∃ A' cap', v' = sl A' (n' + m) cap' ∧ (Blk.own A' e sz (n' + m) cap' (xs ++ news)).on w' ∧ (0 < n' + m → ∃ g, A' = some g) := by
  obtain ⟨q1, q2⟩ := h2
  rcases q2 with ⟨rfl, q3⟩ | ⟨g, cap, cur, rfl, _, q4, q5, q6, q7, q8⟩
  ·
   refine ⟨none, 0, by rw [q3]; rfl, ⟨q1, by omega, Nat.zero_le _, q3, rfl⟩, fun h => by omega⟩
  ·
   refine ⟨some g, cap, rfl, ⟨q1, q5, q6, cur.toList.drop ((n' + m) * sz), ?_, ?_⟩, fun _ => ⟨g, rfl⟩⟩
   ·
    rw [← q8, List.take_append_drop]; simpa using q7
   ·
    rw [← q8, List.take_append_drop]; simpa using q4
 obtain ⟨A', cap', rfl, hon, hsome⟩ := hsh
 refine wpList_plain rfl fun K hK => ?_
 unfold Oper.wp execOp
 simp only [resolve, invoke, builtin, Sem.run_bind, Sem.run_pure, Result.andThen_ok, List.map_toArray, List.map_cons, List.map_nil, hs.eval x _ hx, hs.eval y _ hy, hr, Oper.upon]
 have hkey : ∀ (B : Option Nat) (q r : Nat), (sl B q r).ownBlock = B := fun B q r => by cases B <;> rfl
 rw [hkey] at h3
 refine hK _ _ (k A' cap' hsome _ _ (hs.put (Nat.blt_eq ▸ hn) _) (hm'.upd h3 hon fun j hj => ?_))
 rw [hkey, hkey] at h5
 simp only [Blk.key] at hj ⊢
 rcases h5 with h5 | h5
 ·
  left; rw [← h5]; exact hj
 ·
  right; rw [h5] at hj; injection hj with hj; omega
theorem run_append_none (w : World) (t ty e : TypeId) (i : TypeInfo) (ht : P.underlying t = some (.slice e)) (hi : P.info? e = some i) (B : Option Addr) (m c c' : Nat) (h : m ≤ c) :
  (Builtin.append_ #[t, t] ty #[.slice B m c, .slice none 0 c']).run P w = .ok (.slice B m c) w := by
 cases B <;> simp [Builtin.append_, run_underlying ht, sizeOf, typeInfo, hi, Builtin.lenOf, Builtin.firstCells, h, storeCells]
theorem wl_appendR {d t e n' c m sz by_ : Nat} {A : Option Nat} {x y : Operand} {yv : Value} {xs news : List Value} {R : List Blk} {ops : Array Oper} [ht : Und P t (.slice e)] [he : Elem P e sz by_] (hn : Nat.blt d n.sz = true)
  (hx : ev s x = some (sl A n' c)) (hy : ev s y = some yv) (hsel : Sel (.own A e sz n' c xs) H R)
  (hnews : ∀ w, Mem w0 w H → Reads w yv m news) (hl : news.length = m * sz) (h1 : ∀ u ∈ news, u.oneCell' = true) (hby : (n' + m) * by_ ≤ 140737488355328) (h63 : n' + m ≤ maxLen)
  (k : ∀ A' cap', (0 < m → ∃ g, A' = some g) → WL P n w0 ops rest Q ((d, sl A' (n' + m) cap') :: s) (.own A' e sz (n' + m) cap' (xs ++ news) :: R)) :
  WL P n w0 ops (⟨some d, .call { callee := .builtin .append, args := #[x, y], argTypes := #[t, t] }, ty, p, af, none⟩ :: rest) Q s H := by
 intro a w hs hm
 have hm' := hm.sel hsel
 have hb := (hm'.on _ List.mem_cons_self).1
 obtain ⟨B, c', rfl, h2, h3, h4⟩ := hnews w hm
 by_cases h0 : m = 0
 ·
  subst h0
  have hnil : news = [] := List.eq_nil_of_length_eq_zero (by simpa using hl)
  subst hnil
  cases B with
  | some a2 => exact wl_append_addr hn hx hy hsel (fun w hm j u hu => by simp at hu) hl h1 hby h63 (fun A' cap' hA => k A' cap' (fun h => by omega)) a w hs hm
  | none =>
   obtain ⟨i, z, i1, i2, i3, i4, i5, i6⟩ := he.out
   have hr := run_append_none (P := P) w t ty e i ht.out i1 (A.map fun g => ⟨g, 0, none⟩) n' c c' hb.2.1
   refine wpList_plain rfl fun K hK => ?_
   unfold Oper.wp execOp
   simp only [resolve, invoke, builtin, Sem.run_bind, Sem.run_pure, Result.andThen_ok, List.map_toArray, List.map_cons, List.map_nil, hs.eval x _ hx, hs.eval y _ hy, sl, hr, Oper.upon]
   refine hK _ _ (k A c (fun h => by omega) _ _ (hs.put (Nat.blt_eq ▸ hn) _) ?_)
   simpa using hm'
 ·
  obtain ⟨g, o, rfl, hro⟩ := h4 (by omega)
  exact wl_append hn hx hy hsel (fun w' hm2 => by
   obtain ⟨B, c'', e1, e2, e3, e4⟩ := hnews w' hm2
   obtain ⟨g', o', e5, hro'⟩ := e4 (by omega)
   injection e1 with e1 e1' e1''
   subst e1
   injection e5 with e5
   injection e5 with e5 e6
   subst e5; subst e6
   exact hro'.cells) hl h1 hby h63 (fun A' cap' hA => k A' cap' (fun h => hA (by omega))) a w hs hm
end
theorem v_eqlb_same {P : Program} {w0 : World} {s : Slots} {H : List Blk} {ty t t' : TypeId} {x y : Operand} {a : Bool} [ht : Und P t .bool] (hx : ev s x = some (.bool a)) (hy : ev s y = some (.bool a)) : VOp P w0 s H (.binOp .eql t x y t') ty (.bool true) := by
 have h := v_eqlb (P := P) (w0 := w0) (H := H) (ty := ty) (t := t) (t' := t') hx hy
 rwa [beq_self_eq_true] at h
theorem v_minN {P : Program} {w0 : World} {s : Slots} {H : List Blk} {ty : TypeId} {x y : Operand} {a b m : Nat} {ts : Array TypeId} (hx : ev s x = some (.int .i64 (a : Nat))) (hy : ev s y = some (.int .i64 (b : Nat))) (hm : min a b = m) :
  VOp P w0 s H (.call { callee := .builtin .min, args := #[x, y], argTypes := ts }) ty (.int .i64 (m : Nat)) := by
 have h : (if ((b : Nat) : Int) < ((a : Nat) : Int) then ((b : Nat) : Int) else ((a : Nat) : Int)) = ((m : Nat) : Int) := by
  split <;> omega
 rw [← h]
 exact v_min hx hy
theorem v_cut_str {P : Program} {w0 : World} {s : Slots} {H : List Blk} {ty t hi : Nat} {a : ByteArray} {x q : Operand} {k : IntKind} [ht : Und P t .string] (hx : ev s x = some (.string a)) (hq : ev s q = some (.int k (hi : Nat))) (h2 : hi ≤ a.size) :
  VOp P w0 s H (.slice t x none (some q) none) ty (.string (a.extract 0 hi)) := fun ρ w _ _ _ _ hρ _ => by
 have e2 : ((hi : Nat) : Int) ≤ ((a.size : Nat) : Int) := by omega
 simp [execOp, hρ x _ hx, hρ q _ hq, Instr.sliceAt, run_underlying ht.out, Instr.slice, Instr.sliceBounds, Instr.sliceBound, asIntOf, h2]
section
variable {P : Program} {n : Fr} {w0 : World} {Q : Post} {s : Slots} {H : List Blk} {rest : List Oper} {ty : TypeId} {p : String} {af : Array Edge}
theorem v_index_arr {x ix : Operand} {t e m j : Nat} {xs : List Value} {v : Value} {k : IntKind} [ht : Und P t (.array m e)] [he : One P e] [hz : Size P e 1] (hx : ev s x = some (.agg xs.toArray)) (hi : ev s ix = some (.int k (j : Nat))) (hj : j < m) (hv : xs[j]? = some v) :
  VOp P w0 s H (.index t x ix) ty v := fun ρ w _ _ _ _ hρ _ => by
 obtain ⟨i, h1, h2⟩ := hz.out
 obtain ⟨d, h3, h4⟩ := he.out
 have h0 : (0 : Int) ≤ (j : Int) := by omega
 have hj' : ((j : Nat) : Int) < ((m : Nat) : Int) := by omega
 simp only [execOp, hρ x _ hx, hρ ix _ hi, Instr.index, asIntOf, run_underlying ht.out, sizeOf, typeInfo, part, isAgg, run_underlying h3, Sem.run_bind, Sem.run_pure, Result.andThen_ok, h0, hj', and_self, if_true, h1, h2, Int.toNat_natCast, Nat.mul_one, List.getElem?_toArray, hv]
 cases d <;> simp_all
theorem v_slice_arr {x : Operand} {t e m g o sz : Nat} [ht : Und P t (.array m e)] [hz : Size P e sz] (hx : ev s x = some (.pointer (some ⟨g, o, none⟩))) :
  VOp P w0 s H (.slice t x none none none) ty (.slice (some ⟨g, o, none⟩) m m) := fun ρ w _ _ _ _ hρ _ => by
 obtain ⟨i, h1, h2⟩ := hz.out
 have ha : (⟨g, o, none⟩ : Addr).add 0 = ⟨g, o, none⟩ := by rw [addr_add]; simp
 simp [execOp, hρ x _ hx, Instr.sliceAt, run_underlying ht.out, Instr.sliceBounds, Instr.sureAddr, sizeOf, typeInfo, h1, ha]
theorem wl_buildArr {d t e m : Nat} {ps : List (Nat × Operand)} {vs xs zs : List Value} {ops : Array Oper} [ht : Und P t (.array m e)] [he : Size P e 1] [hz : ZeroC P t zs] (hn : Nat.blt d n.sz = true) (hps : evd s ps 0 = some vs)
  (hl : Nat.beq vs.length zs.length = true) (h1 : vs.all (fun v => Nat.beq v.cells.size 1) = true) (hx : norm (flat vs) = some xs) (k : WL P n w0 ops rest Q ((d, .agg xs.toArray) :: s) H) :
  WL P n w0 ops (⟨some d, .build t ps.toArray, ty, p, af, none⟩ :: rest) Q s H := by
 refine wl_exec rfl d rfl hn (fun a w hs hm => ?_) k
 obtain ⟨it, z, i1, i2, i3⟩ := hz.out
 obtain ⟨ie, j1, j2⟩ := he.out
 have hall : ∀ v ∈ vs, v.cells.size = 1 := by
  intro v hv
  exact Nat.eq_of_beq_eq_true (List.all_eq_true.1 h1 v hv)
 have hlen := Nat.eq_of_beq_eq_true hl
 have hfill := Great.fill_whole (s := 1) (by omega) vs z.cells hall (by rw [i3]; simp [hlen])
 rw [← evd_map hs hps] at hfill
 have hb : P.built t (ps.map fun (x : Nat × Operand) => (x.1, a.eval x.2)) = some (flat vs).toArray := by
  unfold Program.built
  simp only [i1, ht.out, i2, j1, j2]
  exact hfill
 have hr := run_build (P := P) w t (ps.map fun (x : Nat × Operand) => (x.1, a.eval x.2)).toArray (flat vs).toArray (by simpa using hb)
 rw [norm_eq hx]
 simp only [execOp, List.map_toArray]
 simp only [Sem.run_bind, hr, Result.andThen_ok, Sem.run_pure]
theorem v_conv_id {x : Operand} {t t' : TypeId} {k k' : IntKind} {a c : Int} {d : TypeDesc} [hs : Und P t d] [hd : Und P t' (.int k')] (hx : ev s x = some (.int k a)) (hw : k'.wrap a = c) : VOp P w0 s H (.convert t t' x) ty (.int k' c) := by
 have h := v_conv (P := P) (w0 := w0) (H := H) (ty := ty) (t := t) (t' := t') hx
 rwa [hw] at h
theorem v_addw_id {x y : Operand} {k : IntKind} {a b c : Int} {t t' : TypeId} (hx : ev s x = some (.int k a)) (hy : ev s y = some (.int k b)) (hw : k.wrap (a + b) = c) : VOp P w0 s H (.binOp .add t x y t') ty (.int k c) := by
 have h := v_addw (P := P) (w0 := w0) (H := H) (ty := ty) (t := t) (t' := t') hx hy
 rwa [hw] at h
theorem v_subw_id {x y : Operand} {k : IntKind} {a b c : Int} {t t' : TypeId} (hx : ev s x = some (.int k a)) (hy : ev s y = some (.int k b)) (hw : k.wrap (a - b) = c) : VOp P w0 s H (.binOp .sub t x y t') ty (.int k c) := by
 have h := v_subw (P := P) (w0 := w0) (H := H) (ty := ty) (t := t) (t' := t') hx hy
 rwa [hw] at h
theorem v_eqls_t {x y : Operand} {a b : ByteArray} {t t' : TypeId} (hx : ev s x = some (.string a)) (hy : ev s y = some (.string b)) (h : a = b) : VOp P w0 s H (.binOp .eql t x y t') ty (.bool true) := by
 have h1 := v_eqls (P := P) (w0 := w0) (H := H) (ty := ty) (t := t) (t' := t') hx hy
 rwa [decide_eq_true h] at h1
theorem v_eqls_f {x y : Operand} {a b : ByteArray} {t t' : TypeId} (hx : ev s x = some (.string a)) (hy : ev s y = some (.string b)) (h : a ≠ b) : VOp P w0 s H (.binOp .eql t x y t') ty (.bool false) := by
 have h1 := v_eqls (P := P) (w0 := w0) (H := H) (ty := ty) (t := t) (t' := t') hx hy
 rwa [decide_eq_false h] at h1
theorem wrap_u8 {a : Int} (h1 : 0 ≤ a) (h2 : a ≤ 255) : IntKind.u8.wrap a = a := by
 simp [IntKind.wrap, IntKind.bits, IntKind.signed] <;> omega
theorem Reads.of_box {w : World} {g t : Nat} {xs : List Value} (hm : Mem w0 w H) (hi : In (.box g t xs) H) (hl : Nat.ble xs.length maxLen = true) : Reads w (.slice (some ⟨g, 0, none⟩) xs.length xs.length) xs.length xs := by
 have h1 := hm.cells_box hi
 refine ⟨_, xs.length, rfl, Nat.le_refl _, by simpa using hl, fun _ => ⟨g, 0, rfl, ?_, h1⟩⟩
 have h2 := (hm.on _ hi.mem).1
 simp only [Blk.on] at h2
 exact (Array.getElem?_eq_some_iff.1 h2).1
end
section
variable {P : Program} {n : Fr} {w0 : World} {Q : Post} {s : Slots} {H : List Blk} {l : List Oper} {f : Nat} {L : Array Bool}
theorem wa_step {i : Nat} {o : Oper} (hi : l[i]? = some o) (h : WL P n w0 l.toArray [o] (thn (WA P n w0 l Q f (L.setIfInBounds i true)) Q) s H) (a : Act) (w : World) (hs : St n s a) (hm : Mem w0 w H) :
  wpOp P l.toArray (post n w0 Q) i (wpAny P .any l.toArray (post n w0 Q) f (L.setIfInBounds i true)) a w := by
 have h1 := h a w hs hm
 have hi' : l.toArray[i]? = some o := by simpa using hi
 unfold wpOp
 simp only [hi']
 unfold wpList at h1
 have hnext : ∀ a w, wpList P l.toArray (post n w0 (thn (WA P n w0 l Q f (L.setIfInBounds i true)) Q)) [] a w → wpAny P .any l.toArray (post n w0 Q) f (L.setIfInBounds i true) a w := by
  rintro a w ⟨s', H', h1, h2, h3⟩
  exact h3 a w h1 h2
 split
 ·
  rename_i hw
  rw [if_pos hw] at h1
  refine h1.imp (fun h2 => upon_mono hnext (fun c a w h => h) (fun a w h => h) h2) fun ⟨h2, a0, w0, h3⟩ => ⟨h2, a0, w0, h3⟩
 ·
  rename_i hw
  rw [if_neg hw] at h1
  exact hnext _ _ h1
theorem wa_two {i j : Nat} {oi oj : Oper} (hi : l[i]? = some oi) (hj : l[j]? = some oj) (hr : Region.ready .any l.toArray L = [i, j]) (h1 : WL P n w0 l.toArray [oi] (thn (WA P n w0 l Q f (L.setIfInBounds i true)) Q) s H)
  (h2 : WL P n w0 l.toArray [oj] (thn (WA P n w0 l Q f (L.setIfInBounds j true)) Q) s H) : WA P n w0 l Q (f + 1) L s H := by
 intro a w hs hm
 refine ⟨fun h0 => (by rw [hr] at h0; cases h0), fun k hk => ?_⟩
 rw [hr] at hk
 rcases List.mem_cons.1 hk with e | hk
 ·
  subst e
  exact wa_step hi h1 a w hs hm
 ·
  have e : k = j := by simpa using hk
  subst e
  exact wa_step hj h2 a w hs hm
end
def keep (s : Slots) : List Nat → Option Slots
 | [] => some []
 | t :: r => match look s t, keep s r with
  | some v, some s' => some ((t, v) :: s')
  | _, _ => none
theorem keep_sub {s : Slots} : ∀ {ts : List Nat} {s' : Slots}, keep s ts = some s' → Sub s' s
 | [], s', h => by simp only [keep, Option.some.injEq] at h; subst h; exact Sub.nil s
 | t :: r, s', h => by
  simp only [keep] at h
  split at h
  ·
   rename_i v s1 hv hs
   simp only [Option.some.injEq] at h
   subst h
   exact Sub.cons hv (keep_sub hs)
  ·
   cases h
theorem look_append (r b : Slots) (u : Nat) : look (r ++ b) u = (match look r u with | some v => some v | none => look b u) := by
 induction r with
 | nil => rfl
 | cons y r ih =>
  obtain ⟨p, q⟩ := y
  rw [List.cons_append, look_cons, look_cons, ih]
  split <;> rfl
theorem Sub.append {a b s : Slots} (ha : Sub a s) (hb : Sub b s) : Sub (a ++ b) s := by
 intro u z hu
 rw [look_append] at hu
 split at hu
 ·
  rename_i v hv
  rw [← hu]
  exact ha u v hv
 ·
  exact hb u z hu
def cutP {ι : Type} (sI : ι → Slots) (HI : ι → List Blk) (ok : ι → Prop) (Q : Post) : Post
 | .normal, s, H => ∃ i, ok i ∧ Sub (sI i) s ∧ MSub (HI i) H
 | e, s, H => Q e s H
section
variable {P : Program} {n : Fr} {w0 : World} {Q : Post} {s sb : Slots} {H : List Blk} {ι : Type} {sI : ι → Slots} {HI : ι → List Blk} {ok : ι → Prop} {id : Nat}
theorem cut_n (i : ι) (ho : ok i) (hs : Sub (sI i) s) (hH : MSub (HI i) H) : cutP sI HI ok Q .normal s H := ⟨i, ho, hs, hH⟩
theorem w_cut' {x z : Code} (sI : ι → Slots) (HI : ι → List Blk) (ok : ι → Prop) (h : W P n w0 x (cutP sI HI ok Q) s H) (k : ∀ i, ok i → W P n w0 z Q (sI i) (HI i)) :
  W P n w0 x (thn (W P n w0 z Q) Q) s H := by
 refine w_mono (fun e s' H' hq => ?_) h
 cases e with
 | normal =>
  obtain ⟨i, ho, h1, h2⟩ := hq
  exact w_sub h1 (w_msub h2 (k i ho))
 | _ => exact hq
theorem w_keep {c : Operand} {x y z : Code} (ts : List Nat) (hk : keep s ts = some sb) (h : W P n w0 (.cond c x y) (cutP (fun _ : Unit => sb) (fun _ => H) (fun _ => True) Q) s H) (k : W P n w0 z Q sb H) :
  W P n w0 (.cond c x y) (thn (W P n w0 z Q) Q) s H :=
 w_cut' _ _ _ h fun _ _ => k
theorem w_loopK {c : Code} (ts : List Nat) (hk : keep s ts = some sb) (sI : ι → Slots) (HI : ι → List Blk) (ok : ι → Prop) (μ : ι → Nat) (i0 : ι) (h0 : ok i0) (hs0 : Sub (sI i0) s) (hH0 : MSub (HI i0) H)
  (round : ∀ i, ok i → W P n w0 c (thn (fun s' H' => ∃ i', ok i' ∧ μ i' < μ i ∧ Sub (sI i') s' ∧ Sub sb s' ∧ MSub (HI i') H') Q) (sI i ++ sb) (HI i)) : W P n w0 (.loop c) Q s H := by
 refine w_loop (fun i => sI i ++ sb) HI ok μ i0 h0 (hs0.append (keep_sub hk)) hH0 fun i hi => w_mono (fun e s' H' hq => ?_) (round i hi)
 cases e with
 | normal =>
  obtain ⟨i', h1, h2, h3, h4, h5⟩ := hq
  exact ⟨i', h1, h2, h3.append h4, h5⟩
 | _ => exact hq
theorem wl_some {ops : Array Oper} {rest : List Oper} {A : Option Nat} {t sz m cap : Nat} {xs : List Value} (hi : In (.own A t sz m cap xs) H) (hm : 0 < m) (h : ∀ g, A = some g → WL P n w0 ops rest Q s H) : WL P n w0 ops rest Q s H := fun a w hs hmem => by
 obtain ⟨_, _, _, h4⟩ := (hmem.on _ hi.mem).1
 cases A with
 | none => obtain ⟨rfl, _⟩ := h4; omega
 | some g => exact h g rfl a w hs hmem
theorem Reads.of_own_take {w : World} {A : Option Nat} {t sz m cap k : Nat} {xs : List Value} (hm : Mem w0 w H) (hi : In (.own A t sz m cap xs) H) (hk : k ≤ m) : Reads w (sl A k cap) k (xs.take (k * sz)) := by
 obtain ⟨h1, h2, h3, h4⟩ := (hm.on _ hi.mem).1
 refine ⟨_, cap, rfl, by omega, h3, fun hpos => ?_⟩
 cases A with
 | none => obtain ⟨rfl, _⟩ := h4; omega
 | some g => exact ⟨g, 0, rfl, (Ro.of_own hm hi).take⟩
end
theorem v_neq_same {P : Program} {w0 : World} {s : Slots} {H : List Blk} {ty t t' : TypeId} {x y : Operand} {k : IntKind} {a : Int} (hx : ev s x = some (.int k a)) (hy : ev s y = some (.int k a)) : VOp P w0 s H (.binOp .neq t x y t') ty (.bool false) := by
 have h := v_neq (P := P) (w0 := w0) (H := H) (ty := ty) (t := t) (t' := t') hx hy
 rwa [decide_eq_false (by simp)] at h
theorem v_eql_same {P : Program} {w0 : World} {s : Slots} {H : List Blk} {ty t t' : TypeId} {x y : Operand} {k : IntKind} {a : Int} (hx : ev s x = some (.int k a)) (hy : ev s y = some (.int k a)) : VOp P w0 s H (.binOp .eql t x y t') ty (.bool true) := by
 have h := v_eql (P := P) (w0 := w0) (H := H) (ty := ty) (t := t) (t' := t') hx hy
 rwa [decide_eq_true (by rfl)] at h
section
variable {α : Type} {enc : α → List Value} {w0 : World}
def Held (enc : α → List Value) (w0 : World) (F : List Blk) (vals : List Value) (Ts : List (List α)) : Prop :=
 vals.length = Ts.length ∧ ∀ (j : Nat) (x : Value) (T : List α), vals[j]? = some x → Ts[j]? = some T → ∀ w, Mem w0 w F → Reads w x T.length (T.flatMap enc)
end
theorem v_loadc_own {α : Type} {enc : α → List Value} {m : Nat} {P : Program} {w0 : World} {s : Slots} {H : List Blk} {ty : TypeId} {x : Operand} {t T g n' c sz i k : Nat} {L : List α} {a : α} {v : Value} [One P t] (henc : ∀ a, (enc a).length = m) (hx : ev s x = some (.pointer (some ⟨g, 0 + i * m + k, none⟩))) (hi : In (.own (some g) T sz n' c (L.flatMap enc)) H) (hk : k < m) (ha : L[i]? = some a) (hv : (enc a)[k]? = some v) :
  VOp P w0 s H (.load t x) ty v := by
 obtain ⟨hlt, rfl⟩ := List.getElem?_eq_some_iff.1 ha
 rw [Nat.zero_add] at hx
 exact v_load_own hx hi (by rw [flat_cell henc L i k hlt hk]; exact hv)
end Go.SL

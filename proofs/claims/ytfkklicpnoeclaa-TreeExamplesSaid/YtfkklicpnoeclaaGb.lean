/-
  Lemmas and walks, packed: Md Sl8 Sl9 Sl10 Sl11 Sl12 Sl13 Sl14 Sl15 Sl16.
-/
import Derived.Laws.Slices
import Derived.Great.BuildSlice
import Derived.RangeFuncRecord
import Derived.RangeFuncSeq
import Derived.RangeFuncOwn
import Derived.LoopN
import Derived.Test.YtfkklicpnoeclaaGa
set_option linter.unusedSimpArgs false
set_option linter.unusedVariables false
/-
  The data of package api as records, their cells, and what the functions of packages addr, rect, glyph, val and tree compute, in plain words. No program in sight.
-/
namespace Go.SL
open Go

structure Rct where
  c1 : Int
  r1 : Int
  c2 : Int
  r2 : Int
structure Vl where
  kind : Int
  num : Int
  text : ByteArray
structure Nd where
  kind : Int
  v : Vl
  rect : Rct
  op : Int
  fn : Int
  n : Int

def encR (r : Rct) : List Value := [.int .i64 r.c1, .int .i64 r.r1, .int .i64 r.c2, .int .i64 r.r2]
def encV (v : Vl) : List Value := [.int .u8 v.kind, .int .i64 v.num, .string v.text]
def encN (n : Nd) : List Value :=
  [.int .u8 n.kind, .int .u8 n.v.kind, .int .i64 n.v.num, .string n.v.text, .int .i64 n.rect.c1, .int .i64 n.rect.r1, .int .i64 n.rect.c2, .int .i64 n.rect.r2, .int .i64 n.op, .int .u8 n.fn, .int .i64 n.n]

def valid (c r : Int) : Bool := decide (1 ≤ c) && decide (c ≤ 1024) && decide (1 ≤ r) && decide (r ≤ 1024)
def rectOk (r : Rct) : Bool := valid r.c1 r.r1 && valid r.c2 r.r2 && decide (r.c1 ≤ r.c2) && decide (r.r1 ≤ r.r2)
def rectE (r : Rct) : Int := bif rectOk r then 0 else 3

def plainB (b : ByteArray) : Bool := b.data.toList.all fun c => decide (32 ≤ c.toNat) && decide (c.toNat ≤ 126)
def glyphE (b : ByteArray) : Int := bif decide (256 < b.size) then 5 else bif plainB b then 0 else 4

def emptyB : ByteArray := ⟨#[]⟩
def valOk (v : Vl) : Bool :=
  bif decide (v.kind = 0) then decide (v.num = 0) && decide (v.text = emptyB)
  else bif decide (v.kind = 1) then decide (v.text = emptyB) && decide (v.num ≠ -9223372036854775808)
  else bif decide (v.kind = 2) then decide (v.text = emptyB) && decide (v.num / 2 = 0)
  else bif decide (v.kind = 3) then decide (v.num = 0) && decide (glyphE v.text = 0)
  else bif decide (v.kind = 4) then decide (v.text = emptyB) && decide (1 ≤ v.num) && decide (v.num ≤ 6)
  else false
def valE (v : Vl) : Int := bif valOk v then 0 else 2

def knownF (fn : Int) : Bool := decide (1 ≤ fn) && decide (fn ≤ 50)
def releasedF (fn : Int) : Bool := decide (46 ≤ fn) && decide (fn ≤ 50)

/-- least, most, error -/
def arity (fn : Int) : Int × Int × Int :=
  if fn = 5 ∨ fn = 6 ∨ fn = 7 ∨ fn = 25 ∨ fn = 39 ∨ fn = 40 ∨ fn = 18 ∨ fn = 19 ∨ fn = 45 ∨ fn = 44 then (2, 2, 0)
  else if fn = 20 ∨ fn = 41 ∨ fn = 43 then (2, 3, 0)
  else if fn = 32 ∨ fn = 33 then (1, 2, 0)
  else if fn = 34 then (3, 3, 0)
  else if fn = 21 ∨ fn = 22 ∨ fn = 23 ∨ fn = 38 ∨ fn = 9 ∨ fn = 10 ∨ fn = 11 ∨ fn = 12 ∨ fn = 14 ∨ fn = 15 ∨ fn = 16 ∨ fn = 17 then (1, 16, 0)
  else if fn = 30 then (2, 16, 0)
  else if knownF fn then (1, 1, 0) else (0, 0, 10)

def wideF (fn i : Int) : Bool × Int :=
  if (arity fn).2.2 ≠ 0 then (false, (arity fn).2.2)
  else if i < 0 ∨ (arity fn).2.1 ≤ i then (false, 3)
  else if fn = 9 ∨ fn = 10 ∨ fn = 11 ∨ fn = 12 ∨ fn = 14 ∨ fn = 15 ∨ fn = 16 ∨ fn = 17 then (true, 0)
  else if fn = 44 then (decide (i = 1), 0)
  else if fn = 18 ∨ fn = 19 ∨ fn = 45 ∨ fn = 43 ∨ fn = 13 then (decide (i = 0), 0)
  else (releasedF fn, 0)

def below (n : Nd) : Int :=
  if n.kind = 4 ∨ n.kind = 5 then 1 else if n.kind = 6 then 2 else if n.kind = 7 then n.n else 0


def zeroR : Rct := ⟨0, 0, 0, 0⟩
def zeroV : Vl := ⟨0, 0, emptyB⟩

/-- The node with the fields alone that its kind has. -/
def want (n : Nd) : Nd :=
  if n.kind = 1 then ⟨n.kind, n.v, zeroR, 0, 0, 0⟩
  else if n.kind = 2 ∨ n.kind = 3 then ⟨n.kind, zeroV, n.rect, 0, 0, 0⟩
  else if n.kind = 6 then ⟨n.kind, zeroV, zeroR, n.op, 0, 0⟩
  else if n.kind = 7 then ⟨n.kind, zeroV, zeroR, 0, n.fn, n.n⟩
  else ⟨n.kind, zeroV, zeroR, 0, 0, 0⟩

def litOk (v : Vl) : Bool :=
  (if v.kind = 0 then false else if v.kind = 1 then decide (0 ≤ v.num) else if v.kind = 4 then decide (1 ≤ v.num) && decide (v.num ≤ 5) else true) && decide (valE v = 0)

def oneR (r : Rct) : Bool := decide (r.c1 = r.c2) && decide (r.r1 = r.r2)

def kindOk (n : Nd) : Bool :=
  if n.kind = 1 then litOk n.v
  else if n.kind = 2 ∨ n.kind = 3 then decide (rectE n.rect = 0) && (oneR n.rect == decide (n.kind = 2))
  else if n.kind = 4 ∨ n.kind = 5 then true
  else if n.kind = 6 then decide (1 ≤ n.op) && decide (n.op ≤ 12)
  else if n.kind = 7 then decide (0 ≤ n.n)
  else false

def eqV (a b : Vl) : Bool := decide (a.kind = b.kind) && (decide (a.num = b.num) && decide (a.text = b.text))
def eqR (a b : Rct) : Bool := decide (a.c1 = b.c1) && (decide (a.r1 = b.r1) && (decide (a.c2 = b.c2) && decide (a.r2 = b.r2)))
def eqN (a b : Nd) : Bool := decide (a.kind = b.kind) && (eqV a.v b.v && (eqR a.rect b.rect && (decide (a.op = b.op) && (decide (a.fn = b.fn) && decide (a.n = b.n)))))

theorem eqV_iff {a b : Vl} : eqV a b = true ↔ a = b := by
  obtain ⟨a1, a2, a3⟩ := a
  obtain ⟨b1, b2, b3⟩ := b
  simp [eqV]
theorem eqR_iff {a b : Rct} : eqR a b = true ↔ a = b := by
  obtain ⟨a1, a2, a3, a4⟩ := a
  obtain ⟨b1, b2, b3, b4⟩ := b
  simp [eqR]
theorem eqN_iff {a b : Nd} : eqN a b = true ↔ a = b := by
  obtain ⟨a1, a2, a3, a4, a5, a6⟩ := a
  obtain ⟨b1, b2, b3, b4, b5, b6⟩ := b
  simp [eqN, eqV_iff, eqR_iff]

theorem beqI (a b : Int) : (a == b) = decide (a = b) := by rw [Bool.eq_iff_iff]; simp


/-- 'fields': the error of a node by itself. -/
def fieldsE (n : Nd) : Int :=
  if kindOk n = false ∨ eqN n (want n) = false then 2
  else if n.kind ≠ 7 then 0
  else if (arity n.fn).2.2 ≠ 0 then (arity n.fn).2.2
  else if n.n < (arity n.fn).1 ∨ (arity n.fn).2.1 < n.n then 11
  else 0


/-! ### The stack of trees -/

structure Pt where
  root : Nat
  depth : Nat
  wide : Bool
def encP (p : Pt) : List Value := [.int .i64 (p.root : Int), .int .i64 (p.depth : Int), .bool p.wide]
theorem encN_len (n : Nd) : (encN n).length = 11 := rfl
theorem encP_len (p : Pt) : (encP p).length = 3 := rfl

def kindAt (L : List Nd) (i : Nat) : Int := ((L[i]?).map Nd.kind).getD 0
def mayAt (n : Nd) (i : Int) : Bool := if n.kind = 7 then (wideF n.fn i).1 else false
def fitOne (L : List Nd) (n : Nd) (i : Int) (p : Pt) : Bool :=
  !(p.wide && !mayAt n i) && !(decide (n.kind = 7) && releasedF n.fn && decide (kindAt L p.root ≠ 2) && decide (kindAt L p.root ≠ 3))
def fitsFrom (L : List Nd) (n : Nd) : Int → List Pt → Bool
  | _, [] => true
  | i, p :: r => fitOne L n i p && fitsFrom L n (i + 1) r

/-- What is on top of the stack below a node: the last k trees. -/
def topOf (st : List Pt) (k : Nat) : List Pt := st.drop (st.length - k)

def depthOf (top : List Pt) : Nat := top.foldl (fun d p => max d (p.depth + 1)) 1

/-- One node: the error, or the stack after it, the roots below it and its depth. -/
def stepT (L : List Nd) (n : Nd) (i : Nat) (st : List Pt) : Int ⊕ (List Pt × List Nat × Nat) :=
  if fieldsE n ≠ 0 then .inl (fieldsE n)
  else if (st.length : Int) < below n ∨ fitsFrom L n 0 (topOf st (below n).toNat) = false then .inl 4
  else if 32 < depthOf (topOf st (below n).toNat) then .inl 9
  else .inr (st.take (st.length - (below n).toNat) ++ [⟨i, depthOf (topOf st (below n).toNat), decide (n.kind = 3)⟩], (topOf st (below n).toNat).map Pt.root, depthOf (topOf st (below n).toNat))

/-- What a visit is given: the roots below the node, and its depth. -/
abbrev Visit := List Nat × Nat

def walkT (L : List Nd) : List Nd → Nat → List Pt → List Visit → Int × List Visit
  | [], _, st, vs => (if st.length = 1 then 0 else 4, vs)
  | n :: r, i, st, vs => match stepT L n i st with
    | .inl e => (e, vs)
    | .inr (st', kids, d) => walkT L r (i + 1) st' (vs ++ [(kids, d)])

end Go.SL

/-
  A drawn region whose one store comes after all else.
-/
namespace Go.SL
open Go Go.RowKit

/-- Operation j waits for operation k, at once or by way of others. -/
def reaches (l : List Oper) : Nat → Nat → Nat → Bool
  | 0, j, k => Nat.beq j k
  | f + 1, j, k => Nat.beq j k || match l[j]? with
    | none => false
    | some x => (waits x).any fun i => reaches l f i k

theorem reaches_done {l : List Oper} {D : Done} (hc : ∀ i x, l[i]? = some x → D i = true → ∀ j ∈ waits x, D j = true) : ∀ (f j k : Nat), reaches l f j k = true → D j = true → D k = true
  | 0, j, k, h, hj => by
    have := Nat.eq_of_beq_eq_true h
    subst this
    exact hj
  | f + 1, j, k, h, hj => by
    simp only [reaches, Bool.or_eq_true] at h
    rcases h with h | h
    · have := Nat.eq_of_beq_eq_true h
      subst this
      exact hj
    · cases hx : l[j]? with
      | none => rw [hx] at h; cases h
      | some x =>
        rw [hx] at h
        obtain ⟨i, hi, hr⟩ := List.any_eq_true.1 h
        exact reaches_done hc f i k hr (hc j x hx hj i hi)

section
variable {P : Program} {n : Fr} {w0 : World} {Q : Post} {K : Slots → Prop} {s : Slots} {H H1 : List Blk} {l rest : List Oper} {k j f : Nat} {ty : TypeId} {p : String} {af : Array Edge}

theorem Turn.late {o : Oper} {D : Done} (ht : Turn l k o D) (h : reaches l f j k = true) : D j = false := by
  cases hD : D j
  · rfl
  · have := reaches_done ht.closed f j k h hD
    rw [ht.not] at this
    cases this

theorem w_drawL {id : Nat} (j : Nat) (H1 : List Blk) (hm : P.follows .mixedOrders = true) (hB : Region.lexB .any l.toArray = true) (hj : Nat.blt j l.length = true)
    (h : WG P n w0 l (fun D => if D j then H1 else H) (fun s' => Q .normal s' H1) l 0 s) : W P n w0 (.region id l.toArray true) Q s H := by
  refine w_drawG (fun D => if D j then H1 else H) hm hB (by simp only [Bool.false_eq_true, if_false]; exact .refl _) fun a hs hl => ?_
  have mono : ∀ (r : List Oper) (k : Nat) (a : Act) (K K' : Act → Prop), (∀ a, K a → K' a) → wpG P .any l.toArray (Cls w0 l fun D => if D j then H1 else H) K r k a → wpG P .any l.toArray (Cls w0 l fun D => if D j then H1 else H) K' r k a := by
    intro r
    induction r with
    | nil => intro k a K K' hk h; exact hk _ h
    | cons o r ih =>
      rintro k a K K' hk ⟨v, h1, h2⟩
      exact ⟨v, h1, ih _ _ K K' hk h2⟩
  refine mono _ _ _ _ _ ?_ (h a hs hl)
  rintro a' ⟨s', h2, h3⟩
  refine ⟨s', h2, fun D hD => ?_⟩
  rw [if_pos (hD j (Nat.blt_eq ▸ hj))]
  exact h3

theorem wg_l {op : Op} {d : Nat} {v : Value} (hn : Nat.blt d n.sz = true) (hr : reaches l f j k = true) (hne : Nat.beq j k = false) (hv : VOp P w0 s H op ty v) (h : WG P n w0 l (fun D => if D j then H1 else H) K rest (k + 1) ((d, v) :: s)) :
    WG P n w0 l (fun D => if D j then H1 else H) K (⟨some d, op, ty, p, af, none⟩ :: rest) k s := by
  refine wg_v hn (fun D ht => ?_) (fun D => ?_) h
  · rw [ht.late hr]
    exact hv
  · have : put D k j = D j := by
      unfold put
      rw [if_neg]
      intro e
      subst e
      rw [Nat.beq_refl] at hne
      cases hne
    simp only [this]

theorem wg_lput_own {t T g off m sz n' c : Nat} {x a : Operand} {v : Value} {vs xs : List Value} {R : List Blk} [Size P t m] (ha : ev s a = some (.pointer (some ⟨g, off, none⟩))) (hx : ev s x = some v)
    (hsel : Sel (.own (some g) T sz n' c xs) H R) (hv : v.cells = vs.toArray) (hl : vs.length = m) (h1 : vs.all Value.oneCell' = true) (hfit : off + m ≤ xs.length)
    (hnew : MSub H1 (.own (some g) T sz n' c (xs.take off ++ vs ++ xs.drop (off + m)) :: R)) (h : WG P n w0 l (fun D => if D k then H1 else H) K rest (k + 1) s) :
    WG P n w0 l (fun D => if D k then H1 else H) K (⟨none, .store t a x, ty, p, af, none⟩ :: rest) k s := by
  refine wg_heap (fun D ht a' w hs hm => ?_) h
  have e1 : D k = false := ht.not
  have e2 : put D k k = true := by simp [put]
  simp only [e1, Bool.false_eq_true, if_false] at hm
  simp only [e2, if_true]
  have hm' := hm.sel hsel
  obtain ⟨h2, h3, h4, junk, h5, hb⟩ := (hm'.on _ List.mem_cons_self).1
  have h1' : ∀ u ∈ vs, u.oneCell' = true := by simpa using h1
  have hr := run_storeVar (P := P) (t := t) (off := off) hv hl h1' hb (by simp; omega)
  simp only at hr
  have he : (xs ++ junk).take off ++ vs ++ (xs ++ junk).drop (off + m) = (xs.take off ++ vs ++ xs.drop (off + m)) ++ junk := by
    rw [List.take_append_of_le_length (by omega), List.drop_append_of_le_length hfit]
    simp
  rw [he] at hr
  have hlen : (xs.take off ++ vs ++ xs.drop (off + m)).length = xs.length := by simp; omega
  refine ⟨_, ?_, hnew.use (hm'.upd (setRow_grown _ _ _) (b' := .own (some g) T sz n' c (xs.take off ++ vs ++ xs.drop (off + m)))
    ⟨hlen.trans h2, h3, h4, junk, by rw [List.length_append, hlen, ← List.length_append]; exact h5, setRow_heap _ _ _ _ _ _ hb⟩ fun k hk => .inl hk)⟩
  simp [execOp, hs.eval a _ ha, hs.eval x _ hx, Instr.storeAt, Instr.sureAddr, hr]

/-- A store of one cell. -/
theorem wg_lset_own {t T g off sz n' c : Nat} {x a : Operand} {v : Value} {xs : List Value} {R : List Blk} [Size P t 1] (ha : ev s a = some (.pointer (some ⟨g, off, none⟩))) (hx : ev s x = some v)
    (hsel : Sel (.own (some g) T sz n' c xs) H R) (hv : v.oneCell' = true) (hfit : off < xs.length)
    (hnew : MSub H1 (.own (some g) T sz n' c (xs.set off v) :: R)) (h : WG P n w0 l (fun D => if D k then H1 else H) K rest (k + 1) s) :
    WG P n w0 l (fun D => if D k then H1 else H) K (⟨none, .store t a x, ty, p, af, none⟩ :: rest) k s := by
  refine wg_lput_own (m := 1) ha hx hsel (vs := [v]) (by cases v <;> first | rfl | cases hv) rfl (by simpa using hv) (by omega) ?_ h
  rw [take_set _ _ _ hfit]
  exact hnew

/-! ### append of whatever reads -/

theorem wl_append_addr {d t e n' c m c' sz by_ : Nat} {a2 : Addr} {A : Option Nat} {x y : Operand} {xs news : List Value} {R : List Blk} {ops : Array Oper} [ht : Und P t (.slice e)] [he : Elem P e sz by_] (hn : Nat.blt d n.sz = true)
    (hx : ev s x = some (sl A n' c)) (hy : ev s y = some (.slice (some a2) m c')) (hsel : Sel (.own A e sz n' c xs) H R)
    (hnews : ∀ w, Mem w0 w H → ∀ j u, news[j]? = some u → w.cell? (a2.add j) = some u) (hl : news.length = m * sz) (h1 : ∀ u ∈ news, u.oneCell' = true) (hby : (n' + m) * by_ ≤ 140737488355328) (h63 : n' + m ≤ maxLen)
    (k : ∀ A' cap', (0 < n' + m → ∃ g, A' = some g) → WL P n w0 ops rest Q ((d, sl A' (n' + m) cap') :: s) (.own A' e sz (n' + m) cap' (xs ++ news) :: R)) :
    WL P n w0 ops (⟨some d, .call { callee := .builtin .append, args := #[x, y], argTypes := #[t, t] }, ty, p, af, none⟩ :: rest) Q s H := by
  intro a w hs hm
  have hm' := hm.sel hsel
  obtain ⟨i, z, i1, i2, i3, i4, i5, i6⟩ := he.out
  have hb := (hm'.on _ List.mem_cons_self)
  have hown : w.ownsRow w0.heap.size e sz (sl A n' c) n' xs := by
    obtain ⟨⟨b1, b2, b3, b4⟩, b5⟩ := hb
    refine ⟨b1, ?_⟩
    cases A with
    | none => obtain ⟨rfl, rfl⟩ := b4; exact .inl ⟨rfl, rfl⟩
    | some g =>
      obtain ⟨junk, j1, j2⟩ := b4
      refine .inr ⟨g, c, _, rfl, b5 g rfl, j2, b2, b3, by simpa using j1, ?_⟩
      simp only [List.toList_toArray]
      rw [← b1, List.take_left]
  obtain ⟨v', w', hr, h2, h3, h4, h5⟩ := run_append_own_at (P := P) w w0.heap.size t ty e i z sz by_ ht.out i1 i4 i2 i3 i5 i6 (sl A n' c) n' xs hown a2 m c' news hl
    (hnews w hm) h1 h63 hby hm.below.size
  have hsh : ∃ A' cap', v' = sl A' (n' + m) cap' ∧ (Blk.own A' e sz (n' + m) cap' (xs ++ news)).on w' ∧ (0 < n' + m → ∃ g, A' = some g) := by
    obtain ⟨q1, q2⟩ := h2
    rcases q2 with ⟨rfl, q3⟩ | ⟨g, cap, cur, rfl, _, q4, q5, q6, q7, q8⟩
    · refine ⟨none, 0, by rw [q3]; rfl, ⟨q1, by omega, Nat.zero_le _, q3, rfl⟩, fun h => by omega⟩
    · refine ⟨some g, cap, rfl, ⟨q1, q5, q6, cur.toList.drop ((n' + m) * sz), ?_, ?_⟩, fun _ => ⟨g, rfl⟩⟩
      · rw [← q8, List.take_append_drop]; simpa using q7
      · rw [← q8, List.take_append_drop]; simpa using q4
  obtain ⟨A', cap', rfl, hon, hsome⟩ := hsh
  refine wpList_plain rfl fun K hK => ?_
  unfold Oper.wp execOp
  simp only [resolve, invoke, builtin, Sem.run_bind, Sem.run_pure, Result.andThen_ok, List.map_toArray, List.map_cons, List.map_nil, hs.eval x _ hx, hs.eval y _ hy, hr, Oper.upon]
  have hkey : ∀ (B : Option Nat) (q r : Nat), (sl B q r).ownBlock = B := fun B q r => by cases B <;> rfl
  rw [hkey] at h3
  refine hK _ _ (k A' cap' hsome _ _ (hs.put (Nat.blt_eq ▸ hn) _) (hm'.upd h3 hon fun j hj => ?_))
  rw [hkey, hkey] at h5
  simp only [Blk.key] at hj ⊢
  rcases h5 with h5 | h5
  · left; rw [← h5]; exact hj
  · right; rw [h5] at hj; injection hj with hj; omega

theorem run_append_none (w : World) (t ty e : TypeId) (i : TypeInfo) (ht : P.underlying t = some (.slice e)) (hi : P.info? e = some i) (B : Option Addr) (m c c' : Nat) (h : m ≤ c) :
    (Builtin.append_ #[t, t] ty #[.slice B m c, .slice none 0 c']).run P w = .ok (.slice B m c) w := by
  cases B <;> simp [Builtin.append_, run_underlying ht, sizeOf, typeInfo, hi, Builtin.lenOf, Builtin.firstCells, h, storeCells]

theorem wl_appendR {d t e n' c m sz by_ : Nat} {A : Option Nat} {x y : Operand} {yv : Value} {xs news : List Value} {R : List Blk} {ops : Array Oper} [ht : Und P t (.slice e)] [he : Elem P e sz by_] (hn : Nat.blt d n.sz = true)
    (hx : ev s x = some (sl A n' c)) (hy : ev s y = some yv) (hsel : Sel (.own A e sz n' c xs) H R)
    (hnews : ∀ w, Mem w0 w H → Reads w yv m news) (hl : news.length = m * sz) (h1 : ∀ u ∈ news, u.oneCell' = true) (hby : (n' + m) * by_ ≤ 140737488355328) (h63 : n' + m ≤ maxLen)
    (k : ∀ A' cap', (0 < m → ∃ g, A' = some g) → WL P n w0 ops rest Q ((d, sl A' (n' + m) cap') :: s) (.own A' e sz (n' + m) cap' (xs ++ news) :: R)) :
    WL P n w0 ops (⟨some d, .call { callee := .builtin .append, args := #[x, y], argTypes := #[t, t] }, ty, p, af, none⟩ :: rest) Q s H := by
  intro a w hs hm
  have hm' := hm.sel hsel
  have hb := (hm'.on _ List.mem_cons_self).1
  obtain ⟨B, c', rfl, h2, h3, h4⟩ := hnews w hm
  by_cases h0 : m = 0
  · subst h0
    have hnil : news = [] := List.eq_nil_of_length_eq_zero (by simpa using hl)
    subst hnil
    cases B with
    | some a2 => exact wl_append_addr hn hx hy hsel (fun w hm j u hu => by simp at hu) hl h1 hby h63 (fun A' cap' hA => k A' cap' (fun h => by omega)) a w hs hm
    | none =>
      obtain ⟨i, z, i1, i2, i3, i4, i5, i6⟩ := he.out
      have hr := run_append_none (P := P) w t ty e i ht.out i1 (A.map fun g => ⟨g, 0, none⟩) n' c c' hb.2.1
      refine wpList_plain rfl fun K hK => ?_
      unfold Oper.wp execOp
      simp only [resolve, invoke, builtin, Sem.run_bind, Sem.run_pure, Result.andThen_ok, List.map_toArray, List.map_cons, List.map_nil, hs.eval x _ hx, hs.eval y _ hy, sl, hr, Oper.upon]
      refine hK _ _ (k A c (fun h => by omega) _ _ (hs.put (Nat.blt_eq ▸ hn) _) ?_)
      simpa using hm'
  · obtain ⟨g, o, rfl, hro⟩ := h4 (by omega)
    exact wl_append hn hx hy hsel (fun w' hm2 => by
      obtain ⟨B, c'', e1, e2, e3, e4⟩ := hnews w' hm2
      obtain ⟨g', o', e5, hro'⟩ := e4 (by omega)
      injection e1 with e1 e1' e1''
      subst e1
      injection e5 with e5
      injection e5 with e5 e6
      subst e5; subst e6
      exact hro'.cells) hl h1 hby h63 (fun A' cap' hA => k A' cap' (fun h => hA (by omega))) a w hs hm
end

theorem v_eqlb_same {P : Program} {w0 : World} {s : Slots} {H : List Blk} {ty t t' : TypeId} {x y : Operand} {a : Bool} [ht : Und P t .bool] (hx : ev s x = some (.bool a)) (hy : ev s y = some (.bool a)) : VOp P w0 s H (.binOp .eql t x y t') ty (.bool true) := by
  have h := v_eqlb (P := P) (w0 := w0) (H := H) (ty := ty) (t := t) (t' := t') hx hy
  rwa [beq_self_eq_true] at h
theorem v_minN {P : Program} {w0 : World} {s : Slots} {H : List Blk} {ty : TypeId} {x y : Operand} {a b m : Nat} {ts : Array TypeId} (hx : ev s x = some (.int .i64 (a : Nat))) (hy : ev s y = some (.int .i64 (b : Nat))) (hm : min a b = m) :
    VOp P w0 s H (.call { callee := .builtin .min, args := #[x, y], argTypes := ts }) ty (.int .i64 (m : Nat)) := by
  have h : (if ((b : Nat) : Int) < ((a : Nat) : Int) then ((b : Nat) : Int) else ((a : Nat) : Int)) = ((m : Nat) : Int) := by
    split <;> omega
  rw [← h]
  exact v_min hx hy
theorem v_cut_str {P : Program} {w0 : World} {s : Slots} {H : List Blk} {ty t hi : Nat} {a : ByteArray} {x q : Operand} {k : IntKind} [ht : Und P t .string] (hx : ev s x = some (.string a)) (hq : ev s q = some (.int k (hi : Nat))) (h2 : hi ≤ a.size) :
    VOp P w0 s H (.slice t x none (some q) none) ty (.string (a.extract 0 hi)) := fun ρ w _ _ _ _ hρ _ => by
  have e2 : ((hi : Nat) : Int) ≤ ((a.size : Nat) : Int) := by omega
  simp [execOp, hρ x _ hx, hρ q _ hq, Instr.sliceAt, run_underlying ht.out, Instr.slice, Instr.sliceBounds, Instr.sliceBound, asIntOf, h2]

end Go.SL

/-
  Arrays of one-cell elements: built whole, indexed, sliced; rows in a variable.
-/
namespace Go.SL
open Go Go.RowKit

section
variable {P : Program} {n : Fr} {w0 : World} {Q : Post} {s : Slots} {H : List Blk} {rest : List Oper} {ty : TypeId} {p : String} {af : Array Edge}

theorem v_index_arr {x ix : Operand} {t e m j : Nat} {xs : List Value} {v : Value} {k : IntKind} [ht : Und P t (.array m e)] [he : One P e] [hz : Size P e 1] (hx : ev s x = some (.agg xs.toArray)) (hi : ev s ix = some (.int k (j : Nat))) (hj : j < m) (hv : xs[j]? = some v) :
    VOp P w0 s H (.index t x ix) ty v := fun ρ w _ _ _ _ hρ _ => by
  obtain ⟨i, h1, h2⟩ := hz.out
  obtain ⟨d, h3, h4⟩ := he.out
  have h0 : (0 : Int) ≤ (j : Int) := by omega
  have hj' : ((j : Nat) : Int) < ((m : Nat) : Int) := by omega
  simp only [execOp, hρ x _ hx, hρ ix _ hi, Instr.index, asIntOf, run_underlying ht.out, sizeOf, typeInfo, part, isAgg, run_underlying h3, Sem.run_bind, Sem.run_pure, Result.andThen_ok, h0, hj', and_self, if_true, h1, h2, Int.toNat_natCast, Nat.mul_one, List.getElem?_toArray, hv]
  cases d <;> simp_all

theorem v_slice_arr {x : Operand} {t e m g o sz : Nat} [ht : Und P t (.array m e)] [hz : Size P e sz] (hx : ev s x = some (.pointer (some ⟨g, o, none⟩))) :
    VOp P w0 s H (.slice t x none none none) ty (.slice (some ⟨g, o, none⟩) m m) := fun ρ w _ _ _ _ hρ _ => by
  obtain ⟨i, h1, h2⟩ := hz.out
  have ha : (⟨g, o, none⟩ : Addr).add 0 = ⟨g, o, none⟩ := by rw [addr_add]; simp
  simp [execOp, hρ x _ hx, Instr.sliceAt, run_underlying ht.out, Instr.sliceBounds, Instr.sureAddr, sizeOf, typeInfo, h1, ha]

/-- An array built of all its elements, one cell each. -/
theorem wl_buildArr {d t e m : Nat} {ps : List (Nat × Operand)} {vs xs zs : List Value} {ops : Array Oper} [ht : Und P t (.array m e)] [he : Size P e 1] [hz : ZeroC P t zs] (hn : Nat.blt d n.sz = true) (hps : evd s ps 0 = some vs)
    (hl : Nat.beq vs.length zs.length = true) (h1 : vs.all (fun v => Nat.beq v.cells.size 1) = true) (hx : norm (flat vs) = some xs) (k : WL P n w0 ops rest Q ((d, .agg xs.toArray) :: s) H) :
    WL P n w0 ops (⟨some d, .build t ps.toArray, ty, p, af, none⟩ :: rest) Q s H := by
  refine wl_exec rfl d rfl hn (fun a w hs hm => ?_) k
  obtain ⟨it, z, i1, i2, i3⟩ := hz.out
  obtain ⟨ie, j1, j2⟩ := he.out
  have hall : ∀ v ∈ vs, v.cells.size = 1 := by
    intro v hv
    exact Nat.eq_of_beq_eq_true (List.all_eq_true.1 h1 v hv)
  have hlen := Nat.eq_of_beq_eq_true hl
  have hfill := Great.fill_whole (s := 1) (by omega) vs z.cells hall (by rw [i3]; simp [hlen])
  rw [← evd_map hs hps] at hfill
  have hb : P.built t (ps.map fun (x : Nat × Operand) => (x.1, a.eval x.2)) = some (flat vs).toArray := by
    unfold Program.built
    simp only [i1, ht.out, i2, j1, j2]
    exact hfill
  have hr := run_build (P := P) w t (ps.map fun (x : Nat × Operand) => (x.1, a.eval x.2)).toArray (flat vs).toArray (by simpa using hb)
  rw [norm_eq hx]
  simp only [execOp, List.map_toArray]
  simp only [Sem.run_bind, hr, Result.andThen_ok, Sem.run_pure]

theorem v_conv_id {x : Operand} {t t' : TypeId} {k k' : IntKind} {a c : Int} {d : TypeDesc} [hs : Und P t d] [hd : Und P t' (.int k')] (hx : ev s x = some (.int k a)) (hw : k'.wrap a = c) : VOp P w0 s H (.convert t t' x) ty (.int k' c) := by
  have h := v_conv (P := P) (w0 := w0) (H := H) (ty := ty) (t := t) (t' := t') hx
  rwa [hw] at h
theorem v_addw_id {x y : Operand} {k : IntKind} {a b c : Int} {t t' : TypeId} (hx : ev s x = some (.int k a)) (hy : ev s y = some (.int k b)) (hw : k.wrap (a + b) = c) : VOp P w0 s H (.binOp .add t x y t') ty (.int k c) := by
  have h := v_addw (P := P) (w0 := w0) (H := H) (ty := ty) (t := t) (t' := t') hx hy
  rwa [hw] at h
theorem v_subw_id {x y : Operand} {k : IntKind} {a b c : Int} {t t' : TypeId} (hx : ev s x = some (.int k a)) (hy : ev s y = some (.int k b)) (hw : k.wrap (a - b) = c) : VOp P w0 s H (.binOp .sub t x y t') ty (.int k c) := by
  have h := v_subw (P := P) (w0 := w0) (H := H) (ty := ty) (t := t) (t' := t') hx hy
  rwa [hw] at h
theorem v_eqls_t {x y : Operand} {a b : ByteArray} {t t' : TypeId} (hx : ev s x = some (.string a)) (hy : ev s y = some (.string b)) (h : a = b) : VOp P w0 s H (.binOp .eql t x y t') ty (.bool true) := by
  have h1 := v_eqls (P := P) (w0 := w0) (H := H) (ty := ty) (t := t) (t' := t') hx hy
  rwa [decide_eq_true h] at h1
theorem v_eqls_f {x y : Operand} {a b : ByteArray} {t t' : TypeId} (hx : ev s x = some (.string a)) (hy : ev s y = some (.string b)) (h : a ≠ b) : VOp P w0 s H (.binOp .eql t x y t') ty (.bool false) := by
  have h1 := v_eqls (P := P) (w0 := w0) (H := H) (ty := ty) (t := t) (t' := t') hx hy
  rwa [decide_eq_false h] at h1
theorem wrap_u8 {a : Int} (h1 : 0 ≤ a) (h2 : a ≤ 255) : IntKind.u8.wrap a = a := by
  simp [IntKind.wrap, IntKind.bits, IntKind.signed] <;> omega

theorem Reads.of_box {w : World} {g t : Nat} {xs : List Value} (hm : Mem w0 w H) (hi : In (.box g t xs) H) (hl : Nat.ble xs.length maxLen = true) : Reads w (.slice (some ⟨g, 0, none⟩) xs.length xs.length) xs.length xs := by
  have h1 := hm.cells_box hi
  refine ⟨_, xs.length, rfl, Nat.le_refl _, by simpa using hl, fun _ => ⟨g, 0, rfl, ?_, h1⟩⟩
  have h2 := (hm.on _ hi.mem).1
  simp only [Blk.on] at h2
  exact (Array.getElem?_eq_some_iff.1 h2).1
end
end Go.SL

/-
  Drawn regions with two chains that make memory: both orders at each step; a cut behind a region.
-/
namespace Go.SL
open Go Go.RowKit

section
variable {P : Program} {n : Fr} {w0 : World} {Q : Post} {s : Slots} {H : List Blk} {l : List Oper} {f : Nat} {L : Array Bool}

theorem wa_step {i : Nat} {o : Oper} (hi : l[i]? = some o) (h : WL P n w0 l.toArray [o] (thn (WA P n w0 l Q f (L.setIfInBounds i true)) Q) s H) (a : Act) (w : World) (hs : St n s a) (hm : Mem w0 w H) :
    wpOp P l.toArray (post n w0 Q) i (wpAny P .any l.toArray (post n w0 Q) f (L.setIfInBounds i true)) a w := by
  have h1 := h a w hs hm
  have hi' : l.toArray[i]? = some o := by simpa using hi
  unfold wpOp
  simp only [hi']
  unfold wpList at h1
  have hnext : ∀ a w, wpList P l.toArray (post n w0 (thn (WA P n w0 l Q f (L.setIfInBounds i true)) Q)) [] a w → wpAny P .any l.toArray (post n w0 Q) f (L.setIfInBounds i true) a w := by
    rintro a w ⟨s', H', h1, h2, h3⟩
    exact h3 a w h1 h2
  split
  · rename_i hw
    rw [if_pos hw] at h1
    refine h1.imp (fun h2 => upon_mono hnext (fun c a w h => h) (fun a w h => h) h2) fun ⟨h2, a0, w0, h3⟩ => ⟨h2, a0, w0, h3⟩
  · rename_i hw
    rw [if_neg hw] at h1
    exact hnext _ _ h1

/-- Two operations are ready: both may come first. -/
theorem wa_two {i j : Nat} {oi oj : Oper} (hi : l[i]? = some oi) (hj : l[j]? = some oj) (hr : Region.ready .any l.toArray L = [i, j]) (h1 : WL P n w0 l.toArray [oi] (thn (WA P n w0 l Q f (L.setIfInBounds i true)) Q) s H)
    (h2 : WL P n w0 l.toArray [oj] (thn (WA P n w0 l Q f (L.setIfInBounds j true)) Q) s H) : WA P n w0 l Q (f + 1) L s H := by
  intro a w hs hm
  refine ⟨fun h0 => (by rw [hr] at h0; cases h0), fun k hk => ?_⟩
  rw [hr] at hk
  rcases List.mem_cons.1 hk with e | hk
  · subst e
    exact wa_step hi h1 a w hs hm
  · have e : k = j := by simpa using hk
    subst e
    exact wa_step hj h2 a w hs hm

/-- Behind a piece of code: one shape of slots and blocks for all ways through it. -/
theorem w_cut {ι : Type} {c : Code} {K : Slots → List Blk → Prop} (sI : ι → Slots) (HI : ι → List Blk) (h : W P n w0 c (fun e s' H' => e = .normal ∧ ∃ i, Sub (sI i) s' ∧ MSub (HI i) H') s H) (k : ∀ i, K (sI i) (HI i))
    (hK : ∀ s1 s2 H1 H2, Sub s1 s2 → MSub H1 H2 → K s1 H1 → K s2 H2) : W P n w0 c (thn K Q) s H := by
  refine w_mono (fun e s' H' hq => ?_) h
  obtain ⟨rfl, i, h1, h2⟩ := hq
  exact thn_n (hK _ _ _ _ h1 h2 (k i))
end
end Go.SL

/-
  The state behind an 'if' and at the head of a loop, told by the slots that are kept; readings of what came in.
-/
namespace Go.SL
open Go Go.RowKit

/-- The slots named, with what they hold. -/
def keep (s : Slots) : List Nat → Option Slots
  | [] => some []
  | t :: r => match look s t, keep s r with
    | some v, some s' => some ((t, v) :: s')
    | _, _ => none

theorem keep_sub {s : Slots} : ∀ {ts : List Nat} {s' : Slots}, keep s ts = some s' → Sub s' s
  | [], s', h => by simp only [keep, Option.some.injEq] at h; subst h; exact Sub.nil s
  | t :: r, s', h => by
    simp only [keep] at h
    split at h
    · rename_i v s1 hv hs
      simp only [Option.some.injEq] at h
      subst h
      exact Sub.cons hv (keep_sub hs)
    · cases h

theorem look_append (r b : Slots) (u : Nat) : look (r ++ b) u = (match look r u with | some v => some v | none => look b u) := by
  induction r with
  | nil => rfl
  | cons y r ih =>
    obtain ⟨p, q⟩ := y
    rw [List.cons_append, look_cons, look_cons, ih]
    split <;> rfl

theorem Sub.append {a b s : Slots} (ha : Sub a s) (hb : Sub b s) : Sub (a ++ b) s := by
  intro u z hu
  rw [look_append] at hu
  split at hu
  · rename_i v hv
    rw [← hu]
    exact ha u v hv
  · exact hb u z hu

theorem Sub.trans {a b c : Slots} (h : Sub a b) (k : Sub b c) : Sub a c := fun t v ht => k t v (h t v ht)

/-- One shape of slots and blocks for all ways that go on; the ways that leave are as they were. -/
def cutP {ι : Type} (sI : ι → Slots) (HI : ι → List Blk) (ok : ι → Prop) (Q : Post) : Post
  | .normal, s, H => ∃ i, ok i ∧ Sub (sI i) s ∧ MSub (HI i) H
  | e, s, H => Q e s H

section
variable {P : Program} {n : Fr} {w0 : World} {Q : Post} {s sb : Slots} {H : List Blk} {ι : Type} {sI : ι → Slots} {HI : ι → List Blk} {ok : ι → Prop} {id : Nat}

theorem cut_n (i : ι) (ho : ok i) (hs : Sub (sI i) s) (hH : MSub (HI i) H) : cutP sI HI ok Q .normal s H := ⟨i, ho, hs, hH⟩
theorem cut_r (h : Q .ret s H) : cutP sI HI ok Q .ret s H := h
theorem cut_e (h : Q (.exit id) s H) : cutP sI HI ok Q (.exit id) s H := h

theorem w_cut' {x z : Code} (sI : ι → Slots) (HI : ι → List Blk) (ok : ι → Prop) (h : W P n w0 x (cutP sI HI ok Q) s H) (k : ∀ i, ok i → W P n w0 z Q (sI i) (HI i)) :
    W P n w0 x (thn (W P n w0 z Q) Q) s H := by
  refine w_mono (fun e s' H' hq => ?_) h
  cases e with
  | normal =>
    obtain ⟨i, ho, h1, h2⟩ := hq
    exact w_sub h1 (w_msub h2 (k i ho))
  | _ => exact hq

/-- An 'if' behind which some slots are kept, and all blocks. -/
theorem w_keep {c : Operand} {x y z : Code} (ts : List Nat) (hk : keep s ts = some sb) (h : W P n w0 (.cond c x y) (cutP (fun _ : Unit => sb) (fun _ => H) (fun _ => True) Q) s H) (k : W P n w0 z Q sb H) :
    W P n w0 (.cond c x y) (thn (W P n w0 z Q) Q) s H :=
  w_cut' _ _ _ h fun _ _ => k

/-- A loop: the slots named keep what they hold; the others are told by a ghost. -/
theorem w_loopK {c : Code} (ts : List Nat) (hk : keep s ts = some sb) (sI : ι → Slots) (HI : ι → List Blk) (ok : ι → Prop) (μ : ι → Nat) (i0 : ι) (h0 : ok i0) (hs0 : Sub (sI i0) s) (hH0 : MSub (HI i0) H)
    (round : ∀ i, ok i → W P n w0 c (thn (fun s' H' => ∃ i', ok i' ∧ μ i' < μ i ∧ Sub (sI i') s' ∧ Sub sb s' ∧ MSub (HI i') H') Q) (sI i ++ sb) (HI i)) : W P n w0 (.loop c) Q s H := by
  refine w_loop (fun i => sI i ++ sb) HI ok μ i0 h0 (hs0.append (keep_sub hk)) hH0 fun i hi => w_mono (fun e s' H' hq => ?_) (round i hi)
  cases e with
  | normal =>
    obtain ⟨i', h1, h2, h3, h4, h5⟩ := hq
    exact ⟨i', h1, h2, h3.append h4, h5⟩
  | _ => exact hq

/-- In the midst of a region: some row with an element lies in a block. -/
theorem wl_some {ops : Array Oper} {rest : List Oper} {A : Option Nat} {t sz m cap : Nat} {xs : List Value} (hi : In (.own A t sz m cap xs) H) (hm : 0 < m) (h : ∀ g, A = some g → WL P n w0 ops rest Q s H) : WL P n w0 ops rest Q s H := fun a w hs hmem => by
  obtain ⟨_, _, _, h4⟩ := (hmem.on _ hi.mem).1
  cases A with
  | none => obtain ⟨rfl, _⟩ := h4; omega
  | some g => exact h g rfl a w hs hmem

/-- The first elements of a row of the call's own. -/
theorem Reads.of_own_take {w : World} {A : Option Nat} {t sz m cap k : Nat} {xs : List Value} (hm : Mem w0 w H) (hi : In (.own A t sz m cap xs) H) (hk : k ≤ m) : Reads w (sl A k cap) k (xs.take (k * sz)) := by
  obtain ⟨h1, h2, h3, h4⟩ := (hm.on _ hi.mem).1
  refine ⟨_, cap, rfl, by omega, h3, fun hpos => ?_⟩
  cases A with
  | none => obtain ⟨rfl, _⟩ := h4; omega
  | some g => exact ⟨g, 0, rfl, (Ro.of_own hm hi).take⟩

end

theorem Ro.cellV {w : World} {g o : Nat} {xs : List Value} (h : Ro w g o xs) (i : Nat) {v : Value} (hi : xs[i]? = some v) : Ro w g (o + i * 1) [v] := by
  obtain ⟨hlt, he⟩ := List.getElem?_eq_some_iff.1 hi
  have h1 := (h.drop (k := i)).take (k := 1)
  rw [List.drop_eq_getElem_cons hlt, he] at h1
  rw [Nat.mul_one]
  exact h1
theorem v_neq_same {P : Program} {w0 : World} {s : Slots} {H : List Blk} {ty t t' : TypeId} {x y : Operand} {k : IntKind} {a : Int} (hx : ev s x = some (.int k a)) (hy : ev s y = some (.int k a)) : VOp P w0 s H (.binOp .neq t x y t') ty (.bool false) := by
  have h := v_neq (P := P) (w0 := w0) (H := H) (ty := ty) (t := t) (t' := t') hx hy
  rwa [decide_eq_false (by simp)] at h
theorem v_eql_same {P : Program} {w0 : World} {s : Slots} {H : List Blk} {ty t t' : TypeId} {x y : Operand} {k : IntKind} {a : Int} (hx : ev s x = some (.int k a)) (hy : ev s y = some (.int k a)) : VOp P w0 s H (.binOp .eql t x y t') ty (.bool true) := by
  have h := v_eql (P := P) (w0 := w0) (H := H) (ty := ty) (t := t) (t' := t') hx hy
  rwa [decide_eq_true (by rfl)] at h
end Go.SL

/-
  Rows of slices: what is held behind them; bits of arithmetic.
-/
namespace Go.SL
open Go Go.RowKit

section
variable {α : Type} {enc : α → List Value} {w0 : World}

/-- The values of a row, each a slice that reads as records, whatever else is owned. -/
def Held (enc : α → List Value) (w0 : World) (F : List Blk) (vals : List Value) (Ts : List (List α)) : Prop :=
  vals.length = Ts.length ∧ ∀ (j : Nat) (x : Value) (T : List α), vals[j]? = some x → Ts[j]? = some T → ∀ w, Mem w0 w F → Reads w x T.length (T.flatMap enc)

theorem Held.nil {F : List Blk} : Held enc w0 F [] [] := ⟨rfl, fun j x T h => by simp at h⟩
theorem Held.snoc {F : List Blk} {vals : List Value} {Ts : List (List α)} (h : Held enc w0 F vals Ts) {F' : List Blk} {v : Value} {T : List α} (hF : MSub F F') (hv : ∀ w, Mem w0 w F' → Reads w v T.length (T.flatMap enc)) : Held enc w0 F' (vals ++ [v]) (Ts ++ [T]) := by
  obtain ⟨h1, h2⟩ := h
  refine ⟨by simp [h1], fun j x U hx hU w hm => ?_⟩
  rcases Nat.lt_trichotomy j vals.length with hj | hj | hj
  · rw [List.getElem?_append_left hj] at hx
    rw [List.getElem?_append_left (by omega)] at hU
    exact h2 j x U hx hU w (hF.use hm)
  · subst hj
    simp at hx
    rw [h1] at hU
    simp at hU
    subst hx hU
    exact hv w hm
  · rw [List.getElem?_eq_none (by simp; omega)] at hx
    cases hx
theorem Held.one {F : List Blk} {vals : List Value} {Ts : List (List α)} (h : Held enc w0 F vals Ts) {j : Nat} {x : Value} {T : List α} (hx : vals[j]? = some x) (hT : Ts[j]? = some T) {w : World} (hm : Mem w0 w F) : Reads w x T.length (T.flatMap enc) := h.2 j x T hx hT w hm
theorem Held.sub {F F' : List Blk} {vals : List Value} {Ts : List (List α)} (h : Held enc w0 F vals Ts) (hF : MSub F F') : Held enc w0 F' vals Ts := ⟨h.1, fun j x T hx hT w hm => h.2 j x T hx hT w (hF.use hm)⟩
end

/-- A whole element of a row of the call's own. -/
theorem v_loadi_own {α : Type} {enc : α → List Value} {m : Nat} {P : Program} {w0 : World} {s : Slots} {H : List Blk} {ty : TypeId} {x : Operand} {t T g n' c sz i : Nat} {L : List α} {a : α} [Agg P t m] (henc : ∀ a, (enc a).length = m) (hx : ev s x = some (.pointer (some ⟨g, 0 + i * m, none⟩))) (hi : In (.own (some g) T sz n' c (L.flatMap enc)) H) (ha : L[i]? = some a) :
    VOp P w0 s H (.load t x) ty (.agg (enc a).toArray) := by
  obtain ⟨hlt, rfl⟩ := List.getElem?_eq_some_iff.1 ha
  rw [Nat.zero_add] at hx
  exact v_loads_own hx hi (flat_elem henc L i hlt) (henc _)
/-- One cell of an element of a row of the call's own. -/
theorem v_loadc_own {α : Type} {enc : α → List Value} {m : Nat} {P : Program} {w0 : World} {s : Slots} {H : List Blk} {ty : TypeId} {x : Operand} {t T g n' c sz i k : Nat} {L : List α} {a : α} {v : Value} [One P t] (henc : ∀ a, (enc a).length = m) (hx : ev s x = some (.pointer (some ⟨g, 0 + i * m + k, none⟩))) (hi : In (.own (some g) T sz n' c (L.flatMap enc)) H) (hk : k < m) (ha : L[i]? = some a) (hv : (enc a)[k]? = some v) :
    VOp P w0 s H (.load t x) ty v := by
  obtain ⟨hlt, rfl⟩ := List.getElem?_eq_some_iff.1 ha
  rw [Nat.zero_add] at hx
  exact v_load_own hx hi (by rw [flat_cell henc L i k hlt hk]; exact hv)
theorem FnAt.of_eq {P : Program} {f : FuncId} {args : List Value} {w : World} {R R' : Value → List Blk → Prop} (h : FnAt P f args w R) (hr : R = R') : FnAt P f args w R' := hr ▸ h
theorem v_max3 {P : Program} {w0 : World} {s : Slots} {H : List Blk} {ty : TypeId} {x y z : Operand} {a b c : Int} {ts : Array TypeId} (hx : ev s x = some (.int .i64 a)) (hy : ev s y = some (.int .i64 b)) (hz : ev s z = some (.int .i64 c)) :
    VOp P w0 s H (.call { callee := .builtin .max, args := #[x, y, z], argTypes := ts }) ty (.int .i64 (if (if a < b then b else a) < c then c else (if a < b then b else a))) := fun ρ w _ _ _ _ hρ _ => by
  simp [execOp, hρ x _ hx, hρ y _ hy, hρ z _ hz, resolve, invoke, builtin, Builtin.max_, Builtin.max2]
theorem v_max3N {P : Program} {w0 : World} {s : Slots} {H : List Blk} {ty : TypeId} {x y z : Operand} {a b c m : Nat} {ts : Array TypeId} (hx : ev s x = some (.int .i64 (a : Nat))) (hy : ev s y = some (.int .i64 (b : Nat))) (hz : ev s z = some (.int .i64 (c : Nat))) (hm : max (max a b) c = m) :
    VOp P w0 s H (.call { callee := .builtin .max, args := #[x, y, z], argTypes := ts }) ty (.int .i64 (m : Nat)) := by
  have h := v_max3 (P := P) (w0 := w0) (H := H) (ty := ty) (ts := ts) hx hy hz
  have e : (if (if (a : Int) < (b : Int) then (b : Int) else (a : Int)) < (c : Int) then (c : Int) else (if (a : Int) < (b : Int) then (b : Int) else (a : Int))) = ((m : Nat) : Int) := by
    subst hm
    split <;> split at * <;> omega
  rwa [e] at h
/-- A test with its region: behind it some slots are kept, and all blocks. -/
theorem w_keepR {P : Program} {n : Fr} {w0 : World} {Q : Post} {s sb : Slots} {H : List Blk} {id : Nat} {ops : Array Oper} {d : Bool} {y z : Code} (ts : List Nat) (hk : keep s ts = some sb) (h : W P n w0 (.seq (.region id ops d) y) (cutP (fun _ : Unit => sb) (fun _ => H) (fun _ => True) Q) s H) (k : W P n w0 z Q sb H) :
    W P n w0 (.seq (.region id ops d) y) (thn (W P n w0 z Q) Q) s H :=
  w_cut' _ _ _ h fun _ _ => k
/-- A loop in its block: what is known behind it. -/
theorem w_cutB {P : Program} {n : Fr} {w0 : World} {Q : Post} {s : Slots} {H : List Blk} {ι : Type} {id : Nat} {c z : Code} (sI : ι → Slots) (HI : ι → List Blk) (ok : ι → Prop) (h : W P n w0 (.block id c) (cutP sI HI ok Q) s H) (k : ∀ i, ok i → W P n w0 z Q (sI i) (HI i)) :
    W P n w0 (.block id c) (thn (W P n w0 z Q) Q) s H :=
  w_cut' _ _ _ h k
end Go.SL

/-
  Regions that draw their order and whose operations make memory: each operation that does so yields a value that a ghost tells; one walk in the text's order, whatever the ghosts, serves every order.
-/
namespace Go.SL
open Go Go.RowKit

/-- A call that returns, returns one value. -/
theorem calls_det {P : Program} {f : FuncId} {args : Array Value} {w : World} {u v : Value} {A B : World → Prop} (hi : P.inits.idxOf? f = none) (h1 : Calls P f args w fun e w' => e = .returned u ∧ A w') (h2 : Calls P f args w fun e w' => e = .returned v ∧ B w') : u = v := by
  obtain ⟨e1, w1, fr1, ⟨rfl, _⟩, ⟨n1, s1⟩, f1, l1⟩ := h1 []
  obtain ⟨e2, w2, fr2, ⟨rfl, _⟩, ⟨n2, s2⟩, f2, l2⟩ := h2 []
  have d1 := step_leave_done l1 (by rw [f1]; exact hi)
  have d2 := step_leave_done l2 (by rw [f2]; exact hi)
  have key : ∀ (a b : Nat) (m x y : Machine) (o : Outcome) (w : World), a ≤ b → runN P a m = .next x → runN P b m = .next y → step P x = .ended o w → x = y := by
    intro a b m x y o w hab hx hy hd
    obtain ⟨c, rfl⟩ := Nat.exists_eq_add_of_le hab
    rw [runN_add, hx] at hy
    cases c with
    | zero => simp only [runN, Stepped.next.injEq] at hy; exact hy
    | succ c => simp [runN, hd] at hy
  have hm : lone fr1 [] w1 = lone fr2 [] w2 := by
    rcases Nat.le_total n1 n2 with h | h
    · exact key _ _ _ _ _ _ _ h s1 s2 d1
    · exact (key _ _ _ _ _ _ _ h s2 s1 d2).symm
  rw [hm, d2] at d1
  simp only [Stepped.ended.injEq, Outcome.done.injEq] at d1
  exact d1.1.symm

abbrev Gh := Option Nat × Nat
/-- The ghosts with one said anew. -/
def upd (γ : Nat → Gh) (k : Nat) (g : Gh) : Nat → Gh := fun i => if i = k then g else γ i

section
variable {P : Program} {ops : Array Oper} {md : Region.Mode}

/-- The run of an operation whose value is fixed. -/
def DetUp (P : Program) (D : World → Prop) (v : Value) : Result Next → Prop
  | .ok (.value u) w' => u = v ∧ D w'
  | .ok .skip w' => v = undef ∧ D w'
  | .ok (.enter f args) w' => P.inits.idxOf? f = none ∧ Calls P f args w' fun e w'' => e = .returned v ∧ D w''
  | _ => False

/-- The run of an operation whose value a ghost tells. -/
def NonUp (P : Program) (φ : Gh → Value) (D : Gh → World → Prop) : Result Next → Prop
  | .ok (.value u) w' => ∃ g, u = φ g ∧ D g w'
  | .ok .skip w' => ∃ g, undef = φ g ∧ D g w'
  | .ok (.enter f args) w' => Calls P f args w' fun e w'' => ∃ g, e = .returned (φ g) ∧ D g w''
  | .ok (.row row args) w' => Rows P row args w' fun u w'' => ∃ g, u = φ g ∧ D g w''
  | _ => False

variable (V : Nat → Option (Gh → Value)) (C : (Nat → Gh) → Array Bool → World → Prop)

/-- Whenever operation i may come up: it is passed over; or it yields v; or it yields what some ghost tells, and v is what the ghost foreseen tells. -/
inductive GX (P : Program) (md : Region.Mode) (ops : Array Oper) (V : Nat → Option (Gh → Value)) (C : (Nat → Gh) → Array Bool → World → Prop) (γ : Nat → Gh) (i : Nat) (o : Oper) (v : Value) (a : Act) : Prop
  | pass (hw : Region.wanted o (yielded ops a.tmps) = false) (hv : v = undef) (hC : ∀ L w, i ∈ Region.ready md ops L → C γ L w → C γ (L.setIfInBounds i true) w)
  | det (hw : Region.wanted o (yielded ops a.tmps) = true) (hV : V i = none) (hC : ∀ L w, i ∈ Region.ready md ops L → C γ L w → DetUp P (C γ (L.setIfInBounds i true)) v ((execOp a.eval o).run P w))
  | non (hw : Region.wanted o (yielded ops a.tmps) = true) (φ : Gh → Value) (hV : V i = some φ) (hv : v = φ (γ i)) (hC : ∀ L w, i ∈ Region.ready md ops L → C γ L w → NonUp P φ (fun g => C (upd γ i g) (L.setIfInBounds i true)) ((execOp a.eval o).run P w))

variable {V C}

theorem GX.of_same {γ : Nat → Gh} {i : Nat} {o : Oper} {v : Value} {a a' : Act} (hy : GX P md ops V C γ i o v a) (he : execOp a'.eval o = execOp a.eval o)
    (hw : Region.wanted o (yielded ops a'.tmps) = Region.wanted o (yielded ops a.tmps)) : GX P md ops V C γ i o v a' := by
  cases hy with
  | pass h1 h2 h3 => exact .pass (hw.trans h1) h2 h3
  | det h1 h2 h3 => exact .det (hw.trans h1) h2 (by rw [he]; exact h3)
  | non h1 φ h2 h3 h4 => exact .non (hw.trans h1) φ h2 h3 (by rw [he]; exact h4)

def xOp (P : Program) (md : Region.Mode) (ops : Array Oper) (V : Nat → Option (Gh → Value)) (C : (Nat → Gh) → Array Bool → World → Prop) (γ : Nat → Gh) (i : Nat) (K : Act → Prop) (a : Act) : Prop :=
  ∃ o v, ops[i]? = some o ∧ GX P md ops V C γ i o v a ∧ K (a.put o.dst v)

def AnyX (P : Program) (md : Region.Mode) (ops : Array Oper) (V : Nat → Option (Gh → Value)) (C : (Nat → Gh) → Array Bool → World → Prop) (γ : Nat → Gh) (Q : Act → Prop) : Nat → Array Bool → Act → Prop
  | 0, L, a => Region.ready md ops L = [] ∧ Q a
  | f + 1, L, a => (Region.ready md ops L = [] → Q a) ∧ ∀ i ∈ Region.ready md ops L, xOp P md ops V C γ i (AnyX P md ops V C γ Q f (L.setIfInBounds i true)) a

theorem xOp_mono {γ : Nat → Gh} {i : Nat} {a : Act} {K K' : Act → Prop} (h : ∀ a, K a → K' a) (hh : xOp P md ops V C γ i K a) : xOp P md ops V C γ i K' a :=
  let ⟨o, v, h1, h2, h3⟩ := hh
  ⟨o, v, h1, h2, h _ h3⟩

theorem xOp_put {γ : Nat → Gh} {i j : Nat} {oi oj : Oper} {v : Value} (hj : ops[j]? = some oj) (hap : oi.apart ops oj = true)
    (hsi : ∀ cs b, oi.op ≠ .select cs b) (hsj : ∀ cs b, oj.op ≠ .select cs b) {K : Act → Prop} {a : Act}
    (hy : GX P md ops V C γ i oi v a) (h : xOp P md ops V C γ j K (a.put oi.dst v)) :
    xOp P md ops V C γ j (fun a' => GX P md ops V C γ i oi v a' ∧ K (a'.put oi.dst v)) a := by
  obtain ⟨h1, h2, h3⟩ := Oper.apart_spec hap
  obtain ⟨o, u, ho, hg, hk⟩ := h
  have e : o = oj := Option.some.inj (ho.symm.trans hj)
  subst e
  refine ⟨o, u, ho, hg.of_same (execOp_put o hsj a oi.dst v h1).symm (wanted_put o a oi.dst v h1).symm, hy.of_same (execOp_put oi hsi a o.dst u h3) (wanted_put oi a o.dst u h3), ?_⟩
  rw [← Act.put_comm a v u h2]
  exact hk

theorem AnyX_first {γ : Nat → Gh} {Q : Act → Prop} {i : Nat} {oi : Oper} {v : Value} (hi : ops[i]? = some oi) (hsel : ∀ (j : Nat) (o : Oper) cs b, ops[j]? = some o → o.op ≠ .select cs b) :
    ∀ (f : Nat) (L : Array Bool) (a : Act),
      (∀ j oj, ops[j]? = some oj → j ≠ i → L.getD j true = false → (∀ e ∈ oj.after, Region.binds md e = true → e.on ≠ i) → oi.apart ops oj = true) →
      i ∈ Region.ready md ops L → GX P md ops V C γ i oi v a → AnyX P md ops V C γ Q f (L.setIfInBounds i true) (a.put oi.dst v) → AnyX P md ops V C γ Q (f + 1) L a
  | 0, L, a, _, hr, hy, H => ⟨fun h => (by rw [h] at hr; cases hr), fun j hj => by
      by_cases hji : j = i
      · subst hji; exact ⟨oi, v, hi, hy, H⟩
      · have := ready_mono hj hji
        rw [H.1] at this
        cases this⟩
  | f + 1, L, a, hfree, hr, hy, H => ⟨fun h => (by rw [h] at hr; cases hr), fun j hj => by
      by_cases hji : j = i
      · subst hji; exact ⟨oi, v, hi, hy, H⟩
      · have h1 := H.2 j (ready_mono hj hji)
        obtain ⟨hjun, oj, hoj, hall⟩ := mem_ready.1 hj
        have hnot : ∀ e ∈ oj.after, Region.binds md e = true → e.on ≠ i := fun e he hb heq => by
          have h1 := hall e he hb
          have h0 := (mem_ready.1 hr).1
          rw [heq] at h1
          rcases Nat.lt_or_ge i L.size with h' | h'
          · simp [h'] at h0 h1; rw [h0] at h1; cases h1
          · simp [Array.getElem?_eq_none h'] at h1
        have h2 := xOp_put hoj (hfree j oj hoj hji hjun hnot) (fun cs b => hsel i oi cs b hi) (fun cs b => hsel j oj cs b hoj) hy h1
        have hfree' : ∀ k ok, ops[k]? = some ok → k ≠ i → (L.setIfInBounds j true).getD k true = false →
            (∀ e ∈ ok.after, Region.binds md e = true → e.on ≠ i) → oi.apart ops ok = true := fun k ok hk hki hun hno => by
          refine hfree k ok hk hki ?_ hno
          by_cases hjk : j = k
          · subst hjk; exact hjun
          · rw [getD_set_ne true hjk] at hun; exact hun
        refine xOp_mono (fun a' h3 => AnyX_first hi hsel f (L.setIfInBounds j true) a' hfree' (ready_mono hr (Ne.symm hji)) h3.1 ?_) h2
        rw [Array.setIfInBounds_comm _ _ hji]
        exact h3.2⟩

/-- The walk in the text's order. -/
def wpX (P : Program) (md : Region.Mode) (ops : Array Oper) (V : Nat → Option (Gh → Value)) (C : (Nat → Gh) → Array Bool → World → Prop) (γ : Nat → Gh) (Q : Act → Prop) : List Oper → Nat → Act → Prop
  | [], _, a => Q a
  | o :: r, k, a => ∃ v, GX P md ops V C γ k o v a ∧ wpX P md ops V C γ Q r (k + 1) (a.put o.dst v)

theorem AnyX_lex {γ : Nat → Gh} {Q : Act → Prop} (hs : Region.noSelect ops = true) : ∀ (l : List Oper) (k : Nat) (L : Array Bool) (a : Act), (∀ j, l[j]? = ops[k + j]?) →
    Region.lexFrom md ops l.length k L = true → wpX P md ops V C γ Q l k a → AnyX P md ops V C γ Q l.length L a
  | [], _, _, _, _, hB, h => ⟨by simpa [Region.lexFrom] using hB, h⟩
  | o :: l, k, L, a, hl, hB, h => by
    have h0 : ops[k]? = some o := by simpa using (hl 0).symm
    simp only [List.length_cons, Region.lexFrom, Bool.and_eq_true] at hB
    obtain ⟨⟨hr, hf⟩, hB'⟩ := hB
    obtain ⟨v, hy, hK⟩ := h
    exact AnyX_first h0 (Region.noSelect_spec hs) l.length L a (Region.free_spec h0 hf) (by simpa using hr) hy
      (AnyX_lex hs l (k + 1) _ _ (fun j => by have := hl (j + 1); simpa [Nat.add_assoc, Nat.add_comm 1 j] using this) hB' hK)

/-- The same ghosts for what has been carried out. -/
def agree (L : Array Bool) (γ γ' : Nat → Gh) : Prop := ∀ i, L.getD i false = true → γ i = γ' i

theorem wpAny_of_AnyX {Q : (Nat → Gh) → Act → Prop} {Q' : Exit → Act → World → Prop} (hloc : ∀ L γ γ' w, agree L γ γ' → C γ L w → C γ' L w) (hsz : ∀ γ L w, C γ L w → L.size = ops.size) (hQ : ∀ γ L a w, Region.ready md ops L = [] → C γ L w → Q γ a → Q' .normal a w) :
    ∀ (f : Nat) (L : Array Bool) (a : Act) (w : World) (γ : Nat → Gh), C γ L w → (∀ γ', agree L γ γ' → AnyX P md ops V C γ' (Q γ') f L a) → wpAny P md ops Q' f L a w
  | 0, L, a, w, γ, hC, h => ⟨(h γ fun _ _ => rfl).1, hQ γ L a w (h γ fun _ _ => rfl).1 hC (h γ fun _ _ => rfl).2⟩
  | f + 1, L, a, w, γ, hC, h => ⟨fun h0 => hQ γ L a w h0 hC ((h γ fun _ _ => rfl).1 h0), fun i hi => by
      obtain ⟨o, v, ho, hg, hk⟩ := (h γ fun _ _ => rfl).2 i hi
      obtain ⟨hun, _⟩ := mem_ready.1 hi
      have hlt : i < L.size := by
        rw [hsz γ L w hC]
        exact (Array.getElem?_eq_some_iff.1 ho).1
      have hi0 : L.getD i false = false := by
        simp [hlt] at hun ⊢; exact hun
      have hsub : ∀ γ' γ'', agree (L.setIfInBounds i true) γ' γ'' → agree L γ' γ'' := fun γ' γ'' hag j hj => by
        refine hag j ?_
        by_cases e : i = j
        · subst e; rw [hi0] at hj; cases hj
        · rw [getD_set_ne false e]; exact hj
      have hat : ∀ γ' γ'', agree (L.setIfInBounds i true) γ' γ'' → γ' i = γ'' i := fun γ' γ'' hag => hag i (by simp [hlt])
      have hupd : ∀ g, agree L γ (upd γ i g) := fun g j hj => by
        have : j ≠ i := fun e => by subst e; rw [hi0] at hj; cases hj
        simp [upd, this]
      -- what another prophecy says of this operation
      have other : ∀ γ'', agree L γ γ'' → ∃ v'', GX P md ops V C γ'' i o v'' a ∧ AnyX P md ops V C γ'' (Q γ'') f (L.setIfInBounds i true) (a.put o.dst v'') := fun γ'' hag => by
        obtain ⟨o'', v'', ho'', hg'', hk''⟩ := (h γ'' hag).2 i hi
        have e : o'' = o := Option.some.inj (ho''.symm.trans ho)
        subst e
        exact ⟨v'', hg'', hk''⟩
      unfold wpOp
      simp only [ho]
      cases hg with
      | pass hw hv hc =>
        subst hv
        simp only [hw, Bool.false_eq_true, if_false]
        refine wpAny_of_AnyX hloc hsz hQ f _ _ _ γ (hc L w hi hC) fun γ'' hag => ?_
        obtain ⟨v'', hg'', hk''⟩ := other γ'' (hsub _ _ hag)
        cases hg'' with
        | pass _ hv'' _ => subst hv''; exact hk''
        | det hw'' _ _ => rw [hw] at hw''; cases hw''
        | non hw'' _ _ _ _ => rw [hw] at hw''; cases hw''
      | det hw hV hc =>
        simp only [hw, if_true]
        refine .inl ?_
        have h1 := hc L w hi hC
        have h2 : ∀ γ'', agree L γ γ'' → ∃ v'', DetUp P (C γ'' (L.setIfInBounds i true)) v'' ((execOp a.eval o).run P w) ∧ AnyX P md ops V C γ'' (Q γ'') f (L.setIfInBounds i true) (a.put o.dst v'') := fun γ'' hag => by
          obtain ⟨v'', hg'', hk''⟩ := other γ'' hag
          cases hg'' with
          | pass hw'' _ _ => rw [hw] at hw''; cases hw''
          | det _ _ hc'' => exact ⟨v'', hc'' L w hi (hloc L γ γ'' w hag hC), hk''⟩
          | non _ _ hV'' _ _ => rw [hV] at hV''; cases hV''
        unfold Oper.wp
        generalize (execOp a.eval o).run P w = r at h1 h2 ⊢
        cases r with
        | ok x w' =>
          cases x <;> simp only [DetUp] at h1 h2 <;> simp only [Oper.upon]
          case value u =>
            obtain ⟨rfl, h3⟩ := h1
            refine wpAny_of_AnyX hloc hsz hQ f _ _ _ γ h3 fun γ'' hag => ?_
            obtain ⟨v'', ⟨rfl, _⟩, hk''⟩ := h2 γ'' (hsub _ _ hag)
            exact hk''
          case skip =>
            obtain ⟨rfl, h3⟩ := h1
            refine wpAny_of_AnyX hloc hsz hQ f _ _ _ γ h3 fun γ'' hag => ?_
            obtain ⟨v'', ⟨rfl, _⟩, hk''⟩ := h2 γ'' (hsub _ _ hag)
            exact hk''
          case enter g args =>
            obtain ⟨hin, h3⟩ := h1
            refine h3.mono fun e w'' ⟨he, h4⟩ => ?_
            subst he
            refine wpAny_of_AnyX hloc hsz hQ f _ _ _ γ h4 fun γ'' hag => ?_
            obtain ⟨v'', ⟨_, h5⟩, hk''⟩ := h2 γ'' (hsub _ _ hag)
            rw [calls_det hin h3 h5]
            exact hk''
        | halt x w' => simp only [DetUp] at h1
      | non hw φ hV hv hc =>
        simp only [hw, if_true]
        refine .inl ?_
        have h1 := hc L w hi hC
        have h2 : ∀ g γ'', agree (L.setIfInBounds i true) (upd γ i g) γ'' → AnyX P md ops V C γ'' (Q γ'') f (L.setIfInBounds i true) (a.put o.dst (φ g)) := fun g γ'' hag => by
          have hag' : agree L γ γ'' := fun j hj => (hupd g j hj).trans (hsub _ _ hag j hj)
          have hgi : γ'' i = g := by rw [← hat _ _ hag]; simp [upd]
          obtain ⟨v'', hg'', hk''⟩ := other γ'' hag'
          cases hg'' with
          | pass hw'' _ _ => rw [hw] at hw''; cases hw''
          | det _ hV'' _ => rw [hV] at hV''; cases hV''
          | non _ φ'' hV'' hv'' _ =>
            rw [hV] at hV''
            injection hV'' with hV''
            subst hV''
            rw [hv'', hgi] at hk''
            exact hk''
        unfold Oper.wp
        generalize (execOp a.eval o).run P w = r at h1 ⊢
        cases r with
        | ok x w' =>
          cases x <;> simp only [NonUp] at h1 <;> simp only [Oper.upon]
          case value u =>
            obtain ⟨g, rfl, h3⟩ := h1
            exact wpAny_of_AnyX hloc hsz hQ f _ _ _ (upd γ i g) h3 fun γ'' hag => h2 g γ'' hag
          case skip =>
            obtain ⟨g, hg, h3⟩ := h1
            rw [hg]
            exact wpAny_of_AnyX hloc hsz hQ f _ _ _ (upd γ i g) h3 fun γ'' hag => h2 g γ'' hag
          case enter k args =>
            refine h1.mono fun e w'' ⟨g, he, h4⟩ => ?_
            subst he
            exact wpAny_of_AnyX hloc hsz hQ f _ _ _ (upd γ i g) h4 fun γ'' hag => h2 g γ'' hag
          case row k args =>
            refine Rows.mono h1 fun u w'' ⟨g, he, h4⟩ => ?_
            subst he
            exact wpAny_of_AnyX hloc hsz hQ f _ _ _ (upd γ i g) h4 fun γ'' hag => h2 g γ'' hag
        | halt x w' => simp only [NonUp] at h1⟩
end

/-! ### In the judgement -/

section
variable {P : Program} {n : Fr} {w0 : World} {Q : Post} {s : Slots} {H : List Blk} {l rest : List Oper} {ty : TypeId} {p : String} {af : Array Edge}

/-- The class of worlds, by what has been carried out and the ghosts. -/
def ClsX (w0 : World) (l : List Oper) (HL : Done → (Nat → Gh) → List Blk) (γ : Nat → Gh) (L : Array Bool) (w : World) : Prop := Cls w0 l (fun D => HL D γ) L w

def WX (P : Program) (n : Fr) (w0 : World) (l : List Oper) (V : Nat → Option (Gh → Value)) (HL : Done → (Nat → Gh) → List Blk) (γ : Nat → Gh) (K : Slots → Prop) (rest : List Oper) (k : Nat) (s : Slots) : Prop :=
  ∀ a, St n s a → (∀ j, rest[j]? = l[k + j]?) → wpX P .any l.toArray V (ClsX w0 l HL) γ (fun a' => ∃ s', St n s' a' ∧ K s') rest k a

/-- HL looks at the ghosts of what has been carried out alone. -/
def LocalX (HL : Done → (Nat → Gh) → List Blk) : Prop := ∀ (D : Done) (γ γ' : Nat → Gh), (∀ i, D i = true → γ i = γ' i) → HL D γ = HL D γ'

theorem w_drawX {id : Nat} (V : Nat → Option (Gh → Value)) (HL : Done → (Nat → Gh) → List Blk) (hm : P.follows .mixedOrders = true) (hB : Region.lexB .any l.toArray = true) (hloc : LocalX HL) (h0 : ∀ γ, MSub (HL (fun _ => false) γ) H)
    (h : ∀ γ, WX P n w0 l V HL γ (fun s' => ∀ D : Done, (∀ i, i < l.length → D i = true) → Q .normal s' (HL D γ)) l 0 s) : W P n w0 (.region id l.toArray true) Q s H := by
  intro a w hs hmem
  have hrep : done (Array.replicate l.toArray.size false) = fun _ => false := by
    funext i
    unfold done
    rw [Array.getD_eq_getD_getElem?, Array.getElem?_replicate]
    split <;> rfl
  let γ0 : Nat → Gh := fun _ => (none, 0)
  have hB' := hB
  simp only [Region.lexB, Bool.and_eq_true] at hB'
  refine wp_region_any hm ?_
  refine wpAny_of_AnyX (V := V) (C := ClsX w0 l HL) (Q := fun γ a' => ∃ s', St n s' a' ∧ ∀ D : Done, (∀ i, i < l.length → D i = true) → Q .normal s' (HL D γ)) ?_ ?_ ?_ _ _ _ _ γ0 ?_ ?_
  · rintro L γ γ' w' hag ⟨h1, h2, h3⟩
    refine ⟨h1, h2, ?_⟩
    show Mem w0 w' (HL (done L) γ')
    rw [hloc (done L) γ' γ fun i hi => (hag i hi).symm]
    exact h3
  · rintro γ L w' ⟨h1, _⟩
    simpa using h1
  · rintro γ L a' w' hr ⟨hsz, hcl, hmem'⟩ ⟨s', h2, h3⟩
    refine ⟨s', HL (done L) γ, h2, hmem', h3 _ fun i hi => ?_⟩
    -- nothing is ready: all is done
    have all : ∀ i, i < l.length → done L i = true := by
      intro i
      induction i using Nat.strongRecOn with
      | _ i ih =>
        intro hi
        cases hd : done L i with
        | true => rfl
        | false =>
          exfalso
          have hlx : ∀ (f k : Nat) (L0 : Array Bool), Region.lexFrom .any l.toArray f k L0 = true → ∀ j o, k ≤ j → j < k + f → l[j]? = some o → ∀ x ∈ waits o, L0.getD x false = true ∨ (k ≤ x ∧ x < j) := by
            intro f
            induction f with
            | zero => intro k L0 _ j o h1 h2; omega
            | succ f ihf =>
              intro k L0 hlex j o h1 h2 ho x hx
              simp only [Region.lexFrom, Bool.and_eq_true] at hlex
              obtain ⟨⟨hrk, _⟩, hrest⟩ := hlex
              by_cases hjk : j = k
              · subst hjk
                obtain ⟨_, o', ho', hall⟩ := mem_ready.1 (by simpa using hrk : j ∈ Region.ready .any l.toArray L0)
                rw [List.getElem?_toArray, ho] at ho'
                injection ho' with ho'
                subst ho'
                obtain ⟨e, he, hb, rfl⟩ := waits_mem.1 hx
                exact .inl (hall e he hb)
              · rcases ihf (k + 1) _ hrest j o (by omega) (by omega) ho x hx with h | ⟨h3, h4⟩
                · by_cases hxk : k = x
                  · subst hxk; right; omega
                  · rw [getD_set_ne false hxk] at h; exact .inl h
                · right; omega
          obtain ⟨o, ho⟩ : ∃ o, l[i]? = some o := ⟨_, List.getElem?_eq_getElem hi⟩
          have hmem : i ∈ Region.ready .any l.toArray L := by
            refine mem_ready.2 ⟨?_, o, by simpa using ho, fun e he hb => ?_⟩
            · have : i < L.size := by omega
              unfold done at hd
              simp [this] at hd ⊢; exact hd
            · have hx := hlx l.toArray.size 0 _ hB'.2 i o (Nat.zero_le _) (by simpa using hi) ho e.on (waits_mem.2 ⟨e, he, hb, rfl⟩)
              rcases hx with h | ⟨_, h⟩
              · have : (done (Array.replicate l.toArray.size false)) e.on = true := h
                rw [hrep] at this; cases this
              · exact ih e.on h (by omega)
          rw [hr] at hmem
          cases hmem
    exact all i hi
  · refine ⟨by simp, fun i o _ hi => (by rw [hrep] at hi; cases hi), ?_⟩
    rw [hrep]
    exact (h0 γ0).use hmem.drew
  · intro γ' _
    have h1 := h γ' a hs (by simp)
    have := AnyX_lex (md := .any) hB'.1 l.toArray.toList 0 (Array.replicate l.toArray.size false) a (by simp) (by simpa using hB'.2) (by simpa using h1)
    simpa using this

variable {V : Nat → Option (Gh → Value)} {HL : Done → (Nat → Gh) → List Blk} {γ : Nat → Gh} {K : Slots → Prop} {k : Nat}

theorem wx_nil (h : K s) : WX P n w0 l V HL γ K [] k s := fun _ hs _ => ⟨s, hs, h⟩

theorem wx_head {o : Oper} (hl : ∀ j, (o :: rest)[j]? = l[k + j]?) : l[k]? = some o ∧ ∀ j, rest[j]? = l[k + 1 + j]? :=
  ⟨by simpa using (hl 0).symm, fun j => by have := hl (j + 1); simpa [Nat.add_assoc, Nat.add_comm 1 j] using this⟩

/-- A block that is none: in the place of one that is not made yet. -/
def nilB : Blk := .own none 0 0 0 0 []
theorem nilB_on (w : World) : nilB.on w := ⟨by simp, Nat.le_refl _, Nat.zero_le _, rfl, rfl⟩
theorem MSub.nilB {H H' : List Blk} (h : MSub H H') : ∀ {w0 w : World}, Mem w0 w H' → Mem w0 w (Go.SL.nilB :: H) := fun hm =>
  (h.use hm).new (b := Go.SL.nilB) ⟨rfl, rfl, rfl, Nat.le_refl _, fun _ _ _ => rfl⟩ (nilB_on _) (fun k hk => by cases hk)

/-- The ghosts of what has been carried out. -/
def gat (D : Done) (γ : Nat → Gh) : Nat → Gh := fun i => bif D i then γ i else (none, 0)
theorem localX_gat (HX : Done → (Nat → Gh) → List Blk) : LocalX fun D γ => HX D (gat D γ) := fun D γ γ' h => by
  have : gat D γ = gat D γ' := by
    funext i
    unfold gat
    cases hi : D i with
    | false => rfl
    | true => exact h i hi
  show HX D (gat D γ) = HX D (gat D γ')
  rw [this]

/-- Does the guard let the operation run? -/
def gok (l : List Oper) (s : Slots) : Option (Nat × Bool) → Option Bool
  | none => some true
  | some (j, want) => match gd l j with
    | none => none
    | some d => match look s d with
      | none => none
      | some v => some (boolOf v == some want)

theorem gok_wanted {o : Oper} {g : Option (Nat × Bool)} {b : Bool} {a : Act} (hg : o.guard = g) (h : gok l s g = some b) (hs : St n s a) : Region.wanted o (yielded l.toArray a.tmps) = b := by
  unfold Region.wanted
  rw [hg]
  cases g with
  | none => simp only [gok, Option.some.injEq] at h; exact h
  | some x =>
    obtain ⟨j, want⟩ := x
    simp only [gok] at h
    split at h
    · cases h
    · rename_i d hd
      split at h
      · cases h
      · rename_i v hv
        simp only [Option.some.injEq] at h
        simp only [yielded_of hs hd hv]
        exact h

theorem w_drawXg {id : Nat} (V : Nat → Option (Gh → Value)) (HX : Done → (Nat → Gh) → List Blk) (hm : P.follows .mixedOrders = true) (hB : Region.lexB .any l.toArray = true) (h0 : ∀ γ, MSub (HX (fun _ => false) (gat (fun _ => false) γ)) H)
    (h : ∀ γ, WX P n w0 l V (fun D γ => HX D (gat D γ)) γ (fun s' => ∀ D : Done, (∀ i, i < l.length → D i = true) → Q .normal s' (HX D (gat D γ))) l 0 s) : W P n w0 (.region id l.toArray true) Q s H :=
  w_drawX V _ hm hB (localX_gat HX) h0 h

/-- An operation that this one waits for, at once or by way of others, has been carried out. -/
theorem Turn.early {o : Oper} {D : Done} (ht : Turn l k o D) {i f : Nat} (h : (waits o).any (fun j => reaches l f j i) = true) : D i = true := by
  obtain ⟨j, hj, hr⟩ := List.any_eq_true.1 h
  exact reaches_done ht.closed f j i hr (ht.before j hj)

variable {gu : Option (Nat × Bool)}

/-- An operation that only yields a value. -/
theorem wx_v {op : Op} {d : Nat} {v : Value} (hn : Nat.blt d n.sz = true) (hg : gok l s gu = some true) (hV : V k = none) (hv : ∀ D, Turn l k ⟨some d, op, ty, p, af, gu⟩ D → VOp P w0 s (HL D γ) op ty v) (hk : ∀ D, HL (put D k) γ = HL D γ) (h : WX P n w0 l V HL γ K rest (k + 1) ((d, v) :: s)) :
    WX P n w0 l V HL γ K (⟨some d, op, ty, p, af, gu⟩ :: rest) k s := by
  intro a hs hl
  obtain ⟨h0, hl'⟩ := wx_head hl
  refine ⟨v, .det (gok_wanted rfl hg hs) hV fun L w hr hc => ?_, h _ (hs.put (Nat.blt_eq ▸ hn) v) hl'⟩
  obtain ⟨ht, hd, hnext⟩ := turn_of h0 hr hc
  have h1 := hv _ ht a.eval w (some d) p af gu hs.eval hc.2.2
  rw [h1]
  exact ⟨rfl, hnext w (by rw [hk]; exact hc.2.2)⟩

/-- It is passed over. -/
theorem wx_gno {op : Op} {dst : Option Tmp} {d : Nat} (hd : dst = some d) (hn : Nat.blt d n.sz = true) (hg : gok l s gu = some false) (hk : ∀ D, HL (put D k) γ = HL D γ) (h : WX P n w0 l V HL γ K rest (k + 1) ((d, undef) :: s)) :
    WX P n w0 l V HL γ K (⟨dst, op, ty, p, af, gu⟩ :: rest) k s := by
  subst hd
  intro a hs hl
  obtain ⟨h0, hl'⟩ := wx_head hl
  refine ⟨undef, .pass (gok_wanted rfl hg hs) rfl fun L w hr hc => ?_, h _ (hs.put (Nat.blt_eq ▸ hn) undef) hl'⟩
  obtain ⟨ht, hd, hnext⟩ := turn_of h0 hr hc
  exact hnext w (by rw [hk]; exact hc.2.2)

/-- The guard is not known: both ways. -/
theorem wx_gsplit {op : Op} {dst : Option Tmp} {j d : Nat} {want b : Bool} (_hj : gd l j = some d) (hv : look s d = some (.bool b))
    (k1 : b = true → WX P n w0 l V HL γ K (⟨dst, op, ty, p, af, some (j, want)⟩ :: rest) k ((d, .bool true) :: s))
    (k2 : b = false → WX P n w0 l V HL γ K (⟨dst, op, ty, p, af, some (j, want)⟩ :: rest) k ((d, .bool false) :: s)) :
    WX P n w0 l V HL γ K (⟨dst, op, ty, p, af, some (j, want)⟩ :: rest) k s := by
  intro a hs hl
  cases b with
  | true => exact k1 rfl a (hs.shadow hv) hl
  | false => exact k2 rfl a (hs.shadow hv) hl

/-- A call that leaves what existed as it was, and yields v. -/
theorem wx_callp {d : Nat} {f : FuncId} {xs : List Operand} {vs : List Value} {v : Value} {ts : Array TypeId} [Callable P f] (hn : Nat.blt d n.sz = true) (hg : gok l s gu = some true) (hV : V k = none) (hin : P.inits.idxOf? f = none) (hx : evs s xs = some vs)
    (hF : ∀ D, Turn l k ⟨some d, .call { callee := .value (.func f), args := xs.toArray, argTypes := ts }, ty, p, af, gu⟩ D → ∀ w, Mem w0 w (HL D γ) → Pure P f vs w v) (hk : ∀ D, HL (put D k) γ = HL D γ) (h : WX P n w0 l V HL γ K rest (k + 1) ((d, v) :: s)) :
    WX P n w0 l V HL γ K (⟨some d, .call { callee := .value (.func f), args := xs.toArray, argTypes := ts }, ty, p, af, gu⟩ :: rest) k s := by
  intro a hs hl
  obtain ⟨h0, hl'⟩ := wx_head hl
  refine ⟨v, .det (gok_wanted rfl hg hs) hV fun L w hr hc => ?_, h _ (hs.put (Nat.blt_eq ▸ hn) v) hl'⟩
  obtain ⟨ht, hd, hnext⟩ := turn_of h0 hr hc
  have hrun := run_call (P := P) (w := w) (ρ := a.eval) (d := some d) (ty := ty) (p := p) (af := af) (g := gu) (f := f) (c := .func f) (xs := xs) (caps := []) (ts := ts) rfl (evs_map hs hx)
  rw [List.append_nil] at hrun
  rw [hrun]
  refine ⟨hin, Calls.mono (hF _ ht w hc.2.2) ?_⟩
  rintro e w' ⟨u, H', rfl, hm', rfl⟩
  exact ⟨rfl, hnext w' (by rw [hk]; exact (hc.2.2.call hm').right)⟩

/-- What a list of one operation comes to. -/
theorem nonUp_of_wl {op : Op} {d : Nat} {φ : Gh → Value} {a : Act} {w : World} {H' : List Blk} {B : Gh → List Blk} (hdn : d < n.sz) (hs : St n s a) (hm : Mem w0 w H')
    (h : WL P n w0 #[] [⟨some d, op, ty, p, af, none⟩] (fun e s' H' => e = .normal ∧ ∃ g, look s' d = some (φ g) ∧ MSub (B g) H') s H') : NonUp P φ (fun g w' => Mem w0 w' (B g)) ((execOp a.eval ⟨some d, op, ty, p, af, gu⟩).run P w) := by
  have h1 := h a w hs hm
  unfold wpList at h1
  simp only [Region.wanted, if_true] at h1
  refine h1.elim (fun h1 => ?_) (fun ⟨_, a0, w1, s', H'', _, _, he, _⟩ => by cases he)
  have hsz : d < a.tmps.size := by rw [hs.size]; exact hdn
  have nxt : ∀ (v : Value) (w' : World) (a' : Act), a'.tmps[d]? = some v → wpList P #[] (post n w0 fun e s' H' => e = .normal ∧ ∃ g, look s' d = some (φ g) ∧ MSub (B g) H') [] a' w' → ∃ g, v = φ g ∧ Mem w0 w' (B g) := by
    rintro v w' a' ha' ⟨s', H'', hs', hm', _, g, hg, hsub⟩
    have := hs'.has d _ hg
    rw [ha'] at this
    exact ⟨g, Option.some.inj this, hsub.use hm'⟩
  have hput : ∀ (a' : Act) (v : Value), a'.tmps.size = a.tmps.size → (a'.put (some d) v).tmps[d]? = some v := fun a' v h => by simp [Act.put, h, hsz]
  have hexec : execOp a.eval ⟨some d, op, ty, p, af, gu⟩ = execOp a.eval ⟨some d, op, ty, p, af, none⟩ := rfl
  rw [hexec]
  unfold Oper.wp at h1
  generalize (execOp a.eval ⟨some d, op, ty, p, af, none⟩).run P w = r at h1 ⊢
  cases r with
  | ok x w' =>
    cases x <;> simp only [Oper.upon] at h1 <;> simp only [NonUp]
    case value u => exact nxt u w' _ (hput a u rfl) h1
    case skip => exact nxt undef w' _ (hput a undef rfl) h1
    case defer dd =>
      obtain ⟨s', H'', hs', _⟩ := h1
      have h2 := congrArg List.length (hs'.defers.trans hs.defers.symm)
      simp [Act.put] at h2
    case enter k args =>
      refine h1.mono fun e w'' he => ?_
      cases e with
      | returned v =>
        obtain ⟨g, hv, hg⟩ := nxt v w'' _ (hput a v rfl) he
        exact ⟨g, by rw [hv], hg⟩
      | panicked c =>
        obtain ⟨s', H'', _, _, he', _⟩ := he
        cases he'
      | outgrown =>
        obtain ⟨a0, w1, s', H'', _, _, he', _⟩ := he
        cases he'
    case row k args => exact Rows.mono h1 fun u w'' he => nxt u w'' _ (hput a u rfl) he
  | halt x w' =>
    cases x <;> simp only [Oper.upon] at h1
    all_goals
      obtain ⟨s', H'', _, _, he', _⟩ := h1
      cases he'

/-- An operation that makes memory, or whose value is not told beforehand: shown by itself. -/
theorem wx_non {op : Op} {d : Nat} {φ : Gh → Value} (hn : Nat.blt d n.sz = true) (hg : gok l s gu = some true) (hV : V k = some φ)
    (h : ∀ D, Turn l k ⟨some d, op, ty, p, af, gu⟩ D → WL P n w0 #[] [⟨some d, op, ty, p, af, none⟩] (fun e s' H' => e = .normal ∧ ∃ g, look s' d = some (φ g) ∧ MSub (HL (put D k) (upd γ k g)) H') s (HL D γ))
    (h' : WX P n w0 l V HL γ K rest (k + 1) ((d, φ (γ k)) :: s)) : WX P n w0 l V HL γ K (⟨some d, op, ty, p, af, gu⟩ :: rest) k s := by
  intro a hs hl
  obtain ⟨h0, hl'⟩ := wx_head hl
  refine ⟨φ (γ k), .non (gok_wanted rfl hg hs) φ hV rfl fun L w hr hc => ?_, h' _ (hs.put (Nat.blt_eq ▸ hn) _) hl'⟩
  obtain ⟨ht, hd, hnext⟩ := turn_of h0 hr hc
  have h1 := nonUp_of_wl (gu := gu) (Nat.blt_eq ▸ hn) hs hc.2.2 (h _ ht)
  have hm2 : ∀ g w', Mem w0 w' (HL (put (done L) k) (upd γ k g)) → ClsX w0 l HL (upd γ k g) (L.setIfInBounds k true) w' := fun g w' hm' => by
    obtain ⟨hsz, hcl, _⟩ := hc
    have hlt : k < L.size := by rw [hsz]; exact (List.getElem?_eq_some_iff.1 h0).1
    have hcl' : ∀ i x, l[i]? = some x → done (L.setIfInBounds k true) i = true → ∀ e ∈ x.after, Region.binds .any e = true → done (L.setIfInBounds k true) e.on = true := by
      intro i x hx hi e he hb
      rw [hd] at hi ⊢
      by_cases hik : i = k
      · subst hik
        rw [h0] at hx
        injection hx with hx
        have h2 := ht.before e.on (waits_mem.2 ⟨e, by rw [hx]; exact he, hb, rfl⟩)
        unfold put
        split
        · rfl
        · exact h2
      · have hi' : done L i = true := by unfold put at hi; rwa [if_neg hik] at hi
        have := hcl i x hx hi' e he hb
        unfold put
        split
        · rfl
        · exact this
    exact ⟨by simpa using hsz, hcl', by rw [hd]; exact hm'⟩
  generalize (execOp a.eval ⟨some d, op, ty, p, af, gu⟩).run P w = r at h1 ⊢
  cases r with
  | ok x w' =>
    cases x <;> simp only [NonUp] at h1 ⊢
    case value u => obtain ⟨g, hv, hg⟩ := h1; exact ⟨g, hv, hm2 g w' hg⟩
    case skip => obtain ⟨g, hv, hg⟩ := h1; exact ⟨g, hv, hm2 g w' hg⟩
    case enter k args => exact h1.mono fun e w'' ⟨g, hv, hg⟩ => ⟨g, hv, hm2 g w'' hg⟩
    case row k args => exact Rows.mono h1 fun u w'' ⟨g, hv, hg⟩ => ⟨g, hv, hm2 g w'' hg⟩
  | halt x w' => simp only [NonUp] at h1

/-- A store: what is owned turns as HL says. -/
theorem wx_heap {op : Op} (hg : gok l s gu = some true) (hV : V k = none) (hv : ∀ D, Turn l k ⟨none, op, ty, p, af, gu⟩ D → ∀ a w, St n s a → Mem w0 w (HL D γ) → ∃ w', (execOp a.eval ⟨none, op, ty, p, af, gu⟩).run P w = .ok .skip w' ∧ Mem w0 w' (HL (put D k) γ)) (h : WX P n w0 l V HL γ K rest (k + 1) s) :
    WX P n w0 l V HL γ K (⟨none, op, ty, p, af, gu⟩ :: rest) k s := by
  intro a hs hl
  obtain ⟨h0, hl'⟩ := wx_head hl
  refine ⟨undef, .det (gok_wanted rfl hg hs) hV fun L w hr hc => ?_, h _ (hs.put_none _) hl'⟩
  obtain ⟨ht, hd, hnext⟩ := turn_of h0 hr hc
  obtain ⟨w', hr', hm'⟩ := hv _ ht a w hs hc.2.2
  rw [hr']
  exact ⟨rfl, hnext w' hm'⟩

/-- A store into a box. -/
theorem wx_put {t T g off m : Nat} {x a : Operand} {v : Value} {vs : List Value} [Size P t m] (hg : gok l s gu = some true) (hV : V k = none) (ha : ev s a = some (.pointer (some ⟨g, off, none⟩))) (hx : ev s x = some v) (hv : v.cells = vs.toArray) (hl : vs.length = m) (h1 : vs.all Value.oneCell' = true)
    (hnew : ∀ D, Turn l k ⟨none, .store t a x, ty, p, af, gu⟩ D → ∃ xs R, Sel (.box g T xs) (HL D γ) R ∧ off + m ≤ xs.length ∧ MSub (HL (put D k) γ) (.box g T (xs.take off ++ vs ++ xs.drop (off + m)) :: R)) (h : WX P n w0 l V HL γ K rest (k + 1) s) :
    WX P n w0 l V HL γ K (⟨none, .store t a x, ty, p, af, gu⟩ :: rest) k s := by
  refine wx_heap hg hV (fun D ht a' w hs hm => ?_) h
  obtain ⟨xs, R, hsel, hfit, hsub⟩ := hnew D ht
  have hm' := hm.sel hsel
  have hb := (hm'.on _ List.mem_cons_self).1
  simp only [Blk.on] at hb
  have h1' : ∀ u ∈ vs, u.oneCell' = true := by simpa using h1
  have hr := run_storeVar (P := P) (t := t) (off := off) hv hl h1' hb (by simpa using hfit)
  simp only at hr
  refine ⟨_, ?_, hsub.use (hm'.upd (setRow_grown _ _ _) (b' := .box g T (xs.take off ++ vs ++ xs.drop (off + m))) (setRow_heap _ _ _ _ _ _ hb) fun k hk => .inl hk)⟩
  simp [execOp, hs.eval a _ ha, hs.eval x _ hx, Instr.storeAt, Instr.sureAddr, hr]
end
end Go.SL

/-
  Ranging over a function: the body of a round, the function that calls yield, the statement, and the function that holds it.
-/
namespace Go.SL
open Go Go.RowKit

/-! ### One operation, fenced -/

/-- The fences in use: all functions, whatever depth. -/
def fen (r : Option Nat) : Fence := { Fence.wide with round := r }

theorem calls_fen {r : Option Nat} {P : Program} {f : FuncId} {args : Array Value} {w : World} {R : Ending → World → Prop} (h : Calls P f args w R) : CallsIn (fen r) 0 P f args w R :=
  (callsIn_wide (n := 0)).2 h
theorem rows_fen {r : Option Nat} {P : Program} {row : String} {args : Array Value} {w : World} {R : Value → World → Prop} (h : Rows P row args w R) : RowsIn (fen r) 0 P row args w R :=
  fun c cs _ => let ⟨v, w', h1, h2⟩ := h c cs; ⟨v, w', h1, stepsIn_wide.2 h2⟩

theorem fen_depth (r : Option Nat) : (fen r).depth.isSome = true → 1 ≤ 0 := fun h => by simp [fen, Fence.wide] at h

/-- An operation that is no 'defer' goes in a round as it goes outside. -/
theorem wpIn_of_wp {r : Option Nat} {P : Program} {o : Oper} {a : Act} {w : World} {next next' : Act → World → Prop} {Q1 Q2 : Exit → Act → World → Prop} (hnd : ∀ c, o.op ≠ .defer c) (hn : ∀ a w, next a w → next' a w) (hp : ∀ c a w, Q1 (.panic c) a w → Q2 (.panic c) a w) (ho : LetsOut Q1 → LetsOut Q2)
    (h : o.wp P a w next Q1) : o.wpIn (fen r) 0 P a w next' Q2 := by
  refine ⟨fun _ _ => trivial, ?_⟩
  have hsem : o.semAt (fen r).round a.eval = execOp a.eval o := Oper.semAt_eq _ _ _ hnd
  rw [hsem]
  unfold Oper.wp at h
  generalize (execOp a.eval o).run P w = x at h ⊢
  cases x with
  | ok x w' =>
    cases x <;> simp only [Oper.upon] at h <;> simp only [Oper.uponIn]
    case value v => exact hn _ _ h
    case skip => exact hn _ _ h
    case defer d => exact hn _ _ h
    case enter f args =>
      refine ⟨fen_depth r, calls_fen (Calls.mono h fun e w'' he => ?_)⟩
      cases e with
      | returned v => exact hn _ _ he
      | panicked c => exact hp _ _ _ he
      | outgrown => exact ho he
    case row k args => exact ⟨fen_depth r, rows_fen (Rows.mono h fun v w'' he => hn _ _ he)⟩
  | halt x w' => cases x <;> simp only [Oper.upon] at h <;> simp only [Oper.uponIn] <;> exact hp _ _ _ h

def noDefer (l : List Oper) : Bool := l.all fun o => match o.op with | .defer _ => false | _ => true
theorem noDefer_of {l : List Oper} (h : noDefer l = true) : ∀ o ∈ l, ∀ c, o.op ≠ .defer c := fun o ho c e => by
  have := List.all_eq_true.1 h o ho
  rw [e] at this
  cases this

theorem wpListIn_of_wpList {r : Option Nat} {P : Program} {ops : Array Oper} {Q : Exit → Act → World → Prop} (hno : ¬ LetsOut Q) : ∀ (l : List Oper) (a : Act) (w : World), (∀ o ∈ l, ∀ c, o.op ≠ .defer c) → wpList P ops Q l a w → wpListIn (fen r) 0 P ops Q l a w
  | [], _, _, _, h => h
  | o :: l, a, w, hnd, h => by
    unfold wpList at h
    unfold wpListIn
    split
    · rename_i hw
      rw [if_pos hw] at h
      rcases h with h | ⟨_, h⟩
      · exact wpIn_of_wp (hnd o List.mem_cons_self) (fun a w h => wpListIn_of_wpList hno l a w (fun o ho => hnd o (List.mem_cons_of_mem _ ho)) h) (fun _ _ _ h => h) (fun h => h) h
      · exact absurd h hno
    · rename_i hw
      rw [if_neg hw] at h
      exact ⟨fun _ _ => trivial, wpListIn_of_wpList hno l _ w (fun o ho => hnd o (List.mem_cons_of_mem _ ho)) h⟩

/-- A long list of operations comes in parts. -/
theorem wl_app_c {P : Program} {n : Fr} {w0 : World} {ops : Array Oper} {Q : Post} {s : Slots} {H : List Blk} {o : Oper} {l1 l2 : List Oper} (h : WL P n w0 ops (o :: List.append l1 l2) Q s H) : WL P n w0 ops (List.append (o :: l1) l2) Q s H := h
theorem wl_app_n {P : Program} {n : Fr} {w0 : World} {ops : Array Oper} {Q : Post} {s : Slots} {H : List Blk} {l2 : List Oper} (h : WL P n w0 ops l2 Q s H) : WL P n w0 ops (List.append [] l2) Q s H := h

/-! ### The body of a round -/

section
variable {P : Program} {n : Fr} {w0 : World} {Q : Post} {s sb : Slots} {H : List Blk} {l : Nat}

def WR (P : Program) (n : Fr) (w0 : World) (l : Nat) (c : Code) (Q : Post) (s : Slots) (H : List Blk) : Prop :=
  ∀ a w, St n s a → Mem w0 w H → c.wpIn (fen (some l)) 0 P (post n w0 Q) a w

def NoOut (Q : Post) : Prop := ∀ s H, ¬ Q .outgrown s H
theorem NoOut.post (h : NoOut Q) : ¬ LetsOut (post n w0 Q) := fun ⟨_, _, s, H, _, _, hq⟩ => h s H hq
theorem no_thn {K : Slots → List Blk → Prop} (h : NoOut Q) : NoOut (thn K Q) := fun s H hq => h s H hq
theorem no_blk {id : Nat} (h : NoOut Q) : NoOut (blk id Q) := fun s H hq => h s H hq
theorem no_cut {ι : Type} {sI : ι → Slots} {HI : ι → List Blk} {ok : ι → Prop} (h : NoOut Q) : NoOut (cutP sI HI ok Q) := fun s H hq => h s H hq

theorem wr_mono {c : Code} {Q' : Post} (hq : ∀ e s H, Q e s H → Q' e s H) (h : WR P n w0 l c Q s H) : WR P n w0 l c Q' s H :=
  fun a w hs hm => wpIn_mono (h a w hs hm) fun _ _ _ ⟨s, H, h1, h2, h3⟩ => ⟨s, H, h1, h2, hq _ _ _ h3⟩
theorem wr_sub {c : Code} {s' : Slots} (hs : Sub s' s) (h : WR P n w0 l c Q s' H) : WR P n w0 l c Q s H :=
  fun a w hst hm => h a w (hst.sub hs) hm
theorem wr_msub {c : Code} {H' : List Blk} (hH : MSub H' H) (h : WR P n w0 l c Q s H') : WR P n w0 l c Q s H :=
  fun a w hst hm => h a w hst (hH.use hm)

theorem wr_seq {x y : Code} (h : WR P n w0 l x (thn (WR P n w0 l y Q) Q) s H) : WR P n w0 l (.seq x y) Q s H := by
  intro a w hs hm
  refine wpIn_seq (wpIn_mono (h a w hs hm) ?_)
  rintro e a' w' ⟨s', H', h1, h2, h3⟩
  cases e with
  | normal => exact h3 a' w' h1 h2
  | _ => exact ⟨s', H', h1, h2, h3⟩
theorem wr_skip (h : Q .normal s H) : WR P n w0 l .skip Q s H := fun _ _ hs hm => wpIn_skip ⟨s, H, hs, hm, h⟩
theorem wr_ret (h : Q .ret s H) : WR P n w0 l .ret Q s H := fun _ _ hs hm => wpIn_ret ⟨s, H, hs, hm, h⟩
theorem wr_exit {id : Nat} (h : Q (.exit id) s H) : WR P n w0 l (.exit id) Q s H := fun _ _ hs hm => wpIn_exit ⟨s, H, hs, hm, h⟩
theorem wr_block {id : Nat} {c : Code} (h : WR P n w0 l c (blk id Q) s H) : WR P n w0 l (.block id c) Q s H := by
  intro a w hs hm
  refine wpIn_block (wpIn_mono (h a w hs hm) ?_)
  rintro e a' w' ⟨s', H', h1, h2, h3⟩
  cases e with
  | exit id' =>
    simp only [Exit.inBlock, blk] at h3 ⊢
    split
    · rename_i hid; rw [if_pos hid] at h3; exact ⟨s', H', h1, h2, h3⟩
    · rename_i hid; rw [if_neg hid] at h3; exact ⟨s', H', h1, h2, h3⟩
  | _ => exact ⟨s', H', h1, h2, h3⟩
theorem wr_cond_true {c : Operand} {x y : Code} (hc : ev s c = some (.bool true)) (h : WR P n w0 l x Q s H) : WR P n w0 l (.cond c x y) Q s H :=
  fun a w hs hm => wpIn_cond_true (hs.eval c _ hc) (h a w hs hm)
theorem wr_cond_false {c : Operand} {x y : Code} (hc : ev s c = some (.bool false)) (h : WR P n w0 l y Q s H) : WR P n w0 l (.cond c x y) Q s H :=
  fun a w hs hm => wpIn_cond_false (hs.eval c _ hc) (h a w hs hm)
theorem wr_cond {c : Operand} {x y : Code} {b : Bool} (hc : ev s c = some (.bool b)) (ht : b = true → WR P n w0 l x Q s H) (hf : b = false → WR P n w0 l y Q s H) : WR P n w0 l (.cond c x y) Q s H :=
  fun a w hs hm => wpIn_cond (t := b) (hs.eval c _ hc) (by cases b with | true => exact ht rfl a w hs hm | false => exact hf rfl a w hs hm)
theorem wr_region {id : Nat} {ops : List Oper} (hnd : noDefer ops = true) (hno : NoOut Q) (h : WL P n w0 ops.toArray ops Q s H) : WR P n w0 l (.region id ops.toArray false) Q s H :=
  fun a w hs hm => wpIn_region_lit (wpListIn_of_wpList hno.post ops a w (noDefer_of hnd) (h a w hs hm))
theorem wr_cut' {x z : Code} {ι : Type} (sI : ι → Slots) (HI : ι → List Blk) (ok : ι → Prop) (h : WR P n w0 l x (cutP sI HI ok Q) s H) (k : ∀ i, ok i → WR P n w0 l z Q (sI i) (HI i)) : WR P n w0 l x (thn (WR P n w0 l z Q) Q) s H := by
  refine wr_mono (fun e s' H' hq => ?_) h
  cases e with
  | normal =>
    obtain ⟨i, ho, h1, h2⟩ := hq
    exact wr_sub h1 (wr_msub h2 (k i ho))
  | _ => exact hq

/-! ### The function that calls yield -/

/-- A list of operations, one of which calls yield. -/
def WLI (P : Program) (n : Fr) (w0 : World) (ops : Array Oper) (rest : List Oper) (Q : Post) (s : Slots) (H : List Blk) : Prop :=
  ∀ a w, St n s a → Mem w0 w H → wpListIn (fen none) 0 P ops (post n w0 Q) rest a w

theorem w_regionI {id : Nat} {ops : List Oper} (h : WLI P n w0 ops.toArray ops Q s H) : W P n w0 (.region id ops.toArray false) Q s H :=
  fun a w hs hm => (wpIn_wide (n := 0)).1 (wpIn_region_lit (h a w hs hm))

variable {ops : Array Oper} {rest : List Oper} {ty : TypeId} {p : String} {af : Array Edge}

theorem wli_nil (h : Q .normal s H) : WLI P n w0 ops [] Q s H := fun _ _ hs hm => ⟨s, H, hs, hm, h⟩

theorem wli_op {o : Oper} (hnd : noDefer [o] = true) (h : WL P n w0 ops [o] (fun e s' H' => e = .normal ∧ WLI P n w0 ops rest Q s' H') s H) : WLI P n w0 ops (o :: rest) Q s H := by
  intro a w hs hm
  have h1 := h a w hs hm
  have hnext : ∀ a w, wpList P ops (post n w0 fun e s' H' => e = .normal ∧ WLI P n w0 ops rest Q s' H') [] a w → wpListIn (fen none) 0 P ops (post n w0 Q) rest a w := by
    rintro a w ⟨s', H', h1, h2, _, h3⟩
    exact h3 a w h1 h2
  unfold wpList at h1
  unfold wpListIn
  split
  · rename_i hw
    rw [if_pos hw] at h1
    rcases h1 with h1 | ⟨_, a0, w1, s', H'', _, _, he, _⟩
    · refine wpIn_of_wp (noDefer_of hnd o List.mem_cons_self) hnext ?_ ?_ h1
      · rintro c a w ⟨s', H'', _, _, he, _⟩
        cases he
      · rintro ⟨a0, w1, s', H'', _, _, he, _⟩
        cases he
    · cases he
  · rename_i hw
    rw [if_neg hw] at h1
    exact ⟨fun _ _ => trivial, hnext _ _ h1⟩

theorem wli_yield {d k : Nat} {c : Operand} {xs : List Operand} {vs : List Value} {ts : Array TypeId} {R : Value → List Blk → Prop} (hn : Nat.blt d n.sz = true) (hc : ev s c = some (.func (.yield k) #[] #[])) (hx : evs s xs = some vs)
    (hF : ∀ w, Mem w0 w H → YieldAt (fen none) 0 P k vs.toArray w fun e w' => ∃ v H', e = .returned v ∧ Mem w0 w' H' ∧ R v H') (h : ∀ v H', R v H' → WLI P n w0 ops rest Q ((d, v) :: s) H') :
    WLI P n w0 ops (⟨some d, .call { callee := .value c, args := xs.toArray, argTypes := ts }, ty, p, af, none⟩ :: rest) Q s H := by
  intro a w hs hm
  unfold wpListIn
  simp only [Region.wanted, if_true]
  obtain ⟨fn, tmps, assign, body, hy, hR⟩ := hF w hm
  have hrun : (execOp a.eval ⟨some d, .call { callee := .value c, args := xs.toArray, argTypes := ts }, ty, p, af, none⟩).run P w = .ok (.round k fn tmps assign body) w := by
    have hmap := evs_map hs hx
    simp [execOp, resolve, hs.eval c _ hc, Deferred.ofValue, invoke, hmap, hy]
  refine ⟨fun _ _ => trivial, ?_⟩
  have hsem : Oper.semAt (fen none).round a.eval ⟨some d, .call { callee := .value c, args := xs.toArray, argTypes := ts }, ty, p, af, none⟩ = execOp a.eval ⟨some d, .call { callee := .value c, args := xs.toArray, argTypes := ts }, ty, p, af, none⟩ := rfl
  rw [hsem, hrun]
  refine ⟨fen_depth none, RoundIn.mono hR ?_⟩
  rintro e w' ⟨v, H', rfl, hm', hv⟩
  exact h v H' hv _ _ (hs.put (Nat.blt_eq ▸ hn) _) hm'

theorem wli_v {d : Nat} {op : Op} {v : Value} (hnd : noDefer [⟨some d, op, ty, p, af, none⟩] = true) (hn : Nat.blt d n.sz = true) (hv : VOp P w0 s H op ty v) (h : WLI P n w0 ops rest Q ((d, v) :: s) H) : WLI P n w0 ops (⟨some d, op, ty, p, af, none⟩ :: rest) Q s H :=
  wli_op hnd (wl_v hn hv (wl_nil ⟨rfl, h⟩))

theorem wli_yieldB {d k : Nat} {c : Operand} {xs : List Operand} {vs : List Value} {ts : Array TypeId} {H' T : List Blk} {A A' : List Blk → Prop} (hn : Nat.blt d n.sz = true) (hc : ev s c = some (.func (.yield k) #[] #[])) (hx : evs s xs = some vs)
    (hM : MSub H' H) (hF : ∀ w, Mem w0 w H' → YieldAt (fen none) 0 P k vs.toArray w fun e w' => ∃ b H2, e = .returned (.bool b) ∧ Mem w0 w' (H2 ++ T) ∧ (if b then A H2 else A' H2)) (h : ∀ b H2, (if b then A H2 else A' H2) → WLI P n w0 ops rest Q ((d, .bool b) :: s) (H2 ++ T)) :
    WLI P n w0 ops (⟨some d, .call { callee := .value c, args := xs.toArray, argTypes := ts }, ty, p, af, none⟩ :: rest) Q s H := by
  refine wli_yield (R := fun v H' => ∃ b H2, v = .bool b ∧ H' = H2 ++ T ∧ (if b then A H2 else A' H2)) hn hc hx (fun w hm => ?_) ?_
  · obtain ⟨fn, tmps, assign, body, hy, hR⟩ := hF w (hM.use hm)
    refine ⟨fn, tmps, assign, body, hy, RoundIn.mono hR ?_⟩
    rintro e w' ⟨b, H2, rfl, hm', hq⟩
    exact ⟨_, _, rfl, hm', b, H2, rfl, rfl, hq⟩
  · rintro v H' ⟨b, H2, rfl, rfl, hq⟩
    exact h b H2 hq

theorem MSub.app3 {H1 : List Blk} {a b c : Blk} : MSub (H1 ++ ([a] ++ [b, c])) (b :: c :: a :: H1) :=
  ⟨[], by
    rw [List.append_nil]
    exact (List.perm_middle (l₁ := [b, c]) (l₂ := H1)).trans (List.perm_append_comm (l₁ := [a, b, c]) (l₂ := H1))⟩
theorem MSub.app3' {H1 : List Blk} {a b c : Blk} : MSub (a :: H1) (H1 ++ ([a] ++ [b, c])) := ⟨[b, c], List.perm_middle⟩
theorem MSub.app3r {H1 : List Blk} {a b c : Blk} : MSub (H1 ++ [a]) (H1 ++ ([a] ++ [b, c])) := ⟨[b, c], by simp⟩

/-- What a function is that hands the elements us to yield, one behind the other, while yield says yes; it reads Hc, which stays as it is. -/
def Seqs {α : Type} (P : Program) (f : FuncId) (caps : List Value) (w0 : World) (Hc : List Blk) (us : List α) (encs : α → List Value) : Prop :=
  ∀ (l : Nat) (I J : List α → List Blk → Prop) (H0 : List Blk),
    (∀ pre u post, us = pre ++ u :: post → ∀ H1 F, I pre H1 → ∀ w, Mem w0 w (H1 ++ (Hc ++ F)) → YieldAt (fen none) 0 P l (encs u).toArray w fun e w' => ∃ b H2, e = .returned (.bool b) ∧ Mem w0 w' (H2 ++ (Hc ++ F)) ∧ (if b then I (pre ++ [u]) H2 else J (pre ++ [u]) H2)) →
    I [] H0 → FnIn P f (.func (.yield l) #[] #[] :: caps) w0 (H0 ++ Hc) fun _ H' => ∃ H1, (I us H1 ∨ ∃ pre, J pre H1) ∧ MSub (H1 ++ Hc) H'

/-! ### The statement, and the function that holds it -/

def mark (D : Nat) : Deferred := { target := .collected D, args := #[] }
def dObj (D : Nat) : Blk := .obj D (.deferred (some []))

theorem res_cell1 {w : World} {t T T' g : Nat} {v : Value} {a : Act} [One P T] (hs : St n s a) (hm : Mem w0 w H) (ht : look s t = some (.pointer (some ⟨g, 0, none⟩))) (hi : In (.box g T' [v]) H) :
    (do let b ← asAddr (a.tmps.getD t undef); loadVar T b).run P w = .ok v w := by
  have h1 := hs.has t _ ht
  have hc := hm.cells_box hi 0 v rfl
  have h2 := run_load_one (P := P) (t := T) hc
  simp [Array.getD_eq_getD_getElem?, h1, asAddr, h2]
theorem ret11 {fn : Func} {R : Value → List Blk → Prop} {e : Exit} {t u T U T' U' g h : Nat} {v x : Value} (he : e = .ret ∨ e = .normal) (hr : fn.results = #[.cell t T, .cell u U]) [One P T] [One P U] (ht : look s t = some (.pointer (some ⟨g, 0, none⟩))) (hu : look s u = some (.pointer (some ⟨h, 0, none⟩))) (hi : In (.box g T' [v]) H) (hi' : In (.box h U' [x]) H) {H' : List Blk} (hs : MSub H' H) (hR : R (.tuple #[v, x]) H') : retP P fn n w0 R e s H :=
  ⟨he, _, H', hs, fun a w hst hm => by
    have h1 := res_cell1 (P := P) (T := T) hst hm ht hi
    have h2 := res_cell1 (P := P) (T := U) hst hm hu hi'
    simp only [results, hr]
    simp only [List.mapM_toArray, List.mapM_cons, List.mapM_nil, Sem.run_bind, Sem.run_map] at h1 h2 ⊢
    simp only [h1, h2, Result.andThen_ok, Sem.run_pure]
    rfl, hR⟩

/-- A tail of a function's body: its post is the machine's. -/
def WT (P : Program) (n : Fr) (w0 : World) (c : Code) (B : Exit → Act → World → Prop) (s : Slots) (H : List Blk) : Prop :=
  ∀ a w, St n s a → Mem w0 w H → c.wpIn (fen none) 0 P B a w

def endB (n : Fr) (w0 : World) (B : Exit → Act → World → Prop) : Post := fun e s H => ∀ a w, St n s a → Mem w0 w H → B e a w

def bodyB (P : Program) (fn : Func) (w0 : World) (R : Value → List Blk → Prop) : Exit → Act → World → Prop :=
  bodyPostM (fen none) 0 P fn fun e w' => ∃ v H', e = .returned v ∧ Mem w0 w' H' ∧ R v H'

variable {B : Exit → Act → World → Prop}

theorem fn_range {m : Nat} {f : FuncId} {fn : Func} {c : Code} {args : List Value} {R : Value → List Blk → Prop} (hf : P.funcs[f]? = some fn) (hb : fn.body = some c) (hn : fn.ntmps = m) (hle : Nat.ble args.length m = true)
    (h : WT P ⟨m, []⟩ w0 c (bodyB P fn w0 R) (pars args 0) H) : FnIn P f args w0 H R := by
  intro w hm
  have hle' : args.length ≤ m := by simpa using hle
  refine (callsIn_wide (n := 0)).1 (callsIn_of_wp_marks hf hb trivial (h { tmps := args.toArray ++ Array.replicate (fn.ntmps - args.toArray.size) undef, defers := [] } w ⟨?_, rfl, ?_⟩ hm))
  · simp [hn]; omega
  · intro t v ht
    rw [look_pars] at ht
    simp only [Nat.zero_le, if_true, Nat.sub_zero] at ht
    have hlt : t < args.length := (List.getElem?_eq_some_iff.1 ht).1
    rw [Array.getElem?_append_left (by simpa using hlt)]
    simpa using ht
theorem fn_range_at {m : Nat} {f : FuncId} {fn : Func} {c : Code} {args : List Value} {w : World} {R : Value → List Blk → Prop} (hf : P.funcs[f]? = some fn) (hb : fn.body = some c) (hn : fn.ntmps = m) (hle : Nat.ble args.length m = true)
    (h : WT P ⟨m, []⟩ w c (bodyB P fn w R) (pars args 0) []) : FnAt P f args w R := fn_range hf hb hn hle h w (Mem.refl w)

theorem wt_seq {x y : Code} (h : W P n w0 x (thn (WT P n w0 y B) (endB n w0 B)) s H) : WT P n w0 (.seq x y) B s H := by
  intro a w hs hm
  refine wpIn_seq (wpIn_mono ((wpIn_wide (n := 0)).2 (h a w hs hm)) ?_)
  rintro e a' w' ⟨s', H', h1, h2, h3⟩
  cases e with
  | normal => exact h3 a' w' h1 h2
  | _ => exact h3 a' w' h1 h2
theorem wt_last {c : Code} (h : W P n w0 c (endB n w0 B) s H) : WT P n w0 c B s H :=
  fun a w hs hm => wpIn_mono ((wpIn_wide (n := 0)).2 (h a w hs hm)) fun _ _ _ ⟨_, _, h1, h2, h3⟩ => h3 _ _ h1 h2

def thnB (P : Program) (z : Code) (B : Exit → Act → World → Prop) : Exit → Act → World → Prop := Exit.then (z.wpIn (fen none) 0 P B) B
theorem wt_seq_s {x y z : Code} (h : WT P n w0 (.seq x y) (thnB P z B) s H) : WT P n w0 (.seq (.seq x y) z) B s H := fun a w hs hm => wpIn_seq (h a w hs hm)
theorem wt_seq_k {id : Nat} {g : Operand} {ps : Array Tmp} {x y z : Code} (h : WT P n w0 (.block id (.rangeFunc g ps x y)) (thnB P z B) s H) : WT P n w0 (.seq (.block id (.rangeFunc g ps x y)) z) B s H := fun a w hs hm => wpIn_seq (h a w hs hm)
theorem end_thn_n {z : Code} (h : WT P n w0 z B s H) : endB n w0 (thnB P z B) .normal s H := fun a w hs hm => h a w hs hm
theorem end_thn_r {z : Code} (h : endB n w0 B .ret s H) : endB n w0 (thnB P z B) .ret s H := fun a w hs hm => h a w hs hm
theorem wt_last_c {c : Operand} {a b : Code} (h : W P n w0 (.cond c a b) (endB n w0 B) s H) : WT P n w0 (.cond c a b) B s H := wt_last h
theorem wt_seq_r {id : Nat} {l : Array Oper} {d : Bool} {y : Code} (h : W P n w0 (.region id l d) (thn (WT P n w0 y B) (endB n w0 B)) s H) : WT P n w0 (.seq (.region id l d) y) B s H := wt_seq h
theorem wt_seq_c {c : Operand} {a b y : Code} (h : W P n w0 (.cond c a b) (thn (WT P n w0 y B) (endB n w0 B)) s H) : WT P n w0 (.seq (.cond c a b) y) B s H := wt_seq h
theorem wt_seq_b {id : Nat} {c y : Code} (h : W P n w0 (.block id c) (thn (WT P n w0 y B) (endB n w0 B)) s H) : WT P n w0 (.seq (.block id c) y) B s H := wt_seq h
theorem wt_last_r {id : Nat} {l : Array Oper} {d : Bool} (h : W P n w0 (.region id l d) (endB n w0 B) s H) : WT P n w0 (.region id l d) B s H := wt_last h
theorem wt_last_ret (h : W P n w0 .ret (endB n w0 B) s H) : WT P n w0 .ret B s H := wt_last h

theorem end_ret {m : Nat} {fn : Func} {R : Value → List Blk → Prop} {e : Exit} (h : retP P fn ⟨m, []⟩ w0 R e s H) : endB ⟨m, []⟩ w0 (bodyB P fn w0 R) e s H := by
  obtain ⟨he, v, H', hsub, hr, hR⟩ := h
  intro a w hs hm
  have hp : LeavesInM (fen none) 0 P fn a.tmps (fun e w' => ∃ v H', e = .returned v ∧ Mem w0 w' H' ∧ R v H') a.defers .returning w := by
    rw [hs.defers]
    exact ⟨v, hr a w hs hm, v, H', rfl, hsub.use hm, hR⟩
  rcases he with rfl | rfl <;> exact hp

/-- Leaving a function that held the statement. -/
theorem end_mark {m D : Nat} {fn : Func} {R : Value → List Blk → Prop} {e : Exit} {H2 : List Blk} (hsel : Sel (dObj D) H H2) (h : retP P fn ⟨m, [mark D]⟩ w0 R e s H2) : endB ⟨m, [mark D]⟩ w0 (bodyB P fn w0 R) e s H := by
  obtain ⟨he, v, H', hsub, hr, hR⟩ := h
  intro a w hs hm
  have hm1 := hm.sel hsel
  have hD : w.heap[D]? = some (.deferred (some [])) := (hm1.on _ List.mem_cons_self).1
  have hm2 : Mem w0 (w.putObj D (.deferred none)) H2 := by
    have hlt : D < w.heap.size := (Array.getElem?_eq_some_iff.1 hD).1
    exact (hm1.upd (b' := .obj D (.deferred none)) (grownBy_putObj' w D _) (World.putObj_heap_same hlt) fun k hk => .inl hk).tail
  have hp : LeavesInM (fen none) 0 P fn a.tmps (fun e w' => ∃ v H', e = .returned v ∧ Mem w0 w' H' ∧ R v H') a.defers .returning w := by
    rw [hs.defers]
    refine ⟨by simp, .inl ⟨D, _, rfl, run_takeDeferred hD, ?_⟩⟩
    exact ⟨v, hr a _ hs hm2, v, H', rfl, hsub.use hm2, hR⟩
  rcases he with rfl | rfl <;> exact hp

def assignQ (K : Slots → List Blk → Prop) : Post := fun e s H => e = .normal ∧ K s H
theorem assignQ_no {K : Slots → List Blk → Prop} : NoOut (assignQ K) := fun _ _ h => by cases h.1

/-- What is asked at a round's end. -/
def roundQ {α : Type} (U : List α → List Blk → Prop) (X : List Blk → Prop) (xs : List α) (F : List Blk) : Post
  | .normal, _, H => ∃ HU, MSub (HU ++ F) H ∧ U xs HU
  | .ret, _, H => ∃ HU, MSub (HU ++ F) H ∧ X HU
  | _, _, _ => False

theorem round_n {α : Type} {U : List α → List Blk → Prop} {X : List Blk → Prop} {xs : List α} {F : List Blk} (HU : List Blk) (h1 : MSub (HU ++ F) H) (h2 : U xs HU) : roundQ U X xs F .normal s H := ⟨HU, h1, h2⟩
theorem round_r {α : Type} {U : List α → List Blk → Prop} {X : List Blk → Prop} {xs : List α} {F : List Blk} (HU : List Blk) (h1 : MSub (HU ++ F) H) (h2 : X HU) : roundQ U X xs F .ret s H := ⟨HU, h1, h2⟩
theorem assign_n {K : Slots → List Blk → Prop} (h : K s H) : assignQ K .normal s H := ⟨rfl, h⟩

theorem roundQ_no {α : Type} {U : List α → List Blk → Prop} {X : List Blk → Prop} {xs : List α} {F : List Blk} : NoOut (roundQ U X xs F) := fun _ _ h => h

theorem foldl_params (m : Nat) : ∀ (ps : List Tmp) (vs : List Value) (tm : Array Value) (s : Slots), tm.size = m → (∀ t v, look s t = some v → tm[t]? = some v) → ps.all (fun t => Nat.blt t m) = true →
    ((ps.zip vs).foldl (fun (tmps : Array Value) (x : Tmp × Value) => tmps.setIfInBounds x.1 x.2) tm).size = m ∧ ∀ t v, look ((ps.zip vs).reverse ++ s) t = some v → ((ps.zip vs).foldl (fun (tmps : Array Value) (x : Tmp × Value) => tmps.setIfInBounds x.1 x.2) tm)[t]? = some v
  | [], vs, tm, s, h1, h2, _ => by simpa using ⟨h1, h2⟩
  | q :: ps, [], tm, s, h1, h2, _ => by simpa using ⟨h1, h2⟩
  | q :: ps, u :: vs, tm, s, h1, h2, h3 => by
    simp only [List.all_cons, Bool.and_eq_true] at h3
    have hq : q < m := by simpa using h3.1
    have h := foldl_params m ps vs (tm.setIfInBounds q u) ((q, u) :: s) (by simpa using h1) (fun t v ht => by
      rw [look_cons] at ht
      by_cases e : q = t
      · subst e
        rw [if_pos rfl] at ht
        injection ht with ht
        subst ht
        simp [h1, hq]
      · rw [if_neg e] at ht
        rw [Array.getElem?_setIfInBounds_ne e]
        exact h2 t v ht) h3.2
    rw [List.zip_cons_cons, List.foldl_cons, List.reverse_cons, List.append_assoc]
    exact h

theorem Mem.perm' {w0 w : World} {H H' : List Blk} (h : Mem w0 w H) (hp : H.Perm H') : Mem w0 w H' := h.perm hp

/-- 'for .. := range g { .. }; rest'. -/
theorem wt_range {α : Type} {id : Nat} {g : Operand} {ps : List Tmp} {assign body : Code} {m : Nat} {f : FuncId} [hcf : Callable P f] {caps : List Value} {us : List α} {encs : α → List Value} {Hc HU0 : List Blk} (hg : ev s g = some (.func (.func f) #[] caps.toArray))
    (hps : ∀ u, (encs u).length = ps.length) (hpn : ps.all (fun t => Nat.blt t m) = true) (hseq : Seqs P f caps w0 Hc us encs) (U : List α → List Blk → Prop) (X : List Blk → Prop) (hH : MSub (HU0 ++ Hc) H) (h0 : U [] HU0)
    (hround : ∀ l pre u post, us = pre ++ u :: post → ∀ HU, U pre HU → ∀ F F', WR P ⟨m, []⟩ w0 l assign (assignQ fun s1 H1 => ∃ HU1, MSub (HU1 ++ F) H1 ∧ WR P ⟨m, []⟩ w0 l body (roundQ U X (pre ++ [u]) F') s1 (HU1 ++ F')) ((ps.zip (encs u)).reverse ++ s) (HU ++ F))
    (hdone : ∀ D HU, U us HU → endB ⟨m, [mark D]⟩ w0 B .normal s (dObj D :: (HU ++ Hc)))
    (hexit : ∀ D HU, X HU → endB ⟨m, [mark D]⟩ w0 B .ret s (dObj D :: (HU ++ Hc))) :
    WT P ⟨m, []⟩ w0 (.block id (.rangeFunc g ps.toArray assign body)) B s H := by
  intro a w hs hm
  have hm0 : Mem w0 w (HU0 ++ Hc) := hH.use hm
  refine wpIn_block (wpIn_rangeFunc fun fn _ => ?_)
  obtain ⟨rec, hrec⟩ : ∃ rec : LoopState → Option Code → Loop, rec = fun st pe => { state := st, pending := pe, fn, tmps := a.tmps, params := ps.toArray, assign, body, defers := w.heap.size } := ⟨_, rfl⟩
  obtain ⟨W1, hW1⟩ : ∃ W1, (w.alloc (.deferred (some []))).alloc (.loop (rec .ready none)) = W1 := ⟨_, rfl⟩
  have hm1 : Mem w0 W1 (.obj (w.heap.size + 1) (.loop (rec .ready none)) :: dObj w.heap.size :: (HU0 ++ Hc)) := by
    have h1 : Mem w0 (w.alloc (.deferred (some []))) (dObj w.heap.size :: (HU0 ++ Hc)) := hm0.new (World.grownBy_alloc w _ none) (World.alloc_heap_new w _) fun k hk => by
      simp only [dObj, Blk.key, Option.some.injEq] at hk; omega
    rw [← hW1]
    refine h1.new (World.grownBy_alloc _ _ none) ?_ fun k hk => ?_
    · have := World.alloc_heap_new (w.alloc (.deferred (some []))) (.loop (rec .ready none))
      rwa [World.size_alloc] at this
    · simp only [Blk.key, Option.some.injEq] at hk
      rw [World.size_alloc]
      omega
  have hcall := hseq (w.heap.size + 1) (fun pre H1 => ∃ HU, U pre HU ∧ H1 = .obj (w.heap.size + 1) (.loop (rec .ready none)) :: dObj w.heap.size :: HU)
    (fun _ H1 => ∃ HU, X HU ∧ H1 = .obj (w.heap.size + 1) (.loop (rec .done (some .ret))) :: dObj w.heap.size :: HU)
    (.obj (w.heap.size + 1) (.loop (rec .ready none)) :: dObj w.heap.size :: HU0) ?_ ⟨HU0, h0, rfl⟩ W1 (by simpa using hm1)
  rotate_left
  · -- one round
    rintro pre u post hus H1 F ⟨HU, hU, rfl⟩ w1 hmr
    have hl : w1.heap[w.heap.size + 1]? = some (.loop (rec .ready none)) := (hmr.on _ List.mem_cons_self).1
    have hy := run_yield (P := P) (args := (encs u).toArray) hl (by rw [hrec]; simp [hps u])
    rw [hrec] at hy
    have hzip : (ps.toArray.zip (encs u).toArray).foldl (fun (tmps : Array Value) (x : Tmp × Value) => tmps.setIfInBounds x.1 x.2) a.tmps = (ps.zip (encs u)).foldl (fun (tmps : Array Value) (x : Tmp × Value) => tmps.setIfInBounds x.1 x.2) a.tmps := by
      rw [← Array.foldl_toList]; simp
    have hpar := foldl_params m ps (encs u) a.tmps s hs.size hs.has hpn
    refine ⟨fn, _, assign, body, hy, roundIn_of_wpIn trivial ?_⟩
    have hin : (fen none).inRound (w.heap.size + 1) = fen (some (w.heap.size + 1)) := rfl
    rw [hin]
    have hperm : ∀ (o : Blk) (HU : List Blk), ((o :: dObj w.heap.size :: HU) ++ (Hc ++ F)).Perm (HU ++ (o :: dObj w.heap.size :: (Hc ++ F))) := fun o HU => by
      have h1 : ((o :: dObj w.heap.size :: HU) ++ (Hc ++ F)) = [o, dObj w.heap.size] ++ (HU ++ (Hc ++ F)) := by simp
      have h2 : (HU ++ (o :: dObj w.heap.size :: (Hc ++ F))) = HU ++ ([o, dObj w.heap.size] ++ (Hc ++ F)) := by simp
      have h3 := (List.perm_append_comm (l₁ := [o, dObj w.heap.size]) (l₂ := HU)).append_right (Hc ++ F)
      rw [List.append_assoc, List.append_assoc] at h3
      rw [h1, h2]
      exact h3
    have hst : St ⟨m, []⟩ ((ps.zip (encs u)).reverse ++ s) { tmps := (ps.toArray.zip (encs u).toArray).foldl (fun (tmps : Array Value) (x : Tmp × Value) => tmps.setIfInBounds x.1 x.2) a.tmps, defers := [] } := by
      rw [hzip]
      exact ⟨hpar.1, rfl, hpar.2⟩
    refine wpIn_mono (hround (w.heap.size + 1) pre u post hus HU hU (.obj (w.heap.size + 1) (.loop (rec .ready none)) :: dObj w.heap.size :: (Hc ++ F)) (.obj (w.heap.size + 1) (.loop (rec .busy none)) :: dObj w.heap.size :: (Hc ++ F)) _ w1 hst (hmr.perm (hperm _ _))) ?_
    rintro e a1 w2 ⟨s1, H1, hs1, hm2, rfl, HU1, hsub, hbody⟩
    have hm3 := (hsub.use hm2).perm (hperm _ _).symm
    have hl2 : w2.heap[w.heap.size + 1]? = some (.loop (rec .ready none)) := (hm3.on _ List.mem_cons_self).1
    have turn : ∀ (w2 : World) (st : LoopState) (pe : Option Code) (HU1 : List Blk) (o' : Obj), Mem w0 w2 ((.obj (w.heap.size + 1) (.loop (rec st pe)) :: dObj w.heap.size :: HU1) ++ (Hc ++ F)) → Mem w0 (w2.putObj (w.heap.size + 1) o') ((.obj (w.heap.size + 1) o' :: dObj w.heap.size :: HU1) ++ (Hc ++ F)) := by
      intro w2 st pe HU1 o' hm3
      have hl2 : w2.heap[w.heap.size + 1]? = some (.loop (rec st pe)) := (hm3.on _ List.mem_cons_self).1
      exact Mem.upd (b := .obj (w.heap.size + 1) (.loop (rec st pe))) (b' := .obj (w.heap.size + 1) o') hm3 (grownBy_putObj' w2 _ _) (World.putObj_heap_same (Array.getElem?_eq_some_iff.1 hl2).1) fun k hk => .inl hk
    refine ⟨_, run_beginRound hl2 (by rw [hrec]), ?_⟩
    have hb := turn w2 _ _ HU1 (.loop { rec .ready none with state := .busy }) hm3
    have hbusy : ({ rec .ready none with state := .busy } : Loop) = rec .busy none := by rw [hrec]
    rw [hbusy] at hb ⊢
    refine wpIn_mono (hbody a1 _ hs1 (hb.perm (hperm _ _))) ?_
    rintro e a3 w3 ⟨s3, H3, hs3, hm4, hq⟩
    cases e with
    | normal =>
      obtain ⟨HU2, hsub2, hU2⟩ := hq
      have hm5 := (hsub2.use hm4).perm (hperm _ _).symm
      have hl5 : w3.heap[w.heap.size + 1]? = some (.loop (rec .busy none)) := (hm5.on _ List.mem_cons_self).1
      refine ⟨_, _, run_endRound none hl5, true, _, rfl, turn w3 _ _ HU2 _ hm5, ?_⟩
      refine ⟨HU2, hU2, ?_⟩
      rw [hrec]
      rfl
    | ret =>
      obtain ⟨HU2, hsub2, hX⟩ := hq
      have hm5 := (hsub2.use hm4).perm (hperm _ _).symm
      have hl5 : w3.heap[w.heap.size + 1]? = some (.loop (rec .busy none)) := (hm5.on _ List.mem_cons_self).1
      refine ⟨_, _, run_endRound (some .ret) hl5, false, _, rfl, turn w3 _ _ HU2 _ hm5, ?_⟩
      refine ⟨HU2, hX, ?_⟩
      rw [hrec]
      rfl
    | exit id => exact hq.elim
    | goto t => exact hq.elim
    | panic c => exact hq.elim
    | outgrown => exact hq.elim
  have hev := hs.eval g _ hg
  refine ⟨w.heap.size + 1, [mark w.heap.size], W1, { target := .fn (.func f) caps.toArray, args := #[.func (.yield (w.heap.size + 1)) #[] #[]] }, W1, f, #[.func (.yield (w.heap.size + 1)) #[] #[]] ++ caps.toArray, W1, ?_, ?_, fun _ _ => trivial, ?_, fen_depth none, ?_⟩
  · rw [← hW1, hrec]
    exact run_enterLoop_outer _ _ _ _ _
  · simp only [resolve, hev]
    simp [go_sem]
  · simp [invoke, hcf.out]
  · have harr : (#[.func (.yield (w.heap.size + 1)) #[] #[]] ++ caps.toArray : Array Value) = (.func (.yield (w.heap.size + 1)) #[] #[] :: caps).toArray := by simp
    rw [harr]
    refine CallsIn.mono (calls_fen (r := none) hcall) ?_
    rintro e w2 ⟨v, H', rfl, hm2, H1, hI, hsub⟩
    have hm3 := hsub.use hm2
    have fin : ∀ (st : LoopState) (pe : Option Code) (HU : List Blk), st ≠ .busy → Mem w0 w2 ((.obj (w.heap.size + 1) (.loop (rec st pe)) :: dObj w.heap.size :: HU) ++ Hc) →
        ∃ w4, (Instr.endLoop (w.heap.size + 1)).run P w2 = .ok pe w4 ∧ Mem w0 w4 (dObj w.heap.size :: (HU ++ Hc)) := by
      intro st pe HU hst hm4
      have hl : w2.heap[w.heap.size + 1]? = some (.loop (rec st pe)) := (hm4.on _ List.mem_cons_self).1
      have hr := run_endLoop (P := P) hl (by rw [hrec]; exact hst)
      have hp : (rec st pe).pending = pe := by rw [hrec]
      rw [hp] at hr
      refine ⟨_, hr, ?_⟩
      exact (Mem.upd (b := .obj (w.heap.size + 1) (.loop (rec st pe))) (b' := .obj (w.heap.size + 1) (.loop { rec st pe with state := .exhausted, pending := pe })) hm4 (grownBy_putObj' w2 _ _) (World.putObj_heap_same (Array.getElem?_eq_some_iff.1 hl).1) fun k hk => .inl hk).tail
    have hst : St ⟨m, [mark w.heap.size]⟩ s { a with defers := [mark w.heap.size] ++ a.defers } := ⟨hs.size, by rw [hs.defers]; rfl, hs.has⟩
    rcases hI with ⟨HU, hU, rfl⟩ | ⟨pre, HU, hX, rfl⟩
    · obtain ⟨w4, hr, hm4⟩ := fin _ _ HU (by decide) hm3
      exact ⟨none, w4, hr, hdone _ HU hU _ w4 hst hm4⟩
    · obtain ⟨w4, hr, hm4⟩ := fin _ _ HU (by decide) hm3
      exact ⟨some .ret, w4, hr, wpIn_ret (hexit _ HU hX _ w4 hst hm4)⟩
end
end Go.SL

/-
  The built-in copy into a row of one's own.
-/
namespace Go.SL
open Go Go.RowKit

theorem wl_copy {P : Program} {n : Fr} {w0 : World} {Q : Post} {s : Slots} {H : List Blk} {rest : List Oper} {ty : TypeId} {p : String} {af : Array Edge} {d t e m c c' sz by_ g g2 o2 : Nat} {x y : Operand} {xs ys : List Value} {R : List Blk} {ops : Array Oper} [ht : Und P t (.slice e)] [he : Elem P e sz by_] (hn : Nat.blt d n.sz = true)
    (hx : ev s x = some (.slice (some ⟨g, 0, none⟩) m c)) (hy : ev s y = some (.slice (some ⟨g2, o2, none⟩) m c')) (hsel : Sel (.own (some g) e sz m c xs) H R)
    (hr : Ro w0 g2 o2 ys) (hl : ys.length = m * sz) (h1 : ∀ u ∈ ys, u.oneCell' = true)
    (k : WL P n w0 ops rest Q ((d, .int .i64 (m : Int)) :: s) (.own (some g) e sz m c ys :: R)) :
    WL P n w0 ops (⟨some d, .call { callee := .builtin .copy, args := #[x, y], argTypes := #[t, t] }, ty, p, af, none⟩ :: rest) Q s H := by
  intro a w hs hm
  have hm' := hm.sel hsel
  obtain ⟨i, z, i1, i2, i3, i4, i5, i6⟩ := he.out
  obtain ⟨b1, b2, b3, junk, b4, b5⟩ := (hm'.on _ List.mem_cons_self).1
  have hfc := run_firstCells_some (P := P) (w := w) i.size m ⟨g2, o2, none⟩ m c' ys (by rw [i2]; exact hl) (fun j v hv => by rw [addr_add]; exact hr.later hm j v hv)
  have hst := run_storeCells_at P g 0 e ys 0 _ w b5 (by simp; omega) h1
  have he' : (xs ++ junk).take 0 ++ ys ++ (xs ++ junk).drop ys.length = ys ++ junk := by
    rw [hl, ← b1, List.drop_left]; simp
  simp only [Nat.add_zero, Nat.zero_add] at hst
  simp only [he'] at hst
  have hrun : (Builtin.copy_ #[t, t] ty #[.slice (some ⟨g, 0, none⟩) m c, .slice (some ⟨g2, o2, none⟩) m c']).run P w = .ok (goInt m) (w.setRow g (ys ++ junk).toArray) := by
    simp [Builtin.copy_, run_underlying ht.out, Builtin.lenOf, sizeOf, typeInfo, i1, hfc, hst]
  refine wpList_plain rfl fun K hK => ?_
  unfold Oper.wp execOp
  simp only [resolve, invoke, builtin, Sem.run_bind, Sem.run_pure, Result.andThen_ok, List.map_toArray, List.map_cons, List.map_nil, hs.eval x _ hx, hs.eval y _ hy, hrun, Oper.upon]
  refine hK _ _ (k _ _ (hs.put (Nat.blt_eq ▸ hn) _) (hm'.upd (setRow_grown _ _ _) (b' := .own (some g) e sz m c ys) ⟨hl, b2, b3, junk, ?_, setRow_heap _ _ _ _ _ _ b5⟩ fun k hk => .inl hk))
  rw [List.length_append, hl, ← b1, ← List.length_append]
  exact b4
end Go.SL

/-
  Arrays behind a pointer; a loop of a few rounds, one by one.
-/
namespace Go.SL
open Go Go.RowKit

section
variable {P : Program} {n : Fr} {w0 : World} {Q : Post} {s : Slots} {H : List Blk} {ty : TypeId}

theorem v_ia_arr {x ix : Operand} {t e g off m j sz : Nat} {k : IntKind} [ht : Und P t (.array m e)] [hs : Size P e sz] (hx : ev s x = some (.pointer (some ⟨g, off, none⟩))) (hi : ev s ix = some (.int k (j : Nat)))
    (hj : j < m) : VOp P w0 s H (.indexAddr t x ix) ty (.pointer (some ⟨g, off + j * sz, none⟩)) := fun ρ w _ _ _ _ hρ _ => by
  obtain ⟨i, h1, h2⟩ := hs.out
  have hj' : (j : Int) < (m : Int) := by omega
  have h0 : (0 : Int) ≤ (j : Int) := by omega
  have hadd : (⟨g, off, none⟩ : Addr).add (j * sz) = ⟨g, off + j * sz, none⟩ := by
    unfold Addr.add; split <;> simp_all
  simp [execOp, hρ x _ hx, hρ ix _ hi, Instr.indexAt, run_underlying ht.out, asIntOf, sizeOf, typeInfo, h1, h2, hadd, Instr.sureAddr]
  try omega
theorem v_ia_arr0 {x ix : Operand} {t e g off m sz : Nat} {k : IntKind} [ht : Und P t (.array m e)] [hs : Size P e sz] (hx : ev s x = some (.pointer (some ⟨g, off, none⟩))) (hi : ev s ix = some (.int k 0)) (hj : Nat.blt 0 m = true) :
    VOp P w0 s H (.indexAddr t x ix) ty (.pointer (some ⟨g, off, none⟩)) := by
  have h := v_ia_arr (P := P) (w0 := w0) (H := H) (ty := ty) (t := t) (j := 0) hx hi (by simpa using hj)
  rwa [Nat.zero_mul, Nat.add_zero] at h
theorem v_ia_arr1 {x ix : Operand} {t e g off m sz : Nat} {k : IntKind} [ht : Und P t (.array m e)] [hs : Size P e sz] (hx : ev s x = some (.pointer (some ⟨g, off, none⟩))) (hi : ev s ix = some (.int k 1)) (hj : Nat.blt 1 m = true) :
    VOp P w0 s H (.indexAddr t x ix) ty (.pointer (some ⟨g, off + sz, none⟩)) := by
  have h := v_ia_arr (P := P) (w0 := w0) (H := H) (ty := ty) (t := t) (j := 1) hx hi (by simpa using hj)
  rwa [Nat.one_mul] at h

/-- So many rounds of a loop's body, the last one leaving it. -/
def WRn (P : Program) (n : Fr) (w0 : World) (c : Code) (Q : Post) : Nat → Slots → List Blk → Prop
  | 0 => fun _ _ => False
  | k + 1 => W P n w0 c (thn (WRn P n w0 c Q k) Q)

theorem w_rounds {c : Code} (k : Nat) (h : WRn P n w0 c Q k s H) : W P n w0 (.loop c) Q s H := by
  intro a w hs hm
  refine wp_loop_rounds k ?_
  induction k generalizing s H a w with
  | zero => exact h.elim
  | succ k ih =>
    rw [rounds_succ]
    refine wp_mono (h a w hs hm) ?_
    rintro e a' w' ⟨s', H', h1, h2, h3⟩
    cases e with
    | normal => exact ih h3 a' w' h1 h2
    | _ => exact ⟨s', H', h1, h2, h3⟩
/-- One cell of an element written anew. -/
theorem flat_setc {α : Type} {enc : α → List Value} {m : Nat} (h : ∀ a, (enc a).length = m) (L : List α) (i k : Nat) (hi : i < L.length) (hk : k < m) (v : Value) (a : α) (ha : (enc L[i]).set k v = enc a) :
    (L.flatMap enc).set (i * m + k) v = (L.set i a).flatMap enc := by
  rw [← flat_set h L i hi a]
  have hl : ((L.flatMap enc).take (i * m)).length = i * m := by
    have h1 := flat_length' h L
    have h2 : i * m ≤ L.length * m := Nat.mul_le_mul_right _ (by omega)
    rw [List.length_take]; omega
  have h1 : L.flatMap enc = (L.flatMap enc).take (i * m) ++ (enc L[i] ++ (L.flatMap enc).drop (i * m + m)) := by
    rw [← flat_elem h L i hi]
    conv => lhs; rw [← List.take_append_drop (i * m) (L.flatMap enc)]
    congr 1
    conv => lhs; rw [← List.take_append_drop m ((L.flatMap enc).drop (i * m))]
    rw [List.drop_drop]
  generalize (L.flatMap enc).take (i * m) = X at h1 hl
  generalize (L.flatMap enc).drop (i * m + m) = S at h1
  rw [h1, List.set_append_right _ _ (by omega), hl, Nat.add_sub_cancel_left, List.set_append_left _ _ (by rw [h]; exact hk), ha]
  simp
theorem wrn {c : Code} {k : Nat} (h : W P n w0 c (thn (WRn P n w0 c Q k) Q) s H) : WRn P n w0 c Q (k + 1) s H := h
end
end Go.SL

/-
  The data of package api as records, their cells, and what the functions of packages addr, rect, glyph, val and tree compute, in plain words. No program in sight.
-/
import Derived.Test.YtfkklicpnoeclaaSv
namespace Go.SL
open Go

structure Rct where
  c1 : Int
  r1 : Int
  c2 : Int
  r2 : Int
structure Vl where
  kind : Int
  num : Int
  text : ByteArray
structure Nd where
  kind : Int
  v : Vl
  rect : Rct
  op : Int
  fn : Int
  n : Int

def encR (r : Rct) : List Value := [.int .i64 r.c1, .int .i64 r.r1, .int .i64 r.c2, .int .i64 r.r2]
def encV (v : Vl) : List Value := [.int .u8 v.kind, .int .i64 v.num, .string v.text]
def encN (n : Nd) : List Value :=
  [.int .u8 n.kind, .int .u8 n.v.kind, .int .i64 n.v.num, .string n.v.text, .int .i64 n.rect.c1, .int .i64 n.rect.r1, .int .i64 n.rect.c2, .int .i64 n.rect.r2, .int .i64 n.op, .int .u8 n.fn, .int .i64 n.n]

def valid (c r : Int) : Bool := decide (1 ≤ c) && decide (c ≤ 1024) && decide (1 ≤ r) && decide (r ≤ 1024)
def rectOk (r : Rct) : Bool := valid r.c1 r.r1 && valid r.c2 r.r2 && decide (r.c1 ≤ r.c2) && decide (r.r1 ≤ r.r2)
def rectE (r : Rct) : Int := bif rectOk r then 0 else 3

def plainB (b : ByteArray) : Bool := b.data.toList.all fun c => decide (32 ≤ c.toNat) && decide (c.toNat ≤ 126)
def glyphE (b : ByteArray) : Int := bif decide (256 < b.size) then 5 else bif plainB b then 0 else 4

def emptyB : ByteArray := ⟨#[]⟩
def valOk (v : Vl) : Bool :=
  bif decide (v.kind = 0) then decide (v.num = 0) && decide (v.text = emptyB)
  else bif decide (v.kind = 1) then decide (v.text = emptyB) && decide (v.num ≠ -9223372036854775808)
  else bif decide (v.kind = 2) then decide (v.text = emptyB) && decide (v.num / 2 = 0)
  else bif decide (v.kind = 3) then decide (v.num = 0) && decide (glyphE v.text = 0)
  else bif decide (v.kind = 4) then decide (v.text = emptyB) && decide (1 ≤ v.num) && decide (v.num ≤ 6)
  else false
def valE (v : Vl) : Int := bif valOk v then 0 else 2

def knownF (fn : Int) : Bool := decide (1 ≤ fn) && decide (fn ≤ 50)
def releasedF (fn : Int) : Bool := decide (46 ≤ fn) && decide (fn ≤ 50)

/-- least, most, error -/
def arity (fn : Int) : Int × Int × Int :=
  if fn = 5 ∨ fn = 6 ∨ fn = 7 ∨ fn = 25 ∨ fn = 39 ∨ fn = 40 ∨ fn = 18 ∨ fn = 19 ∨ fn = 45 ∨ fn = 44 then (2, 2, 0)
  else if fn = 20 ∨ fn = 41 ∨ fn = 43 then (2, 3, 0)
  else if fn = 32 ∨ fn = 33 then (1, 2, 0)
  else if fn = 34 then (3, 3, 0)
  else if fn = 21 ∨ fn = 22 ∨ fn = 23 ∨ fn = 38 ∨ fn = 9 ∨ fn = 10 ∨ fn = 11 ∨ fn = 12 ∨ fn = 14 ∨ fn = 15 ∨ fn = 16 ∨ fn = 17 then (1, 16, 0)
  else if fn = 30 then (2, 16, 0)
  else if knownF fn then (1, 1, 0) else (0, 0, 10)

def wideF (fn i : Int) : Bool × Int :=
  if (arity fn).2.2 ≠ 0 then (false, (arity fn).2.2)
  else if i < 0 ∨ (arity fn).2.1 ≤ i then (false, 3)
  else if fn = 9 ∨ fn = 10 ∨ fn = 11 ∨ fn = 12 ∨ fn = 14 ∨ fn = 15 ∨ fn = 16 ∨ fn = 17 then (true, 0)
  else if fn = 44 then (decide (i = 1), 0)
  else if fn = 18 ∨ fn = 19 ∨ fn = 45 ∨ fn = 43 ∨ fn = 13 then (decide (i = 0), 0)
  else (releasedF fn, 0)

def below (n : Nd) : Int :=
  if n.kind = 4 ∨ n.kind = 5 then 1 else if n.kind = 6 then 2 else if n.kind = 7 then n.n else 0


def zeroR : Rct := ⟨0, 0, 0, 0⟩
def zeroV : Vl := ⟨0, 0, emptyB⟩

/-- The node with the fields alone that its kind has. -/
def want (n : Nd) : Nd :=
  if n.kind = 1 then ⟨n.kind, n.v, zeroR, 0, 0, 0⟩
  else if n.kind = 2 ∨ n.kind = 3 then ⟨n.kind, zeroV, n.rect, 0, 0, 0⟩
  else if n.kind = 6 then ⟨n.kind, zeroV, zeroR, n.op, 0, 0⟩
  else if n.kind = 7 then ⟨n.kind, zeroV, zeroR, 0, n.fn, n.n⟩
  else ⟨n.kind, zeroV, zeroR, 0, 0, 0⟩

def litOk (v : Vl) : Bool :=
  (if v.kind = 0 then false else if v.kind = 1 then decide (0 ≤ v.num) else if v.kind = 4 then decide (1 ≤ v.num) && decide (v.num ≤ 5) else true) && decide (valE v = 0)

def oneR (r : Rct) : Bool := decide (r.c1 = r.c2) && decide (r.r1 = r.r2)

def kindOk (n : Nd) : Bool :=
  if n.kind = 1 then litOk n.v
  else if n.kind = 2 ∨ n.kind = 3 then decide (rectE n.rect = 0) && (oneR n.rect == decide (n.kind = 2))
  else if n.kind = 4 ∨ n.kind = 5 then true
  else if n.kind = 6 then decide (1 ≤ n.op) && decide (n.op ≤ 12)
  else if n.kind = 7 then decide (0 ≤ n.n)
  else false

def eqV (a b : Vl) : Bool := decide (a.kind = b.kind) && (decide (a.num = b.num) && decide (a.text = b.text))
def eqR (a b : Rct) : Bool := decide (a.c1 = b.c1) && (decide (a.r1 = b.r1) && (decide (a.c2 = b.c2) && decide (a.r2 = b.r2)))
def eqN (a b : Nd) : Bool := decide (a.kind = b.kind) && (eqV a.v b.v && (eqR a.rect b.rect && (decide (a.op = b.op) && (decide (a.fn = b.fn) && decide (a.n = b.n)))))

theorem eqV_iff {a b : Vl} : eqV a b = true ↔ a = b := by
  obtain ⟨a1, a2, a3⟩ := a
  obtain ⟨b1, b2, b3⟩ := b
  simp [eqV]
theorem eqR_iff {a b : Rct} : eqR a b = true ↔ a = b := by
  obtain ⟨a1, a2, a3, a4⟩ := a
  obtain ⟨b1, b2, b3, b4⟩ := b
  simp [eqR]
theorem eqN_iff {a b : Nd} : eqN a b = true ↔ a = b := by
  obtain ⟨a1, a2, a3, a4, a5, a6⟩ := a
  obtain ⟨b1, b2, b3, b4, b5, b6⟩ := b
  simp [eqN, eqV_iff, eqR_iff]

theorem beqI (a b : Int) : (a == b) = decide (a = b) := by rw [Bool.eq_iff_iff]; simp


/-- 'fields': the error of a node by itself. -/
def fieldsE (n : Nd) : Int :=
  if kindOk n = false ∨ eqN n (want n) = false then 2
  else if n.kind ≠ 7 then 0
  else if (arity n.fn).2.2 ≠ 0 then (arity n.fn).2.2
  else if n.n < (arity n.fn).1 ∨ (arity n.fn).2.1 < n.n then 11
  else 0


/-! ### The stack of trees -/

structure Pt where
  root : Nat
  depth : Nat
  wide : Bool
def encP (p : Pt) : List Value := [.int .i64 (p.root : Int), .int .i64 (p.depth : Int), .bool p.wide]
theorem encN_len (n : Nd) : (encN n).length = 11 := rfl
theorem encP_len (p : Pt) : (encP p).length = 3 := rfl

def kindAt (L : List Nd) (i : Nat) : Int := ((L[i]?).map Nd.kind).getD 0
def mayAt (n : Nd) (i : Int) : Bool := if n.kind = 7 then (wideF n.fn i).1 else false
def fitOne (L : List Nd) (n : Nd) (i : Int) (p : Pt) : Bool :=
  !(p.wide && !mayAt n i) && !(decide (n.kind = 7) && releasedF n.fn && decide (kindAt L p.root ≠ 2) && decide (kindAt L p.root ≠ 3))
def fitsFrom (L : List Nd) (n : Nd) : Int → List Pt → Bool
  | _, [] => true
  | i, p :: r => fitOne L n i p && fitsFrom L n (i + 1) r

/-- What is on top of the stack below a node: the last k trees. -/
def topOf (st : List Pt) (k : Nat) : List Pt := st.drop (st.length - k)

def depthOf (top : List Pt) : Nat := top.foldl (fun d p => max d (p.depth + 1)) 1

/-- One node: the error, or the stack after it, the roots below it and its depth. -/
def stepT (L : List Nd) (n : Nd) (i : Nat) (st : List Pt) : Int ⊕ (List Pt × List Nat × Nat) :=
  if fieldsE n ≠ 0 then .inl (fieldsE n)
  else if (st.length : Int) < below n ∨ fitsFrom L n 0 (topOf st (below n).toNat) = false then .inl 4
  else if 32 < depthOf (topOf st (below n).toNat) then .inl 9
  else .inr (st.take (st.length - (below n).toNat) ++ [⟨i, depthOf (topOf st (below n).toNat), decide (n.kind = 3)⟩], (topOf st (below n).toNat).map Pt.root, depthOf (topOf st (below n).toNat))

/-- What a visit is given: the roots below the node, and its depth. -/
abbrev Visit := List Nat × Nat

def walkT (L : List Nd) : List Nd → Nat → List Pt → List Visit → Int × List Visit
  | [], _, st, vs => (if st.length = 1 then 0 else 4, vs)
  | n :: r, i, st, vs => match stepT L n i st with
    | .inl e => (e, vs)
    | .inr (st', kids, d) => walkT L r (i + 1) st' (vs ++ [(kids, d)])

end Go.SL

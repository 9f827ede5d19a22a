/-
  Lemmas and walks, put together: Sl7 Sv.
-/
import Derived.WalkSpells
import Derived.Test.YtpohljcebgacjaaGreatDoorKe03
set_option linter.unusedSimpArgs false
set_option linter.unusedVariables false
set_option maxRecDepth 20000
namespace Go.SL
open Go Go.RowKit
class Tidy (p : Prop) (q : outParam Prop) : Prop where
 out : p → q
instance (priority := 10) tidySame {p : Prop} : Tidy p p := ⟨id⟩
instance tidyT {p q : Prop} [Decidable p] [h : Tidy p q] : Tidy (decide p = true) q := ⟨fun k => h.out (of_decide_eq_true k)⟩
instance tidyF {p q : Prop} [Decidable p] [h : Tidy (¬ p) q] : Tidy (decide p = false) q := ⟨fun k => h.out (of_decide_eq_false k)⟩
instance tidyNT {b : Bool} {q : Prop} [h : Tidy (b = false) q] : Tidy ((!b) = true) q := ⟨fun k => h.out (by simpa using k)⟩
instance tidyNF {b : Bool} {q : Prop} [h : Tidy (b = true) q] : Tidy ((!b) = false) q := ⟨fun k => h.out (by simpa using k)⟩
instance tidyLt {a b : Int} : Tidy (¬ a < b) (b ≤ a) := ⟨Int.not_lt.1⟩
instance tidyLe {a b : Int} : Tidy (¬ a ≤ b) (b < a) := ⟨Int.not_le.1⟩
section
variable {P : Program} {n : Fr} {w0 : World} {Q : Post} {s : Slots} {H : List Blk} {l rest : List Oper} {ty : TypeId} {p : String} {af : Array Edge} {f : Nat} {L : Array Bool}
def WA (P : Program) (n : Fr) (w0 : World) (l : List Oper) (Q : Post) (f : Nat) (L : Array Bool) (s : Slots) (H : List Blk) : Prop :=
 ∀ a w, St n s a → Mem w0 w H → wpAny P .any l.toArray (post n w0 Q) f L a w
theorem w_drawA {id : Nat} (N : Nat) (hN : l.length = N) (hm : P.follows .mixedOrders = true) (h : WA P n w0 l Q N (Array.replicate N false) s H) : W P n w0 (.region id l.toArray true) Q s H := by
 intro a w hs hmem
 subst hN
 refine wp_region_any hm ?_
 simpa using h a _ hs hmem.drew
theorem wa_done (hr : Region.ready .any l.toArray L = []) (h : Q .normal s H) : WA P n w0 l Q f L s H := by
 intro a w hs hm
 cases f with
 | zero => exact ⟨hr, s, H, hs, hm, h⟩
 | succ f => exact ⟨fun _ => ⟨s, H, hs, hm, h⟩, fun i hi => by rw [hr] at hi; cases hi⟩
def NoPanic (Q : Post) : Prop := ∀ c s H, ¬ Q (.panic c) s H
theorem np_thn {K : Slots → List Blk → Prop} (h : NoPanic Q) : NoPanic (thn K Q) := fun c s H hq => h c s H hq
theorem np_blk {id : Nat} (h : NoPanic Q) : NoPanic (blk id Q) := fun c s H hq => h c s H hq
theorem np_ret {fn : Func} {R : Value → List Blk → Prop} : NoPanic (retP P fn n w0 R) := fun c s H hq => by
 obtain ⟨h | h, _⟩ := hq <;> cases h
theorem wa_pure {i : Nat} {op : Op} {d : Nat} {v : Value} (hi : l[i]? = some ⟨some d, op, ty, p, af, none⟩) (hn : Nat.blt d n.sz = true) (hsel : Region.noSelect l.toArray = true) (hr : (Region.ready .any l.toArray L).contains i = true) (hf : Region.free .any l.toArray L i = true)
  (hnp : NoPanic Q) (hv : ∀ w0 H, VOp P w0 s H op ty v) (h : WA P n w0 l Q f (L.setIfInBounds i true) ((d, v) :: s) H) : WA P n w0 l Q (f + 1) L s H := by
 intro a w hs hm
 have hi' : l.toArray[i]? = some ⟨some d, op, ty, p, af, none⟩ := by simpa using hi
 refine wpAny_first hi' (Region.noSelect_spec hsel) (v := v) (fun c a' w' hq => ?_) f L a w (Region.free_spec hi' hf) (by simpa using hr) (.inl ⟨rfl, fun w' => hv w' [] a.eval w' _ _ _ _ hs.eval (Mem.refl w')⟩) (h _ _ (hs.put (Nat.blt_eq ▸ hn) v) hm)
 obtain ⟨s', H', h1, h2, h3⟩ := hq
 exact (hnp c s' H' h3).elim
theorem upon_mono {o : Oper} {a : Act} {next next' : Act → World → Prop} {Q1 Q2 : Exit → Act → World → Prop} {r : Result Next} (hn : ∀ a w, next a w → next' a w) (hp : ∀ c a w, Q1 (.panic c) a w → Q2 (.panic c) a w) (ho : ∀ a w, Q1 .outgrown a w → Q2 .outgrown a w) (h : o.upon P a next Q1 r) : o.upon P a next' Q2 r := by
  cases r with
  | ok x w' =>
    cases x <;> simp only [Oper.upon] at h ⊢ <;> first
      | exact hn _ _ h
      | (refine Calls.mono h fun e w'' he => ?_
         cases e with
         | returned v => exact hn _ _ he
         | panicked c => exact hp _ _ _ he
         | outgrown => obtain ⟨a0, w0, h0⟩ := he; exact ⟨a0, w0, ho _ _ h0⟩)
      | exact Rows.mono h fun v w'' he => hn _ _ he
  | halt x w' => cases x <;> simp only [Oper.upon] at h ⊢ <;> exact hp _ _ _ h
theorem wa_one {i : Nat} {o : Oper} (hi : l[i]? = some o) (hr : Region.ready .any l.toArray L = [i]) (h : WL P n w0 l.toArray [o] (thn (WA P n w0 l Q f (L.setIfInBounds i true)) Q) s H) : WA P n w0 l Q (f + 1) L s H := by
 intro a w hs hm
 refine ⟨fun h0 => (by rw [hr] at h0; cases h0), fun j hj => ?_⟩
 rw [hr] at hj
 have e : j = i := by simpa using hj
 subst e
 have h1 := h a w hs hm
 have hi' : l.toArray[j]? = some o := by simpa using hi
 unfold wpOp
 simp only [hi']
 unfold wpList at h1
 have hnext : ∀ a w, wpList P l.toArray (post n w0 (thn (WA P n w0 l Q f (L.setIfInBounds j true)) Q)) [] a w → wpAny P .any l.toArray (post n w0 Q) f (L.setIfInBounds j true) a w := by
  rintro a w ⟨s', H', h1, h2, h3⟩
  exact h3 a w h1 h2
 split
 ·
  rename_i hw
  rw [if_pos hw] at h1
  refine h1.imp (fun h2 => upon_mono hnext (fun c a w h => h) (fun a w h => h) h2) fun ⟨h2, a0, w0, h3⟩ => ⟨h2, a0, w0, h3⟩
 ·
  rename_i hw
  rw [if_neg hw] at h1
  exact hnext _ _ h1
theorem v_slice {t e lo hi m c sz : Nat} {A : Option Addr} {x : Operand} {xl xh : Option Operand} [ht : Und P t (.slice e)] [hz : Size P e sz] (hx : ev s x = some (.slice A m c))
  (hxl : match xl with | none => lo = 0 | some q => ∃ k, ev s q = some (.int k (lo : Nat))) (hxh : match xh with | none => hi = m | some q => ∃ k, ev s q = some (.int k (hi : Nat))) (h1 : lo ≤ hi) (h2 : hi ≤ c) :
  VOp P w0 s H (.slice t x xl xh none) ty (.slice (if c = lo then A else A.map (·.add (lo * sz))) (hi - lo) (c - lo)) := fun ρ w _ _ _ _ hρ _ => by
 obtain ⟨i, hi1, hi2⟩ := hz.out
 have e1 : ((lo : Nat) : Int) ≤ ((hi : Nat) : Int) := by omega
 have e2 : ((hi : Nat) : Int) ≤ ((c : Nat) : Int) := by omega
 have e3 : ((0 : Nat) : Int) ≤ ((hi : Nat) : Int) := by omega
 cases xl with
 | none =>
  cases xh with
  | none =>
   simp only at hxl hxh
   subst hxl hxh
   simp [execOp, hρ x _ hx, Instr.sliceAt, run_underlying ht.out, Instr.slice, Instr.sliceBounds, sizeOf, typeInfo, hi1]
  | some q =>
   simp only at hxl hxh
   subst hxl
   obtain ⟨kk, hq⟩ := hxh
   simp [execOp, hρ x _ hx, hρ q _ hq, Instr.sliceAt, run_underlying ht.out, Instr.slice, Instr.sliceBounds, Instr.sliceBound, asIntOf, sizeOf, typeInfo, hi1, h2]
 | some ql =>
  obtain ⟨kl, hql⟩ := hxl
  cases xh with
  | none =>
   simp only at hxh
   subst hxh
   simp [execOp, hρ x _ hx, hρ ql _ hql, Instr.sliceAt, run_underlying ht.out, Instr.slice, Instr.sliceBounds, Instr.sliceBound, asIntOf, sizeOf, typeInfo, hi1, hi2, h1]
  | some q =>
   obtain ⟨kk, hq⟩ := hxh
   simp [execOp, hρ x _ hx, hρ q _ hq, hρ ql _ hql, Instr.sliceAt, run_underlying ht.out, Instr.slice, Instr.sliceBounds, Instr.sliceBound, asIntOf, sizeOf, typeInfo, hi1, hi2, h1, h2]
def Reads (w : World) (v : Value) (m : Nat) (xs : List Value) : Prop :=
 ∃ A cap, v = .slice A m cap ∧ m ≤ cap ∧ cap ≤ maxLen ∧ (0 < m → ∃ g o, A = some ⟨g, o, none⟩ ∧ Ro w g o xs)
theorem Ro.of_own {w : World} {g t sz m c : Nat} {xs : List Value} (hm : Mem w0 w H) (hi : In (.own (some g) t sz m c xs) H) : Ro w g 0 xs := by
 have h1 := hm.cells_own hi
 refine ⟨?_, h1⟩
 obtain ⟨_, _, _, junk, _, h2⟩ := (hm.on _ hi.mem).1
 exact (Array.getElem?_eq_some_iff.1 h2).1
theorem Ro.of_ro {w : World} {g o : Nat} {xs : List Value} (hm : Mem w0 w H) (h : Ro w0 g o xs) : Ro w g o xs :=
 ⟨Nat.lt_of_lt_of_le h.lt hm.below.size, h.later hm⟩
theorem Ro.drop {w : World} {g o k : Nat} {xs : List Value} (h : Ro w g o xs) : Ro w g (o + k) (xs.drop k) := ⟨h.lt, h.cells.drop⟩
theorem Ro.take {w : World} {g o k : Nat} {xs : List Value} (h : Ro w g o xs) : Ro w g o (xs.take k) := ⟨h.lt, h.cells.take⟩
theorem Reads.of_own {w : World} {A : Option Nat} {t sz m c : Nat} {xs : List Value} (hm : Mem w0 w H) (hi : In (.own A t sz m c xs) H) : Reads w (sl A m c) m xs := by
 obtain ⟨h1, h2, h3, h4⟩ := (hm.on _ hi.mem).1
 refine ⟨_, c, rfl, h2, h3, fun hpos => ?_⟩
 cases A with
 | none => obtain ⟨rfl, _⟩ := h4; omega
 | some g => exact ⟨g, 0, rfl, Ro.of_own hm hi⟩
theorem Reads.of_w0 {w : World} {v : Value} {m : Nat} {xs : List Value} (hm : Mem w0 w H) (h : Reads w0 v m xs) : Reads w v m xs := by
 obtain ⟨A, cap, rfl, h1, h2, h3⟩ := h
 exact ⟨A, cap, rfl, h1, h2, fun hp => let ⟨g, o, hA, hr⟩ := h3 hp; ⟨g, o, hA, Ro.of_ro hm hr⟩⟩
theorem Reads.cut {w : World} {A : Option Addr} {m cap lo hi sz : Nat} {xs : List Value} (h : Reads w (.slice A m cap) m xs) (h1 : lo ≤ hi) (h2 : hi ≤ m) :
  Reads w (.slice (if cap = lo then A else A.map (·.add (lo * sz))) (hi - lo) (cap - lo)) (hi - lo) ((xs.drop (lo * sz)).take ((hi - lo) * sz)) := by
 obtain ⟨A', cap', he, hm, hc, hr⟩ := h
 injection he with e1 e2 e3
 subst e1; subst e3
 refine ⟨_, _, rfl, by omega, by omega, fun hp => ?_⟩
 obtain ⟨g, o, rfl, hro⟩ := hr (by omega)
 rw [if_neg (by omega)]
 exact ⟨g, o + lo * sz, by simp [addr_add], hro.drop.take⟩
theorem w_some {c : Code} {A : Option Nat} {t sz m cap : Nat} {xs : List Value} (hi : In (.own A t sz m cap xs) H) (hm : 0 < m) (h : ∀ g, A = some g → W P n w0 c Q s H) : W P n w0 c Q s H := fun a w hs hmem => by
 obtain ⟨_, _, _, h4⟩ := (hmem.on _ hi.mem).1
 cases A with
 | none => obtain ⟨rfl, _⟩ := h4; omega
 | some g => exact h g rfl a w hs hmem
theorem w_row {c : Code} {A : Option Nat} {t sz m cap : Nat} {xs : List Value} (hi : In (.own A t sz m cap xs) H) (h : xs.length = m * sz → m ≤ cap → cap ≤ maxLen → W P n w0 c Q s H) : W P n w0 c Q s H := fun a w hs hmem => by
 obtain ⟨h1, h2, h3, _⟩ := (hmem.on _ hi.mem).1
 exact h h1 h2 h3 a w hs hmem
theorem Mem.shrink {w : World} {A : Option Nat} {t sz m cap k : Nat} {xs : List Value} (hm : Mem w0 w (.own A t sz m cap xs :: H)) (hk : k ≤ m) : Mem w0 w (.own A t sz k cap (xs.take (k * sz)) :: H) := by
 have h0 := hm.on _ List.mem_cons_self
 obtain ⟨⟨h1, h2, h3, h4⟩, h5⟩ := h0
 have hlen : k * sz ≤ m * sz := Nat.mul_le_mul_right _ hk
 refine ⟨hm.below, fun b hb => ?_, List.pairwise_cons.2 ⟨fun x hx => (List.pairwise_cons.1 hm.apart).1 x hx, (List.pairwise_cons.1 hm.apart).2⟩⟩
 rcases List.mem_cons.1 hb with rfl | hb
 ·
  refine ⟨⟨by rw [List.length_take]; omega, by omega, h3, ?_⟩, h5⟩
  cases A with
  | none => obtain ⟨rfl, rfl⟩ := h4; exact ⟨by omega, rfl⟩
  | some g =>
   obtain ⟨junk, j1, j2⟩ := h4
   exact ⟨xs.drop (k * sz) ++ junk, by rw [← List.append_assoc, List.take_append_drop]; exact j1, by rw [← List.append_assoc, List.take_append_drop]; exact j2⟩
 ·
  exact hm.on b (List.mem_cons_of_mem _ hb)
theorem w_shrink {c : Code} {A : Option Nat} {t sz m cap : Nat} {xs : List Value} {R : List Blk} (hsel : Sel (.own A t sz m cap xs) H R) (k : Nat) (hk : k ≤ m) (h : W P n w0 c Q s (.own A t sz k cap (xs.take (k * sz)) :: R)) : W P n w0 c Q s H :=
 fun a w hs hm => h a w hs ((hm.sel hsel).shrink hk)
theorem w_loopR {ι : Type} {c : Code} (I : ι → Slots → List Blk → Prop) (μ : ι → Nat) (i0 : ι) (h0 : ∃ s0 H0, Sub s0 s ∧ MSub H0 H ∧ I i0 s0 H0)
  (round : ∀ i s H, I i s H → W P n w0 c (thn (fun s' H' => ∃ i' s1 H1, μ i' < μ i ∧ Sub s1 s' ∧ MSub H1 H' ∧ I i' s1 H1) Q) s H) : W P n w0 (.loop c) Q s H := by
 intro a w hs hm
 obtain ⟨s0, H0, hs0, hH0, hI⟩ := h0
 refine wp_loop_ghost (fun k a' w' => ∃ i s1 H1, I i s1 H1 ∧ μ i = k ∧ St n s1 a' ∧ Mem w0 w' H1) (μ i0) ⟨i0, s0, H0, hI, rfl, hs.sub hs0, hH0.use hm⟩ ?_
 rintro k a1 w1 ⟨i, s1, H1, hI1, rfl, hs1, hm1⟩
 refine wp_mono (round i s1 H1 hI1 a1 w1 hs1 hm1) ?_
 rintro e a' w' ⟨s', H', h1, h2, h3⟩
 cases e with
 | normal =>
  obtain ⟨i', s2, H2, hlt, hsub, hms, hI2⟩ := h3
  exact ⟨μ i', hlt, i', s2, H2, hI2, rfl, h1.sub hsub, hms.use h2⟩
 | _ => exact ⟨s', H', h1, h2, h3⟩
theorem v_sliceP {t e hi m c sz : Nat} {A : Option Nat} {x q : Operand} {k : IntKind} [ht : Und P t (.slice e)] [hz : Size P e sz] (hx : ev s x = some (sl A m c)) (hq : ev s q = some (.int k (hi : Nat))) (h2 : hi ≤ c) :
  VOp P w0 s H (.slice t x none (some q) none) ty (sl A hi c) := by
 have h := v_slice (P := P) (w0 := w0) (H := H) (ty := ty) (t := t) (xl := none) (xh := some q) (lo := 0) (hi := hi) hx rfl ⟨k, hq⟩ (Nat.zero_le _) h2
 have e : (if c = 0 then (A.map fun g => (⟨g, 0, none⟩ : Addr)) else (A.map fun g => (⟨g, 0, none⟩ : Addr)).map (·.add (0 * sz))) = A.map fun g => ⟨g, 0, none⟩ := by
  split
  ·
   rfl
  ·
   cases A <;> simp [addr_add]
 unfold sl at h ⊢
 rw [e, Nat.sub_zero, Nat.sub_zero] at h
 exact h
theorem wl_buildSlice0 {d t e sz by_ : Nat} {ops : Array Oper} [ht : Und P t (.slice e)] [he : Elem P e sz by_] (hn : Nat.blt d n.sz = true)
  (k : ∀ g, WL P n w0 ops rest Q ((d, .slice (some ⟨g, 0, none⟩) 0 0) :: s) (.own (some g) e sz 0 0 [] :: H)) : WL P n w0 ops (⟨some d, .buildSlice t 0 #[], ty, p, af, none⟩ :: rest) Q s H := by
 refine wl_new (B := fun g => .own (some g) e sz 0 0 []) (v := fun g => .slice (some ⟨g, 0, none⟩) 0 0) hn (fun a w hs hm => ?_) k
 obtain ⟨i, z, h1, h2, h3, h4, h5, h6⟩ := he.out
 refine ⟨w.alloc (.cells #[] e), ?_, World.grownBy_alloc w _ none, Blk.own_of (xs := []) (heap_alloc_new w _) (by simp) rfl (Nat.zero_le _), rfl⟩
 have h0 : Array.range 0 = #[] := rfl
 simp [execOp, Instr.buildSlice, run_underlying ht.out, sizeOf, typeInfo, h1, Instr.fill, newRow, h0]
theorem v_eqlnil {t e m c : Nat} {A : Option Addr} {x : Operand} {t' : TypeId} [ht : Und P t (.slice e)] (hx : ev s x = some (.slice A m c)) : VOp P w0 s H (.binOp .eql t x (.const (.slice none 0 0)) t') ty (.bool A.isNone) := fun ρ w _ _ _ _ hρ _ => by
 have hc := hρ (.const (.slice none 0 0)) _ rfl
 simp [execOp, hρ x _ hx, hc, eqGuard, Lib.run_eql_slice_nil w t e A m c 0 0 ht.out]
theorem MSub.snoc {c : Blk} {K T U : List Blk} (hs : Sel c T U) (h : MSub K U) : MSub (K ++ [c]) T := by
 obtain ⟨X, hp⟩ := h
 refine ⟨X, hs.perm.trans ((hp.cons c).trans ?_)⟩
 rw [List.append_assoc]
 exact (List.perm_middle (l₁ := K) (a := c) (l₂ := X)).symm
theorem MSub.rot {c : Blk} {K T : List Blk} (h : MSub (K ++ [c]) T) : MSub (c :: K) T := by
 obtain ⟨X, hp⟩ := h
 exact ⟨X, hp.trans ((List.perm_append_comm (l₁ := K) (l₂ := [c])).append_right X)⟩
theorem v_subN {x y : Operand} {a b : Nat} {t t' : TypeId} (hx : ev s x = some (.int .i64 (a : Nat))) (hy : ev s y = some (.int .i64 (b : Nat))) (h : b ≤ a) (ha : a ≤ maxLen) : VOp P w0 s H (.binOp .sub t x y t') ty (.int .i64 ((a - b : Nat) : Int)) := by
 have e : ((a - b : Nat) : Int) = (a : Int) - (b : Int) := by omega
 rw [e]
 exact v_sub hx hy ⟨by omega, by simp only [maxLen] at ha; omega⟩
theorem v_addN {x y : Operand} {a b : Nat} {t t' : TypeId} (hx : ev s x = some (.int .i64 (a : Nat))) (hy : ev s y = some (.int .i64 (b : Nat))) (ha : a + b ≤ maxLen) : VOp P w0 s H (.binOp .add t x y t') ty (.int .i64 ((a + b : Nat) : Int)) := by
 rw [Int.natCast_add]
 exact v_add hx hy ⟨by omega, by simp only [maxLen] at ha; omega⟩
theorem v_succN {x y : Operand} {a : Nat} {t t' : TypeId} (hx : ev s x = some (.int .i64 (a : Nat))) (hy : ev s y = some (.int .i64 1)) (ha : a + 1 ≤ maxLen) : VOp P w0 s H (.binOp .add t x y t') ty (.int .i64 ((a + 1 : Nat) : Int)) := v_addN (b := 1) hx hy ha
theorem v_predN {x y : Operand} {a : Nat} {t t' : TypeId} (hx : ev s x = some (.int .i64 (a : Nat))) (hy : ev s y = some (.int .i64 1)) (h : 1 ≤ a) (ha : a ≤ maxLen) : VOp P w0 s H (.binOp .sub t x y t') ty (.int .i64 ((a - 1 : Nat) : Int)) := v_subN (b := 1) hx hy h ha
theorem v_maxN {x y : Operand} {a b : Nat} {ts : Array TypeId} (hx : ev s x = some (.int .i64 (a : Nat))) (hy : ev s y = some (.int .i64 (b : Nat))) :
  VOp P w0 s H (.call { callee := .builtin .max, args := #[x, y], argTypes := ts }) ty (.int .i64 ((max a b : Nat) : Int)) := by
 have h := v_max (P := P) (w0 := w0) (H := H) (ty := ty) (ts := ts) hx hy
 have e : (if (a : Int) < (b : Int) then (b : Int) else (a : Int)) = ((max a b : Nat) : Int) := by split <;> omega
 rw [← e]
 exact h
theorem FnIn.msub {f : FuncId} {args : List Value} {H' : List Blk} {R : Value → List Blk → Prop} (h : FnIn P f args w0 H' R) (hs : MSub H' H) : FnIn P f args w0 H R := fun w hm => h w (hs.use hm)
theorem v_loadw_ro {x : Operand} {t g o m : Nat} {xs : List Value} [Agg P t m] (hx : ev s x = some (.pointer (some ⟨g, o, none⟩))) (hr : Ro w0 g o xs) (hl : Nat.beq xs.length m = true) : VOp P w0 s H (.load t x) ty (.agg xs.toArray) := by
 have hm := Nat.eq_of_beq_eq_true hl
 exact v_loads_ro (off := 0) hr hx (by rw [List.drop_zero, ← hm, List.take_length]) hm
theorem v_load1_ro {x : Operand} {t g o : Nat} {v : Value} [One P t] (hx : ev s x = some (.pointer (some ⟨g, o, none⟩))) (hr : Ro w0 g o [v]) : VOp P w0 s H (.load t x) ty v := v_load_ro (off := 0) hr hx rfl
theorem v_loadf_ro {x : Operand} {t g o off : Nat} {xs : List Value} {v : Value} [One P t] (hx : ev s x = some (.pointer (some ⟨g, o + off, none⟩))) (hr : Ro w0 g o xs) (hv : xs[off]? = some v) : VOp P w0 s H (.load t x) ty v := v_load_ro hr hx hv
theorem v_loade_own {x : Operand} {t T g off m n' c sz : Nat} {xs ys : List Value} [Agg P t m] (hx : ev s x = some (.pointer (some ⟨g, off, none⟩))) (hi : In (.own (some g) T sz n' c xs) H) (hv : (xs.drop off).take m = ys) (hl : Nat.beq ys.length m = true) :
  VOp P w0 s H (.load t x) ty (.agg ys.toArray) := v_loads_own hx hi hv (Nat.eq_of_beq_eq_true hl)
end
section
variable {α : Type} {enc : α → List Value} {m : Nat}
theorem flat_drop (h : ∀ a, (enc a).length = m) : ∀ (L : List α) (i : Nat), (L.flatMap enc).drop (i * m) = (L.drop i).flatMap enc
 | [], i => by simp
 | a :: L, 0 => by simp
 | a :: L, i + 1 => by
  rw [List.flatMap_cons, List.drop_succ_cons, ← flat_drop h L i, show (i + 1) * m = (enc a).length + i * m by rw [h a, Nat.add_mul, Nat.one_mul, Nat.add_comm], List.drop_append]
  simp
theorem flat_take (h : ∀ a, (enc a).length = m) : ∀ (L : List α) (i : Nat), (L.flatMap enc).take (i * m) = (L.take i).flatMap enc
 | [], i => by simp
 | a :: L, 0 => by simp
 | a :: L, i + 1 => by
  rw [List.flatMap_cons, List.take_succ_cons, List.flatMap_cons, ← flat_take h L i, show (i + 1) * m = (enc a).length + i * m by rw [h a, Nat.add_mul, Nat.one_mul, Nat.add_comm], List.take_append, List.take_of_length_le (Nat.le_add_right _ _)]
  simp
theorem flat_length' (h : ∀ a, (enc a).length = m) (L : List α) : (L.flatMap enc).length = L.length * m := by
 induction L with
 | nil => simp
 | cons a L ih => rw [List.flatMap_cons, List.length_append, h a, ih, List.length_cons, Nat.add_mul, Nat.one_mul, Nat.add_comm]
theorem flat_elem (h : ∀ a, (enc a).length = m) (L : List α) (i : Nat) (hi : i < L.length) : ((L.flatMap enc).drop (i * m)).take m = enc L[i] := by
 rw [flat_drop h, List.drop_eq_getElem_cons hi, List.flatMap_cons, List.take_append_of_le_length (by rw [h]; exact Nat.le_refl _), ← h L[i], List.take_length]
theorem flat_cell (h : ∀ a, (enc a).length = m) (L : List α) (i k : Nat) (hi : i < L.length) (hk : k < m) : (L.flatMap enc)[i * m + k]? = (enc L[i])[k]? := by
 have h1 := flat_elem h L i hi
 rw [← h1, List.getElem?_take, if_pos hk, List.getElem?_drop]
theorem Ro.elem {w : World} {g o : Nat} (h : ∀ a, (enc a).length = m) {L : List α} (hr : Ro w g o (L.flatMap enc)) (i : Nat) (hi : i < L.length) : Ro w g (o + i * m) (enc L[i]) := by
 rw [← flat_elem h L i hi]
 exact hr.drop.take
end
def vint : BinOp → Int → Int → Option Value
 | .lss, a, b => some (.bool (decide (a < b)))
 | .leq, a, b => some (.bool (decide (a ≤ b)))
 | .gtr, a, b => some (.bool (decide (b < a)))
 | .geq, a, b => some (.bool (decide (b ≤ a)))
 | .eql, a, b => some (.bool (decide (a = b)))
 | .neq, a, b => some (.bool (decide (a ≠ b)))
 | _, _, _ => none
def vstr : BinOp → ByteArray → ByteArray → Option Value
 | .eql, a, b => some (.bool (decide (a = b)))
 | .neq, a, b => some (.bool (decide (a ≠ b)))
 | _, _, _ => none
def vbin (o : BinOp) : Value → Value → Option Value
 | .int k a, .int k' b => match decide (k = k') with
  | true => vint o a b
  | false => none
 | .string a, .string b => vstr o a b
 | _, _ => none
def vop (s : Slots) : Op → Option Value
 | .move x => ev s x
 | .assign x => ev s x
 | .pick c a b => match ev s c with
  | some (.bool true) => ev s a
  | some (.bool false) => ev s b
  | _ => none
 | .unOp .not _ x => match ev s x with
  | some (.bool b) => some (.bool (!b))
  | _ => none
 | .binOp o _ x y _ => match ev s x, ev s y with
  | some u, some v => vbin o u v
  | _, _ => none
 | .extract x i => match ev s x with
  | some (.tuple vs) => vs.toList[i]?
  | _ => none
 | _ => none
theorem vop_ok {P : Program} {w0 : World} {s : Slots} {H : List Blk} {op : Op} {ty : TypeId} {v : Value} (h : vop s op = some v) : VOp P w0 s H op ty v := by
 cases op <;> simp only [vop] at h <;> try (cases h; done)
 case move x => exact v_move h
 case assign x => exact v_assign h
 case pick c a b =>
  split at h
  ·
   exact v_pick_t (by assumption) h
  ·
   exact v_pick_f (by assumption) h
  ·
   cases h
 case binOp o t x y t' =>
  split at h
  ·
   rename_i u v' hu hv
   unfold vbin at h
   split at h
   ·
    rename_i k a k' b
    split at h
    ·
     rename_i hk
     have hk := of_decide_eq_true hk
     subst hk
     cases o <;> simp only [vint] at h <;> first | (cases h; done) | skip
     all_goals (injection h with h; subst h)
     ·
      exact v_eql hu hv
     ·
      exact v_neq hu hv
     ·
      exact v_lss hu hv
     ·
      exact v_leq hu hv
     ·
      exact v_gtr hu hv
     ·
      exact v_geq hu hv
    ·
     cases h
   ·
    rename_i a b
    cases o <;> simp only [vstr] at h <;> first | (cases h; done) | skip
    all_goals (injection h with h; subst h)
    ·
     exact v_eqls hu hv
    ·
     exact v_neqs hu hv
   ·
    cases h
  ·
   cases h
 case unOp o t x =>
  cases o <;> simp only at h <;> first | (cases h; done) | skip
  split at h
  ·
   injection h with h
   subst h
   exact v_not (by assumption)
  ·
   cases h
 case extract x i =>
  split at h
  ·
   rename_i vs hx
   exact v_extract (vs := vs.toList) (by simpa using hx) h
  ·
   cases h
end Go.SL

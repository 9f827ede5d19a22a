/-
  The rules of the judgement W, third part: calls; entering a function and leaving it; regions that draw their order and whose operations leave all that is owned as it was.
-/
import Derived.Test.YtfkklicpnoeclaaSl3
namespace Go.SL
open Go Go.RowKit

/-! ### Calls -/

/-- The call returns; what it leaves that is new, and its value, are as R says; what existed is as it was. -/
def FnAt (P : Program) (f : FuncId) (args : List Value) (w : World) (R : Value → List Blk → Prop) : Prop :=
  Calls P f args.toArray w fun e w' => ∃ v H', e = .returned v ∧ Mem w w' H' ∧ R v H'

/-- The call returns v; what existed is as it was. -/
def Pure (P : Program) (f : FuncId) (args : List Value) (w : World) (v : Value) : Prop := FnAt P f args w fun u _ => u = v

/-- The call turns what is owned. -/
def FnIn (P : Program) (f : FuncId) (args : List Value) (w0 : World) (H : List Blk) (R : Value → List Blk → Prop) : Prop :=
  ∀ w, Mem w0 w H → Calls P f args.toArray w fun e w' => ∃ v H', e = .returned v ∧ Mem w0 w' H' ∧ R v H'

theorem FnAt.mono {P : Program} {f : FuncId} {args : List Value} {w : World} {R R' : Value → List Blk → Prop} (h : FnAt P f args w R) (hr : ∀ v H, R v H → R' v H) : FnAt P f args w R' :=
  Calls.mono h fun _ _ ⟨v, H', h1, h2, h3⟩ => ⟨v, H', h1, h2, hr _ _ h3⟩

theorem FnIn.mono {P : Program} {f : FuncId} {args : List Value} {w0 : World} {H : List Blk} {R R' : Value → List Blk → Prop} (h : FnIn P f args w0 H R) (hr : ∀ v H, R v H → R' v H) : FnIn P f args w0 H R' :=
  fun w hm => Calls.mono (h w hm) fun _ _ ⟨v, H', h1, h2, h3⟩ => ⟨v, H', h1, h2, hr _ _ h3⟩

/-- What is kept aside through a call: a function that works on H works beside F. -/
theorem FnIn.of_at {P : Program} {f : FuncId} {args : List Value} {w0 : World} {H : List Blk} {R : Value → List Blk → Prop} (h : ∀ w, Mem w0 w H → FnAt P f args w R) :
    FnIn P f args w0 H fun v H' => ∃ H1, R v H1 ∧ H' = H1 ++ H :=
  fun w hm => Calls.mono (h w hm) fun _ _ ⟨v, H', h1, h2, h3⟩ => ⟨v, H' ++ H, h1, hm.call h2, H', h3, rfl⟩

def evs (s : Slots) : List Operand → Option (List Value)
  | [] => some []
  | x :: r => match ev s x, evs s r with
    | some v, some vs => some (v :: vs)
    | _, _ => none

section
variable {P : Program} {n : Fr} {w0 : World} {Q : Post} {s : Slots} {H : List Blk} {l rest : List Oper} {ty : TypeId} {p : String} {af : Array Edge}

theorem evs_map {a : Act} (hs : St n s a) : ∀ {xs : List Operand} {vs : List Value}, evs s xs = some vs → xs.map a.eval = vs
  | [], vs, h => by simp only [evs, Option.some.injEq] at h; simp [← h]
  | x :: r, vs, h => by
    simp only [evs] at h
    split at h
    · rename_i v vs' hv hvs
      simp only [Option.some.injEq] at h
      rw [← h, List.map_cons, evs_map hs hvs, hs.eval x v hv]
    · cases h

theorem run_call {ρ : Operand → Value} {w : World} {d : Option Tmp} {g : Option (Nat × Bool)} {f : FuncId} {c : Operand} {xs : List Operand} {vs caps : List Value} {ts : Array TypeId} [hf : Callable P f] (hc : ρ c = .func (.func f) #[] caps.toArray) (hx : xs.map ρ = vs) :
    (execOp ρ ⟨d, .call { callee := .value c, args := xs.toArray, argTypes := ts }, ty, p, af, g⟩).run P w = .ok (.enter f (vs ++ caps).toArray) w := by
  simp [execOp, resolve, hc, Deferred.ofValue, invoke, ← hx, hf.out]

/-- A call of a function by its name. -/
theorem wl_callin {d : Nat} {ops : Array Oper} {f : FuncId} {xs : List Operand} {vs : List Value} {ts : Array TypeId} {R : Value → List Blk → Prop} [Callable P f] (hn : Nat.blt d n.sz = true) (hx : evs s xs = some vs)
    (hF : FnIn P f vs w0 H R) (k : ∀ v H', R v H' → WL P n w0 ops rest Q ((d, v) :: s) H') :
    WL P n w0 ops (⟨some d, .call { callee := .value (.func f), args := xs.toArray, argTypes := ts }, ty, p, af, none⟩ :: rest) Q s H := by
  intro a w hs hm
  refine wpList_plain rfl fun K hK => ?_
  have hr := run_call (P := P) (w := w) (ρ := a.eval) (d := some d) (ty := ty) (p := p) (af := af) (g := none) (f := f) (c := .func f) (xs := xs) (caps := []) (ts := ts) rfl (evs_map hs hx)
  rw [List.append_nil] at hr
  simp only [Oper.wp, hr, Oper.upon]
  refine (hF w hm).mono ?_
  rintro e w' ⟨v, H', rfl, hm', hR⟩
  exact hK _ _ (k v H' hR _ _ (hs.put (Nat.blt_eq ▸ hn) _) hm')

theorem wl_callin0 {ops : Array Oper} {f : FuncId} {xs : List Operand} {vs : List Value} {ts : Array TypeId} {R : Value → List Blk → Prop} [Callable P f] (hx : evs s xs = some vs)
    (hF : FnIn P f vs w0 H R) (k : ∀ v H', R v H' → WL P n w0 ops rest Q s H') :
    WL P n w0 ops (⟨none, .call { callee := .value (.func f), args := xs.toArray, argTypes := ts }, ty, p, af, none⟩ :: rest) Q s H := by
  intro a w hs hm
  refine wpList_plain rfl fun K hK => ?_
  have hr := run_call (P := P) (w := w) (ρ := a.eval) (d := none) (ty := ty) (p := p) (af := af) (g := none) (f := f) (c := .func f) (xs := xs) (caps := []) (ts := ts) rfl (evs_map hs hx)
  rw [List.append_nil] at hr
  simp only [Oper.wp, hr, Oper.upon]
  refine (hF w hm).mono ?_
  rintro e w' ⟨v, H', rfl, hm', hR⟩
  exact hK _ _ (k v H' hR _ _ (hs.put_none _) hm')

/-- A call of a function value that is known. -/
theorem wl_callv {d : Nat} {ops : Array Oper} {f : FuncId} {c : Operand} {xs : List Operand} {vs caps : List Value} {ts : Array TypeId} {R : Value → List Blk → Prop} (hn : Nat.blt d n.sz = true) (hc : ev s c = some (.func (.func f) #[] caps.toArray)) (hfc : Callable P f) (hx : evs s xs = some vs)
    (hF : FnIn P f (vs ++ caps) w0 H R) (k : ∀ v H', R v H' → WL P n w0 ops rest Q ((d, v) :: s) H') :
    WL P n w0 ops (⟨some d, .call { callee := .value c, args := xs.toArray, argTypes := ts }, ty, p, af, none⟩ :: rest) Q s H := by
  intro a w hs hm
  refine wpList_plain rfl fun K hK => ?_
  have hr := run_call (P := P) (w := w) (ρ := a.eval) (d := some d) (ty := ty) (p := p) (af := af) (g := none) (f := f) (c := c) (xs := xs) (caps := caps) (ts := ts) (hs.eval c _ hc) (evs_map hs hx)
  simp only [Oper.wp, hr, Oper.upon]
  refine (hF w hm).mono ?_
  rintro e w' ⟨v, H', rfl, hm', hR⟩
  exact hK _ _ (k v H' hR _ _ (hs.put (Nat.blt_eq ▸ hn) _) hm')

theorem wl_callv0 {ops : Array Oper} {f : FuncId} {c : Operand} {xs : List Operand} {vs caps : List Value} {ts : Array TypeId} {R : Value → List Blk → Prop} (hc : ev s c = some (.func (.func f) #[] caps.toArray)) (hfc : Callable P f) (hx : evs s xs = some vs)
    (hF : FnIn P f (vs ++ caps) w0 H R) (k : ∀ v H', R v H' → WL P n w0 ops rest Q s H') :
    WL P n w0 ops (⟨none, .call { callee := .value c, args := xs.toArray, argTypes := ts }, ty, p, af, none⟩ :: rest) Q s H := by
  intro a w hs hm
  refine wpList_plain rfl fun K hK => ?_
  have hr := run_call (P := P) (w := w) (ρ := a.eval) (d := none) (ty := ty) (p := p) (af := af) (g := none) (f := f) (c := c) (xs := xs) (caps := caps) (ts := ts) (hs.eval c _ hc) (evs_map hs hx)
  simp only [Oper.wp, hr, Oper.upon]
  refine (hF w hm).mono ?_
  rintro e w' ⟨v, H', rfl, hm', hR⟩
  exact hK _ _ (k v H' hR _ _ (hs.put_none _) hm')

/-- A call that leaves what existed as it was. -/
theorem wl_call {d : Nat} {ops : Array Oper} {f : FuncId} {xs : List Operand} {vs : List Value} {ts : Array TypeId} {R : Value → List Blk → Prop} [Callable P f] (hn : Nat.blt d n.sz = true) (hx : evs s xs = some vs)
    (hF : ∀ w, Mem w0 w H → FnAt P f vs w R) (k : ∀ v H', R v H' → WL P n w0 ops rest Q ((d, v) :: s) (H' ++ H)) :
    WL P n w0 ops (⟨some d, .call { callee := .value (.func f), args := xs.toArray, argTypes := ts }, ty, p, af, none⟩ :: rest) Q s H :=
  wl_callin hn hx (FnIn.of_at hF) fun v _ ⟨H1, h1, h2⟩ => h2 ▸ k v H1 h1

/-- A call that leaves what existed as it was, and yields v. -/
theorem wl_callp {d : Nat} {ops : Array Oper} {f : FuncId} {xs : List Operand} {vs : List Value} {v : Value} {ts : Array TypeId} [Callable P f] (hn : Nat.blt d n.sz = true) (hx : evs s xs = some vs)
    (hF : ∀ w, Mem w0 w H → Pure P f vs w v) (k : WL P n w0 ops rest Q ((d, v) :: s) H) :
    WL P n w0 ops (⟨some d, .call { callee := .value (.func f), args := xs.toArray, argTypes := ts }, ty, p, af, none⟩ :: rest) Q s H :=
  wl_call hn hx (R := fun u _ => u = v) hF fun u H' e => by
    subst e
    exact wl_msub ⟨H', List.perm_append_comm⟩ k

/-! ### A function's body -/

/-- What the results come to. -/
def Res (P : Program) (fn : Func) (n : Fr) (w0 : World) (s : Slots) (H : List Blk) (v : Value) : Prop :=
  ∀ a w, St n s a → Mem w0 w H → (results fn a.tmps).run P w = .ok v w

def retP (P : Program) (fn : Func) (n : Fr) (w0 : World) (R : Value → List Blk → Prop) : Post := fun e s H => (e = .ret ∨ e = .normal) ∧ ∃ v H', MSub H' H ∧ Res P fn n w0 s H v ∧ R v H'

def pars : List Value → Nat → Slots
  | [], _ => []
  | v :: r, k => (k, v) :: pars r (k + 1)

theorem look_pars (args : List Value) (k t : Nat) : look (pars args k) t = if k ≤ t then args[t - k]? else none := by
  induction args generalizing k with
  | nil => simp [pars, look]
  | cons v r ih =>
    simp only [pars]
    rw [look_cons, ih]
    by_cases h : k = t
    · subst h; simp
    · rw [if_neg h]
      by_cases h2 : k ≤ t
      · rw [if_pos h2, if_pos (by omega), show t - k = (t - (k + 1)) + 1 by omega, List.getElem?_cons_succ]
      · rw [if_neg h2, if_neg (by omega)]

theorem fn_in {m : Nat} {f : FuncId} {fn : Func} {c : Code} {args : List Value} {R : Value → List Blk → Prop} (hf : P.funcs[f]? = some fn) (hb : fn.body = some c) (hn : fn.ntmps = m) (hle : Nat.ble args.length m = true)
    (h : W P ⟨m, []⟩ w0 c (retP P fn ⟨m, []⟩ w0 R) (pars args 0) H) : FnIn P f args w0 H R := by
  intro w hm
  have hle' : args.length ≤ m := by simpa using hle
  refine calls_of_wp hf hb (wp_mono (h { tmps := args.toArray ++ Array.replicate (fn.ntmps - args.toArray.size) undef, defers := [] } w ⟨?_, rfl, ?_⟩ hm) ?_)
  · simp [hn]; omega
  · intro t v ht
    rw [look_pars] at ht
    simp only [Nat.zero_le, if_true, Nat.sub_zero] at ht
    have hlt : t < args.length := (List.getElem?_eq_some_iff.1 ht).1
    rw [Array.getElem?_append_left (by simpa using hlt)]
    simpa using ht
  · rintro e a w' ⟨s', H', hs, hm', he, v, H'', hsub, hr, hR⟩
    have hp : a.defers = [] ∧ ∃ v, (results fn a.tmps).run P w' = .ok v w' ∧ ∃ v1 H1, Ending.returned v = .returned v1 ∧ Mem w0 w' H1 ∧ R v1 H1 :=
      ⟨hs.defers, v, hr a w' hs hm', v, H'', rfl, hsub.use hm', hR⟩
    rcases he with rfl | rfl <;> exact hp

theorem fn_at {m : Nat} {f : FuncId} {fn : Func} {c : Code} {args : List Value} {w : World} {R : Value → List Blk → Prop} (hf : P.funcs[f]? = some fn) (hb : fn.body = some c) (hn : fn.ntmps = m) (hle : Nat.ble args.length m = true)
    (h : W P ⟨m, []⟩ w c (retP P fn ⟨m, []⟩ w R) (pars args 0) []) : FnAt P f args w R := fn_in hf hb hn hle h w (Mem.refl w)

section res
variable {fn : Func} {R : Value → List Blk → Prop} {e : Exit}
theorem ret0 (he : e = .ret ∨ e = .normal) (hr : fn.results = #[]) {H' : List Blk} (hs : MSub H' H) (h : R (.tuple #[]) H') : retP P fn n w0 R e s H :=
  ⟨he, _, H', hs, fun a w _ _ => by simp [results, hr], h⟩
theorem ret1 (he : e = .ret ∨ e = .normal) {t : Tmp} {v : Value} (hr : fn.results = #[.tmp t]) (hv : look s t = some v) {H' : List Blk} (hs : MSub H' H) (h : R v H') : retP P fn n w0 R e s H :=
  ⟨he, v, H', hs, fun a w hst _ => by
    have := hst.has t v hv
    simp [results, hr, Array.getD_eq_getD_getElem?, this], h⟩
theorem ret2 (he : e = .ret ∨ e = .normal) {t u : Tmp} {v x : Value} (hr : fn.results = #[.tmp t, .tmp u]) (hv : look s t = some v) (hx : look s u = some x) {H' : List Blk} (hs : MSub H' H) (h : R (.tuple #[v, x]) H') : retP P fn n w0 R e s H :=
  ⟨he, _, H', hs, fun a w hst _ => by
    have h1 := hst.has t v hv
    have h2 := hst.has u x hx
    simp [results, hr, Array.getD_eq_getD_getElem?, h1, h2], h⟩
theorem ret3 (he : e = .ret ∨ e = .normal) {t u q : Tmp} {v x y : Value} (hr : fn.results = #[.tmp t, .tmp u, .tmp q]) (hv : look s t = some v) (hx : look s u = some x) (hy : look s q = some y) {H' : List Blk} (hs : MSub H' H) (h : R (.tuple #[v, x, y]) H') : retP P fn n w0 R e s H :=
  ⟨he, _, H', hs, fun a w hst _ => by
    have h1 := hst.has t v hv
    have h2 := hst.has u x hx
    have h3 := hst.has q y hy
    simp [results, hr, Array.getD_eq_getD_getElem?, h1, h2, h3], h⟩
end res

/-! ### Regions that draw their order: all operations leave what is owned as it was -/

def WQ (P : Program) (n : Fr) (w0 : World) (ops : Array Oper) (rest : List Oper) (K : Slots → Prop) (s : Slots) (H : List Blk) : Prop :=
  ∀ a, St n s a → wpQuiet P ops (fun w => Mem w0 w H) (fun a' => ∃ s', St n s' a' ∧ K s') rest a

theorem w_draw {id : Nat} (hm : P.follows .mixedOrders = true) (hB : Region.lexB .any l.toArray = true) (h : WQ P n w0 l.toArray l (fun s' => Q .normal s' H) s H) : W P n w0 (.region id l.toArray true) Q s H := by
  intro a w hs hmem
  refine wp_region_quiet (C := fun w => Mem w0 w H) hm hB hmem.drew ?_
  have h1 := h a hs
  have mono : ∀ (r : List Oper) (a : Act) (K K' : Act → Prop), (∀ a, K a → K' a) → wpQuiet P l.toArray (fun w => Mem w0 w H) K r a → wpQuiet P l.toArray (fun w => Mem w0 w H) K' r a := by
    intro r
    induction r with
    | nil => intro a K K' hk h; exact hk _ h
    | cons o r ih =>
      intro a K K' hk h
      unfold wpQuiet at h ⊢
      split
      · rename_i hw
        rw [if_pos hw] at h
        exact Oper.quiet_mono (fun a' h' => ih a' K K' hk h') h
      · rename_i hw
        rw [if_neg hw] at h
        exact ih _ K K' hk h
  simp only [List.toList_toArray]
  exact mono _ _ _ _ (fun a' ⟨s', h2, h3⟩ w' hw' => ⟨s', H, h2, hw', h3⟩) h1

variable {K : Slots → Prop}

theorem wq_nil {ops : Array Oper} (h : K s) : WQ P n w0 ops [] K s H := fun _ hs => ⟨s, hs, h⟩

theorem wq_v {ops : Array Oper} {op : Op} {d : Nat} {v : Value} (hn : Nat.blt d n.sz = true) (hv : VOp P w0 s H op ty v) (k : WQ P n w0 ops rest K ((d, v) :: s) H) :
    WQ P n w0 ops (⟨some d, op, ty, p, af, none⟩ :: rest) K s H := by
  intro a hs
  unfold wpQuiet
  simp only [Region.wanted, if_true]
  refine ⟨v, fun w hm => ?_, k _ (hs.put (Nat.blt_eq ▸ hn) v)⟩
  unfold Oper.quietAt
  rw [hv a.eval w _ _ _ _ hs.eval hm]
  exact ⟨rfl, rfl⟩

theorem wq_callp {d : Nat} {ops : Array Oper} {f : FuncId} {xs : List Operand} {vs : List Value} {v : Value} {ts : Array TypeId} [Callable P f] (hn : Nat.blt d n.sz = true) (hx : evs s xs = some vs)
    (hF : ∀ w, Mem w0 w H → Pure P f vs w v) (k : WQ P n w0 ops rest K ((d, v) :: s) H) :
    WQ P n w0 ops (⟨some d, .call { callee := .value (.func f), args := xs.toArray, argTypes := ts }, ty, p, af, none⟩ :: rest) K s H := by
  intro a hs
  unfold wpQuiet
  simp only [Region.wanted, if_true]
  refine ⟨v, fun w hm => ?_, k _ (hs.put (Nat.blt_eq ▸ hn) v)⟩
  unfold Oper.quietAt
  have hr := run_call (P := P) (w := w) (ρ := a.eval) (d := some d) (ty := ty) (p := p) (af := af) (g := none) (f := f) (c := .func f) (xs := xs) (caps := []) (ts := ts) rfl (evs_map hs hx)
  rw [List.append_nil] at hr
  rw [hr]
  refine ⟨rfl, Calls.mono (hF w hm) ?_⟩
  rintro e w' ⟨u, H', rfl, hm', rfl⟩
  exact ⟨rfl, (hm.call hm').right⟩

theorem wq_gyes {op : Op} {dst : Option Tmp} {j d : Nat} {want : Bool} (hj : gd l j = some d) (hv : look s d = some (.bool want))
    (k : WQ P n w0 l.toArray (⟨dst, op, ty, p, af, none⟩ :: rest) K s H) : WQ P n w0 l.toArray (⟨dst, op, ty, p, af, some (j, want)⟩ :: rest) K s H := by
  intro a hs
  have h := k a hs
  have hy := yielded_of hs hj hv
  unfold wpQuiet at h ⊢
  simp only [Region.wanted, if_true] at h
  simp only [Region.wanted, hy, boolOf, beq_self_eq_true, if_true]
  exact h

theorem wq_gno {op : Op} {dst j d : Nat} {want : Bool} {v : Value} (hj : gd l j = some d) (hv : look s d = some v) (hw : boolOf v ≠ some want) (hn : Nat.blt dst n.sz = true)
    (k : WQ P n w0 l.toArray rest K ((dst, undef) :: s) H) : WQ P n w0 l.toArray (⟨some dst, op, ty, p, af, some (j, want)⟩ :: rest) K s H := by
  intro a hs
  have hy := yielded_of hs hj hv
  have : (yielded l.toArray a.tmps j == some want) = false := by rw [hy]; simpa using hw
  unfold wpQuiet
  simp only [Region.wanted, this]
  exact k _ (hs.put (Nat.blt_eq ▸ hn) _)

theorem wq_gsplit {op : Op} {dst : Option Tmp} {j d : Nat} {want b : Bool} (_hj : gd l j = some d) (hv : look s d = some (.bool b))
    (k1 : b = true → WQ P n w0 l.toArray (⟨dst, op, ty, p, af, some (j, want)⟩ :: rest) K ((d, .bool true) :: s) H)
    (k2 : b = false → WQ P n w0 l.toArray (⟨dst, op, ty, p, af, some (j, want)⟩ :: rest) K ((d, .bool false) :: s) H) :
    WQ P n w0 l.toArray (⟨dst, op, ty, p, af, some (j, want)⟩ :: rest) K s H := by
  intro a hs
  cases b with
  | true => exact k1 rfl a (hs.shadow hv)
  | false => exact k2 rfl a (hs.shadow hv)

end
end Go.SL
namespace Go.SL
section
variable {P : Program} {n : Fr} {w0 : World} {Q : Post} {s : Slots} {H : List Blk} {l rest : List Oper} {ty : TypeId} {p : String} {af : Array Edge} {K : Slots → List Blk → Prop} {id id' : Nat}
theorem thn_n (h : K s H) : thn K Q .normal s H := h
theorem thn_r (h : Q .ret s H) : thn K Q .ret s H := h
theorem thn_e (h : Q (.exit id) s H) : thn K Q (.exit id) s H := h
theorem blk_n (h : Q .normal s H) : blk id Q .normal s H := h
theorem blk_r (h : Q .ret s H) : blk id Q .ret s H := h
theorem blk_e (h : Q .normal s H) : blk id Q (.exit id) s H := by simp only [blk, if_true]; exact h
theorem blk_x (hne : Nat.beq id' id = false) (h : Q (.exit id') s H) : blk id Q (.exit id') s H := by
  have : ¬ id' = id := Nat.ne_of_beq_eq_false hne
  simp only [blk, if_neg this]; exact h

theorem wl_gno_b {op : Op} {dst j d : Nat} {want b : Bool} (hj : gd l j = some d) (hv : look s d = some (.bool b)) (hw : (b == want) = false) (hn : Nat.blt dst n.sz = true)
    (k : WL P n w0 l.toArray rest Q ((dst, undef) :: s) H) : WL P n w0 l.toArray (⟨some dst, op, ty, p, af, some (j, want)⟩ :: rest) Q s H :=
  wl_gno hj hv (by simpa [boolOf] using hw) hn k
theorem wl_gno_u {op : Op} {dst j d : Nat} {want : Bool} (hj : gd l j = some d) (hv : look s d = some (.tuple #[])) (hn : Nat.blt dst n.sz = true)
    (k : WL P n w0 l.toArray rest Q ((dst, undef) :: s) H) : WL P n w0 l.toArray (⟨some dst, op, ty, p, af, some (j, want)⟩ :: rest) Q s H :=
  wl_gno hj hv (by simp [boolOf]) hn k
theorem wq_gno_b {KQ : Slots → Prop} {op : Op} {dst j d : Nat} {want b : Bool} (hj : gd l j = some d) (hv : look s d = some (.bool b)) (hw : (b == want) = false) (hn : Nat.blt dst n.sz = true)
    (k : WQ P n w0 l.toArray rest KQ ((dst, undef) :: s) H) : WQ P n w0 l.toArray (⟨some dst, op, ty, p, af, some (j, want)⟩ :: rest) KQ s H :=
  wq_gno hj hv (by simpa [boolOf] using hw) hn k
theorem wq_gno_u {KQ : Slots → Prop} {op : Op} {dst j d : Nat} {want : Bool} (hj : gd l j = some d) (hv : look s d = some (.tuple #[])) (hn : Nat.blt dst n.sz = true)
    (k : WQ P n w0 l.toArray rest KQ ((dst, undef) :: s) H) : WQ P n w0 l.toArray (⟨some dst, op, ty, p, af, some (j, want)⟩ :: rest) KQ s H :=
  wq_gno hj hv (by simp [boolOf]) hn k

/-- A struct read out of a box or a row, cell by cell. -/
theorem v_loadn_box {x : Operand} {t T g off m : Nat} {xs ys : List Value} [Agg P t m] (hx : ev s x = some (.pointer (some ⟨g, off, none⟩))) (hi : In (.box g T xs) H) (hv : norm ((xs.drop off).take m) = some ys) (hl : Nat.beq ys.length m = true) :
    VOp P w0 s H (.load t x) ty (.agg ys.toArray) := v_loads_box hx hi (norm_eq hv).symm (Nat.eq_of_beq_eq_true hl)
theorem v_loadn_own {x : Operand} {t T g off m n' c sz : Nat} {xs ys : List Value} [Agg P t m] (hx : ev s x = some (.pointer (some ⟨g, off, none⟩))) (hi : In (.own (some g) T sz n' c xs) H) (hv : norm ((xs.drop off).take m) = some ys) (hl : Nat.beq ys.length m = true) :
    VOp P w0 s H (.load t x) ty (.agg ys.toArray) := v_loads_own hx hi (norm_eq hv).symm (Nat.eq_of_beq_eq_true hl)
/-- The whole of a box. -/
theorem v_loadw_box {x : Operand} {t T g m : Nat} {xs : List Value} [Agg P t m] (hx : ev s x = some (.pointer (some ⟨g, 0, none⟩))) (hi : In (.box g T xs) H) (hl : Nat.beq xs.length m = true) :
    VOp P w0 s H (.load t x) ty (.agg xs.toArray) := by
  have hm := Nat.eq_of_beq_eq_true hl
  exact v_loads_box hx hi (by rw [List.drop_zero, ← hm, List.take_length]) hm

theorem wl_storen_box {ops : Array Oper} {t T g off : Nat} {x a : Operand} {xs ys : List Value} {v : Value} {R : List Blk} [Size P t 1] (ha : ev s a = some (.pointer (some ⟨g, off, none⟩))) (hx : ev s x = some v)
    (hsel : Sel (.box g T xs) H R) (hv : v.oneCell' = true) (hfit : Nat.blt off xs.length = true) (hn : norm (xs.set off v) = some ys)
    (k : WL P n w0 ops rest Q s (.box g T ys :: R)) : WL P n w0 ops (⟨none, .store t a x, ty, p, af, none⟩ :: rest) Q s H :=
  wl_store_box ha hx hsel hv hfit (norm_eq hn ▸ k)
theorem wl_putn_box {ops : Array Oper} {t T g off m : Nat} {x a : Operand} {xs vs ys : List Value} {R : List Blk} [Size P t m] (ha : ev s a = some (.pointer (some ⟨g, off, none⟩))) (hx : ev s x = some (.agg vs.toArray))
    (hsel : Sel (.box g T xs) H R) (hl : Nat.beq vs.length m = true) (h1 : vs.all Value.oneCell' = true) (hfit : Nat.ble (off + m) xs.length = true) (hn : norm (xs.take off ++ vs ++ xs.drop (off + m)) = some ys)
    (k : WL P n w0 ops rest Q s (.box g T ys :: R)) : WL P n w0 ops (⟨none, .store t a x, ty, p, af, none⟩ :: rest) Q s H :=
  wl_put_box ha hx hsel rfl (Nat.eq_of_beq_eq_true hl) (by simpa using h1) (by simpa using hfit) (norm_eq hn ▸ k)
end
end Go.SL

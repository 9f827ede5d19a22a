/-
  The built-in copy into a row of one's own.
-/
import Derived.Test.YtfkklicpnoeclaaSl14
namespace Go.SL
open Go Go.RowKit

theorem wl_copy {P : Program} {n : Fr} {w0 : World} {Q : Post} {s : Slots} {H : List Blk} {rest : List Oper} {ty : TypeId} {p : String} {af : Array Edge} {d t e m c c' sz by_ g g2 o2 : Nat} {x y : Operand} {xs ys : List Value} {R : List Blk} {ops : Array Oper} [ht : Und P t (.slice e)] [he : Elem P e sz by_] (hn : Nat.blt d n.sz = true)
    (hx : ev s x = some (.slice (some ⟨g, 0, none⟩) m c)) (hy : ev s y = some (.slice (some ⟨g2, o2, none⟩) m c')) (hsel : Sel (.own (some g) e sz m c xs) H R)
    (hr : Ro w0 g2 o2 ys) (hl : ys.length = m * sz) (h1 : ∀ u ∈ ys, u.oneCell' = true)
    (k : WL P n w0 ops rest Q ((d, .int .i64 (m : Int)) :: s) (.own (some g) e sz m c ys :: R)) :
    WL P n w0 ops (⟨some d, .call { callee := .builtin .copy, args := #[x, y], argTypes := #[t, t] }, ty, p, af, none⟩ :: rest) Q s H := by
  intro a w hs hm
  have hm' := hm.sel hsel
  obtain ⟨i, z, i1, i2, i3, i4, i5, i6⟩ := he.out
  obtain ⟨b1, b2, b3, junk, b4, b5⟩ := (hm'.on _ List.mem_cons_self).1
  have hfc := run_firstCells_some (P := P) (w := w) i.size m ⟨g2, o2, none⟩ m c' ys (by rw [i2]; exact hl) (fun j v hv => by rw [addr_add]; exact hr.later hm j v hv)
  have hst := run_storeCells_at P g 0 e ys 0 _ w b5 (by simp; omega) h1
  have he' : (xs ++ junk).take 0 ++ ys ++ (xs ++ junk).drop ys.length = ys ++ junk := by
    rw [hl, ← b1, List.drop_left]; simp
  simp only [Nat.add_zero, Nat.zero_add] at hst
  simp only [he'] at hst
  have hrun : (Builtin.copy_ #[t, t] ty #[.slice (some ⟨g, 0, none⟩) m c, .slice (some ⟨g2, o2, none⟩) m c']).run P w = .ok (goInt m) (w.setRow g (ys ++ junk).toArray) := by
    simp [Builtin.copy_, run_underlying ht.out, Builtin.lenOf, sizeOf, typeInfo, i1, hfc, hst]
  refine wpList_plain rfl fun K hK => ?_
  unfold Oper.wp execOp
  simp only [resolve, invoke, builtin, Sem.run_bind, Sem.run_pure, Result.andThen_ok, List.map_toArray, List.map_cons, List.map_nil, hs.eval x _ hx, hs.eval y _ hy, hrun, Oper.upon]
  refine hK _ _ (k _ _ (hs.put (Nat.blt_eq ▸ hn) _) (hm'.upd (setRow_grown _ _ _) (b' := .own (some g) e sz m c ys) ⟨hl, b2, b3, junk, ?_, setRow_heap _ _ _ _ _ _ b5⟩ fun k hk => .inl hk))
  rw [List.length_append, hl, ← b1, ← List.length_append]
  exact b4
end Go.SL

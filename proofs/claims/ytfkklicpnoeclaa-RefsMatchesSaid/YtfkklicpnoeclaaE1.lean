/-
  The operators == and != on the structs of package api.
-/
import Derived.Test.YtfkklicpnoeclaaTy
import Derived.Test.YtfkklicpnoeclaaMd
namespace Go.SL
open Go Go.Proofs

theorem run_eqV (w : World) (d : Nat) (a b : Vl) : (Op.equalIn (d + 3) 36 (.agg (encV a).toArray) (.agg (encV b).toArray)).run Try.prog w = .ok (eqV a b) w := by
  rw [run_equalIn_agg w (d + 2) 36 _ _ (by rw [Program.fieldsOf, Try.underlying36]) Try.stoodInHeld36]
  simp only [Program.fieldsOf, Try.underlying36]
  simp [Op.eqFields, encV, part, go_sem, beqL, beqI, eqV]
  by_cases h1 : a.kind = b.kind <;> by_cases h2 : a.num = b.num <;> by_cases h3 : a.text = b.text <;> simp [h1, h2, h3]

theorem run_eqR (w : World) (d : Nat) (a b : Rct) : (Op.equalIn (d + 3) 38 (.agg (encR a).toArray) (.agg (encR b).toArray)).run Try.prog w = .ok (eqR a b) w := by
  rw [run_equalIn_agg w (d + 2) 38 _ _ (by rw [Program.fieldsOf, Try.underlying38]) Try.stoodInHeld38]
  simp only [Program.fieldsOf, Try.underlying38]
  simp [Op.eqFields, encR, part, go_sem, beqI, eqR]
  by_cases h1 : a.c1 = b.c1 <;> by_cases h2 : a.r1 = b.r1 <;> by_cases h3 : a.c2 = b.c2 <;> by_cases h4 : a.r2 = b.r2 <;> simp [h1, h2, h3, h4]

theorem run_eqN (w : World) (d : Nat) (a b : Nd) : (Op.equalIn (d + 5) 40 (.agg (encN a).toArray) (.agg (encN b).toArray)).run Try.prog w = .ok (eqN a b) w := by
  rw [run_equalIn_agg w (d + 4) 40 _ _ (by rw [Program.fieldsOf, Try.underlying40]) Try.stoodInHeld40]
  simp only [Program.fieldsOf, Try.underlying40]
  have hv : ∀ w, (Op.equalIn (d + 4) 36 (.agg #[.int .u8 a.v.kind, .int .i64 a.v.num, .string a.v.text]) (.agg #[.int .u8 b.v.kind, .int .i64 b.v.num, .string b.v.text])).run Try.prog w = .ok (eqV a.v b.v) w := fun w => run_eqV w (d + 1) a.v b.v
  have hr : ∀ w, (Op.equalIn (d + 4) 38 (.agg #[.int .i64 a.rect.c1, .int .i64 a.rect.r1, .int .i64 a.rect.c2, .int .i64 a.rect.r2]) (.agg #[.int .i64 b.rect.c1, .int .i64 b.rect.r1, .int .i64 b.rect.c2, .int .i64 b.rect.r2])).run Try.prog w = .ok (eqR a.rect b.rect) w := fun w => run_eqR w (d + 1) a.rect b.rect
  simp [Op.eqFields, encN, part, go_sem, beqI, eqN, hv, hr]
  by_cases h1 : a.kind = b.kind <;> by_cases h2 : eqV a.v b.v = true <;> by_cases h3 : eqR a.rect b.rect = true <;> by_cases h4 : a.op = b.op <;> by_cases h5 : a.fn = b.fn <;> by_cases h6 : a.n = b.n <;> simp [h1, h2, h3, h4, h5, h6]

section
variable {w0 : World} {s : Slots} {H : List Blk} {ty t' : TypeId} {x y : Operand}
theorem v_eqlV {a b : Vl} (hx : ev s x = some (.agg (encV a).toArray)) (hy : ev s y = some (.agg (encV b).toArray)) : VOp Try.prog w0 s H (.binOp .eql 36 x y t') ty (.bool (eqV a b)) := fun ρ w _ _ _ _ hρ _ => by
  have h := run_eqV w 9997 a b
  simp only [Nat.reduceAdd] at h
  simp only [execOp, hρ x _ hx, hρ y _ hy, Sem.run_bind, run_eqGuard_agg w _ _ _ _ _ _ Try.eqGuardType36, Result.andThen_ok, run_eql_struct, h, Sem.run_pure]
theorem v_neqV {a b : Vl} (hx : ev s x = some (.agg (encV a).toArray)) (hy : ev s y = some (.agg (encV b).toArray)) : VOp Try.prog w0 s H (.binOp .neq 36 x y t') ty (.bool (!eqV a b)) := fun ρ w _ _ _ _ hρ _ => by
  have h := run_eqV w 9997 a b
  simp only [Nat.reduceAdd] at h
  simp only [execOp, hρ x _ hx, hρ y _ hy, Sem.run_bind, run_eqGuard_agg w _ _ _ _ _ _ Try.eqGuardType36, Result.andThen_ok, run_neq_struct, h, Sem.run_pure]
theorem v_eqlR {a b : Rct} (hx : ev s x = some (.agg (encR a).toArray)) (hy : ev s y = some (.agg (encR b).toArray)) : VOp Try.prog w0 s H (.binOp .eql 38 x y t') ty (.bool (eqR a b)) := fun ρ w _ _ _ _ hρ _ => by
  have h := run_eqR w 9997 a b
  simp only [Nat.reduceAdd] at h
  simp only [execOp, hρ x _ hx, hρ y _ hy, Sem.run_bind, run_eqGuard_agg w _ _ _ _ _ _ Try.eqGuardType38, Result.andThen_ok, run_eql_struct, h, Sem.run_pure]
theorem v_eqlN {a b : Nd} (hx : ev s x = some (.agg (encN a).toArray)) (hy : ev s y = some (.agg (encN b).toArray)) : VOp Try.prog w0 s H (.binOp .eql 40 x y t') ty (.bool (eqN a b)) := fun ρ w _ _ _ _ hρ _ => by
  have h := run_eqN w 9995 a b
  simp only [Nat.reduceAdd] at h
  simp only [execOp, hρ x _ hx, hρ y _ hy, Sem.run_bind, run_eqGuard_agg w _ _ _ _ _ _ Try.eqGuardType40, Result.andThen_ok, run_eql_struct, h, Sem.run_pure]
theorem v_neqN {a b : Nd} (hx : ev s x = some (.agg (encN a).toArray)) (hy : ev s y = some (.agg (encN b).toArray)) : VOp Try.prog w0 s H (.binOp .neq 40 x y t') ty (.bool (!eqN a b)) := fun ρ w _ _ _ _ hρ _ => by
  have h := run_eqN w 9995 a b
  simp only [Nat.reduceAdd] at h
  simp only [execOp, hρ x _ hx, hρ y _ hy, Sem.run_bind, run_eqGuard_agg w _ _ _ _ _ _ Try.eqGuardType40, Result.andThen_ok, run_neq_struct, h, Sem.run_pure]
end
end Go.SL

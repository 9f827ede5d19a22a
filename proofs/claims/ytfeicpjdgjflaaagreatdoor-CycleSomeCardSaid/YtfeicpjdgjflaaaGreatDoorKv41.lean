/-
  Lemmas and walks, put together: Zz.
-/
import Derived.Test.YtfeicpjdgjflaaaGreatDoorKv33
set_option linter.unusedSimpArgs false
set_option linter.unusedVariables false
set_option maxRecDepth 20000
namespace Go.SL
open Go Go.Proofs
attribute [local irreducible] W WL WQ WG WA WX WLI WR WT WC WE VOp RW thn blk bg scp aS aV bi FnAt FnIn FnP ceP
theorem Bz (r:Nat→Nat→Bool) (n:Nat): ∀ (m:Nat) (lf:Nat→Bool),(mF r n m lf).length≤m
 |0,_=>VA _
 |m+1,lf=>by
  unfold mF;split
  ·exact Vt _
  ·exact Nat.succ_le_succ (Bz r n m _)
theorem Ga (G:Gr):(iq G).length≤G.length:=by
 unfold iq;rw [cQ];exact VR (Bz _ _ _ _) (RY G)
theorem Ka {P:Program} {w0:World} {s:aC} {H:List Blk} {ty t t' :TypeId} {x y:Operand} {i:Nat} (hx:ev s x=some (.int .i64 (i:Nat))) (hy:ev s y=some (.int .i64 64)):VOp P w0 s H (.binOp .rem t x y t') ty (.int .i64 ((i % 64:Nat):Int)):=Kb hx hy (by decide)
theorem PY (i:Nat):Nat.ble (i % 64) IntKind.u64.bits=true:=Nat.ble_eq_true_of_le (Nat.le_of_lt (Y5 _ (by decide)))
end Go.SL

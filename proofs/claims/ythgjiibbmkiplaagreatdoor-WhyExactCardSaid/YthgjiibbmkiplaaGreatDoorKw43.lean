/-
  Lemmas and walks, put together: Wu.
-/
import Derived.Test.YthgjiibbmkiplaaGreatDoorKw36
set_option linter.unusedSimpArgs false
set_option linter.unusedVariables false
set_option maxRecDepth 20000
namespace Go.SL
open Go Go.Proofs
theorem BQ {user:Int} {a c:Rf} {b:Bk} (h:cY user a b=0) (hc:c.valid=true):cY user c b=0:=by
 have ha:=(kI h).2.2.1;unfold cY at h ⊢;rw [ha] at h;rw [hc];exact h
end Go.SL

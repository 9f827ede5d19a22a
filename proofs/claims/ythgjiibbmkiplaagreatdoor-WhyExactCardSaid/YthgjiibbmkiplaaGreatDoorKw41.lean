/-
  Lemmas and walks, put together: Pl.
-/
import Derived.Test.YthgjiibbmkiplaaGreatDoorKw15
set_option linter.unusedSimpArgs false
set_option linter.unusedVariables false
set_option maxRecDepth 20000
namespace Go.SL
open Go
end Go.SL

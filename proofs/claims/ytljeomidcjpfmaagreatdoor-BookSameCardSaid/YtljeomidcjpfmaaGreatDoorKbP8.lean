/-
  Closed facts of the row BookSame.
-/
import Derived.Test.YtljeomidcjpfmaaGreatDoorKbP0
import Derived.Test.YtljeomidcjpfmaaGreatDoorKbP9
namespace Go.Proofs.YtljeomidcjpfmaaGreatDoor
open Go Go.ChangeShapes Go.WideShapes Go.ChangeAt Go.RowKit Go.SL

set_option maxRecDepth 100000 in
theorem bookSame_facts : joinedFacts Tryz.pinned.checked.prog 4 Tryz.f4 Rows.bookSameSpec Rows.bookSameRow = true := by
  unfold joinedFacts
  rw [bookSame_f1, bookSame_f2, bookSame_f3, bookSame_f4, bookSame_f5, bookSame_f6]
  kernel_rfl

end Go.Proofs.YtljeomidcjpfmaaGreatDoor

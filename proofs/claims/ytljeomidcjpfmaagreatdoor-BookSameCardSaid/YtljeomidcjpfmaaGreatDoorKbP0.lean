/-
  Closed facts of the row BookSame.
-/
import Derived.Test.YtljeomidcjpfmaaGreatDoorKb14
namespace Go.Proofs.YtljeomidcjpfmaaGreatDoor
open Go Go.ChangeShapes Go.WideShapes Go.ChangeAt Go.RowKit Go.SL

theorem bookSame_f1 : (Rows.bookSameRow.inPlace == Tryz.pinned.checked.prog.inPlace 4) = true := by kernel_rfl
theorem bookSame_f2 : (Rows.bookSameRow.unfollowed == Tryz.pinned.checked.prog.unfollowed 4) = true := by kernel_rfl
theorem bookSame_f3 : (Rows.bookSameRow.recurses == Tryz.pinned.checked.prog.recurses 4) = true := by kernel_rfl

end Go.Proofs.YtljeomidcjpfmaaGreatDoor

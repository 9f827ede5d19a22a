/-
  Closed facts of the row BookSame.
-/
import Derived.Test.YtljeomidcjpfmaaGreatDoorKb14
namespace Go.Proofs.YtljeomidcjpfmaaGreatDoor
open Go Go.ChangeShapes Go.WideShapes Go.ChangeAt Go.RowKit Go.SL

theorem bookSame_f4 : (Rows.bookSameRow.named == Tryz.pinned.checked.prog.varsNamed 4) = true := by kernel_rfl
theorem bookSame_f5 : mapsRowed Tryz.pinned.checked.prog = true := by kernel_rfl
theorem bookSame_f6 : laidOutB Tryz.pinned.checked.prog = true := Try_laidOut
theorem bookSame_goes : false = Rows.bookSameRow.goesBy Tryz.pinned.checked.prog := by kernel_rfl
theorem bookSame_stand : (([28, 5] : List Nat).all fun u => !Tryz.prog.wantsStandIn u) = true := by kernel_rfl

end Go.Proofs.YtljeomidcjpfmaaGreatDoor

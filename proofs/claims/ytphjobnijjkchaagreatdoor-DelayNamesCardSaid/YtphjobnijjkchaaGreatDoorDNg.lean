/- What the card asks of the program's text. -/
import Derived.Test.YtphjobnijjkchaaGreatDoorDWa
namespace Go.Proofs.YtphjobnijjkchaaGreatDoor.delayNames
open Go Go.ChangeShapes Go.WideShapes Go.ChangeAt Go.RowKit
theorem looks_none : false = Tryz.pinned.checked.prog.looks [] := by kernel_rfl
theorem byText : Rows.delayNamesRow.wfByText (OpenSpec.ofChange Rows.delayNamesSpec) = true := by kernel_rfl
theorem byGoes : false = Rows.delayNamesRow.goesBy Tryz.pinned.checked.prog := by kernel_rfl

end Go.Proofs.YtphjobnijjkchaaGreatDoor.delayNames

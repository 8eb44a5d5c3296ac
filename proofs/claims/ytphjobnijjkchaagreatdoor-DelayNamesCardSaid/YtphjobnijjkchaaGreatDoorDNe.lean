/- The row's facts that the program's text alone decides. -/
import Derived.Test.YtphjobnijjkchaaGreatDoorDWa
namespace Go.Proofs.YtphjobnijjkchaaGreatDoor.delayNames
open Go Go.ChangeShapes Go.WideShapes Go.ChangeAt Go.RowKit
theorem joined : joinedFacts Tryz.pinned.checked.prog 7 Tryz.f7 (OpenSpec.ofChange Rows.delayNamesSpec).bare Rows.delayNamesRow = true := by kernel_rfl

end Go.Proofs.YtphjobnijjkchaaGreatDoor.delayNames

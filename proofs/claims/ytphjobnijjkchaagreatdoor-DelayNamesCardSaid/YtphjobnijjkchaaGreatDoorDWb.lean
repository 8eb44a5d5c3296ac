/- That world has the shape of the program's variables. -/
import Derived.Test.YtphjobnijjkchaaGreatDoorDWa
namespace Go.Proofs.YtphjobnijjkchaaGreatDoor.delayNames
open Go Go.ChangeShapes Go.WideShapes Go.ChangeAt Go.RowKit
theorem wit_vars (os : Os) : ((laidWorld os).forCall (fun _ _ => 0) ⟨#[], #[], []⟩).variablesRefB Tryz.checked.prog = true := by kernel_rfl
end Go.Proofs.YtphjobnijjkchaaGreatDoor.delayNames

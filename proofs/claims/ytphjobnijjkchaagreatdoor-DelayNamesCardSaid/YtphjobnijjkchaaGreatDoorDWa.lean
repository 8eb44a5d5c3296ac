/- A world for the witness of DelayNames' row: the listed variables hold what is laid. -/
import Derived.Test.YtphjobnijjkchaaGreatDoorCards
import Derived.Test.YtphjobnijjkchaaGreatDoorTie
import Derived.WalkKit
import Derived.ProofKit
import Derived.OpenShut
import Derived.Lay
import Derived.Deep.DeepHandedRow
import Derived.Deep.DeepWitnessRowRef
import Derived.Lib.LaidTab
namespace Go.Proofs.YtphjobnijjkchaaGreatDoor.delayNames
open Go Go.ChangeShapes Go.WideShapes Go.ChangeAt Go.RowKit
/-- A world for the witness. -/
noncomputable def laidWorld (os : Os) : World := World.laidAll Tryz.prog os Rows.delayNamesRow.laid
theorem laid_met (os : Os) : laidMet Tryz.prog Rows.delayNamesRow.laid ((laidWorld os).forCall (fun _ _ => 0) ⟨#[], #[], []⟩).memory :=
  laidMet_laidAll #[] (by kernel_rfl) (by kernel_rfl)
end Go.Proofs.YtphjobnijjkchaaGreatDoor.delayNames

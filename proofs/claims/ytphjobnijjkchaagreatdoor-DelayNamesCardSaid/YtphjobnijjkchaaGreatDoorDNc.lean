/- The row. -/
import Derived.Test.YtphjobnijjkchaaGreatDoorDNb
import Derived.Test.YtphjobnijjkchaaGreatDoorDNe
import Derived.Test.YtphjobnijjkchaaGreatDoorDNf
namespace Go.Proofs.YtphjobnijjkchaaGreatDoor.delayNames
open Go Go.ChangeShapes Go.WideShapes Go.ChangeAt Go.RowKit Go.Abs
theorem said : Rows.DelayNamesSaid :=
  OpenClaim.holds_of_cond 7 Tryz.f7 rfl rfl rfl rfl rfl rfl rfl ⟨rfl, rfl, rfl, rfl, rfl⟩ rfl rfl rfl rfl rfl named Tryz.func7 joined inst wrap
    (fun os started H enc _ F => by rw [OpenClaim.pre_eq_preRow]; exact lifted os started H enc F)

end Go.Proofs.YtphjobnijjkchaaGreatDoor.delayNames

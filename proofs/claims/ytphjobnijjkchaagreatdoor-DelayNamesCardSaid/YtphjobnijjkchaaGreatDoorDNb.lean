/- The row's step. -/
import Derived.Test.YtphjobnijjkchaaGreatDoorDNa
namespace Go.Proofs.YtphjobnijjkchaaGreatDoor.delayNames
open Go Go.ChangeShapes Go.WideShapes Go.ChangeAt Go.RowKit Go.Abs
set_option maxRecDepth 100000 in
theorem lifted (os : Os) (started : os.Started) (H : Type) (enc : TypeId × Value → H) (F : Stop.Interp) :
    ReturnsInHanded {} Tryz.checked os 7 .any ((OpenSpec.ofChange Rows.delayNamesSpec).preRow enc Tryz.prog Tryz.f7 Rows.delayNamesRow.domain false Rows.delayNamesRow.laid) (((OpenSpec.ofChange Rows.delayNamesSpec).at F).post enc Tryz.prog Tryz.f7 false true false false) := by
  obtain ⟨places, hx⟩ := reads os enc
  refine returnsInHanded_of_row (C := Tryz.checked) (s := OpenSpec.ofChange Rows.delayNamesSpec) own started (by kernel_rfl) Tryz.func7
    (witness_row_atRef (enc := enc) (C := Tryz.checked) false (laidWorld os) #[] (World.laidAll_os _ _ _) (wit_vars os) (wit_rest os) (wit_ok os)
      (OpenSpec.preRow_of_cond 8 hx (by kernel_rfl) (fun k hk => by cases hk) (by kernel_rfl) (laid_met os))) ?_
  intro W base args ds gs before hval hW _ _ _ hL _ _
  exact contract H enc W args ds gs before hW hL

end Go.Proofs.YtphjobnijjkchaaGreatDoor.delayNames

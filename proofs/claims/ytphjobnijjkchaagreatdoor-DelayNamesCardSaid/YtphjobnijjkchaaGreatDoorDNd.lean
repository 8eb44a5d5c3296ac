/- 'timetablelaw18.DelayNames' returns true: the tied card of its row, whose condition is that unicode.White_Space and strings.asciiSpace hold what the program's text lays in them. -/
import Derived.Test.YtphjobnijjkchaaGreatDoorDNc
import Derived.Test.YtphjobnijjkchaaGreatDoorDNg
namespace Go.Proofs.YtphjobnijjkchaaGreatDoor.delayNames
open Go Go.ChangeShapes Go.WideShapes Go.ChangeAt Go.RowKit Go.Abs
theorem plain (f : FuncId) (fn : Func) (hf : Tryz.pinned.checked.prog.funcNamed "timetable/timetablelaw18.DelayNames" = some f) (hfn : Tryz.pinned.checked.prog.funcs[f]? = some fn) :
    false = Tryz.pinned.checked.prog.looks [] ∧ ∀ (j : Nat) t, fn.params[j]? = some t → Tryz.pinned.checked.prog.wantsStandIn t = false := by
  obtain rfl : f = 7 := Option.some.inj (hf.symm.trans named)
  obtain rfl : fn = Tryz.f7 := (Option.some.inj (Tryz.func7.symm.trans hfn)).symm
  refine ⟨looks_none, fun j t ht => ?_⟩
  rw [Tryz.params7] at ht
  simp at ht

/-- THE CARD. -/
theorem card : Rows.DelayNamesCardSaid :=
  Claim7.holds_tied_plain_at .later [] _ _ _ _ said (fun _ h => by cases h) byText (fun _ h => by cases h) delayNames_row_tie rfl ⟨rfl, rfl⟩ (by kernel_rfl) rfl plain byGoes
end Go.Proofs.YtphjobnijjkchaaGreatDoor.delayNames

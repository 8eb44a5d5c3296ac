/-
  DERIVED. GIVEN WITH THE SEED: THE CARDS: each row of YtphjobnijjkchaaGreatDoorRows.lean that lists a variable, with what it lists TIED to the program's text (the seventh form; the later family's looks); each row that meets fmt, with fmt's text TOLD by the authors' own Lean function (tested against real Go, not proved from fmt's source: count such statements apart). THE CARD IS WHAT COUNTS. Prove the row's statement (the work); the ties are given (YtphjobnijjkchaaGreatDoorTie.lean); close each card by the builder's one call (the guide's Derived/Test/ToyasCard.lean, 'card_holds'). Laid BY PROGRAM, IN A SANDBOX (cutbox-door.mjs). By AI agents, Wed Nov 11 2026. No macro, syntax, notation, axiom, sorry.
-/
import Derived.Test.YtphjobnijjkchaaGreatDoorRows
import GoSem.ClaimSeven
namespace Go.Proofs.YtphjobnijjkchaaGreatDoor
namespace Rows

/-- THE TIED CARD OF 'timetablelaw18.DelaySums'. -/
def delaySumsCard : Claim7 := { stood := { row := delaySumsRow, standIns := [], harness := (true, "480ca305825a3b2f6722b6b9c51f7ba5150bb5b0ca2a0a9b3d2d4ff27cbf688e"), looks := false }, kinds := [], alts := [], laidByText := true, laidKinds := [.listed, .data], laidTests := true, laidLooks := .later }
def DelaySumsCardSaid : Prop := Claim7.holds Tryz.pinned (.plain (OpenSpec.ofChange delaySumsSpec)) delaySumsCard

/-- THE TIED CARD OF 'timetablelaw18.DelayLater'. -/
def delayLaterCard : Claim7 := { stood := { row := delayLaterRow, standIns := [], harness := (true, "480ca305825a3b2f6722b6b9c51f7ba5150bb5b0ca2a0a9b3d2d4ff27cbf688e"), looks := false }, kinds := [], alts := [], laidByText := true, laidKinds := [.listed, .data], laidTests := true, laidLooks := .later }
def DelayLaterCardSaid : Prop := Claim7.holds Tryz.pinned (.plain (OpenSpec.ofChange delayLaterSpec)) delayLaterCard

/-- THE TIED CARD OF 'timetablelaw18.DelayTimes'. -/
def delayTimesCard : Claim7 := { stood := { row := delayTimesRow, standIns := [], harness := (true, "480ca305825a3b2f6722b6b9c51f7ba5150bb5b0ca2a0a9b3d2d4ff27cbf688e"), looks := false }, kinds := [], alts := [], laidByText := true, laidKinds := [.listed, .data], laidTests := true, laidLooks := .later }
def DelayTimesCardSaid : Prop := Claim7.holds Tryz.pinned (.plain (OpenSpec.ofChange delayTimesSpec)) delayTimesCard

/-- THE TIED CARD OF 'timetablelaw18.DelayWhole'. -/
def delayWholeCard : Claim7 := { stood := { row := delayWholeRow, standIns := [], harness := (true, "480ca305825a3b2f6722b6b9c51f7ba5150bb5b0ca2a0a9b3d2d4ff27cbf688e"), looks := false }, kinds := [], alts := [], laidByText := true, laidKinds := [.listed, .data], laidTests := true, laidLooks := .later }
def DelayWholeCardSaid : Prop := Claim7.holds Tryz.pinned (.plain (OpenSpec.ofChange delayWholeSpec)) delayWholeCard

/-- THE TIED CARD OF 'timetablelaw18.DelayNames'. -/
def delayNamesCard : Claim7 := { stood := { row := delayNamesRow, standIns := [], harness := (true, "480ca305825a3b2f6722b6b9c51f7ba5150bb5b0ca2a0a9b3d2d4ff27cbf688e"), looks := false }, kinds := [], alts := [], laidByText := true, laidKinds := [.listed, .data], laidTests := true, laidLooks := .later }
def DelayNamesCardSaid : Prop := Claim7.holds Tryz.pinned (.plain (OpenSpec.ofChange delayNamesSpec)) delayNamesCard

/-- THE SECOND FORM's CARD OF 'timetablelaw18.DelaySums'. -/
def delaySumsUptoCard : Claim7 := { stood := { row := delaySumsUptoRow, standIns := [], harness := (true, "480ca305825a3b2f6722b6b9c51f7ba5150bb5b0ca2a0a9b3d2d4ff27cbf688e"), looks := false }, kinds := [], alts := [], laidByText := true, laidKinds := [.listed, .data], laidTests := true, laidLooks := .later }
def DelaySumsUptoCardSaid : Prop := Claim7.holds Tryz.pinned (.plain (OpenSpec.upto delaySumsSpec)) delaySumsUptoCard

/-- THE SECOND FORM's CARD OF 'timetablelaw18.DelayLater'. -/
def delayLaterUptoCard : Claim7 := { stood := { row := delayLaterUptoRow, standIns := [], harness := (true, "480ca305825a3b2f6722b6b9c51f7ba5150bb5b0ca2a0a9b3d2d4ff27cbf688e"), looks := false }, kinds := [], alts := [], laidByText := true, laidKinds := [.listed, .data], laidTests := true, laidLooks := .later }
def DelayLaterUptoCardSaid : Prop := Claim7.holds Tryz.pinned (.plain (OpenSpec.upto delayLaterSpec)) delayLaterUptoCard

/-- THE SECOND FORM's CARD OF 'timetablelaw18.DelayTimes'. -/
def delayTimesUptoCard : Claim7 := { stood := { row := delayTimesUptoRow, standIns := [], harness := (true, "480ca305825a3b2f6722b6b9c51f7ba5150bb5b0ca2a0a9b3d2d4ff27cbf688e"), looks := false }, kinds := [], alts := [], laidByText := true, laidKinds := [.listed, .data], laidTests := true, laidLooks := .later }
def DelayTimesUptoCardSaid : Prop := Claim7.holds Tryz.pinned (.plain (OpenSpec.upto delayTimesSpec)) delayTimesUptoCard

/-- THE SECOND FORM's CARD OF 'timetablelaw18.DelayWhole'. -/
def delayWholeUptoCard : Claim7 := { stood := { row := delayWholeUptoRow, standIns := [], harness := (true, "480ca305825a3b2f6722b6b9c51f7ba5150bb5b0ca2a0a9b3d2d4ff27cbf688e"), looks := false }, kinds := [], alts := [], laidByText := true, laidKinds := [.listed, .data], laidTests := true, laidLooks := .later }
def DelayWholeUptoCardSaid : Prop := Claim7.holds Tryz.pinned (.plain (OpenSpec.upto delayWholeSpec)) delayWholeUptoCard

/-- THE SECOND FORM's CARD OF 'timetablelaw18.DelayNames'. -/
def delayNamesUptoCard : Claim7 := { stood := { row := delayNamesUptoRow, standIns := [], harness := (true, "480ca305825a3b2f6722b6b9c51f7ba5150bb5b0ca2a0a9b3d2d4ff27cbf688e"), looks := false }, kinds := [], alts := [], laidByText := true, laidKinds := [.listed, .data], laidTests := true, laidLooks := .later }
def DelayNamesUptoCardSaid : Prop := Claim7.holds Tryz.pinned (.plain (OpenSpec.upto delayNamesSpec)) delayNamesUptoCard
end Rows
end Go.Proofs.YtphjobnijjkchaaGreatDoor

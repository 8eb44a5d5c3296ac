/- 'timetablelaw18.DelayNames' returns true: the tied card of its row, whose condition is that unicode.White_Space and strings.asciiSpace hold what the program's text lays. -/
import Derived.Test.YtphjobnijjkchaaGreatDoorKN
import Derived.Test.YtphjobnijjkchaaGreatDoorDWa
import Derived.Test.YtphjobnijjkchaaGreatDoorDWb
import Derived.Test.YtphjobnijjkchaaGreatDoorDWc
namespace Go.Proofs.YtphjobnijjkchaaGreatDoor.delayNames
open Go Go.ChangeShapes Go.WideShapes Go.ChangeAt Go.RowKit Go.Abs

theorem own : ownKnob Tryz.prog.godebug = none := by kernel_rfl
theorem gTab : Tryz.prog.globalNamed "strings.asciiSpace" = some 0 := by kernel_rfl
theorem gTabType : (Tryz.prog.globals[0]?).map (·.type) = some 236 := by kernel_rfl
theorem cells236 : Tryz.prog.cellsOf 236 = 256 := by kernel_rfl
theorem cells5 : Tryz.prog.cellsOf 5 = 1 := by kernel_rfl

def spaces : List Int := (List.range 256).map fun i => if i = 9 ∨ i = 10 ∨ i = 11 ∨ i = 12 ∨ i = 13 ∨ i = 32 then 1 else 0

theorem laidOne : (Rows.delayNamesRow.laid.filter fun x => x.1 == "strings.asciiSpace") = [("strings.asciiSpace", Lib.tabData .u8 spaces)] := by kernel_rfl

/-- What the row's list gives: the table's cells. -/
theorem table {W : World} (h : laidMetH Tryz.prog Rows.delayNamesRow.laid W) : Lib.TabIs Tryz.prog W "strings.asciiSpace" .u8 spaces := by
  have h1 : laidMet Tryz.prog Rows.delayNamesRow.laid W := h
  have h2 := h1.filter fun x => x.1 == "strings.asciiSpace"
  rw [laidOne] at h2
  exact Lib.tabIs_of_head (rest := []) gTab gTabType Tryz.underlying236 Tryz.underlying5 cells5 cells236 h2

theorem spacesArr : (spaces.map fun z => Value.int .u8 z).toArray = asciiSpace := by kernel_rfl

theorem globOk {W : World} (h : laidMetH Tryz.prog Rows.delayNamesRow.laid W) : ∃ T fr, W.heap[0]? = some (.cells asciiSpace T fr) := by
  have h1 := table h
  unfold Lib.TabIs World.var? at h1
  rw [gTab, Option.bind_some, spacesArr] at h1
  split at h1
  · rename_i cs T fr he
    cases h1
    exact ⟨T, fr, he⟩
  · cases h1

/-- The call, in every world that holds the table. -/
theorem call {W : World} (h : laidMetH Tryz.prog Rows.delayNamesRow.laid W) : Calls Tryz.prog 7 #[] W fun e w' => e = .returned (.bool true) ∧ W.keptBut w' (fun _ => False) := by
  obtain ⟨T, fr, h0⟩ := globOk h
  have sr : SR (fun _ _ => none) (fun b => b = 0) W.heap.size [] W := {
    row := fun l ver sz xs hl => by simp at hl
    map := fun l es ck hl => by simp at hl
    dead := fun _ _ _ => rfl
    sep := fun l l' b hc => by simp [Cur] at hc
    imm := fun l b hc => by simp [Cur] at hc
    lt := fun l b hc => by simp [Cur] at hc
    icells := fun b hb => by subst hb; exact ⟨_, T, fr, h0⟩
    gl := fun g vs hg => by
      unfold GT at hg
      split at hg
      · cases hg; exact ⟨rfl, T, fr, h0⟩
      · cases hg
    vlt := fun l ver x hx => by cases hx
    bsle := Nat.le_refl _
    cbs := fun l b hc => by simp [Cur] at hc
    vmono := fun l v sz xs ver x hl => by simp at hl }
  refine (kn58 W.heap.size (fun _ _ => none) (fun b => b = 0) W #[] sr rfl (fun k hk => absurd hk (Nat.not_lt_zero _))).mono ?_
  rintro e w' ⟨r, σ', B', I', v, rfl, ⟨rfl, rfl⟩, _, hv, he⟩
  rw [hv.valEq]
  refine ⟨rfl, he.os, he.output, fun i hi => ?_⟩
  have hb := he.block i hi fun l hl => by simp [Cur] at hl
  rw [hb]
  cases ho : W.heap[i]? with
  | none => rfl
  | some o =>
    cases o with
    | cells c t fr => exact ⟨rfl, rfl, rfl, fun _ _ => rfl⟩
    | map es ck => exact .inr ⟨rfl, rfl⟩
    | _ => rfl

theorem contract (H : Type) (enc : TypeId × Value → H) (W : World) (args : Array Value) (ds gs : List (DataW H)) (before : List MemPlace)
    (hW : DataW.Whole enc Tryz.prog Tryz.f7.params.toList Rows.delayNamesSpec.vars false W args.toList ds gs before) (hL : laidMetH Tryz.prog Rows.delayNamesRow.laid W) :
    Calls Tryz.prog 7 args W fun e W' => ∃ v, e = .returned v ∧ Rows.delayNamesSpec.post enc Tryz.prog Tryz.f7 false true false false W args v W' := by
  have hW' := hW
  obtain ⟨p, q, hA0, hV, rfl, hfz, hnd⟩ := hW
  have hA : DataW.TrodAll enc Tryz.prog W 0 (fun _ => true) true Tryz.f7.params.toList args.toList ds p := hA0
  rw [Tryz.params7] at hA
  obtain ⟨hargs, rfl, rfl⟩ := trodAll_nil hA
  obtain rfl : args = #[] := by cases args; simp_all
  obtain ⟨rfl, rfl⟩ := trodVars_none hV
  refine (call hL).mono fun e W' ⟨he, hk⟩ => ?_
  subst he
  refine ⟨_, rfl, [], [], [] ++ [], [], [], [], hW', ?_, ?_, rfl, World.keptBut_mono (fun _ f => f.elim) hk, fun h => by cases h⟩
  · exact trodAll_cons_mk (shut_bool Tryz.underlying4 _) trodAll_mk0
  · rw [Tryz.params7]; exact trodAll_mk0

end Go.Proofs.YtphjobnijjkchaaGreatDoor.delayNames

/- The table of a run at closed inputs: the plans of all functions, which functions are looked through, which calls work on the caller's store. -/
import Derived.Test.YtphjobnijjkchaaGreatDoorL5
import Derived.Test.YtphjobnijjkchaaGreatDoorB2
import Derived.Test.YtphjobnijjkchaaGreatDoorC2
import Derived.Test.YtphjobnijjkchaaGreatDoorProg
namespace Go.Proofs.YtphjobnijjkchaaGreatDoor
open Go Go.Abs
def psTab : List (List RPlan) := [
[], [], ps2, ps3, ps4, ps5, ps6, ps7, ps8, ps9, ps10, ps11, ps12, ps13, ps14, ps15, ps16, ps17, ps18, ps19,
 ps20, ps21, ps22, ps23, ps24, ps25, ps26, ps27, ps28, ps29, ps30, ps31, ps32, ps33, ps34, ps35, ps36, ps37, ps38, ps39,
 ps40, ps41, ps42, ps43, ps44, ps45, ps46, ps47, ps48, ps49, ps50, ps51, ps52, ps53, ps54, ps55, ps56, ps57, ps58, ps59,
 ps60, ps61, ps62, ps63, ps64, ps65, ps66, ps67, ps68, ps69, ps70, ps71, ps72, ps73, ps74, ps75, ps76, ps77, ps78, ps79,
 ps80, ps81, ps82, ps83, ps84, ps85, ps86, ps87, ps88, ps89, ps90, ps91, ps92, ps93, ps94, ps95, ps96, ps97, ps98, ps99,
 ps100, ps101, ps102, ps103, ps104, ps105, ps106, ps107, ps108, ps109, ps110, ps111, ps112, ps113, ps114, ps115, ps116, ps117, ps118, ps119,
 ps120, ps121, ps122, ps123, ps124, ps125, ps126, ps127, ps128, ps129, ps130, ps131, ps132, ps133, ps134, ps135, ps136, ps137, ps138, ps139,
 ps140, ps141, ps142, ps143, ps144, ps145, ps146, ps147, ps148, ps149, ps150, ps151, ps152, ps153, ps154, ps155, ps156, ps157, ps158, ps159,
 ps160, ps161, [], ps163, [], ps165, ps166, ps167, ps168, ps169, ps170, ps171, ps172, ps173, ps174, ps175, ps176, ps177, ps178, ps179,
 ps180, ps181, ps182, ps183, ps184, ps185, ps186, ps187, ps188, ps189, ps190, ps191, ps192, ps193, ps194, ps195, ps196, ps197, ps198, ps199,
 ps200, ps201, ps202, ps203, ps204, ps205, ps206, ps207, ps208, ps209, ps210, ps211, ps212, ps213, ps214, ps215, ps216, ps217, ps218, ps219,
 ps220, ps221, ps222, ps223, ps224, ps225, ps226, ps227, ps228, ps229, ps230, ps231, ps232, ps233, ps234, ps235, ps236, ps237, ps238, ps239,
 ps240, ps241, ps242, ps243, ps244, ps245, ps246, ps247, ps248, ps249, ps250, ps251, ps252, ps253, ps254, ps255, ps256, ps257, ps258, ps259,
 ps260, ps261, ps262, ps263, ps264, ps265, ps266, [], [], [], [], [], [], [], [], [], [], [], [], [],
 [], [], [], [], [], [], [], [], [], [], [], ps291
]
def okL0 : List Nat := [7, 8, 11, 12, 13, 17, 18, 19, 20, 21, 23, 25, 26, 27, 28, 29, 30, 31, 32, 38, 39, 40, 41, 42, 43]
def okL1 : List Nat := [44, 45, 46, 47, 48, 49, 51, 52, 53, 54, 62, 63, 64, 65, 66, 67, 68, 69, 70, 71, 72, 73, 75, 76, 77]
def okL2 : List Nat := [78, 79, 80, 81, 82, 83, 84, 85, 86, 87, 88, 89, 90, 91, 92, 93, 94, 97, 98, 99, 100, 101, 102, 103, 104]
def okL3 : List Nat := [105, 106, 107, 108, 109, 110, 111, 112, 113, 114, 115, 116, 117, 118, 119, 120, 121, 122, 123, 124, 125, 126, 127, 128, 129]
def okL4 : List Nat := [130, 131, 132, 133, 134, 135, 136, 137, 139, 140, 141, 142, 143, 146, 147, 148, 149, 150, 151, 152, 153, 154, 155, 156, 157]
def okL5 : List Nat := [158, 159, 160, 161, 167, 168, 170, 171, 172, 174, 176, 177, 178, 179, 180, 181, 183, 184, 185, 186, 187, 188, 189, 190, 191]
def okL6 : List Nat := [192, 193, 196, 202, 203, 206, 207, 208, 209, 210, 211, 212, 213, 214, 215, 216, 217, 218, 219, 220, 222, 224, 225, 226, 227]
def okL7 : List Nat := [228, 230, 231, 232, 234, 236, 237, 238, 239, 240, 241, 243, 244, 245, 246, 249, 250, 257, 258, 260, 263, 266]
def okL : List Nat := okL0 ++ okL1 ++ okL2 ++ okL3 ++ okL4 ++ okL5 ++ okL6 ++ okL7
def fullL : List Nat := [53, 82, 116, 156, 201, 243]
def pairL : List (Nat × Nat) := [(38, 67), (38, 70), (38, 71), (213, 62), (130, 69), (29, 38), (92, 133), (93, 136), (94, 137)]
def cloneL : List (Nat × Nat) := [(62, 1), (63, 3), (64, 6), (65, 4), (66, 5), (67, 3), (68, 1), (69, 1), (70, 4), (71, 2)]
def inP : List (Nat × Nat) → Nat → Nat → Bool
  | [], _, _ => false
  | (a, b) :: r, x, y => match Nat.beq a x && Nat.beq b y with | true => true | false => inP r x y
theorem inP_mem : ∀ {l : List (Nat × Nat)} {x y : Nat}, inP l x y = true → (x, y) ∈ l
  | [], _, _, h => by cases h
  | (a, b) :: r, x, y, h => by
    simp only [inP] at h
    split at h
    · rename_i e
      simp only [Bool.and_eq_true, Nat.beq_eq] at e
      rw [e.1, e.2]; exact List.mem_cons_self ..
    · exact List.mem_cons_of_mem _ (inP_mem h)
abbrev Kn := List (FuncId × List AVal × AVal)
def lookK : Kn → FuncId → List AVal → Option AVal
  | [], _, _ => none
  | (g, bs, r) :: t, f, as' => match Nat.beq g f with
    | true => match allEq (eqA 12) bs as' with
      | true => some r
      | false => lookK t f as'
    | false => lookK t f as'
def cloneK (f : FuncId) (as' : List AVal) : Option AVal := match as' with
  | [.list false sz xs] => okIf (inP cloneL f sz && Nat.ble xs.length 1000000 && xs.all (plainL 8)) (some (.list true sz xs))
  | _ => none
def knownF (kn : Kn) (f : FuncId) (as' : List AVal) : Option AVal := match cloneK f as' with
  | some r => some r
  | none => lookK kn f as'
def rowF (f : FuncId) (as' : List AVal) : Option (Nat × Nat × List AVal) := match as' with
  | [.list _ sz xs] => okIf (inP cloneL f sz && Nat.ble xs.length 1000000) (some (1, sz, xs))
  | _ => none
noncomputable def tab (kn : Kn) : Tab := { P := Tryz.prog, ps := fun f => psTab.getD f [], ok := fun f => inL okL f, full := fun c f => inL fullL f || inP pairL c f, known := knownF kn, rowK := rowF, pr := fun _ _ => none, n := 12, L := 100000 }
noncomputable def fOk (f : Nat) : Bool := match Tryz.prog.funcs[f]? with
  | some fn => match fn.body with
    | some c => codeOk' fn.ntmps (psTab.getD f []) c && !(fn.name == "runtime.NumGoroutine")
    | none => false
  | none => false
def KnOk (kn : Kn) : Prop := ∀ p ∈ kn, Ret Tryz.prog p.1 p.2.1 p.2.2
theorem KnOk.nil : KnOk [] := fun p hp => by cases hp
theorem KnOk.cons {f : FuncId} {bs : List AVal} {r : AVal} {kn : Kn} (h : Ret Tryz.prog f bs r) (hk : KnOk kn) : KnOk ((f, bs, r) :: kn) := fun p hp => by
  rcases List.mem_cons.1 hp with rfl | hp
  · exact h
  · exact hk p hp
theorem lookK_ok : ∀ {kn : Kn} {f : FuncId} {as' : List AVal} {r : AVal}, KnOk kn → lookK kn f as' = some r → Ret Tryz.prog f as' r
  | [], _, _, _, _, h => by cases h
  | (g, bs, q) :: t, f, as', r, hk, h => by
    have ht : KnOk t := fun p hp => hk p (List.mem_cons_of_mem _ hp)
    simp only [lookK] at h
    split at h
    · rename_i e
      split at h
      · rename_i e2
        cases h
        have := hk _ (List.mem_cons_self ..)
        rw [← Nat.eq_of_beq_eq_true e, ← allEq_eq (eqA_eq 12) e2]
        exact this
      · exact lookK_ok ht h
    · exact lookK_ok ht h
theorem okAll0 : okL0.all fOk = true := by kernel_rfl
theorem okAll1 : okL1.all fOk = true := by kernel_rfl
theorem okAll2 : okL2.all fOk = true := by kernel_rfl
theorem okAll3 : okL3.all fOk = true := by kernel_rfl
theorem okAll4 : okL4.all fOk = true := by kernel_rfl
theorem okAll5 : okL5.all fOk = true := by kernel_rfl
theorem okAll6 : okL6.all fOk = true := by kernel_rfl
theorem okAll7 : okL7.all fOk = true := by kernel_rfl
theorem okAll : okL.all fOk = true := by
  simp only [okL, List.all_append, okAll0, okAll1, okAll2, okAll3, okAll4, okAll5, okAll6, okAll7, Bool.and_self]
theorem cloneK_ok {f : FuncId} {as' : List AVal} {r : AVal} (h : cloneK f as' = some r) : Ret Tryz.prog f as' r := by
  unfold cloneK at h
  split at h
  · rename_i sz xs
    obtain ⟨h1, h2⟩ := okIf_some h
    simp only [Bool.and_eq_true] at h1
    cases h2
    have hm := inP_mem h1.1.1
    have hl := Nat.le_of_ble_eq_true h1.1.2
    have hp := h1.2
    clear h h1
    simp only [cloneL, List.mem_cons, Prod.mk.injEq, List.not_mem_nil, or_false] at hm
    rcases hm with ⟨rfl, rfl⟩ | ⟨rfl, rfl⟩ | ⟨rfl, rfl⟩ | ⟨rfl, rfl⟩ | ⟨rfl, rfl⟩ | ⟨rfl, rfl⟩ | ⟨rfl, rfl⟩ | ⟨rfl, rfl⟩ | ⟨rfl, rfl⟩ | ⟨rfl, rfl⟩
    · exact clone62 xs hl hp
    · exact clone63 xs hl hp
    · exact clone64 xs hl hp
    · exact clone65 xs hl hp
    · exact clone66 xs hl hp
    · exact clone67 xs hl hp
    · exact clone68 xs hl hp
    · exact clone69 xs hl hp
    · exact clone70 xs hl hp
    · exact clone71 xs hl hp
  · cases h
theorem rowF_ok {f : FuncId} {as' : List AVal} {v sz : Nat} {xs : List AVal} (h : rowF f as' = some (v, sz, xs)) (σ : List AObj) (K : Kont) (hk : K (.row σ.length v 0 xs.length) (σ ++ [.row v sz xs])) : CallG Tryz.prog f as' σ K := by
  unfold rowF at h
  split at h
  · rename_i tg sz' xs'
    obtain ⟨h1, h2⟩ := okIf_some h
    simp only [Bool.and_eq_true] at h1
    cases h2
    have hm := inP_mem h1.1
    have hl := Nat.le_of_ble_eq_true h1.2
    clear h h1
    simp only [cloneL, List.mem_cons, Prod.mk.injEq, List.not_mem_nil, or_false] at hm
    rcases hm with ⟨rfl, rfl⟩ | ⟨rfl, rfl⟩ | ⟨rfl, rfl⟩ | ⟨rfl, rfl⟩ | ⟨rfl, rfl⟩ | ⟨rfl, rfl⟩ | ⟨rfl, rfl⟩ | ⟨rfl, rfl⟩ | ⟨rfl, rfl⟩ | ⟨rfl, rfl⟩
    · exact cloneR62 tg xs hl σ K hk
    · exact cloneR63 tg xs hl σ K hk
    · exact cloneR64 tg xs hl σ K hk
    · exact cloneR65 tg xs hl σ K hk
    · exact cloneR66 tg xs hl σ K hk
    · exact cloneR67 tg xs hl σ K hk
    · exact cloneR68 tg xs hl σ K hk
    · exact cloneR69 tg xs hl σ K hk
    · exact cloneR70 tg xs hl σ K hk
    · exact cloneR71 tg xs hl σ K hk
  · cases h
theorem tabOk {kn : Kn} (hk : KnOk kn) : TabOk (tab kn) where
  ok f hf := by
    have h := List.all_eq_true.1 okAll f (inL_iff.1 hf)
    unfold fOk at h
    split at h
    · rename_i fn h1
      split at h
      · rename_i c h2
        simp only [Bool.and_eq_true, Bool.not_eq_true'] at h
        exact ⟨fn, c, h1, h2, h.1, h.2⟩
      · cases h
    · cases h
  known f bs r h := by
    have h : knownF kn f bs = some r := h
    unfold knownF at h
    split at h
    · rename_i r' hr
      cases h
      exact cloneK_ok hr
    · exact lookK_ok hk h
  mixed := mixed
  rowK f bs v sz xs h σ K hk := rowF_ok h σ K hk
end Go.Proofs.YtphjobnijjkchaaGreatDoor

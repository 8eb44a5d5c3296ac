/- Contracts of slices.Clone, at every element type: a list comes back as a new list, or as a row of its own. -/
import Derived.Test.YtphjobnijjkchaaGreatDoorL5
import Derived.Test.YtphjobnijjkchaaGreatDoorB1
import Derived.Test.YtphjobnijjkchaaGreatDoorB2
set_option linter.unusedSimpArgs false
set_option maxRecDepth 4000
namespace Go.Proofs.YtphjobnijjkchaaGreatDoor
open Go Go.Abs
theorem clone_end {sz : Nat} {x : AVal} {xs : List AVal} (σ : List AObj) (hp : (x :: xs).all (plainL 8) = true) :
    Abs.Sub (.list true sz (gcv 8 0 [] σ x :: List.map (gcv 8 0 [] σ) (List.take xs.length xs))) (.list true sz (x :: xs)) := by
  simp only [List.all_cons, Bool.and_eq_true] at hp
  rw [List.take_length, gcv_plainL 8 σ hp.1]
  have : xs.map (gcv 8 0 [] σ) = xs := by
    calc xs.map (gcv 8 0 [] σ) = xs.map id := List.map_congr_left fun y hy => gcv_plainL 8 σ (List.all_eq_true.1 hp.2 y hy)
      _ = xs := by simp
  rw [this]
  exact .refl _
theorem clone62 (xs : List AVal) (hx : xs.length ≤ 1000000) (hp : xs.all (plainL 8) = true) : Ret Tryz.prog 62 [.list false 1 xs] (.list true 1 xs) := by
  refine Ret.of 9 ?_
  cases xs with
  | nil =>
    refine callG_enter Tryz.func62 rfl Tryz.ntmps62 res62 (Nat.le_of_ble_eq_true rfl) fun bs h0 => ?_
    refine RC_sound (ps := ps62) mixed _ _ _ _ (by kernel_rfl) ?_
    simp (implicitDefEqProofs := false) only [go_sem, ↓reduceIte, Nat.reduceEqDiff, Nat.reduceLeDiff, Nat.reduceLT, Nat.reduceAdd, Nat.reduceSub, Nat.reduceMul, Nat.reduceBEq, beq_self_eq_true, Option.some.injEq, exists_eq']
    exact ⟨.nil, .refl _⟩
  | cons x xs =>
    simp only [List.length_cons] at hx
    refine callG_enter Tryz.func62 rfl Tryz.ntmps62 res62 (Nat.le_of_ble_eq_true rfl) fun bs h0 => ?_
    refine RC_sound (ps := ps62) mixed _ _ _ _ (by kernel_rfl) ?_
    simp (implicitDefEqProofs := false) only [go_sem, ↓reduceIte, Nat.reduceEqDiff, Nat.reduceLeDiff, Nat.reduceLT, Nat.reduceAdd, Nat.reduceSub, Nat.reduceMul, Nat.reduceBEq, beq_self_eq_true, Option.some.injEq, exists_eq']
    exact ⟨⟨by omega, by omega⟩, clone_end _ hp⟩
theorem cloneR62 (tg : Bool) (xs : List AVal) (hx : xs.length ≤ 1000000) (σ : List AObj) (K : Kont) (hk : K (.row σ.length 1 0 xs.length) (σ ++ [.row 1 1 xs])) : CallG Tryz.prog 62 [.list tg 1 xs] σ K := by
  refine CallG.nilRow 1 1 (by decide) ?_
  cases xs with
  | nil =>
    refine callG_enter Tryz.func62 rfl Tryz.ntmps62 res62 (Nat.le_of_ble_eq_true rfl) fun bs h0 => ?_
    refine RC_sound (ps := ps62) mixed _ _ _ _ (by kernel_rfl) ?_
    simp (implicitDefEqProofs := false) only [go_sem, ↓reduceIte, Nat.reduceEqDiff, Nat.reduceLeDiff, Nat.reduceLT, Nat.reduceAdd, Nat.reduceSub, Nat.reduceMul, Nat.reduceBEq, beq_self_eq_true, Option.some.injEq, exists_eq']
    exact ⟨.inl hk, .inr hk⟩
  | cons x xs =>
    simp only [List.length_cons] at hx
    refine callG_enter Tryz.func62 rfl Tryz.ntmps62 res62 (Nat.le_of_ble_eq_true rfl) fun bs h0 => ?_
    refine RC_sound (ps := ps62) mixed _ _ _ _ (by kernel_rfl) ?_
    simp (implicitDefEqProofs := false) only [go_sem, ↓reduceIte, Nat.reduceEqDiff, Nat.reduceLeDiff, Nat.reduceLT, Nat.reduceAdd, Nat.reduceSub, Nat.reduceMul, Nat.reduceBEq, beq_self_eq_true, Option.some.injEq, exists_eq']
    exact ⟨⟨by omega, by omega⟩, .inr hk⟩

theorem clone63 (xs : List AVal) (hx : xs.length ≤ 1000000) (hp : xs.all (plainL 8) = true) : Ret Tryz.prog 63 [.list false 3 xs] (.list true 3 xs) := by
  refine Ret.of 9 ?_
  cases xs with
  | nil =>
    refine callG_enter Tryz.func63 rfl Tryz.ntmps63 res63 (Nat.le_of_ble_eq_true rfl) fun bs h0 => ?_
    refine RC_sound (ps := ps63) mixed _ _ _ _ (by kernel_rfl) ?_
    simp (implicitDefEqProofs := false) only [go_sem, ↓reduceIte, Nat.reduceEqDiff, Nat.reduceLeDiff, Nat.reduceLT, Nat.reduceAdd, Nat.reduceSub, Nat.reduceMul, Nat.reduceBEq, beq_self_eq_true, Option.some.injEq, exists_eq']
    exact ⟨.nil, .refl _⟩
  | cons x xs =>
    simp only [List.length_cons] at hx
    refine callG_enter Tryz.func63 rfl Tryz.ntmps63 res63 (Nat.le_of_ble_eq_true rfl) fun bs h0 => ?_
    refine RC_sound (ps := ps63) mixed _ _ _ _ (by kernel_rfl) ?_
    simp (implicitDefEqProofs := false) only [go_sem, ↓reduceIte, Nat.reduceEqDiff, Nat.reduceLeDiff, Nat.reduceLT, Nat.reduceAdd, Nat.reduceSub, Nat.reduceMul, Nat.reduceBEq, beq_self_eq_true, Option.some.injEq, exists_eq']
    exact ⟨⟨by omega, by omega⟩, clone_end _ hp⟩
theorem cloneR63 (tg : Bool) (xs : List AVal) (hx : xs.length ≤ 1000000) (σ : List AObj) (K : Kont) (hk : K (.row σ.length 1 0 xs.length) (σ ++ [.row 1 3 xs])) : CallG Tryz.prog 63 [.list tg 3 xs] σ K := by
  refine CallG.nilRow 3 1 (by decide) ?_
  cases xs with
  | nil =>
    refine callG_enter Tryz.func63 rfl Tryz.ntmps63 res63 (Nat.le_of_ble_eq_true rfl) fun bs h0 => ?_
    refine RC_sound (ps := ps63) mixed _ _ _ _ (by kernel_rfl) ?_
    simp (implicitDefEqProofs := false) only [go_sem, ↓reduceIte, Nat.reduceEqDiff, Nat.reduceLeDiff, Nat.reduceLT, Nat.reduceAdd, Nat.reduceSub, Nat.reduceMul, Nat.reduceBEq, beq_self_eq_true, Option.some.injEq, exists_eq']
    exact ⟨.inl hk, .inr hk⟩
  | cons x xs =>
    simp only [List.length_cons] at hx
    refine callG_enter Tryz.func63 rfl Tryz.ntmps63 res63 (Nat.le_of_ble_eq_true rfl) fun bs h0 => ?_
    refine RC_sound (ps := ps63) mixed _ _ _ _ (by kernel_rfl) ?_
    simp (implicitDefEqProofs := false) only [go_sem, ↓reduceIte, Nat.reduceEqDiff, Nat.reduceLeDiff, Nat.reduceLT, Nat.reduceAdd, Nat.reduceSub, Nat.reduceMul, Nat.reduceBEq, beq_self_eq_true, Option.some.injEq, exists_eq']
    exact ⟨⟨by omega, by omega⟩, .inr hk⟩

theorem clone64 (xs : List AVal) (hx : xs.length ≤ 1000000) (hp : xs.all (plainL 8) = true) : Ret Tryz.prog 64 [.list false 6 xs] (.list true 6 xs) := by
  refine Ret.of 9 ?_
  cases xs with
  | nil =>
    refine callG_enter Tryz.func64 rfl Tryz.ntmps64 res64 (Nat.le_of_ble_eq_true rfl) fun bs h0 => ?_
    refine RC_sound (ps := ps64) mixed _ _ _ _ (by kernel_rfl) ?_
    simp (implicitDefEqProofs := false) only [go_sem, ↓reduceIte, Nat.reduceEqDiff, Nat.reduceLeDiff, Nat.reduceLT, Nat.reduceAdd, Nat.reduceSub, Nat.reduceMul, Nat.reduceBEq, beq_self_eq_true, Option.some.injEq, exists_eq']
    exact ⟨.nil, .refl _⟩
  | cons x xs =>
    simp only [List.length_cons] at hx
    refine callG_enter Tryz.func64 rfl Tryz.ntmps64 res64 (Nat.le_of_ble_eq_true rfl) fun bs h0 => ?_
    refine RC_sound (ps := ps64) mixed _ _ _ _ (by kernel_rfl) ?_
    simp (implicitDefEqProofs := false) only [go_sem, ↓reduceIte, Nat.reduceEqDiff, Nat.reduceLeDiff, Nat.reduceLT, Nat.reduceAdd, Nat.reduceSub, Nat.reduceMul, Nat.reduceBEq, beq_self_eq_true, Option.some.injEq, exists_eq']
    exact ⟨⟨by omega, by omega⟩, clone_end _ hp⟩
theorem cloneR64 (tg : Bool) (xs : List AVal) (hx : xs.length ≤ 1000000) (σ : List AObj) (K : Kont) (hk : K (.row σ.length 1 0 xs.length) (σ ++ [.row 1 6 xs])) : CallG Tryz.prog 64 [.list tg 6 xs] σ K := by
  refine CallG.nilRow 6 1 (by decide) ?_
  cases xs with
  | nil =>
    refine callG_enter Tryz.func64 rfl Tryz.ntmps64 res64 (Nat.le_of_ble_eq_true rfl) fun bs h0 => ?_
    refine RC_sound (ps := ps64) mixed _ _ _ _ (by kernel_rfl) ?_
    simp (implicitDefEqProofs := false) only [go_sem, ↓reduceIte, Nat.reduceEqDiff, Nat.reduceLeDiff, Nat.reduceLT, Nat.reduceAdd, Nat.reduceSub, Nat.reduceMul, Nat.reduceBEq, beq_self_eq_true, Option.some.injEq, exists_eq']
    exact ⟨.inl hk, .inr hk⟩
  | cons x xs =>
    simp only [List.length_cons] at hx
    refine callG_enter Tryz.func64 rfl Tryz.ntmps64 res64 (Nat.le_of_ble_eq_true rfl) fun bs h0 => ?_
    refine RC_sound (ps := ps64) mixed _ _ _ _ (by kernel_rfl) ?_
    simp (implicitDefEqProofs := false) only [go_sem, ↓reduceIte, Nat.reduceEqDiff, Nat.reduceLeDiff, Nat.reduceLT, Nat.reduceAdd, Nat.reduceSub, Nat.reduceMul, Nat.reduceBEq, beq_self_eq_true, Option.some.injEq, exists_eq']
    exact ⟨⟨by omega, by omega⟩, .inr hk⟩

theorem clone65 (xs : List AVal) (hx : xs.length ≤ 1000000) (hp : xs.all (plainL 8) = true) : Ret Tryz.prog 65 [.list false 4 xs] (.list true 4 xs) := by
  refine Ret.of 9 ?_
  cases xs with
  | nil =>
    refine callG_enter Tryz.func65 rfl Tryz.ntmps65 res65 (Nat.le_of_ble_eq_true rfl) fun bs h0 => ?_
    refine RC_sound (ps := ps65) mixed _ _ _ _ (by kernel_rfl) ?_
    simp (implicitDefEqProofs := false) only [go_sem, ↓reduceIte, Nat.reduceEqDiff, Nat.reduceLeDiff, Nat.reduceLT, Nat.reduceAdd, Nat.reduceSub, Nat.reduceMul, Nat.reduceBEq, beq_self_eq_true, Option.some.injEq, exists_eq']
    exact ⟨.nil, .refl _⟩
  | cons x xs =>
    simp only [List.length_cons] at hx
    refine callG_enter Tryz.func65 rfl Tryz.ntmps65 res65 (Nat.le_of_ble_eq_true rfl) fun bs h0 => ?_
    refine RC_sound (ps := ps65) mixed _ _ _ _ (by kernel_rfl) ?_
    simp (implicitDefEqProofs := false) only [go_sem, ↓reduceIte, Nat.reduceEqDiff, Nat.reduceLeDiff, Nat.reduceLT, Nat.reduceAdd, Nat.reduceSub, Nat.reduceMul, Nat.reduceBEq, beq_self_eq_true, Option.some.injEq, exists_eq']
    exact ⟨⟨by omega, by omega⟩, clone_end _ hp⟩
theorem cloneR65 (tg : Bool) (xs : List AVal) (hx : xs.length ≤ 1000000) (σ : List AObj) (K : Kont) (hk : K (.row σ.length 1 0 xs.length) (σ ++ [.row 1 4 xs])) : CallG Tryz.prog 65 [.list tg 4 xs] σ K := by
  refine CallG.nilRow 4 1 (by decide) ?_
  cases xs with
  | nil =>
    refine callG_enter Tryz.func65 rfl Tryz.ntmps65 res65 (Nat.le_of_ble_eq_true rfl) fun bs h0 => ?_
    refine RC_sound (ps := ps65) mixed _ _ _ _ (by kernel_rfl) ?_
    simp (implicitDefEqProofs := false) only [go_sem, ↓reduceIte, Nat.reduceEqDiff, Nat.reduceLeDiff, Nat.reduceLT, Nat.reduceAdd, Nat.reduceSub, Nat.reduceMul, Nat.reduceBEq, beq_self_eq_true, Option.some.injEq, exists_eq']
    exact ⟨.inl hk, .inr hk⟩
  | cons x xs =>
    simp only [List.length_cons] at hx
    refine callG_enter Tryz.func65 rfl Tryz.ntmps65 res65 (Nat.le_of_ble_eq_true rfl) fun bs h0 => ?_
    refine RC_sound (ps := ps65) mixed _ _ _ _ (by kernel_rfl) ?_
    simp (implicitDefEqProofs := false) only [go_sem, ↓reduceIte, Nat.reduceEqDiff, Nat.reduceLeDiff, Nat.reduceLT, Nat.reduceAdd, Nat.reduceSub, Nat.reduceMul, Nat.reduceBEq, beq_self_eq_true, Option.some.injEq, exists_eq']
    exact ⟨⟨by omega, by omega⟩, .inr hk⟩

theorem clone66 (xs : List AVal) (hx : xs.length ≤ 1000000) (hp : xs.all (plainL 8) = true) : Ret Tryz.prog 66 [.list false 5 xs] (.list true 5 xs) := by
  refine Ret.of 9 ?_
  cases xs with
  | nil =>
    refine callG_enter Tryz.func66 rfl Tryz.ntmps66 res66 (Nat.le_of_ble_eq_true rfl) fun bs h0 => ?_
    refine RC_sound (ps := ps66) mixed _ _ _ _ (by kernel_rfl) ?_
    simp (implicitDefEqProofs := false) only [go_sem, ↓reduceIte, Nat.reduceEqDiff, Nat.reduceLeDiff, Nat.reduceLT, Nat.reduceAdd, Nat.reduceSub, Nat.reduceMul, Nat.reduceBEq, beq_self_eq_true, Option.some.injEq, exists_eq']
    exact ⟨.nil, .refl _⟩
  | cons x xs =>
    simp only [List.length_cons] at hx
    refine callG_enter Tryz.func66 rfl Tryz.ntmps66 res66 (Nat.le_of_ble_eq_true rfl) fun bs h0 => ?_
    refine RC_sound (ps := ps66) mixed _ _ _ _ (by kernel_rfl) ?_
    simp (implicitDefEqProofs := false) only [go_sem, ↓reduceIte, Nat.reduceEqDiff, Nat.reduceLeDiff, Nat.reduceLT, Nat.reduceAdd, Nat.reduceSub, Nat.reduceMul, Nat.reduceBEq, beq_self_eq_true, Option.some.injEq, exists_eq']
    exact ⟨⟨by omega, by omega⟩, clone_end _ hp⟩
theorem cloneR66 (tg : Bool) (xs : List AVal) (hx : xs.length ≤ 1000000) (σ : List AObj) (K : Kont) (hk : K (.row σ.length 1 0 xs.length) (σ ++ [.row 1 5 xs])) : CallG Tryz.prog 66 [.list tg 5 xs] σ K := by
  refine CallG.nilRow 5 1 (by decide) ?_
  cases xs with
  | nil =>
    refine callG_enter Tryz.func66 rfl Tryz.ntmps66 res66 (Nat.le_of_ble_eq_true rfl) fun bs h0 => ?_
    refine RC_sound (ps := ps66) mixed _ _ _ _ (by kernel_rfl) ?_
    simp (implicitDefEqProofs := false) only [go_sem, ↓reduceIte, Nat.reduceEqDiff, Nat.reduceLeDiff, Nat.reduceLT, Nat.reduceAdd, Nat.reduceSub, Nat.reduceMul, Nat.reduceBEq, beq_self_eq_true, Option.some.injEq, exists_eq']
    exact ⟨.inl hk, .inr hk⟩
  | cons x xs =>
    simp only [List.length_cons] at hx
    refine callG_enter Tryz.func66 rfl Tryz.ntmps66 res66 (Nat.le_of_ble_eq_true rfl) fun bs h0 => ?_
    refine RC_sound (ps := ps66) mixed _ _ _ _ (by kernel_rfl) ?_
    simp (implicitDefEqProofs := false) only [go_sem, ↓reduceIte, Nat.reduceEqDiff, Nat.reduceLeDiff, Nat.reduceLT, Nat.reduceAdd, Nat.reduceSub, Nat.reduceMul, Nat.reduceBEq, beq_self_eq_true, Option.some.injEq, exists_eq']
    exact ⟨⟨by omega, by omega⟩, .inr hk⟩

theorem clone67 (xs : List AVal) (hx : xs.length ≤ 1000000) (hp : xs.all (plainL 8) = true) : Ret Tryz.prog 67 [.list false 3 xs] (.list true 3 xs) := by
  refine Ret.of 9 ?_
  cases xs with
  | nil =>
    refine callG_enter Tryz.func67 rfl Tryz.ntmps67 res67 (Nat.le_of_ble_eq_true rfl) fun bs h0 => ?_
    refine RC_sound (ps := ps67) mixed _ _ _ _ (by kernel_rfl) ?_
    simp (implicitDefEqProofs := false) only [go_sem, ↓reduceIte, Nat.reduceEqDiff, Nat.reduceLeDiff, Nat.reduceLT, Nat.reduceAdd, Nat.reduceSub, Nat.reduceMul, Nat.reduceBEq, beq_self_eq_true, Option.some.injEq, exists_eq']
    exact ⟨.nil, .refl _⟩
  | cons x xs =>
    simp only [List.length_cons] at hx
    refine callG_enter Tryz.func67 rfl Tryz.ntmps67 res67 (Nat.le_of_ble_eq_true rfl) fun bs h0 => ?_
    refine RC_sound (ps := ps67) mixed _ _ _ _ (by kernel_rfl) ?_
    simp (implicitDefEqProofs := false) only [go_sem, ↓reduceIte, Nat.reduceEqDiff, Nat.reduceLeDiff, Nat.reduceLT, Nat.reduceAdd, Nat.reduceSub, Nat.reduceMul, Nat.reduceBEq, beq_self_eq_true, Option.some.injEq, exists_eq']
    exact ⟨⟨by omega, by omega⟩, clone_end _ hp⟩
theorem cloneR67 (tg : Bool) (xs : List AVal) (hx : xs.length ≤ 1000000) (σ : List AObj) (K : Kont) (hk : K (.row σ.length 1 0 xs.length) (σ ++ [.row 1 3 xs])) : CallG Tryz.prog 67 [.list tg 3 xs] σ K := by
  refine CallG.nilRow 3 1 (by decide) ?_
  cases xs with
  | nil =>
    refine callG_enter Tryz.func67 rfl Tryz.ntmps67 res67 (Nat.le_of_ble_eq_true rfl) fun bs h0 => ?_
    refine RC_sound (ps := ps67) mixed _ _ _ _ (by kernel_rfl) ?_
    simp (implicitDefEqProofs := false) only [go_sem, ↓reduceIte, Nat.reduceEqDiff, Nat.reduceLeDiff, Nat.reduceLT, Nat.reduceAdd, Nat.reduceSub, Nat.reduceMul, Nat.reduceBEq, beq_self_eq_true, Option.some.injEq, exists_eq']
    exact ⟨.inl hk, .inr hk⟩
  | cons x xs =>
    simp only [List.length_cons] at hx
    refine callG_enter Tryz.func67 rfl Tryz.ntmps67 res67 (Nat.le_of_ble_eq_true rfl) fun bs h0 => ?_
    refine RC_sound (ps := ps67) mixed _ _ _ _ (by kernel_rfl) ?_
    simp (implicitDefEqProofs := false) only [go_sem, ↓reduceIte, Nat.reduceEqDiff, Nat.reduceLeDiff, Nat.reduceLT, Nat.reduceAdd, Nat.reduceSub, Nat.reduceMul, Nat.reduceBEq, beq_self_eq_true, Option.some.injEq, exists_eq']
    exact ⟨⟨by omega, by omega⟩, .inr hk⟩

theorem clone68 (xs : List AVal) (hx : xs.length ≤ 1000000) (hp : xs.all (plainL 8) = true) : Ret Tryz.prog 68 [.list false 1 xs] (.list true 1 xs) := by
  refine Ret.of 9 ?_
  cases xs with
  | nil =>
    refine callG_enter Tryz.func68 rfl Tryz.ntmps68 res68 (Nat.le_of_ble_eq_true rfl) fun bs h0 => ?_
    refine RC_sound (ps := ps68) mixed _ _ _ _ (by kernel_rfl) ?_
    simp (implicitDefEqProofs := false) only [go_sem, ↓reduceIte, Nat.reduceEqDiff, Nat.reduceLeDiff, Nat.reduceLT, Nat.reduceAdd, Nat.reduceSub, Nat.reduceMul, Nat.reduceBEq, beq_self_eq_true, Option.some.injEq, exists_eq']
    exact ⟨.nil, .refl _⟩
  | cons x xs =>
    simp only [List.length_cons] at hx
    refine callG_enter Tryz.func68 rfl Tryz.ntmps68 res68 (Nat.le_of_ble_eq_true rfl) fun bs h0 => ?_
    refine RC_sound (ps := ps68) mixed _ _ _ _ (by kernel_rfl) ?_
    simp (implicitDefEqProofs := false) only [go_sem, ↓reduceIte, Nat.reduceEqDiff, Nat.reduceLeDiff, Nat.reduceLT, Nat.reduceAdd, Nat.reduceSub, Nat.reduceMul, Nat.reduceBEq, beq_self_eq_true, Option.some.injEq, exists_eq']
    exact ⟨⟨by omega, by omega⟩, clone_end _ hp⟩
theorem cloneR68 (tg : Bool) (xs : List AVal) (hx : xs.length ≤ 1000000) (σ : List AObj) (K : Kont) (hk : K (.row σ.length 1 0 xs.length) (σ ++ [.row 1 1 xs])) : CallG Tryz.prog 68 [.list tg 1 xs] σ K := by
  refine CallG.nilRow 1 1 (by decide) ?_
  cases xs with
  | nil =>
    refine callG_enter Tryz.func68 rfl Tryz.ntmps68 res68 (Nat.le_of_ble_eq_true rfl) fun bs h0 => ?_
    refine RC_sound (ps := ps68) mixed _ _ _ _ (by kernel_rfl) ?_
    simp (implicitDefEqProofs := false) only [go_sem, ↓reduceIte, Nat.reduceEqDiff, Nat.reduceLeDiff, Nat.reduceLT, Nat.reduceAdd, Nat.reduceSub, Nat.reduceMul, Nat.reduceBEq, beq_self_eq_true, Option.some.injEq, exists_eq']
    exact ⟨.inl hk, .inr hk⟩
  | cons x xs =>
    simp only [List.length_cons] at hx
    refine callG_enter Tryz.func68 rfl Tryz.ntmps68 res68 (Nat.le_of_ble_eq_true rfl) fun bs h0 => ?_
    refine RC_sound (ps := ps68) mixed _ _ _ _ (by kernel_rfl) ?_
    simp (implicitDefEqProofs := false) only [go_sem, ↓reduceIte, Nat.reduceEqDiff, Nat.reduceLeDiff, Nat.reduceLT, Nat.reduceAdd, Nat.reduceSub, Nat.reduceMul, Nat.reduceBEq, beq_self_eq_true, Option.some.injEq, exists_eq']
    exact ⟨⟨by omega, by omega⟩, .inr hk⟩

theorem clone69 (xs : List AVal) (hx : xs.length ≤ 1000000) (hp : xs.all (plainL 8) = true) : Ret Tryz.prog 69 [.list false 1 xs] (.list true 1 xs) := by
  refine Ret.of 9 ?_
  cases xs with
  | nil =>
    refine callG_enter Tryz.func69 rfl Tryz.ntmps69 res69 (Nat.le_of_ble_eq_true rfl) fun bs h0 => ?_
    refine RC_sound (ps := ps69) mixed _ _ _ _ (by kernel_rfl) ?_
    simp (implicitDefEqProofs := false) only [go_sem, ↓reduceIte, Nat.reduceEqDiff, Nat.reduceLeDiff, Nat.reduceLT, Nat.reduceAdd, Nat.reduceSub, Nat.reduceMul, Nat.reduceBEq, beq_self_eq_true, Option.some.injEq, exists_eq']
    exact ⟨.nil, .refl _⟩
  | cons x xs =>
    simp only [List.length_cons] at hx
    refine callG_enter Tryz.func69 rfl Tryz.ntmps69 res69 (Nat.le_of_ble_eq_true rfl) fun bs h0 => ?_
    refine RC_sound (ps := ps69) mixed _ _ _ _ (by kernel_rfl) ?_
    simp (implicitDefEqProofs := false) only [go_sem, ↓reduceIte, Nat.reduceEqDiff, Nat.reduceLeDiff, Nat.reduceLT, Nat.reduceAdd, Nat.reduceSub, Nat.reduceMul, Nat.reduceBEq, beq_self_eq_true, Option.some.injEq, exists_eq']
    exact ⟨⟨by omega, by omega⟩, clone_end _ hp⟩
theorem cloneR69 (tg : Bool) (xs : List AVal) (hx : xs.length ≤ 1000000) (σ : List AObj) (K : Kont) (hk : K (.row σ.length 1 0 xs.length) (σ ++ [.row 1 1 xs])) : CallG Tryz.prog 69 [.list tg 1 xs] σ K := by
  refine CallG.nilRow 1 1 (by decide) ?_
  cases xs with
  | nil =>
    refine callG_enter Tryz.func69 rfl Tryz.ntmps69 res69 (Nat.le_of_ble_eq_true rfl) fun bs h0 => ?_
    refine RC_sound (ps := ps69) mixed _ _ _ _ (by kernel_rfl) ?_
    simp (implicitDefEqProofs := false) only [go_sem, ↓reduceIte, Nat.reduceEqDiff, Nat.reduceLeDiff, Nat.reduceLT, Nat.reduceAdd, Nat.reduceSub, Nat.reduceMul, Nat.reduceBEq, beq_self_eq_true, Option.some.injEq, exists_eq']
    exact ⟨.inl hk, .inr hk⟩
  | cons x xs =>
    simp only [List.length_cons] at hx
    refine callG_enter Tryz.func69 rfl Tryz.ntmps69 res69 (Nat.le_of_ble_eq_true rfl) fun bs h0 => ?_
    refine RC_sound (ps := ps69) mixed _ _ _ _ (by kernel_rfl) ?_
    simp (implicitDefEqProofs := false) only [go_sem, ↓reduceIte, Nat.reduceEqDiff, Nat.reduceLeDiff, Nat.reduceLT, Nat.reduceAdd, Nat.reduceSub, Nat.reduceMul, Nat.reduceBEq, beq_self_eq_true, Option.some.injEq, exists_eq']
    exact ⟨⟨by omega, by omega⟩, .inr hk⟩

theorem clone70 (xs : List AVal) (hx : xs.length ≤ 1000000) (hp : xs.all (plainL 8) = true) : Ret Tryz.prog 70 [.list false 4 xs] (.list true 4 xs) := by
  refine Ret.of 9 ?_
  cases xs with
  | nil =>
    refine callG_enter Tryz.func70 rfl Tryz.ntmps70 res70 (Nat.le_of_ble_eq_true rfl) fun bs h0 => ?_
    refine RC_sound (ps := ps70) mixed _ _ _ _ (by kernel_rfl) ?_
    simp (implicitDefEqProofs := false) only [go_sem, ↓reduceIte, Nat.reduceEqDiff, Nat.reduceLeDiff, Nat.reduceLT, Nat.reduceAdd, Nat.reduceSub, Nat.reduceMul, Nat.reduceBEq, beq_self_eq_true, Option.some.injEq, exists_eq']
    exact ⟨.nil, .refl _⟩
  | cons x xs =>
    simp only [List.length_cons] at hx
    refine callG_enter Tryz.func70 rfl Tryz.ntmps70 res70 (Nat.le_of_ble_eq_true rfl) fun bs h0 => ?_
    refine RC_sound (ps := ps70) mixed _ _ _ _ (by kernel_rfl) ?_
    simp (implicitDefEqProofs := false) only [go_sem, ↓reduceIte, Nat.reduceEqDiff, Nat.reduceLeDiff, Nat.reduceLT, Nat.reduceAdd, Nat.reduceSub, Nat.reduceMul, Nat.reduceBEq, beq_self_eq_true, Option.some.injEq, exists_eq']
    exact ⟨⟨by omega, by omega⟩, clone_end _ hp⟩
theorem cloneR70 (tg : Bool) (xs : List AVal) (hx : xs.length ≤ 1000000) (σ : List AObj) (K : Kont) (hk : K (.row σ.length 1 0 xs.length) (σ ++ [.row 1 4 xs])) : CallG Tryz.prog 70 [.list tg 4 xs] σ K := by
  refine CallG.nilRow 4 1 (by decide) ?_
  cases xs with
  | nil =>
    refine callG_enter Tryz.func70 rfl Tryz.ntmps70 res70 (Nat.le_of_ble_eq_true rfl) fun bs h0 => ?_
    refine RC_sound (ps := ps70) mixed _ _ _ _ (by kernel_rfl) ?_
    simp (implicitDefEqProofs := false) only [go_sem, ↓reduceIte, Nat.reduceEqDiff, Nat.reduceLeDiff, Nat.reduceLT, Nat.reduceAdd, Nat.reduceSub, Nat.reduceMul, Nat.reduceBEq, beq_self_eq_true, Option.some.injEq, exists_eq']
    exact ⟨.inl hk, .inr hk⟩
  | cons x xs =>
    simp only [List.length_cons] at hx
    refine callG_enter Tryz.func70 rfl Tryz.ntmps70 res70 (Nat.le_of_ble_eq_true rfl) fun bs h0 => ?_
    refine RC_sound (ps := ps70) mixed _ _ _ _ (by kernel_rfl) ?_
    simp (implicitDefEqProofs := false) only [go_sem, ↓reduceIte, Nat.reduceEqDiff, Nat.reduceLeDiff, Nat.reduceLT, Nat.reduceAdd, Nat.reduceSub, Nat.reduceMul, Nat.reduceBEq, beq_self_eq_true, Option.some.injEq, exists_eq']
    exact ⟨⟨by omega, by omega⟩, .inr hk⟩

theorem clone71 (xs : List AVal) (hx : xs.length ≤ 1000000) (hp : xs.all (plainL 8) = true) : Ret Tryz.prog 71 [.list false 2 xs] (.list true 2 xs) := by
  refine Ret.of 9 ?_
  cases xs with
  | nil =>
    refine callG_enter Tryz.func71 rfl Tryz.ntmps71 res71 (Nat.le_of_ble_eq_true rfl) fun bs h0 => ?_
    refine RC_sound (ps := ps71) mixed _ _ _ _ (by kernel_rfl) ?_
    simp (implicitDefEqProofs := false) only [go_sem, ↓reduceIte, Nat.reduceEqDiff, Nat.reduceLeDiff, Nat.reduceLT, Nat.reduceAdd, Nat.reduceSub, Nat.reduceMul, Nat.reduceBEq, beq_self_eq_true, Option.some.injEq, exists_eq']
    exact ⟨.nil, .refl _⟩
  | cons x xs =>
    simp only [List.length_cons] at hx
    refine callG_enter Tryz.func71 rfl Tryz.ntmps71 res71 (Nat.le_of_ble_eq_true rfl) fun bs h0 => ?_
    refine RC_sound (ps := ps71) mixed _ _ _ _ (by kernel_rfl) ?_
    simp (implicitDefEqProofs := false) only [go_sem, ↓reduceIte, Nat.reduceEqDiff, Nat.reduceLeDiff, Nat.reduceLT, Nat.reduceAdd, Nat.reduceSub, Nat.reduceMul, Nat.reduceBEq, beq_self_eq_true, Option.some.injEq, exists_eq']
    exact ⟨⟨by omega, by omega⟩, clone_end _ hp⟩
theorem cloneR71 (tg : Bool) (xs : List AVal) (hx : xs.length ≤ 1000000) (σ : List AObj) (K : Kont) (hk : K (.row σ.length 1 0 xs.length) (σ ++ [.row 1 2 xs])) : CallG Tryz.prog 71 [.list tg 2 xs] σ K := by
  refine CallG.nilRow 2 1 (by decide) ?_
  cases xs with
  | nil =>
    refine callG_enter Tryz.func71 rfl Tryz.ntmps71 res71 (Nat.le_of_ble_eq_true rfl) fun bs h0 => ?_
    refine RC_sound (ps := ps71) mixed _ _ _ _ (by kernel_rfl) ?_
    simp (implicitDefEqProofs := false) only [go_sem, ↓reduceIte, Nat.reduceEqDiff, Nat.reduceLeDiff, Nat.reduceLT, Nat.reduceAdd, Nat.reduceSub, Nat.reduceMul, Nat.reduceBEq, beq_self_eq_true, Option.some.injEq, exists_eq']
    exact ⟨.inl hk, .inr hk⟩
  | cons x xs =>
    simp only [List.length_cons] at hx
    refine callG_enter Tryz.func71 rfl Tryz.ntmps71 res71 (Nat.le_of_ble_eq_true rfl) fun bs h0 => ?_
    refine RC_sound (ps := ps71) mixed _ _ _ _ (by kernel_rfl) ?_
    simp (implicitDefEqProofs := false) only [go_sem, ↓reduceIte, Nat.reduceEqDiff, Nat.reduceLeDiff, Nat.reduceLT, Nat.reduceAdd, Nat.reduceSub, Nat.reduceMul, Nat.reduceBEq, beq_self_eq_true, Option.some.injEq, exists_eq']
    exact ⟨⟨by omega, by omega⟩, .inr hk⟩

end Go.Proofs.YtphjobnijjkchaaGreatDoor

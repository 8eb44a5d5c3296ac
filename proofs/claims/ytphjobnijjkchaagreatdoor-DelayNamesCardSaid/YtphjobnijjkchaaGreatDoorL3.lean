/- The abstract layer, text 3 of 5: regions in text order and in open order, plans. Generic over the program. -/
import Derived.Test.YtphjobnijjkchaaGreatDoorL2

/- The abstract layer, part 19: what is no longer looked at goes: rows that are kept get new numbers, rows within rows become lists. -/
namespace Go.Abs
open Go Go.RowKit

/-- Where a kept slot goes. -/
def slot (m : Nat) (picks : List Nat) (l : Nat) : Option Nat :=
  if l < m then some l else (picks.idxOf? l).map (m + ·)

def anyLike : AVal → AVal
  | .agg cs => .agg (cs.map fun _ => .any)
  | _ => .any

/-- A value as it is seen behind the clearing: slots below m stay, picked ones are numbered on from m, other rows are lists. -/
def gcv : Nat → Nat → List Nat → List AObj → AVal → AVal
  | 0, _, _, _, a => anyLike a
  | n + 1, m, picks, σ, a => match a with
    | .any => .any
    | .val v => .val v
    | .list tg sz xs => .list tg sz (xs.map (gcv n m picks σ))
    | .agg cs => .agg (cs.map (gcv n m picks σ))
    | .tuple vs => .tuple (vs.map (gcv n m picks σ))
    | .func f a b => .func f (a.map (gcv n m picks σ)) (b.map (gcv n m picks σ))
    | .iface t v => .iface t (gcv n m picks σ v)
    | .eptr cs j => .eptr (cs.map (gcv n m picks σ)) j
    | .row l ver off len => if l < m then .row l ver off len else match σ[l]? with
      | some (.row v sz xs) => match picks.idxOf? l with
        | some i => if ver = v then .row (m + i) 0 off len else .any
        | none => if ver = v ∧ off + len ≤ xs.length then .list true sz (((xs.drop off).take len).map (gcv n m picks σ)) else .any
      | _ => .any
    | .ptr l ver i j => if l < m then .ptr l ver i j else match σ[l]? with
      | some (.row v _ _) => match picks.idxOf? l with
        | some k => if ver = v then .ptr (m + k) 0 i j else .any
        | none => .any
      | _ => .any
    | .map l => if l < m then .map l else match σ[l]? with
      | some (.map _ _) => match picks.idxOf? l with
        | some k => .map (m + k)
        | none => .any
      | _ => .any

def gco (n m : Nat) (picks : List Nat) (σ : List AObj) (old : Bool) : AObj → AObj
  | .row ver sz xs => .row (if old then ver else 0) sz (xs.map (gcv n m picks σ))
  | .map es ck => .map (es.map fun p => (gcv n m picks σ p.1, gcv n m picks σ p.2)) ck
  | .gone => .gone

def gcs (n m : Nat) (picks : List Nat) (σ : List AObj) : List AObj :=
  (σ.take m).map (gco n m picks σ true) ++ picks.map fun l => match σ[l]? with | some o => gco n m picks σ false o | none => .gone

theorem anyLike_cells (a : AVal) : (anyLike a).cells.length = a.cells.length := by
  cases a <;> simp [anyLike, AVal.cells]

theorem gcv_cells : ∀ (n m : Nat) (picks : List Nat) (σ : List AObj) (a : AVal), (gcv n m picks σ a).cells.length = a.cells.length := by
  intro n
  cases n with
  | zero => intro m picks σ a; exact anyLike_cells a
  | succ n =>
    intro m picks σ a
    cases a with
    | agg cs => simp [gcv, AVal.cells]
    | row l ver off len =>
      simp only [gcv]
      split
      · rfl
      · split
        · split
          · split <;> rfl
          · split <;> rfl
        · rfl
    | ptr l ver i j =>
      simp only [gcv]
      split
      · rfl
      · split
        · split
          · split <;> rfl
          · rfl
        · rfl
    | map l =>
      simp only [gcv]
      split
      · rfl
      · split
        · split <;> rfl
        · rfl
    | _ => rfl

theorem getD_map_gcv {cs : List AVal} {f : AVal → AVal} {k : Nat} (h : k < cs.length) : (cs.map f).getD k .any = f (cs.getD k .any) := by
  simp [List.getD_eq_getElem?_getD, h]

/-- The map of blocks behind the clearing. -/
def gcB (B : BMap) (m : Nat) (picks : List Nat) (σ : List AObj) : BMap := fun l ver =>
  if l < m then B l ver else match picks[l - m]? with
    | some l0 => if ver = 0 then (match σ[l0]? with
      | some (.row v _ _) => B l0 v
      | some (.map _ _) => B l0 0
      | _ => none) else none
    | none => none

/-- The blocks that nobody writes behind the clearing: the rows that were not kept are such. -/
def gcI (I : Nat → Prop) (B : BMap) (m : Nat) (picks : List Nat) (σ : List AObj) : Nat → Prop := fun b =>
  I b ∨ ∃ l ver sz xs, m ≤ l ∧ l ∉ picks ∧ σ[l]? = some (.row ver sz xs) ∧ Cur B σ l = some b

theorem idx_get {picks : List Nat} {l i : Nat} (h : picks.idxOf? l = some i) : picks[i]? = some l ∧ i < picks.length := by
  have h1 := List.idxOf?_eq_some_iff.1 h
  obtain ⟨h1, h2, _⟩ := h1
  exact ⟨by rw [List.getElem?_eq_getElem h1]; simpa using h2, h1⟩

theorem gcB_pick {B : BMap} {m : Nat} {picks : List Nat} {σ : List AObj} {i l : Nat} (h : picks[i]? = some l) : gcB B m picks σ (m + i) 0 = match σ[l]? with
      | some (.row v _ _) => B l v
      | some (.map _ _) => B l 0
      | _ => none := by
  unfold gcB
  rw [if_neg (by omega), Nat.add_sub_cancel_left, h]
  simp

theorem RV.gc {B : BMap} {I : Nat → Prop} {bs : Nat} {σ : List AObj} {w : World} {m : Nat} {picks : List Nat} (hs : SR B I bs σ w) : ∀ (n : Nat) {a : AVal} {v : Value}, RV B I bs w a v →
    RV (gcB B m picks σ) (gcI I B m picks σ) bs w (gcv n m picks σ a) v := by
  have hany : ∀ {a : AVal} {v : Value}, RV B I bs w a v → RV (gcB B m picks σ) (gcI I B m picks σ) bs w (anyLike a) v := by
    intro a v h
    cases h with
    | agg hl hc =>
      refine .agg (by simpa using hl) fun k hk => ?_
      simp only [List.length_map] at hk
      rw [getD_map_gcv hk]
      exact .any _
    | _ => exact .any _
  intro n
  induction n using Nat.strongRecOn with
  | _ n ih =>
  cases n with
  | zero => intro a v h; exact hany h
  | succ n =>
    have ihn : ∀ {a : AVal} {v : Value}, RV B I bs w a v → RV (gcB B m picks σ) (gcI I B m picks σ) bs w (gcv n m picks σ a) v := fun h => ih n (by omega) h
    have elems : ∀ {x : AVal} {sz j : Nat} {c : Value}, x.cells.length = sz → j < sz → RV B I bs w (x.cells.getD j .any) c → RV (gcB B m picks σ) (gcI I B m picks σ) bs w ((gcv n m picks σ x).cells.getD j .any) c := by
      intro x sz j c hcl hj hrv
      cases n with
      | zero =>
        cases x with
        | agg cs' =>
          simp only [gcv, anyLike, AVal.cells] at hcl ⊢
          rw [getD_map_gcv (by omega)]
          exact .any _
        | _ =>
          simp only [AVal.cells, List.length_cons, List.length_nil] at hcl
          have : j = 0 := by omega
          subst this
          exact .any _
      | succ n =>
        have one : x.cells = [x] → (gcv (n + 1) m picks σ x).cells = [gcv (n + 1) m picks σ x] → RV (gcB B m picks σ) (gcI I B m picks σ) bs w ((gcv (n + 1) m picks σ x).cells.getD j .any) c := by
          intro e1 e2
          rw [e1] at hcl hrv
          simp only [List.length_cons, List.length_nil] at hcl
          have : j = 0 := by omega
          subst this
          rw [e2]
          exact ihn hrv
        cases x with
        | agg cs' =>
          simp only [gcv, AVal.cells] at hcl hrv ⊢
          rw [getD_map_gcv (by omega)]
          exact ih n (by omega) hrv
        | row l ver off len =>
          refine one rfl ?_
          simp only [gcv]
          split
          · rfl
          · split
            · split
              · split <;> rfl
              · split <;> rfl
            · rfl
        | ptr l ver i j =>
          refine one rfl ?_
          simp only [gcv]
          split
          · rfl
          · split
            · split
              · split <;> rfl
              · rfl
            · rfl
        | map l =>
          refine one rfl ?_
          simp only [gcv]
          split
          · rfl
          · split
            · split <;> rfl
            · rfl
        | _ => exact one rfl rfl
    intro a v h
    have many : ∀ {cs : List AVal} {vs : Array Value}, cs.length = vs.size → (∀ k, k < cs.length → RV B I bs w (cs.getD k .any) (vs.getD k undef)) →
        (cs.map (gcv n m picks σ)).length = vs.size ∧ ∀ k, k < (cs.map (gcv n m picks σ)).length → RV (gcB B m picks σ) (gcI I B m picks σ) bs w ((cs.map (gcv n m picks σ)).getD k .any) (vs.getD k undef) := by
      intro cs vs hl hc
      refine ⟨by simpa using hl, fun k hk => ?_⟩
      simp only [List.length_map] at hk
      rw [getD_map_gcv hk]
      exact ihn (hc k hk)
    have rows : ∀ {l ver sz : Nat} {xs : List AVal} {x : BI}, σ[l]? = some (.row ver sz xs) → B l ver = some x → RowOk B I bs w l ver sz xs x := by
      intro l ver sz xs x hσ hB
      obtain ⟨y, hy⟩ := hs.row _ _ _ _ hσ
      obtain rfl : x = y := Option.some.inj (hB.symm.trans hy.at_)
      exact hy
    cases h with
    | any v => exact .any v
    | val v => exact .val v
    | nil tg sz a cap => exact .nil tg sz a cap
    | list hI hN hsz hl hb ho hc h1 hcap =>
      rename_i tg sz xs b o cap cs T fr
      simp only [gcv]
      have hlen : (xs.map (gcv n m picks σ)).length = xs.length := by simp
      have := RV.list (B := gcB B m picks σ) (I := gcI I B m picks σ) (bs := bs) (w := w) (tg := tg) (sz := sz) (xs := xs.map (gcv n m picks σ)) (b := b) (o := o) (cap := cap) (.inl hI) hN hsz
        (by
          intro y hy
          obtain ⟨x, hx, rfl⟩ := List.mem_map.1 hy
          rw [gcv_cells]; exact hl x hx) hb (by rw [hlen]; exact ho)
        (by
          intro i j hi hj
          rw [hlen] at hi
          rw [getD_map_gcv hi]
          exact elems (hl _ (mem_getD hi)) hj (hc i j hi hj))
        (by rw [hlen]; exact h1) (by rw [hlen]; exact hcap)
      rw [hlen] at this
      exact this
    | agg hl hc =>
      obtain ⟨h1, h2⟩ := many hl hc
      exact .agg h1 h2
    | tuple hl hc =>
      obtain ⟨h1, h2⟩ := many hl hc
      exact .tuple h1 h2
    | func g1 g2 g3 g4 =>
      obtain ⟨h1, h2⟩ := many g1 g3
      obtain ⟨h3, h4⟩ := many g2 g4
      exact .func h1 h3 h2 h4
    | iface h => exact .iface (ihn h)
    | eptr hI hb ho hc =>
      rename_i cs j b o vs T fr
      simp only [gcv]
      refine .eptr (.inl hI) hb (by simpa using ho) fun k hk => ?_
      simp only [List.length_map] at hk
      rw [getD_map_gcv hk]
      exact ihn (hc k hk)
    | row hB hr ho =>
      rename_i l ver off len x
      simp only [gcv]
      split
      · rename_i hlm
        exact .row (by unfold gcB; rw [if_pos hlm]; exact hB) hr ho
      · rename_i hlm
        split
        · rename_i v sz xs hσ
          split
          · rename_i i hi
            split
            · rename_i e
              subst e
              obtain ⟨p1, _⟩ := idx_get hi
              exact .row (by rw [gcB_pick p1, hσ]; exact hB) hr ho
            · exact .any _
          · rename_i hi
            split
            · rename_i e
              obtain ⟨rfl, hle⟩ := e
              have hy := rows hσ hB
              obtain ⟨cs, T, hb, hcs, hc⟩ := hy.real hr
              have hfit := hy.fits
              have hlen : (((xs.drop off).take len).map (gcv n m picks σ)).length = len := by simp; omega
              have hmul : off * sz + len * sz ≤ cs.size := by rw [hcs, ← Nat.add_mul]; exact Nat.mul_le_mul_right _ (by omega)
              have hnp : l ∉ picks := fun hm => by
                have := List.idxOf?_eq_none_iff.1 hi
                exact this hm
              have := RV.list (B := gcB B m picks σ) (I := gcI I B m picks σ) (bs := bs) (w := w) (tg := true) (sz := sz) (xs := ((xs.drop off).take len).map (gcv n m picks σ)) (b := x.b) (o := off * sz) (cap := x.C - off) (T := T) (fr := (0, 0))
                (.inr ⟨l, ver, sz, xs, by omega, hnp, hσ, hy.cur hσ hr⟩) (fun _ => hs.cbs _ _ (hy.cur hσ hr)) hy.pos
                (by
                  intro y hym
                  obtain ⟨z, hz, rfl⟩ := List.mem_map.1 hym
                  rw [gcv_cells]; exact hy.each z (List.mem_of_mem_drop (List.mem_of_mem_take hz))) hb (by rw [hlen]; exact hmul)
                (by
                  intro i j hi' hj
                  rw [hlen] at hi'
                  rw [getD_map_gcv (by simp; omega), getD_drop_take hi', ← Nat.add_mul]
                  exact elems (hy.each _ (mem_getD (by omega))) hj (hc _ _ (by omega) hj).1)
                (by
                  intro i j hi' hj
                  rw [hlen] at hi'
                  rw [← Nat.add_mul]
                  exact (hc _ _ (by omega) hj).2) (by rw [hlen]; omega)
              rw [hlen] at this
              rw [hy.hsz]
              exact this
            · exact .any _
        · exact .any _
    | rowEnd hB hr ho hc =>
      rename_i l ver off cap x a
      simp only [gcv]
      split
      · rename_i hlm
        exact .rowEnd (by unfold gcB; rw [if_pos hlm]; exact hB) hr ho hc
      · split
        · rename_i v sz xs hσ
          split
          · rename_i i hi
            split
            · rename_i e
              subst e
              obtain ⟨p1, _⟩ := idx_get hi
              exact .rowEnd (by rw [gcB_pick p1, hσ]; exact hB) hr ho hc
            · exact .any _
          · split
            · rw [List.take_zero, List.map_nil]; exact .nil ..
            · exact .any _
        · exact .any _
    | rowNil hB hr =>
      rename_i l ver x a
      simp only [gcv]
      split
      · rename_i hlm
        exact .rowNil (by unfold gcB; rw [if_pos hlm]; exact hB) hr
      · split
        · rename_i v sz xs hσ
          split
          · rename_i i hi
            split
            · rename_i e
              subst e
              obtain ⟨p1, _⟩ := idx_get hi
              exact .rowNil (by rw [gcB_pick p1, hσ]; exact hB) hr
            · exact .any _
          · split
            · rw [List.take_zero, List.map_nil]; exact .nil ..
            · exact .any _
        · exact .any _
    | ptr hB hr =>
      rename_i l ver i j x
      simp only [gcv]
      split
      · rename_i hlm
        exact .ptr (by unfold gcB; rw [if_pos hlm]; exact hB) hr
      · split
        · rename_i v sz xs hσ
          split
          · rename_i k hk
            split
            · rename_i e
              subst e
              obtain ⟨p1, _⟩ := idx_get hk
              exact .ptr (by rw [gcB_pick p1, hσ]; exact hB) hr
            · exact .any _
          · exact .any _
        · exact .any _
    | map hB =>
      rename_i l x
      simp only [gcv]
      split
      · rename_i hlm
        exact .map (by unfold gcB; rw [if_pos hlm]; exact hB)
      · split
        · rename_i es ck hσ
          split
          · rename_i k hk
            obtain ⟨p1, _⟩ := idx_get hk
            exact .map (by rw [gcB_pick p1, hσ]; exact hB)
          · exact .any _
        · exact .any _

end Go.Abs

/- The abstract layer, part 20: the store behind the clearing. -/
namespace Go.Abs
open Go Go.RowKit

theorem gcv_single {n m : Nat} {picks : List Nat} {σ : List AObj} {x : AVal} (h : ∀ cs, x ≠ .agg cs) : (gcv n m picks σ x).cells = [gcv n m picks σ x] := by
  cases n with
  | zero => cases x <;> first | rfl | exact absurd rfl (h _)
  | succ n =>
    cases x with
    | agg cs => exact absurd rfl (h cs)
    | row l ver off len =>
      simp only [gcv]
      split
      · rfl
      · split
        · split
          · split <;> rfl
          · split <;> rfl
        · rfl
    | ptr l ver i j =>
      simp only [gcv]
      split
      · rfl
      · split
        · split
          · split <;> rfl
          · rfl
        · rfl
    | map l =>
      simp only [gcv]
      split
      · rfl
      · split
        · split <;> rfl
        · rfl
    | _ => rfl

theorem RV.gc_cell {B : BMap} {I : Nat → Prop} {bs : Nat} {σ : List AObj} {w : World} {m : Nat} {picks : List Nat} (hs : SR B I bs σ w) {n : Nat} {x : AVal} {sz j : Nat} {c : Value} (hcl : x.cells.length = sz) (hj : j < sz)
    (hrv : RV B I bs w (x.cells.getD j .any) c) : RV (gcB B m picks σ) (gcI I B m picks σ) bs w ((gcv n m picks σ x).cells.getD j .any) c := by
  by_cases ha : ∃ cs, x = .agg cs
  · obtain ⟨cs, rfl⟩ := ha
    cases n with
    | zero =>
      simp only [gcv, anyLike, AVal.cells] at hcl ⊢
      rw [getD_map_gcv (by omega)]
      exact .any _
    | succ n =>
      simp only [gcv, AVal.cells] at hcl hrv ⊢
      rw [getD_map_gcv (by omega)]
      exact RV.gc hs n hrv
  · have hx : ∀ cs, x ≠ .agg cs := fun cs e => ha ⟨cs, e⟩
    have e1 : x.cells = [x] := by cases x <;> first | rfl | exact absurd rfl (hx _)
    rw [e1] at hcl hrv
    simp only [List.length_cons, List.length_nil] at hcl
    have : j = 0 := by omega
    subst this
    rw [gcv_single hx]
    exact RV.gc hs n hrv

theorem gcs_low {n m : Nat} {picks : List Nat} {σ : List AObj} {l : Nat} (hm : m ≤ σ.length) (hl : l < m) : (gcs n m picks σ)[l]? = (σ[l]?).map (gco n m picks σ true) := by
  have h1 : (σ.take m).length = m := by simp; omega
  rw [gcs, List.getElem?_append_left (by simp; omega), List.getElem?_map, List.getElem?_take, if_pos hl]

theorem gcs_high {n m : Nat} {picks : List Nat} {σ : List AObj} {l : Nat} (hm : m ≤ σ.length) (hl : m ≤ l) :
    (gcs n m picks σ)[l]? = (picks[l - m]?).map fun l0 => match σ[l0]? with | some o => gco n m picks σ false o | none => .gone := by
  have h1 : (σ.take m).length = m := by simp; omega
  rw [gcs, List.getElem?_append_right (by simp; omega), List.getElem?_map]
  congr 2
  simp; omega

/-- The slot that a slot behind the clearing was. -/
def orig (m : Nat) (picks : List Nat) (l : Nat) : Option Nat := if l < m then some l else picks[l - m]?

theorem cur_gc {B : BMap} {σ : List AObj} {n m : Nat} {picks : List Nat} (hm : m ≤ σ.length) {l b : Nat} (h : Cur (gcB B m picks σ) (gcs n m picks σ) l = some b) : ∃ l0, orig m picks l = some l0 ∧ Cur B σ l0 = some b := by
  unfold orig
  by_cases hl : l < m
  · refine ⟨l, by rw [if_pos hl], ?_⟩
    unfold Cur at h ⊢
    rw [gcs_low hm hl] at h
    have e : ∀ v, gcB B m picks σ l v = B l v := fun v => by unfold gcB; rw [if_pos hl]
    cases ho : σ[l]? with
    | none => rw [ho] at h; cases h
    | some o => rw [ho] at h; cases o <;> first | (simp [gco] at h; done) | simpa [gco, e] using h
  · rw [if_neg hl]
    unfold Cur at h
    rw [gcs_high hm (by omega)] at h
    cases hp : picks[l - m]? with
    | none => rw [hp] at h; cases h
    | some l0 =>
      refine ⟨l0, rfl, ?_⟩
      rw [hp] at h
      simp only [Option.map_some] at h
      have e : gcB B m picks σ l 0 = match σ[l0]? with | some (.row v _ _) => B l0 v | some (.map _ _) => B l0 0 | _ => none := by
        have := gcB_pick (B := B) (m := m) (σ := σ) hp
        rwa [show m + (l - m) = l by omega] at this
      unfold Cur
      cases ho : σ[l0]? with
      | none => rw [ho] at h; cases h
      | some o =>
        rw [ho] at h e
        cases o with
        | row v sz xs => simp only [gco, Bool.false_eq_true, if_false] at h; simp only at e ⊢; rw [e] at h; exact h
        | map es ck => simp only [gco] at h; simp only at e ⊢; rw [e] at h; exact h
        | gone => cases h

theorem orig_inj {m : Nat} {picks : List Nat} (hnd : picks.Nodup) (hge : ∀ l ∈ picks, m ≤ l) {l l' l0 : Nat} (h : orig m picks l = some l0) (h' : orig m picks l' = some l0) : l = l' := by
  unfold orig at h h'
  split at h
  · rename_i h1
    simp only [Option.some.injEq] at h
    split at h'
    · simp only [Option.some.injEq] at h'; omega
    · have := hge l0 (List.mem_of_getElem? h'); omega
  · rename_i h1
    split at h'
    · rename_i h2
      simp only [Option.some.injEq] at h'
      have := hge l0 (List.mem_of_getElem? h); omega
    · rename_i h2
      obtain ⟨a1, a2⟩ := List.getElem?_eq_some_iff.1 h
      obtain ⟨b1, b2⟩ := List.getElem?_eq_some_iff.1 h'
      have hne := List.pairwise_iff_getElem.1 hnd
      rcases Nat.lt_trichotomy (l - m) (l' - m) with h3 | h3 | h3
      · exact absurd (a2.trans b2.symm) (hne _ _ a1 b1 h3)
      · omega
      · exact absurd (b2.trans a2.symm) (hne _ _ b1 a1 h3)

theorem SR.gc {B : BMap} {I : Nat → Prop} {bs : Nat} {σ : List AObj} {w : World} {m : Nat} {picks : List Nat} (hs : SR B I bs σ w) (n : Nat) (hm : m ≤ σ.length) (hnd : picks.Nodup) (hge : ∀ l ∈ picks, m ≤ l) :
    SR (gcB B m picks σ) (gcI I B m picks σ) bs (gcs n m picks σ) w := by
  have low : ∀ {l : Nat}, l < m → ∀ v, gcB B m picks σ l v = B l v := fun hl v => by unfold gcB; rw [if_pos hl]
  have rowOk : ∀ {l0 l v v' sz : Nat} {xs : List AVal}, σ[l0]? = some (.row v sz xs) → gcB B m picks σ l v' = B l0 v → ∃ x, RowOk (gcB B m picks σ) (gcI I B m picks σ) bs w l v' sz (xs.map (gcv n m picks σ)) x := by
    intro l0 l v v' sz xs hσ hB
    obtain ⟨x, hx⟩ := hs.row _ _ _ _ hσ
    refine ⟨x, hB.trans hx.at_, hx.hsz, hx.pos, by simpa using hx.fits, fun y hy => ?_, hx.virt, fun hr => ?_⟩
    · obtain ⟨z, hz, rfl⟩ := List.mem_map.1 hy
      rw [gcv_cells]; exact hx.each z hz
    · obtain ⟨cs, T, h1, h2, h3⟩ := hx.real hr
      refine ⟨cs, T, h1, h2, fun i j hi hj => ?_⟩
      simp only [List.length_map] at hi
      rw [getD_map_gcv hi]
      exact ⟨RV.gc_cell hs (hx.each _ (mem_getD hi)) hj (h3 i j hi hj).1, (h3 i j hi hj).2⟩
  have mapOk : ∀ {l0 l : Nat} {es : List (AVal × AVal)} {ck : MK}, σ[l0]? = some (.map es ck) → gcB B m picks σ l 0 = B l0 0 → ∃ x, MapOk (gcB B m picks σ) (gcI I B m picks σ) bs w l (es.map fun p => (gcv n m picks σ p.1, gcv n m picks σ p.2)) ck x := by
    intro l0 l es ck hσ hB
    obtain ⟨x, hx⟩ := hs.map _ _ _ hσ
    obtain ⟨o, ms, h1, h4, h2, h3⟩ := hx.map
    refine ⟨x, hB.trans hx.at_, o, ms, h1, h4, by simpa using h2, fun i hi hi' => ?_⟩
    simp only [List.length_map] at hi
    obtain ⟨g1, g2⟩ := h3 i hi hi'
    simp only [List.getElem_map]
    exact ⟨RV.gc hs n g1, RV.gc hs n g2⟩
  have hiB : ∀ {l i l0 : Nat}, m ≤ l → picks[l - m]? = some l0 → gcB B m picks σ l 0 = match σ[l0]? with | some (.row v _ _) => B l0 v | some (.map _ _) => B l0 0 | _ => none := by
    intro l i l0 hl hp
    have := gcB_pick (B := B) (m := m) (σ := σ) hp
    rwa [show m + (l - m) = l by omega] at this
  refine { row := ?_, map := ?_, dead := ?_, sep := ?_, imm := ?_, lt := ?_, icells := ?_, gl := hs.gl.mono (fun _ h => .inl h) (fun _ _ => rfl), vlt := ?_, bsle := hs.bsle, cbs := ?_, vmono := ?_ }
  · intro l ver sz xs' hl'
    by_cases hl : l < m
    · rw [gcs_low hm hl] at hl'
      cases ho : σ[l]? with
      | none => rw [ho] at hl'; cases hl'
      | some o =>
        rw [ho] at hl'
        cases o <;> simp only [Option.map_some, gco, Option.some.injEq, AObj.row.injEq, reduceCtorEq, if_true] at hl'
        obtain ⟨rfl, rfl, rfl⟩ := hl'
        exact rowOk ho (low hl _)
    · rw [gcs_high hm (by omega)] at hl'
      cases hp : picks[l - m]? with
      | none => rw [hp] at hl'; cases hl'
      | some l0 =>
        rw [hp] at hl'
        simp only [Option.map_some] at hl'
        have e := hiB (i := 0) (by omega) hp
        cases ho : σ[l0]? with
        | none => rw [ho] at hl'; cases hl'
        | some o =>
          rw [ho] at hl' e
          cases o <;> simp only [gco, Option.some.injEq, AObj.row.injEq, reduceCtorEq, Bool.false_eq_true, if_false] at hl'
          obtain ⟨rfl, rfl, rfl⟩ := hl'
          exact rowOk ho e
  · intro l es' ck hl'
    by_cases hl : l < m
    · rw [gcs_low hm hl] at hl'
      cases ho : σ[l]? with
      | none => rw [ho] at hl'; cases hl'
      | some o =>
        rw [ho] at hl'
        cases o <;> simp only [Option.map_some, gco, Option.some.injEq, AObj.map.injEq, reduceCtorEq] at hl'
        obtain ⟨rfl, rfl⟩ := hl'
        exact mapOk ho (low hl _)
    · rw [gcs_high hm (by omega)] at hl'
      cases hp : picks[l - m]? with
      | none => rw [hp] at hl'; cases hl'
      | some l0 =>
        rw [hp] at hl'
        simp only [Option.map_some] at hl'
        have e := hiB (i := 0) (by omega) hp
        cases ho : σ[l0]? with
        | none => rw [ho] at hl'; cases hl'
        | some o =>
          rw [ho] at hl' e
          cases o <;> simp only [gco, Option.some.injEq, AObj.map.injEq, reduceCtorEq] at hl'
          obtain ⟨rfl, rfl⟩ := hl'
          exact mapOk ho e
  · intro l hd ver
    by_cases hl : l < m
    · rw [low hl]
      refine hs.dead l ?_ ver
      unfold Dead at hd ⊢
      rw [gcs_low hm hl] at hd
      cases ho : σ[l]? with
      | none => exact .inl rfl
      | some o => rw [ho] at hd; cases o <;> simp [gco] at hd ⊢
    · unfold Dead at hd
      rw [gcs_high hm (by omega)] at hd
      unfold gcB
      rw [if_neg hl]
      cases hp : picks[l - m]? with
      | none => rfl
      | some l0 =>
        rw [hp] at hd
        simp only [Option.map_some] at hd ⊢
        split
        · cases ho : σ[l0]? with
          | none => rfl
          | some o => rw [ho] at hd; cases o <;> simp [gco] at hd ⊢
        · rfl
  · intro l l' b h1 h2
    obtain ⟨l0, o1, c1⟩ := cur_gc hm h1
    obtain ⟨l1, o2, c2⟩ := cur_gc hm h2
    obtain rfl := hs.sep _ _ _ c1 c2
    exact orig_inj hnd hge o1 o2
  · intro l b h1 hb
    obtain ⟨l0, o1, c1⟩ := cur_gc hm h1
    rcases hb with hb | ⟨l1, v, sz, xs, g1, g2, _, g4⟩
    · exact hs.imm _ _ c1 hb
    · obtain rfl := hs.sep _ _ _ c1 g4
      unfold orig at o1
      split at o1
      · cases o1; omega
      · exact g2 (List.mem_of_getElem? o1)
  · intro l b h1
    obtain ⟨l0, _, c1⟩ := cur_gc hm h1
    exact hs.lt _ _ c1
  · intro b hb
    rcases hb with hb | ⟨l1, v, sz, xs, _, _, g3, g4⟩
    · exact hs.icells b hb
    · obtain ⟨x, hx⟩ := hs.row _ _ _ _ g3
      cases hr : x.real with
      | false => rw [hx.curNone g3 hr] at g4; cases g4
      | true =>
        rw [hx.cur g3 hr] at g4
        cases g4
        obtain ⟨cs, T, e, _⟩ := hx.real hr
        exact ⟨cs, T, _, e⟩
  · intro l ver x hx hr
    unfold gcB at hx
    split at hx
    · exact hs.vlt _ _ _ hx hr
    · split at hx
      · split at hx
        · split at hx
          · exact hs.vlt _ _ _ hx hr
          · exact hs.vlt _ _ _ hx hr
          · cases hx
        · cases hx
      · cases hx
  · intro l b h1
    obtain ⟨l0, _, c1⟩ := cur_gc hm h1
    exact hs.cbs _ _ c1
  · intro l v sz xs' ver x hl' hx
    by_cases hl : l < m
    · rw [low hl] at hx
      rw [gcs_low hm hl] at hl'
      cases ho : σ[l]? with
      | none => rw [ho] at hl'; cases hl'
      | some o =>
        rw [ho] at hl'
        cases o <;> simp only [Option.map_some, gco, Option.some.injEq, AObj.row.injEq, reduceCtorEq, if_true] at hl'
        obtain ⟨rfl, rfl, rfl⟩ := hl'
        exact hs.vmono _ _ _ _ _ _ ho hx
    · unfold gcB at hx
      rw [if_neg hl] at hx
      split at hx
      · split at hx
        · omega
        · cases hx
      · cases hx

theorem Ext.gc {m : Nat} {B B' : BMap} {I I' : Nat → Prop} {bs : Nat} {σ σ' : List AObj} {w w' : World} (h : Ext m B I σ w B' I' σ' w') (n : Nat) {m' : Nat} {picks : List Nat} (hmm : m ≤ m') (hm : m' ≤ σ'.length) (hge : ∀ l ∈ picks, m' ≤ l) (_hs : SR B' I' bs σ' w') :
    Ext m B I σ w (gcB B' m' picks σ') (gcI I' B' m' picks σ') (gcs n m' picks σ') w' where
  os := h.os
  tape := h.tape
  output := h.output
  size := h.size
  block := h.block
  bmap l ver x hl hx := by
    unfold gcB
    rw [if_pos (by omega)]
    exact h.bmap l ver x hl hx
  imono b hb := .inl (h.imono b hb)
  inew b hb := by
    rcases hb with hb | ⟨l, ver, sz, xs, g1, g2, g3, g4⟩
    · exact h.inew b hb
    · rcases h.own l b g4 with h1 | ⟨h1, _⟩ | ⟨_, l0, h1, h2⟩
      · exact .inr (.inr h1)
      · omega
      · exact .inr (.inl ⟨l0, h1, h2⟩)
  own l b hb := by
    obtain ⟨l0, o1, c1⟩ := cur_gc hm hb
    have hll : (l < m ∧ l0 = l) ∨ (m ≤ l ∧ m ≤ l0) := by
      unfold orig at o1
      split at o1
      · cases o1; omega
      · have := hge l0 (List.mem_of_getElem? o1); omega
    rcases h.own l0 b c1 with h1 | ⟨h1, h2⟩ | ⟨h1, l1, h2, h3⟩
    · exact .inl h1
    · rcases hll with ⟨h4, rfl⟩ | ⟨_, h4⟩
      · exact .inr (.inl ⟨h4, h2⟩)
      · omega
    · rcases hll with ⟨h4, rfl⟩ | ⟨h4, _⟩
      · omega
      · exact .inr (.inr ⟨h4, l1, h2, h3⟩)

end Go.Abs

/- The abstract layer, part 21: contracts that are closed; a contract over an empty store used where the store is not empty. -/
namespace Go.Abs
open Go Go.RowKit

/-- What a function has made and does not hand back is forgotten. -/
theorem CallG.close {P : Program} {f : FuncId} {args : List AVal} {σ : List AObj} {K : Kont}
    (h : CallG P f args σ fun r σ' => ∃ n picks, picks.Nodup ∧ (∀ l ∈ picks, σ.length ≤ l) ∧ σ.length ≤ σ'.length ∧ K (gcv n σ.length picks σ' r) (gcs n σ.length picks σ')) : CallG P f args σ K := by
  intro bs B I w vs h1 h2 h3
  refine (h bs B I w vs h1 h2 h3).mono ?_
  rintro e w' ⟨r, σ', B', I', v, rfl, ⟨n, picks, q1, q2, q3, hk⟩, hs, hv, he⟩
  exact ⟨_, _, _, _, v, rfl, hk, hs.gc n q3 q1 q2, RV.gc hs n hv, he.gc n (Nat.le_refl _) q3 q2 hs⟩

def gcEnv (n m : Nat) (picks : List Nat) (σ : List AObj) : Env → Env
  | [] => []
  | (t, a) :: r => (t, gcv n m picks σ a) :: gcEnv n m picks σ r

theorem gcEnv_get {n m : Nat} {picks : List Nat} {σ : List AObj} : ∀ (env : Env) (t : Nat), (gcEnv n m picks σ env).get t = .any ∨ (gcEnv n m picks σ env).get t = gcv n m picks σ (env.get t) := by
  intro env t
  induction env with
  | nil => exact .inl rfl
  | cons p r ih =>
    obtain ⟨k, a⟩ := p
    simp only [gcEnv, Env.get]
    split
    · exact .inr rfl
    · exact ih

/-- In the midst of a body: the frame and the store are cleared. -/
theorem WpA.gc {cx : Cx} {c : Code} {env : Env} {σ : List AObj} {Q : Post} (n m : Nat) (picks : List Nat) (hmm : cx.m ≤ m) (hm : m ≤ σ.length) (hnd : picks.Nodup) (hge : ∀ l ∈ picks, m ≤ l)
    (h : WpA cx c (gcEnv n m picks σ env) (gcs n m picks σ) Q) : WpA cx c env σ Q := by
  intro B I a w st
  refine wpIn_mono (h _ _ a w ⟨st.size, fun t => ?_, st.sr.gc n hm hnd hge, st.marks⟩) fun _ _ _ => Reach.trans ((Ext.refl ..).gc n hmm hm hge st.sr)
  rcases gcEnv_get (n := n) (m := m) (picks := picks) (σ := σ) env t with e | e
  · rw [e]; exact .any _
  · rw [e]; exact RV.gc st.sr n (st.env t)

theorem RestA.gc {cx : Cx} {c : Code} {env : Env} {σ : List AObj} {Q : Post} (n m : Nat) (picks : List Nat) (hmm : cx.m ≤ m) (hm : m ≤ σ.length) (hnd : picks.Nodup) (hge : ∀ l ∈ picks, m ≤ l)
    (h : RestA cx c (gcEnv n m picks σ env) (gcs n m picks σ) Q) : RestA cx c env σ Q := by
  intro B I a w st b k cs hro
  obtain ⟨e, a', w', hq, harr⟩ := h _ _ a w ⟨st.size, fun t => by
    rcases gcEnv_get (n := n) (m := m) (picks := picks) (σ := σ) env t with e | e
    · rw [e]; exact .any _
    · rw [e]; exact RV.gc st.sr n (st.env t), st.sr.gc n hm hnd hge, st.marks⟩ b k cs hro
  exact ⟨e, a', w', Reach.trans ((Ext.refl ..).gc n hmm hm hge st.sr) hq, harr⟩

/-! ### Contracts over the empty store -/

/-- Lists are taken as somebody else's. -/
def untag : Nat → AVal → AVal
  | 0, a => anyLike a
  | n + 1, a => match a with
    | .list _ sz xs => .list false sz (xs.map (untag n))
    | .agg cs => .agg (cs.map (untag n))
    | .tuple vs => .tuple (vs.map (untag n))
    | .iface t v => .iface t (untag n v)
    | .func f a b => .func f (a.map (untag n)) (b.map (untag n))
    | .eptr cs j => .eptr (cs.map (untag n)) j
    | a => a

theorem untag_cells (n : Nat) (a : AVal) : (untag n a).cells.length = a.cells.length := by
  cases n with
  | zero => exact anyLike_cells a
  | succ n => cases a <;> simp [untag, AVal.cells]

theorem untag_single {n : Nat} {x : AVal} (h : ∀ cs, x ≠ .agg cs) : (untag n x).cells = [untag n x] := by
  cases n with
  | zero => cases x <;> first | rfl | exact absurd rfl (h _)
  | succ n => cases x <;> first | rfl | exact absurd rfl (h _)

theorem RV.untag {B : BMap} {I : Nat → Prop} {bs bs' : Nat} {w : World} : ∀ (n : Nat) {a : AVal} {v : Value}, RV B I bs w a v → RV B I bs' w (untag n a) v := by
  have hany : ∀ {a : AVal} {v : Value}, RV B I bs w a v → RV B I bs' w (anyLike a) v := by
    intro a v h
    cases h with
    | agg hl hc =>
      refine .agg (by simpa using hl) fun k hk => ?_
      simp only [List.length_map] at hk
      rw [getD_map_gcv hk]
      exact .any _
    | _ => exact .any _
  intro n
  induction n using Nat.strongRecOn with
  | _ n ih =>
  cases n with
  | zero => intro a v h; exact hany h
  | succ n =>
    have ihn : ∀ {a : AVal} {v : Value}, RV B I bs w a v → RV B I bs' w (Abs.untag n a) v := fun h => ih n (by omega) h
    have elems : ∀ {x : AVal} {sz j : Nat} {c : Value}, x.cells.length = sz → j < sz → RV B I bs w (x.cells.getD j .any) c → RV B I bs' w ((Abs.untag n x).cells.getD j .any) c := by
      intro x sz j c hcl hj hrv
      by_cases ha : ∃ cs, x = .agg cs
      · obtain ⟨cs, rfl⟩ := ha
        cases n with
        | zero =>
          simp only [Abs.untag, anyLike, AVal.cells] at hcl ⊢
          rw [getD_map_gcv (by omega)]
          exact .any _
        | succ n =>
          simp only [Abs.untag, AVal.cells] at hcl hrv ⊢
          rw [getD_map_gcv (by omega)]
          exact ih n (by omega) hrv
      · have hx : ∀ cs, x ≠ .agg cs := fun cs e => ha ⟨cs, e⟩
        have e1 : x.cells = [x] := by cases x <;> first | rfl | exact absurd rfl (hx _)
        rw [e1] at hcl hrv
        simp only [List.length_cons, List.length_nil] at hcl
        have : j = 0 := by omega
        subst this
        rw [untag_single hx]
        exact ihn hrv
    intro a v h
    have many : ∀ {cs : List AVal} {vs : Array Value}, cs.length = vs.size → (∀ k, k < cs.length → RV B I bs w (cs.getD k .any) (vs.getD k undef)) →
        (cs.map (Abs.untag n)).length = vs.size ∧ ∀ k, k < (cs.map (Abs.untag n)).length → RV B I bs' w ((cs.map (Abs.untag n)).getD k .any) (vs.getD k undef) := by
      intro cs vs hl hc
      refine ⟨by simpa using hl, fun k hk => ?_⟩
      simp only [List.length_map] at hk
      rw [getD_map_gcv hk]
      exact ihn (hc k hk)
    cases h with
    | any v => exact .any v
    | val v => exact .val v
    | nil tg sz a cap => exact .nil ..
    | list hI hN hsz hl hb ho hc h1 hcap =>
      rename_i tg sz xs b o cap cs T fr
      simp only [Abs.untag]
      have hlen : (xs.map (Abs.untag n)).length = xs.length := by simp
      have := RV.list (B := B) (I := I) (bs := bs') (w := w) (tg := false) (sz := sz) (xs := xs.map (Abs.untag n)) (b := b) (o := o) (cap := cap) hI (fun h => by cases h) hsz
        (by
          intro y hy
          obtain ⟨x, hx, rfl⟩ := List.mem_map.1 hy
          rw [untag_cells]; exact hl x hx) hb (by rw [hlen]; exact ho)
        (by
          intro i j hi hj
          rw [hlen] at hi
          rw [getD_map_gcv hi]
          exact elems (hl _ (mem_getD hi)) hj (hc i j hi hj))
        (by rw [hlen]; exact h1) (by rw [hlen]; exact hcap)
      rw [hlen] at this
      exact this
    | agg hl hc =>
      obtain ⟨h1, h2⟩ := many hl hc
      exact .agg h1 h2
    | tuple hl hc =>
      obtain ⟨h1, h2⟩ := many hl hc
      exact .tuple h1 h2
    | func g1 g2 g3 g4 =>
      obtain ⟨h1, h2⟩ := many g1 g3
      obtain ⟨h3, h4⟩ := many g2 g4
      exact .func h1 h3 h2 h4
    | iface h => exact .iface (ihn h)
    | eptr hI hb ho hc =>
      simp only [Abs.untag]
      refine .eptr hI hb (by simpa using ho) fun k hk => ?_
      simp only [List.length_map] at hk
      rw [getD_map_gcv hk]
      exact ihn (hc k hk)
    | row hB hr ho => exact .row hB hr ho
    | rowEnd hB hr ho hc => exact .rowEnd hB hr ho hc
    | rowNil hB hr => exact .rowNil hB hr
    | ptr hB hr => exact .ptr hB hr
    | map hB => exact .map hB

/-- An argument as a function that only reads it sees it. -/
def frz (n : Nat) (σ : List AObj) (a : AVal) : AVal := untag n (gcv n 0 [] σ a)

/-- All lists in it are new, and nothing leads out of it but to its own rows. -/
def newIn : Nat → AVal → Bool
  | 0, _ => false
  | n + 1, a => match a with
    | .any | .val _ => true
    | .list tg _ xs => tg && xs.all (newIn n)
    | .agg cs => cs.all (newIn n)
    | .tuple vs => vs.all (newIn n)
    | .iface _ v => newIn n v
    | .func _ a b => a.all (newIn n) && b.all (newIn n)
    | _ => false

/-- A result: rows, pointers and maps of its own, numbered on from k. -/
def shift : Nat → Nat → AVal → AVal
  | 0, _, a => anyLike a
  | n + 1, k, a => match a with
    | .row l ver off len => .row (k + l) ver off len
    | .ptr l ver i j => .ptr (k + l) ver i j
    | .map l => .map (k + l)
    | .agg cs => .agg (cs.map (shift n k))
    | .tuple vs => .tuple (vs.map (shift n k))
    | .iface t v => .iface t (shift n k v)
    | a => if newIn n a then a else anyLike a

end Go.Abs

/- The abstract layer, part 22: a contract over the empty store, used anywhere. -/
namespace Go.Abs
open Go Go.RowKit

theorem RV.newIn {B B' : BMap} {I I' : Nat → Prop} {bs bs' : Nat} {w : World} (hI : ∀ b, I b → bs ≤ b → I' b) (hbs : bs' ≤ bs) : ∀ (n : Nat) {a : AVal} {v : Value}, newIn n a = true → RV B I bs w a v → RV B' I' bs' w a v := by
  intro n
  induction n using Nat.strongRecOn with
  | _ n ih =>
  cases n with
  | zero => intro a v hn; cases hn
  | succ n =>
    have ihn : ∀ {a : AVal} {v : Value}, Abs.newIn n a = true → RV B I bs w a v → RV B' I' bs' w a v := fun h => ih n (by omega) h
    have elems : ∀ {x : AVal} {sz j : Nat} {c : Value}, Abs.newIn n x = true → x.cells.length = sz → j < sz → RV B I bs w (x.cells.getD j .any) c → RV B' I' bs' w (x.cells.getD j .any) c := by
      intro x sz j c hn hcl hj hrv
      by_cases ha : ∃ cs, x = .agg cs
      · obtain ⟨cs, rfl⟩ := ha
        cases n with
        | zero => cases hn
        | succ n =>
          simp only [Abs.newIn, List.all_eq_true] at hn
          simp only [AVal.cells] at hcl hrv ⊢
          exact ih n (by omega) (hn _ (mem_getD (by omega))) hrv
      · have hx : ∀ cs, x ≠ .agg cs := fun cs e => ha ⟨cs, e⟩
        have e1 : x.cells = [x] := by cases x <;> first | rfl | exact absurd rfl (hx _)
        rw [e1] at hcl hrv ⊢
        simp only [List.length_cons, List.length_nil] at hcl
        have : j = 0 := by omega
        subst this
        exact ihn hn hrv
    have many : ∀ {cs : List AVal} {vs : Array Value}, cs.all (Abs.newIn n) = true → (∀ k, k < cs.length → RV B I bs w (cs.getD k .any) (vs.getD k undef)) → ∀ k, k < cs.length → RV B' I' bs' w (cs.getD k .any) (vs.getD k undef) :=
      fun hn hc k hk => ihn (List.all_eq_true.1 hn _ (mem_getD hk)) (hc k hk)
    intro a v hn h
    cases h with
    | any v => exact .any v
    | val v => exact .val v
    | nil tg sz a cap => exact .nil ..
    | list hIb hN hsz hl hb ho hc h1 hcap =>
      simp only [Abs.newIn, Bool.and_eq_true, List.all_eq_true] at hn
      refine .list (hI _ hIb (hN hn.1)) (fun h => Nat.le_trans hbs (hN h)) hsz hl hb ho (fun i j hi hj => ?_) h1 hcap
      exact elems (hn.2 _ (mem_getD hi)) (hl _ (mem_getD hi)) hj (hc i j hi hj)
    | agg hl hc => exact .agg hl (many (by simpa only [Abs.newIn] using hn) hc)
    | tuple hl hc => exact .tuple hl (many (by simpa only [Abs.newIn] using hn) hc)
    | func g1 g2 g3 g4 =>
      simp only [Abs.newIn, Bool.and_eq_true] at hn
      exact .func g1 g2 (many hn.1 g3) (many hn.2 g4)
    | iface h => exact .iface (ihn (by simpa only [Abs.newIn] using hn) h)
    | eptr => cases hn
    | row => cases hn
    | rowEnd => cases hn
    | rowNil => cases hn
    | ptr => cases hn
    | map => cases hn

/-- An object whose parts are all new and lead nowhere else. -/
def objNew (n : Nat) : AObj → Bool
  | .row _ _ xs => xs.all (newIn n)
  | .map es _ => es.all fun p => newIn n p.1 && newIn n p.2
  | .gone => true

theorem RV.shift {B B'' : BMap} {I I' : Nat → Prop} {bs bs' k : Nat} {w : World} (hI : ∀ b, I b → bs ≤ b → I' b) (hbs : bs' ≤ bs) (hB : ∀ l ver x, B l ver = some x → B'' (k + l) ver = some x) : ∀ (n : Nat) {a : AVal} {v : Value}, RV B I bs w a v → RV B'' I' bs' w (shift n k a) v := by
  have hany : ∀ {a : AVal} {v : Value}, RV B I bs w a v → RV B'' I' bs' w (anyLike a) v := by
    intro a v h
    cases h with
    | agg hl hc =>
      refine .agg (by simpa using hl) fun k hk => ?_
      simp only [List.length_map] at hk
      rw [getD_map_gcv hk]
      exact .any _
    | _ => exact .any _
  intro n
  induction n with
  | zero => intro a v h; exact hany h
  | succ n ih =>
    intro a v h
    have many : ∀ {cs : List AVal} {vs : Array Value}, cs.length = vs.size → (∀ k, k < cs.length → RV B I bs w (cs.getD k .any) (vs.getD k undef)) →
        (cs.map (Abs.shift n k)).length = vs.size ∧ ∀ j, j < (cs.map (Abs.shift n k)).length → RV B'' I' bs' w ((cs.map (Abs.shift n k)).getD j .any) (vs.getD j undef) := by
      intro cs vs hl hc
      refine ⟨by simpa using hl, fun j hj => ?_⟩
      simp only [List.length_map] at hj
      rw [getD_map_gcv hj]
      exact ih (hc j hj)
    have other : RV B'' I' bs' w (if Abs.newIn n a then a else anyLike a) v := by
      split
      · rename_i hn; exact RV.newIn hI hbs n hn h
      · exact hany h
    cases a with
    | row l ver off len =>
      cases h with
      | row h1 hr ho => exact .row (hB _ _ _ h1) hr ho
      | rowEnd h1 hr ho hc => exact .rowEnd (hB _ _ _ h1) hr ho hc
      | rowNil h1 hr => exact .rowNil (hB _ _ _ h1) hr
    | ptr l ver i j =>
      cases h with
      | ptr h1 hr => exact .ptr (hB _ _ _ h1) hr
    | map l =>
      cases h with
      | map h1 => exact .map (hB _ _ _ h1)
    | agg cs =>
      cases h with
      | agg hl hc =>
        obtain ⟨h1, h2⟩ := many hl hc
        exact .agg h1 h2
    | tuple cs =>
      cases h with
      | tuple hl hc =>
        obtain ⟨h1, h2⟩ := many hl hc
        exact .tuple h1 h2
    | iface t v =>
      cases h with
      | iface h => exact .iface (ih h)
    | any => exact other
    | val u => exact other
    | list tg sz xs => exact other
    | eptr cs j => exact other
    | func f x y => exact other

theorem SR.nil {I : Nat → Prop} {w : World} (h : ∀ b, I b → ∃ cs T fr, w.heap[b]? = some (.cells cs T fr)) (hg : GlobOk I w) : SR (fun _ _ => none) I w.heap.size [] w where
  row l ver sz xs hl := by simp at hl
  map l es ck hl := by simp at hl
  dead _ _ _ := rfl
  sep l l' b hc := by simp [Cur] at hc
  imm l b hc := by simp [Cur] at hc
  lt l b hc := by simp [Cur] at hc
  icells := h
  gl := hg
  vlt l ver x hx := by cases hx
  bsle := Nat.le_refl _
  cbs l b hc := by simp [Cur] at hc
  vmono l v sz xs ver x hl := by simp at hl

theorem CallG.pure {P : Program} {f : FuncId} {args fargs : List AVal} {σ : List AObj} {K K0 : Kont} (n n1 n2 : Nat) (h : CallG P f fargs [] K0) (hf : args.map (frz n σ) = fargs)
    (hk : ∀ r τ, K0 r τ → τ.all (objNew n1) = true ∧ K (shift n2 σ.length r) (σ ++ τ)) : CallG P f args σ K := by
  intro bs B I w vs hsr hlen hv
  have hg := hsr.gc (m := 0) (picks := []) n (Nat.zero_le _) List.nodup_nil (fun l hl => by cases hl)
  have e0 : gcB B 0 [] σ = fun _ _ => none := by
    funext l ver
    simp [gcB]
  refine (h w.heap.size (fun _ _ => none) (gcI I B 0 [] σ) w vs (SR.nil hg.icells hg.gl) (by rw [← hf]; simpa using hlen) fun k hkl => ?_).mono ?_
  · rw [← hf] at hkl ⊢
    simp only [List.length_map] at hkl
    rw [getD_map_gcv hkl]
    have := RV.gc (m := 0) (picks := []) hsr n (hv k hkl)
    rw [e0] at this
    exact RV.untag n this
  · rintro e w' ⟨r, τ, B', I', v, rfl, hk0, hs', hv', he⟩
    obtain ⟨hτ, hK⟩ := hk r τ hk0
    have hold : ∀ b, b < w.heap.size → w'.heap[b]? = w.heap[b]? := fun b hb => he.block b hb fun l hl => by simp [Cur] at hl
    have hnew : ∀ l b, Cur B' τ l = some b → w.heap.size ≤ b := by
      intro l b hl
      rcases he.own l b hl with h1 | ⟨h1, _⟩ | ⟨_, l0, _, h2⟩
      · exact h1
      · exact absurd h1 (Nat.not_lt_zero _)
      · simp [Cur] at h2
    let B'' : BMap := fun l ver => if l < σ.length then B l ver else B' (l - σ.length) ver
    let I'' : Nat → Prop := fun b => I b ∨ (I' b ∧ w.heap.size ≤ b)
    have hB1 : ∀ l ver x, B l ver = some x → B'' l ver = some x := by
      intro l ver x hx
      show (if l < σ.length then B l ver else B' (l - σ.length) ver) = some x
      rcases Nat.lt_or_ge l σ.length with hl | hl
      · rw [if_pos hl]; exact hx
      · rw [hsr.dead l (.inl (List.getElem?_eq_none hl)) ver] at hx; cases hx
    have hB2 : ∀ l ver x, B' l ver = some x → B'' (σ.length + l) ver = some x := by
      intro l ver x hx
      show (if σ.length + l < σ.length then B (σ.length + l) ver else B' (σ.length + l - σ.length) ver) = some x
      rw [if_neg (by omega), Nat.add_sub_cancel_left]; exact hx
    have hBeq : ∀ l ver, σ.length ≤ l → B'' l ver = B' (l - σ.length) ver := by
      intro l ver hl
      show (if l < σ.length then B l ver else B' (l - σ.length) ver) = _
      rw [if_neg (by omega)]
    have hBlo : ∀ l ver, l < σ.length → B'' l ver = B l ver := by
      intro l ver hl
      show (if l < σ.length then B l ver else B' (l - σ.length) ver) = _
      rw [if_pos hl]
    have hIn : ∀ b, I' b → w.heap.size ≤ b → I'' b := fun b h1 h2 => .inr ⟨h1, h2⟩
    have hIo : ∀ b, I b → w'.heap[b]? = w.heap[b]? := fun b hb => hold b (hsr.ilt b hb)
    have hconv : ∀ {a : AVal} {u : Value}, Abs.newIn n1 a = true → RV B' I' w.heap.size w' a u → RV B'' I'' bs w' a u := fun hn hr => RV.newIn hIn hsr.bsle n1 hn hr
    have hcell : ∀ {x : AVal} {sz j : Nat} {c : Value}, Abs.newIn n1 x = true → x.cells.length = sz → j < sz → RV B' I' w.heap.size w' (x.cells.getD j .any) c → RV B'' I'' bs w' (x.cells.getD j .any) c := by
      intro x sz j c hn hcl hj hrv
      by_cases ha : ∃ cs, x = .agg cs
      · obtain ⟨cs, rfl⟩ := ha
        cases n1 with
        | zero => cases hn
        | succ q =>
          simp only [Abs.newIn, List.all_eq_true] at hn
          simp only [AVal.cells] at hcl hrv ⊢
          exact RV.newIn hIn hsr.bsle q (hn _ (mem_getD (by omega))) hrv
      · have hx : ∀ cs, x ≠ .agg cs := fun cs e => ha ⟨cs, e⟩
        have e1 : x.cells = [x] := by cases x <;> first | rfl | exact absurd rfl (hx _)
        rw [e1] at hcl hrv ⊢
        simp only [List.length_cons, List.length_nil] at hcl
        have : j = 0 := by omega
        subst this
        exact hconv hn hrv
    have objs : ∀ l o, σ.length ≤ l → (σ ++ τ)[l]? = some o → τ[l - σ.length]? = some o ∧ objNew n1 o = true := by
      intro l o hl ho
      rw [List.getElem?_append_right hl] at ho
      exact ⟨ho, List.all_eq_true.1 hτ _ (List.mem_of_getElem? ho)⟩
    have curlo : ∀ l, l < σ.length → Cur B'' (σ ++ τ) l = Cur B σ l := by
      intro l hl
      simp only [Cur, List.getElem?_append_left hl, hBlo l _ hl]
    have curhi : ∀ l, σ.length ≤ l → Cur B'' (σ ++ τ) l = Cur B' τ (l - σ.length) := by
      intro l hl
      simp only [Cur, List.getElem?_append_right hl, hBeq l _ hl]
    have curs : ∀ l b, Cur B'' (σ ++ τ) l = some b → (l < σ.length ∧ Cur B σ l = some b) ∨ (σ.length ≤ l ∧ Cur B' τ (l - σ.length) = some b) := by
      intro l b hc
      rcases Nat.lt_or_ge l σ.length with hl | hl
      · exact .inl ⟨hl, by rw [← curlo l hl]; exact hc⟩
      · exact .inr ⟨hl, by rw [← curhi l hl]; exact hc⟩
    refine ⟨Abs.shift n2 σ.length r, σ ++ τ, B'', I'', v, rfl, hK, ?_, RV.shift hIn hsr.bsle hB2 n2 hv', ?_⟩
    · refine { row := ?_, map := ?_, dead := ?_, sep := ?_, imm := ?_, lt := ?_, icells := ?_, gl := hsr.gl.mono (fun b hb => .inl hb) hIo, vlt := ?_, bsle := Nat.le_trans hsr.bsle he.size, cbs := ?_, vmono := ?_ }
      · intro l ver sz xs ho
        rcases Nat.lt_or_ge l σ.length with hl | hl
        · rw [List.getElem?_append_left hl] at ho
          obtain ⟨x, hx⟩ := hsr.row _ _ _ _ ho
          exact ⟨x, hx.mono hB1 (fun b hb => .inl hb) hIo (Nat.le_refl _) fun hr => hold _ (hsr.lt _ _ (hx.cur ho hr))⟩
        · obtain ⟨ho', hn⟩ := objs l _ hl ho
          obtain ⟨x, hx⟩ := hs'.row _ _ _ _ ho'
          simp only [objNew, List.all_eq_true] at hn
          refine ⟨x, (hBeq l ver hl).trans hx.at_, hx.hsz, hx.pos, hx.fits, hx.each, hx.virt, fun hr => ?_⟩
          obtain ⟨cs, T, h1, h2, h3⟩ := hx.real hr
          exact ⟨cs, T, h1, h2, fun i j hi hj => ⟨hcell (hn _ (mem_getD hi)) (hx.each _ (mem_getD hi)) hj (h3 i j hi hj).1, (h3 i j hi hj).2⟩⟩
      · intro l es ck ho
        rcases Nat.lt_or_ge l σ.length with hl | hl
        · rw [List.getElem?_append_left hl] at ho
          obtain ⟨x, hx⟩ := hsr.map _ _ _ ho
          exact ⟨x, hx.mono hB1 (fun b hb => .inl hb) hIo (Nat.le_refl _) (hold _ (hsr.lt _ _ (hx.cur ho)))⟩
        · obtain ⟨ho', hn⟩ := objs l _ hl ho
          obtain ⟨x, hx⟩ := hs'.map _ _ _ ho'
          simp only [objNew, List.all_eq_true, Bool.and_eq_true] at hn
          obtain ⟨o, ms, h1, h4, h2, h3⟩ := hx.map
          refine ⟨x, (hBeq l 0 hl).trans hx.at_, o, ms, h1, h4, h2, fun i hi hi' => ?_⟩
          obtain ⟨g1, g2⟩ := h3 i hi hi'
          have := hn es[i] (List.getElem_mem hi)
          exact ⟨hconv this.1 g1, hconv this.2 g2⟩
      · intro l hd ver
        rcases Nat.lt_or_ge l σ.length with hl | hl
        · rw [hBlo l ver hl]
          exact hsr.dead l (by rwa [Dead, List.getElem?_append_left hl] at hd) ver
        · rw [hBeq l ver hl]
          exact hs'.dead _ (by rwa [Dead, List.getElem?_append_right hl] at hd) ver
      · intro l l' b h1 h2
        rcases curs _ _ h1 with ⟨a1, c1⟩ | ⟨a1, c1⟩ <;> rcases curs _ _ h2 with ⟨a2, c2⟩ | ⟨a2, c2⟩
        · exact hsr.sep _ _ _ c1 c2
        · have := hsr.lt _ _ c1; have := hnew _ _ c2; omega
        · have := hsr.lt _ _ c2; have := hnew _ _ c1; omega
        · have := hs'.sep _ _ _ c1 c2; omega
      · intro l b hc hb
        rcases curs _ _ hc with ⟨a1, c1⟩ | ⟨a1, c1⟩ <;> rcases hb with hb | ⟨hb1, hb2⟩
        · exact hsr.imm _ _ c1 hb
        · have := hsr.lt _ _ c1; omega
        · have := hsr.ilt _ hb; have := hnew _ _ c1; omega
        · exact hs'.imm _ _ c1 hb1
      · intro l b hc
        rcases curs _ _ hc with ⟨a1, c1⟩ | ⟨a1, c1⟩
        · exact Nat.lt_of_lt_of_le (hsr.lt _ _ c1) he.size
        · exact hs'.lt _ _ c1
      · intro b hb
        rcases hb with hb | ⟨hb1, hb2⟩
        · rw [hIo b hb]; exact hsr.icells b hb
        · exact hs'.icells b hb1
      · intro l ver x hx hr
        rcases Nat.lt_or_ge l σ.length with hl | hl
        · rw [hBlo l ver hl] at hx; exact Nat.lt_of_lt_of_le (hsr.vlt _ _ _ hx hr) he.size
        · rw [hBeq l ver hl] at hx; exact hs'.vlt _ _ _ hx hr
      · intro l b hc
        rcases curs _ _ hc with ⟨a1, c1⟩ | ⟨a1, c1⟩
        · exact hsr.cbs _ _ c1
        · exact Nat.le_trans hsr.bsle (hnew _ _ c1)
      · intro l v sz xs ver x ho hx
        rcases Nat.lt_or_ge l σ.length with hl | hl
        · rw [List.getElem?_append_left hl] at ho
          rw [hBlo l ver hl] at hx
          exact hsr.vmono _ _ _ _ _ _ ho hx
        · rw [List.getElem?_append_right hl] at ho
          rw [hBeq l ver hl] at hx
          exact hs'.vmono _ _ _ _ _ _ ho hx
    · refine ⟨he.os, he.tape, he.output, he.size, fun b hb _ => hold b hb, fun l ver x hl hx => by rw [hBlo l ver hl]; exact hx, fun b hb => .inl hb, fun b hb => ?_, fun l b hc => ?_⟩
      · rcases hb with hb | ⟨_, hb⟩
        · exact .inl hb
        · exact .inr (.inr hb)
      · rcases curs _ _ hc with ⟨a1, c1⟩ | ⟨a1, c1⟩
        · exact .inr (.inl ⟨a1, c1⟩)
        · exact .inl (hnew _ _ c1)

end Go.Abs

/- The abstract layer, part 23: new objects at a place that was kept, or that nobody writes. -/
namespace Go.Abs
open Go Go.RowKit

/-- What a new row is made of. -/
structure Fresh (B : BMap) (I : Nat → Prop) (bs : Nat) (w : World) (sz : Nat) (xs : List AVal) (cs : Array Value) : Prop where
  pos : 0 < sz
  size : cs.size = xs.length * sz
  each : ∀ y ∈ xs, y.cells.length = sz
  rel : ∀ i j, i < xs.length → j < sz → RV B I bs w ((xs.getD i .any).cells.getD j .any) (cs.getD (i * sz + j) undef) ∧ (cs.getD (i * sz + j) undef).oneCell' = true

theorem run_allocOp {cx : Cx} {o : Oper} {ρ : Operand → Value} {t : TypeId} {zs : List AVal} (ho : o.op = .alloc t) (hz : zeroCells cx.P t = some zs) {B : BMap} {I : Nat → Prop} {w : World} :
    ∃ cs, (execOp ρ o).run cx.P w = .ok (.value (.pointer (some ⟨w.heap.size, 0, none⟩))) (w.alloc (.cells cs t)) ∧ Fresh B I cx.bs w zs.length [.agg zs] cs := by
  obtain ⟨z, h1, h2, h3, _, h5⟩ := zeroCells_run hz w
  have hl : z.cells.size = zs.length := by rw [← h2]; simp
  refine ⟨z.cells, ?_, h3, by simpa using hl, (by intro y hy; rw [List.mem_singleton.1 hy]; rfl), ?_⟩
  · simp only [execOp, ho, Instr.alloc, Sem.run_bind, h1, Result.andThen, run_newVar, Sem.run_pure]
  · intro i j hi hj
    have : i = 0 := by simpa using hi
    subst this
    have hjz : j < z.cells.size := by omega
    have : ([AVal.agg zs].getD 0 .any).cells.getD j .any = .val (z.cells.getD j undef) := by
      show zs.getD j .any = _
      rw [← h2, List.getD_eq_getElem?_getD]
      simp [hjz]
    rw [this, Nat.zero_mul, Nat.zero_add]
    exact ⟨.val _, h5 j hjz⟩

theorem run_boxOp {cx : Cx} {o : Oper} {env : Env} {ρ : Operand → Value} {t : TypeId} {x : Operand} (ho : o.op = .box t x) (hlen : 0 < (aeval env x).cells.length)
    (hlf : (aeval env x).cells.all AVal.leaf = true) {B : BMap} {I : Nat → Prop} {w : World} (hρ : Ev cx B I w env ρ) :
    ∃ cs, (execOp ρ o).run cx.P w = .ok (.value (.pointer (some ⟨w.heap.size, 0, none⟩))) (w.alloc (.cells cs t)) ∧ Fresh B I cx.bs w (aeval env x).cells.length [aeval env x] cs := by
  have hv := hρ x
  have hcells : (aeval env x).cells.length = (ρ x).cells.size ∧ ∀ k, k < (aeval env x).cells.length → RV B I cx.bs w ((aeval env x).cells.getD k .any) ((ρ x).cells.getD k undef) := by
    have hlf' := List.all_eq_true.1 hlf
    by_cases hval : ∃ v, aeval env x = .val v
    · obtain ⟨v, e⟩ := hval
      have h1 : v.oneCell' = true := by have := hlf' (aeval env x) (by rw [e]; simp [AVal.cells]); rw [e] at this; exact this
      rw [e] at hv ⊢
      have hv' := hv.valEq
      rw [hv']
      have hc : v.cells = #[v] := by cases v <;> first | rfl | cases h1
      rw [hc]
      refine ⟨rfl, fun k hk => ?_⟩
      have : k = 0 := by simpa [AVal.cells] using hk
      subst this
      exact .val _
    · refine hv.cells (fun e => ?_) (fun v e => hval ⟨v, e⟩)
      have := hlf' (aeval env x) (by rw [e]; simp [AVal.cells])
      rw [e] at this; cases this
  obtain ⟨c1, c2⟩ := hcells
  refine ⟨(ρ x).cells, ?_, hlen, by simpa using c1.symm, (by intro y hy; rw [List.mem_singleton.1 hy]), ?_⟩
  · simp only [execOp, ho, Instr.box, Sem.run_bind, Result.andThen, run_newVar, Sem.run_pure]
  · intro i j hi hj
    have : i = 0 := by simpa using hi
    subst this
    rw [Nat.zero_mul, Nat.zero_add]
    exact ⟨c2 j hj, (leaf_one (c2 j hj) (List.all_eq_true.1 hlf _ (mem_getD hj))).1⟩

theorem run_buildSliceOp {cx : Cx} {o : Oper} {env : Env} {ρ : Operand → Value} {t : TypeId} {n : Nat} {parts : Array (Nat × Operand)} {z : AVal} (ho : o.op = .buildSlice t n parts) (hz : zelem cx.P t = some z)
    (hp : ∀ p ∈ parts.toList, p.1 < n ∧ partOk z.cells.length (aeval env p.2) = true) (hn24 : n * z.cells.length ≤ 2 ^ 24) {B : BMap} {I : Nat → Prop} {w : World} (hρ : Ev cx B I w env ρ) :
    ∃ cs e, (execOp ρ o).run cx.P w = .ok (.value (.slice (some ⟨w.heap.size, 0, none⟩) n n)) (w.alloc (.cells cs e)) ∧ Fresh B I cx.bs w z.cells.length (setParts (List.replicate n z) (parts.toList.map fun p => (p.1, aeval env p.2))) cs ∧
      (setParts (List.replicate n z) (parts.toList.map fun p => (p.1, aeval env p.2))).length = n := by
  obtain ⟨e, hu, h0, hrun⟩ := zelem_spec hz
  obtain ⟨hs, zv, r1, r2, r3⟩ := hrun w
  have start : ∃ cells0 : Array Value, ((n * z.cells.length = 0 ∧ cells0 = #[]) ∨ (¬ n * z.cells.length = 0 ∧ cells0 = zv.cells)) ∧
      ((Array.range (n * z.cells.length)).map (fun k => cells0[k % cells0.size]!)).size = n * z.cells.length ∧
      ∀ i j, i < n → j < z.cells.length → ((Array.range (n * z.cells.length)).map (fun k => cells0[k % cells0.size]!)).getD (i * z.cells.length + j) undef = zv.cells.getD j undef := by
    by_cases hn0 : n * z.cells.length = 0
    · refine ⟨#[], .inl ⟨hn0, rfl⟩, by simp, fun i j hi hj => ?_⟩
      have := mul_lt hi hj
      omega
    · obtain ⟨g1, g2⟩ := range_zero (n := n) r2
      exact ⟨zv.cells, .inr ⟨hn0, rfl⟩, g1, g2⟩
  obtain ⟨cells0, s1, s2, s3⟩ := start
  obtain ⟨cells', f1, f2, f3, f4, f5⟩ := fill_slice (sz := z.cells.length) (n := n) hρ parts.toList (List.replicate n z) ((Array.range (n * z.cells.length)).map (fun k => cells0[k % cells0.size]!)) hp (by simp) s2
    (fun y hy => by rw [List.eq_of_mem_replicate hy])
    (fun i j hi hj => by rw [getD_replicate' hi, s3 i j hi hj, (r3 j hj).1]; exact ⟨.val _, (r3 j hj).2⟩)
  refine ⟨cells', e, ?_, ⟨h0, by rw [f3]; exact f2, f4, fun i j hi hj => f5 i j (by rwa [f3] at hi) hj⟩, f3⟩
  have e0 : (parts.map fun (i, x) => (i, ρ x)).toList = parts.toList.map fun p => (p.1, ρ p.2) := by simp
  simp only [execOp, ho, Instr.buildSlice, Sem.run_bind, run_underlying' hu, Result.andThen, hs, Sem.run_pure]
  rw [if_neg (by omega)]
  rcases s1 with ⟨g1, g2⟩ | ⟨g1, g2⟩
  · subst g2
    rw [if_pos g1]
    simp only [Sem.run_bind, Result.andThen, Sem.run_pure, e0, f1, newRow, run_newObj]
    rfl
  · subst g2
    rw [if_neg g1]
    simp only [Sem.run_bind, r1, Result.andThen, Sem.run_pure, e0, f1, newRow, run_newObj]
    rfl

/-- A new block fills a slot that was kept. -/
theorem SR.fillRow {B : BMap} {I : Nat → Prop} {bs : Nat} {σ : List AObj} {w : World} (h : SR B I bs σ w) {k : Nat} (hk : σ[k]? = some .gone) {sz : Nat} {xs : List AVal} {cs : Array Value} {T : TypeId} (hf : Fresh B I bs w sz xs cs) (m : Nat) :
    ∃ B', SR B' I bs (σ.set k (.row 0 sz xs)) (w.alloc (.cells cs T)) ∧ Ext m B I σ w B' I (σ.set k (.row 0 sz xs)) (w.alloc (.cells cs T)) ∧ (∀ l ver x, B l ver = some x → B' l ver = some x) ∧
      B' k 0 = some ⟨w.heap.size, sz, xs.length, true⟩ := by
  have hl : k < σ.length := (List.getElem?_eq_some_iff.1 hk).1
  have hd : ∀ ver, B k ver = none := fun ver => h.dead _ (.inr hk) ver
  have hup : ∀ l ver x, B l ver = some x → B.upd k 0 ⟨w.heap.size, sz, xs.length, true⟩ l ver = some x := fun _ _ _ hx => BMap.upd_mono B (.inl (hd 0)) hx
  have hkeep : ∀ b, b < w.heap.size → (w.alloc (.cells cs T)).heap[b]? = w.heap[b]? := fun b hb => Below.heap_alloc _ _ _ hb
  have hnew : (w.alloc (.cells cs T)).heap[w.heap.size]? = some (.cells cs T (0, 0)) := by show (w.heap.push _)[w.heap.size]? = _; simp
  have s1 := SR.setRow (w' := w.alloc (.cells cs T)) (l := k) (ver := 0) (sz := sz) (xs := xs) (x := ⟨w.heap.size, sz, xs.length, true⟩) h hl (.inl (hd 0)) (fun v y hy => by rw [hd v] at hy; cases hy)
    (by simp) (fun b hb _ => hkeep b hb) (fun _ => .inr (Nat.le_refl _)) (fun _ => by simp)
    ⟨BMap.upd_self .., rfl, hf.pos, Nat.le_refl _, hf.each, by simp, fun _ => ⟨cs, T, hnew, hf.size, fun i j hi hj => ⟨(hf.rel i j hi hj).1.mono hup (fun _ h => h) (fun b hb => hkeep b (h.ilt b hb)) (Nat.le_refl _), (hf.rel i j hi hj).2⟩⟩⟩
  refine ⟨_, s1, ?_, hup, BMap.upd_self ..⟩
  refine ⟨rfl, rfl, rfl, by simp, fun b hb _ => hkeep b hb, fun l ver x _ hx => hup l ver x hx, fun _ h => h, fun _ h => .inl h, fun l b hb => ?_⟩
  by_cases e : l = k
  · subst e
    simp [Cur, BMap.upd_self, List.getElem?_set_self hl] at hb
    exact .inl (by omega)
  · have : Cur B σ l = some b := by
      simpa only [Cur, List.getElem?_set_ne (fun h => e h.symm), BMap.upd_ne B _ e] using hb
    rcases Nat.lt_or_ge l m with hm' | hm'
    · exact .inr (.inl ⟨hm', this⟩)
    · exact .inr (.inr ⟨hm', l, hm', this⟩)

/-- A new block that is no slot's. -/
theorem SR.fresh {B : BMap} {I : Nat → Prop} {bs : Nat} {σ : List AObj} {w : World} (h : SR B I bs σ w) {cs : Array Value} {T : TypeId} (I' : Nat → Prop) (hI : ∀ b, I b → I' b) (hI' : ∀ b, I' b → I b ∨ b = w.heap.size) (m : Nat) :
    SR B I' bs σ (w.alloc (.cells cs T)) ∧ Ext m B I σ w B I' σ (w.alloc (.cells cs T)) := by
  have hkeep : ∀ b, b < w.heap.size → (w.alloc (.cells cs T)).heap[b]? = w.heap[b]? := fun b hb => Below.heap_alloc _ _ _ hb
  have hnew : (w.alloc (.cells cs T)).heap[w.heap.size]? = some (.cells cs T (0, 0)) := by show (w.heap.push _)[w.heap.size]? = _; simp
  have hsz : w.heap.size ≤ (w.alloc (.cells cs T)).heap.size := by simp
  constructor
  · refine { row := ?_, map := ?_, dead := h.dead, sep := h.sep, imm := ?_, lt := fun l b hb => Nat.lt_of_lt_of_le (h.lt l b hb) hsz, icells := ?_, gl := h.gl.mono hI (fun b hb => hkeep b (h.ilt b hb)), vlt := fun l ver x hx hr => Nat.lt_of_lt_of_le (h.vlt l ver x hx hr) hsz, bsle := Nat.le_trans h.bsle hsz, cbs := h.cbs, vmono := h.vmono }
    · intro l ver sz xs hl
      obtain ⟨x, hx⟩ := h.row l ver sz xs hl
      exact ⟨x, hx.mono (fun _ _ _ h => h) hI (fun b hb => hkeep b (h.ilt b hb)) (Nat.le_refl _) fun hr => hkeep _ (h.lt _ _ (hx.cur hl hr))⟩
    · intro l es ck hl
      obtain ⟨x, hx⟩ := h.map l es ck hl
      exact ⟨x, hx.mono (fun _ _ _ h => h) hI (fun b hb => hkeep b (h.ilt b hb)) (Nat.le_refl _) (hkeep _ (h.lt _ _ (hx.cur hl)))⟩
    · intro l b hc hb
      rcases hI' b hb with h1 | h1
      · exact h.imm l b hc h1
      · have := h.lt l b hc; omega
    · intro b hb
      rcases hI' b hb with h1 | h1
      · rw [hkeep b (h.ilt b h1)]; exact h.icells b h1
      · rw [h1, hnew]; exact ⟨_, _, _, rfl⟩
  · refine ⟨rfl, rfl, rfl, hsz, fun b hb _ => hkeep b hb, fun _ _ _ _ h => h, hI, fun b hb => ?_, fun l b hb => ?_⟩
    · rcases hI' b hb with h1 | h1
      · exact .inl h1
      · exact .inr (.inr (by omega))
    · rcases Nat.lt_or_ge l m with hm' | hm'
      · exact .inr (.inl ⟨hm', hb⟩)
      · exact .inr (.inr ⟨hm', l, hm', hb⟩)

/-- How an operation in an open order is done: it changes nothing; it has an effect; it makes an object at a slot that is kept; an empty slice, of a row that is kept; a list that nobody writes. -/
inductive Cl where
  | q
  | e
  | fl (h : Nat)
  | vt (h : Nat)
  | im
  deriving DecidableEq

/-- What a new object is, and what leads to it. -/
def floatA (cx : Cx) (o : Oper) (env : Env) (h : Nat) (K : AVal → AObj → Prop) : Prop :=
  match o.op with
  | .alloc t => match zeroCells cx.P t with
    | some zs => K (.ptr h 0 0 0) (.row 0 zs.length [.agg zs])
    | none => False
  | .box _ x => (0 < (aeval env x).cells.length ∧ (aeval env x).cells.all AVal.leaf = true) ∧ K (.ptr h 0 0 0) (.row 0 (aeval env x).cells.length [aeval env x])
  | .buildSlice t n parts => match zelem cx.P t with
    | some z => (elemsOk n z.cells.length (evalParts env parts.toList) = true ∧ n * z.cells.length ≤ 16777216) ∧
        K (.row h 0 0 n) (.row 0 z.cells.length (setParts (List.replicate n z) (evalParts env parts.toList)))
    | none => False
  | _ => False

def immA (cx : Cx) (o : Oper) (env : Env) (K : AVal → Prop) : Prop :=
  match o.op with
  | .buildSlice t n parts => match zelem cx.P t with
    | some z => (elemsOk n z.cells.length (evalParts env parts.toList) = true ∧ n * z.cells.length ≤ 16777216) ∧
        K (.list true z.cells.length (setParts (List.replicate n z) (evalParts env parts.toList)))
    | none => False
  | _ => False

def virtA (cx : Cx) (o : Oper) : Prop :=
  match o.op with
  | .buildSlice t 0 parts => parts.toList = [] ∧ ∃ z, zelem cx.P t = some z
  | _ => False

/-- What is done by an operation whose effect is its own object alone. -/
def Done (cx : Cx) (o : Oper) (ρ : Operand → Value) (B : BMap) (I : Nat → Prop) (σ : List AObj) (w : World) (av : AVal) (σ' : List AObj) : Prop :=
  ∃ v w' B' I', (execOp ρ o).run cx.P w = .ok (.value v) w' ∧ SR B' I' cx.bs σ' w' ∧ RV B' I' cx.bs w' av v ∧ Ext cx.m B I σ w B' I' σ' w' ∧ ∀ l ver x, B l ver = some x → B' l ver = some x

theorem floatA_sound {cx : Cx} {o : Oper} {env : Env} {h : Nat} {K : AVal → AObj → Prop} (hk : floatA cx o env h K) : (∀ c, o.op ≠ .defer c) ∧ ∃ av obj, K av obj ∧
    ∀ B I ρ w σ, Ev cx B I w env ρ → SR B I cx.bs σ w → σ[h]? = some .gone → Done cx o ρ B I σ w av (σ.set h obj) := by
  unfold floatA at hk
  split at hk
  · rename_i t ho
    refine ⟨by simp [ho], ?_⟩
    split at hk
    · rename_i zs hz
      refine ⟨_, _, hk, fun B I ρ w σ hρ hs hg => ?_⟩
      obtain ⟨cs, h1, h2⟩ := run_allocOp (ρ := ρ) (w := w) (B := B) (I := I) ho hz
      obtain ⟨B', k1, k2, k3, k4⟩ := hs.fillRow hg h2 (T := t) cx.m
      refine ⟨_, _, B', I, h1, k1, ?_, k2, k3⟩
      have := RV.ptr (B := B') (I := I) (bs := cx.bs) (w := w.alloc (.cells cs t)) (i := 0) (j := 0) k4 rfl
      simpa using this
    · exact hk.elim
  · rename_i t x ho
    refine ⟨by simp [ho], _, _, hk.2, fun B I ρ w σ hρ hs hg => ?_⟩
    obtain ⟨cs, h1, h2⟩ := run_boxOp (ρ := ρ) (w := w) (B := B) (I := I) ho hk.1.1 hk.1.2 hρ
    obtain ⟨B', k1, k2, k3, k4⟩ := hs.fillRow hg h2 (T := t) cx.m
    refine ⟨_, _, B', I, h1, k1, ?_, k2, k3⟩
    have := RV.ptr (B := B') (I := I) (bs := cx.bs) (w := w.alloc (.cells cs t)) (i := 0) (j := 0) k4 rfl
    simpa using this
  · rename_i t n parts ho
    refine ⟨by simp [ho], ?_⟩
    split at hk
    · rename_i z hz
      refine ⟨_, _, hk.2, fun B I ρ w σ hρ hs hg => ?_⟩
      obtain ⟨cs, e, h1, h2, h3⟩ := run_buildSliceOp (ρ := ρ) (w := w) (B := B) (I := I) ho hz (elemsOk_spec _ hk.1.1) (by have := hk.1.2; omega) hρ
      rw [evalParts_eq] at h2 h3
      obtain ⟨B', k1, k2, k3, k4⟩ := hs.fillRow hg h2 (T := e) cx.m
      refine ⟨_, _, B', I, h1, k1, ?_, k2, k3⟩
      have := RV.row (B := B') (I := I) (bs := cx.bs) (w := w.alloc (.cells cs e)) (l := h) (ver := 0) (off := 0) (len := n) k4 rfl (by rw [h3]; show 0 + n ≤ n; omega)
      simpa only [Nat.zero_mul, Nat.sub_zero, h3] using this
    · exact hk.elim
  · exact hk.elim

theorem immA_sound {cx : Cx} {o : Oper} {env : Env} {K : AVal → Prop} (hk : immA cx o env K) : (∀ c, o.op ≠ .defer c) ∧ ∃ av, K av ∧
    ∀ B I ρ w σ, Ev cx B I w env ρ → SR B I cx.bs σ w → Done cx o ρ B I σ w av σ := by
  unfold immA at hk
  split at hk
  · rename_i t n parts ho
    refine ⟨by simp [ho], ?_⟩
    split at hk
    · rename_i z hz
      refine ⟨_, hk.2, fun B I ρ w σ hρ hs => ?_⟩
      obtain ⟨cs, e, h1, h2, h3⟩ := run_buildSliceOp (ρ := ρ) (w := w) (B := B) (I := I) ho hz (elemsOk_spec _ hk.1.1) (by have := hk.1.2; omega) hρ
      rw [evalParts_eq] at h2 h3
      obtain ⟨k1, k2⟩ := hs.fresh (cs := cs) (T := e) (fun b => I b ∨ b = w.heap.size) (fun _ h => .inl h) (fun _ h => h) cx.m
      refine ⟨_, _, B, _, h1, k1, ?_, k2, fun _ _ _ h => h⟩
      have hnew : (w.alloc (.cells cs e)).heap[w.heap.size]? = some (.cells cs e (0, 0)) := by show (w.heap.push _)[w.heap.size]? = _; simp
      have := RV.list (B := B) (I := fun b => I b ∨ b = w.heap.size) (bs := cx.bs) (w := w.alloc (.cells cs e)) (tg := true) (sz := z.cells.length) (xs := setParts (List.replicate n z) (evalParts env parts.toList)) (o := 0) (cap := n)
        (.inr rfl) (fun _ => hs.bsle) h2.pos h2.each hnew (by rw [h2.size]; omega) (fun i j hi hj => by
          rw [Nat.zero_add]
          exact (h2.rel i j hi hj).1.mono (fun _ _ _ h => h) (fun _ h => .inl h) (fun b hb => Below.heap_alloc _ _ _ (hs.ilt b hb)) (Nat.le_refl _))
        (fun i j hi hj => by rw [Nat.zero_add]; exact (h2.rel i j hi hj).2) (by rw [h3]; exact Nat.le_refl _)
      rw [h3] at this
      exact this
    · exact hk.elim
  · exact hk.elim

theorem virtA_sound {cx : Cx} {o : Oper} (hk : virtA cx o) : (∀ c, o.op ≠ .defer c) ∧ ∀ B I ρ w σ h env, Ev cx B I w env ρ → SR B I cx.bs σ w → (∀ a, RV B I cx.bs w (.row h 0 0 0) (.slice a 0 0)) → Done cx o ρ B I σ w (.row h 0 0 0) σ := by
  unfold virtA at hk
  split at hk
  · rename_i t parts ho
    obtain ⟨hp, z, hz⟩ := hk
    refine ⟨by simp [ho], fun B I ρ w σ h env hρ hs hr => ?_⟩
    obtain ⟨cs, e, h1, h2, h3⟩ := run_buildSliceOp (cx := cx) (ρ := ρ) (w := w) (B := B) (I := I) (env := env) ho hz (by rw [hp]; simp) (by omega) hρ
    obtain ⟨k1, k2⟩ := hs.fresh (cs := cs) (T := e) I (fun _ h => h) (fun _ h => .inl h) cx.m
    exact ⟨_, _, B, I, h1, k1, (hr _).mono (fun _ _ _ h => h) (fun _ h => h) (fun b hb => Below.heap_alloc _ _ _ (hs.ilt b hb)) (Nat.le_refl _), k2, fun _ _ _ h => h⟩
  · exact hk.elim

end Go.Abs

/- The abstract layer, part 24: regions whose order of evaluation is open. -/
namespace Go.Abs
open Go Go.RowKit

/-- A step of the plan of a region: which operation, how it is done, which temporaries it looks at, which kept slots may be filled or not while it is done, which operations done before may still be pending behind it. -/
structure Stp where
  i : Nat
  cl : Cl
  lk : List Nat
  U : List Nat
  kp : List Nat

structure Pd where
  i : Nat
  env : Env
  av : AVal
  U : List Nat

def inL : List Nat → Nat → Bool
  | [], _ => false
  | a :: r, k => if a = k then true else inL r k

theorem inL_iff : ∀ {l : List Nat} {k : Nat}, inL l k = true ↔ k ∈ l
  | [], k => by simp [inL]
  | a :: r, k => by
    simp only [inL, List.mem_cons]
    split
    · rename_i h; simp [h]
    · rename_i h; rw [inL_iff]; constructor
      · exact .inr
      · rintro (e | e)
        · exact absurd e.symm h
        · exact e

/-- The store with some slots left open. -/
def hx (U : List Nat) (Xs : Nat → AObj) : Nat → List AObj → List AObj
  | _, [] => []
  | k, o :: r => (if inL U k = true then Xs k else o) :: hx U Xs (k + 1) r

/-- The slots that were left open, as they were. -/
def ux (U : List Nat) (σ : List AObj) : Nat → List AObj → List AObj
  | _, [] => []
  | k, o :: r => (if inL U k = true then σ.getD k .gone else o) :: ux U σ (k + 1) r

def kept (Xs : Nat → AObj) (σ : List AObj) : List Nat → Prop
  | [] => True
  | k :: r => σ[k]? = some (Xs k) ∧ kept Xs σ r

theorem hx_get (U : List Nat) (Xs : Nat → AObj) : ∀ (σ : List AObj) (k l : Nat), (hx U Xs k σ)[l]? = if inL U (k + l) = true then (σ[l]?).map (fun _ => Xs (k + l)) else σ[l]?
  | [], k, l => by simp [hx]
  | o :: r, k, 0 => by simp only [hx, List.getElem?_cons_zero, Nat.add_zero]; split <;> rfl
  | o :: r, k, l + 1 => by
    simp only [hx, List.getElem?_cons_succ]
    rw [hx_get U Xs r (k + 1) l, show k + 1 + l = k + (l + 1) by omega]

theorem ux_get (U : List Nat) (τ : List AObj) : ∀ (σ : List AObj) (k l : Nat), (ux U τ k σ)[l]? = if inL U (k + l) = true then (σ[l]?).map (fun _ => τ.getD (k + l) .gone) else σ[l]?
  | [], k, l => by simp [ux]
  | o :: r, k, 0 => by simp only [ux, List.getElem?_cons_zero, Nat.add_zero]; split <;> rfl
  | o :: r, k, l + 1 => by
    simp only [ux, List.getElem?_cons_succ]
    rw [ux_get U τ r (k + 1) l, show k + 1 + l = k + (l + 1) by omega]

theorem kept_get {Xs : Nat → AObj} {σ : List AObj} : ∀ {U : List Nat}, kept Xs σ U → ∀ k ∈ U, σ[k]? = some (Xs k)
  | [], _, k, hk => by cases hk
  | a :: r, h, k, hk => by
    rcases List.mem_cons.1 hk with rfl | hk
    · exact h.1
    · exact kept_get h.2 k hk

/-- A store that differs only at open slots. -/
theorem hx_of {U : List Nat} {σ τ : List AObj} (hl : τ.length = σ.length) (h : ∀ l, l ∉ U → τ[l]? = σ[l]?) : hx U (fun l => τ.getD l .gone) 0 σ = τ := by
  apply List.ext_getElem?
  intro l
  rw [hx_get, Nat.zero_add]
  split
  · rename_i hu
    rcases Nat.lt_or_ge l σ.length with h1 | h1
    · rw [List.getElem?_eq_getElem h1, List.getElem?_eq_getElem (by omega : l < τ.length), Option.map_some, List.getD_eq_getElem?_getD, List.getElem?_eq_getElem (by omega : l < τ.length)]
      rfl
    · rw [List.getElem?_eq_none h1, List.getElem?_eq_none (by omega)]; rfl
  · rename_i hu
    exact (h l fun hm => hu (inL_iff.2 hm)).symm

def addAll (b0 : Nat) : List Nat → List Nat
  | [] => []
  | a :: r => (b0 + a) :: addAll b0 r

theorem mem_addAll {b0 : Nat} : ∀ {U : List Nat} {l : Nat}, l ∈ addAll b0 U ↔ ∃ h ∈ U, l = b0 + h
  | [], l => by simp [addAll]
  | a :: r, l => by simp [addAll, mem_addAll]

/-- Operations that do not look at the store. -/
def blindOp (o : Oper) : Bool :=
  match o.op with
  | .move _ | .assign _ | .pick .. | .build .. | .nilCheck _ | .binOp .. | .unOp .not .. | .unOp .neg .. | .makeFunc .. | .fieldAddr .. | .index .. | .extract .. | .field .. | .unOp .xor .. | .convert .. => true
  | .call c => match c.callee with | .builtin .len | .builtin .min | .builtin .max => true | _ => false
  | _ => false

theorem opA_blind {cx : Cx} {o : Oper} {env : Env} {σ σ' : List AObj} {K : AVal → Prop} (hb : blindOp o = true) (h : opA cx o env σ fun a _ => K a) : opA cx o env σ' fun a _ => K a := by
  obtain ⟨dst, op, type, pos, after, guard⟩ := o
  cases op <;> simp only [blindOp] at hb <;> first | cases hb; done | skip
  case move x => exact h
  case assign x => exact h
  case pick c x y => exact h
  case build t ps => exact h
  case nilCheck x => exact h
  case binOp op t x y yt => exact h
  case unOp op t x => cases op <;> first | cases hb; done | exact h
  case makeFunc f a b => exact h
  case fieldAddr s x f => exact h
  case index t x y => exact h
  case extract x i => exact h
  case field s x f => exact h
  case convert s d x => exact h
  case call c =>
    obtain ⟨callee, ⟨args⟩, ⟨ts⟩⟩ := c
    simp only at hb
    split at hb
    · simp only [opA] at h ⊢
      split at h <;> simp_all
    · exact h
    · exact h
    · cases hb

/-- What a quiet operation gives, whatever lies in the open slots. -/
def valA (cx : Cx) (o : Oper) (env : Env) (U : List Nat) (b0 : Nat) (σ : List AObj) (av : AVal) : Prop :=
  match U with
  | [] => opA cx o env σ fun a _ => a = av
  | u :: us => ∀ Xs, opA cx o env (hx (addAll b0 (u :: us)) Xs 0 σ) fun a _ => a = av

theorem valA_all {cx : Cx} {o : Oper} {env : Env} {U : List Nat} {b0 : Nat} {σ : List AObj} {av : AVal} (h : valA cx o env U b0 σ av) (Xs : Nat → AObj) : opA cx o env (hx (addAll b0 U) Xs 0 σ) fun a _ => a = av := by
  cases U with
  | nil =>
    have e : hx (addAll b0 []) Xs 0 σ = σ := by
      apply List.ext_getElem?
      intro l
      rw [hx_get]
      simp [addAll, inL]
    rw [e]; exact h
  | cons u us => exact h Xs

def thereIs (A R : AVal → Prop) : Prop := ∃ av, A av ∧ R av

def guarded (ops : Array Oper) (o : Oper) (env : Env) (skip exec : Env → Prop) : Prop :=
  match o.guard with
  | none => exec env
  | some (j, want) => match guardT ops env j with
    | some (t, b) => (b = want → exec (setB env t want)) ∧ (b = (!want) → skip (setB env t (!want)))
    | none => False

/-- What is pending holds still. -/
def promises (cx : Cx) (ops : Array Oper) (b0 : Nat) (σ : List AObj) (kp : List Nat) : List Pd → Prop
  | [] => True
  | p :: r => (if inL kp p.i = true then (match ops[p.i]? with | some o => valA cx o p.env p.U b0 σ p.av | none => True) else True) ∧ promises cx ops b0 σ kp r

def pdKeep (kp : List Nat) : List Pd → List Pd
  | [] => []
  | p :: r => if inL kp p.i = true then p :: pdKeep kp r else pdKeep kp r

theorem promises_mem {cx : Cx} {ops : Array Oper} {b0 : Nat} {σ : List AObj} {kp : List Nat} : ∀ {pd : List Pd}, promises cx ops b0 σ kp pd → ∀ p ∈ pd, inL kp p.i = true → p ∈ pdKeep kp pd ∧ ∀ o, ops[p.i]? = some o → valA cx o p.env p.U b0 σ p.av
  | [], _, p, hp, _ => by cases hp
  | q :: r, h, p, hp, hk => by
    simp only [promises] at h
    rcases List.mem_cons.1 hp with rfl | hp
    · rw [if_pos hk] at h
      refine ⟨by simp [pdKeep, hk], fun o ho => ?_⟩
      have := h.1
      rw [ho] at this
      exact this
    · obtain ⟨h1, h2⟩ := promises_mem h.2 p hp hk
      refine ⟨?_, h2⟩
      simp only [pdKeep]
      split
      · exact List.mem_cons_of_mem _ h1
      · exact h1

/-- An operation with an effect, whatever lies in the open slots. -/
def effA (cx : Cx) (o : Oper) (env : Env) (U : List Nat) (b0 : Nat) (σ : List AObj) (K : Kont) : Prop :=
  match U with
  | [] => opA cx o env σ K
  | u :: us => ∀ Xs, opA cx o env (hx (addAll b0 (u :: us)) Xs 0 σ) fun av σ' => kept Xs σ' (addAll b0 (u :: us)) ∧ K av (ux (addAll b0 (u :: us)) σ 0 σ')

def runA (cx : Cx) (ops : Array Oper) (b0 : Nat) : List Stp → Env → List AObj → List Pd → (Env → List AObj → Prop) → Prop
  | [], env, σ, _, K => K env σ
  | s :: rest, env, σ, pd, K => match ops[s.i]? with
    | none => False
    | some o => guarded ops o env (fun env => runA cx ops b0 rest (env.put o.dst .any) σ pd K) fun env =>
      match s.cl with
      | .q => thereIs (valA cx o (env.keep s.lk) s.U b0 σ) fun av => runA cx ops b0 rest (env.put o.dst av) σ (if blindOp o = true then pd else ⟨s.i, env.keep s.lk, av, s.U⟩ :: pd) K
      | .e => effA cx o (env.keep s.lk) s.U b0 σ fun av σ' => promises cx ops b0 σ' s.kp pd ∧ runA cx ops b0 rest (env.put o.dst av) σ' (pdKeep s.kp pd) K
      | .fl h => floatA cx o (env.keep s.lk) (b0 + h) fun av obj => σ[b0 + h]? = some .gone ∧ runA cx ops b0 rest (env.put o.dst av) (σ.set (b0 + h) obj) pd K
      | .vt h => virtA cx o ∧ runA cx ops b0 rest (env.put o.dst (.row (b0 + h) 0 0 0)) σ pd K
      | .im => immA cx o (env.keep s.lk) fun av => runA cx ops b0 rest (env.put o.dst av) σ pd K

/-- What is asked of a plan: bef i j: j is done before i, in every order. vs: the slots of empty slices. -/
structure PlanOk (ops : Array Oper) (pl : List Stp) (bef : Nat → Nat → Bool) (vs : List Nat) : Prop where
  down : ∀ i o, ops[i]? = some o → ∀ j, bef i j = true → ∃ e ∈ o.after, Region.binds .any e = true ∧ (e.on = j ∨ bef e.on j = true)
  up : ∀ i o, ops[i]? = some o → ∀ e ∈ o.after, Region.binds .any e = true → bef i e.on = true
  lt : ∀ s ∈ pl, s.i < ops.size
  all : ∀ i, i < ops.size → ∃ s ∈ pl, s.i = i
  nodup : (pl.map (·.i)).Nodup
  topo : ∀ done s rest, pl = done ++ s :: rest → ∀ j, bef s.i j = true → ∃ t ∈ done, t.i = j
  uniq : ∀ done s rest, pl = done ++ s :: rest → s.cl = .e → ∀ s' ∈ rest, ∃ t ∈ s :: rest, bef s'.i t.i = true
  dst : ∀ (i j : Nat) (oi oj : Oper) (d : Nat), ops[i]? = some oi → ops[j]? = some oj → oi.dst = some d → oj.dst = some d → i = j
  look : ∀ s ∈ pl, ∀ t ∈ s.lk, ∀ (j : Nat) (oj : Oper), ops[j]? = some oj → oj.dst = some t → j ≠ s.i ∧ (bef s.i j = true ∨ bef j s.i = true)
  grd : ∀ i o g want, ops[i]? = some o → o.guard = some (g, want) → bef i g = true
  flt : ∀ s ∈ pl, ∀ f ∈ pl, ∀ h, f.cl = .fl h → f.i ≠ s.i → bef s.i f.i = false → h ∈ s.U ∨ (s.cl = .q ∧ ∀ o, ops[s.i]? = some o → blindOp o = true)
  quiet : ∀ s ∈ pl, ∀ o, ops[s.i]? = some o → s.cl = .q → quietOp o = true
  pend : ∀ done s rest, pl = done ++ s :: rest → s.cl = .e → ∀ s' ∈ done, s'.cl = .q → bef s.i s'.i = false → ∀ o, ops[s'.i]? = some o → blindOp o = true ∨ s'.i ∈ s.kp
  virt : ∀ s ∈ pl, ∀ h, s.cl = .vt h → h ∈ vs
  fdis : ∀ s ∈ pl, ∀ s' ∈ pl, ∀ h, s.cl = .fl h → s'.cl = .fl h → s.i = s'.i

end Go.Abs

/- The abstract layer, part 25: regions whose order of evaluation is open: the plan stands for every order. -/
namespace Go.Abs
open Go Go.RowKit

structure Rec where
  env : Env
  av : AVal
  obj : AObj
  run : Bool
  deriving Inhabited

def wr (ops : Array Oper) (t : Nat) : Option Nat := (List.range ops.size).find? fun j => match ops[j]? with | some o => o.dst == some t | none => false

theorem wr_some {ops : Array Oper} {t j : Nat} (h : wr ops t = some j) : ∃ o, ops[j]? = some o ∧ o.dst = some t := by
  have := List.find?_some h
  split at this
  · rename_i o ho; exact ⟨o, ho, by simpa using this⟩
  · cases this

theorem wr_of {ops : Array Oper} (hu : ∀ (i j : Nat) (oi oj : Oper) (d : Nat), ops[i]? = some oi → ops[j]? = some oj → oi.dst = some d → oj.dst = some d → i = j) {j t : Nat} {o : Oper} (ho : ops[j]? = some o) (hd : o.dst = some t) : wr ops t = some j := by
  have hlt : j < ops.size := (Array.getElem?_eq_some_iff.1 ho).1
  cases hw : wr ops t with
  | some i =>
    obtain ⟨oi, h1, h2⟩ := wr_some hw
    rw [hu i j oi o t h1 ho h2 hd]
  | none =>
    have := List.find?_eq_none.1 hw j (List.mem_range.2 hlt)
    rw [ho] at this
    simp [hd] at this

def cur (ops : Array Oper) (R : Nat → Rec) (base : Env) (D : Nat → Bool) (t : Nat) : AVal :=
  match wr ops t with
  | some j => if D j = true then (R j).av else base.get t
  | none => base.get t

def inD (done : List Stp) (j : Nat) : Bool := done.any fun s => s.i == j

theorem inD_iff {done : List Stp} {j : Nat} : inD done j = true ↔ ∃ s ∈ done, s.i = j := by simp [inD]

theorem inD_snoc {done : List Stp} {s : Stp} {j : Nat} : inD (done ++ [s]) j = (inD done j || s.i == j) := by simp [inD]

def PendF (b0 : Nat) (done : List Stp) (R : Nat → Rec) (L : Nat → Bool) (l : Nat) : Prop :=
  ∃ s ∈ done, L s.i = false ∧ (R s.i).run = true ∧ ∃ h, s.cl = .fl h ∧ l = b0 + h

def Prom (cx : Cx) (o : Oper) (s : Stp) (r : Rec) (b0 : Nat) (σ : List AObj) : Prop :=
  s.cl ≠ .e ∧ (r.run = false → r.av = .any) ∧ (r.run = true → match s.cl with
    | .q => quietOp o = true ∧ valA cx o r.env s.U b0 σ r.av
    | .fl h => σ[b0 + h]? = some r.obj ∧ (∀ c, o.op ≠ .defer c) ∧ ∀ B I ρ w σ, Ev cx B I w r.env ρ → SR B I cx.bs σ w → σ[b0 + h]? = some .gone → Done cx o ρ B I σ w r.av (σ.set (b0 + h) r.obj)
    | .vt h => (∀ c, o.op ≠ .defer c) ∧ ∀ B I ρ w σ, Ev cx B I w r.env ρ → SR B I cx.bs σ w → (∀ a, RV B I cx.bs w (.row (b0 + h) 0 0 0) (.slice a 0 0)) → Done cx o ρ B I σ w r.av σ
    | .im => (∀ c, o.op ≠ .defer c) ∧ ∀ B I ρ w σ, Ev cx B I w r.env ρ → SR B I cx.bs σ w → Done cx o ρ B I σ w r.av σ
    | .e => False)

theorem valA_of {cx : Cx} {o : Oper} {env : Env} {U : List Nat} {b0 : Nat} {σ : List AObj} {av : AVal} (h : ∀ Xs, opA cx o env (hx (addAll b0 U) Xs 0 σ) fun a _ => a = av) : valA cx o env U b0 σ av := by
  cases U with
  | nil =>
    have e : hx (addAll b0 []) (fun _ => .gone) 0 σ = σ := by
      apply List.ext_getElem?
      intro l
      rw [hx_get]
      simp [addAll, inL]
    have := h fun _ => .gone
    rw [e] at this
    exact this
  | cons u us => exact h

theorem effA_all {cx : Cx} {o : Oper} {env : Env} {U : List Nat} {b0 : Nat} {σ : List AObj} {K : Kont} (h : effA cx o env U b0 σ K) (Xs : Nat → AObj) :
    opA cx o env (hx (addAll b0 U) Xs 0 σ) fun av σ' => kept Xs σ' (addAll b0 U) ∧ K av (ux (addAll b0 U) σ 0 σ') := by
  cases U with
  | nil =>
    have e : hx (addAll b0 []) Xs 0 σ = σ := by
      apply List.ext_getElem?
      intro l
      rw [hx_get]
      simp [addAll, inL]
    have e2 : ∀ σ', ux (addAll b0 []) σ 0 σ' = σ' := by
      intro σ'
      apply List.ext_getElem?
      intro l
      rw [ux_get]
      simp [addAll, inL]
    rw [e]
    have h' : opA cx o env σ K := h
    have : (fun av σ' => kept Xs σ' (addAll b0 []) ∧ K av (ux (addAll b0 []) σ 0 σ')) = K := by
      funext av σ'
      rw [e2]
      simp [addAll, kept]
    rw [this]
    exact h'
  | cons u us => exact h Xs

theorem ux_length (U : List Nat) (τ : List AObj) : ∀ (σ : List AObj) (k : Nat), (ux U τ k σ).length = σ.length
  | [], _ => rfl
  | o :: r, k => by simp [ux, ux_length U τ r]

theorem hx_set {U : List Nat} {Xs : Nat → AObj} {σ : List AObj} {l : Nat} {x : AObj} (hl : l ∈ U) : hx U Xs 0 (σ.set l x) = hx U Xs 0 σ := by
  apply List.ext_getElem?
  intro k
  rw [hx_get, hx_get, Nat.zero_add]
  by_cases e : k = l
  · subst e
    rw [if_pos (inL_iff.2 hl), if_pos (inL_iff.2 hl)]
    rcases Nat.lt_or_ge k σ.length with h | h
    · rw [List.getElem?_set_self h, List.getElem?_eq_getElem h]; rfl
    · rw [List.getElem?_eq_none (by simpa using h), List.getElem?_eq_none h]
  · rw [List.getElem?_set_ne (fun h => e h.symm)]

section
variable {cx : Cx} {ops : Array Oper} {pl : List Stp} {bef : Nat → Nat → Bool} {vs : List Nat} {b0 : Nat} {base : Env} {L : Nat → Bool}

/-- What has been reckoned. -/
structure Canon (cx : Cx) (ops : Array Oper) (pl : List Stp) (bef : Nat → Nat → Bool) (b0 : Nat) (base : Env) (L : Nat → Bool) (done rest : List Stp) (R : Nat → Rec) (env : Env) (σ : List AObj) (pd : List Pd) : Prop where
  spl : pl = done ++ rest
  env : ∀ t, env.get t = cur ops R base (inD done) t
  LD : ∀ i, L i = true → inD done i = true
  closed : ∀ i, L i = true → ∀ j, bef i j = true → L j = true
  fro : ∀ s ∈ done, ∀ t, (R s.i).env.get t = .any ∨ (t ∈ s.lk ∧ (R s.i).env.get t = cur ops R base (bef s.i) t)
  grd : ∀ s ∈ done, ∀ o, ops[s.i]? = some o → match o.guard with
    | none => (R s.i).run = true
    | some (g, want) => ∃ og tg b, ops[g]? = some og ∧ og.dst = some tg ∧ (R g).av = .val (.bool b) ∧ (R s.i).run = (b == want)
  prom : ∀ s ∈ done, L s.i = false → ∀ o, ops[s.i]? = some o → Prom cx o s (R s.i) b0 σ
  pdk : ∀ s ∈ done, s.cl = .q → L s.i = false → (R s.i).run = true → ∀ o, ops[s.i]? = some o → blindOp o = true ∨ ⟨s.i, (R s.i).env, (R s.i).av, s.U⟩ ∈ pd

/-- What the machine has come to. -/
structure Mach (cx : Cx) (ops : Array Oper) (vs : List Nat) (b0 : Nat) (base : Env) (L : Nat → Bool) (done : List Stp) (R : Nat → Rec) (σ σm : List AObj) (B : BMap) (I : Nat → Prop) (a : Act) (w : World) : Prop where
  tmps : ∀ t, RV B I cx.bs w (cur ops R base L t) (a.tmps.getD t undef)
  len : σm.length = σ.length
  hole : ∀ l, PendF b0 done R L l → σm[l]? = some .gone
  same : ∀ l, ¬ PendF b0 done R L l → σm[l]? = σ[l]?
  sr : SR B I cx.bs σm w
  size : a.tmps.size = cx.N
  marks : Marks cx.h0 w a.defers
  virt : ∀ h ∈ vs, ∀ x, RV B I cx.bs w (.row (b0 + h) 0 0 0) (.slice x 0 0)

theorem notIn {done rest : List Stp} {s : Stp} (hp : PlanOk ops pl bef vs) (spl : pl = done ++ s :: rest) {t : Stp} (ht : t ∈ done) : t.i ≠ s.i := by
  have := hp.nodup
  rw [spl, List.map_append, List.nodup_append] at this
  exact this.2.2 _ (List.mem_map.2 ⟨t, ht, rfl⟩) _ (List.mem_cons_self ..)

def updR (R : Nat → Rec) (i : Nat) (r : Rec) : Nat → Rec := fun j => if j = i then r else R j

theorem updR_ne {R : Nat → Rec} {i j : Nat} {r : Rec} (h : j ≠ i) : updR R i r j = R j := by simp [updR, h]
theorem updR_self {R : Nat → Rec} {i : Nat} {r : Rec} : updR R i r i = r := by simp [updR]

theorem cur_upd {R : Nat → Rec} {i : Nat} {r : Rec} {D : Nat → Bool} (h : D i = false) (t : Nat) : cur ops (updR R i r) base D t = cur ops R base D t := by
  unfold cur
  split
  · rename_i j hj
    by_cases e : j = i
    · subst e; simp [h]
    · rw [updR_ne e]
  · rfl

/-- The frame as it is known when an operation is put behind the others. -/
theorem cur_snoc (hp : PlanOk ops pl bef vs) {done rest : List Stp} {s : Stp} (spl : pl = done ++ s :: rest) {o : Oper} (ho : ops[s.i]? = some o) {R : Nat → Rec} {r : Rec} {env : Env}
    (he : ∀ t, env.get t = cur ops R base (inD done) t) (t : Nat) : (env.put o.dst r.av).get t = cur ops (updR R s.i r) base (inD (done ++ [s])) t := by
  have hs : inD done s.i = false := by
    cases h : inD done s.i with
    | false => rfl
    | true => obtain ⟨u, hu, e⟩ := inD_iff.1 h; exact absurd e (notIn hp spl hu)
  have other : ∀ t, o.dst ≠ some t → cur ops (updR R s.i r) base (inD (done ++ [s])) t = cur ops R base (inD done) t := by
    intro t ht
    unfold cur
    split
    · rename_i j hj
      have e : j ≠ s.i := by
        rintro rfl
        obtain ⟨oj, h1, h2⟩ := wr_some hj
        rw [ho] at h1; cases h1
        exact ht h2
      rw [updR_ne e, inD_snoc]
      have : (s.i == j) = false := by simpa using fun h => e h.symm
      rw [this, Bool.or_false]
    · rfl
  cases hd : o.dst with
  | none =>
    rw [other t (by rw [hd]; simp)]
    exact he t
  | some d =>
    simp only [Env.put, Env.get]
    split
    · rename_i e; subst e
      unfold cur
      rw [wr_of hp.dst ho hd]
      simp only
      rw [if_pos (by rw [inD_snoc]; simp), updR_self]
    · rename_i e
      rw [other t (by rw [hd]; simpa using e)]
      exact he t

theorem done_bef (hp : PlanOk ops pl bef vs) {done rest : List Stp} (spl : pl = done ++ rest) {s : Stp} (hs : s ∈ done) {j : Nat} (hb : bef s.i j = true) : inD done j = true := by
  obtain ⟨x, y, rfl⟩ := List.append_of_mem hs
  obtain ⟨t, ht, e⟩ := hp.topo x s (y ++ rest) (by rw [spl]; simp) j hb
  exact inD_iff.2 ⟨t, by simp [ht], e⟩

theorem keep_any (env : Env) (lk : List Nat) (t : Nat) : (env.keep lk).get t = .any ∨ (t ∈ lk ∧ (env.keep lk).get t = env.get t) := by
  induction lk with
  | nil => exact .inl rfl
  | cons s r ih =>
    show Env.get ((s, env.get s) :: Env.keep env r) t = .any ∨ (_ ∧ Env.get ((s, env.get s) :: Env.keep env r) t = env.get t)
    simp only [Env.get]
    split
    · rename_i e; subst e; exact .inr ⟨List.mem_cons_self .., rfl⟩
    · rcases ih with h | ⟨h1, h2⟩
      · exact .inl h
      · exact .inr ⟨List.mem_cons_of_mem _ h1, h2⟩

theorem Canon.reenv {done rest : List Stp} {R : Nat → Rec} {env env' : Env} {σ : List AObj} {pd : List Pd} (h : Canon cx ops pl bef b0 base L done rest R env σ pd) (he : ∀ t, env'.get t = env.get t) :
    Canon cx ops pl bef b0 base L done rest R env' σ pd :=
  { h with env := fun t => (he t).trans (h.env t) }

/-- What is known when one more operation has been reckoned. -/
theorem Canon.snoc (hp : PlanOk ops pl bef vs) {done rest : List Stp} {s : Stp} {R : Nat → Rec} {env : Env} {σ σ' : List AObj} {pd pd' : List Pd} {L' : Nat → Bool} (h : Canon cx ops pl bef b0 base L done (s :: rest) R env σ pd)
    {o : Oper} (ho : ops[s.i]? = some o) {r : Rec} (hr : r.env = env.keep s.lk)
    (hL : ∀ i, L' i = true ↔ L i = true ∨ (s.cl = .e ∧ i = s.i)) (hcl : s.cl = .e → ∀ j, bef s.i j = true → L j = true)
    (hg : match o.guard with | none => r.run = true | some (g, want) => ∃ b, guardV ops env g = some b ∧ r.run = (b == want))
    (hp1 : s.cl ≠ .e → Prom cx o s r b0 σ')
    (hp2 : ∀ t ∈ done, L' t.i = false → ∀ ot, ops[t.i]? = some ot → Prom cx ot t (R t.i) b0 σ → Prom cx ot t (R t.i) b0 σ')
    (hp3 : ∀ t ∈ done, t.cl = .q → L' t.i = false → (R t.i).run = true → ∀ ot, ops[t.i]? = some ot → blindOp ot = true ∨ ⟨t.i, (R t.i).env, (R t.i).av, t.U⟩ ∈ pd')
    (hp4 : s.cl = .q → r.run = true → blindOp o = true ∨ ⟨s.i, r.env, r.av, s.U⟩ ∈ pd') :
    Canon cx ops pl bef b0 base L' (done ++ [s]) rest (updR R s.i r) (env.put o.dst r.av) σ' pd' := by
  have hne : ∀ t ∈ done, t.i ≠ s.i := fun t ht => notIn hp h.spl ht
  have hLs : L s.i = false := by
    cases e : L s.i with
    | false => rfl
    | true =>
      obtain ⟨u, hu, e2⟩ := inD_iff.1 (h.LD _ e)
      exact absurd e2 (hne u hu)
  have hbs : ∀ t ∈ done, bef t.i s.i = false := by
    intro t ht
    cases e : bef t.i s.i with
    | false => rfl
    | true =>
      obtain ⟨u, hu, e2⟩ := inD_iff.1 (done_bef hp h.spl ht e)
      exact absurd e2 (hne u hu)
  have hss : bef s.i s.i = false := by
    cases e : bef s.i s.i with
    | false => rfl
    | true =>
      obtain ⟨u, hu, e2⟩ := hp.topo done s rest h.spl _ e
      exact absurd e2 (hne u hu)
  have hL' : ∀ t ∈ done, L' t.i = false → L t.i = false := by
    intro t _ ht
    cases e : L t.i with
    | false => rfl
    | true => rw [(hL _).2 (.inl e)] at ht; cases ht
  refine { spl := by rw [h.spl]; simp, env := cur_snoc hp h.spl ho h.env, LD := ?_, closed := ?_, fro := ?_, grd := ?_, prom := ?_, pdk := ?_ }
  · intro i hi
    rw [inD_snoc]
    rcases (hL i).1 hi with h1 | ⟨_, h1⟩
    · rw [h.LD i h1]; rfl
    · rw [h1]; simp
  · intro i hi j hj
    rcases (hL i).1 hi with h1 | ⟨h0, h1⟩
    · exact (hL j).2 (.inl (h.closed i h1 j hj))
    · subst h1
      exact (hL j).2 (.inl (hcl h0 j hj))
  · intro t ht x
    rcases List.mem_append.1 ht with ht | ht
    · rw [updR_ne (hne t ht), cur_upd (hbs t ht)]
      exact h.fro t ht x
    · rw [List.mem_singleton.1 ht, updR_self, cur_upd hss, hr]
      rcases keep_any env s.lk x with e | ⟨e1, e2⟩
      · exact .inl e
      · refine .inr ⟨e1, ?_⟩
        rw [e2, h.env x]
        unfold cur
        split
        · rename_i j hj
          obtain ⟨oj, g1, g2⟩ := wr_some hj
          obtain ⟨_, g4⟩ := hp.look s (by rw [h.spl]; simp) x e1 j oj g1 g2
          have : inD done j = bef s.i j := by
            rcases g4 with g4 | g4
            · rw [g4]
              obtain ⟨u, hu, e3⟩ := hp.topo done s rest h.spl _ g4
              exact inD_iff.2 ⟨u, hu, e3⟩
            · have n1 : inD done j = false := by
                cases e : inD done j with
                | false => rfl
                | true =>
                  obtain ⟨u, hu, e3⟩ := inD_iff.1 e
                  rw [← e3, hbs u hu] at g4; cases g4
              have n2 : bef s.i j = false := by
                cases e : bef s.i j with
                | false => rfl
                | true =>
                  obtain ⟨u, hu, e3⟩ := hp.topo done s rest h.spl _ e
                  rw [← e3, hbs u hu] at g4; cases g4
              rw [n1, n2]
          rw [this]
        · rfl
  · intro t ht ot hot
    have key : ∀ g, g ≠ s.i → ∀ (P : Rec → Prop), P (R g) → P (updR R s.i r g) := fun g hg' P hP => by rw [updR_ne hg']; exact hP
    rcases List.mem_append.1 ht with ht | ht
    · have := h.grd t ht ot hot
      rw [updR_ne (hne t ht)]
      split at this
      · exact this
      · rename_i g want hgd
        obtain ⟨og, tg, b, g1, g2, g3, g4⟩ := this
        refine ⟨og, tg, b, g1, g2, ?_, g4⟩
        have : g ≠ s.i := by
          rintro rfl
          have := hp.grd _ _ _ _ hot hgd
          rw [hbs t ht] at this; cases this
        rw [updR_ne this]; exact g3
    · rw [List.mem_singleton.1 ht] at hot ⊢
      rw [ho] at hot; cases hot
      rw [updR_self]
      split at hg
      · exact hg
      · rename_i g want hgd
        obtain ⟨b, hb, hr'⟩ := hg
        unfold guardV at hb
        split at hb
        · rename_i d hd
          cases hog : ops[g]? with
          | none => simp [hog] at hd
          | some og =>
            simp only [hog, Option.bind_some] at hd
            have hbg := hp.grd _ _ _ _ ho hgd
            obtain ⟨u, hu, e3⟩ := hp.topo done s rest h.spl _ hbg
            have hgs : g ≠ s.i := by rw [← e3]; exact hne u hu
            have e1 := h.env d
            unfold cur at e1
            rw [wr_of hp.dst hog hd] at e1
            simp only at e1
            rw [if_pos (inD_iff.2 ⟨u, hu, e3⟩)] at e1
            split at hb
            · rename_i b' hb'
              cases hb
              exact ⟨og, d, _, rfl, hd, by rw [updR_ne hgs, ← e1]; exact hb', hr'⟩
            · cases hb
        · cases hb
  · intro t ht hLt ot hot
    rcases List.mem_append.1 ht with ht | ht
    · rw [updR_ne (hne t ht)]
      exact hp2 t ht hLt ot hot (h.prom t ht (hL' t ht hLt) ot hot)
    · rw [List.mem_singleton.1 ht] at hot hLt ⊢
      rw [ho] at hot; cases hot
      rw [updR_self]
      refine hp1 fun e => ?_
      rw [(hL s.i).2 (.inr ⟨e, rfl⟩)] at hLt; cases hLt
  · intro t ht hq hLt hrn ot hot
    rcases List.mem_append.1 ht with ht | ht
    · rw [updR_ne (hne t ht)] at hrn ⊢
      exact hp3 t ht hq hLt hrn ot hot
    · rw [List.mem_singleton.1 ht] at hot hLt hrn hq ⊢
      rw [ho] at hot; cases hot
      rw [updR_self] at hrn ⊢
      exact hp4 hq hrn

end
end Go.Abs

/- The abstract layer, part 26: regions whose order of evaluation is open: the steps. -/
namespace Go.Abs
open Go Go.RowKit

theorem guarded_cases {ops : Array Oper} {o : Oper} {env : Env} {skip exec : Env → Prop} (h : guarded ops o env skip exec) :
    ∃ (run : Bool) (env' : Env), (∀ t, env'.get t = env.get t) ∧ (match o.guard with | none => run = true | some (g, want) => ∃ b, guardV ops env' g = some b ∧ run = (b == want)) ∧ (run = true → exec env') ∧ (run = false → skip env') := by
  unfold guarded at h
  cases hg : o.guard with
  | none =>
    rw [hg] at h
    exact ⟨true, env, fun _ => rfl, rfl, fun _ => h, fun e => by cases e⟩
  | some p =>
    obtain ⟨j, want⟩ := p
    rw [hg] at h
    simp only at h ⊢
    split at h
    · rename_i t b hb
      obtain ⟨hv, hs⟩ := guardT_V hb
      have hv' : ∀ env', (∀ t, env'.get t = env.get t) → guardV ops env' j = some b := by
        intro env' he
        unfold guardV at hv ⊢
        split
        · rename_i d hd
          rw [hd] at hv
          simp only at hv
          rw [he d]; exact hv
        · rename_i hd; rw [hd] at hv; exact hv
      by_cases e : b = want
      · subst e
        exact ⟨true, _, hs, ⟨b, hv' _ hs, by simp⟩, fun _ => h.1 rfl, fun e => by cases e⟩
      · have e2 : b = !want := by cases b <;> cases want <;> simp_all
        rw [e2] at hs
        exact ⟨false, _, hs, ⟨b, hv' _ hs, by rw [e2]; cases want <;> rfl⟩, (fun e => by cases e), fun _ => h.2 e2⟩
    · exact h.elim

theorem valA_set {cx : Cx} {o : Oper} {env : Env} {U : List Nat} {b0 h : Nat} {σ : List AObj} {x : AObj} {av : AVal} (hv : valA cx o env U b0 σ av) (hU : h ∈ U) : valA cx o env U b0 (σ.set (b0 + h) x) av :=
  valA_of fun Xs => by rw [hx_set (mem_addAll.2 ⟨h, hU, rfl⟩)]; exact valA_all hv Xs

section
variable {cx : Cx} {ops : Array Oper} {pl : List Stp} {bef : Nat → Nat → Bool} {vs : List Nat} {b0 : Nat} {K : Env → List AObj → Prop} {base : Env} {L : Nat → Bool}

/-- An operation without an effect on what is there is reckoned. -/
theorem Canon.settle1 (hp : PlanOk ops pl bef vs) {done rest : List Stp} {s : Stp} {R : Nat → Rec} {env : Env} {σ σm : List AObj} {pd : List Pd} {B : BMap} {I : Nat → Prop} {a : Act} {w : World}
    (h : Canon cx ops pl bef b0 base L done (s :: rest) R env σ pd) (hrun : runA cx ops b0 (s :: rest) env σ pd K) (hm : Mach cx ops vs b0 base L done R σ σm B I a w) (hse : s.cl ≠ .e) :
    ∃ R' env' σ' pd', Canon cx ops pl bef b0 base L (done ++ [s]) rest R' env' σ' pd' ∧ runA cx ops b0 rest env' σ' pd' K ∧ Mach cx ops vs b0 base L (done ++ [s]) R' σ' σm B I a w := by
  have hspl : s ∈ pl := by rw [h.spl]; simp
  have hne : ∀ t ∈ done, t.i ≠ s.i := fun t ht => notIn hp h.spl ht
  have hLs : L s.i = false := by
    cases e : L s.i with
    | false => rfl
    | true =>
      obtain ⟨u, hu, e2⟩ := inD_iff.1 (h.LD _ e)
      exact absurd e2 (hne u hu)
  have hbs : ∀ t ∈ done, bef t.i s.i = false := by
    intro t ht
    cases e : bef t.i s.i with
    | false => rfl
    | true =>
      have hspl' := h.spl
      obtain ⟨u, hu, e2⟩ := inD_iff.1 (done_bef hp hspl' ht e)
      exact absurd e2 (hne u hu)
  obtain ⟨o, ho⟩ : ∃ o, ops[s.i]? = some o := ⟨_, Array.getElem?_eq_getElem (hp.lt s hspl)⟩
  simp only [runA, ho] at hrun
  obtain ⟨run, env', henv, hg, hex, hsk⟩ := guarded_cases hrun
  replace h := h.reenv henv
  clear henv hrun
  revert h hg hex hsk
  generalize env' = env
  intro hg hex hsk h
  have hL : ∀ i, L i = true ↔ L i = true ∨ (s.cl = .e ∧ i = s.i) := fun i => ⟨.inl, fun h => h.elim id fun h => absurd h.1 hse⟩
  -- what the machine has come to is the same
  have mach : ∀ (r : Rec) (σ' : List AObj), σ'.length = σ.length → (∀ l, (r.run = true ∧ ∃ h, s.cl = .fl h ∧ l = b0 + h) → σ[l]? = some .gone) → (∀ l, ¬ (r.run = true ∧ ∃ h, s.cl = .fl h ∧ l = b0 + h) → σ'[l]? = σ[l]?) →
      Mach cx ops vs b0 base L (done ++ [s]) (updR R s.i r) σ' σm B I a w := by
    intro r σ' hlen hfill hkeep
    have hpf : ∀ l, PendF b0 (done ++ [s]) (updR R s.i r) L l ↔ PendF b0 done R L l ∨ (r.run = true ∧ ∃ h, s.cl = .fl h ∧ l = b0 + h) := by
      intro l
      constructor
      · rintro ⟨t, ht, h1, h2, h3⟩
        rcases List.mem_append.1 ht with ht | ht
        · rw [updR_ne (hne t ht)] at h2
          exact .inl ⟨t, ht, h1, h2, h3⟩
        · rw [List.mem_singleton.1 ht, updR_self] at h2
          rw [List.mem_singleton.1 ht] at h3
          exact .inr ⟨h2, h3⟩
      · rintro (⟨t, ht, h1, h2, h3⟩ | ⟨h2, h3⟩)
        · exact ⟨t, by simp [ht], h1, by rw [updR_ne (hne t ht)]; exact h2, h3⟩
        · exact ⟨s, by simp, hLs, by rw [updR_self]; exact h2, h3⟩
    refine { tmps := fun t => by rw [cur_upd hLs]; exact hm.tmps t, len := hm.len.trans hlen.symm, hole := fun l hl => ?_, same := fun l hl => ?_, sr := hm.sr, size := hm.size, marks := hm.marks, virt := hm.virt }
    · by_cases hq : PendF b0 done R L l
      · exact hm.hole l hq
      · rcases (hpf l).1 hl with h1 | h1
        · exact absurd h1 hq
        · rw [hm.same l hq]; exact hfill l h1
    · have := fun e => hl ((hpf l).2 e)
      rw [hm.same l fun e => this (.inl e), hkeep l fun e => this (.inr e)]
  have same : ∀ (r : Rec), (r.run = true → ∀ h, s.cl ≠ .fl h) → Mach cx ops vs b0 base L (done ++ [s]) (updR R s.i r) σ σm B I a w := fun r hr =>
    mach r σ rfl (fun l ⟨h1, x, h2, _⟩ => absurd h2 (hr h1 x)) fun _ _ => rfl
  have pd3 : ∀ {pd' : List Pd}, (∀ p ∈ pd, p ∈ pd') → ∀ t ∈ done, t.cl = .q → L t.i = false → (R t.i).run = true → ∀ ot, ops[t.i]? = some ot → blindOp ot = true ∨ ⟨t.i, (R t.i).env, (R t.i).av, t.U⟩ ∈ pd' :=
    fun hpd t ht hq hl hr ot hot => (h.pdk t ht hq hl hr ot hot).imp id (hpd _)
  cases run with
  | false =>
    refine ⟨_, _, σ, pd, h.snoc hp ho (r := ⟨env.keep s.lk, .any, .gone, false⟩) (L' := L) (σ' := σ) (pd' := pd) rfl hL (fun e => absurd e hse) hg (fun _ => ⟨hse, fun _ => rfl, fun e => by cases e⟩) (fun _ _ _ _ _ h => h) (pd3 fun _ h => h) (fun _ e => by cases e), hsk rfl, same _ fun e => by cases e⟩
  | true =>
    have hex := hex rfl
    cases hc : s.cl with
    | e => exact absurd hc hse
    | q =>
      rw [hc] at hex
      obtain ⟨av, hv, hrest⟩ := hex
      refine ⟨_, _, σ, _, h.snoc hp ho (r := ⟨env.keep s.lk, av, .gone, true⟩) (L' := L) (σ' := σ) (pd' := if blindOp o = true then pd else ⟨s.i, env.keep s.lk, av, s.U⟩ :: pd) rfl hL (fun e => absurd e hse) hg (fun _ => ⟨hse, (fun e => by cases e), fun _ => ?_⟩)
        (fun _ _ _ _ _ h => h) (pd3 fun p hp => ?_) (fun _ _ => ?_), hrest, same _ fun _ h => by rw [hc]; exact Cl.noConfusion⟩
      · rw [hc]; exact ⟨hp.quiet s hspl o ho hc, hv⟩
      · split
        · exact hp
        · exact List.mem_cons_of_mem _ hp
      · by_cases hb : blindOp o = true
        · exact .inl hb
        · rw [if_neg hb]; exact .inr (List.mem_cons_self ..)
    | fl k =>
      rw [hc] at hex
      obtain ⟨hd, av, obj, ⟨hgone, hrest⟩, hdo⟩ := floatA_sound hex
      have hlt : b0 + k < σ.length := (List.getElem?_eq_some_iff.1 hgone).1
      refine ⟨_, _, σ.set (b0 + k) obj, pd, h.snoc hp ho (r := ⟨env.keep s.lk, av, obj, true⟩) (L' := L) (σ' := σ.set (b0 + k) obj) (pd' := pd) rfl hL (fun e => absurd e hse) hg (fun _ => ⟨hse, (fun e => by cases e), fun _ => ?_⟩)
        (fun t ht hl ot hot hpt => ?_) (pd3 fun _ h => h) (fun e => by rw [hc] at e; cases e), hrest, mach _ _ (by simp) (fun l ⟨_, x, h1, h2⟩ => ?_) (fun l hl => ?_)⟩
      · rw [hc]
        exact ⟨List.getElem?_set_self hlt, hd, fun B I ρ w σ h1 h2 h3 => hdo B I ρ w σ h1 h2 h3⟩
      · obtain ⟨p1, p2, p3⟩ := hpt
        refine ⟨p1, p2, fun hr => ?_⟩
        have p3 := p3 hr
        cases htc : t.cl with
        | e => exact absurd htc p1
        | q =>
          rw [htc] at p3
          refine ⟨p3.1, ?_⟩
          rcases hp.flt t (by rw [h.spl]; simp [ht]) s hspl k hc (fun e => hne t ht e.symm) (hbs t ht) with e | ⟨_, e⟩
          · exact valA_set p3.2 e
          · exact valA_of fun Xs => opA_blind (e ot hot) (valA_all p3.2 Xs)
        | fl k2 =>
          rw [htc] at p3
          have hkk : b0 + k ≠ b0 + k2 := by
            intro e
            have : k = k2 := by omega
            subst this
            exact hne t ht (hp.fdis t (by rw [h.spl]; simp [ht]) s hspl k htc hc)
          exact ⟨by rw [List.getElem?_set_ne hkk]; exact p3.1, p3.2⟩
        | vt _ => rw [htc] at p3; exact p3
        | im => rw [htc] at p3; exact p3
      · rw [hc] at h1; cases h1; rw [h2]; exact hgone
      · exact List.getElem?_set_ne fun e => hl ⟨rfl, k, hc, e.symm⟩
    | vt k =>
      rw [hc] at hex
      obtain ⟨hv, hrest⟩ := hex
      obtain ⟨hd, hdo⟩ := virtA_sound hv
      refine ⟨_, _, σ, pd, h.snoc hp ho (r := ⟨env.keep s.lk, .row (b0 + k) 0 0 0, .gone, true⟩) (L' := L) (σ' := σ) (pd' := pd) rfl hL (fun e => absurd e hse) hg (fun _ => ⟨hse, (fun e => by cases e), fun _ => ?_⟩)
        (fun _ _ _ _ _ h => h) (pd3 fun _ h => h) (fun e => by rw [hc] at e; cases e), hrest, same _ fun _ h => by rw [hc]; exact Cl.noConfusion⟩
      rw [hc]
      exact ⟨hd, fun B I ρ w σ h1 h2 h3 => hdo B I ρ w σ _ _ h1 h2 h3⟩
    | im =>
      rw [hc] at hex
      obtain ⟨hd, av, hrest, hdo⟩ := immA_sound hex
      refine ⟨_, _, σ, pd, h.snoc hp ho (r := ⟨env.keep s.lk, av, .gone, true⟩) (L' := L) (σ' := σ) (pd' := pd) rfl hL (fun e => absurd e hse) hg (fun _ => ⟨hse, (fun e => by cases e), fun _ => ?_⟩)
        (fun _ _ _ _ _ h => h) (pd3 fun _ h => h) (fun e => by rw [hc] at e; cases e), hrest, same _ fun _ h => by rw [hc]; exact Cl.noConfusion⟩
      rw [hc]
      exact ⟨hd, fun B I ρ w σ h1 h2 => hdo B I ρ w σ h1 h2⟩

/-- All is reckoned till an effect is next, or the end. -/
theorem Canon.settle (hp : PlanOk ops pl bef vs) : ∀ {rest done : List Stp} {R : Nat → Rec} {env : Env} {σ σm : List AObj} {pd : List Pd} {B : BMap} {I : Nat → Prop} {a : Act} {w : World},
    Canon cx ops pl bef b0 base L done rest R env σ pd → runA cx ops b0 rest env σ pd K → Mach cx ops vs b0 base L done R σ σm B I a w →
    ∃ done' rest' R' env' σ' pd', Canon cx ops pl bef b0 base L done' rest' R' env' σ' pd' ∧ runA cx ops b0 rest' env' σ' pd' K ∧ Mach cx ops vs b0 base L done' R' σ' σm B I a w ∧ (rest' = [] ∨ ∃ s r, rest' = s :: r ∧ s.cl = .e)
  | [], done, R, env, σ, σm, pd, B, I, a, w, h, hr, hm => ⟨_, _, _, _, _, _, h, hr, hm, .inl rfl⟩
  | s :: rest, done, R, env, σ, σm, pd, B, I, a, w, h, hr, hm => by
    by_cases hse : s.cl = .e
    · exact ⟨_, _, _, _, _, _, h, hr, hm, .inr ⟨s, rest, rfl, hse⟩⟩
    · obtain ⟨R', env', σ', pd', h', hr', hm'⟩ := h.settle1 hp hr hm hse
      exact h'.settle hp hr' hm'

/-- One operation more has been done by the machine. -/
def addI (L : Nat → Bool) (i : Nat) : Nat → Bool := fun j => L j || j == i

theorem addI_iff {i j : Nat} : addI L i j = true ↔ L j = true ∨ j = i := by simp [addI]
theorem addI_false {i j : Nat} (h : addI L i j = false) : L j = false ∧ j ≠ i := by simpa [addI] using h

theorem Canon.addL {done rest : List Stp} {R : Nat → Rec} {env : Env} {σ : List AObj} {pd : List Pd} (h : Canon cx ops pl bef b0 base L done rest R env σ pd) {s : Stp} (hs : s ∈ done) (hr : ∀ j, bef s.i j = true → L j = true) :
    Canon cx ops pl bef b0 base (addI L s.i) done rest R env σ pd where
  spl := h.spl
  env := h.env
  LD i hi := by
    rcases addI_iff.1 hi with h1 | h1
    · exact h.LD i h1
    · exact inD_iff.2 ⟨s, hs, h1.symm⟩
  closed i hi j hj := by
    rcases addI_iff.1 hi with h1 | h1
    · exact addI_iff.2 (.inl (h.closed i h1 j hj))
    · subst h1; exact addI_iff.2 (.inl (hr j hj))
  fro := h.fro
  grd := h.grd
  prom t ht hl := h.prom t ht (addI_false hl).1
  pdk t ht hq hl := h.pdk t ht hq (addI_false hl).1

theorem cur_addI (hp : PlanOk ops pl bef vs) {R : Nat → Rec} {i : Nat} {o : Oper} (ho : ops[i]? = some o) (t : Nat) : cur ops R base (addI L i) t = if o.dst = some t then (R i).av else cur ops R base L t := by
  unfold cur
  split
  · rename_i j hj
    obtain ⟨oj, h1, h2⟩ := wr_some hj
    by_cases e : j = i
    · subst e
      rw [ho] at h1; cases h1
      rw [if_pos h2, if_pos (by simp [addI])]
    · rw [if_neg (fun hd => e (hp.dst j i oj o t h1 ho h2 hd))]
      have : addI L i j = L j := by simp [addI, e]
      rw [this]
  · rename_i hn
    rw [if_neg (fun hd => by rw [wr_of hp.dst ho hd] at hn; cases hn)]

theorem put_get {a : Act} {d : Option Tmp} {v : Value} (hd : ∀ t, d = some t → t < a.tmps.size) (t : Nat) : (a.put d v).tmps.getD t undef = if d = some t then v else a.tmps.getD t undef := by
  cases d with
  | none => rfl
  | some k =>
    have hk := hd k rfl
    simp only [Act.put]
    split
    · rename_i e; cases e
      rw [Array.getD_eq_getD_getElem?, Array.getElem?_setIfInBounds_self_of_lt hk]
      rfl
    · rename_i e
      rw [Array.getD_eq_getD_getElem?, Array.getElem?_setIfInBounds_ne (fun h => e (by rw [h])), ← Array.getD_eq_getD_getElem?]

/-- A store at rest: the machine has done what was pending. -/
theorem Mach.put (hp : PlanOk ops pl bef vs) (hd : dstOk cx.N ops = true) {done done' : List Stp} {R : Nat → Rec} {σ σ' σm σm' : List AObj} {B B' : BMap} {I I' : Nat → Prop} {a : Act} {w w' : World} {i : Nat} {o : Oper} (ho : ops[i]? = some o)
    (hm : Mach cx ops vs b0 base L done R σ σm B I a w) {av : AVal} {v : Value} (hav : (R i).av = av)
    (hsr : SR B' I' cx.bs σm' w') (hrv : RV B' I' cx.bs w' av v) (hext : Ext cx.m B I σm w B' I' σm' w') (hB : ∀ l ver x, B l ver = some x → B' l ver = some x)
    (hlen : σm'.length = σ'.length) (hhole : ∀ l, PendF b0 done' R (addI L i) l → σm'[l]? = some .gone) (hsame : ∀ l, ¬ PendF b0 done' R (addI L i) l → σm'[l]? = σ'[l]?) :
    Mach cx ops vs b0 base (addI L i) done' R σ' σm' B' I' (a.put o.dst v) w' := by
  have hdo : ∀ t, o.dst = some t → t < a.tmps.size := by
    intro t ht
    rw [hm.size]
    have hlt := (Array.getElem?_eq_some_iff.1 ho).1
    have hmem : o ∈ ops.toList := by
      rw [← (Array.getElem?_eq_some_iff.1 ho).2]
      exact Array.getElem_mem_toList hlt
    have := List.all_eq_true.1 hd o hmem
    rw [ht] at this
    exact Nat.le_of_ble_eq_true this
  refine { tmps := fun t => ?_, len := hlen, hole := hhole, same := hsame, sr := hsr, size := ?_, marks := ?_, virt := fun h hh x => (hm.virt h hh x).ext hm.sr hext hB }
  · rw [cur_addI hp ho, put_get hdo]
    split
    · rw [hav]; exact hrv
    · exact (hm.tmps t).ext hm.sr hext hB
  · cases o.dst with
    | none => exact hm.size
    | some t => simp only [Act.put, Array.size_setIfInBounds]; exact hm.size
  · have : (a.put o.dst v).defers = a.defers := by cases o.dst <;> rfl
    rw [this]
    exact hm.marks.ext hm.sr hext

end
end Go.Abs

/- The abstract layer, part 27: regions whose order of evaluation is open: every order. -/
namespace Go.Abs
open Go Go.RowKit

section
variable {cx : Cx} {ops : Array Oper} {pl : List Stp} {bef : Nat → Nat → Bool} {vs : List Nat} {b0 : Nat} {K : Env → List AObj → Prop} {base : Env} {L : Nat → Bool}

theorem map_inj {pl : List Stp} (h : (pl.map (·.i)).Nodup) {s t : Stp} (hs : s ∈ pl) (ht : t ∈ pl) (e : s.i = t.i) : s = t := by
  induction pl with
  | nil => cases hs
  | cons x r ih =>
    simp only [List.map_cons, List.nodup_cons] at h
    rcases List.mem_cons.1 hs with e1 | hs' <;> rcases List.mem_cons.1 ht with e2 | ht'
    · rw [e1, e2]
    · exact absurd (List.mem_map.2 ⟨t, ht', by rw [← e, e1]⟩) h.1
    · exact absurd (List.mem_map.2 ⟨s, hs', by rw [e, e2]⟩) h.1
    · exact ih h.2 hs' ht'

theorem yielded_of {ops : Array Oper} {a : Act} {g tg : Nat} {b : Bool} {og : Oper} (h1 : ops[g]? = some og) (h2 : og.dst = some tg) (h : a.tmps.getD tg undef = .bool b) : yielded ops a.tmps g = some b := by
  unfold yielded
  simp only [h1, Option.bind_some, h2]
  have hlt : tg < a.tmps.size := by
    rcases Nat.lt_or_ge tg a.tmps.size with h' | h'
    · exact h'
    · rw [Array.getD_eq_getD_getElem?, Array.getElem?_eq_none h'] at h
      cases h
  rw [Array.getD_eq_getD_getElem?, Array.getElem?_eq_getElem hlt] at h
  rw [Array.getElem?_eq_getElem hlt, show a.tmps[tg] = .bool b from h]

theorem wanted_of (hp : PlanOk ops pl bef vs) {done : List Stp} {R : Nat → Rec} {σ σm : List AObj} {B : BMap} {I : Nat → Prop} {a : Act} {w : World} (hm : Mach cx ops vs b0 base L done R σ σm B I a w) {i : Nat} {o : Oper} (ho : ops[i]? = some o) (hr : ∀ j, bef i j = true → L j = true) {run : Bool}
    (hg : match o.guard with
      | none => run = true
      | some (g, want) => ∃ og tg b, ops[g]? = some og ∧ og.dst = some tg ∧ (R g).av = .val (.bool b) ∧ run = (b == want)) : Region.wanted o (yielded ops a.tmps) = run := by
  unfold Region.wanted
  cases hgd : o.guard with
  | none => rw [hgd] at hg; rw [hg]
  | some p =>
    obtain ⟨g, want⟩ := p
    rw [hgd] at hg
    obtain ⟨og, tg, b, h1, h2, h3, h4⟩ := hg
    have hv := hm.tmps tg
    unfold cur at hv
    rw [wr_of hp.dst h1 h2] at hv
    simp only at hv
    rw [if_pos (hr _ (hp.grd _ _ _ _ ho hgd)), h3] at hv
    simp only
    rw [yielded_of h1 h2 hv.valEq, h4]
    cases b <;> cases want <;> rfl

theorem pendF_add {done : List Stp} {R : Nat → Rec} {i l : Nat} (h : PendF b0 done R (addI L i) l) : PendF b0 done R L l := by
  obtain ⟨t, ht, h1, h2, h3⟩ := h
  exact ⟨t, ht, (addI_false h1).1, h2, h3⟩

/-- What was pending is done. -/
theorem exec_pending (hp : PlanOk ops pl bef vs) (hd : dstOk cx.N ops = true) {done rest : List Stp} {R : Nat → Rec} {env : Env} {σ σm : List AObj} {pd : List Pd} {B : BMap} {I : Nat → Prop} {a : Act} {w : World}
    (h : Canon cx ops pl bef b0 base L done rest R env σ pd) (hm : Mach cx ops vs b0 base L done R σ σm B I a w) {s : Stp} (hs : s ∈ done) (hLs : L s.i = false) (hr : ∀ j, bef s.i j = true → L j = true)
    {Kn : Act → World → Prop} {Qx : Exit → Act → World → Prop}
    (hk : ∀ B' I' σm' a' w', Mach cx ops vs b0 base (addI L s.i) done R σ σm' B' I' a' w' → Ext cx.m B I σm w B' I' σm' w' → Kn a' w') : wpOpIn (FR cx.rd) 0 cx.P ops Qx s.i Kn a w := by
  have hspl : s ∈ pl := by rw [h.spl]; simp [hs]
  obtain ⟨o, ho⟩ : ∃ o, ops[s.i]? = some o := ⟨_, Array.getElem?_eq_getElem (hp.lt s hspl)⟩
  have hw := wanted_of hp hm ho hr (h.grd s hs o ho)
  obtain ⟨p1, p2, p3⟩ := h.prom s hs hLs o ho
  have inj : ∀ t ∈ done, t.i = s.i → t = s := fun t ht e => map_inj hp.nodup (by rw [h.spl]; simp [ht]) hspl e
  have hev : Ev cx B I w (R s.i).env a.eval := by
    have : EnvR B I cx.bs w (R s.i).env a.tmps := by
      intro t
      rcases h.fro s hs t with e | ⟨e1, e2⟩
      · rw [e]; exact .any _
      · rw [e2]
        have : cur ops R base (bef s.i) t = cur ops R base L t := by
          unfold cur
          split
          · rename_i j hj
            obtain ⟨oj, g1, g2⟩ := wr_some hj
            obtain ⟨_, g4⟩ := hp.look s hspl t e1 j oj g1 g2
            have : bef s.i j = L j := by
              rcases g4 with g4 | g4
              · rw [g4, hr j g4]
              · have n1 : L j = false := by
                  cases e : L j with
                  | false => rfl
                  | true => have := h.closed j e _ g4; rw [hLs] at this; cases this
                have n2 : bef s.i j = false := by
                  cases e : bef s.i j with
                  | false => rfl
                  | true => have := hr j e; rw [n1] at this; cases this
                rw [n1, n2]
            rw [this]
          · rfl
        rw [this]
        exact hm.tmps t
    exact fun x => EnvR.eval this hm.sr.gl x
  -- the same store
  have same : (∀ k, s.cl = .fl k → (R s.i).run = false) → (∀ l, PendF b0 done R (addI L s.i) l → σm[l]? = some .gone) ∧ ∀ l, ¬ PendF b0 done R (addI L s.i) l → σm[l]? = σ[l]? := by
    intro hnf
    refine ⟨fun l hl => hm.hole l (pendF_add hl), fun l hl => hm.same l fun ⟨t, ht, h1, h2, k, h3, h4⟩ => ?_⟩
    by_cases e : t.i = s.i
    · have := inj t ht e
      subst this
      rw [hnf k h3] at h2; cases h2
    · exact hl ⟨t, ht, by simp [addI, h1, e], h2, k, h3, h4⟩
  have fin : ∀ (hd' : ∀ c, o.op ≠ .defer c) {σm' : List AObj} {v : Value} {w' : World} {B' : BMap} {I' : Nat → Prop}, (R s.i).run = true → (execOp a.eval o).run cx.P w = .ok (.value v) w' → SR B' I' cx.bs σm' w' → RV B' I' cx.bs w' (R s.i).av v → Ext cx.m B I σm w B' I' σm' w' →
      (∀ l ver x, B l ver = some x → B' l ver = some x) → σm'.length = σ.length → (∀ l, PendF b0 done R (addI L s.i) l → σm'[l]? = some .gone) → (∀ l, ¬ PendF b0 done R (addI L s.i) l → σm'[l]? = σ[l]?) → wpOpIn (FR cx.rd) 0 cx.P ops Qx s.i Kn a w := by
    intro hd' σm' v w' B' I' hrn hrun hsr hrv hext hB hlen hh hsm
    unfold wpOpIn
    simp only [ho, hw, hrn, if_true]
    exact wp_value hd' hrun (hk B' I' σm' _ w' (hm.put hp hd ho rfl hsr hrv hext hB hlen hh hsm) hext)
  cases hrn : (R s.i).run with
  | false =>
    obtain ⟨s1, s2⟩ := same fun _ _ => hrn
    unfold wpOpIn
    simp only [ho, hw, hrn, Bool.false_eq_true, if_false]
    exact ⟨fun _ _ => trivial, hk B I σm _ w (hm.put hp hd ho (p2 hrn) hm.sr (.any _) (.refl ..) (fun _ _ _ h => h) hm.len s1 s2) (.refl ..)⟩
  | true =>
    have p3 := p3 hrn
    cases hc : s.cl with
    | e => exact absurd hc p1
    | q =>
      rw [hc] at p3
      obtain ⟨s1, s2⟩ := same fun k e => by rw [hc] at e; cases e
      have hq : opA cx o (R s.i).env σm fun a _ => a = (R s.i).av := by
        by_cases hbl : blindOp o = true
        · exact opA_blind hbl (valA_all p3.2 fun _ => .gone)
        have hxe : hx (addAll b0 s.U) (fun l => σm.getD l .gone) 0 σ = σm := hx_of hm.len fun l hl => hm.same l fun ⟨t, ht, h1, h2, k, h3, h4⟩ => by
          have hne : t.i ≠ s.i := fun e => by rw [inj t ht e, hc] at h3; cases h3
          have hb : bef s.i t.i = false := by
            cases e : bef s.i t.i with
            | false => rfl
            | true => rw [hr _ e] at h1; cases h1
          rcases hp.flt s hspl t (by rw [h.spl]; simp [ht]) k h3 hne hb with e | ⟨_, e⟩
          · exact hl (mem_addAll.2 ⟨k, e, h4⟩)
          · exact hbl (e o ho)
        have hq := valA_all p3.2 (fun l => σm.getD l .gone)
        rw [hxe] at hq
        exact hq
      obtain ⟨av, e, hv⟩ := opQ_sound p3.1 hq
      subst e
      obtain ⟨v, r1, r2⟩ := hv B I a.eval w hev hm.sr
      exact fin (quietOp_defer p3.1) hrn r1 hm.sr r2 (.refl ..) (fun _ _ _ h => h) hm.len s1 s2
    | fl k =>
      rw [hc] at p3
      obtain ⟨q1, q2, q3⟩ := p3
      have hpf : PendF b0 done R L (b0 + k) := ⟨s, hs, hLs, hrn, k, hc, rfl⟩
      have hg := hm.hole _ hpf
      obtain ⟨v, w', B', I', r1, r2, r3, r4, r5⟩ := q3 B I a.eval w σm hev hm.sr hg
      have hlt : b0 + k < σm.length := (List.getElem?_eq_some_iff.1 hg).1
      refine fin q2 hrn r1 r2 r3 r4 r5 (by simpa using hm.len) (fun l hl => ?_) (fun l hl => ?_)
      · have hl' := hl
        obtain ⟨t, ht, h1, h2, k2, h3, h4⟩ := hl'
        have hne : b0 + k ≠ l := by
          rintro rfl
          have : k = k2 := by omega
          subst this
          exact (addI_false h1).2 (hp.fdis t (by rw [h.spl]; simp [ht]) s hspl k h3 hc)
        rw [List.getElem?_set_ne hne]
        exact hm.hole l (pendF_add hl)
      · by_cases e : l = b0 + k
        · subst e
          rw [List.getElem?_set_self hlt, q1]
        · rw [List.getElem?_set_ne (fun h => e h.symm)]
          refine hm.same l fun ⟨t, ht, h1, h2, k2, h3, h4⟩ => ?_
          by_cases e2 : t.i = s.i
          · have := inj t ht e2
            subst this
            rw [hc] at h3; cases h3
            exact e h4
          · exact hl ⟨t, ht, by simp [addI, h1, e2], h2, k2, h3, h4⟩
    | vt k =>
      rw [hc] at p3
      obtain ⟨s1, s2⟩ := same fun k e => by rw [hc] at e; cases e
      obtain ⟨v, w', B', I', r1, r2, r3, r4, r5⟩ := p3.2 B I a.eval w σm hev hm.sr (hm.virt k (hp.virt s hspl k hc))
      exact fin p3.1 hrn r1 r2 r3 r4 r5 hm.len s1 s2
    | im =>
      rw [hc] at p3
      obtain ⟨s1, s2⟩ := same fun k e => by rw [hc] at e; cases e
      obtain ⟨v, w', B', I', r1, r2, r3, r4, r5⟩ := p3.2 B I a.eval w σm hev hm.sr
      exact fin p3.1 hrn r1 r2 r3 r4 r5 hm.len s1 s2

theorem Mach.upd {done : List Stp} {R : Nat → Rec} {σ σm : List AObj} {B : BMap} {I : Nat → Prop} {a : Act} {w : World} (hm : Mach cx ops vs b0 base L done R σ σm B I a w) {i : Nat} (hL : L i = false) (hne : ∀ t ∈ done, t.i ≠ i) (r : Rec) :
    Mach cx ops vs b0 base L done (updR R i r) σ σm B I a w := by
  have hpf : ∀ l, PendF b0 done (updR R i r) L l ↔ PendF b0 done R L l := by
    intro l
    constructor
    · rintro ⟨t, ht, h1, h2, h3⟩
      rw [updR_ne (hne t ht)] at h2
      exact ⟨t, ht, h1, h2, h3⟩
    · rintro ⟨t, ht, h1, h2, h3⟩
      exact ⟨t, ht, h1, by rw [updR_ne (hne t ht)]; exact h2, h3⟩
  exact { tmps := fun t => by rw [cur_upd hL]; exact hm.tmps t, len := hm.len, hole := fun l hl => hm.hole l ((hpf l).1 hl), same := fun l hl => hm.same l fun e => hl ((hpf l).2 e), sr := hm.sr, size := hm.size, marks := hm.marks, virt := hm.virt }

/-- The next effect is done. -/
theorem exec_eff (hp : PlanOk ops pl bef vs) (hd : dstOk cx.N ops = true) {done rest : List Stp} {s : Stp} {R : Nat → Rec} {env : Env} {σ σm : List AObj} {pd : List Pd} {B : BMap} {I : Nat → Prop} {a : Act} {w : World}
    (h : Canon cx ops pl bef b0 base L done (s :: rest) R env σ pd) (hrun : runA cx ops b0 (s :: rest) env σ pd K) (hm : Mach cx ops vs b0 base L done R σ σm B I a w) (hc : s.cl = .e) (hr : ∀ j, bef s.i j = true → L j = true)
    {Kn : Act → World → Prop} {Qx : Exit → Act → World → Prop}
    (hk : ∀ R' env' σ' pd' B' I' σm' a' w', Canon cx ops pl bef b0 base (addI L s.i) (done ++ [s]) rest R' env' σ' pd' → runA cx ops b0 rest env' σ' pd' K → Mach cx ops vs b0 base (addI L s.i) (done ++ [s]) R' σ' σm' B' I' a' w' → Ext cx.m B I σm w B' I' σm' w' → Kn a' w') :
    wpOpIn (FR cx.rd) 0 cx.P ops Qx s.i Kn a w := by
  have hspl : s ∈ pl := by rw [h.spl]; simp
  have hne : ∀ t ∈ done, t.i ≠ s.i := fun t ht => notIn hp h.spl ht
  have hLs : L s.i = false := by
    cases e : L s.i with
    | false => rfl
    | true =>
      obtain ⟨u, hu, e2⟩ := inD_iff.1 (h.LD _ e)
      exact absurd e2 (hne u hu)
  have hbs : ∀ t ∈ done, bef t.i s.i = false := by
    intro t ht
    cases e : bef t.i s.i with
    | false => rfl
    | true =>
      obtain ⟨u, hu, e2⟩ := inD_iff.1 (done_bef hp h.spl ht e)
      exact absurd e2 (hne u hu)
  obtain ⟨o, ho⟩ : ∃ o, ops[s.i]? = some o := ⟨_, Array.getElem?_eq_getElem (hp.lt s hspl)⟩
  simp only [runA, ho] at hrun
  obtain ⟨run, env', henv, hg, hex, hsk⟩ := guarded_cases hrun
  replace h := h.reenv henv
  clear henv hrun
  revert h hg hex hsk
  generalize env' = env
  intro hg hex hsk h
  have hLi : ∀ i, addI L s.i i = true ↔ L i = true ∨ (s.cl = .e ∧ i = s.i) := fun i => addI_iff.trans ⟨fun h => h.imp id fun h => ⟨hc, h⟩, fun h => h.imp id fun h => h.2⟩
  -- floats that wait lie open
  have open_ : ∀ l, PendF b0 done R L l → l ∈ addAll b0 s.U := by
    rintro l ⟨t, ht, h1, h2, k, h3, h4⟩
    have hb : bef s.i t.i = false := by
      cases e : bef s.i t.i with
      | false => rfl
      | true => rw [hr _ e] at h1; cases h1
    rcases hp.flt s hspl t (by rw [h.spl]; simp [ht]) k h3 (hne t ht) hb with e | ⟨e, _⟩
    · exact mem_addAll.2 ⟨k, e, h4⟩
    · rw [hc] at e; cases e
  have pf : ∀ (r : Rec) l, PendF b0 (done ++ [s]) (updR R s.i r) (addI L s.i) l ↔ PendF b0 done R L l := by
    intro r l
    constructor
    · rintro ⟨t, ht, h1, h2, h3⟩
      rcases List.mem_append.1 ht with ht | ht
      · rw [updR_ne (hne t ht)] at h2
        exact ⟨t, ht, (addI_false h1).1, h2, h3⟩
      · rw [List.mem_singleton.1 ht] at h1
        exact absurd rfl (addI_false h1).2
    · rintro ⟨t, ht, h1, h2, h3⟩
      exact ⟨t, by simp [ht], by simp [addI, h1, hne t ht], by rw [updR_ne (hne t ht)]; exact h2, h3⟩
  have hgr : match o.guard with
      | none => run = true
      | some (g, want) => ∃ og tg b, ops[g]? = some og ∧ og.dst = some tg ∧ (R g).av = .val (.bool b) ∧ run = (b == want) := by
    cases hgd : o.guard with
    | none => rw [hgd] at hg; exact hg
    | some p =>
      obtain ⟨g, want⟩ := p
      rw [hgd] at hg
      obtain ⟨b, hb, hr'⟩ := hg
      unfold guardV at hb
      split at hb
      · rename_i d hd
        cases hog : ops[g]? with
        | none => simp [hog] at hd
        | some og =>
          simp only [hog, Option.bind_some] at hd
          have hbg := hp.grd _ _ _ _ ho hgd
          have e1 := h.env d
          unfold cur at e1
          rw [wr_of hp.dst hog hd] at e1
          simp only at e1
          rw [if_pos (h.LD _ (hr _ hbg))] at e1
          split at hb
          · rename_i b' hb'
            cases hb
            exact ⟨og, d, _, hog, hd, by rw [← e1]; exact hb', hr'⟩
          · cases hb
      · cases hb
  have hw := wanted_of hp hm ho hr hgr
  cases run with
  | false =>
    unfold wpOpIn
    simp only [ho, hw, Bool.false_eq_true, if_false]
    refine ⟨fun _ _ => trivial, ?_⟩
    have c := h.snoc hp ho (r := ⟨env.keep s.lk, .any, .gone, false⟩) (L' := addI L s.i) (σ' := σ) (pd' := pd) rfl hLi (fun _ => hr) hg (fun e => absurd hc e) (fun _ _ _ _ _ h => h) (fun t ht hq hl hrn ot hot => h.pdk t ht hq (addI_false hl).1 hrn ot hot) (fun _ e => by cases e)
    refine hk _ _ _ _ B I σm _ w c (hsk rfl) ((hm.upd hLs hne ⟨env.keep s.lk, .any, .gone, false⟩).put hp hd ho (by rw [updR_self]) hm.sr (.any _) (.refl ..) (fun _ _ _ h => h) hm.len (fun l hl => hm.hole l ((pf _ l).1 hl)) (fun l hl => hm.same l fun e => hl ((pf _ l).2 e))) (.refl ..)
  | true =>
    have hex := hex rfl
    rw [hc] at hex
    unfold wpOpIn
    simp only [ho, hw, if_true]
    have hxe : hx (addAll b0 s.U) (fun l => σm.getD l .gone) 0 σ = σm := hx_of hm.len fun l hl => hm.same l fun e => hl (open_ l e)
    have hop := effA_all hex (fun l => σm.getD l .gone)
    rw [hxe] at hop
    have hst : St cx B I (env.keep s.lk) σm a w := by
      refine ⟨hm.size, fun t => ?_, hm.sr, hm.marks⟩
      rcases keep_any env s.lk t with e | ⟨e1, e2⟩
      · rw [e]; exact .any _
      · rw [e2, h.env t]
        have : cur ops R base (inD done) t = cur ops R base L t := by
          unfold cur
          split
          · rename_i j hj
            obtain ⟨oj, g1, g2⟩ := wr_some hj
            obtain ⟨_, g4⟩ := hp.look s hspl t e1 j oj g1 g2
            have : inD done j = L j := by
              rcases g4 with g4 | g4
              · rw [hr j g4, h.LD j (hr j g4)]
              · have n1 : inD done j = false := by
                  cases e : inD done j with
                  | false => rfl
                  | true =>
                    obtain ⟨u, hu, e3⟩ := inD_iff.1 e
                    rw [← e3, hbs u hu] at g4; cases g4
                have n2 : L j = false := by
                  cases e : L j with
                  | false => rfl
                  | true => rw [h.LD j e] at n1; cases n1
                rw [n1, n2]
            rw [this]
          · rfl
        rw [this]
        exact hm.tmps t
    refine opA_sound hop B I a w hst _ _ fun av σ1 B' I' v w' ⟨hkept, hprom, hrun'⟩ hsr hrv hext hB => ?_
    have hux : ∀ l, l ∈ addAll b0 s.U → (ux (addAll b0 s.U) σ 0 σ1)[l]? = some (σ.getD l .gone) := by
      intro l hl
      rw [ux_get, Nat.zero_add, if_pos (inL_iff.2 hl), kept_get hkept l hl]; rfl
    have c := h.snoc hp ho (r := ⟨env.keep s.lk, av, .gone, true⟩) (L' := addI L s.i) (σ' := ux (addAll b0 s.U) σ 0 σ1) (pd' := pdKeep s.kp pd) rfl hLi (fun _ => hr) hg (fun e => absurd hc e)
      (fun t ht hl ot hot hpt => by
        obtain ⟨p1, p2, p3⟩ := hpt
        refine ⟨p1, p2, fun hrn => ?_⟩
        have p3 := p3 hrn
        have hb : bef s.i t.i = false := by
          cases e : bef s.i t.i with
          | false => rfl
          | true => have := hr _ e; rw [(addI_false hl).1] at this; cases this
        cases htc : t.cl with
        | e => exact absurd htc p1
        | q =>
          rw [htc] at p3
          refine ⟨p3.1, ?_⟩
          by_cases hbl : blindOp ot = true
          · exact valA_of fun Xs => opA_blind hbl (valA_all p3.2 Xs)
          · rcases h.pdk t ht htc (addI_false hl).1 hrn ot hot with e | e
            · exact absurd e hbl
            · rcases hp.pend done s rest h.spl hc t ht htc hb ot hot with e2 | e2
              · exact absurd e2 hbl
              · exact (promises_mem hprom _ e (inL_iff.2 e2)).2 ot hot
        | fl k =>
          rw [htc] at p3
          refine ⟨?_, p3.2⟩
          have hl' : b0 + k ∈ addAll b0 s.U := open_ _ ⟨t, ht, (addI_false hl).1, hrn, k, htc, rfl⟩
          rw [hux _ hl', List.getD_eq_getElem?_getD, p3.1]
          rfl
        | vt _ => rw [htc] at p3; exact p3
        | im => rw [htc] at p3; exact p3)
      (fun t ht hq hl hrn ot hot => by
        have hb : bef s.i t.i = false := by
          cases e : bef s.i t.i with
          | false => rfl
          | true => have := hr _ e; rw [(addI_false hl).1] at this; cases this
        rcases h.pdk t ht hq (addI_false hl).1 hrn ot hot with e | e
        · exact .inl e
        · rcases hp.pend done s rest h.spl hc t ht hq hb ot hot with e2 | e2
          · exact .inl e2
          · exact .inr (promises_mem hprom _ e (inL_iff.2 e2)).1)
      (fun e => by rw [hc] at e; cases e)
    refine hk _ _ _ _ B' I' σ1 _ w' c hrun' ((hm.upd hLs hne ⟨env.keep s.lk, av, .gone, true⟩).put hp hd ho (by rw [updR_self]) hsr hrv hext hB (ux_length ..).symm (fun l hl => ?_) (fun l hl => ?_)) hext
    · have hl' := (pf _ l).1 hl
      rw [kept_get hkept l (open_ l hl'), List.getD_eq_getElem?_getD, hm.hole l hl']
      rfl
    · have hl' : ¬ PendF b0 done R L l := fun e => hl ((pf _ l).2 e)
      by_cases hu : l ∈ addAll b0 s.U
      · rw [hux l hu, kept_get hkept l hu, List.getD_eq_getElem?_getD, hm.same l hl', ← List.getD_eq_getElem?_getD]
      · rw [ux_get, Nat.zero_add, if_neg (fun e => hu (inL_iff.1 e))]

end
end Go.Abs

/- The abstract layer, part 28: regions whose order of evaluation is open: the law. -/
namespace Go.Abs
open Go Go.RowKit

def lst (listed : Array Bool) : Nat → Bool := fun i => listed.getD i false

theorem lst_set {listed : Array Bool} {i : Nat} (h : i < listed.size) : lst (listed.setIfInBounds i true) = addI (lst listed) i := by
  funext j
  unfold lst addI
  by_cases e : j = i
  · subst e
    rw [Array.getD_eq_getD_getElem?, Array.getElem?_setIfInBounds_self_of_lt h]
    simp
  · rw [Array.getD_eq_getD_getElem?, Array.getElem?_setIfInBounds_ne (fun h => e h.symm), ← Array.getD_eq_getD_getElem?]
    simp [e]

section
variable {cx : Cx} {ops : Array Oper} {pl : List Stp} {bef : Nat → Nat → Bool} {vs : List Nat} {b0 : Nat} {base : Env}

theorem all_done (hp : PlanOk ops pl bef vs) {listed : Array Bool} (hsz : listed.size = ops.size) (hr : Region.ready .any ops listed = []) : ∀ i, i < ops.size → lst listed i = true := by
  have key : ∀ (k : Nat) (s : Stp), s ∈ pl.take k → lst listed s.i = true := by
    intro k
    induction k with
    | zero => intro s hs; simp at hs
    | succ k ih =>
      intro s hs
      rcases Nat.lt_or_ge k pl.length with hk | hk
      · rw [List.take_succ_eq_append_getElem hk] at hs
        rcases List.mem_append.1 hs with h | h
        · exact ih s h
        · have e := List.mem_singleton.1 h
          subst e
          cases hl : lst listed (pl[k]).i with
          | true => rfl
          | false =>
            exfalso
            have hlt := hp.lt _ (List.getElem_mem hk)
            have spl : pl = pl.take k ++ pl[k] :: pl.drop (k + 1) := by
              rw [List.getElem_cons_drop, List.take_append_drop]
            have : (pl[k]).i ∈ Region.ready .any ops listed := by
              refine mem_ready.2 ⟨?_, _, Array.getElem?_eq_getElem hlt, fun e he hb => ?_⟩
              · have h0 : (pl[k]).i < listed.size := by omega
                unfold lst at hl
                rw [Array.getD_eq_getD_getElem?, Array.getElem?_eq_getElem h0] at hl ⊢
                exact hl
              · obtain ⟨t, ht, e2⟩ := hp.topo _ _ _ spl _ (hp.up _ _ (Array.getElem?_eq_getElem hlt) e he hb)
                have := ih t ht
                rw [e2] at this
                exact this
            rw [hr] at this
            cases this
      · rw [List.take_of_length_le (by omega)] at hs
        exact ih s (by rw [List.take_of_length_le hk]; exact hs)
  intro i hi
  obtain ⟨s, hs, rfl⟩ := hp.all i hi
  exact key pl.length s (by simpa using hs)

theorem anyA_sound (hp : PlanOk ops pl bef vs) (hd : dstOk cx.N ops = true) {Q : Post} {B0 : BMap} {I0 : Nat → Prop} {σ0 : List AObj} {w0 : World} :
    ∀ (fuel : Nat) (listed : Array Bool) (unl : List Nat) (done rest : List Stp) (R : Nat → Rec) (env : Env) (σ σm : List AObj) (pd : List Pd) (B : BMap) (I : Nat → Prop) (a : Act) (w : World),
      listed.size = ops.size → (∀ i, i < ops.size → lst listed i = false → i ∈ unl) → unl.length ≤ fuel →
      Canon cx ops pl bef b0 base (lst listed) done rest R env σ pd → runA cx ops b0 rest env σ pd (Q .normal) → Mach cx ops vs b0 base (lst listed) done R σ σm B I a w → Ext cx.m B0 I0 σ0 w0 B I σm w →
      wpAnyIn (FR cx.rd) 0 cx.P .any ops (Reach cx Q B0 I0 σ0 w0) fuel listed a w := by
  intro fuel
  have last : ∀ (listed : Array Bool) (done rest : List Stp) (R : Nat → Rec) (env : Env) (σ σm : List AObj) (pd : List Pd) (B : BMap) (I : Nat → Prop) (a : Act) (w : World),
      listed.size = ops.size → Region.ready .any ops listed = [] →
      Canon cx ops pl bef b0 base (lst listed) done rest R env σ pd → runA cx ops b0 rest env σ pd (Q .normal) → Mach cx ops vs b0 base (lst listed) done R σ σm B I a w → Ext cx.m B0 I0 σ0 w0 B I σm w →
      Reach cx Q B0 I0 σ0 w0 .normal a w := by
    intro listed done rest R env σ σm pd B I a w hsz hr hc hq hm he
    have hall := all_done hp hsz hr
    obtain ⟨done', rest', R', env', σ', pd', hc', hq', hm', hs⟩ := hc.settle hp hq hm
    have hrest : rest' = [] := by
      rcases hs with h | ⟨s, r, h, _⟩
      · exact h
      · subst h
        have h1 := hall s.i (hp.lt s (by rw [hc'.spl]; simp))
        obtain ⟨u, hu, e⟩ := inD_iff.1 (hc'.LD _ h1)
        exact absurd e (notIn hp hc'.spl hu)
    subst hrest
    have hlt : ∀ s ∈ done', lst listed s.i = true := fun s hs => hall _ (hp.lt s (by rw [hc'.spl]; simp [hs]))
    have hσ : σm = σ' := List.ext_getElem? fun l => hm'.same l fun ⟨t, ht, h1, _⟩ => by rw [hlt t ht] at h1; cases h1
    subst hσ
    refine ⟨env', σm, B, I, hq', ⟨hm'.size, fun t => ?_, hm'.sr, hm'.marks⟩, he⟩
    rw [hc'.env t]
    have : cur ops R' base (inD done') t = cur ops R' base (lst listed) t := by
      unfold cur
      split
      · rename_i j hj
        obtain ⟨oj, g1, g2⟩ := wr_some hj
        have h1 := hall j (Array.getElem?_eq_some_iff.1 g1).1
        rw [h1, hc'.LD j h1]
      · rfl
    rw [this]
    exact hm'.tmps t
  induction fuel with
  | zero =>
    intro listed unl done rest R env σ σm pd B I a w hsz hun hlen hc hq hm he
    have hu : unl = [] := List.length_eq_zero_iff.1 (by omega)
    subst hu
    have hr : Region.ready .any ops listed = [] := by
      cases hr : Region.ready .any ops listed with
      | nil => rfl
      | cons i r =>
        exfalso
        have hi : i ∈ Region.ready .any ops listed := by rw [hr]; simp
        obtain ⟨h0, o, ho, _⟩ := mem_ready.1 hi
        have hlt := (Array.getElem?_eq_some_iff.1 ho).1
        have := hun i hlt (by
          unfold lst
          have h1 : i < listed.size := by omega
          rw [Array.getD_eq_getD_getElem?, Array.getElem?_eq_getElem h1] at h0 ⊢
          exact h0)
        cases this
    exact ⟨hr, last listed done rest R env σ σm pd B I a w hsz hr hc hq hm he⟩
  | succ fuel ih =>
    intro listed unl done rest R env σ σm pd B I a w hsz hun hlen hc hq hm he
    refine ⟨fun hr => last listed done rest R env σ σm pd B I a w hsz hr hc hq hm he, fun i hi => ?_⟩
    obtain ⟨h0, o, ho, hafter⟩ := mem_ready.1 hi
    have hlt := (Array.getElem?_eq_some_iff.1 ho).1
    have hltl : i < listed.size := by omega
    have hLi : lst listed i = false := by
      unfold lst
      rw [Array.getD_eq_getD_getElem?, Array.getElem?_eq_getElem hltl] at h0 ⊢
      exact h0
    have hbef : ∀ j, bef i j = true → lst listed j = true := by
      intro j hj
      obtain ⟨e, h1, h2, h3⟩ := hp.down i o ho j hj
      have h4 : lst listed e.on = true := hafter e h1 h2
      rcases h3 with h3 | h3
      · rw [← h3]; exact h4
      · exact hc.closed _ h4 j h3
    obtain ⟨done', rest', R', env', σ', pd', hc', hq', hm', hs⟩ := hc.settle hp hq hm
    have next : ∀ (done rest : List Stp) (R : Nat → Rec) (env : Env) (σ σm' : List AObj) (pd : List Pd) (B' : BMap) (I' : Nat → Prop) (a' : Act) (w' : World),
        Canon cx ops pl bef b0 base (addI (lst listed) i) done rest R env σ pd → runA cx ops b0 rest env σ pd (Q .normal) → Mach cx ops vs b0 base (addI (lst listed) i) done R σ σm' B' I' a' w' → Ext cx.m B I σm w B' I' σm' w' →
        wpAnyIn (FR cx.rd) 0 cx.P .any ops (Reach cx Q B0 I0 σ0 w0) fuel (listed.setIfInBounds i true) a' w' := by
      intro done rest R env σ σm' pd B' I' a' w' c q m e
      rw [← lst_set hltl] at c m
      refine ih _ (unl.erase i) done rest R env σ σm' pd B' I' a' w' (by simpa using hsz) (fun j hj hl => ?_) ?_ c q m (he.trans e)
      · rw [lst_set hltl] at hl
        obtain ⟨h1, h2⟩ := addI_false hl
        exact (List.mem_erase_of_ne h2).2 (hun j hj h1)
      · rw [List.length_erase_of_mem (hun i hlt hLi)]
        omega
    cases hin : inD done' i with
    | true =>
      obtain ⟨s, hs', e⟩ := inD_iff.1 hin
      subst e
      exact exec_pending hp hd hc' hm' hs' hLi hbef fun B' I' σm' a' w' m e => next _ _ _ _ _ _ _ _ _ _ _ (hc'.addL hs' hbef) hq' m e
    | false =>
      obtain ⟨t, ht, e⟩ := hp.all i hlt
      rw [hc'.spl] at ht
      rcases List.mem_append.1 ht with ht | ht
      · rw [inD_iff.2 ⟨t, ht, e⟩] at hin; cases hin
      · rcases hs with h | ⟨s, r, h, hse⟩
        · rw [h] at ht; cases ht
        · subst h
          rcases List.mem_cons.1 ht with ht | ht
          · rw [ht] at e
            subst e
            exact exec_eff hp hd hc' hq' hm' hse hbef fun R'' env'' σ'' pd'' B' I' σm' a' w' c q m e => next _ _ _ _ _ _ _ _ _ _ _ c q m e
          · exfalso
            obtain ⟨u, hu, hb⟩ := hp.uniq _ _ _ hc'.spl hse t ht
            rw [e] at hb
            obtain ⟨x, hx, e2⟩ := inD_iff.1 (hc'.LD _ (hbef _ hb))
            have hnd := hp.nodup
            rw [hc'.spl, List.map_append, List.nodup_append] at hnd
            exact hnd.2.2 _ (List.mem_map.2 ⟨x, hx, rfl⟩) _ (List.mem_map.2 ⟨u, hu, rfl⟩) e2

end

/-- The slots that are kept: without an object; or a row that is nil. -/
def holes : List (Option Nat) → List AObj
  | [] => []
  | none :: r => .gone :: holes r
  | some sz :: r => .row 0 sz [] :: holes r

def virts : Nat → List (Option Nat) → List Nat
  | _, [] => []
  | k, none :: r => virts (k + 1) r
  | k, some _ :: r => k :: virts (k + 1) r

theorem push_holes {cx : Cx} {I : Nat → Prop} {w : World} : ∀ (hs : List (Option Nat)) (B : BMap) (σ : List AObj) (b0 : Nat), (∀ z ∈ hs, ∀ sz, z = some sz → 0 < sz) → SR B I cx.bs σ w → b0 ≤ σ.length →
    ∃ B', SR B' I cx.bs (σ ++ holes hs) w ∧ Ext cx.m B I σ w B' I (σ ++ holes hs) w ∧ (∀ l ver x, B l ver = some x → B' l ver = some x) ∧
      ∀ h ∈ virts (σ.length - b0) hs, ∀ x, RV B' I cx.bs w (.row (b0 + h) 0 0 0) (.slice x 0 0)
  | [], B, σ, b0, _, hs, _ => ⟨B, by simpa [holes] using hs, by simpa [holes] using Ext.refl .., fun _ _ _ h => h, fun h hh => by cases hh⟩
  | none :: r, B, σ, b0, hpos, hs, hb => by
    obtain ⟨B', h1, h2, h3, h4⟩ := push_holes r B (σ ++ [.gone]) b0 (fun z hz => hpos z (List.mem_cons_of_mem _ hz)) hs.push_gone (by simp; omega)
    have e : σ ++ holes (none :: r) = σ ++ [.gone] ++ holes r := by simp [holes]
    have he : Ext cx.m B I σ w B I (σ ++ [.gone]) w := by
      refine ⟨rfl, rfl, rfl, Nat.le_refl _, fun _ _ _ => rfl, fun _ _ _ _ h => h, fun _ h => h, fun _ h => .inl h, fun l b hl => ?_⟩
      have hl' : Cur B σ l = some b := by
        rcases Nat.lt_or_ge l σ.length with h | h
        · simpa only [Cur, List.getElem?_append_left h] using hl
        · rw [Cur, List.getElem?_append_right h] at hl
          cases hk : l - σ.length with
          | zero => rw [hk] at hl; simp at hl
          | succ k => rw [hk] at hl; simp at hl
      rcases Nat.lt_or_ge l cx.m with hm | hm
      · exact .inr (.inl ⟨hm, hl'⟩)
      · exact .inr (.inr ⟨hm, l, hm, hl'⟩)
    rw [e]
    refine ⟨B', h1, he.trans h2, h3, fun h hh => h4 h ?_⟩
    simp only [List.length_append, List.length_singleton]
    rw [show σ.length + 1 - b0 = σ.length - b0 + 1 by omega]
    exact hh
  | some sz :: r, B, σ, b0, hpos, hs, hb => by
    obtain ⟨B1, x, k1, k2, k3, k4, k5⟩ := hs.newNil (hpos _ (List.mem_cons_self ..) sz rfl) cx.m
    obtain ⟨B', h1, h2, h3, h4⟩ := push_holes r B1 (σ ++ [.row 0 sz []]) b0 (fun z hz => hpos z (List.mem_cons_of_mem _ hz)) k1 (by simp; omega)
    have e : σ ++ holes (some sz :: r) = σ ++ [.row 0 sz []] ++ holes r := by simp [holes]
    rw [e]
    refine ⟨B', h1, k2.trans h2, fun l ver x hx => h3 _ _ _ (k3 _ _ _ hx), fun h hh y => ?_⟩
    simp only [virts] at hh
    rcases List.mem_cons.1 hh with rfl | hh
    · rw [show b0 + (σ.length - b0) = σ.length by omega]
      exact .rowNil (h3 _ _ _ k4) k5
    · refine h4 h ?_ y
      simp only [List.length_append, List.length_singleton]
      rw [show σ.length + 1 - b0 = σ.length - b0 + 1 by omega]
      exact hh

theorem WpA.regionAny {cx : Cx} {id : Nat} {ops : Array Oper} {env : Env} {σ : List AObj} {Q : Post} {pl : List Stp} {bef : Nat → Nat → Bool} {hs : List (Option Nat)} (hm : cx.P.follows .mixedOrders = true) (hd : dstOk cx.N ops = true)
    (hp : PlanOk ops pl bef (virts 0 hs)) (hpos : ∀ z ∈ hs, ∀ sz, z = some sz → 0 < sz) (h : runA cx ops σ.length pl env (σ ++ holes hs) [] (Q .normal)) : WpA cx (.region id ops true) env σ Q := by
  intro B I a w st
  refine wpIn_region_any hm ?_
  have e0 : ({ w with drawn := w.drawn + 1 } : World).heap = w.heap := rfl
  have hsr := st.sr.of_heap e0
  obtain ⟨B', k1, k2, k3, k4⟩ := push_holes (cx := cx) hs B σ σ.length hpos hsr (Nat.le_refl _)
  rw [Nat.sub_self] at k4
  have henv : EnvR B' I cx.bs { w with drawn := w.drawn + 1 } env a.tmps := fun t => ((st.env t).of_heap e0).ext hsr k2 k3
  have hext : Ext cx.m B I σ w B' I (σ ++ holes hs) { w with drawn := w.drawn + 1 } := (Ext.of_heap (w := w) (w' := { w with drawn := w.drawn + 1 }) rfl rfl rfl e0).trans k2
  have hl0 : ∀ i, lst (Array.replicate ops.size false) i = false := by
    intro i
    unfold lst
    rw [Array.getD_eq_getD_getElem?]
    by_cases h : i < ops.size <;> simp [h]
  refine anyA_sound (b0 := σ.length) (base := env) hp hd ops.size _ (List.range ops.size) [] pl (fun _ => default) env (σ ++ holes hs) (σ ++ holes hs) [] B' I a _ (by simp) (fun i hi _ => List.mem_range.2 hi) (by simp) ?_ h ?_ hext
  · refine { spl := rfl, env := fun t => ?_, LD := fun i hi => ?_, closed := fun i hi => ?_, fro := fun s hs => ?_, grd := fun s hs => ?_, prom := fun s hs => ?_, pdk := fun s hs => ?_ }
    · unfold cur; split <;> simp [inD]
    · rw [hl0] at hi; cases hi
    · rw [hl0] at hi; cases hi
    · cases hs
    · cases hs
    · cases hs
    · cases hs
  · refine { tmps := fun t => ?_, len := rfl, hole := fun l ⟨t, ht, _⟩ => (by cases ht), same := fun _ _ => rfl, sr := k1, size := st.size, marks := st.marks.ext st.sr hext, virt := k4 }
    have : cur ops (fun _ => (default : Rec)) env (lst (Array.replicate ops.size false)) t = env.get t := by
      unfold cur
      split
      · rw [hl0]; simp
      · rfl
    rw [this]
    exact henv t

end Go.Abs

/- The abstract layer, part 29: regions whose order of evaluation is open: plans are checked. -/
namespace Go.Abs
open Go Go.RowKit

def befRow (bt : List Nat) : List Edge → Nat
  | [] => 0
  | e :: r => (if Region.binds .any e then (2 ^ e.on) ||| bt.getD e.on 0 else 0) ||| befRow bt r

theorem befRow_bit (bt : List Nat) (j : Nat) : ∀ l : List Edge, (befRow bt l).testBit j = l.any fun e => Region.binds .any e && (e.on == j || (bt.getD e.on 0).testBit j)
  | [] => by simp [befRow]
  | e :: r => by
    simp only [befRow, Nat.testBit_or, List.any_cons, befRow_bit bt j r]
    congr 1
    split
    · rename_i h
      rw [Nat.testBit_or, Nat.testBit_two_pow, h, Bool.true_and]
      congr 1
    · rename_i h
      simp only [Bool.not_eq_true] at h
      rw [h]; simp

def tb (bt : List Nat) (i j : Nat) : Bool := (bt.getD i 0).testBit j

def maskOf : List Stp → Nat
  | [] => 0
  | s :: r => (2 ^ s.i) ||| maskOf r

theorem mask_bit (j : Nat) : ∀ l : List Stp, (maskOf l).testBit j = true ↔ ∃ s ∈ l, s.i = j
  | [] => by simp [maskOf]
  | s :: r => by
    simp only [maskOf, Nat.testBit_or, Bool.or_eq_true, Nat.testBit_two_pow, decide_eq_true_eq, mask_bit j r, List.mem_cons, exists_eq_or_imp]

def nodupB : List Nat → Bool
  | [] => true
  | a :: r => !inL r a && nodupB r

theorem nodupB_spec : ∀ {l : List Nat}, nodupB l = true → l.Nodup
  | [], _ => List.nodup_nil
  | a :: r, h => by
    simp only [nodupB, Bool.and_eq_true, Bool.not_eq_true'] at h
    refine List.nodup_cons.2 ⟨fun e => ?_, nodupB_spec h.2⟩
    rw [inL_iff.2 e] at h; cases h.1

def dstOf (ops : Array Oper) (i : Nat) : Option Nat := (ops[i]?).bind (·.dst)

/-- Each place is written by one operation at most. -/
def dstB (ds : List (Option Nat)) : Bool := nodupB (ds.filterMap id)

theorem filterMap_inj : ∀ {ds : List (Option Nat)}, (ds.filterMap id).Nodup → ∀ {i j d : Nat}, ds[i]? = some (some d) → ds[j]? = some (some d) → i = j
  | [], _, i, j, d, hi, _ => by simp at hi
  | x :: r, h, i, j, d, hi, hj => by
    have mem : ∀ {k : Nat}, r[k]? = some (some d) → d ∈ r.filterMap id := fun hk => List.mem_filterMap.2 ⟨some d, List.mem_of_getElem? hk, rfl⟩
    have hr : (r.filterMap id).Nodup := by
      cases x with
      | none => simpa using h
      | some y => simp at h; exact h.2
    cases i with
    | zero =>
      cases j with
      | zero => rfl
      | succ j =>
        simp only [List.getElem?_cons_zero, Option.some.injEq] at hi
        simp only [List.getElem?_cons_succ] at hj
        subst hi
        simp only [List.filterMap_cons, id_eq, List.nodup_cons] at h
        exact absurd (mem hj) h.1
    | succ i =>
      cases j with
      | zero =>
        simp only [List.getElem?_cons_zero, Option.some.injEq] at hj
        simp only [List.getElem?_cons_succ] at hi
        subst hj
        simp only [List.filterMap_cons, id_eq, List.nodup_cons] at h
        exact absurd (mem hi) h.1
      | succ j =>
        simp only [List.getElem?_cons_succ] at hi hj
        rw [filterMap_inj hr hi hj]

def isQ : Cl → Bool | .q => true | _ => false
def isE : Cl → Bool | .e => true | _ => false
def flOf : Cl → Option Nat | .fl h => some h | _ => none
def vtOf : Cl → Option Nat | .vt h => some h | _ => none

def blindAt (ops : Array Oper) (i : Nat) : Bool := match ops[i]? with | some o => blindOp o | none => false

/-- The steps, one after the other. -/
def walkB (ops : Array Oper) (bt : List Nat) : List Stp → List Stp → Bool
  | _, [] => true
  | done, s :: rest =>
    ((bt.getD s.i 0 &&& maskOf done) == bt.getD s.i 0) &&
    (!isE s.cl || (rest.all (fun t => (bt.getD t.i 0 &&& maskOf (s :: rest)) != 0) && done.all (fun t => !isQ t.cl || tb bt s.i t.i || blindAt ops t.i || inL s.kp t.i))) &&
    walkB ops bt (done ++ [s]) rest

theorem and_bit {a b j : Nat} (h : (a &&& b) = a) (hj : a.testBit j = true) : b.testBit j = true := by
  rw [← h, Nat.testBit_and, Bool.and_eq_true] at hj
  exact hj.2

theorem and_ne {a b : Nat} (h : (a &&& b) ≠ 0) : ∃ j, a.testBit j = true ∧ b.testBit j = true := by
  obtain ⟨j, hj⟩ := Nat.exists_testBit_of_ne_zero h
  rw [Nat.testBit_and, Bool.and_eq_true] at hj
  exact ⟨j, hj⟩

theorem walkB_spec {ops : Array Oper} {bt : List Nat} : ∀ {rest done : List Stp}, walkB ops bt done rest = true → ∀ (x : List Stp) (s : Stp) (y : List Stp), rest = x ++ s :: y →
    (∀ j, tb bt s.i j = true → ∃ t ∈ done ++ x, t.i = j) ∧
    (s.cl = .e → (∀ t ∈ y, ∃ u ∈ s :: y, tb bt t.i u.i = true) ∧ ∀ t ∈ done ++ x, t.cl = .q → tb bt s.i t.i = false → ∀ o, ops[t.i]? = some o → blindOp o = true ∨ t.i ∈ s.kp)
  | [], done, _, x, s, y, e => by simp at e
  | r :: rest, done, h, x, s, y, e => by
    simp only [walkB, Bool.and_eq_true] at h
    obtain ⟨⟨h1, h2⟩, h3⟩ := h
    cases x with
    | nil =>
      simp only [List.nil_append, List.cons.injEq] at e
      obtain ⟨rfl, rfl⟩ := e
      simp only [List.append_nil]
      refine ⟨fun j hj => (mask_bit j done).1 (and_bit (by simpa using h1) hj), fun he => ?_⟩
      rw [he] at h2
      simp only [isE, Bool.not_true, Bool.false_or, Bool.and_eq_true, List.all_eq_true] at h2
      refine ⟨fun t ht => ?_, fun t ht hq hb o ho => ?_⟩
      · obtain ⟨j, g1, g2⟩ := and_ne (by simpa using h2.1 t ht)
        obtain ⟨u, hu, rfl⟩ := (mask_bit j _).1 g2
        exact ⟨u, hu, g1⟩
      · have := h2.2 t ht
        rw [hq, hb] at this
        simp only [isQ, Bool.not_true, Bool.false_or, Bool.or_eq_true, blindAt, ho] at this
        exact this.imp id inL_iff.1
    | cons x0 x =>
      simp only [List.cons_append, List.cons.injEq] at e
      obtain ⟨rfl, e⟩ := e
      have := walkB_spec h3 x s y e
      simpa only [List.append_assoc, List.singleton_append] using this

def lookB (ops : Array Oper) (ds : List (Option Nat)) (bt : List Nat) (s : Stp) : Bool :=
  s.lk.all fun t => match ds.idxOf? (some t) with
    | some j => j != s.i && (tb bt s.i j || tb bt j s.i)
    | none => true

/-- A plan, the slots that are kept, what is done before what. -/
def planB (ops : Array Oper) (pl : List Stp) (hs : List (Option Nat)) (bt : List Nat) : Bool :=
  let n := ops.size
  let ds := ops.toList.map (·.dst)
  (bt.length == n) &&
  (ops.toList.zip bt).all (fun p => p.2 == befRow bt p.1.after.toList) &&
  pl.all (fun s => Nat.blt s.i n) &&
  (maskOf pl == 2 ^ n - 1) &&
  nodupB (pl.map (·.i)) &&
  walkB ops bt [] pl &&
  dstB ds &&
  pl.all (lookB ops ds bt) &&
  (ops.toList.zip bt).all (fun p => match p.1.guard with | some (g, _) => p.2.testBit g | none => true) &&
  (pl.filterMap fun f => (flOf f.cl).map fun h => (f.i, h)).all (fun f => pl.all fun s => f.1 == s.i || tb bt s.i f.1 || inL s.U f.2 || (isQ s.cl && blindAt ops s.i)) &&
  pl.all (fun s => !isQ s.cl || match ops[s.i]? with | some o => quietOp o | none => true) &&
  pl.all (fun s => match vtOf s.cl with | some h => inL (virts 0 hs) h | none => true) &&
  nodupB (pl.filterMap fun f => flOf f.cl) &&
  hs.all (fun z => match z with | some sz => Nat.blt 0 sz | none => true)

theorem filterMap_fl {pl : List Stp} (hn : (pl.filterMap fun f => flOf f.cl).Nodup) {s s' : Stp} {h : Nat} (hs : s ∈ pl) (hs' : s' ∈ pl) (e : s.cl = .fl h) (e' : s'.cl = .fl h) : s = s' := by
  induction pl with
  | nil => cases hs
  | cons x r ih =>
    have mem : ∀ {t : Stp}, t ∈ r → t.cl = .fl h → h ∈ r.filterMap fun f => flOf f.cl := fun ht e => List.mem_filterMap.2 ⟨_, ht, by rw [e]; rfl⟩
    have hr : (r.filterMap fun f => flOf f.cl).Nodup := by
      rw [List.filterMap_cons] at hn
      split at hn
      · exact hn
      · exact (List.nodup_cons.1 hn).2
    rcases List.mem_cons.1 hs with h1 | h1 <;> rcases List.mem_cons.1 hs' with h2 | h2
    · rw [h1, h2]
    · subst h1
      simp only [List.filterMap_cons, e, flOf, List.nodup_cons] at hn
      exact absurd (mem h2 e') hn.1
    · subst h2
      simp only [List.filterMap_cons, e', flOf, List.nodup_cons] at hn
      exact absurd (mem h1 e) hn.1
    · exact ih hr h1 h2

theorem planB_spec {ops : Array Oper} {pl : List Stp} {hs : List (Option Nat)} {bt : List Nat} (h : planB ops pl hs bt = true) : PlanOk ops pl (tb bt) (virts 0 hs) ∧ ∀ z ∈ hs, ∀ sz, z = some sz → 0 < sz := by
  simp only [planB, Bool.and_eq_true] at h
  obtain ⟨⟨⟨⟨⟨⟨⟨⟨⟨⟨⟨⟨⟨c1, c2⟩, c3⟩, c4⟩, c5⟩, c6⟩, c7⟩, c8⟩, c9⟩, c10⟩, c11⟩, c12⟩, c13⟩, c14⟩ := h
  have hlen : bt.length = ops.size := by simpa using c1
  have zipAt : ∀ {i : Nat} {o : Oper}, ops[i]? = some o → (o, bt.getD i 0) ∈ ops.toList.zip bt := by
    intro i o ho
    have hlt := (Array.getElem?_eq_some_iff.1 ho).1
    have : (ops.toList.zip bt)[i]? = some (o, bt.getD i 0) := by
      rw [List.getElem?_zip_eq_some]
      refine ⟨by simpa using ho, ?_⟩
      have : i < bt.length := by omega
      simp [List.getD_eq_getElem?_getD, this]
    exact List.mem_of_getElem? this
  have rowAt : ∀ {i : Nat} {o : Oper}, ops[i]? = some o → ∀ j, tb bt i j = o.after.toList.any fun e => Region.binds .any e && (e.on == j || tb bt e.on j) := by
    intro i o ho j
    have := List.all_eq_true.1 c2 _ (zipAt ho)
    simp only [beq_iff_eq] at this
    show (bt.getD i 0).testBit j = _
    rw [this, befRow_bit]
    rfl
  have dsAt : ∀ {i : Nat} {o : Oper} {d : Nat}, ops[i]? = some o → o.dst = some d → (ops.toList.map (·.dst))[i]? = some (some d) := by
    intro i o d ho hd
    simp [List.getElem?_map, ho, hd]
  have hinj := fun {i j d : Nat} => filterMap_inj (ds := ops.toList.map (·.dst)) (nodupB_spec (show nodupB ((ops.toList.map (·.dst)).filterMap id) = true from c7)) (i := i) (j := j) (d := d)
  have hnd := nodupB_spec c5
  refine ⟨{ down := ?_, up := ?_, lt := ?_, all := ?_, nodup := hnd, topo := ?_, uniq := ?_, dst := ?_, look := ?_, grd := ?_, flt := ?_, quiet := ?_, pend := ?_, virt := ?_, fdis := ?_ }, ?_⟩
  · intro i o ho j hj
    rw [rowAt ho, List.any_eq_true] at hj
    obtain ⟨e, he, h1⟩ := hj
    simp only [Bool.and_eq_true, Bool.or_eq_true, beq_iff_eq] at h1
    exact ⟨e, by simpa using he, h1.1, h1.2⟩
  · intro i o ho e he hb
    rw [rowAt ho, List.any_eq_true]
    exact ⟨e, by simpa using he, by simp [hb]⟩
  · intro s hs'
    exact Nat.le_of_ble_eq_true (List.all_eq_true.1 c3 s hs')
  · intro i hi
    refine (mask_bit i pl).1 ?_
    rw [show maskOf pl = 2 ^ ops.size - 1 by simpa using c4, Nat.testBit_two_pow_sub_one]
    simpa using hi
  · intro done s rest e j hj
    simpa using (walkB_spec c6 done s rest e).1 j hj
  · intro done s rest e hc t ht
    exact ((walkB_spec c6 done s rest e).2 hc).1 t ht
  · intro i j oi oj d h1 h2 h3 h4
    exact hinj (dsAt h1 h3) (dsAt h2 h4)
  · intro s hs' t ht j oj h1 h2
    have := List.all_eq_true.1 (List.all_eq_true.1 c8 s hs') t ht
    split at this
    · rename_i k hk
      have hk' : (ops.toList.map (·.dst))[k]? = some (some t) := by
        obtain ⟨g1, g2, _⟩ := List.idxOf?_eq_some_iff.1 hk
        rw [List.getElem?_eq_getElem g1]
        simpa using g2
      have e : k = j := hinj hk' (dsAt h1 h2)
      rw [e] at this
      simpa using this
    · rename_i hk
      have := dsAt h1 h2
      have hm := List.mem_of_getElem? this
      rw [List.idxOf?_eq_none_iff] at hk
      exact absurd hm hk
  · intro i o g want ho hg
    have := List.all_eq_true.1 c9 _ (zipAt ho)
    rw [hg] at this
    exact this
  · intro s hs' f hf h hc hne hb
    have := List.all_eq_true.1 (List.all_eq_true.1 c10 (f.i, h) (List.mem_filterMap.2 ⟨f, hf, by rw [hc]; rfl⟩)) s hs'
    simp only [Bool.or_eq_true, beq_iff_eq, hb, Bool.false_eq_true, or_false, Bool.and_eq_true] at this
    rcases this with (h1 | h1) | ⟨h1, h2⟩
    · exact absurd h1 hne
    · exact .inl (inL_iff.1 h1)
    · refine .inr ⟨?_, fun o ho => ?_⟩
      · revert h1; cases s.cl <;> simp [isQ]
      · simpa [blindAt, ho] using h2
  · intro s hs' o ho hq
    have := List.all_eq_true.1 c11 s hs'
    simpa [hq, isQ, ho] using this
  · intro done s rest e hc t ht hq hb o ho
    exact ((walkB_spec c6 done s rest e).2 hc).2 t (by simpa using ht) hq hb o ho
  · intro s hs' h hc
    have := List.all_eq_true.1 c12 s hs'
    rw [hc] at this
    exact inL_iff.1 this
  · intro s hs1 s' hs2 h e e'
    rw [filterMap_fl (nodupB_spec c13) hs1 hs2 e e']
  · intro z hz sz e
    have := List.all_eq_true.1 c14 z hz
    rw [e] at this
    exact Nat.le_of_ble_eq_true this

end Go.Abs

/- The abstract layer, part 30: code, reckoned by simp: straight on till a loop. -/
namespace Go.Abs
open Go Go.RowKit

/-- The plan of a region whose order is open. -/
structure RPlan where
  id : Nat
  pl : List Stp
  hs : List (Option Nat)
  bt : List Nat

def planOf : List RPlan → Nat → Option RPlan
  | [], _ => none
  | p :: r, id => if p.id = id then some p else planOf r id

def runC (cx : Cx) (ps : List RPlan) : Code → Env → List AObj → Post → Prop
  | .skip, env, σ, Q => Q .normal env σ
  | .label _, env, σ, Q => Q .normal env σ
  | .ret, env, σ, Q => Q .ret env σ
  | .exit id, env, σ, Q => Q (.exit id) env σ
  | .region _ ops false, env, σ, Q => runL cx ops ops.toList env σ fun env' σ' => Q .normal env' σ'
  | .region id ops true, env, σ, Q => match planOf ps id with
    | some p => runA cx ops σ.length p.pl env (σ ++ holes p.hs) [] (Q .normal)
    | none => False
  | .seq x y, env, σ, Q => runC cx ps x env σ fun e env' σ' => match e with
    | .normal => runC cx ps y env' σ' Q
    | e => Q e env' σ'
  | .cond c x y, env, σ, Q => match aeval env c with
    | .val (.bool t) => (t = true → runC cx ps x env σ Q) ∧ (t = false → runC cx ps y env σ Q)
    | _ => False
  | .block id c, env, σ, Q => runC cx ps c env σ fun e env' σ' => match e with
    | .exit id' => if id' = id then Q .normal env' σ' else Q (.exit id') env' σ'
    | e => Q e env' σ'
  | c, env, σ, Q => WpA cx c env σ Q

/-- Every temporary that is written is one of the frame's. -/
def codeOk (N : Nat) (ps : List RPlan) : Code → Bool
  | .region _ ops false => dstOk N ops
  | .region id ops true => dstOk N ops && match planOf ps id with | some p => planB ops p.pl p.hs p.bt | none => false
  | .seq x y => codeOk N ps x && codeOk N ps y
  | .cond _ x y => codeOk N ps x && codeOk N ps y
  | .block _ c => codeOk N ps c
  | _ => true

theorem runC_sound {cx : Cx} {ps : List RPlan} (hm : cx.P.follows .mixedOrders = true) : ∀ (c : Code) (env : Env) (σ : List AObj) (Q : Post), codeOk cx.N ps c = true → runC cx ps c env σ Q → WpA cx c env σ Q := by
  intro c
  induction c with
  | skip => intro env σ Q ok h; exact .skip h
  | label l => intro env σ Q ok h; exact .label h
  | ret => intro env σ Q ok h; exact .ret h
  | exit id => intro env σ Q ok h; exact .exit h
  | region id ops draw =>
    intro env σ Q ok h
    cases draw with
    | false => exact .region ok h
    | true =>
      simp only [codeOk, Bool.and_eq_true] at ok
      simp only [runC] at h
      cases hp : planOf ps id with
      | none => rw [hp] at h; exact h.elim
      | some p =>
        rw [hp] at h ok
        exact .regionAny hm ok.1 (planB_spec ok.2).1 (planB_spec ok.2).2 h
  | seq x y ihx ihy =>
    intro env σ Q ok h
    simp only [codeOk, Bool.and_eq_true] at ok
    refine .seq ((ihx env σ _ ok.1 h).mono fun e env' σ' hq => ?_)
    cases e with
    | normal => exact ihy _ _ _ ok.2 hq
    | _ => exact hq
  | cond c x y ihx ihy =>
    intro env σ Q ok h
    simp only [codeOk, Bool.and_eq_true] at ok
    simp only [runC] at h
    split at h
    · rename_i t ht
      exact .cond ht (fun e => ihx _ _ _ ok.1 (h.1 e)) (fun e => ihy _ _ _ ok.2 (h.2 e))
    · exact h.elim
  | block id c ih =>
    intro env σ Q ok h
    refine .block ((ih env σ _ ok h).mono fun e env' σ' hq => ?_)
    cases e with
    | exit id' =>
      simp only at hq
      simp only [Post.inBlock]
      exact hq
    | _ => exact hq
  | loop c _ => intro env σ Q ok h; exact h
  | rangeFunc f ps a b _ _ => intro env σ Q ok h; exact h
  | scope c _ => intro env σ Q ok h; exact h
  | goto l => intro env σ Q ok h; exact h
  | refuse w => intro env σ Q ok h; exact h

/-! How far simp goes: not into what comes later. -/
theorem runC_congr {cx : Cx} {ps : List RPlan} {c : Code} {env env' : Env} {σ σ' : List AObj} {Q : Post} (h1 : env = env') (h2 : σ = σ') : runC cx ps c env σ Q = runC cx ps c env' σ' Q := by rw [h1, h2]
theorem runL_congr {cx : Cx} {ops : Array Oper} {l : List Oper} {env env' : Env} {σ σ' : List AObj} {K : Env → List AObj → Prop} (h1 : env = env') (h2 : σ = σ') : runL cx ops l env σ K = runL cx ops l env' σ' K := by rw [h1, h2]
theorem opA_congr {cx : Cx} {o : Oper} {env env' : Env} {σ σ' : List AObj} {K : Kont} (h1 : env = env') (h2 : σ = σ') : opA cx o env σ K = opA cx o env' σ' K := by rw [h1, h2]
theorem loadA_congr {q : Option Nat} {av av' : AVal} {σ σ' : List AObj} {K : Kont} (h1 : av = av') (h2 : σ = σ') : loadA q av σ K = loadA q av' σ' K := by rw [h1, h2]
theorem storeA_congr {q : Option Nat} {av av' x x' : AVal} {σ σ' : List AObj} {K : Kont} (h1 : av = av') (h2 : x = x') (h3 : σ = σ') : storeA q av x σ K = storeA q av' x' σ' K := by rw [h1, h2, h3]
theorem indexAddrA_congr {sz : Nat} {av av' : AVal} {i i' : Int} {σ σ' : List AObj} {K : Kont} (h1 : av = av') (h2 : i = i') (h3 : σ = σ') : indexAddrA sz av i σ K = indexAddrA sz av' i' σ' K := by rw [h1, h2, h3]
theorem appendA_congr {sz b : Nat} {av av' x x' : AVal} {σ σ' : List AObj} {K : Kont} (h1 : av = av') (h2 : x = x') (h3 : σ = σ') : appendA sz b av x σ K = appendA sz b av' x' σ' K := by rw [h1, h2, h3]
theorem sliceA_congr {sz : Nat} {env : Env} {lo hi : Option Operand} {av av' : AVal} {σ σ' : List AObj} {K : Kont} (h1 : av = av') (h3 : σ = σ') : sliceA sz env lo hi av σ K = sliceA sz env lo hi av' σ' K := by rw [h1, h3]
theorem binA_congr {P : Program} {t : TypeId} {op : BinOp} {x x' y y' : AVal} {σ σ' : List AObj} {K : Kont} (h1 : x = x') (h2 : y = y') (h3 : σ = σ') : binA P t op x y σ K = binA P t op x' y' σ' K := by rw [h1, h2, h3]
theorem pickA_congr {t t' : Bool} {x x' y y' : AVal} {σ σ' : List AObj} {K : Kont} (h0 : t = t') (h1 : x = x') (h2 : y = y') (h3 : σ = σ') : pickA t x y σ K = pickA t' x' y' σ' K := by rw [h0, h1, h2, h3]
theorem callA_congr {P : Program} {f f' : AVal} {args args' : List AVal} {m m' : Nat} {σ σ' : List AObj} {K : Kont} (h0 : f = f') (h1 : args = args') (h2 : m = m') (h3 : σ = σ') : callA P f args m σ K = callA P f' args' m' σ' K := by rw [h0, h1, h2, h3]
theorem CallG_congr {P : Program} {f : FuncId} {args args' : List AVal} {σ σ' : List AObj} {K : Kont} (h1 : args = args') (h3 : σ = σ') : CallG P f args σ K = CallG P f args' σ' K := by rw [h1, h3]
theorem WpA_congr {cx : Cx} {c : Code} {env env' : Env} {σ σ' : List AObj} {Q : Post} (h1 : env = env') (h2 : σ = σ') : WpA cx c env σ Q = WpA cx c env' σ' Q := by rw [h1, h2]
theorem RestA_congr {cx : Cx} {c : Code} {env env' : Env} {σ σ' : List AObj} {Q : Post} (h1 : env = env') (h2 : σ = σ') : RestA cx c env σ Q = RestA cx c env' σ' Q := by rw [h1, h2]
theorem runA_congr {cx : Cx} {ops : Array Oper} {b0 b0' : Nat} {pl : List Stp} {env env' : Env} {σ σ' : List AObj} {pd pd' : List Pd} {K : Env → List AObj → Prop} (h0 : b0 = b0') (h1 : env = env') (h2 : σ = σ') (h3 : pd = pd') : runA cx ops b0 pl env σ pd K = runA cx ops b0' pl env' σ' pd' K := by rw [h0, h1, h2, h3]
theorem valA_congr {cx : Cx} {o : Oper} {env env' : Env} {U : List Nat} {b0 b0' : Nat} {σ σ' : List AObj} {av av' : AVal} (h1 : env = env') (h0 : b0 = b0') (h2 : σ = σ') (h3 : av = av') : valA cx o env U b0 σ av = valA cx o env' U b0' σ' av' := by rw [h0, h1, h2, h3]
theorem effA_congr {cx : Cx} {o : Oper} {env env' : Env} {U : List Nat} {b0 b0' : Nat} {σ σ' : List AObj} {K : Kont} (h1 : env = env') (h0 : b0 = b0') (h2 : σ = σ') : effA cx o env U b0 σ K = effA cx o env' U b0' σ' K := by rw [h0, h1, h2]
theorem floatA_congr {cx : Cx} {o : Oper} {env env' : Env} {h h' : Nat} {K : AVal → AObj → Prop} (h1 : env = env') (h0 : h = h') : floatA cx o env h K = floatA cx o env' h' K := by rw [h0, h1]
theorem immA_congr {cx : Cx} {o : Oper} {env env' : Env} {K : AVal → Prop} (h1 : env = env') : immA cx o env K = immA cx o env' K := by rw [h1]
theorem thereIs_congr {A A' R : AVal → Prop} (h : A = A') : thereIs A R = thereIs A' R := by rw [h]
theorem guarded_congr {ops : Array Oper} {o : Oper} {env env' : Env} {skip exec : Env → Prop} (h : env = env') : guarded ops o env skip exec = guarded ops o env' skip exec := by rw [h]
attribute [congr] runA_congr valA_congr effA_congr floatA_congr immA_congr thereIs_congr guarded_congr

theorem thereIs_eq (v : AVal) (R : AVal → Prop) : thereIs (fun av => v = av) R = R v := by
  simp [thereIs]
theorem thereIs_and (c : Prop) (A R : AVal → Prop) : thereIs (fun av => c ∧ A av) R = (c ∧ thereIs A R) := by
  apply propext
  constructor
  · rintro ⟨av, ⟨h1, h2⟩, h3⟩; exact ⟨h1, av, h2, h3⟩
  · rintro ⟨h1, av, h2, h3⟩; exact ⟨av, ⟨h1, h2⟩, h3⟩
theorem thereIs_false (R : AVal → Prop) : thereIs (fun _ => False) R = False := by simp [thereIs]

attribute [congr] runC_congr runL_congr opA_congr loadA_congr storeA_congr indexAddrA_congr appendA_congr sliceA_congr binA_congr pickA_congr callA_congr CallG_congr WpA_congr RestA_congr


attribute [go_sem] floatA immA virtA inL holes addAll blindOp thereIs_eq thereIs_and thereIs_false Env.keep
  opA nilCmp moreA moreV minA aeval Env.put Env.get binA intA strA pickA callA lenA sliceA bnd appendA srcA evalParts buildOk elemsOk partOk spliceParts setParts splice setCells cut wid stOk
  AVal.leaf AVal.solid Value.oneCell' tupA argEnv argEnvFrom
  List.map_cons List.map_nil List.foldl_cons List.foldl_nil List.all_cons List.all_nil List.length_cons List.length_nil List.getElem?_cons_zero List.getElem?_cons_succ List.getD_cons_zero List.getD_cons_succ
  List.set_cons_zero List.set_cons_succ List.take_succ_cons List.take_zero List.drop_succ_cons List.drop_zero List.nil_append List.cons_append List.replicate_succ List.replicate_zero List.headD_cons List.reverse_cons List.reverse_nil
  Option.map_some Option.map_none Option.getD_some Option.getD_none Option.bind_some Option.bind_none Bool.and_true Bool.true_and Bool.and_self Bool.and_false Bool.false_and Bool.not_true Bool.not_false
  decide_true decide_false true_and and_true and_self Bool.true_eq_false Bool.false_eq_true forall_const false_imp_iff true_imp_iff

end Go.Abs

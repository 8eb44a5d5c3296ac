/- The abstract layer, text 2 of 5: more operations, maps, ranges over functions, one operation of any kind. Generic over the program. -/
import Derived.Test.YtphjobnijjkchaaGreatDoorL1
import Derived.Laws.StructEq
import Derived.MapKept
import Derived.RangeFuncRecord

/- The abstract layer, part 15b: more operations that change nothing: parts of structs and arrays, equality of structs, pointers and slices with nil, shifts, bits, conversions between integers, min and max. -/
namespace Go.Abs
open Go Go.RowKit

theorem tin_part {P : Program} {B : BMap} {I : Nat → Prop} {bs : Nat} {w : World} {t : TypeId} {q : Option Nat} (ht : tin P t = some q) {cs : List AVal} {vs : Array Value} {off : Nat} (hl : cs.length = vs.size) (ho : off + wid q ≤ cs.length)
    (hc : ∀ k, k < cs.length → RV B I bs w (cs.getD k .any) (vs.getD k undef)) : ∃ v, (part t vs off).run P w = .ok v w ∧ RV B I bs w (cut q cs off) v := by
  cases q with
  | none =>
    have h1 := tin_one ht w
    simp only [wid] at ho
    have e : vs[off]? = some (vs.getD off undef) := by
      rw [Array.getD_eq_getD_getElem?, Array.getElem?_eq_getElem (by omega)]; rfl
    refine ⟨vs.getD off undef, ?_, hc off (by omega)⟩
    simp only [part, Sem.run_bind, h1, Result.andThen, Bool.false_eq_true, if_false, e, Sem.run_pure]
  | some n =>
    obtain ⟨h1, h2⟩ := tin_agg ht w
    simp only [wid] at ho
    refine ⟨.agg (vs.extract off (off + n)), ?_, .agg (by simp; omega) fun k hk => ?_⟩
    · simp only [part, Sem.run_bind, h1, Result.andThen, if_true, h2, Sem.run_pure]
    · have hk' : k < n := by simp at hk; omega
      rw [getD_drop_take hk']
      have : (vs.extract off (off + n)).getD k undef = vs.getD (off + k) undef := by
        rw [Array.getD_eq_getD_getElem?, Array.getD_eq_getD_getElem?, Array.getElem?_extract, if_pos (by omega)]
      rw [this]
      exact hc _ (by omega)

/-! ### Equality of structs -/
def eqIn (P : Program) : Nat → TypeId → AVal → AVal → Option Bool
  | 0, _, _, _ => none
  | n + 1, t, x, y => match P.underlying t, x, y with
    | some .bool, .val (.bool a), .val (.bool b) => some (a == b)
    | some (.int _), .val (.int k a), .val (.int k' b) => if k = k' then some (decide (a = b)) else none
    | some .string, .val (.string a), .val (.string b) => some (decide (a = b))
    | some (.struct fs), .agg xs, .agg ys => if P.stoodInHeld t = false then
        fs.toList.foldr (fun f r => if f.name = "_" then none else match tin P f.type with
          | some q => if f.offset + wid q ≤ xs.length ∧ f.offset + wid q ≤ ys.length then (match eqIn P n f.type (cut q xs f.offset) (cut q ys f.offset), r with
            | some a, some b => some (a && b)
            | _, _ => none) else none
          | none => none) (some true) else none
    | _, _, _ => none

theorem eqIn_run {P : Program} {B : BMap} {I : Nat → Prop} {bs : Nat} {w : World} : ∀ (n d : Nat) {t : TypeId} {x y : AVal} {u v : Value} {r : Bool}, eqIn P n t x y = some r → RV B I bs w x u → RV B I bs w y v → (Op.equalIn (d + n) t u v).run P w = .ok r w := by
  intro n
  induction n with
  | zero => intro d t x y u v r h; cases h
  | succ n ih =>
    intro d t x y u v r h hu hv
    unfold eqIn at h
    split at h
    · rename_i hty
      rw [hu.valEq, hv.valEq]
      cases h
      rw [show d + (n + 1) = (d + n) + 1 from rfl]
      simp [Op.equalIn, run_underlying' hty, go_sem]
    · rename_i hty
      rw [hu.valEq, hv.valEq]
      split at h
      · rename_i hk
        subst hk
        cases h
        rw [show d + (n + 1) = (d + n) + 1 from rfl]
        simp [Op.equalIn, run_underlying' hty, go_sem, beq_decide]
      · cases h
    · rename_i hty
      rw [hu.valEq, hv.valEq]
      cases h
      rw [show d + (n + 1) = (d + n) + 1 from rfl]
      simp [Op.equalIn, run_underlying' hty, go_sem, str_beq, beq_toListBytes]
    · rename_i fs xs ys hty
      split at h
      · rename_i hs
        cases hu with
        | agg hl1 hc1 =>
          rename_i us
          cases hv with
          | agg hl2 hc2 =>
            rename_i vs
            have hfs : P.fieldsOf t = fs := by simp [Program.fieldsOf, hty]
            rw [show d + (n + 1) = (d + n) + 1 from rfl, run_equalIn_struct w (d + n) t us vs (by rw [hfs]; exact hty) hs, hfs]
            generalize fs.toList = l at h
            clear hty hfs
            induction l generalizing r with
            | nil => cases h; rfl
            | cons f l ihl =>
              simp only [List.foldr_cons] at h
              split at h
              · cases h
              · rename_i hn
                split at h
                · rename_i q hq
                  split at h
                  · rename_i hle
                    split at h
                    · rename_i a b ha hb
                      cases h
                      obtain ⟨p, hp1, hp2⟩ := tin_part hq hl1 hle.1 hc1
                      obtain ⟨p', hp1', hp2'⟩ := tin_part hq hl2 hle.2 hc2
                      have he := ih d ha hp2 hp2'
                      have hr := ihl hb
                      simp only [Op.eqFields, ne_eq, hn, not_false_eq_true, if_true, Sem.run_bind, hp1, hp1', he, Result.andThen]
                      cases a
                      · simp
                      · simpa using hr
                    · cases h
                  · cases h
                · cases h
      · cases h
    · cases h

/-- The comparison of two values that are no numbers and no strings. -/
def eqV2 (P : Program) (t : TypeId) (x y : AVal) : Option Bool :=
  match x, y with
  | .agg _, .agg _ => if P.eqGuardType P.depth t = false then eqIn P 6 t x y else none
  | x, y => match P.underlying t with
    | some (.slice _) => (match x, y with
      | x, .val (.slice none _ _) => (match x with | .row _ _ _ (_ + 1) | .list _ _ (_ :: _) => some false | .val (.slice none _ _) => some true | _ => none)
      | .val (.slice none _ _), y => (match y with | .row _ _ _ (_ + 1) | .list _ _ (_ :: _) => some false | _ => none)
      | _, _ => none)
    | some (.pointer _) => (match x, y with
      | x, .val (.pointer none) => (match x with | .ptr .. | .eptr .. => some false | .val (.pointer none) => some true | _ => none)
      | .val (.pointer none), y => (match y with | .ptr .. | .eptr .. => some false | _ => none)
      | _, _ => none)
    | _ => none

theorem RV.sliceRow {B : BMap} {I : Nat → Prop} {bs : Nat} {w : World} {l v o n : Nat} {u : Value} (h : RV B I bs w (.row l v o (n + 1)) u) : ∃ a m c, u = .slice (some a) m c := by
  cases h with
  | row => exact ⟨_, _, _, rfl⟩

theorem RV.sliceList {B : BMap} {I : Nat → Prop} {bs : Nat} {w : World} {tg : Bool} {sz : Nat} {x : AVal} {xs : List AVal} {u : Value} (h : RV B I bs w (.list tg sz (x :: xs)) u) : ∃ a m c, u = .slice (some a) m c := by
  cases h with
  | list => exact ⟨_, _, _, rfl⟩

theorem RV.ptrSome {B : BMap} {I : Nat → Prop} {bs : Nat} {w : World} {l v i j : Nat} {u : Value} (h : RV B I bs w (.ptr l v i j) u) : ∃ a, u = .pointer (some a) := by
  cases h with
  | ptr => exact ⟨_, rfl⟩

theorem RV.eptrSome {B : BMap} {I : Nat → Prop} {bs : Nat} {w : World} {cs : List AVal} {j : Nat} {u : Value} (h : RV B I bs w (.eptr cs j) u) : ∃ a, u = .pointer (some a) := by
  cases h with
  | eptr => exact ⟨_, rfl⟩

theorem eq_slices {P : Program} {w : World} {t e : TypeId} (ht : P.underlying t = some (.slice e)) (d : Nat) (m c m' c' : Nat) (a : Addr) :
    (Op.equalIn (d + 1) t (.slice (some a) m c) (.slice none m' c')).run P w = .ok false w ∧ (Op.equalIn (d + 1) t (.slice none m' c') (.slice (some a) m c)).run P w = .ok false w ∧ (Op.equalIn (d + 1) t (.slice none m c) (.slice none m' c')).run P w = .ok true w := by
  refine ⟨?_, ?_, ?_⟩ <;> simp [Op.equalIn, run_underlying' ht, go_sem]

theorem eq_ptrs {P : Program} {w : World} {t e : TypeId} (ht : P.underlying t = some (.pointer e)) (d : Nat) (a : Addr) :
    (Op.equalIn (d + 1) t (.pointer (some a)) (.pointer none)).run P w = .ok false w ∧ (Op.equalIn (d + 1) t (.pointer none) (.pointer (some a))).run P w = .ok false w ∧ (Op.equalIn (d + 1) t (.pointer none) (.pointer none)).run P w = .ok true w := by
  refine ⟨?_, ?_, ?_⟩ <;> simp [Op.equalIn, run_underlying' ht, go_sem]

theorem eqV2_run {P : Program} {B : BMap} {I : Nat → Prop} {bs : Nat} {w : World} {t : TypeId} {x y : AVal} {u v : Value} {r : Bool} (h : eqV2 P t x y = some r) (hu : RV B I bs w x u) (hv : RV B I bs w y v) :
    (Op.equal t u v).run P w = .ok r w ∧ ∀ (op : BinOp) (a b : Operand), (eqGuard op t a b u v).run P w = .ok () w := by
  have sl : ∀ {e : TypeId} {u v : Value}, P.underlying t = some (.slice e) → (∃ b m c, v = .slice none m c ∧ ((∃ a m' c', u = .slice (some a) m' c' ∧ r = false ∧ b = ()) ∨ (∃ m' c', u = .slice none m' c' ∧ r = true ∧ b = ()))) ∨ (∃ a m c m' c', u = .slice none m' c' ∧ v = .slice (some a) m c ∧ r = false) →
      (Op.equal t u v).run P w = .ok r w ∧ ∀ (op : BinOp) (a b : Operand), (eqGuard op t a b u v).run P w = .ok () w := by
    intro e u v ht h
    have eg : ∀ {a b : Option Addr} {m c m' c' : Nat} (op : BinOp) (x y : Operand), (eqGuard op t x y (.slice a m c) (.slice b m' c')).run P w = .ok () w := by
      intro a b m c m' c' op x y; cases op <;> rfl
    rcases h with ⟨_, m, c, rfl, ⟨a, m', c', rfl, rfl, _⟩ | ⟨m', c', rfl, rfl, _⟩⟩ | ⟨a, m, c, m', c', rfl, rfl, rfl⟩
    · exact ⟨(eq_slices ht 9999 m' c' m c a).1, eg⟩
    · exact ⟨(eq_slices ht 9999 m' c' m c ⟨0, 0, none⟩).2.2, eg⟩
    · exact ⟨(eq_slices ht 9999 m c m' c' a).2.1, eg⟩
  have pt : ∀ {e : TypeId} {u v : Value}, P.underlying t = some (.pointer e) → (v = .pointer none ∧ ((∃ a, u = .pointer (some a)) ∧ r = false ∨ u = .pointer none ∧ r = true)) ∨ (u = .pointer none ∧ (∃ a, v = .pointer (some a)) ∧ r = false) →
      (Op.equal t u v).run P w = .ok r w ∧ ∀ (op : BinOp) (a b : Operand), (eqGuard op t a b u v).run P w = .ok () w := by
    intro e u v ht h
    have eg : ∀ {a b : Option Addr} (op : BinOp) (x y : Operand), (eqGuard op t x y (.pointer a) (.pointer b)).run P w = .ok () w := by
      intro a b op x y; cases op <;> rfl
    rcases h with ⟨rfl, ⟨⟨a, rfl⟩, rfl⟩ | ⟨rfl, rfl⟩⟩ | ⟨rfl, ⟨a, rfl⟩, rfl⟩
    · exact ⟨(eq_ptrs ht 9999 a).1, eg⟩
    · exact ⟨(eq_ptrs ht 9999 ⟨0, 0, none⟩).2.2, eg⟩
    · exact ⟨(eq_ptrs ht 9999 a).2.1, eg⟩
  unfold eqV2 at h
  split at h
  · split at h
    · rename_i hg
      refine ⟨eqIn_run 6 9994 h hu hv, fun op a b => ?_⟩
      cases hu with
      | agg hl1 hc1 =>
        cases hv with
        | agg hl2 hc2 =>
          cases op <;> first | rfl | (simp [eqGuard, go_sem, hg])
    · cases h
  · split at h
    · rename_i ht
      refine sl ht ?_
      split at h
      · rw [hv.valEq]
        split at h
        · cases h; obtain ⟨a, m, c, rfl⟩ := hu.sliceRow; exact .inl ⟨(), _, _, rfl, .inl ⟨_, _, _, rfl, rfl, rfl⟩⟩
        · cases h; obtain ⟨a, m, c, rfl⟩ := hu.sliceList; exact .inl ⟨(), _, _, rfl, .inl ⟨_, _, _, rfl, rfl, rfl⟩⟩
        · cases h; rw [hu.valEq]; exact .inl ⟨(), _, _, rfl, .inr ⟨_, _, rfl, rfl, rfl⟩⟩
        · cases h
      · rw [hu.valEq]
        split at h
        · cases h; obtain ⟨a, m, c, rfl⟩ := hv.sliceRow; exact .inr ⟨_, _, _, _, _, rfl, rfl, rfl⟩
        · cases h; obtain ⟨a, m, c, rfl⟩ := hv.sliceList; exact .inr ⟨_, _, _, _, _, rfl, rfl, rfl⟩
        · cases h
      · cases h
    · rename_i ht
      refine pt ht ?_
      split at h
      · rw [hv.valEq]
        split at h
        · cases h; exact .inl ⟨rfl, .inl ⟨hu.ptrSome, rfl⟩⟩
        · cases h; exact .inl ⟨rfl, .inl ⟨hu.eptrSome, rfl⟩⟩
        · cases h; exact .inl ⟨rfl, .inr ⟨hu.valEq, rfl⟩⟩
        · cases h
      · rw [hu.valEq]
        split at h
        · cases h; exact .inr ⟨rfl, hv.ptrSome, rfl⟩
        · cases h; exact .inr ⟨rfl, hv.eptrSome, rfl⟩
        · cases h
      · cases h
    · cases h

def shiftA (op : BinOp) (k : IntKind) (a b : Int) : Option Value :=
  match op with
  | .shl => if b < 0 then none else some (.int k (k.wrap (a * 2 ^ (min b.toNat k.bits))))
  | .shr => if b < 0 then none else some (.int k (a.fdiv (2 ^ (min b.toNat k.bits))))
  | _ => none

def bitsA (op : BinOp) (k : IntKind) (a b : Int) : Option Value :=
  match op with
  | .and => some (.int k (k.wrap (BitVec.ofInt k.bits a &&& BitVec.ofInt k.bits b).toNat))
  | .or => some (.int k (k.wrap (BitVec.ofInt k.bits a ||| BitVec.ofInt k.bits b).toNat))
  | .xor => some (.int k (k.wrap (BitVec.ofInt k.bits a ^^^ BitVec.ofInt k.bits b).toNat))
  | _ => none

/-- Operations on two values, beyond those on numbers and strings. -/
def binV (P : Program) (op : BinOp) (t : TypeId) (x y : AVal) : Option AVal :=
  match op with
  | .shl | .shr => match x, y with
    | .val (.int k a), .val (.int _ b) => (shiftA op k a b).map .val
    | _, _ => none
  | .and | .or | .xor => match x, y with
    | .val (.int k a), .val (.int k' b) => if k = k' then (bitsA op k a b).map .val else none
    | _, _ => none
  | .eql => (eqV2 P t x y).map fun b => .val (.bool b)
  | .neq => (eqV2 P t x y).map fun b => .val (.bool (!b))
  | _ => none

theorem binOp_eql {P : Program} {B : BMap} {I : Nat → Prop} {bs : Nat} {w : World} {t : TypeId} {x y : AVal} {u v : Value} {r : Bool} (h : eqV2 P t x y = some r) (hu : RV B I bs w x u) (hv : RV B I bs w y v) :
    (binOp .eql t u v).run P w = (do pure (.bool (← Op.equal t u v)) : Sem Value).run P w ∧ (binOp .neq t u v).run P w = (do pure (.bool (!(← Op.equal t u v))) : Sem Value).run P w := by
  have shape : (∃ a b, u = .agg a ∧ v = .agg b) ∨ (∃ a m c a' m' c', u = .slice a m c ∧ v = .slice a' m' c') ∨ (∃ a b, u = .pointer a ∧ v = .pointer b) := by
    unfold eqV2 at h
    split at h
    · cases hu with
      | agg => cases hv with
        | agg => exact .inl ⟨_, _, rfl, rfl⟩
    · split at h
      · split at h
        · rw [hv.valEq]
          split at h
          · obtain ⟨a, m, c, rfl⟩ := hu.sliceRow; exact .inr (.inl ⟨_, _, _, _, _, _, rfl, rfl⟩)
          · obtain ⟨a, m, c, rfl⟩ := hu.sliceList; exact .inr (.inl ⟨_, _, _, _, _, _, rfl, rfl⟩)
          · rw [hu.valEq]; exact .inr (.inl ⟨_, _, _, _, _, _, rfl, rfl⟩)
          · cases h
        · rw [hu.valEq]
          split at h
          · obtain ⟨a, m, c, rfl⟩ := hv.sliceRow; exact .inr (.inl ⟨_, _, _, _, _, _, rfl, rfl⟩)
          · obtain ⟨a, m, c, rfl⟩ := hv.sliceList; exact .inr (.inl ⟨_, _, _, _, _, _, rfl, rfl⟩)
          · cases h
        · cases h
      · split at h
        · rw [hv.valEq]
          split at h
          · obtain ⟨a, rfl⟩ := hu.ptrSome; exact .inr (.inr ⟨_, _, rfl, rfl⟩)
          · obtain ⟨a, rfl⟩ := hu.eptrSome; exact .inr (.inr ⟨_, _, rfl, rfl⟩)
          · rw [hu.valEq]; exact .inr (.inr ⟨_, _, rfl, rfl⟩)
          · cases h
        · rw [hu.valEq]
          split at h
          · obtain ⟨a, rfl⟩ := hv.ptrSome; exact .inr (.inr ⟨_, _, rfl, rfl⟩)
          · obtain ⟨a, rfl⟩ := hv.eptrSome; exact .inr (.inr ⟨_, _, rfl, rfl⟩)
          · cases h
        · cases h
      · cases h
  rcases shape with ⟨a, b, rfl, rfl⟩ | ⟨a, m, c, a', m', c', rfl, rfl⟩ | ⟨a, b, rfl, rfl⟩
  · exact ⟨rfl, rfl⟩
  · exact ⟨rfl, rfl⟩
  · exact ⟨rfl, rfl⟩

theorem binV_run {P : Program} {B : BMap} {I : Nat → Prop} {bs : Nat} {w : World} {op : BinOp} {t : TypeId} {x y r : AVal} {u v : Value} (h : binV P op t x y = some r) (hu : RV B I bs w x u) (hv : RV B I bs w y v) (a b : Operand) :
    ∃ z, (do eqGuard op t a b u v; binOp op t u v : Sem Value).run P w = .ok z w ∧ RV B I bs w r z := by
  unfold binV at h
  split at h
  · split at h
    · rw [Option.map_eq_some_iff] at h
      obtain ⟨z, hz, rfl⟩ := h
      simp only [shiftA] at hz
      split at hz
      · cases hz
      · rename_i hb
        cases hz
        exact ⟨_, by rw [hu.valEq, hv.valEq]; simp [binOp, Op.shift, hb, eqGuard, go_sem], .val _⟩
    · cases h
  · split at h
    · rw [Option.map_eq_some_iff] at h
      obtain ⟨z, hz, rfl⟩ := h
      simp only [shiftA] at hz
      split at hz
      · cases hz
      · rename_i hb
        cases hz
        exact ⟨_, by rw [hu.valEq, hv.valEq]; simp [binOp, Op.shift, hb, eqGuard, go_sem], .val _⟩
    · cases h
  · split at h
    · split at h
      · rename_i hk
        subst hk
        cases h
        exact ⟨_, by rw [hu.valEq, hv.valEq]; simp [binOp, Op.intBits, eqGuard, go_sem], .val _⟩
      · cases h
    · cases h
  · split at h
    · split at h
      · rename_i hk
        subst hk
        cases h
        exact ⟨_, by rw [hu.valEq, hv.valEq]; simp [binOp, Op.intBits, eqGuard, go_sem], .val _⟩
      · cases h
    · cases h
  · split at h
    · split at h
      · rename_i hk
        subst hk
        cases h
        exact ⟨_, by rw [hu.valEq, hv.valEq]; simp [binOp, Op.intBits, eqGuard, go_sem], .val _⟩
      · cases h
    · cases h
  · rw [Option.map_eq_some_iff] at h
    obtain ⟨z, hz, rfl⟩ := h
    obtain ⟨h1, h2⟩ := eqV2_run hz hu hv
    exact ⟨_, by simp only [Sem.run_bind, h2, Result.andThen, (binOp_eql hz hu hv).1, h1, Sem.run_pure], .val _⟩
  · rw [Option.map_eq_some_iff] at h
    obtain ⟨z, hz, rfl⟩ := h
    obtain ⟨h1, h2⟩ := eqV2_run hz hu hv
    exact ⟨_, by simp only [Sem.run_bind, h2, Result.andThen, (binOp_eql hz hu hv).2, h1, Sem.run_pure], .val _⟩
  · cases h

end Go.Abs

/- The abstract layer, part 15c: more operations that change nothing, as one function. -/
namespace Go.Abs
open Go Go.RowKit

/-- An array type: how many elements, how many cells each takes, how an element is read. -/
def arrT (P : Program) (t : TypeId) : Option (Nat × Nat × Option Nat) :=
  match P.underlying t with
  | some (.array n e) => match P.info? e, tin P e with
    | some i, some q => if i.size = wid q then some (n, i.size, q) else none
    | _, _ => none
  | _ => none

theorem arrT_spec {P : Program} {t : TypeId} {n sz : Nat} {q : Option Nat} (h : arrT P t = some (n, sz, q)) : ∃ e, P.underlying t = some (.array n e) ∧ tin P e = some q ∧ sz = wid q ∧ ∀ w, (sizeOf e).run P w = .ok sz w := by
  unfold arrT at h
  split at h
  · rename_i n' e hu
    split at h
    · rename_i i q' hi hq
      split at h
      · rename_i hs
        cases h
        exact ⟨e, hu, hq, hs, fun w => run_sizeOf' hi w⟩
      · cases h
    · cases h
  · cases h

/-- A field of a struct: where it lies, how it is read. -/
def fldT (P : Program) (s : TypeId) (f : Nat) : Option (Nat × Option Nat) :=
  match P.underlying s with
  | some (.struct fs) => match fs[f]? with
    | some fd => match tin P fd.type with
      | some q => some (fd.offset, q)
      | none => none
    | none => none
  | _ => none

/-- A conversion between integers: the kind that comes of it. -/
def convT (P : Program) (s d : TypeId) : Option IntKind :=
  match P.underlying s, P.underlying d with
  | some _, some (.int k) => some k
  | _, _ => none

def minA (mx : Bool) (x y : AVal) : Option AVal :=
  match x, y with
  | .val (.int k a), .val (.int _ b) => some (.val (.int k (if mx then (if b > a then b else a) else (if b < a then b else a))))
  | _, _ => none

/-- More operations that change nothing and do not look at the store. -/
def moreV (P : Program) (o : Oper) (env : Env) : Option AVal :=
  match o.op with
  | .field s x f => match fldT P s f, aeval env x with
    | some (off, q), .agg cs => if off + wid q ≤ cs.length then some (cut q cs off) else none
    | _, _ => none
  | .binOp op t x y _ => binV P op t (aeval env x) (aeval env y)
  | .unOp .xor _ x => match aeval env x with
    | .val (.int k a) => (bitsA .xor k (if k.signed then -1 else k.max) a).map .val
    | _ => none
  | .convert s d x => match convT P s d, aeval env x with
    | some k, .val (.int _ n) => some (.val (.int k (k.wrap n)))
    | _, _ => none
  | .index t x y => match arrT P t, aeval env x, aeval env y with
    | some (n, sz, q), .agg cs, .val (.int _ i) => if 0 ≤ i ∧ i < n ∧ i.toNat * sz + wid q ≤ cs.length then some (cut q cs (i.toNat * sz)) else none
    | _, _, _ => none
  | .indexAddr t x y => match arrT P t, aeval env x, aeval env y with
    | some (n, sz, _), .ptr l v a j, .val (.int _ i) => if 0 ≤ i ∧ i < n then some (.ptr l v a (j + i.toNat * sz)) else none
    | some (n, sz, _), .eptr cs j, .val (.int _ i) => if 0 ≤ i ∧ i < n then some (.eptr cs (j + i.toNat * sz)) else none
    | _, _, _ => none
  | .call c => match c.callee, c.args.toList with
    | .builtin .min, [x, y] => minA false (aeval env x) (aeval env y)
    | .builtin .max, [x, y] => minA true (aeval env x) (aeval env y)
    | _, _ => none
  | _ => none

theorem moreV_run {cx : Cx} {o : Oper} {env : Env} {σ : List AObj} {a : AVal} (h : moreV cx.P o env = some a) : OpV cx o env σ a := by
  intro B I ρ w st sr
  unfold moreV at h
  split at h
  · rename_i s x f ho
    split at h
    · rename_i off q cs h1 h2
      split at h
      · rename_i hle
        cases h
        have hv := st x
        rw [h2] at hv
        generalize hρ : ρ x = u at hv
        unfold fldT at h1
        split at h1
        · rename_i fs hu
          split at h1
          · rename_i fd hf
            split at h1
            · rename_i q' hq
              cases h1
              cases hv with
              | agg hl hc =>
                obtain ⟨v, k1, k2⟩ := tin_part (w := w) hq hl hle hc
                exact ⟨v, by simp only [execOp, ho, hρ, Instr.field, Sem.run_bind, run_underlying' hu, Result.andThen, hf, asAgg, Sem.run_pure, k1], k2⟩
            · cases h1
          · cases h1
        · cases h1
      · cases h
    · cases h
  · rename_i op t x y yt ho
    obtain ⟨z, h1, h2⟩ := binV_run h (st x) (st y) x y
    refine ⟨z, ?_, h2⟩
    simp only [execOp, ho]
    rw [Sem.run_bind, h1]
    rfl
  · rename_i t x ho
    split at h
    · rename_i k b hb
      have hu := st x
      rw [hb] at hu
      cases h
      exact ⟨_, by simp [execOp, ho, hu.valEq, Op.unary, Op.intBits], .val _⟩
    · cases h
  · rename_i s d x ho
    split at h
    · rename_i k k' n h1 h2
      cases h
      have hu := st x
      rw [h2] at hu
      unfold convT at h1
      split at h1
      · rename_i a b e1 e2
        cases h1
        refine ⟨_, ?_, .val _⟩
        simp only [execOp, ho, hu.valEq, convert, Sem.run_bind, run_underlying' e1, run_underlying' e2, Result.andThen, Conv.intToInt, Sem.run_pure]
      · cases h1
    · cases h
  · rename_i t x y ho
    split at h
    · rename_i n sz q cs k i h1 h2 h3
      split at h
      · rename_i hle
        cases h
        obtain ⟨e, e1, e2, e3, e4⟩ := arrT_spec h1
        have hv := st x
        have hw := st y
        rw [h2] at hv
        rw [h3] at hw
        generalize hρ : ρ x = u at hv
        cases hv with
        | agg hl hc =>
          obtain ⟨v, k1, k2⟩ := tin_part (w := w) e2 hl hle.2.2 hc
          refine ⟨v, ?_, k2⟩
          simp only [execOp, ho, hρ, hw.valEq, Instr.index, asIntOf, Sem.run_bind, Sem.run_pure, run_underlying' e1, Result.andThen, hle.1, hle.2.1, and_self, if_true, e4, k1]
      · cases h
    · cases h
  · rename_i t x y ho
    have fin : ∀ {n sz : Nat} {q : Option Nat} {k : IntKind} {i : Int} {b f : Nat}, arrT cx.P t = some (n, sz, q) → ρ x = .pointer (some ⟨b, f, none⟩) → ρ y = .int k i → 0 ≤ i ∧ i < n →
        (execOp ρ o).run cx.P w = .ok (.value (.pointer (some ⟨b, f + i.toNat * sz, none⟩))) w := by
      intro n sz q k i b f h1 hx hy hi
      obtain ⟨e, e1, e2, e3, e4⟩ := arrT_spec h1
      simp only [execOp, ho, hx, hy, Instr.indexAt, asIntOf, Instr.sureAddr, Sem.run_bind, Sem.run_pure, run_underlying' e1, Result.andThen, hi.1, hi.2, and_self, if_true, e4, add_none]
    split at h
    · rename_i n sz q l v a j k i h1 h2 h3
      split at h
      · rename_i hi
        cases h
        have hv := st x
        have hw := st y
        rw [h2] at hv
        rw [h3] at hw
        generalize hρ : ρ x = u at hv
        cases hv with
        | ptr hB hr => exact ⟨_, fin h1 hρ hw.valEq hi, by rw [Nat.add_assoc]; exact .ptr hB hr⟩
      · cases h
    · rename_i n sz q cs j k i h1 h2 h3
      split at h
      · rename_i hi
        cases h
        have hv := st x
        have hw := st y
        rw [h2] at hv
        rw [h3] at hw
        generalize hρ : ρ x = u at hv
        cases hv with
        | eptr g1 g2 g3 g4 => exact ⟨_, fin h1 hρ hw.valEq hi, by rw [Nat.add_assoc]; exact .eptr g1 g2 g3 g4⟩
      · cases h
    · cases h
  · rename_i c ho
    obtain ⟨callee, ⟨args⟩, ts⟩ := c
    have mm : ∀ {mx : Bool} {x y : Operand}, minA mx (aeval env x) (aeval env y) = some a → ∃ v, (if mx then Builtin.max2 (ρ x) (ρ y) else Builtin.min2 (ρ x) (ρ y)).run cx.P w = .ok v w ∧ RV B I cx.bs w a v := by
      intro mx x y h
      unfold minA at h
      split at h
      · rename_i k m k' n h1 h2
        cases h
        have hu := st x
        have hv := st y
        rw [h1] at hu
        rw [h2] at hv
        rw [hu.valEq, hv.valEq]
        refine ⟨_, ?_, .val _⟩
        cases mx
        · simp [Builtin.min2]
        · simp [Builtin.max2]
      · cases h
    simp only at h
    split at h
    · rename_i x y
      obtain ⟨v, k1, k2⟩ := mm h
      simp only [Bool.false_eq_true, if_false] at k1
      refine ⟨v, ?_, k2⟩
      simp only [execOp, ho, resolve, Sem.run_bind, Sem.run_pure, Result.andThen, invoke, builtin, Builtin.min_, List.map_toArray, List.map_cons, List.map_nil, List.foldlM_cons, List.foldlM_nil, k1]
    · rename_i x y
      obtain ⟨v, k1, k2⟩ := mm h
      simp only [if_true] at k1
      refine ⟨v, ?_, k2⟩
      simp only [execOp, ho, resolve, Sem.run_bind, Sem.run_pure, Result.andThen, invoke, builtin, Builtin.max_, List.map_toArray, List.map_cons, List.map_nil, List.foldlM_cons, List.foldlM_nil, k1]
    · cases h
  · cases h

end Go.Abs

/- The abstract layer, part 15d: maps, and other blocks that are no rows. -/
namespace Go.Abs
open Go Go.RowKit

/-- The store's relation behind a change of an object that is no row, in its own block. -/
theorem SR.setMap {B : BMap} {I : Nat → Prop} {bs : Nat} {σ : List AObj} {w w' : World} (h : SR B I bs σ w) {l : Nat} {es es' : List (AVal × AVal)} {ck ck' : MK} {x : BI} (hσ : σ[l]? = some (.map es ck)) (hx : MapOk B I bs w l es ck x)
    (hos : w'.os = w.os) (htape : w'.tape = w.tape) (hout : w'.output = w.output) (hsize : w'.heap.size = w.heap.size) (hkeep : ∀ k, k ≠ x.b → w'.heap[k]? = w.heap[k]?)
    (hmap : ∃ o ms, w'.heap[x.b]? = some o ∧ MRep x ck' o ms ∧ ms.size = es'.length ∧ ∀ i (h : i < es'.length) (h' : i < ms.size), RV B I bs w es'[i].1 ms[i].key ∧ RV B I bs w es'[i].2 ms[i].val) (m : Nat) :
    SR B I bs (σ.set l (.map es' ck')) w' ∧ Ext m B I σ w B I (σ.set l (.map es' ck')) w' := by
  have hl : l < σ.length := (List.getElem?_eq_some_iff.1 hσ).1
  have hcur : Cur B σ l = some x.b := hx.cur hσ
  have hIk : ∀ b, I b → w'.heap[b]? = w.heap[b]? := fun b hb => hkeep b fun e => h.imm _ _ hcur (e ▸ hb)
  have hother : ∀ l' b, l' ≠ l → Cur B σ l' = some b → w'.heap[b]? = w.heap[b]? := fun l' b hne hc => hkeep b fun e => hne (h.sep _ _ _ (e ▸ hc) hcur)
  have hcs : ∀ l', Cur B (σ.set l (.map es' ck')) l' = Cur B σ l' := by
    intro l'
    by_cases e : l' = l
    · subst e
      simp only [Cur, List.getElem?_set_self hl, hσ]
    · simp only [Cur, List.getElem?_set_ne (fun h => e h.symm)]
  refine ⟨?_, hos, htape, hout, by omega, fun b _ hn => hkeep b fun e => hn l (e ▸ hcur), fun _ _ _ _ h => h, fun _ h => h, fun _ h => .inl h, fun l' b hb' => ?_⟩
  · refine { row := ?_, map := ?_, dead := ?_, sep := fun l1 l2 b h1 h2 => h.sep l1 l2 b (by rw [← hcs]; exact h1) (by rw [← hcs]; exact h2), imm := fun l b h1 => h.imm l b (by rw [← hcs]; exact h1), lt := fun l b h1 => by rw [hsize]; exact h.lt l b (by rw [← hcs]; exact h1),
             icells := fun b hb => by rw [hIk b hb]; exact h.icells b hb, gl := h.gl.mono (fun _ h => h) hIk, vlt := fun l ver y hy hr => by rw [hsize]; exact h.vlt l ver y hy hr, bsle := by rw [hsize]; exact h.bsle, cbs := fun l b h1 => h.cbs l b (by rw [← hcs]; exact h1), vmono := ?_ }
    · intro l' ver sz xs hl'
      rcases set_get hl l' hl' with ⟨rfl, e⟩ | ⟨hne, hl''⟩
      · cases e
      · obtain ⟨y, hy⟩ := h.row _ _ _ _ hl''
        exact ⟨y, hy.mono (fun _ _ _ h => h) (fun _ hb => hb) hIk (Nat.le_refl _) fun hr => hother l' _ hne (hy.cur hl'' hr)⟩
    · intro l' es2 ck2 hl'
      rcases set_get hl l' hl' with ⟨rfl, e⟩ | ⟨hne, hl''⟩
      · cases e
        obtain ⟨o, ms, g1, g2, g3, g4⟩ := hmap
        exact ⟨x, hx.at_, o, ms, g1, g2, g3, fun i hi hi' => ⟨(g4 i hi hi').1.mono (fun _ _ _ h => h) (fun _ h => h) hIk (Nat.le_refl _), (g4 i hi hi').2.mono (fun _ _ _ h => h) (fun _ h => h) hIk (Nat.le_refl _)⟩⟩
      · obtain ⟨y, hy⟩ := h.map _ _ _ hl''
        exact ⟨y, hy.mono (fun _ _ _ h => h) (fun _ hb => hb) hIk (Nat.le_refl _) (hother l' _ hne (hy.cur hl''))⟩
    · intro l' hd ver
      by_cases e : l' = l
      · subst e
        simp [Dead, List.getElem?_set_self hl] at hd
      · refine h.dead l' ?_ ver
        rwa [Dead, List.getElem?_set_ne (fun h => e h.symm)] at hd
    · intro l' v sz xs ver y hl' hy
      rcases set_get hl l' hl' with ⟨rfl, e⟩ | ⟨hne, hl''⟩
      · cases e
      · exact h.vmono _ _ _ _ _ _ hl'' hy
  · rw [hcs] at hb'
    rcases Nat.lt_or_ge l' m with hm | hm
    · exact .inr (.inl ⟨hm, hb'⟩)
    · exact .inr (.inr ⟨hm, l', hm, hb'⟩)

/-- A new block that is no row. -/
theorem SR.newMap {B : BMap} {I : Nat → Prop} {bs : Nat} {σ : List AObj} {w : World} (h : SR B I bs σ w) {es : List (AVal × AVal)} {ck : MK} {o : Obj} {ms : Array MapEntry} {x : BI} (hxb : x.b = w.heap.size) (hrep : MRep x ck o ms)
    (hsz : ms.size = es.length) (hc : ∀ i (h : i < es.length) (h' : i < ms.size), RV B I bs w es[i].1 ms[i].key ∧ RV B I bs w es[i].2 ms[i].val) (m : Nat) :
    ∃ B', SR B' I bs (σ ++ [.map es ck]) (w.alloc o) ∧ Ext m B I σ w B' I (σ ++ [.map es ck]) (w.alloc o) ∧ (∀ l ver y, B l ver = some y → B' l ver = some y) ∧ B' σ.length 0 = some x := by
  have hd : ∀ ver, B σ.length ver = none := fun ver => h.dead _ (.inl (List.getElem?_eq_none (Nat.le_refl _))) ver
  have hup : ∀ l ver y, B l ver = some y → B.upd σ.length 0 x l ver = some y := fun _ _ _ hy => BMap.upd_mono B (.inl (hd 0)) hy
  have hkeep : ∀ b, b < w.heap.size → (w.alloc o).heap[b]? = w.heap[b]? := fun b hb => Below.heap_alloc _ _ _ hb
  have hnew : (w.alloc o).heap[w.heap.size]? = some o := by show (w.heap.push _)[w.heap.size]? = _; simp
  have hIk : ∀ b, I b → (w.alloc o).heap[b]? = w.heap[b]? := fun b hb => hkeep b (h.ilt b hb)
  have hsize : w.heap.size ≤ (w.alloc o).heap.size := by simp
  have old : ∀ l (ob : AObj), (σ ++ [.map es ck])[l]? = some ob → (l = σ.length ∧ ob = .map es ck) ∨ (l < σ.length ∧ σ[l]? = some ob) := by
    intro l ob hl
    rcases Nat.lt_trichotomy l σ.length with h1 | h1 | h1
    · rw [List.getElem?_append_left h1] at hl; exact .inr ⟨h1, hl⟩
    · subst h1; simp at hl; exact .inl ⟨rfl, hl.symm⟩
    · rw [List.getElem?_eq_none (by simp; omega)] at hl; cases hl
  have cur : ∀ l b, Cur (B.upd σ.length 0 x) (σ ++ [.map es ck]) l = some b → (l = σ.length ∧ b = w.heap.size) ∨ (l < σ.length ∧ Cur B σ l = some b) := by
    intro l b hc
    rcases Nat.lt_trichotomy l σ.length with h1 | h1 | h1
    · refine .inr ⟨h1, ?_⟩
      simpa only [Cur, List.getElem?_append_left h1, BMap.upd_ne B x (Nat.ne_of_lt h1)] using hc
    · subst h1
      simp [Cur, BMap.upd_self] at hc
      exact .inl ⟨rfl, by rw [← hc, hxb]⟩
    · have : (σ ++ [AObj.map es ck])[l]? = none := List.getElem?_eq_none (by simp; omega)
      simp [Cur, this] at hc
  refine ⟨B.upd σ.length 0 x, ?_, ⟨rfl, rfl, rfl, hsize, fun b hb _ => hkeep b hb, fun l ver y _ hy => hup l ver y hy, fun _ h => h, fun _ h => .inl h, fun l b hb => ?_⟩, hup, BMap.upd_self ..⟩
  · refine { row := ?_, map := ?_, dead := ?_, sep := ?_, imm := ?_, lt := ?_, icells := fun b hb => by rw [hIk b hb]; exact h.icells b hb, gl := h.gl.mono (fun _ h => h) hIk, vlt := ?_, bsle := Nat.le_trans h.bsle hsize, cbs := ?_, vmono := ?_ }
    · intro l ver sz xs hl
      rcases old l _ hl with ⟨_, e⟩ | ⟨_, hl'⟩
      · cases e
      · obtain ⟨y, hy⟩ := h.row _ _ _ _ hl'
        exact ⟨y, hy.mono hup (fun _ hb => hb) hIk (Nat.le_refl _) fun hr => hkeep _ (h.lt _ _ (hy.cur hl' hr))⟩
    · intro l es2 ck2 hl
      rcases old l _ hl with ⟨rfl, e⟩ | ⟨_, hl'⟩
      · cases e
        exact ⟨x, BMap.upd_self .., o, ms, by rw [hxb]; exact hnew, hrep, hsz, fun i hi hi' => ⟨(hc i hi hi').1.mono hup (fun _ h => h) hIk (Nat.le_refl _), (hc i hi hi').2.mono hup (fun _ h => h) hIk (Nat.le_refl _)⟩⟩
      · obtain ⟨y, hy⟩ := h.map _ _ _ hl'
        exact ⟨y, hy.mono hup (fun _ hb => hb) hIk (Nat.le_refl _) (hkeep _ (h.lt _ _ (hy.cur hl')))⟩
    · intro l hdl ver
      have hne : l ≠ σ.length := by
        intro e
        subst e
        simp [Dead] at hdl
      rw [BMap.upd_ne B x hne]
      refine h.dead l ?_ ver
      rcases Nat.lt_or_ge l σ.length with h1 | h1
      · rwa [Dead, List.getElem?_append_left h1] at hdl
      · exact .inl (List.getElem?_eq_none h1)
    · intro l1 l2 b h1 h2
      rcases cur _ _ h1 with ⟨rfl, e1⟩ | ⟨n1, c1⟩ <;> rcases cur _ _ h2 with ⟨rfl, e2⟩ | ⟨n2, c2⟩
      · rfl
      · have := h.lt _ _ c2; omega
      · have := h.lt _ _ c1; omega
      · exact h.sep _ _ _ c1 c2
    · intro l b h1 hb
      rcases cur _ _ h1 with ⟨rfl, e1⟩ | ⟨n1, c1⟩
      · have := h.ilt _ hb; omega
      · exact h.imm _ _ c1 hb
    · intro l b h1
      rcases cur _ _ h1 with ⟨rfl, e1⟩ | ⟨n1, c1⟩
      · rw [e1]; simp
      · exact Nat.lt_of_lt_of_le (h.lt _ _ c1) hsize
    · intro l ver y hy hr
      unfold BMap.upd at hy
      split at hy
      · cases hy; rw [hxb]; simp
      · exact Nat.lt_of_lt_of_le (h.vlt _ _ _ hy hr) hsize
    · intro l b h1
      rcases cur _ _ h1 with ⟨rfl, e1⟩ | ⟨n1, c1⟩
      · rw [e1]; exact h.bsle
      · exact h.cbs _ _ c1
    · intro l v sz xs ver y hl hy
      rcases old l _ hl with ⟨_, e⟩ | ⟨h1, hl'⟩
      · cases e
      · rw [BMap.upd_ne B x (Nat.ne_of_lt h1)] at hy
        exact h.vmono _ _ _ _ _ _ hl' hy
  · rcases cur _ _ hb with ⟨rfl, e1⟩ | ⟨n1, c1⟩
    · exact .inl (by omega)
    · rcases Nat.lt_or_ge l m with hm' | hm'
      · exact .inr (.inl ⟨hm', c1⟩)
      · exact .inr (.inr ⟨hm', l, hm', c1⟩)

end Go.Abs

/- The abstract layer, part 15e: operations on maps. -/
namespace Go.Abs
open Go Go.RowKit Go.MapKept

/-- What an operation does to the store. -/
inductive Eff where
  | keep
  | push (o : AObj)
  | set (l : Nat) (o : AObj)

def Eff.run (e : Eff) (σ : List AObj) : List AObj :=
  match e with
  | .keep => σ
  | .push o => σ ++ [o]
  | .set l o => σ.set l o

def obj : List AObj → Nat → Option AObj
  | [], _ => none
  | o :: _, 0 => match o with | .gone => none | .row v sz xs => some (.row v sz xs) | .map es c => some (.map es c)
  | _ :: r, l + 1 => obj r l

theorem obj_get : ∀ {σ : List AObj} {l : Nat} {o : AObj}, obj σ l = some o → σ[l]? = some o
  | [], _, _, h => by cases h
  | o :: r, 0, o', h => by
    cases o <;> simp only [obj] at h <;> first | cases h; done | (cases h; rfl)
  | _ :: r, l + 1, o', h => by
    simp only [obj] at h
    rw [List.getElem?_cons_succ]
    exact obj_get h

def bytesEq : List UInt8 → List UInt8 → Bool
  | [], [] => true
  | a :: r, b :: s => match Nat.beq a.toNat b.toNat with | true => bytesEq r s | false => false
  | _, _ => false

theorem bytesEq_iff : ∀ {a b : List UInt8}, bytesEq a b = true ↔ a = b
  | [], [] => by simp [bytesEq]
  | [], _ :: _ => by simp [bytesEq]
  | _ :: _, [] => by simp [bytesEq]
  | a :: r, b :: s => by
    simp only [bytesEq]
    split
    · rename_i h
      rw [bytesEq_iff]
      have : a = b := UInt8.toNat_inj.1 (Nat.beq_eq ▸ h)
      simp [this]
    · rename_i h
      have : a ≠ b := fun e => by subst e; simp at h
      simp [this]

def strEq (a b : ByteArray) : Bool := bytesEq a.data.toList b.data.toList

theorem strEq_eq (a b : ByteArray) : strEq a b = decide (a = b) := by
  by_cases h : a = b
  · subst h
    simp only [decide_true]
    exact bytesEq_iff.2 rfl
  · simp only [h, decide_false]
    apply Bool.eq_false_iff.2
    intro e
    apply h
    have := bytesEq_iff.1 e
    obtain ⟨⟨a⟩⟩ := a
    obtain ⟨⟨b⟩⟩ := b
    simp only at this
    rw [this]

/-- Is this a key of the kind? -/
def isKeyB (d : TypeDesc) (v : Value) : Bool :=
  match d, v with
  | .string, .string _ => true
  | .int k, .int k' _ => decide (k' = k)
  | _, _ => false

theorem isKeyB_spec {d : TypeDesc} {v : Value} (h : isKeyB d v = true) : IsKey d v := by
  unfold isKeyB at h
  split at h
  · trivial
  · have := of_decide_eq_true h; exact this
  · cases h

def keyEq (a b : Value) : Bool :=
  match a, b with
  | .string a, .string b => strEq a b
  | .int _ a, .int _ b => decide (a = b)
  | _, _ => false

theorem keyEq_now {d : TypeDesc} {a b : Value} (ha : isKeyB d a = true) (hb : isKeyB d b = true) : Instr.sameNow d a b = some (keyEq a b) := by
  unfold isKeyB at ha
  split at ha
  · unfold isKeyB at hb
    split at hb
    · rename_i s _ _ t _ _
      have : ∀ x y : ByteArray, (x == y) = decide (x = y) := fun x y => by
        by_cases h : x = y
        · subst h; simp [bytes_beq]
        · simp only [h, decide_false]
          exact Bool.eq_false_iff.2 fun e => h ((bytes_beq x y).1 e)
      simp [Instr.sameNow, keyEq, strEq_eq, this]
    · rename_i h; cases h
    · cases hb
  · rename_i k k' n
    have := of_decide_eq_true ha
    subst this
    unfold isKeyB at hb
    split at hb
    · rename_i h; cases h
    · rename_i h
      cases h
      have := of_decide_eq_true hb
      subst this
      simp [Instr.sameNow, keyEq, beq_decide]
    · cases hb
  · cases ha

/-- Where a key stands. -/
def findA (d : TypeDesc) (k : Value) : List (AVal × AVal) → Nat → Option (Option (Nat × AVal))
  | [], _ => some none
  | (.val u, v) :: r, i => match isKeyB d u, keyEq k u with
    | true, true => some (some (i, v))
    | true, false => findA d k r (i + 1)
    | false, _ => none
  | _, _ => none

theorem findA_now {B : BMap} {I : Nat → Prop} {bs : Nat} {w : World} {d : TypeDesc} {k : Value} (hk : isKeyB d k = true) : ∀ {es : List (AVal × AVal)} {ms : List MapEntry} {i : Nat} {r : Option (Nat × AVal)}, findA d k es i = some r → ms.length = es.length →
    (∀ j (h : j < es.length) (h' : j < ms.length), RV B I bs w es[j].1 ms[j].key ∧ RV B I bs w es[j].2 ms[j].val) →
    (r = none ∧ Instr.findNow d k ms i = some none) ∨ ∃ j a v, r = some (i + j, a) ∧ Instr.findNow d k ms i = some (some (i + j, v)) ∧ RV B I bs w a v ∧ j < es.length ∧ (ms[j]?.map (·.key)) = some k ∧ (ms[j]?.map (·.val)) = some v
  | [], ms, i, r, h, hl, hr => by
    have : ms = [] := List.length_eq_zero_iff.1 hl
    subst this
    cases h
    exact .inl ⟨rfl, rfl⟩
  | (kk, v) :: es, [], i, r, h, hl, hr => by simp at hl
  | (kk, v) :: es, m :: ms, i, r, h, hl, hr => by
    have h0 := hr 0 (by simp) (by simp)
    simp only [List.getElem_cons_zero] at h0
    cases kk with
    | val u =>
      have e := h0.1.valEq
      simp only [findA] at h
      split at h
      · rename_i hu hq
        cases h
        have hn : Instr.sameNow d k m.key = some true := by rw [e, keyEq_now hk hu, hq]
        have hkey : k = m.key := by
          have := (sameNow_of_keys (isKeyB_spec hk) (e ▸ isKeyB_spec hu : IsKey d m.key))
          obtain ⟨r, h1, h2⟩ := this
          rw [h1] at hn
          exact h2.1 (Option.some.inj hn)
        exact .inr ⟨0, v, m.val, rfl, by simp [Instr.findNow, hn], h0.2, by simp, by simp [hkey], by simp⟩
      · rename_i hu hq
        have hn : Instr.sameNow d k m.key = some false := by rw [e, keyEq_now hk hu, hq]
        rcases findA_now hk (ms := ms) h (by simpa using hl) (fun j h1 h2 => by
          have := hr (j + 1) (by simp; omega) (by simp; omega)
          simpa using this) with ⟨e1, e2⟩ | ⟨j, a, v', e1, e2, e3, e4, e5, e6⟩
        · exact .inl ⟨e1, by simp [Instr.findNow, hn, e2]⟩
        · exact .inr ⟨j + 1, a, v', by rw [e1, Nat.add_assoc, Nat.add_comm 1 j], by simp [Instr.findNow, hn, e2]; omega, e3, by simp; omega, by simpa using e5, by simpa using e6⟩
      · cases h
    | _ => cases h

/-- A type's zero value. -/
def zval (P : Program) (t : TypeId) : Option AVal :=
  match P.info? t with
  | some i => match i.zero with
    | some z => some (.val z)
    | none => none
  | none => none

theorem zval_run {P : Program} {t : TypeId} {z : AVal} (h : zval P t = some z) (w : World) : ∃ v, (zeroValue t).run P w = .ok v w ∧ z = .val v := by
  unfold zval at h
  split at h
  · rename_i i hi
    split at h
    · rename_i v hv
      cases h
      exact ⟨v, by simp [zeroValue, typeInfo, hi, hv, go_sem], rfl⟩
    · cases h
  · cases h

/-- A map type: the kind of its keys, its elements' zero value. -/
def mapT (P : Program) (t : TypeId) : Option (TypeDesc × AVal) :=
  match P.underlying t with
  | some (.map k e) => match P.underlying k, zval P e with
    | some d, some z => some (d, z)
    | _, _ => none
  | _ => none

theorem mapT_spec {P : Program} {t : TypeId} {d : TypeDesc} {z : AVal} (h : mapT P t = some (d, z)) : ∃ k e, P.underlying t = some (.map k e) ∧ P.underlying k = some d ∧ zval P e = some z := by
  unfold mapT at h
  split at h
  · rename_i k e hu
    split at h
    · rename_i d' z' h1 h2
      cases h
      exact ⟨k, e, hu, h1, h2⟩
    · cases h
  · cases h

def lookR (ok : Bool) (v : AVal) (found : Bool) : AVal := match ok with | true => .tuple [v, .val (.bool found)] | false => v

/-- A look-up. -/
def lookA (P : Program) (t : TypeId) (m k : AVal) (ok : Bool) (σ : List AObj) : Option AVal :=
  match mapT P t, m, k with
  | some (d, z), .map l, .val k => match obj σ l, isKeyB d k with
    | some (.map es (.plain _)), true => match findA d k es 0 with
      | some (some (_, v)) => some (lookR ok v true)
      | some none => some (lookR ok z false)
      | none => none
    | _, _ => none
  | some (d, z), .val (.map none), .val k => match isKeyB d k with
    | true => some (lookR ok z false)
    | false => none
  | _, _, _ => none

theorem lookR_rel {B : BMap} {I : Nat → Prop} {bs : Nat} {w : World} {ok b : Bool} {a : AVal} {v : Value} (h : RV B I bs w a v) : RV B I bs w (lookR ok a b) (if ok then .tuple #[v, .bool b] else v) := by
  cases ok
  · exact h
  · refine .tuple rfl fun k hk => ?_
    simp only [List.length_cons, List.length_nil] at hk
    rcases (by omega : k = 0 ∨ k = 1) with rfl | rfl
    · exact h
    · exact .val _

theorem OpQ.lookup {cx : Cx} {o : Oper} {env : Env} {σ : List AObj} {K : Kont} {t : TypeId} {m k : Operand} {ok : Bool} {a : AVal} (ho : o.op = .lookup t m k ok) (ha : lookA cx.P t (aeval env m) (aeval env k) ok σ = some a) (hk : K a σ) : OpQ cx o env σ K := by
  refine ⟨a, hk, fun B I ρ w st sr => ?_⟩
  have hm := st m
  have hkv := st k
  unfold lookA at ha
  split at ha
  · rename_i d z l kv h1 h2 h3
    obtain ⟨kt, et, u1, u2, u3⟩ := mapT_spec h1
    obtain ⟨zv, z1, rfl⟩ := zval_run u3 w
    rw [h2] at hm
    rw [h3] at hkv
    split at ha
    · rename_i es ck hob hkey
      obtain ⟨x, hx⟩ := sr.map _ _ _ (obj_get hob)
      obtain ⟨ob, ms, g1, ⟨g2, rfl, g4⟩, g5, g6⟩ := hx.map
      generalize hρ : ρ m = mv at hm
      cases hm with
      | map hB =>
        rename_i x'
        obtain rfl : x' = x := Option.some.inj (hB.symm.trans hx.at_)
        have hmv : mapV x' = .map (some x'.b) := by simp [mapV, g2]
        rw [hmv] at hρ
        have fin : ∀ {r : Option (Nat × Value)}, Instr.findNow d kv ms.toList 0 = some r → (execOp ρ o).run cx.P w = .ok (.value (if ok then .tuple #[(match r with | some (_, v) => v | none => zv), .bool r.isSome] else (match r with | some (_, v) => v | none => zv))) w := by
          intro r hr
          have c1 := run_checkKey (P := cx.P) (w := w) u2 (isKeyB_spec hkey) ms.isEmpty 9999
          have f1 := run_findKey (P := cx.P) (w := w) u2 hr
          simp only [execOp, ho, hρ, hkv.valEq, Instr.lookup, Sem.run_bind, run_underlying' u1, Result.andThen, MapKept.run_getObj_map g1, Sem.run_pure, c1, f1]
          cases r with
          | none => simp [z1, Result.andThen]
          | some p => simp
        split at ha
        · rename_i i v hf
          cases ha
          rcases findA_now hkey hf (by rw [Array.length_toList]; exact g5) (fun j h1 h2 => by simpa using g6 j h1 (by simpa using h2)) with ⟨e, _⟩ | ⟨j, a, v', e1, e2, e3, _⟩
          · cases e
          · cases e1
            exact ⟨_, fin e2, lookR_rel e3⟩
        · rename_i hf
          cases ha
          rcases findA_now hkey hf (by rw [Array.length_toList]; exact g5) (fun j h1 h2 => by simpa using g6 j h1 (by simpa using h2)) with ⟨_, e2⟩ | ⟨j, a, v', e1, _⟩
          · exact ⟨_, fin e2, lookR_rel (.val _)⟩
          · cases e1
        · cases ha
    · cases ha
  · rename_i d z kv h1 h2 h3
    obtain ⟨kt, et, u1, u2, u3⟩ := mapT_spec h1
    obtain ⟨zv, z1, rfl⟩ := zval_run u3 w
    rw [h2] at hm
    rw [h3] at hkv
    split at ha
    · rename_i hkey
      cases ha
      have c1 := run_checkKey (P := cx.P) (w := w) u2 (isKeyB_spec hkey) true 9999
      have f1 := run_findKey (P := cx.P) (w := w) (k := kv) u2 (l := []) rfl
      refine ⟨if ok then .tuple #[zv, .bool false] else zv, ?_, lookR_rel (.val _)⟩
      simp only [execOp, ho, hm.valEq, hkv.valEq, Instr.lookup, Sem.run_bind, run_underlying' u1, Result.andThen, Sem.run_pure]
      simp [c1, f1, z1, Result.andThen]
    · cases ha
  · cases ha

/-- Operations that write a map, or make one. -/
def mapE (P : Program) (o : Oper) (env : Env) (σ : List AObj) : Option (AVal × Eff) :=
  match o.op with
  | .makeMap _ none => some (.map σ.length, .push (.map [] (.plain 0)))
  | .insert t m k v | .mapUpdate t m k v => match mapT P t, aeval env m, aeval env k with
    | some (d, _), .map l, .val kv => match obj σ l, isKeyB d kv with
      | some (.map es (.plain ck)), true => match findA d kv es 0 with
        | some (some (i, _)) => some (.any, .set l (.map (es.set i (.val kv, aeval env v)) (.plain ck)))
        | some none => some (.any, .set l (.map (es ++ [(.val kv, aeval env v)]) (.plain (ck + 1))))
        | none => none
      | _, _ => none
    | _, _, _ => none
  | .mapEntry t m k => match mapT P t, aeval env m, aeval env k with
    | some (d, z), .map l, .val kv => match obj σ l, isKeyB d kv with
      | some (.map es (.plain ck)), true => match findA d kv es 0 with
        | some (some (i, v)) => some (.tuple [v, .val (.int .i64 i)], .set l (.map (es.set i (.val kv, v)) (.plain ck)))
        | some none => some (.tuple [z, .val (.int .i64 ck)], .set l (.map (es ++ [(.val kv, z)]) (.plain (ck + 1))))
        | none => none
      | _, _ => none
    | _, _, _ => none
  | .entryStore _ m s v => match aeval env m, aeval env s with
    | .map l, .val (.int _ (.ofNat i)) => match obj σ l with
      | some (.map es (.plain ck)) => match es[i]? with
        | some p => some (.any, .set l (.map (es.set i (p.1, aeval env v)) (.plain ck)))
        | none => none
      | _ => none
    | _, _ => none
  | _ => none

theorem mod_rel {B : BMap} {I : Nat → Prop} {bs : Nat} {w : World} {es : List (AVal × AVal)} {ms : Array MapEntry} (hsz : ms.size = es.length)
    (h : ∀ i (h : i < es.length) (h' : i < ms.size), RV B I bs w es[i].1 ms[i].key ∧ RV B I bs w es[i].2 ms[i].val) {j : Nat} {p : AVal × AVal} {f : MapEntry → MapEntry}
    (hf : ∀ (h : j < ms.size), RV B I bs w p.1 (f ms[j]).key ∧ RV B I bs w p.2 (f ms[j]).val) :
    (ms.modify j f).size = (es.set j p).length ∧ ∀ i (h : i < (es.set j p).length) (h' : i < (ms.modify j f).size), RV B I bs w (es.set j p)[i].1 (ms.modify j f)[i].key ∧ RV B I bs w (es.set j p)[i].2 (ms.modify j f)[i].val := by
  refine ⟨by simp [hsz], fun i hi hi' => ?_⟩
  have h1 : i < es.length := by simpa using hi
  have h2 : i < ms.size := by simpa using hi'
  rw [Array.getElem_modify]
  by_cases e : j = i
  · subst e
    simp only [List.getElem_set_self, if_true]
    exact hf h2
  · rw [if_neg e, List.getElem_set_ne e]
    exact h i h1 h2

theorem push_rel {B : BMap} {I : Nat → Prop} {bs : Nat} {w : World} {es : List (AVal × AVal)} {ms : Array MapEntry} (hsz : ms.size = es.length)
    (h : ∀ i (h : i < es.length) (h' : i < ms.size), RV B I bs w es[i].1 ms[i].key ∧ RV B I bs w es[i].2 ms[i].val) {p : AVal × AVal} {e : MapEntry} (hf : RV B I bs w p.1 e.key ∧ RV B I bs w p.2 e.val) :
    (ms.push e).size = (es ++ [p]).length ∧ ∀ i (h : i < (es ++ [p]).length) (h' : i < (ms.push e).size), RV B I bs w (es ++ [p])[i].1 (ms.push e)[i].key ∧ RV B I bs w (es ++ [p])[i].2 (ms.push e)[i].val := by
  refine ⟨by simp [hsz], fun i hi hi' => ?_⟩
  rw [Array.getElem_push, List.getElem_append]
  by_cases hlt : i < ms.size
  · rw [dif_pos hlt, dif_pos (by omega)]
    exact h i (by omega) hlt
  · rw [dif_neg hlt, dif_neg (by omega)]
    have : i - es.length = 0 := by
      have : i < ms.size + 1 := by simpa using hi'
      omega
    simp only [this, List.getElem_cons_zero]
    exact hf

theorem mapE_A {cx : Cx} {o : Oper} {env : Env} {σ : List AObj} {K : Kont} {a : AVal} {e : Eff} (h : mapE cx.P o env σ = some (a, e)) (hk : K a (e.run σ)) : OpA cx o env σ K := by
  intro B I act w st next Q' hn
  have put : ∀ {t kt et : TypeId} {d : TypeDesc} {m k v : Operand} {l : Nat} {kv : Value} {es : List (AVal × AVal)} {ck : Nat} {r : Option (Nat × AVal)}, cx.P.underlying t = some (.map kt et) → cx.P.underlying kt = some d →
      aeval env m = .map l → aeval env k = .val kv → σ[l]? = some (.map es (.plain ck)) → isKeyB d kv = true → findA d kv es 0 = some r → ∃ x ms, MapOk B I cx.bs w l es (.plain ck) x ∧ x.real = true ∧ act.eval m = .map (some x.b) ∧ act.eval k = kv ∧
      w.heap[x.b]? = some (.map ms ck) ∧ ck = ms.size ∧ (∀ i (h : i < ms.size), ms[i].born = i) ∧ ms.size = es.length ∧ (∀ i (h : i < es.length) (h' : i < ms.size), RV B I cx.bs w es[i].1 ms[i].key ∧ RV B I cx.bs w es[i].2 ms[i].val) ∧
      (∀ n, (Instr.checkKey false (n + 1) kt kv).run cx.P w = .ok () w) ∧
      ((r = none ∧ (Instr.findKey kt kv ms.toList).run cx.P w = .ok none w) ∨ ∃ j a v, r = some (j, a) ∧ (Instr.findKey kt kv ms.toList).run cx.P w = .ok (some (j, v)) w ∧ RV B I cx.bs w a v ∧ j < ms.size ∧ ((ms[j]?).map (·.key)).getD kv = kv ∧ (ms[j]?.map (·.val)) = some v) := by
    intro t kt et d m k v l kv es ck r u1 u2 h2 h3 hσ hkey hf
    have hm := st.eval m
    have hkv := st.eval k
    rw [h2] at hm
    rw [h3] at hkv
    obtain ⟨x, hx⟩ := st.sr.map _ _ _ hσ
    obtain ⟨ob, ms, g1, ⟨g2, rfl, g4, g4'⟩, g5, g6⟩ := hx.map
    generalize hρ : act.eval m = mv at hm
    cases hm with
    | map hB =>
      rename_i x'
      obtain rfl : x' = x := Option.some.inj (hB.symm.trans hx.at_)
      have hmv : mapV x' = .map (some x'.b) := by simp [mapV, g2]
      refine ⟨x', ms, hx, g2, hmv, hkv.valEq, g1, g4, g4', g5, g6, fun n => run_checkKey u2 (isKeyB_spec hkey) false n, ?_⟩
      rcases findA_now hkey hf (ms := ms.toList) (by rw [Array.length_toList]; exact g5) (fun j h1 h2 => by simpa using g6 j h1 (by simpa using h2)) with ⟨e1, e2⟩ | ⟨j, a, v, e1, e2, e3, e4, e5, e6⟩
      · exact .inl ⟨e1, run_findKey u2 e2⟩
      · rw [Nat.zero_add] at e1 e2
        exact .inr ⟨j, a, v, e1, run_findKey u2 e2, e3, by omega, by rw [← Array.getElem?_toList, e5]; rfl, by rw [← Array.getElem?_toList, e6]⟩
  have chg : ∀ {l : Nat} {es es' : List (AVal × AVal)} {ck ck' : Nat} {x : BI} {ms ms' : Array MapEntry}, σ[l]? = some (.map es (.plain ck)) → MapOk B I cx.bs w l es (.plain ck) x → x.real = true → w.heap[x.b]? = some (.map ms ck) →
      ck' = ms'.size → (∀ i (h : i < ms'.size), ms'[i].born = i) → ms'.size = es'.length → (∀ i (h : i < es'.length) (h' : i < ms'.size), RV B I cx.bs w es'[i].1 ms'[i].key ∧ RV B I cx.bs w es'[i].2 ms'[i].val) →
      SR B I cx.bs (σ.set l (.map es' (.plain ck'))) { w with heap := w.heap.setIfInBounds x.b (.map ms' ck') } ∧ Ext cx.m B I σ w B I (σ.set l (.map es' (.plain ck'))) { w with heap := w.heap.setIfInBounds x.b (.map ms' ck') } := by
    intro l es es' ck ck' x ms ms' hσ hx hr hb k1 k2 k3 k4
    obtain ⟨hs1, hs2⟩ := MapKept.heap_set (o' := .map ms' ck') hb
    exact st.sr.setMap (w' := { w with heap := w.heap.setIfInBounds x.b (.map ms' ck') }) (es' := es') (ck' := .plain ck') hσ hx rfl rfl rfl (by simp) hs2 ⟨.map ms' ck', ms', hs1, ⟨hr, rfl, k1, k2⟩, k3, k4⟩ cx.m
  have bornM : ∀ {ms : Array MapEntry} {j : Nat} {f : MapEntry → MapEntry}, (∀ i (h : i < ms.size), ms[i].born = i) → (∀ e, (f e).born = e.born) → ∀ i (h : i < (ms.modify j f).size), (ms.modify j f)[i].born = i := by
    intro ms j f hb hf i hi
    rw [Array.getElem_modify]
    split
    · rw [hf]; exact hb i (by simpa using hi)
    · exact hb i (by simpa using hi)
  have bornP : ∀ {ms : Array MapEntry} {e : MapEntry}, (∀ i (h : i < ms.size), ms[i].born = i) → e.born = ms.size → ∀ i (h : i < (ms.push e).size), (ms.push e)[i].born = i := by
    intro ms e hb he i hi
    rw [Array.getElem_push]
    split
    · exact hb i _
    · rw [he]; have : i < ms.size + 1 := by simpa using hi
      omega
  have upd : ∀ {t : TypeId} {m k v : Operand}, o.op = .insert t m k v ∨ o.op = .mapUpdate t m k v → (match mapT cx.P t, aeval env m, aeval env k with
    | some (d, _), .map l, .val kv => match obj σ l, isKeyB d kv with
      | some (.map es (.plain ck)), true => match findA d kv es 0 with
        | some (some (i, _)) => some (AVal.any, Eff.set l (.map (es.set i (.val kv, aeval env v)) (.plain ck)))
        | some none => some (.any, .set l (.map (es ++ [(.val kv, aeval env v)]) (.plain (ck + 1))))
        | none => none
      | _, _ => none
    | _, _, _ => none) = some (a, e) → o.wpIn (FR cx.rd) 0 cx.P act w next Q' := by
    intro t m k v ho h
    have hv := st.eval v
    split at h
    · rename_i d z l kv h1 h2 h3
      obtain ⟨kt, et, u1, u2, u3⟩ := mapT_spec h1
      split at h
      · rename_i es ck hob hkey
        have hσ := obj_get hob
        split at h
        · rename_i i v' hf
          cases h
          obtain ⟨x, ms, hx, q1, q2, q3, q4, q5, q6, q7, q8, q9, q10⟩ := put (v := v) u1 u2 h2 h3 hσ hkey hf
          rcases q10 with ⟨e1, _⟩ | ⟨j, a, vv, e1, e2, e3, e4, e5, e6⟩
          · cases e1
          cases e1
          obtain ⟨r1, r2⟩ := mod_rel (j := i) (p := (.val kv, aeval env v)) (f := fun e => { e with key := kv, val := act.eval v }) q7 q8 (fun _ => ⟨.val _, hv⟩)
          obtain ⟨s1, s2⟩ := chg (ck' := ck) hσ hx q1 q4 (by simpa using q5) (bornM (j := i) (f := fun e => { e with key := kv, val := act.eval v }) q6 (fun e => rfl)) r1 r2
          refine wp_skip' (by rcases ho with ho | ho <;> simp [ho]) ?_ (hn .any _ B I undef _ hk s1 (.any _) s2 fun _ _ _ h => h)
          have hst := run_keyThatStays (P := cx.P) (w := w) (isKeyB_spec hkey)
          rcases ho with ho | ho <;> simp only [execOp, ho, q2, q3, Instr.mapUpdate, Sem.run_bind, run_underlying' u1, Result.andThen, MapKept.run_getObj_map q4, q9 9999, e2, e5, hst, MapKept.run_setObj_map _ q4, Sem.run_pure]
        · rename_i hf
          cases h
          obtain ⟨x, ms, hx, q1, q2, q3, q4, q5, q6, q7, q8, q9, q10⟩ := put (v := v) u1 u2 h2 h3 hσ hkey hf
          rcases q10 with ⟨_, e2⟩ | ⟨j, a, vv, e1, _⟩
          · obtain ⟨r1, r2⟩ := push_rel (p := (.val kv, aeval env v)) (e := { key := kv, val := act.eval v, born := ck }) q7 q8 ⟨.val _, hv⟩
            obtain ⟨s1, s2⟩ := chg (ck' := ck + 1) hσ hx q1 q4 (by simp [q5]) (bornP q6 q5) r1 r2
            refine wp_skip' (by rcases ho with ho | ho <;> simp [ho]) ?_ (hn .any _ B I undef _ hk s1 (.any _) s2 fun _ _ _ h => h)
            rcases ho with ho | ho <;> simp only [execOp, ho, q2, q3, Instr.mapUpdate, Sem.run_bind, run_underlying' u1, Result.andThen, MapKept.run_getObj_map q4, q9 9999, e2, MapKept.run_setObj_map _ q4, Sem.run_pure]
          · cases e1
        · cases h
      · cases h
    · cases h
  unfold mapE at h
  split at h
  · rename_i t ho
    cases h
    obtain ⟨B', k1, k2, k3, k4⟩ := st.sr.newMap (es := []) (ck := .plain 0) (o := .map #[] 0) (ms := #[]) (x := ⟨w.heap.size, 0, 0, true⟩) rfl ⟨rfl, rfl, rfl, fun i hi => absurd hi (Nat.not_lt_zero _)⟩ rfl (fun i hi => absurd hi (Nat.not_lt_zero _)) cx.m
    refine wp_value (v := .map (some w.heap.size)) (by simp [ho]) ?_ (hn _ _ B' I _ _ hk k1 (.map k4) k2 k3)
    simp [execOp, ho, Instr.makeMap, go_sem]
  · rename_i t m k v ho; exact upd (.inl ho) h
  · rename_i t m k v ho; exact upd (.inr ho) h
  · rename_i t m k ho
    split at h
    · rename_i d z l kv h1 h2 h3
      obtain ⟨kt, et, u1, u2, u3⟩ := mapT_spec h1
      obtain ⟨zv, z1, rfl⟩ := zval_run u3 w
      split at h
      · rename_i es ck hob hkey
        have hσ := obj_get hob
        split at h
        · rename_i i v' hf
          cases h
          obtain ⟨x, ms, hx, q1, q2, q3, q4, q5, q6, q7, q8, q9, q10⟩ := put (v := k) u1 u2 h2 h3 hσ hkey hf
          rcases q10 with ⟨e1, _⟩ | ⟨j, a, vv, e1, e2, e3, e4, e5, e6⟩
          · cases e1
          cases e1
          obtain ⟨r1, r2⟩ := mod_rel (j := i) (p := (.val kv, v')) (f := fun e => { e with key := kv }) q7 q8 (fun hj => ⟨.val _, by
            rw [Array.getElem?_eq_getElem hj] at e6
            simp only [Option.map_some, Option.some.injEq] at e6
            show RV B I cx.bs w v' ms[i].val
            rw [e6]; exact e3⟩)
          obtain ⟨s1, s2⟩ := chg (ck' := ck) hσ hx q1 q4 (by simpa using q5) (bornM (j := i) (f := fun e => { e with key := kv }) q6 (fun e => rfl)) r1 r2
          have hb : (((ms[i]?).map (fun x => (x.born : Int))).getD 0) = (i : Int) := by rw [Array.getElem?_eq_getElem e4]; exact congrArg Int.ofNat (q6 i e4)
          refine wp_value (v := .tuple #[vv, goInt i]) (by simp [ho]) ?_ (hn _ _ B I _ _ hk s1 ?_ s2 fun _ _ _ h => h)
          · have hst := run_keyThatStays (P := cx.P) (w := w) (isKeyB_spec hkey)
            simp only [execOp, ho, q2, q3, Instr.mapEntry, Sem.run_bind, run_underlying' u1, Result.andThen, MapKept.run_getObj_map q4, q9 9999, e2, e5, hst, MapKept.run_setObj_map _ q4, Sem.run_pure, hb]
          · refine .tuple rfl fun i hi => ?_
            simp only [List.length_cons, List.length_nil] at hi
            rcases (by omega : i = 0 ∨ i = 1) with rfl | rfl
            · exact e3.mono (fun _ _ _ h => h) (fun _ h => h) (fun b hb => by
                refine (MapKept.heap_set (o' := .map (ms.modify _ _) ck) q4).2 b fun e => ?_
                exact st.sr.imm _ _ (hx.cur hσ) (e ▸ hb)) (Nat.le_refl _)
            · exact .val _
        · rename_i hf
          cases h
          obtain ⟨x, ms, hx, q1, q2, q3, q4, q5, q6, q7, q8, q9, q10⟩ := put (v := k) u1 u2 h2 h3 hσ hkey hf
          rcases q10 with ⟨_, e2⟩ | ⟨j, a, vv, e1, _⟩
          · obtain ⟨r1, r2⟩ := push_rel (p := (.val kv, .val zv)) (e := { key := kv, val := zv, born := ck }) q7 q8 ⟨.val _, .val _⟩
            obtain ⟨s1, s2⟩ := chg (ck' := ck + 1) hσ hx q1 q4 (by simp [q5]) (bornP q6 q5) r1 r2
            refine wp_value (v := .tuple #[zv, goInt ck]) (by simp [ho]) ?_ (hn _ _ B I _ _ hk s1 ?_ s2 fun _ _ _ h => h)
            · simp only [execOp, ho, q2, q3, Instr.mapEntry, Sem.run_bind, run_underlying' u1, Result.andThen, MapKept.run_getObj_map q4, q9 9999, e2, z1, MapKept.run_setObj_map _ q4, Sem.run_pure]
            · refine .tuple rfl fun i hi => ?_
              simp only [List.length_cons, List.length_nil] at hi
              rcases (by omega : i = 0 ∨ i = 1) with rfl | rfl
              · exact .val _
              · exact .val _
          · cases e1
        · cases h
      · cases h
    · cases h
  · rename_i t m s v ho
    split at h
    · rename_i l k i h2 h3
      split at h
      · rename_i es ck hob
        split at h
        · rename_i p hp
          cases h
          have hσ := obj_get hob
          have hm := st.eval m
          have hs := st.eval s
          have hv := st.eval v
          rw [h2] at hm
          rw [h3] at hs
          obtain ⟨x, hx⟩ := st.sr.map _ _ _ hσ
          obtain ⟨ob, ms, g1, ⟨g2, rfl, g4, g4'⟩, g5, g6⟩ := hx.map
          generalize hρ : act.eval m = mv at hm
          cases hm with
          | map hB =>
            rename_i x'
            obtain rfl : x' = x := Option.some.inj (hB.symm.trans hx.at_)
            have hmv : mapV x' = .map (some x'.b) := by simp [mapV, g2]
            rw [hmv] at hρ
            have hi : i < es.length := (List.getElem?_eq_some_iff.1 hp).1
            have hi' : i < ms.size := by omega
            have hfi : ms.findIdx? (fun e => (e.born : Int) == (i : Int)) = some i := by
              rw [Array.findIdx?_eq_some_iff_getElem]
              refine ⟨hi', by rw [g4' i hi']; simp, fun j hj => ?_⟩
              rw [g4' j (by omega)]
              simp; omega
            obtain ⟨r1, r2⟩ := mod_rel (j := i) (p := (p.1, aeval env v)) (f := fun e => { e with val := act.eval v }) g5 g6 (fun hj => by
              refine ⟨?_, hv⟩
              have := (g6 i hi hj).1
              rw [List.getElem?_eq_getElem hi] at hp
              rw [Option.some.inj hp] at this
              exact this)
            obtain ⟨s1, s2⟩ := chg (ck' := ck) hσ hx g2 g1 (by simpa using g4) (bornM (j := i) (f := fun e => { e with val := act.eval v }) g4' (fun e => rfl)) r1 r2
            refine wp_skip' (by simp [ho]) ?_ (hn .any _ B I undef _ hk s1 (.any _) s2 fun _ _ _ h => h)
            simp only [execOp, ho, hρ, hs.valEq, Instr.entryStore, Sem.run_bind, Result.andThen, MapKept.run_getObj_map g1, asInt, asIntOf, Sem.run_pure, Int.ofNat_eq_natCast, hfi, MapKept.run_setObj_map _ g1]
        · cases h
      · cases h
    · cases h
  · cases h

end Go.Abs

/- The abstract layer, part 15f: ranges over functions: the loop's record is an object of the store. -/
namespace Go.Abs
open Go Go.RowKit

/-- What a record holds. -/
structure LoopAt (B : BMap) (I : Nat → Prop) (bs : Nat) (w : World) (s : Nat) (es : List (AVal × AVal)) (st : LoopState) (pd : Option Code) (ps : Array Tmp) (asg body : Code) (x : BI) (r : Loop) : Prop where
  at_ : B s 0 = some x
  kind : x.real = false
  blk : w.heap[x.b]? = some (.loop r)
  state : r.state = st
  pending : r.pending = pd
  params : r.params = ps
  assign : r.assign = asg
  body : r.body = body
  size : r.tmps.size = es.length
  tmps : ∀ t, RV B I bs w ((argEnv (es.map (·.2))).get t) (r.tmps.getD t undef)

theorem SR.loopAt {B : BMap} {I : Nat → Prop} {bs : Nat} {σ : List AObj} {w : World} (h : SR B I bs σ w) {s : Nat} {es : List (AVal × AVal)} {st : LoopState} {pd : Option Code} {f : FuncId} {ps : Array Tmp} {asg body : Code}
    (hσ : σ[s]? = some (.map es (.loop st pd f ps asg body))) : ∃ x r, LoopAt B I bs w s es st pd ps asg body x r ∧ MapOk B I bs w s es (.loop st pd f ps asg body) x := by
  obtain ⟨x, hx⟩ := h.map _ _ _ hσ
  obtain ⟨o, ms, g1, ⟨g2, r, rfl, q1, q2, q3, q4, q5, q6⟩, g3, g4⟩ := hx.map
  have hsz : r.tmps.size = es.length := by rw [← g3, q6]; simp
  refine ⟨x, r, ⟨hx.at_, g2, g1, q1, q2, q3, q4, q5, hsz, fun t => ?_⟩, hx⟩
  rw [argEnv, argEnv_get]
  simp only [Nat.zero_le, if_true, Nat.sub_zero]
  by_cases ht : t < es.length
  · have h1 := (g4 t ht (by omega)).2
    have e1 : (es.map (·.2)).getD t .any = es[t].2 := by simp [List.getD_eq_getElem?_getD, ht]
    have e2 : r.tmps.getD t undef = ms[t].val := by
      simp only [q6, Array.getElem_map]
      rw [Array.getD_eq_getD_getElem?, Array.getElem?_eq_getElem (by omega)]
      rfl
    rw [e1, e2]
    exact h1
  · rw [List.getD_eq_getElem?_getD, List.getElem?_eq_none (by simp; omega)]
    exact .any _

/-- A record's state is turned. -/
theorem SR.setLoop {B : BMap} {I : Nat → Prop} {bs : Nat} {σ : List AObj} {w : World} (h : SR B I bs σ w) {s : Nat} {es : List (AVal × AVal)} {st st' : LoopState} {pd pd' : Option Code} {f : FuncId} {ps : Array Tmp} {asg body : Code} {x : BI} {r : Loop}
    (hσ : σ[s]? = some (.map es (.loop st pd f ps asg body))) (hx : MapOk B I bs w s es (.loop st pd f ps asg body) x) (hr : w.heap[x.b]? = some (.loop r)) (m : Nat) :
    SR B I bs (σ.set s (.map es (.loop st' pd' f ps asg body))) (w.putObj x.b (.loop { r with state := st', pending := pd' })) ∧
    Ext m B I σ w B I (σ.set s (.map es (.loop st' pd' f ps asg body))) (w.putObj x.b (.loop { r with state := st', pending := pd' })) := by
  obtain ⟨o, ms, g1, ⟨g2, r', rfl, q1, q2, q3, q4, q5, q6⟩, g3, g4⟩ := hx.map
  rw [hr] at g1
  cases g1
  refine h.setMap (w' := w.putObj x.b (.loop { r with state := st', pending := pd' })) (es' := es) (ck' := .loop st' pd' f ps asg body) hσ hx rfl rfl rfl World.putObj_size (fun k hk => World.putObj_heap_other hk) ⟨.loop { r with state := st', pending := pd' }, ms, World.putObj_heap_same (Array.getElem?_eq_some_iff.1 hr).1, ⟨g2, _, rfl, rfl, rfl, q3, q4, q5, q6⟩, g3, g4⟩ m

/-- The parameters of a round are set. -/
def putPs : List Tmp → List AVal → Env → Env
  | t :: ts, a :: as, env => putPs ts as ((t, a) :: env)
  | _, _, env => env

theorem putPs_rel {B : BMap} {I : Nat → Prop} {bs : Nat} {w : World} : ∀ (ps : List Tmp) (as : List AVal) (vs : List Value) (env : Env) (ts : Array Value), as.length = vs.length → (∀ k, k < as.length → RV B I bs w (as.getD k .any) (vs.getD k undef)) →
    (∀ t ∈ ps, t < ts.size) → EnvR B I bs w env ts → EnvR B I bs w (putPs ps as env) ((ps.zip vs).foldl (fun tmps p => tmps.setIfInBounds p.1 p.2) ts) ∧ ((ps.zip vs).foldl (fun tmps p => tmps.setIfInBounds p.1 p.2) ts).size = ts.size
  | [], _, _, _, _, _, _, _, h => ⟨by cases ‹List AVal› <;> exact h, rfl⟩
  | t :: ps, [], [], env, ts, _, _, _, h => ⟨h, rfl⟩
  | t :: ps, [], _ :: _, _, _, hl, _, _, _ => by simp at hl
  | t :: ps, _ :: _, [], _, _, hl, _, _, _ => by simp at hl
  | t :: ps, a :: as, v :: vs, env, ts, hl, hv, hp, h => by
    have h0 := hv 0 (by simp)
    simp only [List.getD_cons_zero] at h0
    have ht := hp t (List.mem_cons_self ..)
    have hput : EnvR B I bs w ((t, a) :: env) (ts.setIfInBounds t v) := EnvR.put h ht h0
    obtain ⟨k1, k2⟩ := putPs_rel ps as vs ((t, a) :: env) (ts.setIfInBounds t v) (by simpa using hl) (fun k hk => by
      have := hv (k + 1) (by simp; omega)
      simpa using this) (fun t' ht' => by rw [Array.size_setIfInBounds]; exact hp t' (List.mem_cons_of_mem _ ht')) hput
    exact ⟨k1, by rw [List.zip_cons_cons, List.foldl_cons, k2, Array.size_setIfInBounds]⟩

/-- What a call of a loop's yield comes to. -/
def YieldG (P : Program) (s : Nat) (args : List AVal) (σ : List AObj) (K : Kont) : Prop :=
  ∀ (rd : Option Nat) (bs : Nat) (B : BMap) (I : Nat → Prop) (w : World) (vs : Array Value) (x : BI), SR B I bs σ w → B s 0 = some x → args.length = vs.size → (∀ k, k < args.length → RV B I bs w (args.getD k .any) (vs.getD k undef)) →
    x.real = false ∧ ∃ f tmps asg body, (Instr.yield x.b vs).run P w = .ok (.round x.b f tmps asg body) w ∧
      RoundIn (FR rd) 0 P x.b f tmps asg body w fun e w' => ∃ r σ' B' I' v, e = .returned v ∧ K r σ' ∧ SR B' I' bs σ' w' ∧ RV B' I' bs w' r v ∧ Ext σ.length B I σ w B' I' σ' w'

theorem OpA.yield {cx : Cx} {o : Oper} {env : Env} {σ : List AObj} {K : Kont} {f : Operand} {args : Array Operand} {ts : Array TypeId} {s : Nat} (ho : o.op = .call { callee := .value f, args := args, argTypes := ts })
    (hf : aeval env f = .map s) (hm : cx.m ≤ σ.length) (hk : YieldG cx.P s (args.toList.map (aeval env)) σ K) : OpA cx o env σ K := by
  intro B I a w st next Q' hn
  refine ⟨fun _ _ => trivial, ?_⟩
  rw [Oper.semAt_eq _ _ _ (by simp [ho])]
  have hv := st.eval f
  rw [hf] at hv
  obtain ⟨ha1, ha2⟩ := getD_map_ops st.eval args
  generalize hρ : a.eval f = u at hv
  cases hv with
  | map hB =>
    rename_i x
    obtain ⟨hreal, g, tmps, asg, body, hy, hr⟩ := hk cx.rd cx.bs B I w (args.map a.eval) x st.sr hB (by simp) (fun k hlt => ha2 k hlt)
    have hmv : mapV x = .func (.yield x.b) #[] #[] := by simp [mapV, hreal]
    rw [hmv] at hρ
    have hrun : (execOp a.eval o).run cx.P w = .ok (.round x.b g tmps asg body) w := by
      simp only [execOp, ho, resolve, hρ, Deferred.ofValue, Sem.run_bind, Sem.run_pure, Result.andThen, invoke]
      simpa using hy
    rw [hrun]
    refine ⟨(fun h => by cases h), hr.mono ?_⟩
    rintro e w' ⟨r, σ', B', I', v, rfl, hkr, hsr, hrv, hext⟩
    have hBm : ∀ l ver x, B l ver = some x → B' l ver = some x := by
      intro l ver x hx
      rcases Nat.lt_or_ge l σ.length with hl | hl
      · exact hext.bmap l ver x hl hx
      · rw [st.sr.dead l (.inl (List.getElem?_eq_none hl)) ver] at hx; cases hx
    exact hn r σ' B' I' v w' hkr hsr hrv (hext.lower hm fun l hl b => cur_none hl b) hBm

/-- A round's end. -/
def roundEnd (s : Nat) (K : Kont) : Post := fun e _ σ => ∃ es f ps asg body, σ[s]? = some (.map es (.loop .busy none f ps asg body)) ∧ match e with
  | .normal => K (.val (.bool true)) (σ.set s (.map es (.loop .ready none f ps asg body)))
  | .ret => K (.val (.bool false)) (σ.set s (.map es (.loop .done (some .ret) f ps asg body)))
  | .exit id => K (.val (.bool false)) (σ.set s (.map es (.loop .done (some (.exit id)) f ps asg body)))
  | _ => False

theorem yieldG_of {P : Program} {s : Nat} {args : List AVal} {σ : List AObj} {K : Kont} {es : List (AVal × AVal)} {f : FuncId} {ps : Array Tmp} {asg body : Code} (hσ : σ[s]? = some (.map es (.loop .ready none f ps asg body)))
    (hps : ps.size = args.length) (hin : ps.toList.all (fun t => Nat.ble (t + 1) es.length) = true)
    (h : ∀ l bs h0, WpA { P := P, rd := some l, N := es.length, m := σ.length, bs := bs, h0 := h0 } asg (putPs ps.toList args (argEnv (es.map (·.2)))) σ fun e env1 σ1 => e = .normal ∧ ∃ es1 f1 ps1 asg1 body1, σ1[s]? = some (.map es1 (.loop .ready none f1 ps1 asg1 body1)) ∧
      WpA { P := P, rd := some l, N := es.length, m := σ.length, bs := bs, h0 := h0 } body env1 (σ1.set s (.map es1 (.loop .busy none f1 ps1 asg1 body1))) (roundEnd s K)) : YieldG P s args σ K := by
  intro rd bs B I w vs x hs hB hlen hv
  obtain ⟨x', r, L, hx⟩ := hs.loopAt hσ
  obtain rfl : x' = x := Option.some.inj (L.at_.symm.trans hB)
  have hl : s < σ.length := (List.getElem?_eq_some_iff.1 hσ).1
  have hvs : vs.size = r.params.size := by rw [L.params, hps, hlen]
  refine ⟨L.kind, r.fn, _, r.assign, r.body, run_yield L.blk hvs, ?_⟩
  refine roundIn_of_wpIn (F := FR rd) trivial ?_
  have hsmall : ∀ t ∈ ps.toList, t < r.tmps.size := by
    intro t ht
    rw [L.size]
    exact Nat.le_of_ble_eq_true (List.all_eq_true.1 hin t ht)
  have henv : EnvR B I bs w (argEnv (es.map (·.2))) r.tmps := L.tmps
  obtain ⟨k1, k2⟩ := putPs_rel (B := B) (I := I) (bs := bs) (w := w) ps.toList args vs.toList (argEnv (es.map (·.2))) r.tmps (by simpa using hlen) (fun k hk => by
    have := hv k hk
    rwa [Array.getD_eq_getD_getElem?, ← Array.getElem?_toList, ← List.getD_eq_getElem?_getD] at this) hsmall henv
  have hfold : (r.params.zip vs).foldl (fun tmps (t, a) => tmps.setIfInBounds t a) r.tmps = (ps.toList.zip vs.toList).foldl (fun tmps p => tmps.setIfInBounds p.1 p.2) r.tmps := by
    rw [← Array.foldl_toList, Array.toList_zip, L.params]
  rw [hfold]
  have st0 : St { P := P, rd := some x'.b, N := es.length, m := σ.length, bs := bs, h0 := w.heap.size } B I (putPs ps.toList args (argEnv (es.map (·.2)))) σ
      { tmps := (ps.toList.zip vs.toList).foldl (fun tmps p => tmps.setIfInBounds p.1 p.2) r.tmps, defers := [] } w := ⟨by rw [k2, L.size], k1, hs, .nil (Nat.le_refl _)⟩
  have h1 := h x'.b bs w.heap.size B I _ w st0
  rw [L.assign, L.body]
  refine wpIn_mono h1 ?_
  rintro e a1 w1 ⟨env1, σ1, B1, I1, ⟨rfl, es1, f1, ps1, asg1, body1, hσ1, hb⟩, st1, ext1⟩
  obtain ⟨x1, r1, L1, hx1⟩ := st1.sr.loopAt hσ1
  have hB1 : B1 s 0 = some x' := ext1.bmap s 0 x' hl hB
  obtain rfl : x1 = x' := Option.some.inj (L1.at_.symm.trans hB1)
  obtain ⟨sb, eb⟩ := st1.sr.setLoop (st' := .busy) (pd' := none) hσ1 hx1 L1.blk σ.length
  have hpd : { r1 with state := .busy, pending := none } = ({ r1 with state := .busy } : Loop) := by
    have := L1.pending
    cases r1
    simp only at this
    subst this
    rfl
  rw [hpd] at sb eb
  refine ⟨_, run_beginRound L1.blk L1.state, ?_⟩
  have st2 : St { P := P, rd := some x1.b, N := es.length, m := σ.length, bs := bs, h0 := w.heap.size } B1 I1 env1 (σ1.set s (.map es1 (.loop .busy none f1 ps1 asg1 body1))) a1 (w1.putObj x1.b (.loop { r1 with state := .busy })) :=
    ⟨st1.size, st1.env.ext st1.sr eb (fun _ _ _ h => h), sb, st1.marks.ext st1.sr eb⟩
  refine wpIn_mono (hb B1 I1 a1 _ st2) ?_
  rintro e a2 w2 ⟨env2, σ2, B2, I2, ⟨es2, f2, ps2, asg2, body2, hσ2, hend⟩, st2', ext2⟩
  obtain ⟨x2, r2, L2, hx2⟩ := st2'.sr.loopAt hσ2
  have hB2 : B2 s 0 = some x1 := ext2.bmap s 0 x1 hl hB1
  obtain rfl : x2 = x1 := Option.some.inj (L2.at_.symm.trans hB2)
  have fin : ∀ (jump : Option Code), K (.val (.bool jump.isNone)) (σ2.set s (.map es2 (.loop (if jump.isNone then .ready else .done) jump f2 ps2 asg2 body2))) →
      ∃ v w', (Instr.endRound x2.b jump).run P w2 = .ok v w' ∧ ∃ r σ' B' I' v', Ending.returned v = .returned v' ∧ K r σ' ∧ SR B' I' bs σ' w' ∧ RV B' I' bs w' r v' ∧ Ext σ.length B I σ w B' I' σ' w' := by
    intro jump hK
    obtain ⟨s3, e3⟩ := st2'.sr.setLoop (st' := if jump.isNone then .ready else .done) (pd' := jump) hσ2 hx2 L2.blk σ.length
    exact ⟨_, _, run_endRound jump L2.blk, _, _, B2, I2, _, rfl, hK, s3, .val _, (ext1.trans eb).trans (ext2.trans e3)⟩
  cases e with
  | normal => exact fin none hend
  | ret => exact fin (some .ret) hend
  | exit id => exact fin (some (.exit id)) hend
  | goto t => exact hend.elim
  | panic c => exact hend.elim
  | outgrown => exact hend.elim

end Go.Abs

/- The abstract layer, part 15g: the statement that ranges over a function. -/
namespace Go.Abs
open Go Go.RowKit

/-- A new block that the store does not know. -/
theorem SR.grow {B : BMap} {I : Nat → Prop} {bs : Nat} {σ : List AObj} {w : World} (h : SR B I bs σ w) (o : Obj) (m : Nat) : SR B I bs σ (w.alloc o) ∧ Ext m B I σ w B I σ (w.alloc o) := by
  have hkeep : ∀ b, b < w.heap.size → (w.alloc o).heap[b]? = w.heap[b]? := fun b hb => Below.heap_alloc _ _ _ hb
  have hsz : w.heap.size ≤ (w.alloc o).heap.size := by simp
  have hIk : ∀ b, I b → (w.alloc o).heap[b]? = w.heap[b]? := fun b hb => hkeep b (h.ilt b hb)
  refine ⟨{ row := ?_, map := ?_, dead := h.dead, sep := h.sep, imm := h.imm, lt := fun l b hb => Nat.lt_of_lt_of_le (h.lt l b hb) hsz, icells := fun b hb => by rw [hIk b hb]; exact h.icells b hb, gl := h.gl.mono (fun _ h => h) hIk,
            vlt := fun l ver x hx hr => Nat.lt_of_lt_of_le (h.vlt l ver x hx hr) hsz, bsle := Nat.le_trans h.bsle hsz, cbs := h.cbs, vmono := h.vmono },
          ⟨rfl, rfl, rfl, hsz, fun b hb _ => hkeep b hb, fun _ _ _ _ h => h, fun _ h => h, fun _ h => .inl h, fun l b hb => ?_⟩⟩
  · intro l ver sz xs hl
    obtain ⟨x, hx⟩ := h.row l ver sz xs hl
    exact ⟨x, hx.mono (fun _ _ _ h => h) (fun _ h => h) hIk (Nat.le_refl _) fun hr => hkeep _ (h.lt _ _ (hx.cur hl hr))⟩
  · intro l es ck hl
    obtain ⟨x, hx⟩ := h.map l es ck hl
    exact ⟨x, hx.mono (fun _ _ _ h => h) (fun _ h => h) hIk (Nat.le_refl _) (hkeep _ (h.lt _ _ (hx.cur hl)))⟩
  · rcases Nat.lt_or_ge l m with hl | hl
    · exact .inr (.inl ⟨hl, hb⟩)
    · exact .inr (.inr ⟨hl, l, hl, hb⟩)

/-- A frame, temporary by temporary. -/
def dense : Nat → Nat → Env → List (AVal × AVal)
  | 0, _, _ => []
  | n + 1, t, env => (.any, env.get t) :: dense n (t + 1) env

theorem dense_length : ∀ (n t : Nat) (env : Env), (dense n t env).length = n
  | 0, _, _ => rfl
  | n + 1, t, env => by rw [dense, List.length_cons, dense_length]

theorem dense_get : ∀ (n t : Nat) (env : Env) (i : Nat) (h : i < (dense n t env).length), (dense n t env)[i] = (.any, env.get (t + i))
  | 0, _, _, i, h => by simp [dense] at h
  | n + 1, t, env, 0, h => rfl
  | n + 1, t, env, i + 1, h => by
    simp only [dense, List.getElem_cons_succ]
    rw [dense_get n (t + 1) env i, Nat.add_assoc, Nat.add_comm 1 i]

/-- What a loop comes to, behind its function's return. -/
def loopEnd (s : Nat) (env : Env) (Q : Post) : Kont := fun _ σ => ∃ es st pd f ps asg body, σ[s]? = some (.map es (.loop st pd f ps asg body)) ∧ st ≠ .busy ∧ match pd with
  | none => Q .normal env (σ.set s (.map es (.loop .exhausted none f ps asg body)))
  | some .ret => Q .ret env (σ.set s (.map es (.loop .exhausted (some .ret) f ps asg body)))
  | some (.exit id) => Q (.exit id) env (σ.set s (.map es (.loop .exhausted (some (.exit id)) f ps asg body)))
  | _ => False

theorem WpA.rangeFunc {cx : Cx} {g : Operand} {ps : Array Tmp} {asg body : Code} {env : Env} {σ : List AObj} {Q : Post} {gf : FuncId} {first caps : List AVal} (fh : FuncId) (hrd : cx.rd = none) (hg : aeval env g = .func (.func gf) first caps) (hent : Enters cx.P gf)
    (hm : cx.m ≤ σ.length) (h : CallG cx.P gf (first ++ [.map σ.length] ++ caps) (σ ++ [.map (dense cx.N 0 env) (.loop .ready none fh ps asg body)]) (loopEnd σ.length env Q)) : WpA cx (.rangeFunc g ps asg body) env σ Q := by
  intro B I a w st
  refine wpIn_rangeFunc fun fn _ => ?_
  have hv := st.eval g
  rw [hg] at hv
  generalize hρ : a.eval g = u at hv
  cases hv with
  | func h1 h2 h3 h4 =>
    rename_i fv cv
    -- the two blocks
    let r : Loop := { state := .ready, pending := none, fn := fn, tmps := a.tmps, params := ps, assign := asg, body := body, defers := w.heap.size }
    obtain ⟨sa, ea⟩ := st.sr.grow (.deferred (some [])) cx.m
    have hsize : (w.alloc (.deferred (some []))).heap.size = w.heap.size + 1 := by simp
    have hms : (a.tmps.map fun v => ({ key := undef, val := v, born := 0 } : MapEntry)).size = (dense cx.N 0 env).length := by rw [dense_length, Array.size_map, st.size]
    obtain ⟨B1, s1, e1, hB1, at1⟩ := sa.newMap (es := dense cx.N 0 env) (ck := .loop .ready none fh ps asg body) (o := .loop r) (ms := a.tmps.map fun v => { key := undef, val := v, born := 0 }) (x := ⟨w.heap.size + 1, 0, 0, false⟩)
      hsize.symm ⟨rfl, r, rfl, rfl, rfl, rfl, rfl, rfl, rfl⟩ hms (fun i hi hi' => by
        rw [dense_get]
        refine ⟨.any _, ?_⟩
        have := (st.env.ext st.sr ea (fun _ _ _ h => h)) i
        simp only [Array.getElem_map, Nat.zero_add]
        rw [Array.getD_eq_getD_getElem?, Array.getElem?_eq_getElem (by simpa using hi')] at this
        exact this) cx.m
    have hround : (FR cx.rd).round = none := hrd
    refine ⟨w.heap.size + 1, _, _, { target := .fn (.func gf) cv, args := fv ++ #[.func (.yield (w.heap.size + 1)) #[] #[]] }, (w.alloc (.deferred (some []))).alloc (.loop r), gf, fv ++ #[.func (.yield (w.heap.size + 1)) #[] #[]] ++ cv, (w.alloc (.deferred (some []))).alloc (.loop r), by rw [hround]; exact run_enterLoop_outer fn a.tmps ps asg body, ?_, fun _ _ => trivial, ?_, (fun h => by cases h), ?_⟩
    · simp only [resolve, hρ, Deferred.ofValue, Sem.run_bind, Sem.run_pure, Result.andThen, List.map_toArray, List.map_cons, List.map_nil]
      rfl
    · simp only [invoke]
      exact hent _ _
    · refine callsIn_FR.2 ?_
      have conv : ∀ {x : AVal} {v : Value}, RV B I cx.bs w x v → RV B1 I cx.bs ((w.alloc (.deferred (some []))).alloc (.loop r)) x v := fun hx => (hx.ext st.sr ea (fun _ _ _ h => h)).ext sa e1 hB1
      refine (h cx.bs B1 I _ _ s1 (by simp [h1, h2]; omega) fun k hlt => ?_).mono ?_
      · simp only [List.length_append, List.length_cons, List.length_nil] at hlt
        rw [getD_app]
        simp only [List.length_append, List.length_cons, List.length_nil]
        by_cases q1 : k < first.length + (0 + 1)
        · rw [if_pos q1, getD_app, getD_append_l (by simp; omega)]
          by_cases q2 : k < first.length
          · rw [if_pos q2, getD_append_l (by omega)]
            exact conv (h3 k q2)
          · rw [if_neg q2, getD_append_r (by omega), ← h1]
            have : k - first.length = 0 := by omega
            rw [this]
            exact .map (x := ⟨w.heap.size + 1, 0, 0, false⟩) at1
        · rw [if_neg q1, getD_append_r (by simp; omega)]
          have : (fv ++ #[Value.func (.yield (w.heap.size + 1)) #[] #[]]).size = first.length + (0 + 1) := by simp; omega
          rw [this]
          exact conv (h4 _ (by omega))
      · rintro e w2 ⟨res, σ2, B2, I2, v, rfl, ⟨es2, st2, pd2, f2, ps2, asg2, body2, hσ2, hnb, hq⟩, s2, _, e2⟩
        have hBm : ∀ l ver x, B1 l ver = some x → B2 l ver = some x := by
          intro l ver x hx
          rcases Nat.lt_or_ge l (σ ++ [AObj.map (dense cx.N 0 env) (.loop .ready none fh ps asg body)]).length with hl | hl
          · exact e2.bmap l ver x hl hx
          · rw [s1.dead l (.inl (List.getElem?_eq_none hl)) ver] at hx; cases hx
        have e2' : Ext cx.m B1 I _ _ B2 I2 σ2 w2 := e2.lower (by simp; omega) fun l hl b => cur_none hl b
        obtain ⟨x, r2, L, hx⟩ := s2.loopAt hσ2
        obtain rfl : x = ⟨w.heap.size + 1, 0, 0, false⟩ := Option.some.inj (L.at_.symm.trans (hBm _ _ _ at1))
        obtain ⟨s3, e3⟩ := s2.setLoop (st' := .exhausted) (pd' := pd2) hσ2 hx L.blk cx.m
        have hpd : { r2 with state := .exhausted, pending := pd2 } = ({ r2 with state := .exhausted } : Loop) := by
          have := L.pending
          cases r2
          simp only at this
          subst this
          rfl
        rw [hpd] at s3 e3
        have eall : Ext cx.m B I σ w B2 I2 (σ2.set σ.length (.map es2 (.loop .exhausted pd2 f2 ps2 asg2 body2))) (w2.putObj (w.heap.size + 1) (.loop { r2 with state := .exhausted })) := ((ea.trans e1).trans e2').trans e3
        have hnew : (w.alloc (.deferred (some []))).heap[w.heap.size]? = some (.deferred (some [])) := World.alloc_heap_new ..
        have hdef : (w2.putObj (w.heap.size + 1) (.loop { r2 with state := .exhausted })).heap[w.heap.size]? = some (.deferred (some [])) := by
          have ec : Ext cx.m B I σ (w.alloc (.deferred (some []))) B2 I2 (σ2.set σ.length (.map es2 (.loop .exhausted pd2 f2 ps2 asg2 body2))) (w2.putObj (w.heap.size + 1) (.loop { r2 with state := .exhausted })) := (e1.trans e2').trans e3
          refine (ec.block _ (by rw [hsize]; omega) fun l hl => ?_).trans hnew
          have := st.sr.lt l _ hl
          omega
        have stf : St cx B2 I2 env (σ2.set σ.length (.map es2 (.loop .exhausted pd2 f2 ps2 asg2 body2))) { a with defers := [{ target := .collected w.heap.size, args := #[] }] ++ a.defers } (w2.putObj (w.heap.size + 1) (.loop { r2 with state := .exhausted })) := by
          refine ⟨st.size, (((st.env.ext st.sr ea (fun _ _ _ h => h)).ext sa e1 hB1).ext s1 e2' hBm).ext s2 e3 (fun _ _ _ h => h), s3, .cons hdef ?_ (fun d hd => ?_) (st.marks.ext st.sr eall)⟩
          · exact st.marks.le
          · exact st.marks.fresh d hd
        refine ⟨pd2, _, (run_endLoop L.blk (by rw [L.state]; exact hnb)).trans (congrArg (fun q => Result.ok q _) L.pending), ?_⟩
        cases pd2 with
        | none => exact ⟨env, _, B2, I2, hq, stf, eall⟩
        | some c =>
          cases c with
          | ret => exact wpIn_mono (WpA.ret (cx := cx) (Q := Q) hq B2 I2 _ _ stf) fun _ _ _ => Reach.trans eall
          | exit id => exact wpIn_mono (WpA.exit (cx := cx) (Q := Q) hq B2 I2 _ _ stf) fun _ _ _ => Reach.trans eall
          | _ => exact hq.elim

end Go.Abs

/- The abstract layer, part 15h: clear, a slicing with three indices whose value nobody uses, nil as a row. -/
namespace Go.Abs
open Go Go.RowKit

/-- A nil slice, as a row of its own, of any version. -/
theorem SR.newNilV {B : BMap} {I : Nat → Prop} {bs : Nat} {σ : List AObj} {w : World} (h : SR B I bs σ w) {sz : Nat} (hsz : 0 < sz) (ver m : Nat) :
    ∃ B' x, SR B' I bs (σ ++ [.row ver sz []]) w ∧ Ext m B I σ w B' I (σ ++ [.row ver sz []]) w ∧ (∀ l ver x, B l ver = some x → B' l ver = some x) ∧ B' σ.length ver = some x ∧ x.real = false := by
  have hd : ∀ ver, B σ.length ver = none := fun ver => h.dead _ (.inl (List.getElem?_eq_none (Nat.le_refl _))) ver
  have hup : ∀ l v x, B l v = some x → B.upd σ.length ver ⟨0, sz, 0, false⟩ l v = some x := fun _ _ _ hx => BMap.upd_mono B (.inl (hd ver)) hx
  have s1 := SR.setRow (w' := w) (l := σ.length) (ver := ver) (sz := sz) (xs := []) (x := ⟨0, sz, 0, false⟩) h.push_gone (by simp) (.inl (hd ver)) (fun v y hy => by rw [hd v] at hy; cases hy)
    (Nat.le_refl _) (fun _ _ _ => rfl) (fun h => by cases h) (fun h => by cases h)
    ⟨BMap.upd_self .., rfl, hsz, Nat.le_refl _, (fun y hy => by cases hy), fun _ => rfl, fun h => by cases h⟩
  have e : (σ ++ [AObj.gone]).set σ.length (.row ver sz []) = σ ++ [.row ver sz []] := by
    rw [List.set_append_right _ _ (Nat.le_refl _)]; simp
  rw [e] at s1
  refine ⟨_, _, s1, ?_, hup, BMap.upd_self .., rfl⟩
  refine ⟨rfl, rfl, rfl, Nat.le_refl _, fun _ _ _ => rfl, fun l v x _ hx => hup l v x hx, fun _ h => h, fun _ h => .inl h, fun l b hb => ?_⟩
  rcases Nat.lt_trichotomy l σ.length with hl | hl | hl
  · have : Cur B σ l = some b := by
      simpa only [Cur, List.getElem?_append_left hl, BMap.upd_ne B _ (Nat.ne_of_lt hl)] using hb
    rcases Nat.lt_or_ge l m with hm' | hm'
    · exact .inr (.inl ⟨hm', this⟩)
    · exact .inr (.inr ⟨hm', l, hm', this⟩)
  · subst hl
    simp [Cur, BMap.upd_self] at hb
  · have : (σ ++ [AObj.row ver sz []])[l]? = none := List.getElem?_eq_none (by simp; omega)
    simp [Cur, this] at hb

/-- A function that hands back a row of its own, or nil: nil is taken as a row. -/
theorem CallG.nilRow {P : Program} {f : FuncId} {args : List AVal} {σ : List AObj} {K : Kont} (sz ver : Nat) (hsz : 0 < sz)
    (h : CallG P f args σ fun r σ' => (r = .val (.slice none 0 0) ∧ K (.row σ'.length ver 0 0) (σ' ++ [.row ver sz []])) ∨ K r σ') : CallG P f args σ K := by
  intro bs B I w vs h1 h2 h3
  refine (h bs B I w vs h1 h2 h3).mono ?_
  rintro e w' ⟨r, σ', B', I', v, rfl, hk | hk, hs, hv, he⟩
  · obtain ⟨rfl, hk⟩ := hk
    obtain ⟨B2, x, s2, e2, hB2, at2, hx2⟩ := hs.newNilV hsz ver σ.length
    exact ⟨_, _, B2, I', v, rfl, hk, s2, by rw [hv.valEq]; exact .rowNil at2 hx2, he.trans e2⟩
  · exact ⟨r, σ', B', I', v, rfl, hk, hs, hv, he⟩

@[go_sem] theorem get_concat {σ : List AObj} {o : AObj} : (σ ++ [o])[σ.length]? = some o := by simp
@[go_sem] theorem set_concat {σ : List AObj} {o o' : AObj} : (σ ++ [o]).set σ.length o' = σ ++ [o'] := by
  rw [List.set_append_right _ _ (Nat.le_refl _)]; simp

theorem RV.rowSlice {B : BMap} {I : Nat → Prop} {bs : Nat} {w : World} {l v o n : Nat} {u : Value} (h : RV B I bs w (.row l v o n) u) : ∃ a c, u = .slice a n c ∧ n ≤ c := by
  cases h with
  | row hB hr ho => exact ⟨_, _, rfl, by omega⟩
  | rowEnd hB hr ho hc => exact ⟨_, _, rfl, Nat.zero_le _⟩
  | rowNil => exact ⟨_, _, rfl, Nat.zero_le _⟩

/-- Further operations with an effect. -/
def extE (P : Program) (o : Oper) (env : Env) (σ : List AObj) : Option (AVal × Eff) :=
  match o.op with
  | .slice t x (some lo) (some hi) (some mx) => match selem P t, aeval env x, aeval env lo, aeval env hi, aeval env mx with
    | some _, .row _ _ _ n, .val (.int _ (.ofNat a)), .val (.int _ (.ofNat b)), .val (.int _ (.ofNat m)) => if a ≤ b ∧ b ≤ m ∧ m ≤ n then some (.any, .keep) else none
    | _, _, _, _, _ => none
  | .call ⟨.builtin .clear, ⟨[x]⟩, ⟨[t]⟩⟩ => match zelem P t, aeval env x with
    | some z, .row l ver off len => match obj σ l with
      | some (.row v sz xs) => if ver = v ∧ sz = z.cells.length ∧ off + len ≤ xs.length ∧ 0 < len then some (.any, .set l (.row v sz (xs.take off ++ List.replicate len z ++ xs.drop (off + len)))) else none
      | _ => none
    | _, _ => none
  | _ => none

theorem extE_A {cx : Cx} {o : Oper} {env : Env} {σ : List AObj} {K : Kont} {a : AVal} {e : Eff} (h : extE cx.P o env σ = some (a, e)) (hk : K a (e.run σ)) : OpA cx o env σ K := by
  unfold extE at h
  split at h
  · rename_i t x lo hi mx ho
    split at h
    · rename_i sz l v off n k1 a' k2 b k3 m h1 h2 h3 h4 h5
      split at h
      · rename_i hle
        cases h
        obtain ⟨h0, e, inf, hu, hinf, hsz⟩ := selem_spec h1
        intro B I act w st next Q' hn
        have vx := st.eval x
        have v1 := st.eval lo
        have v2 := st.eval hi
        have v3 := st.eval mx
        rw [h2] at vx
        rw [h3] at v1
        rw [h4] at v2
        rw [h5] at v3
        obtain ⟨q, c, ex, hc⟩ := vx.rowSlice
        refine wp_value (v := .slice (if m = a' then q else q.map (·.add (a' * sz))) (b - a') (m - a')) (by simp [ho]) ?_ (hn _ σ B I _ w hk st.sr (.any _) (.refl ..) fun _ _ _ h => h)
        simp only [execOp, ho, ex, v1.valEq, v2.valEq, v3.valEq, Instr.sliceAt, Sem.run_bind, run_underlying' hu, Result.andThen, Instr.slice, Option.map_some, Instr.sliceBounds, Instr.sliceBound, asIntOf, Sem.run_pure, Int.ofNat_eq_natCast]
        have c1 : (0 : Int) ≤ (m : Int) ∧ (m : Int) ≤ (c : Int) := ⟨by omega, by omega⟩
        have c2 : (0 : Int) ≤ (b : Int) ∧ (b : Int) ≤ (m : Int) := ⟨by omega, by omega⟩
        have c3 : (0 : Int) ≤ (a' : Int) ∧ (a' : Int) ≤ (b : Int) := ⟨by omega, by omega⟩
        simp [run_sizeOf' hinf, c1, c2, c3, hsz, Result.andThen]
      · cases h
    · cases h
  · rename_i x t ho
    split at h
    · rename_i z l ver off len h1 h2
      split at h
      · rename_i v sz xs hob
        split at h
        · rename_i hc
          cases h
          obtain ⟨rfl, rfl, hle, hpos⟩ := hc
          obtain ⟨e, hu, hz0, hrun⟩ := zelem_spec h1
          intro B I act w st next Q' hn
          have hσ := obj_get hob
          have vx := st.eval x
          rw [h2] at vx
          obtain ⟨y, hy⟩ := st.sr.row _ _ _ _ hσ
          obtain ⟨_, zv, z1, z2, z3⟩ := hrun w
          generalize hρ : act.eval x = u at vx
          have hfit := hy.fits
          have hreal : y.real = true := by
            cases hr : y.real with
            | true => rfl
            | false => have := hy.virt hr; omega
          generalize hq : AVal.row l ver off len = av at vx
          cases vx with
          | any => cases hq
          | val => cases hq
          | nil => cases hq
          | list => cases hq
          | agg => cases hq
          | ptr => cases hq
          | eptr => cases hq
          | map => cases hq
          | func => cases hq
          | tuple => cases hq
          | iface => cases hq
          | rowEnd hB hr ho' hc' => cases hq; omega
          | rowNil hB hr => cases hq; omega
          | row hB hr hle' =>
            cases hq
            rename_i y'
            obtain rfl : y' = y := Option.some.inj (hB.symm.trans hy.at_)
            obtain ⟨cs, T, hb, hcs, hcc⟩ := hy.real hr
            have hzsz : (Builtin.zeroCells zv.cells len).size = len * z.cells.length := by rw [zeroCells_size, z2]
            have hmul : off * z.cells.length + len * z.cells.length ≤ cs.size := by rw [hcs, ← Nat.add_mul]; exact Nat.mul_le_mul_right _ (by omega)
            have zget : ∀ i' j', i' < len → j' < z.cells.length → (Builtin.zeroCells zv.cells len).getD (i' * z.cells.length + j') undef = zv.cells.getD j' undef := by
              intro i' j' hi' hj'
              have hlt := mul_lt hi' hj'
              simp only [Builtin.zeroCells]
              rw [Array.getD_eq_getD_getElem?, Array.getElem?_map, Array.getElem?_range]
              rw [z2]
              rw [if_pos hlt]
              simp only [Option.map_some, Option.getD_some]
              rw [Nat.add_comm, Nat.add_mul_mod_self_right, Nat.mod_eq_of_lt hj']
              rw [Array.getD_eq_getD_getElem?]
              rw [getElem!_def]
              rw [Array.getElem?_eq_getElem (by omega)]
              rfl
            have each : ∀ q ∈ (Builtin.zeroCells zv.cells len).toList, q.oneCell' = true := by
              intro q hq
              obtain ⟨k, hk, e⟩ := List.mem_iff_getElem.1 hq
              simp only [Array.length_toList, hzsz] at hk
              have e1 : k / z.cells.length < len := Nat.div_lt_of_lt_mul (by rw [Nat.mul_comm]; exact hk)
              have e2 : k % z.cells.length < z.cells.length := Nat.mod_lt _ hz0
              have := zget _ _ e1 e2
              rw [Nat.div_add_mod' k z.cells.length, Array.getD_eq_getD_getElem?, ← Array.getElem?_toList, List.getElem?_eq_getElem (by simpa [hzsz] using hk)] at this
              simp only [Option.getD_some, e] at this
              rw [this]
              exact (z3 _ e2).2
            obtain ⟨w', cs', r1, r2, r3, r4, r5, r6, r7, r8, r9⟩ := run_storeCells' (P := cx.P) (b := y'.b) (T := T) (Builtin.zeroCells zv.cells len).toList (off * z.cells.length) 0 w cs hb (by simp [hzsz]; exact hmul) each
            have htl : (xs.take off).length = off := by simp; omega
            have hxl : (xs.take off ++ List.replicate len z ++ xs.drop (off + len)).length = xs.length := by simp; omega
            obtain ⟨k1, k2⟩ := SR.sameBlock (m := cx.m) (xs' := xs.take off ++ List.replicate len z ++ xs.drop (off + len)) st.sr hσ hy hr r2 r3 r4 r5 r6 r7 (by rw [r8, hcs]) (by rw [hxl]; exact hfit)
              (by
                intro q hq
                rcases List.mem_append.1 hq with h | h
                · rcases List.mem_append.1 h with h | h
                  · exact hy.each _ (List.mem_of_mem_take h)
                  · rw [(List.mem_replicate.1 h).2]
                · exact hy.each _ (List.mem_of_mem_drop h))
              (by
                intro i' j' hi' hj'
                rw [hxl] at hi'
                rw [r9 (i' * z.cells.length + j'), getD_app, getD_app]
                simp only [List.length_append, htl, Nat.add_zero, Array.length_toList, hzsz, List.length_replicate]
                by_cases g1 : i' < off
                · rw [if_pos (by omega), if_pos g1, if_neg (by have := mul_lt g1 hj'; omega), getD_take' g1]
                  exact hcc i' j' hi' hj'
                · by_cases g2 : i' < off + len
                  · rw [if_pos g2, if_neg g1]
                    have hi2 : i' - off < len := by omega
                    have e1 : i' * z.cells.length + j' = off * z.cells.length + ((i' - off) * z.cells.length + j') := by rw [← Nat.add_assoc, ← Nat.add_mul, show off + (i' - off) = i' by omega]
                    have e2 := mul_lt hi2 hj'
                    rw [if_pos (by omega), e1, show off * z.cells.length + ((i' - off) * z.cells.length + j') - off * z.cells.length = (i' - off) * z.cells.length + j' by omega, getD_toList', zget _ _ hi2 hj']
                    have e3 : (List.replicate len z).getD (i' - off) .any = z := by simp [List.getD_eq_getElem?_getD, hi2]
                    rw [e3, (z3 j' hj').1]
                    exact ⟨.val _, (z3 j' hj').2⟩
                  · have e3 : (off + len) * z.cells.length ≤ i' * z.cells.length := Nat.mul_le_mul_right _ (by omega)
                    rw [Nat.add_mul] at e3
                    rw [if_neg g2, if_neg (by omega)]
                    have e4 : (xs.drop (off + len)).getD (i' - (off + len)) .any = xs.getD i' .any := by
                      rw [List.getD_eq_getElem?_getD, List.getElem?_drop, show off + len + (i' - (off + len)) = i' by omega, ← List.getD_eq_getElem?_getD]
                    rw [e4]
                    exact hcc i' j' hi' hj')
            refine wp_value (v := .tuple #[]) (by simp [ho]) ?_ (hn _ _ B I _ w' hk k1 (.any _) k2 fun _ _ _ h => h)
            have e0 : #[x].map act.eval = #[act.eval x] := by simp
            have hr1 : (Builtin.clear_ #[t] o.type #[act.eval x]).run cx.P w = .ok (.tuple #[]) w' := by
              obtain ⟨k, rfl⟩ : ∃ k, len = k + 1 := ⟨len - 1, by omega⟩
              rw [hρ, hy.hsz]
              simp only [Builtin.clear_, List.getElem?_toArray, List.getElem?_cons_zero, Sem.run_bind, run_underlying' hu, Result.andThen, z1, r1, Sem.run_pure]
            rw [run_builtin ho, e0]
            simp only [builtin, Sem.run_bind, hr1, Result.andThen, Sem.run_pure]
        · cases h
      · cases h
    · cases h
  · cases h

end Go.Abs

/- The abstract layer, part 16: operations in a row, reckoned by simp; regions. -/
namespace Go.Abs
open Go Go.RowKit

def moreA (cx : Cx) (o : Oper) (env : Env) (σ : List AObj) (K : Kont) : Prop :=
  match moreV cx.P o env with
  | some a => K a σ
  | none => False

theorem moreA_Q {cx : Cx} {o : Oper} {env : Env} {σ : List AObj} {K : Kont} (h : moreA cx o env σ K) : OpQ cx o env σ K := by
  unfold moreA at h
  split at h
  · rename_i a ha; exact ⟨a, h, moreV_run ha⟩
  · exact h.elim

def binA (P : Program) (t : TypeId) (op : BinOp) (x y : AVal) (σ : List AObj) (K : Kont) : Prop :=
  match x, y with
  | .val (.int k a), .val (.int k' b) => k = k' ∧ match intA op k a b with | some r => K (.val r) σ | none => False
  | .val (.string a), .val (.string b) => match strA op a b with | some r => K (.val r) σ | none => False
  | x, y => match binV P op t x y with | some r => K r σ | none => False

def pickA (t : Bool) (a b : AVal) (σ : List AObj) (K : Kont) : Prop :=
  match a, b with
  | .val (.bool p), .val (.bool q) => K (.val (.bool (if t then p else q))) σ
  | a, b => K (if t then a else b) σ

def callA (P : Program) (f : AVal) (args : List AVal) (m : Nat) (σ : List AObj) (K : Kont) : Prop :=
  match f with
  | .func (.func g) first caps => Enters P g ∧ m ≤ σ.length ∧ CallG P g (first ++ args ++ caps) σ K
  | .map s => m ≤ σ.length ∧ YieldG P s args σ K
  | _ => False

def evalParts (env : Env) : List (Nat × Operand) → List (Nat × AVal)
  | [] => []
  | p :: r => (p.1, aeval env p.2) :: evalParts env r

theorem evalParts_eq (env : Env) (ps : List (Nat × Operand)) : ps.map (fun p => (p.1, aeval env p.2)) = evalParts env ps := by
  induction ps with
  | nil => rfl
  | cons p r ih => simp only [List.map_cons, ih, evalParts]

/-- Each part fits its place. -/
def buildOk (places : List (Nat × Nat)) (n : Nat) : List (Nat × AVal) → Bool
  | [] => true
  | p :: r => (match places[p.1]? with | some (off, sz) => partOk sz p.2 && decide (off + sz ≤ n) | none => false) && buildOk places n r

theorem buildOk_spec {places : List (Nat × Nat)} {n : Nat} {env : Env} : ∀ (ps : List (Nat × Operand)), buildOk places n (evalParts env ps) = true →
    ∀ p ∈ ps, ∃ off sz, places[p.1]? = some (off, sz) ∧ partOk sz (aeval env p.2) = true ∧ off + sz ≤ n := by
  intro ps
  induction ps with
  | nil => intro _ p hp; cases hp
  | cons q r ih =>
    intro h p hp
    simp only [evalParts, buildOk, Bool.and_eq_true] at h
    rcases List.mem_cons.1 hp with rfl | hp
    · have h1 := h.1
      split at h1
      · rename_i off sz e
        simp only [Bool.and_eq_true, decide_eq_true_eq] at h1
        exact ⟨off, sz, e, h1.1, h1.2⟩
      · cases h1
    · exact ih h.2 p hp

def elemsOk (n sz : Nat) : List (Nat × AVal) → Bool
  | [] => true
  | p :: r => decide (p.1 < n) && partOk sz p.2 && elemsOk n sz r

theorem elemsOk_spec {n sz : Nat} {env : Env} : ∀ (ps : List (Nat × Operand)), elemsOk n sz (evalParts env ps) = true → ∀ p ∈ ps, p.1 < n ∧ partOk sz (aeval env p.2) = true := by
  intro ps
  induction ps with
  | nil => intro _ p hp; cases hp
  | cons q r ih =>
    intro h p hp
    simp only [evalParts, elemsOk, Bool.and_eq_true, decide_eq_true_eq] at h
    rcases List.mem_cons.1 hp with rfl | hp
    · exact h.1
    · exact ih h.2 p hp

/-- Is a slice that has no elements compared with nil? Then either may come. -/
def nilCmp (P : Program) (op : BinOp) (t : TypeId) (x : AVal) (y : Operand) : Bool :=
  match op, y with
  | .eql, .const (.slice none 0 0) | .neq, .const (.slice none 0 0) => (match x with
    | .list _ _ [] | .row _ _ _ 0 => isSl P t
    | _ => false)
  | _, _ => false

def nilConst : Operand → Bool
  | .const (.slice none 0 0) => true
  | _ => false

theorem OpA.nilCmp {cx : Cx} {o : Oper} {env : Env} {σ : List AObj} {K : Kont} {op : BinOp} {t yt : TypeId} {x y : Operand} (ho : o.op = .binOp op t x y yt) (hc : Abs.nilCmp cx.P op t (aeval env x) y = true)
    (hk : ∀ b, K (.val (.bool b)) σ) : OpA cx o env σ K := by
  intro B I a w st next Q' hn
  have hv := st.eval x
  have sl : ∃ b n c, a.eval x = .slice b n c := by
    unfold Abs.nilCmp at hc
    split at hc
    · split at hc
      · rename_i e; rw [e] at hv; generalize a.eval x = u at hv ⊢; cases hv with
        | nil => exact ⟨_, _, _, rfl⟩
        | list => exact ⟨_, _, _, rfl⟩
      · rename_i e; rw [e] at hv; generalize a.eval x = u at hv ⊢; cases hv with
        | row => exact ⟨_, _, _, rfl⟩
        | rowEnd => exact ⟨_, _, _, rfl⟩
        | rowNil => exact ⟨_, _, _, rfl⟩
      · cases hc
    · split at hc
      · rename_i e; rw [e] at hv; generalize a.eval x = u at hv ⊢; cases hv with
        | nil => exact ⟨_, _, _, rfl⟩
        | list => exact ⟨_, _, _, rfl⟩
      · rename_i e; rw [e] at hv; generalize a.eval x = u at hv ⊢; cases hv with
        | row => exact ⟨_, _, _, rfl⟩
        | rowEnd => exact ⟨_, _, _, rfl⟩
        | rowNil => exact ⟨_, _, _, rfl⟩
      · cases hc
    · cases hc
  obtain ⟨b, n, c, hx⟩ := sl
  have main : (op = .eql ∨ op = .neq) ∧ y = .const (.slice none 0 0) ∧ ∃ e, cx.P.underlying t = some (.slice e) := by
    unfold Abs.nilCmp at hc
    split at hc
    · split at hc
      · unfold isSl at hc
        split at hc
        · rename_i e h; exact ⟨.inl rfl, rfl, e, h⟩
        · cases hc
      · unfold isSl at hc
        split at hc
        · rename_i e h; exact ⟨.inl rfl, rfl, e, h⟩
        · cases hc
      · cases hc
    · split at hc
      · unfold isSl at hc
        split at hc
        · rename_i e h; exact ⟨.inr rfl, rfl, e, h⟩
        · cases hc
      · unfold isSl at hc
        split at hc
        · rename_i e h; exact ⟨.inr rfl, rfl, e, h⟩
        · cases hc
      · cases hc
    · cases hc
  obtain ⟨hop, rfl, e, hu⟩ := main
  have heq : ∃ r, (Op.equal t (.slice b n c) (.slice none 0 0)).run cx.P w = .ok r w := by
    cases b with
    | none => exact ⟨_, (eq_slices hu 9999 n c 0 0 ⟨0, 0, none⟩).2.2⟩
    | some ad => exact ⟨_, (eq_slices hu 9999 n c 0 0 ad).1⟩
  obtain ⟨r, hr⟩ := heq
  have ey : a.eval (.const (.slice none 0 0)) = .slice none 0 0 := rfl
  rcases hop with rfl | rfl
  · refine wp_value (v := .bool r) (by simp [ho]) ?_ (hn _ σ B I _ w (hk r) st.sr (.val _) (.refl ..) fun _ _ _ h => h)
    have eg : (eqGuard .eql t x (.const (.slice none 0 0)) (.slice b n c) (.slice none 0 0)).run cx.P w = .ok () w := rfl
    have eb : (binOp .eql t (.slice b n c) (.slice none 0 0)).run cx.P w = .ok (.bool r) w := by
      show (do pure (.bool (← Op.equal t (.slice b n c) (.slice none 0 0))) : Sem Value).run cx.P w = _
      simp only [Sem.run_bind, hr, Result.andThen, Sem.run_pure]
    simp only [execOp, ho, hx, ey, Sem.run_bind, eg, Result.andThen, eb, Sem.run_pure]
  · refine wp_value (v := .bool (!r)) (by simp [ho]) ?_ (hn _ σ B I _ w (hk (!r)) st.sr (.val _) (.refl ..) fun _ _ _ h => h)
    have eg : (eqGuard .neq t x (.const (.slice none 0 0)) (.slice b n c) (.slice none 0 0)).run cx.P w = .ok () w := rfl
    have eb : (binOp .neq t (.slice b n c) (.slice none 0 0)).run cx.P w = .ok (.bool (!r)) w := by
      show (do pure (.bool (!(← Op.equal t (.slice b n c) (.slice none 0 0)))) : Sem Value).run cx.P w = _
      simp only [Sem.run_bind, hr, Result.andThen, Sem.run_pure]
    simp only [execOp, ho, hx, ey, Sem.run_bind, eg, Result.andThen, eb, Sem.run_pure]

theorem isSl_spec {P : Program} {t : TypeId} (h : isSl P t = true) : ∃ e, P.underlying t = some (.slice e) := by
  unfold isSl at h
  split at h
  · rename_i e he; exact ⟨e, he⟩
  · cases h

@[go_sem] theorem binV_nil_list {P : Program} {t : TypeId} {tg : Bool} {sz : Nat} {x : AVal} {xs : List AVal} (h : isSl P t = true) : binV P .eql t (.list tg sz (x :: xs)) (.val (.slice none 0 0)) = some (.val (.bool false)) := by
  obtain ⟨e, h⟩ := isSl_spec h
  show (eqV2 P t _ _).map _ = _
  unfold eqV2
  simp only [h]
  rfl

@[go_sem] theorem binV_nil_nil {P : Program} {t : TypeId} (h : isSl P t = true) : binV P .eql t (.val (.slice none 0 0)) (.val (.slice none 0 0)) = some (.val (.bool true)) := by
  obtain ⟨e, h⟩ := isSl_spec h
  show (eqV2 P t _ _).map _ = _
  unfold eqV2
  simp only [h]
  rfl

/-- What an operation asks and gives. -/
def opA (cx : Cx) (o : Oper) (env : Env) (σ : List AObj) (K : Kont) : Prop :=
  match o.op with
  | .move x | .assign x => K (aeval env x) σ
  | .pick c x y => match aeval env c with
    | .val (.bool t) => pickA t (aeval env x) (aeval env y) σ K
    | _ => False
  | .alloc t => match zeroCells cx.P t with
    | some zs => K (.ptr σ.length 0 0 0) (σ ++ [.row 0 zs.length [.agg zs]])
    | none => False
  | .box _ x => (0 < (aeval env x).cells.length ∧ (aeval env x).cells.all AVal.leaf = true) ∧ K (.ptr σ.length 0 0 0) (σ ++ [.row 0 (aeval env x).cells.length [aeval env x]])
  | .build t parts => match zeroCells cx.P t, fieldsAt cx.P t with
    | some zs, some places => buildOk places zs.length (evalParts env parts.toList) = true ∧ K (.agg (spliceParts places zs (evalParts env parts.toList))) σ
    | _, _ => False
  | .buildSlice t n parts => match zelem cx.P t with
    | some z => (elemsOk n z.cells.length (evalParts env parts.toList) = true ∧ n * z.cells.length ≤ 16777216) ∧
        K (.row σ.length 0 0 n) (σ ++ [.row 0 z.cells.length (setParts (List.replicate n z) (evalParts env parts.toList))])
    | none => False
  | .makeSlice t x y => match zelem cx.P t, slT cx.P t, aeval env x, aeval env y with
    | some z, some (_, bytes, _), .val (.int .i64 n), .val (.int .i64 c) => (0 ≤ n ∧ n ≤ c ∧ bytes * c ≤ 281474976710656 ∧ c < 9223372036854775808) ∧ K (.row σ.length 0 0 n.toNat) (σ ++ [.row 0 z.cells.length (List.replicate n.toNat z)])
    | _, _, _, _ => False
  | .load t x => match tin cx.P t with
    | some q => loadA q (aeval env x) σ K
    | none => False
  | .store t x y => match tin1 cx.P t with
    | some q => 0 < wid q ∧ storeA q (aeval env x) (aeval env y) σ K
    | none => False
  | .nilCheck x => (aeval env x).solid = true ∧ K (aeval env x) σ
  | .binOp op t x y _ => match nilCmp cx.P op t (aeval env x) y with
    | true => K (.val (.bool true)) σ ∧ K (.val (.bool false)) σ
    | false => binA cx.P t op (aeval env x) (aeval env y) σ K
  | .unOp .not _ x => match aeval env x with
    | .val (.bool b) => K (.val (.bool (!b))) σ
    | _ => False
  | .unOp .neg _ x => match aeval env x with
    | .val (.int k a) => K (.val (.int k (k.wrap (-a)))) σ
    | _ => False
  | .makeFunc f first caps => K (.func f (first.toList.map (aeval env)) (caps.toList.map (aeval env))) σ
  | .fieldAddr s x f => match fieldOff cx.P s f, aeval env x with
    | some off, .ptr l v i j => K (.ptr l v i (j + off)) σ
    | some off, .eptr cs j => K (.eptr cs (j + off)) σ
    | _, _ => False
  | .indexAddr t x y => match selem cx.P t with
    | some sz => match aeval env y with
      | .val (.int _ i) => indexAddrA sz (aeval env x) i σ K
      | _ => False
    | none => moreA cx o env σ K
  | .slice t x lo hi none => match selem cx.P t, cx.P.underlying t, aeval env x with
    | some sz, _, av => sliceA sz env lo hi av σ K
    | none, some .string, .val (.string s) => match bnd env lo 0, bnd env hi s.size with
      | some a, some b => (0 ≤ a ∧ a ≤ b ∧ b ≤ s.size) ∧ K (.val (.string (s.extract a.toNat b.toNat))) σ
      | _, _ => False
    | _, _, _ => False
  | .slice t x none (some hi) (some mx) => match selem cx.P t, aeval env hi, aeval env mx, lenA false (aeval env x) with
    | some sz, .val (.int _ 0), .val (.int _ 0), some _ => K (.row σ.length 0 0 0) (σ ++ [.row 0 sz []])
    | _, _, _, _ => False
  | .slice _ _ (some _) (some _) (some _) => match extE cx.P o env σ with
    | some (a, e) => K a (e.run σ)
    | none => False
  | .index t x y => match aeval env x with
    | .val (.string s) => match cx.P.underlying t, aeval env y with
      | some .string, .val (.int _ i) => (0 ≤ i ∧ i < s.size) ∧ K (.val (.int .u8 (s.data.getD i.toNat 0).toNat)) σ
      | _, _ => False
    | _ => moreA cx o env σ K
  | .extract x i => match aeval env x with
    | .tuple vs => i < vs.length ∧ K (vs.getD i .any) σ
    | _ => False
  | .call c => match c.callee with
    | .value f => callA cx.P (aeval env f) (c.args.toList.map (aeval env)) cx.m σ K
    | .builtin .len => match c.args.toList, c.argTypes.toList with
      | [x], [t] => match isLenT cx.P t with
        | some b => match lenA b (aeval env x) with | some n => K (.val (.int .i64 n)) σ | none => False
        | none => False
      | _, _ => False
    | .builtin .append => match c.args.toList, c.argTypes.toList with
      | [s, x], [t, tx] => match slT cx.P t, isSl cx.P tx with
        | some (sz, bytes, _), true => appendA sz bytes (aeval env s) (aeval env x) σ K
        | _, _ => False
      | _, _ => False
    | .builtin .clear => match extE cx.P o env σ with
      | some (a, e) => K a (e.run σ)
      | none => False
    | _ => moreA cx o env σ K
  | .field .. | .unOp .xor .. | .convert .. => moreA cx o env σ K
  | .lookup t m k ok => match lookA cx.P t (aeval env m) (aeval env k) ok σ with
    | some a => K a σ
    | none => False
  | .makeMap .. | .insert .. | .mapUpdate .. | .mapEntry .. | .entryStore .. => match mapE cx.P o env σ with
    | some (a, e) => K a (e.run σ)
    | none => False
  | _ => False

theorem call_eta (c : Call) : c = { callee := c.callee, args := c.args.toList.toArray, argTypes := c.argTypes.toList.toArray } := by
  cases c; simp

/-- Operations that change nothing. -/
def quietOp (o : Oper) : Bool :=
  match o.op with
  | .move _ | .assign _ | .pick .. | .build .. | .load .. | .nilCheck _ | .unOp .not .. | .unOp .neg .. | .makeFunc .. | .fieldAddr .. | .indexAddr .. | .index .. | .extract .. => true
  | .slice _ _ _ _ none => true
  | .field .. | .unOp .xor .. | .convert .. | .lookup .. => true
  | .binOp _ _ _ y _ => !nilConst y
  | .call c => match c.callee with | .builtin .len | .builtin .min | .builtin .max => true | _ => false
  | _ => false

theorem opQ_sound {cx : Cx} {o : Oper} {env : Env} {σ : List AObj} {K : Kont} (hq : quietOp o = true) (h : opA cx o env σ K) : OpQ cx o env σ K := by
  unfold opA at h
  unfold quietOp at hq
  split at h
  · rename_i x ho; exact .move ho h
  · rename_i x ho; exact .assign ho h
  · rename_i c x y ho
    split at h
    · rename_i t hc
      refine .pick ho hc ?_
      unfold pickA at h
      split at h
      · rename_i p q e1 e2
        rw [e1, e2]
        cases t <;> exact h
      · exact h
    · exact h.elim
  · rename_i t ho; simp [ho] at hq
  · rename_i t x ho; simp [ho] at hq
  · rename_i t parts ho
    split at h
    · rename_i zs pl h1 h2; exact .build ho h1 h2 (buildOk_spec _ h.1) (by rw [evalParts_eq]; exact h.2)
    · exact h.elim
  · rename_i t n parts ho; simp [ho] at hq
  · rename_i t x y ho; simp [ho] at hq
  · rename_i t x ho
    split at h
    · rename_i q hq; exact .load ho hq h
    · exact h.elim
  · rename_i t x y ho; simp [ho] at hq
  · rename_i x ho; exact .nilCheck ho h.1 h.2
  · rename_i op t x y yt ho
    have hn : nilCmp cx.P op t (aeval env x) y = false := by
      simp only [ho, Bool.not_eq_true'] at hq
      unfold nilCmp
      split <;> first | rfl | cases hq
    rw [hn] at h
    simp only at h
    unfold binA at h
    split at h
    · rename_i k a k' b h1 h2
      obtain ⟨rfl, h⟩ := h
      split at h
      · rename_i r hr; exact .binInt ho h1 h2 hr h
      · exact h.elim
    · rename_i a b h1 h2
      split at h
      · rename_i r hr; exact .binStr ho h1 h2 hr h
      · exact h.elim
    · split at h
      · rename_i r hr; exact ⟨r, h, moreV_run (by simp only [moreV, ho]; exact hr)⟩
      · exact h.elim
  · rename_i t x ho
    split at h
    · rename_i b hb; exact .not ho hb h
    · exact h.elim
  · rename_i t x ho
    split at h
    · rename_i k a hb; exact .neg ho hb h
    · exact h.elim
  · rename_i f first caps ho; exact .makeFunc ho h
  · rename_i s x f ho
    split at h
    · rename_i off l v i j h1 h2; exact .fieldAddr ho h1 (by rw [h2]; exact h)
    · rename_i off cs j h1 h2; exact .fieldAddr ho h1 (by rw [h2]; exact h)
    · exact h.elim
  · rename_i t x y ho
    split at h
    · rename_i sz h1
      split at h
      · rename_i k i h2; exact .indexAddr ho h1 h2 h
      · exact h.elim
    · exact moreA_Q h
  · rename_i t x lo hi ho
    split at h
    · rename_i sz _ av h1; exact .slice ho h1 h
    · rename_i s h1 h2 h3
      split at h
      · rename_i a b h4 h5; exact .sliceStr ho h2 h3 h4 h5 h.1.1 h.1.2.1 h.1.2.2 h.2
      · exact h.elim
    · exact h.elim
  · rename_i t x hi mx ho; simp [ho] at hq
  · rename_i ho; simp [ho] at hq
  · rename_i t x y ho
    split at h
    · rename_i s h2
      split at h
      · rename_i k i h1 h3; exact .indexStr ho h1 h2 h3 h.1.1 h.1.2 h.2
      · exact h.elim
    · exact moreA_Q h
  · rename_i x i ho
    split at h
    · rename_i vs hv; exact .extract ho hv h.1 h.2
    · exact h.elim
  · rename_i c ho
    simp only [ho] at hq
    obtain ⟨callee, ⟨args⟩, ⟨ts⟩⟩ := c
    simp only at h hq
    split at h
    · simp at hq
    · split at h
      · rename_i x t
        split at h
        · rename_i b hb
          split at h
          · rename_i n hn; exact .len ho hb hn h
          · exact h.elim
        · exact h.elim
      · exact h.elim
    · simp at hq
    · simp at hq
    · exact moreA_Q h
  · exact moreA_Q h
  · exact moreA_Q h
  · exact moreA_Q h
  · rename_i t m k ok ho
    split at h
    · rename_i a ha; exact .lookup ho ha h
    · exact h.elim
  · rename_i ho; simp [ho] at hq
  · rename_i ho; simp [ho] at hq
  · rename_i ho; simp [ho] at hq
  · rename_i ho; simp [ho] at hq
  · rename_i ho; simp [ho] at hq
  · exact h.elim

theorem quietOp_defer {o : Oper} (h : quietOp o = true) (c : Call) : o.op ≠ .defer c := by
  intro e; simp [quietOp, e] at h

theorem opA_sound {cx : Cx} {o : Oper} {env : Env} {σ : List AObj} {K : Kont} (h : opA cx o env σ K) : OpA cx o env σ K := by
  by_cases hq : quietOp o = true
  · exact (opQ_sound hq h).toA (quietOp_defer hq)
  have hq' := hq
  unfold quietOp at hq
  unfold opA at h
  split at h
  · rename_i x ho; simp [ho] at hq
  · rename_i x ho; simp [ho] at hq
  · rename_i c x y ho; simp [ho] at hq
  · rename_i t ho
    split at h
    · rename_i zs hz; exact .alloc ho hz h
    · exact h.elim
  · rename_i t x ho
    exact .box ho h.1.1 h.1.2 h.2
  · rename_i t parts ho; simp [ho] at hq
  · rename_i t n parts ho
    split at h
    · rename_i z hz; exact .buildSlice ho hz (elemsOk_spec _ h.1.1) (by have := h.1.2; omega) (by rw [evalParts_eq]; exact h.2)
    · exact h.elim
  · rename_i t x y ho
    split at h
    · rename_i z sz bytes zs n c h1 h2 h3 h4; exact .makeSlice ho h1 h2 h3 h4 h.1.1 h.1.2.1 (by have := h.1.2.2.1; omega) (by have := h.1.2.2.2; omega) h.2
    · exact h.elim
  · rename_i t x ho; simp [ho] at hq
  · rename_i t x y ho
    split at h
    · rename_i q hq; exact .store ho hq h.1 h.2
    · exact h.elim
  · rename_i x ho; simp [ho] at hq
  · rename_i op t x y yt ho
    split at h
    · rename_i hc
      exact .nilCmp ho hc (fun b => by cases b <;> simp [h.1, h.2])
    · have h2 : binA cx.P t op (aeval env x) (aeval env y) σ K := h
      unfold binA at h2
      split at h2
      · rename_i k a k' b e1 e2
        obtain ⟨rfl, h2⟩ := h2
        split at h2
        · rename_i r hr; exact (OpQ.binInt ho e1 e2 hr h2).toA (by simp [ho])
        · exact h2.elim
      · rename_i a b e1 e2
        split at h2
        · rename_i r hr; exact (OpQ.binStr ho e1 e2 hr h2).toA (by simp [ho])
        · exact h2.elim
      · split at h2
        · rename_i r hr; exact (OpQ.toA (by simp [ho]) ⟨r, h2, moreV_run (by simp only [moreV, ho]; exact hr)⟩)
        · exact h2.elim
  · rename_i t x ho; simp [ho] at hq
  · rename_i t x ho; simp [ho] at hq
  · rename_i f first caps ho; simp [ho] at hq
  · rename_i s x f ho; simp [ho] at hq
  · rename_i t x y ho; simp [ho] at hq
  · rename_i t x lo hi ho; simp [ho] at hq
  · rename_i t x hi mx ho
    split at h
    · rename_i sz k1 k2 n h1 h2 h3 h4; exact .slice00 ho h1 h2 h3 ⟨_, h4⟩ h
    · exact h.elim
  · split at h
    · rename_i a e ha; exact extE_A ha h
    · exact h.elim
  · rename_i t x y ho; simp [ho] at hq
  · rename_i x i ho; simp [ho] at hq
  · rename_i c ho
    simp only [ho] at hq
    obtain ⟨callee, ⟨args⟩, ⟨ts⟩⟩ := c
    simp only at h
    split at h
    · rename_i f
      unfold callA at h
      split at h
      · rename_i g first caps hf
        exact .call ho hf h.1 h.2.1 h.2.2
      · rename_i s hf
        exact .yield ho hf h.1 h.2
      · exact h.elim
    · simp at hq
    · split at h
      · rename_i s x t tx
        split at h
        · rename_i sz bytes zs h4 h5; exact .append ho h4 h5 h
        · exact h.elim
      · exact h.elim
    · split at h
      · rename_i a e ha; exact extE_A ha h
      · exact h.elim
    · exact (moreA_Q h).toA (by simp [ho])
  · rename_i ho; exact (moreA_Q h).toA (by simp [ho])
  · rename_i ho; exact (moreA_Q h).toA (by simp [ho])
  · rename_i ho; exact (moreA_Q h).toA (by simp [ho])
  · rename_i ho; simp [ho] at hq
  · split at h
    · rename_i a e ha; exact mapE_A ha h
    · exact h.elim
  · split at h
    · rename_i a e ha; exact mapE_A ha h
    · exact h.elim
  · split at h
    · rename_i a e ha; exact mapE_A ha h
    · exact h.elim
  · split at h
    · rename_i a e ha; exact mapE_A ha h
    · exact h.elim
  · split at h
    · rename_i a e ha; exact mapE_A ha h
    · exact h.elim
  · exact h.elim

end Go.Abs

/- The abstract layer, part 17: regions (in the order of the text). -/
namespace Go.Abs
open Go Go.RowKit

def guardV (ops : Array Oper) (env : Env) (j : Nat) : Option Bool :=
  match (ops[j]?).bind (·.dst) with
  | some d => match env.get d with
    | .val (.bool b) => some b
    | _ => none
  | none => none

/-- The guard's temporary, and what it is. -/
def guardT (ops : Array Oper) (env : Env) (j : Nat) : Option (Nat × Bool) :=
  match (ops[j]?).bind (·.dst) with
  | some d => match env.get d with
    | .val (.bool b) => some (d, b)
    | _ => none
  | none => none

def setB (env : Env) (t : Nat) (b : Bool) : Env := (t, .val (.bool b)) :: env

theorem guardT_V {ops : Array Oper} {env : Env} {j d : Nat} {b : Bool} (h : guardT ops env j = some (d, b)) : guardV ops env j = some b ∧ ∀ t, (setB env d b).get t = env.get t := by
  unfold guardT at h
  unfold guardV
  split at h
  · rename_i d' hd
    split at h
    · rename_i b' hb
      cases h
      refine ⟨rfl, fun t => ?_⟩
      simp only [setB, Env.get]
      split
      · rename_i e; subst e; exact hb.symm
      · rfl
    · cases h
  · cases h

def runL (cx : Cx) (ops : Array Oper) : List Oper → Env → List AObj → (Env → List AObj → Prop) → Prop
  | [], env, σ, K => K env σ
  | o :: l, env, σ, K => match o.guard with
    | none => opA cx o env σ fun av σ' => runL cx ops l (env.put o.dst av) σ' K
    | some (j, want) => match guardT ops env j with
      | some (t, b) => (b = want → opA cx o (setB env t want) σ fun av σ' => runL cx ops l ((setB env t want).put o.dst av) σ' K) ∧ (b = (!want) → runL cx ops l ((setB env t (!want)).put o.dst .any) σ K)
      | none => False

def dstOk (N : Nat) (ops : Array Oper) : Bool := ops.toList.all fun o => match o.dst with | some d => Nat.ble (d + 1) N | none => true

theorem St.put {cx : Cx} {B B' : BMap} {I I' : Nat → Prop} {env : Env} {σ σ' : List AObj} {a : Act} {w w' : World} (st : St cx B I env σ a w) {d : Option Tmp} (hd : ∀ t, d = some t → t < cx.N) {av : AVal} {v : Value}
    (hs : SR B' I' cx.bs σ' w') (hv : RV B' I' cx.bs w' av v) (he : Ext cx.m B I σ w B' I' σ' w') (hB : ∀ l ver x, B l ver = some x → B' l ver = some x) : St cx B' I' (env.put d av) σ' (a.put d v) w' := by
  have h1 := st.env.ext st.sr he hB
  cases d with
  | none => exact ⟨st.size, h1, hs, st.marks.ext st.sr he⟩
  | some t =>
    refine ⟨?_, ?_, hs, st.marks.ext st.sr he⟩
    · simp only [Act.put, Array.size_setIfInBounds]; exact st.size
    · exact h1.put (by rw [st.size]; exact hd t rfl) hv

theorem guard_yields {cx : Cx} {B : BMap} {I : Nat → Prop} {env : Env} {σ : List AObj} {a : Act} {w : World} (st : St cx B I env σ a w) {ops : Array Oper} {j : Nat} {b : Bool} (h : guardV ops env j = some b) : yielded ops a.tmps j = some b := by
  unfold guardV at h
  unfold yielded
  split at h
  · rename_i d hd
    split at h
    · rename_i b' hb
      cases h
      have := st.env d
      rw [hb] at this
      have e := this.valEq
      rw [hd]
      simp only [Option.bind_some]
      have hlt : d < a.tmps.size := by
        rcases Nat.lt_or_ge d a.tmps.size with h | h
        · exact h
        · rw [Array.getD_eq_getD_getElem?, Array.getElem?_eq_none h] at e
          cases e
      rw [Array.getD_eq_getD_getElem?, Array.getElem?_eq_getElem hlt] at e
      rw [Array.getElem?_eq_getElem hlt, show a.tmps[d] = .bool b from e]
    · cases h
  · cases h

theorem runL_sound {cx : Cx} {ops : Array Oper} (hd : dstOk cx.N ops = true) : ∀ (l : List Oper) (js : List Nat) (env : Env) (σ : List AObj) (Q : Post), js.map (ops[·]?) = l.map some → runL cx ops l env σ (fun env' σ' => Q .normal env' σ') →
    ∀ B I a w, St cx B I env σ a w → wpOpsIn (FR cx.rd) 0 cx.P ops (Reach cx Q B I σ w) js a w := by
  have key : ∀ (l : List Oper) (js : List Nat) (env : Env) (σ : List AObj) (Q : Post), js.map (ops[·]?) = l.map some → runL cx ops l env σ (fun env' σ' => Q .normal env' σ') →
      ∀ B I a w, St cx B I env σ a w → ∀ B0 I0 σ0 w0, Ext cx.m B0 I0 σ0 w0 B I σ w → wpOpsIn (FR cx.rd) 0 cx.P ops (Reach cx Q B0 I0 σ0 w0) js a w := by
    intro l
    induction l with
    | nil =>
      intro js env σ Q hj h B I a w st B0 I0 σ0 w0 he
      have : js = [] := by simpa using hj
      subst this
      exact ⟨env, σ, B, I, h, st, he⟩
    | cons o l ih =>
      intro js env0 σ Q hj h B I a w st B0 I0 σ0 w0 he
      cases js with
      | nil => simp at hj
      | cons j js =>
        simp only [List.map_cons, List.cons.injEq] at hj
        obtain ⟨hjo, hjs⟩ := hj
        have hdo : ∀ t, o.dst = some t → t < cx.N := by
          intro t ht
          have hlt := (Array.getElem?_eq_some_iff.1 hjo).1
          have hmem : o ∈ ops.toList := by
            rw [← (Array.getElem?_eq_some_iff.1 hjo).2]
            exact Array.getElem_mem_toList hlt
          have := List.all_eq_true.1 hd o hmem
          rw [ht] at this
          exact Nat.le_of_ble_eq_true this
        have doit : ∀ env, (∀ t, env.get t = env0.get t) → opA cx o env σ (fun av σ' => runL cx ops l (env.put o.dst av) σ' fun env' σ' => Q .normal env' σ') → o.wpIn (FR cx.rd) 0 cx.P a w (wpOpsIn (FR cx.rd) 0 cx.P ops (Reach cx Q B0 I0 σ0 w0) js) (Reach cx Q B0 I0 σ0 w0) := by
          intro env heq h
          have st : St cx B I env σ a w := ⟨st.size, fun t => by rw [heq t]; exact st.env t, st.sr, st.marks⟩
          refine opA_sound h B I a w st _ _ fun av σ' B' I' v w' hk hs hv hext hB => ?_
          exact ih js (env.put o.dst av) σ' Q hjs hk B' I' (a.put o.dst v) w' (st.put hdo hs hv hext hB) B0 I0 σ0 w0 (he.trans hext)
        rw [wpOpsIn, hjo]
        simp only [runL] at h
        cases hg : o.guard with
        | none =>
          rw [hg] at h
          simp only [Region.wanted, hg, if_true]
          exact doit env0 (fun _ => rfl) h
        | some g =>
          obtain ⟨g, want⟩ := g
          rw [hg] at h
          simp only at h
          split at h
          · rename_i d b hb
            obtain ⟨hb, hset⟩ := guardT_V hb
            have hy := guard_yields st hb
            by_cases e : b = want
            · subst e
              simp only [Region.wanted, hg, hy, beq_self_eq_true, if_true]
              exact doit _ hset (h.1 rfl)
            · have e2 : b = !want := by cases b <;> cases want <;> simp_all
              have : (some b == some want) = false := by simpa using e
              simp only [Region.wanted, hg, hy, this, Bool.false_eq_true, if_false]
              have st : St cx B I (setB env0 d (!want)) σ a w := ⟨st.size, fun t => by rw [← e2, hset t]; exact st.env t, st.sr, st.marks⟩
              exact ⟨fun _ _ => trivial, ih js ((setB env0 d (!want)).put o.dst .any) σ Q hjs (h.2 e2) B I (a.put o.dst undef) w (st.put hdo st.sr (.any _) (.refl ..) fun _ _ _ h => h) B0 I0 σ0 w0 he⟩
          · exact h.elim
  intro l js env σ Q hj h B I a w st
  exact key l js env σ Q hj h B I a w st B I σ w (.refl ..)

theorem range_map (ops : Array Oper) : (List.range ops.size).map (ops[·]?) = ops.toList.map some := by
  apply List.ext_getElem?
  intro i
  simp only [List.getElem?_map]
  by_cases h : i < ops.size
  · simp [h]
  · simp [h]

theorem WpA.region {cx : Cx} {id : Nat} {ops : Array Oper} {env : Env} {σ : List AObj} {Q : Post} (hd : dstOk cx.N ops = true) (h : runL cx ops ops.toList env σ (fun env' σ' => Q .normal env' σ')) : WpA cx (.region id ops false) env σ Q :=
  fun B I a w st => wpIn_region (runL_sound hd ops.toList (List.range ops.size) env σ Q (range_map ops) h B I a w st)

end Go.Abs

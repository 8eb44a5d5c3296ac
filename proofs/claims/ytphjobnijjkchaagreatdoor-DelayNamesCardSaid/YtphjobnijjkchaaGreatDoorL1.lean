/- The abstract layer, text 1 of 5: values, stores, the relation, operations that change nothing. Generic over the program. -/
import Derived.OrdersIn
import Derived.Below
import Derived.KernelRfl
import Derived.WalkKit
import Derived.RangeFuncLeaves

/- The abstract layer, part 0: the laid variables of the program that code reads: which ones, and what lies in them. -/
namespace Go.Abs
open Go

/-- strings.asciiSpace: 1 at the six ASCII spaces. -/
def asciiSpace : Array Value := ((List.range 256).map fun i => Value.int .u8 (if i = 9 ∨ i = 10 ∨ i = 11 ∨ i = 12 ∨ i = 13 ∨ i = 32 then 1 else 0)).toArray

/-- The laid variables, by their numbers. -/
def GT : Nat → Option (Array Value)
  | 0 => some asciiSpace
  | _ => none

end Go.Abs

/- The abstract layer, part 1: abstract values, what they stand for in a world, the abstract store. Generic over the program. -/
namespace Go.Abs
open Go Go.RowKit

/-- An abstract value: what is known of a machine's value. -/
inductive AVal where
  | any
  | val (v : Value)
  | list (tg : Bool) (sz : Nat) (xs : List AVal)
  | row (l ver off len : Nat)
  | agg (cs : List AVal)
  | ptr (l ver i j : Nat)
  | eptr (cs : List AVal) (j : Nat)
  | map (l : Nat)
  | func (f : Fn) (first caps : List AVal)
  | tuple (vs : List AVal)
  | iface (t : TypeId) (v : AVal)
  deriving Inhabited

def AVal.cells : AVal → List AVal
  | .agg cs => cs
  | v => [v]

/-- Where an abstract object lies: its block, how many cells an element has, for how many elements there is room; a nil slice is not real. -/
structure BI where
  b : Nat
  sz : Nat
  C : Nat
  real : Bool

abbrev BMap := Nat → Nat → Option BI

/-- What lies in a block that is no row: a map with its clock; the record of a loop over a function. -/
inductive MK where
  | plain (clock : Nat)
  | loop (state : LoopState) (pending : Option Code) (fn : FuncId) (params : Array Tmp) (assign body : Code)

instance : Inhabited MK := ⟨.plain 0⟩

inductive AObj where
  | row (ver sz : Nat) (xs : List AVal)
  | map (es : List (AVal × AVal)) (clock : MK)
  | gone
  deriving Inhabited

/-- A map's value, or the yield of a loop. -/
def mapV (x : BI) : Value := match x.real with | true => .map (some x.b) | false => .func (.yield x.b) #[] #[]

theorem mapV_cells (x : BI) : (mapV x).cells = #[mapV x] := by unfold mapV; cases x.real <;> rfl
theorem mapV_one (x : BI) : (mapV x).oneCell' = true := by unfold mapV; cases x.real <;> rfl

/-- What an object of the heap is, entry by entry. -/
def MRep (x : BI) (k : MK) (o : Obj) (ms : Array MapEntry) : Prop :=
  match k with
  | .plain clock => x.real = true ∧ o = .map ms clock ∧ clock = ms.size ∧ ∀ i (h : i < ms.size), ms[i].born = i
  | .loop st pd _ ps asg body => x.real = false ∧ ∃ r : Loop, o = .loop r ∧ r.state = st ∧ r.pending = pd ∧ r.params = ps ∧ r.assign = asg ∧ r.body = body ∧ ms = r.tmps.map fun v => { key := undef, val := v, born := 0 }

/-- 'the value v is what the abstract value says, in the world w'. I: blocks that nobody writes. -/
inductive RV (B : BMap) (I : Nat → Prop) (bs : Nat) (w : World) : AVal → Value → Prop
  | any (v : Value) : RV B I bs w .any v
  | val (v : Value) : RV B I bs w (.val v) v
  | nil (tg : Bool) (sz : Nat) (a : Option Addr) (cap : Nat) : RV B I bs w (.list tg sz []) (.slice a 0 cap)
  | list {tg : Bool} {sz : Nat} {xs : List AVal} {b o cap : Nat} {cs : Array Value} {T : TypeId} {fr : Nat × Nat} (hI : I b) (hN : tg = true → bs ≤ b) (hsz : 0 < sz) (hl : ∀ x ∈ xs, x.cells.length = sz)
      (hb : w.heap[b]? = some (.cells cs T fr)) (ho : o + xs.length * sz ≤ cs.size)
      (hc : ∀ i j, i < xs.length → j < sz → RV B I bs w ((xs.getD i .any).cells.getD j .any) (cs.getD (o + i * sz + j) undef))
      (h1 : ∀ i j, i < xs.length → j < sz → (cs.getD (o + i * sz + j) undef).oneCell' = true) (hcap : xs.length ≤ cap) :
      RV B I bs w (.list tg sz xs) (.slice (some ⟨b, o, none⟩) xs.length cap)
  | row {l ver off len : Nat} {x : BI} (hB : B l ver = some x) (hr : x.real = true) (ho : off + len ≤ x.C) :
      RV B I bs w (.row l ver off len) (.slice (some ⟨x.b, off * x.sz, none⟩) len (x.C - off))
  | rowEnd {l ver off cap : Nat} {x : BI} {a : Option Addr} (hB : B l ver = some x) (hr : x.real = true) (ho : off = x.C) (hc : cap = 0) : RV B I bs w (.row l ver off 0) (.slice a 0 cap)
  | rowNil {l ver : Nat} {x : BI} {a : Option Addr} (hB : B l ver = some x) (hr : x.real = false) : RV B I bs w (.row l ver 0 0) (.slice a 0 0)
  | agg {cs : List AVal} {vs : Array Value} (hl : cs.length = vs.size) (hc : ∀ k, k < cs.length → RV B I bs w (cs.getD k .any) (vs.getD k undef)) : RV B I bs w (.agg cs) (.agg vs)
  | ptr {l ver i j : Nat} {x : BI} (hB : B l ver = some x) (hr : x.real = true) : RV B I bs w (.ptr l ver i j) (.pointer (some ⟨x.b, i * x.sz + j, none⟩))
  | eptr {cs : List AVal} {j b o : Nat} {vs : Array Value} {T : TypeId} {fr : Nat × Nat} (hI : I b) (hb : w.heap[b]? = some (.cells vs T fr)) (ho : o + cs.length ≤ vs.size)
      (hc : ∀ k, k < cs.length → RV B I bs w (cs.getD k .any) (vs.getD (o + k) undef)) : RV B I bs w (.eptr cs j) (.pointer (some ⟨b, o + j, none⟩))
  | map {l : Nat} {x : BI} (hB : B l 0 = some x) : RV B I bs w (.map l) (mapV x)
  | func {f : Fn} {first caps : List AVal} {fv cv : Array Value} (h1 : first.length = fv.size) (h2 : caps.length = cv.size)
      (hf : ∀ k, k < first.length → RV B I bs w (first.getD k .any) (fv.getD k undef)) (hc : ∀ k, k < caps.length → RV B I bs w (caps.getD k .any) (cv.getD k undef)) :
      RV B I bs w (.func f first caps) (.func f fv cv)
  | tuple {as : List AVal} {vs : Array Value} (hl : as.length = vs.size) (hc : ∀ k, k < as.length → RV B I bs w (as.getD k .any) (vs.getD k undef)) : RV B I bs w (.tuple as) (.tuple vs)
  | iface {t : TypeId} {a : AVal} {v : Value} (h : RV B I bs w a v) : RV B I bs w (.iface t a) (.iface t v)

theorem RV.mono {B B' : BMap} {I I' : Nat → Prop} {bs bs' : Nat} {w w' : World} {a : AVal} {v : Value} (h : RV B I bs w a v)
    (hB : ∀ l ver x, B l ver = some x → B' l ver = some x) (hI : ∀ b, I b → I' b) (hw : ∀ b, I b → w'.heap[b]? = w.heap[b]?) (hbs : bs' ≤ bs) : RV B' I' bs' w' a v := by
  induction h with
  | any v => exact .any v
  | val v => exact .val v
  | nil tg sz a cap => exact .nil tg sz a cap
  | list hIb hN hsz hl hb ho _ h1 hcap ih => exact .list (hI _ hIb) (fun h => Nat.le_trans hbs (hN h)) hsz hl ((hw _ hIb).trans hb) ho ih h1 hcap
  | row h1 hr ho => exact .row (hB _ _ _ h1) hr ho
  | rowEnd h1 hr ho hc => exact .rowEnd (hB _ _ _ h1) hr ho hc
  | rowNil h1 hr => exact .rowNil (hB _ _ _ h1) hr
  | agg hl _ ih => exact .agg hl ih
  | ptr h1 hr => exact .ptr (hB _ _ _ h1) hr
  | eptr hIb hb ho _ ih => exact .eptr (hI _ hIb) ((hw _ hIb).trans hb) ho ih
  | map h1 => exact .map (hB _ _ _ h1)
  | func h1 h2 _ _ i1 i2 => exact .func h1 h2 i1 i2
  | tuple hl _ ih => exact .tuple hl ih
  | iface _ ih => exact .iface ih

/-- The cells of a related value are related. -/
theorem RV.cells {B : BMap} {I : Nat → Prop} {bs : Nat} {w : World} {a : AVal} {v : Value} (h : RV B I bs w a v) (ha : a ≠ .any) (hv : ∀ v', a ≠ .val v') :
    a.cells.length = v.cells.size ∧ ∀ k, k < a.cells.length → RV B I bs w (a.cells.getD k .any) (v.cells.getD k undef) := by
  have one : ∀ {a : AVal} {v : Value}, RV B I bs w a v → a.cells = [a] → v.cells = #[v] → a.cells.length = v.cells.size ∧ ∀ k, k < a.cells.length → RV B I bs w (a.cells.getD k .any) (v.cells.getD k undef) := by
    intro a v h e1 e2
    rw [e1, e2]
    refine ⟨rfl, fun k hk => ?_⟩
    have : k = 0 := by simpa using hk
    subst this
    simpa using h
  cases h with
  | any v => exact absurd rfl ha
  | val v => exact absurd rfl (hv v)
  | agg hl hc => exact ⟨hl, hc⟩
  | nil tg sz a cap => exact one (.nil tg sz a cap) rfl rfl
  | list h1 h2 h3 h4 h5 h6 h7 h8 h9 => exact one (.list h1 h2 h3 h4 h5 h6 h7 h8 h9) rfl rfl
  | row h1 h2 h3 => exact one (.row h1 h2 h3) rfl rfl
  | rowEnd h1 h2 h3 h4 => exact one (.rowEnd h1 h2 h3 h4) rfl rfl
  | rowNil h1 h2 => exact one (.rowNil h1 h2) rfl rfl
  | ptr h1 h2 => exact one (.ptr h1 h2) rfl rfl
  | eptr h1 h2 h3 h4 => exact one (.eptr h1 h2 h3 h4) rfl rfl
  | map h1 => exact one (.map h1) rfl (mapV_cells _)
  | func h1 h2 h3 h4 => exact one (.func h1 h2 h3 h4) rfl rfl
  | tuple h1 h2 => exact one (.tuple h1 h2) rfl rfl
  | iface h1 => exact one (.iface h1) rfl rfl

/-- Is a slot of the store without an object? -/
def Dead (σ : List AObj) (l : Nat) : Prop := σ[l]? = none ∨ σ[l]? = some .gone

/-- The block of an object, as it is now. -/
def Cur (B : BMap) (σ : List AObj) (l : Nat) : Option Nat :=
  match σ[l]? with
  | some (.row ver _ _) => (B l ver).bind fun x => if x.real then some x.b else none
  | some (.map _ _) => (B l 0).map (·.b)
  | _ => none

structure RowOk (B : BMap) (I : Nat → Prop) (bs : Nat) (w : World) (l ver sz : Nat) (xs : List AVal) (x : BI) : Prop where
  at_ : B l ver = some x
  hsz : x.sz = sz
  pos : 0 < sz
  fits : xs.length ≤ x.C
  each : ∀ y ∈ xs, y.cells.length = sz
  virt : x.real = false → x.C = 0
  real : x.real = true → ∃ cs T, w.heap[x.b]? = some (.cells cs T (0, 0)) ∧ cs.size = x.C * sz ∧
    ∀ i j, i < xs.length → j < sz → RV B I bs w ((xs.getD i .any).cells.getD j .any) (cs.getD (i * sz + j) undef) ∧ (cs.getD (i * sz + j) undef).oneCell' = true

structure MapOk (B : BMap) (I : Nat → Prop) (bs : Nat) (w : World) (l : Nat) (es : List (AVal × AVal)) (clock : MK) (x : BI) : Prop where
  at_ : B l 0 = some x
  map : ∃ o ms, w.heap[x.b]? = some o ∧ MRep x clock o ms ∧ ms.size = es.length ∧ ∀ i (h : i < es.length) (h' : i < ms.size), RV B I bs w es[i].1 ms[i].key ∧ RV B I bs w es[i].2 ms[i].val

/-- The laid variables hold what they were given, and nobody writes them. -/
def GlobOk (I : Nat → Prop) (w : World) : Prop := ∀ g vs, GT g = some vs → I g ∧ ∃ T fr, w.heap[g]? = some (.cells vs T fr)

theorem GlobOk.mono {I I' : Nat → Prop} {w w' : World} (h : GlobOk I w) (hI : ∀ b, I b → I' b) (hw : ∀ b, I b → w'.heap[b]? = w.heap[b]?) : GlobOk I' w' := fun g vs e =>
  ⟨hI _ (h g vs e).1, by rw [hw _ (h g vs e).1]; exact (h g vs e).2⟩

/-- The world is as the abstract store says. -/
structure SR (B : BMap) (I : Nat → Prop) (bs : Nat) (σ : List AObj) (w : World) : Prop where
  row : ∀ l ver sz xs, σ[l]? = some (.row ver sz xs) → ∃ x, RowOk B I bs w l ver sz xs x
  map : ∀ l es (clock : MK), σ[l]? = some (.map es clock) → ∃ x, MapOk B I bs w l es clock x
  dead : ∀ l, Dead σ l → ∀ ver, B l ver = none
  sep : ∀ l l' b, Cur B σ l = some b → Cur B σ l' = some b → l = l'
  imm : ∀ l b, Cur B σ l = some b → ¬ I b
  lt : ∀ l b, Cur B σ l = some b → b < w.heap.size
  icells : ∀ b, I b → ∃ cs T fr, w.heap[b]? = some (.cells cs T fr)
  gl : GlobOk I w
  vlt : ∀ l ver x, B l ver = some x → x.real = true → x.b < w.heap.size
  bsle : bs ≤ w.heap.size
  cbs : ∀ l b, Cur B σ l = some b → bs ≤ b
  vmono : ∀ l v sz xs ver x, σ[l]? = some (.row v sz xs) → B l ver = some x → ver ≤ v

theorem SR.ilt {B : BMap} {I : Nat → Prop} {bs : Nat} {σ : List AObj} {w : World} (h : SR B I bs σ w) (b : Nat) (hb : I b) : b < w.heap.size := by
  obtain ⟨cs, T, fr, e⟩ := h.icells b hb
  exact (Array.getElem?_eq_some_iff.1 e).1

end Go.Abs

/- The abstract layer, part 2: how the relation stands when the world is changed. -/
namespace Go.Abs
open Go Go.RowKit

theorem RV.of_heap {B : BMap} {I : Nat → Prop} {bs : Nat} {w w' : World} {a : AVal} {v : Value} (h : RV B I bs w a v) (hw : w'.heap = w.heap) : RV B I bs w' a v :=
  h.mono (fun _ _ _ h => h) (fun _ h => h) (fun _ _ => by rw [hw]) (Nat.le_refl _)

theorem RowOk.mono {B B' : BMap} {I I' : Nat → Prop} {bs bs' : Nat} {w w' : World} {l ver sz : Nat} {xs : List AVal} {x : BI} (h : RowOk B I bs w l ver sz xs x)
    (hB : ∀ l ver x, B l ver = some x → B' l ver = some x) (hI : ∀ b, I b → I' b) (hw : ∀ b, I b → w'.heap[b]? = w.heap[b]?) (hbs : bs' ≤ bs)
    (hb : x.real = true → w'.heap[x.b]? = w.heap[x.b]?) : RowOk B' I' bs' w' l ver sz xs x :=
  ⟨hB _ _ _ h.at_, h.hsz, h.pos, h.fits, h.each, h.virt, fun hr => by
    obtain ⟨cs, T, h1, h2, h3⟩ := h.real hr
    exact ⟨cs, T, (hb hr).trans h1, h2, fun i j hi hj => ⟨(h3 i j hi hj).1.mono hB hI hw hbs, (h3 i j hi hj).2⟩⟩⟩

theorem MapOk.mono {B B' : BMap} {I I' : Nat → Prop} {bs bs' : Nat} {w w' : World} {l : Nat} {es : List (AVal × AVal)} {ck : MK} {x : BI} (h : MapOk B I bs w l es ck x)
    (hB : ∀ l ver x, B l ver = some x → B' l ver = some x) (hI : ∀ b, I b → I' b) (hw : ∀ b, I b → w'.heap[b]? = w.heap[b]?) (hbs : bs' ≤ bs)
    (hb : w'.heap[x.b]? = w.heap[x.b]?) : MapOk B' I' bs' w' l es ck x :=
  ⟨hB _ _ _ h.at_, by
    obtain ⟨o, ms, h1, h4, h2, h3⟩ := h.map
    exact ⟨o, ms, hb.trans h1, h4, h2, fun i hi hi' => ⟨(h3 i hi hi').1.mono hB hI hw hbs, (h3 i hi hi').2.mono hB hI hw hbs⟩⟩⟩

theorem RowOk.cur {B : BMap} {I : Nat → Prop} {bs : Nat} {w : World} {σ : List AObj} {l ver sz : Nat} {xs : List AVal} {x : BI} (h : RowOk B I bs w l ver sz xs x)
    (hσ : σ[l]? = some (.row ver sz xs)) (hr : x.real = true) : Cur B σ l = some x.b := by
  simp [Cur, hσ, h.at_, hr]

theorem RowOk.curNone {B : BMap} {I : Nat → Prop} {bs : Nat} {w : World} {σ : List AObj} {l ver sz : Nat} {xs : List AVal} {x : BI} (h : RowOk B I bs w l ver sz xs x)
    (hσ : σ[l]? = some (.row ver sz xs)) (hr : x.real = false) : Cur B σ l = none := by
  simp [Cur, hσ, h.at_, hr]

theorem MapOk.cur {B : BMap} {I : Nat → Prop} {bs : Nat} {w : World} {σ : List AObj} {l : Nat} {es : List (AVal × AVal)} {ck : MK} {x : BI} (h : MapOk B I bs w l es ck x)
    (hσ : σ[l]? = some (.map es ck)) : Cur B σ l = some x.b := by
  simp [Cur, hσ, h.at_]

theorem SR.of_heap {B : BMap} {I : Nat → Prop} {bs : Nat} {σ : List AObj} {w w' : World} (h : SR B I bs σ w) (hw : w'.heap = w.heap) : SR B I bs σ w' where
  row l ver sz xs hl := let ⟨x, hx⟩ := h.row l ver sz xs hl; ⟨x, hx.mono (fun _ _ _ h => h) (fun _ h => h) (fun _ _ => by rw [hw]) (Nat.le_refl _) (fun _ => by rw [hw])⟩
  map l es ck hl := let ⟨x, hx⟩ := h.map l es ck hl; ⟨x, hx.mono (fun _ _ _ h => h) (fun _ h => h) (fun _ _ => by rw [hw]) (Nat.le_refl _) (by rw [hw])⟩
  dead := h.dead
  sep := h.sep
  imm := h.imm
  lt l b hb := by rw [hw]; exact h.lt l b hb
  icells b hb := by rw [hw]; exact h.icells b hb
  gl := h.gl.mono (fun _ h => h) fun _ _ => by rw [hw]
  vlt l ver x hb hr := by rw [hw]; exact h.vlt l ver x hb hr
  bsle := by rw [hw]; exact h.bsle
  cbs := h.cbs
  vmono := h.vmono

/-- A slot more, without an object. -/
theorem SR.push_gone {B : BMap} {I : Nat → Prop} {bs : Nat} {σ : List AObj} {w : World} (h : SR B I bs σ w) : SR B I bs (σ ++ [.gone]) w := by
  have key : ∀ (l : Nat) (o : AObj), o ≠ AObj.gone → ((σ ++ [AObj.gone])[l]? = some o ↔ σ[l]? = some o) := by
    intro l o ho
    rcases Nat.lt_trichotomy l σ.length with hl | hl | hl
    · rw [List.getElem?_append_left hl]
    · subst hl
      simp
      exact fun h => ho h.symm
    · rw [List.getElem?_append_right (by omega), List.getElem?_eq_none (by simp; omega), List.getElem?_eq_none (by omega)]
  have kd : ∀ l : Nat, Dead (σ ++ [AObj.gone]) l → Dead σ l := by
    intro l hd
    rcases Nat.lt_or_ge l σ.length with hl | hl
    · rw [Dead, List.getElem?_append_left hl] at hd; exact hd
    · exact .inl (List.getElem?_eq_none hl)
  have kc : ∀ l : Nat, Cur B (σ ++ [AObj.gone]) l = Cur B σ l := by
    intro l
    rcases Nat.lt_or_ge l σ.length with hl | hl
    · simp only [Cur, List.getElem?_append_left hl]
    · have e1 : σ[l]? = none := List.getElem?_eq_none hl
      rcases Nat.lt_or_ge σ.length l with hl' | hl'
      · have e2 : (σ ++ [AObj.gone])[l]? = none := List.getElem?_eq_none (by simp; omega)
        simp only [Cur, e1, e2]
      · have : l = σ.length := by omega
        subst this
        have e2 : (σ ++ [AObj.gone])[σ.length]? = some .gone := by simp
        simp only [Cur, e1, e2]
  exact {
    row := fun l ver sz xs hl => h.row l ver sz xs ((key l _ (by simp)).1 hl)
    map := fun l es ck hl => h.map l es ck ((key l _ (by simp)).1 hl)
    dead := fun l hd => h.dead l (kd l hd)
    sep := fun l l' b h1 h2 => h.sep l l' b (by rw [← kc]; exact h1) (by rw [← kc]; exact h2)
    imm := fun l b h1 => h.imm l b (by rw [← kc]; exact h1)
    lt := fun l b h1 => h.lt l b (by rw [← kc]; exact h1)
    icells := h.icells
    gl := h.gl
    vlt := h.vlt
    bsle := h.bsle
    cbs := fun l b h1 => h.cbs l b (by rw [← kc]; exact h1)
    vmono := fun l v sz xs ver x hl => h.vmono l v sz xs ver x ((key l _ (by simp)).1 hl) }

def BMap.upd (B : BMap) (l ver : Nat) (x : BI) : BMap := fun l' v' => if l' = l ∧ v' = ver then some x else B l' v'

theorem BMap.upd_self (B : BMap) (l ver : Nat) (x : BI) : B.upd l ver x l ver = some x := by simp [BMap.upd]
theorem BMap.upd_ne (B : BMap) {l ver : Nat} (x : BI) {l' v' : Nat} (h : l' ≠ l) : B.upd l ver x l' v' = B l' v' := by simp [BMap.upd, h]
theorem BMap.upd_mono (B : BMap) {l ver : Nat} {x : BI} (h : B l ver = none ∨ B l ver = some x) {l' v' : Nat} {y : BI} (hy : B l' v' = some y) : B.upd l ver x l' v' = some y := by
  unfold BMap.upd
  split
  · rename_i e
    obtain ⟨rfl, rfl⟩ := e
    rcases h with h | h
    · rw [h] at hy; cases hy
    · rw [h] at hy; exact hy
  · exact hy

theorem set_get {σ : List AObj} {l : Nat} {o o' : AObj} (hl : l < σ.length) : ∀ l', (σ.set l o)[l']? = some o' → (l' = l ∧ o' = o) ∨ (l' ≠ l ∧ σ[l']? = some o') := by
  intro l' h
  by_cases e : l' = l
  · subst e
    rw [List.getElem?_set_self hl] at h
    exact .inl ⟨rfl, (Option.some.inj h).symm⟩
  · rw [List.getElem?_set_ne (fun h => e h.symm)] at h
    exact .inr ⟨e, h⟩

/-- THE ROW OF A SLOT IS MADE ANEW: in a block of its own (which was the slot's, or is new); all other blocks that are looked at stay. -/
theorem SR.setRow {B : BMap} {I : Nat → Prop} {bs : Nat} {σ : List AObj} {w w' : World} (h : SR B I bs σ w) {l ver sz : Nat} {xs : List AVal} {x : BI} (hl : l < σ.length)
    (hB : B l ver = none ∨ B l ver = some x)
    (hold : ∀ v y, B l v = some y → v ≤ ver)
    (hsize : w.heap.size ≤ w'.heap.size)
    (hkeep : ∀ b, b < w.heap.size → b ≠ x.b ∨ x.real = false → w'.heap[b]? = w.heap[b]?)
    (hfree : x.real = true → Cur B σ l = some x.b ∨ w.heap.size ≤ x.b)
    (hxb : x.real = true → x.b < w'.heap.size)
    (hok : RowOk (B.upd l ver x) I bs w' l ver sz xs x) : SR (B.upd l ver x) I bs (σ.set l (.row ver sz xs)) w' := by
  have hup : ∀ l ver' y, B l ver' = some y → B.upd _ _ x l ver' = some y := fun _ _ _ hy => BMap.upd_mono B hB hy
  have hIk : ∀ b, I b → w'.heap[b]? = w.heap[b]? := by
    intro b hb
    refine hkeep b (h.ilt b hb) ?_
    cases hr : x.real with
    | false => exact .inr rfl
    | true =>
      refine .inl fun e => ?_
      subst e
      rcases hfree hr with hc | hc
      · exact h.imm _ _ hc hb
      · have := h.ilt _ hb; omega
  have hother : ∀ l' b, l' ≠ l → Cur B σ l' = some b → w'.heap[b]? = w.heap[b]? := by
    intro l' b hne hc
    refine hkeep b (h.lt _ _ hc) ?_
    cases hr : x.real with
    | false => exact .inr rfl
    | true =>
      refine .inl fun e => ?_
      subst e
      rcases hfree hr with hc' | hc'
      · exact hne (h.sep _ _ _ hc hc')
      · have := h.lt _ _ hc; omega
  have cne : ∀ l', l' ≠ l → Cur (B.upd l ver x) (σ.set l (.row ver sz xs)) l' = Cur B σ l' := by
    intro l' hne
    have e : (σ.set l (.row ver sz xs))[l']? = σ[l']? := List.getElem?_set_ne (fun h => hne h.symm)
    simp only [Cur, e]
    cases σ[l']? with
    | none => rfl
    | some o => cases o <;> simp [BMap.upd_ne B x hne]
  have cself : Cur (B.upd l ver x) (σ.set l (.row ver sz xs)) l = if x.real then some x.b else none := by
    simp [Cur, List.getElem?_set_self hl, BMap.upd_self]
  have cb : ∀ l' b, Cur (B.upd l ver x) (σ.set l (.row ver sz xs)) l' = some b → (l' = l ∧ x.real = true ∧ b = x.b) ∨ (l' ≠ l ∧ Cur B σ l' = some b) := by
    intro l' b hc
    by_cases e : l' = l
    · subst e
      rw [cself] at hc
      cases hr : x.real with
      | false => simp [hr] at hc
      | true => simp only [hr, if_true, Option.some.injEq] at hc; exact .inl ⟨rfl, rfl, hc.symm⟩
    · rw [cne l' e] at hc; exact .inr ⟨e, hc⟩
  refine { row := ?_, map := ?_, dead := ?_, sep := ?_, imm := ?_, lt := ?_, icells := ?_, gl := h.gl.mono (fun _ h => h) hIk, vlt := ?_, bsle := Nat.le_trans h.bsle hsize, cbs := ?_, vmono := ?_ }
  · intro l' ver' sz' xs' hl'
    rcases set_get hl l' hl' with ⟨rfl, e⟩ | ⟨hne, hl''⟩
    · cases e; exact ⟨x, hok⟩
    · obtain ⟨y, hy⟩ := h.row _ _ _ _ hl''
      exact ⟨y, hy.mono hup (fun _ hb => hb) hIk (Nat.le_refl _) fun hr => hother l' _ hne (hy.cur hl'' hr)⟩
  · intro l' es ck hl'
    rcases set_get hl l' hl' with ⟨rfl, e⟩ | ⟨hne, hl''⟩
    · cases e
    · obtain ⟨y, hy⟩ := h.map _ _ _ hl''
      exact ⟨y, hy.mono hup (fun _ hb => hb) hIk (Nat.le_refl _) (hother l' _ hne (hy.cur hl''))⟩
  · intro l' hd ver'
    by_cases e : l' = l
    · subst e
      simp [Dead, List.getElem?_set_self hl] at hd
    · rw [BMap.upd_ne B x e]
      refine h.dead l' ?_ ver'
      rwa [Dead, List.getElem?_set_ne (fun h => e h.symm)] at hd
  · intro l1 l2 b h1 h2
    rcases cb _ _ h1 with ⟨rfl, hr, rfl⟩ | ⟨n1, c1⟩ <;> rcases cb _ _ h2 with ⟨rfl, hr2, e2⟩ | ⟨n2, c2⟩
    · rfl
    · rcases hfree hr with hc | hc
      · exact h.sep _ _ _ hc c2
      · have := h.lt _ _ c2; omega
    · rcases hfree hr2 with hc | hc
      · exact h.sep _ _ _ c1 (e2 ▸ hc)
      · have := h.lt _ _ c1; omega
    · exact h.sep _ _ _ c1 c2
  · intro l' b hc hb
    rcases cb _ _ hc with ⟨rfl, hr, rfl⟩ | ⟨n1, c1⟩
    · rcases hfree hr with hc | hc
      · exact h.imm _ _ hc hb
      · have := h.ilt _ hb; omega
    · exact h.imm _ _ c1 hb
  · intro l' b hc
    rcases cb _ _ hc with ⟨rfl, hr, rfl⟩ | ⟨n1, c1⟩
    · exact hxb hr
    · exact Nat.lt_of_lt_of_le (h.lt _ _ c1) hsize
  · exact fun b hb => by rw [hIk b hb]; exact h.icells b hb
  · intro l' ver' y hy hr
    unfold BMap.upd at hy
    split at hy
    · cases hy; exact hxb hr
    · exact Nat.lt_of_lt_of_le (h.vlt _ _ _ hy hr) hsize
  · intro l' b hc
    rcases cb _ _ hc with ⟨rfl, hr, rfl⟩ | ⟨n1, c1⟩
    · rcases hfree hr with hc | hc
      · exact h.cbs _ _ hc
      · exact Nat.le_trans h.bsle hc
    · exact h.cbs _ _ c1
  · intro l' v sz' xs' ver' y hl' hy
    rcases set_get hl l' hl' with ⟨rfl, e⟩ | ⟨hne, hl''⟩
    · cases e
      unfold BMap.upd at hy
      split at hy
      · rename_i e; omega
      · exact hold _ _ hy
    · rw [BMap.upd_ne B x hne] at hy
      exact h.vmono _ _ _ _ _ _ hl'' hy

/-- What code may do to the world and the store: blocks that the store does not own stay. m: the slots below it are the caller's. -/
structure Ext (m : Nat) (B : BMap) (I : Nat → Prop) (σ : List AObj) (w : World) (B' : BMap) (I' : Nat → Prop) (σ' : List AObj) (w' : World) : Prop where
  os : w'.os = w.os
  tape : w'.tape = w.tape
  output : w'.output = w.output
  size : w.heap.size ≤ w'.heap.size
  block : ∀ b, b < w.heap.size → (∀ l, Cur B σ l ≠ some b) → w'.heap[b]? = w.heap[b]?
  bmap : ∀ l ver x, l < m → B l ver = some x → B' l ver = some x
  imono : ∀ b, I b → I' b
  inew : ∀ b, I' b → I b ∨ (∃ l, m ≤ l ∧ Cur B σ l = some b) ∨ w.heap.size ≤ b
  own : ∀ l b, Cur B' σ' l = some b → w.heap.size ≤ b ∨ (l < m ∧ Cur B σ l = some b) ∨ (m ≤ l ∧ ∃ l0, m ≤ l0 ∧ Cur B σ l0 = some b)

theorem Ext.refl (m : Nat) (B : BMap) (I : Nat → Prop) (σ : List AObj) (w : World) : Ext m B I σ w B I σ w :=
  ⟨rfl, rfl, rfl, Nat.le_refl _, fun _ _ _ => rfl, fun _ _ _ _ h => h, fun _ h => h, fun _ h => .inl h, fun l b h => by
    rcases Nat.lt_or_ge l m with hl | hl
    · exact .inr (.inl ⟨hl, h⟩)
    · exact .inr (.inr ⟨hl, l, hl, h⟩)⟩

theorem Ext.trans {m : Nat} {B B' B'' : BMap} {I I' I'' : Nat → Prop} {σ σ' σ'' : List AObj} {w w' w'' : World}
    (h : Ext m B I σ w B' I' σ' w') (k : Ext m B' I' σ' w' B'' I'' σ'' w'') : Ext m B I σ w B'' I'' σ'' w'' where
  os := k.os.trans h.os
  tape := k.tape.trans h.tape
  output := k.output.trans h.output
  size := Nat.le_trans h.size k.size
  block b hb hn := by
    refine (k.block b (Nat.lt_of_lt_of_le hb h.size) fun l hl => ?_).trans (h.block b hb hn)
    rcases h.own l b hl with h1 | ⟨_, h1⟩ | ⟨_, l0, _, h1⟩
    · omega
    · exact hn _ h1
    · exact hn _ h1
  bmap l ver x hl hx := k.bmap l ver x hl (h.bmap l ver x hl hx)
  imono b hb := k.imono b (h.imono b hb)
  inew b hb := by
    rcases k.inew b hb with h1 | ⟨l, hl, h1⟩ | h1
    · exact h.inew b h1
    · rcases h.own l b h1 with h2 | ⟨h2, _⟩ | ⟨_, l0, h3, h2⟩
      · exact .inr (.inr h2)
      · omega
      · exact .inr (.inl ⟨l0, h3, h2⟩)
    · exact .inr (.inr (Nat.le_trans h.size h1))
  own l b hl := by
    rcases k.own l b hl with h1 | ⟨h0, h1⟩ | ⟨h0, l0, hm, h1⟩
    · exact .inl (Nat.le_trans h.size h1)
    · rcases h.own l b h1 with h2 | h2 | ⟨h2, _⟩
      · exact .inl h2
      · exact .inr (.inl h2)
      · omega
    · rcases h.own l0 b h1 with h2 | ⟨h2, _⟩ | ⟨_, l1, h3, h4⟩
      · exact .inl h2
      · omega
      · exact .inr (.inr ⟨h0, l1, h3, h4⟩)

/-- Only the world's count of draws has moved. -/
theorem Ext.of_heap {m : Nat} {B : BMap} {I : Nat → Prop} {σ : List AObj} {w w' : World} (h1 : w'.os = w.os) (h2 : w'.tape = w.tape) (h3 : w'.output = w.output) (h4 : w'.heap = w.heap) :
    Ext m B I σ w B I σ w' :=
  ⟨h1, h2, h3, by rw [h4]; exact Nat.le_refl _, fun _ _ _ => by rw [h4], fun _ _ _ _ h => h, fun _ h => h, fun _ h => .inl h, fun l b h => by
    rcases Nat.lt_or_ge l m with hl | hl
    · exact .inr (.inl ⟨hl, h⟩)
    · exact .inr (.inr ⟨hl, l, hl, h⟩)⟩

/-- What a caller knows is known still. -/
theorem RV.ext {m : Nat} {B B' : BMap} {I I' : Nat → Prop} {bs : Nat} {σ σ' : List AObj} {w w' : World} {a : AVal} {v : Value} (h : RV B I bs w a v) (hs : SR B I bs σ w)
    (he : Ext m B I σ w B' I' σ' w') (hB : ∀ l ver x, B l ver = some x → B' l ver = some x) : RV B' I' bs w' a v :=
  h.mono hB he.imono (fun b hb => he.block b (hs.ilt b hb) fun l hl => hs.imm l b hl hb) (Nat.le_refl _)

end Go.Abs

/- The abstract layer, part 3: frames, code, the rules of control. -/
namespace Go.Abs
open Go Go.RowKit

abbrev Env := List (Nat × AVal)

def Env.get : Env → Nat → AVal
  | [], _ => .any
  | (k, v) :: r, t => if k = t then v else Env.get r t

def Env.put (env : Env) : Option Tmp → AVal → Env
  | some d, v => (d, v) :: env
  | none, _ => env

/-- The part of a frame that is named. -/
def Env.keep (env : Env) (ts : List Nat) : Env := ts.map fun t => (t, env.get t)

def aeval (env : Env) : Operand → AVal
  | .tmp t => env.get t
  | .const v => .val v
  | .global g => match GT g with
    | some vs => .eptr (vs.toList.map .val) 0
    | none => .val (.pointer (some ⟨g, 0, none⟩))
  | .func f => .func (.func f) [] []

def EnvR (B : BMap) (I : Nat → Prop) (bs : Nat) (w : World) (env : Env) (tmps : Array Value) : Prop :=
  ∀ t, RV B I bs w (env.get t) (tmps.getD t undef)

/-- The marks that loops over functions leave among the deferred calls. -/
inductive Marks (h0 : Nat) (w : World) : List Deferred → Prop
  | nil (h : h0 ≤ w.heap.size) : Marks h0 w []
  | cons {r : Nat} {ds : List Deferred} (h : w.heap[r]? = some (.deferred (some []))) (hr : h0 ≤ r) (hd : ∀ d ∈ ds, d.target ≠ .collected r) (ht : Marks h0 w ds) :
      Marks h0 w ({ target := .collected r, args := #[] } :: ds)

/-- What stands fast while a function's body runs: the program, the round, the number of temporaries, the slots that are the caller's, the heap's size at the begin of what is looked at, and at the begin of this very body. -/
structure Cx where
  P : Program
  rd : Option Nat
  N : Nat
  m : Nat
  bs : Nat
  h0 : Nat

structure St (cx : Cx) (B : BMap) (I : Nat → Prop) (env : Env) (σ : List AObj) (a : Act) (w : World) : Prop where
  size : a.tmps.size = cx.N
  env : EnvR B I cx.bs w env a.tmps
  sr : SR B I cx.bs σ w
  marks : Marks cx.h0 w a.defers

theorem SR.curCells {B : BMap} {I : Nat → Prop} {bs : Nat} {σ : List AObj} {w : World} (h : SR B I bs σ w) {l b : Nat} (hc : Cur B σ l = some b) :
    (∃ cs T, w.heap[b]? = some (.cells cs T (0, 0))) ∨ (∃ ms ck, w.heap[b]? = some (.map ms ck)) ∨ ∃ r, w.heap[b]? = some (.loop r) := by
  unfold Cur at hc
  split at hc
  · rename_i ver sz xs hl
    obtain ⟨x, hx⟩ := h.row _ _ _ _ hl
    rw [hx.at_] at hc
    cases hr : x.real with
    | false => simp [hr] at hc
    | true =>
      simp only [Option.bind_some, hr, if_true, Option.some.injEq] at hc
      subst hc
      obtain ⟨cs, T, h1, _⟩ := hx.real hr
      exact .inl ⟨cs, T, h1⟩
  · rename_i es ck hl
    obtain ⟨x, hx⟩ := h.map _ _ _ hl
    rw [hx.at_] at hc
    simp only [Option.map_some, Option.some.injEq] at hc
    subst hc
    obtain ⟨o, ms, h1, h2, _⟩ := hx.map
    cases ck with
    | plain c => obtain ⟨_, rfl, _⟩ := h2; exact .inr (.inl ⟨ms, c, h1⟩)
    | loop => obtain ⟨_, r, rfl, _⟩ := h2; exact .inr (.inr ⟨r, h1⟩)
  · cases hc

theorem Marks.le {h0 : Nat} {w : World} {ds : List Deferred} (h : Marks h0 w ds) : h0 ≤ w.heap.size := by
  induction h with
  | nil h => exact h
  | cons _ _ _ _ ih => exact ih

theorem Marks.fresh {h0 : Nat} {w : World} {ds : List Deferred} (h : Marks h0 w ds) : ∀ d ∈ ds, d.target ≠ .collected w.heap.size := by
  induction h with
  | nil h => intro d hd; cases hd
  | cons h1 h3 h2 _ ih =>
    intro d hd
    rcases List.mem_cons.1 hd with rfl | hd
    · intro e
      cases e
      have := (Array.getElem?_eq_some_iff.1 h1).1
      omega
    · exact ih d hd

theorem Marks.ext {m : Nat} {B B' : BMap} {I I' : Nat → Prop} {bs : Nat} {σ σ' : List AObj} {w w' : World} {ds : List Deferred} {h0 : Nat} (h : Marks h0 w ds) (hs : SR B I bs σ w)
    (he : Ext m B I σ w B' I' σ' w') : Marks h0 w' ds := by
  induction h with
  | nil h => exact .nil (Nat.le_trans h he.size)
  | cons h1 h3 h2 _ ih =>
    refine .cons ((he.block _ (Array.getElem?_eq_some_iff.1 h1).1 fun l hl => ?_).trans h1) h3 h2 ih
    rcases hs.curCells hl with ⟨cs, T, e⟩ | ⟨ms, ck, e⟩ | ⟨r, e⟩ <;> rw [h1] at e <;> cases e

theorem EnvR.ext {m : Nat} {B B' : BMap} {I I' : Nat → Prop} {bs : Nat} {σ σ' : List AObj} {w w' : World} {env : Env} {ts : Array Value} (h : EnvR B I bs w env ts) (hs : SR B I bs σ w)
    (he : Ext m B I σ w B' I' σ' w') (hB : ∀ l ver x, B l ver = some x → B' l ver = some x) : EnvR B' I' bs w' env ts :=
  fun t => (h t).ext hs he hB

theorem EnvR.put {B : BMap} {I : Nat → Prop} {bs : Nat} {w : World} {env : Env} {ts : Array Value} (h : EnvR B I bs w env ts) {d : Nat} (hd : d < ts.size) {av : AVal} {v : Value} (hv : RV B I bs w av v) :
    EnvR B I bs w ((d, av) :: env) (ts.setIfInBounds d v) := by
  intro t
  simp only [Env.get]
  split
  · rename_i e; subst e
    rw [Array.getD_eq_getD_getElem?, Array.getElem?_setIfInBounds_self_of_lt hd]
    exact hv
  · rename_i e
    rw [Array.getD_eq_getD_getElem?, Array.getElem?_setIfInBounds_ne e, ← Array.getD_eq_getD_getElem?]
    exact h t

theorem EnvR.eval {B : BMap} {I : Nat → Prop} {bs : Nat} {w : World} {env : Env} {a : Act} (h : EnvR B I bs w env a.tmps) (hg : GlobOk I w) (x : Operand) : RV B I bs w (aeval env x) (a.eval x) := by
  cases x with
  | tmp t => exact h t
  | const v => exact .val v
  | global g =>
    simp only [aeval]
    split
    · rename_i vs hvs
      obtain ⟨h1, T, fr, h2⟩ := hg g vs hvs
      refine .eptr (o := 0) h1 h2 (by simp) fun k hk => ?_
      have hk' : k < vs.size := by simpa using hk
      have e : (vs.toList.map AVal.val).getD k .any = .val (vs.getD (0 + k) undef) := by
        simp [List.getD_eq_getElem?_getD, hk']
      rw [e]
      exact .val _
    · exact .val _
  | func f => exact .func rfl rfl (fun _ hk => absurd hk (Nat.not_lt_zero _)) (fun _ hk => absurd hk (Nat.not_lt_zero _))

theorem St.eval {cx : Cx} {B : BMap} {I : Nat → Prop} {env : Env} {σ : List AObj} {a : Act} {w : World} (st : St cx B I env σ a w) (x : Operand) : RV B I cx.bs w (aeval env x) (a.eval x) := EnvR.eval st.env st.sr.gl x

/-- What a frame is said to hold may be said less fully. -/
def Env.le (e' e : Env) : Prop := ∀ t, e'.get t = .any ∨ e'.get t = e.get t

theorem EnvR.weaken {B : BMap} {I : Nat → Prop} {bs : Nat} {w : World} {env env' : Env} {ts : Array Value} (h : EnvR B I bs w env ts) (hle : env'.le env) : EnvR B I bs w env' ts := by
  intro t
  rcases hle t with e | e
  · rw [e]; exact .any _
  · rw [e]; exact h t

theorem keep_get (env : Env) (ts : List Nat) (t : Nat) : (env.keep ts).get t = .any ∨ (env.keep ts).get t = env.get t := by
  induction ts with
  | nil => exact .inl rfl
  | cons s r ih =>
    show Env.get ((s, env.get s) :: Env.keep env r) t = .any ∨ Env.get ((s, env.get s) :: Env.keep env r) t = env.get t
    simp only [Env.get]
    split
    · rename_i e; subst e; exact .inr rfl
    · exact ih

theorem keep_le (env : Env) (ts : List Nat) : (env.keep ts).le env := keep_get env ts

/-- The fence: everything is let in; rd: the loop of whose rounds this frame is one. -/
def FR (rd : Option Nat) : Fence := { fn := fun _ => True, depth := none, alive := false, round := rd }

abbrev Post := Exit → Env → List AObj → Prop

def Reach (cx : Cx) (Q : Post) (B : BMap) (I : Nat → Prop) (σ : List AObj) (w : World) : Exit → Act → World → Prop := fun e a' w' =>
  ∃ env' σ' B' I', Q e env' σ' ∧ St cx B' I' env' σ' a' w' ∧ Ext cx.m B I σ w B' I' σ' w'

def WpA (cx : Cx) (c : Code) (env : Env) (σ : List AObj) (Q : Post) : Prop :=
  ∀ B I a w, St cx B I env σ a w → c.wpIn (FR cx.rd) 0 cx.P (Reach cx Q B I σ w) a w

theorem Reach.trans {cx : Cx} {Q : Post} {B B' : BMap} {I I' : Nat → Prop} {σ σ' : List AObj} {w w' : World} {e : Exit} {a : Act} {u : World}
    (he : Ext cx.m B I σ w B' I' σ' w') (h : Reach cx Q B' I' σ' w' e a u) : Reach cx Q B I σ w e a u := by
  obtain ⟨env', σ'', B'', I'', h1, h2, h3⟩ := h
  exact ⟨env', σ'', B'', I'', h1, h2, he.trans h3⟩

theorem WpA.mono {cx : Cx} {c : Code} {env : Env} {σ : List AObj} {Q Q' : Post} (h : WpA cx c env σ Q) (hq : ∀ e env' σ', Q e env' σ' → Q' e env' σ') : WpA cx c env σ Q' :=
  fun B I a w st => wpIn_mono (h B I a w st) fun _ _ _ ⟨env', σ', B', I', h1, h2, h3⟩ => ⟨env', σ', B', I', hq _ _ _ h1, h2, h3⟩

theorem WpA.weaken {cx : Cx} {c : Code} {env env' : Env} {σ : List AObj} {Q : Post} (hle : env'.le env) (h : WpA cx c env' σ Q) : WpA cx c env σ Q :=
  fun B I a w st => h B I a w ⟨st.size, st.env.weaken hle, st.sr, st.marks⟩

theorem WpA.skip {cx : Cx} {env : Env} {σ : List AObj} {Q : Post} (h : Q .normal env σ) : WpA cx .skip env σ Q :=
  fun B I _ _ st => wpIn_skip ⟨env, σ, B, I, h, st, .refl ..⟩

theorem WpA.label {cx : Cx} {env : Env} {σ : List AObj} {Q : Post} {l : Nat} (h : Q .normal env σ) : WpA cx (.label l) env σ Q :=
  fun B I _ _ st => wpIn_label ⟨env, σ, B, I, h, st, .refl ..⟩

theorem WpA.exit {cx : Cx} {env : Env} {σ : List AObj} {Q : Post} {id : Nat} (h : Q (.exit id) env σ) : WpA cx (.exit id) env σ Q :=
  fun B I _ _ st => wpIn_exit ⟨env, σ, B, I, h, st, .refl ..⟩

theorem WpA.ret {cx : Cx} {env : Env} {σ : List AObj} {Q : Post} (h : Q .ret env σ) : WpA cx .ret env σ Q :=
  fun B I _ _ st => wpIn_ret ⟨env, σ, B, I, h, st, .refl ..⟩

def Post.seq (cx : Cx) (y : Code) (Q : Post) : Post
  | .normal, env, σ => WpA cx y env σ Q
  | e, env, σ => Q e env σ

theorem WpA.seq {cx : Cx} {x y : Code} {env : Env} {σ : List AObj} {Q : Post} (h : WpA cx x env σ (Post.seq cx y Q)) : WpA cx (.seq x y) env σ Q := by
  intro B I a w st
  refine wpIn_seq (wpIn_mono (h B I a w st) ?_)
  rintro e a' w' ⟨env', σ', B', I', hq, st', he⟩
  cases e with
  | normal => exact wpIn_mono (hq B' I' a' w' st') fun _ _ _ => Reach.trans he
  | exit id => exact ⟨env', σ', B', I', hq, st', he⟩
  | goto l => exact ⟨env', σ', B', I', hq, st', he⟩
  | ret => exact ⟨env', σ', B', I', hq, st', he⟩
  | panic ch => exact ⟨env', σ', B', I', hq, st', he⟩
  | outgrown => exact ⟨env', σ', B', I', hq, st', he⟩

def Post.inBlock (id : Nat) (Q : Post) : Post
  | .exit id', env, σ => if id' = id then Q .normal env σ else Q (.exit id') env σ
  | e, env, σ => Q e env σ

theorem WpA.block {cx : Cx} {c : Code} {id : Nat} {env : Env} {σ : List AObj} {Q : Post} (h : WpA cx c env σ (Post.inBlock id Q)) : WpA cx (.block id c) env σ Q := by
  intro B I a w st
  refine wpIn_block (wpIn_mono (h B I a w st) ?_)
  rintro e a' w' ⟨env', σ', B', I', hq, st', he⟩
  cases e with
  | exit id' =>
    simp only [Exit.inBlock, Post.inBlock] at hq ⊢
    split
    · rename_i e; rw [if_pos e] at hq; exact ⟨env', σ', B', I', hq, st', he⟩
    · rename_i e; rw [if_neg e] at hq; exact ⟨env', σ', B', I', hq, st', he⟩
  | normal => exact ⟨env', σ', B', I', hq, st', he⟩
  | goto l => exact ⟨env', σ', B', I', hq, st', he⟩
  | ret => exact ⟨env', σ', B', I', hq, st', he⟩
  | panic ch => exact ⟨env', σ', B', I', hq, st', he⟩
  | outgrown => exact ⟨env', σ', B', I', hq, st', he⟩

theorem RV.bool {B : BMap} {I : Nat → Prop} {bs : Nat} {w : World} {b : Bool} {v : Value} (h : RV B I bs w (.val (.bool b)) v) : v = .bool b := by
  cases h; rfl

theorem RV.valEq {B : BMap} {I : Nat → Prop} {bs : Nat} {w : World} {u v : Value} (h : RV B I bs w (.val u) v) : v = u := by
  cases h; rfl

theorem WpA.cond {cx : Cx} {c : Operand} {x y : Code} {t : Bool} {env : Env} {σ : List AObj} {Q : Post} (hc : aeval env c = .val (.bool t))
    (ht : t = true → WpA cx x env σ Q) (hf : t = false → WpA cx y env σ Q) : WpA cx (.cond c x y) env σ Q := by
  intro B I a w st
  have hv := st.eval c
  rw [hc] at hv
  exact wpIn_cond_split hv.bool (fun e => ht e B I a w st) (fun e => hf e B I a w st)

/-- What stands between two rounds of a loop. -/
def RestA (cx : Cx) (c : Code) (env : Env) (σ : List AObj) (Q : Post) : Prop :=
  ∀ B I a w, St cx B I env σ a w → ∀ (b : Frame) (k : List Item) (cs : List Frame), b.roundOf = cx.rd →
    ∃ e a' w', Reach cx Q B I σ w e a' w' ∧ ArrivesIn (Machine.fenced cx.P (FR cx.rd)) cx.P (lone (b.atR a (.inLoop c :: k)) cs w) b k cs e a' w'

def Post.loop (cx : Cx) (c : Code) (Q : Post) : Post
  | .normal, env, σ => RestA cx c env σ Q
  | e, env, σ => Q e env σ

theorem fr_room (rd : Option Nat) (n : Nat) : (FR rd).room n := fun _ h => by cases h

theorem roundA {cx : Cx} {c : Code} {env : Env} {σ : List AObj} {Q : Post} (h : WpA cx c env σ (Post.loop cx c Q)) : ∀ B I a w, St cx B I env σ a w →
    ∀ (b : Frame) (k : List Item) (cs : List Frame), b.roundOf = cx.rd →
    ∃ e a' w', Reach cx Q B I σ w e a' w' ∧ ArrivesIn (Machine.fenced cx.P (FR cx.rd)) cx.P (lone (b.atR a (.code c :: .inLoop c :: k)) cs w) b k cs e a' w' := by
  intro B I a w st b k cs hro
  obtain ⟨e, a₁, w₁, ⟨env', σ', B', I', hq, st', he⟩, harr⟩ := h B I a w st b (.inLoop c :: k) cs hro trivial (fr_room _ _)
  cases e with
  | normal =>
    obtain ⟨e₂, a₂, w₂, hq₂, harr₂⟩ := hq B' I' a₁ w₁ st' b k cs hro
    exact ⟨e₂, a₂, w₂, .trans he hq₂, .of_steps harr harr₂⟩
  | exit id => exact ⟨_, a₁, w₁, ⟨env', σ', B', I', hq, st', he⟩, .pass (x := .inLoop c) rfl (fun _ _ => .inl (by simp)) harr⟩
  | goto l => exact ⟨_, a₁, w₁, ⟨env', σ', B', I', hq, st', he⟩, .pass (x := .inLoop c) rfl (fun _ _ => .inl (by simp)) harr⟩
  | ret => exact ⟨_, a₁, w₁, ⟨env', σ', B', I', hq, st', he⟩, .pass (x := .inLoop c) rfl (fun _ _ => .inl (by simp)) harr⟩
  | panic ch => exact ⟨_, a₁, w₁, ⟨env', σ', B', I', hq, st', he⟩, .pass (x := .inLoop c) rfl (fun _ _ => .inl (by simp)) harr⟩
  | outgrown => exact ⟨_, a₁, w₁, ⟨env', σ', B', I', hq, st', he⟩, .pass (x := .inLoop c) rfl (fun _ _ => .inl (by simp)) harr⟩

theorem RestA.of {cx : Cx} {c : Code} {env : Env} {σ : List AObj} {Q : Post} (h : WpA cx c env σ (Post.loop cx c Q)) : RestA cx c env σ Q := by
  intro B I a w st b k cs hro
  obtain ⟨e, a', w', hq, harr⟩ := roundA h B I a w st b k cs hro
  exact ⟨e, a', w', hq, .of_steps (.one (fenced_calm (n := 0) trivial (fr_room _ _) rfl) stepR_inLoop) harr⟩

theorem WpA.loop {cx : Cx} {c : Code} {env : Env} {σ : List AObj} {Q : Post} (h : WpA cx c env σ (Post.loop cx c Q)) : WpA cx (.loop c) env σ Q := by
  intro B I a w st b k cs hro _ _
  obtain ⟨e, a', w', hq, harr⟩ := roundA h B I a w st b k cs hro
  exact ⟨e, a', w', hq, .of_steps (.one (fenced_calm (n := 0) trivial (fr_room _ _) rfl) stepR_loop) harr⟩

theorem RestA.weaken {cx : Cx} {c : Code} {env env' : Env} {σ : List AObj} {Q : Post} (hle : env'.le env) (h : RestA cx c env' σ Q) : RestA cx c env σ Q :=
  fun B I a w st => h B I a w ⟨st.size, st.env.weaken hle, st.sr, st.marks⟩

end Go.Abs

/- The abstract layer, part 4: operations. -/
namespace Go.Abs
open Go Go.RowKit

abbrev Kont := AVal → List AObj → Prop

/-- An operation, done where the store is σ and the frame env, comes to a value and a store that K takes. -/
def OpA (cx : Cx) (o : Oper) (env : Env) (σ : List AObj) (K : Kont) : Prop :=
  ∀ B I a w, St cx B I env σ a w → ∀ (next : Act → World → Prop) (Q' : Exit → Act → World → Prop),
    (∀ av σ' B' I' v w', K av σ' → SR B' I' cx.bs σ' w' → RV B' I' cx.bs w' av v → Ext cx.m B I σ w B' I' σ' w' → (∀ l ver x, B l ver = some x → B' l ver = some x) → next (a.put o.dst v) w') →
    o.wpIn (FR cx.rd) 0 cx.P a w next Q'

theorem wp_value {rd : Option Nat} {P : Program} {o : Oper} {a : Act} {w w' : World} {v : Value} {next : Act → World → Prop} {Q : Exit → Act → World → Prop} (hd : ∀ c, o.op ≠ .defer c)
    (h : (execOp a.eval o).run P w = .ok (.value v) w') (hn : next (a.put o.dst v) w') : o.wpIn (FR rd) 0 P a w next Q :=
  ⟨fun _ _ => trivial, by rw [Oper.semAt_eq _ _ _ hd, h]; exact hn⟩

theorem wp_skip' {rd : Option Nat} {P : Program} {o : Oper} {a : Act} {w w' : World} {next : Act → World → Prop} {Q : Exit → Act → World → Prop} (hd : ∀ c, o.op ≠ .defer c)
    (h : (execOp a.eval o).run P w = .ok .skip w') (hn : next (a.put o.dst undef) w') : o.wpIn (FR rd) 0 P a w next Q :=
  ⟨fun _ _ => trivial, by rw [Oper.semAt_eq _ _ _ hd, h]; exact hn⟩

abbrev Ev (cx : Cx) (B : BMap) (I : Nat → Prop) (w : World) (env : Env) (ρ : Operand → Value) : Prop := ∀ x, RV B I cx.bs w (aeval env x) (ρ x)

/-- The value is told by the operands and the store; the world stays. -/
def OpV (cx : Cx) (o : Oper) (env : Env) (σ : List AObj) (av : AVal) : Prop :=
  ∀ B I ρ w, Ev cx B I w env ρ → SR B I cx.bs σ w → ∃ v, (execOp ρ o).run cx.P w = .ok (.value v) w ∧ RV B I cx.bs w av v

def OpQ (cx : Cx) (o : Oper) (env : Env) (σ : List AObj) (K : Kont) : Prop := ∃ av, K av σ ∧ OpV cx o env σ av

theorem OpQ.same {cx : Cx} {o : Oper} {env : Env} {σ : List AObj} {K : Kont} {av : AVal} (hk : K av σ)
    (h : ∀ B I ρ w, Ev cx B I w env ρ → SR B I cx.bs σ w → ∃ v, (execOp ρ o).run cx.P w = .ok (.value v) w ∧ RV B I cx.bs w av v) : OpQ cx o env σ K := ⟨av, hk, h⟩

theorem OpQ.toA {cx : Cx} {o : Oper} {env : Env} {σ : List AObj} {K : Kont} (hd : ∀ c, o.op ≠ .defer c) (h : OpQ cx o env σ K) : OpA cx o env σ K := by
  obtain ⟨av, hk, h⟩ := h
  intro B I a w st next Q' hn
  obtain ⟨v, h1, h2⟩ := h B I a.eval w st.eval st.sr
  exact wp_value hd h1 (hn av σ B I v w hk st.sr h2 (.refl ..) fun _ _ _ h => h)

theorem OpQ.move {cx : Cx} {o : Oper} {env : Env} {σ : List AObj} {K : Kont} {x : Operand} (ho : o.op = .move x) (hk : K (aeval env x) σ) : OpQ cx o env σ K :=
  .same hk fun B I ρ w st _ => ⟨ρ x, by simp [execOp, ho, go_sem], st x⟩

theorem OpQ.assign {cx : Cx} {o : Oper} {env : Env} {σ : List AObj} {K : Kont} {x : Operand} (ho : o.op = .assign x) (hk : K (aeval env x) σ) : OpQ cx o env σ K :=
  .same hk fun B I ρ w st _ => ⟨ρ x, by simp [execOp, ho, go_sem], st x⟩

theorem OpQ.pick {cx : Cx} {o : Oper} {env : Env} {σ : List AObj} {K : Kont} {c x y : Operand} {t : Bool} (ho : o.op = .pick c x y) (hc : aeval env c = .val (.bool t))
    (hk : K (if t then aeval env x else aeval env y) σ) : OpQ cx o env σ K :=
  .same hk fun B I ρ w st _ => by
    have hv := st c
    rw [hc] at hv
    refine ⟨if t then ρ x else ρ y, ?_, ?_⟩
    · simp [execOp, ho, go_sem, hv.bool, asBool]
    · cases t
      · exact st y
      · exact st x

/-- How many cells a value of the type takes: 'some n' of a struct or an array, 'none' of what takes one. -/
def tin (P : Program) (t : TypeId) : Option (Option Nat) :=
  match P.info? t, P.underlying t with
  | some i, some d => some (match d with | .struct _ | .array _ _ => some i.size | _ => none)
  | _, _ => none

def fieldOff (P : Program) (s : TypeId) (f : Nat) : Option Nat :=
  match P.underlying s with
  | some (.struct fs) => (fs[f]?).bind fun x => match P.info? x.type with | some i => if i.size = 0 then none else some x.offset | none => none
  | _ => none

theorem run_underlying' {P : Program} {t : TypeId} {d : TypeDesc} (h : P.underlying t = some d) (w : World) : (underlying t).run P w = .ok d w := by
  simp [underlying, h, go_sem]

theorem run_sizeOf' {P : Program} {t : TypeId} {i : TypeInfo} (h : P.info? t = some i) (w : World) : (sizeOf t).run P w = .ok i.size w := by
  simp [sizeOf, typeInfo, h, go_sem]

theorem tin_agg {P : Program} {t : TypeId} {n : Nat} (h : tin P t = some (some n)) (w : World) : (isAgg t).run P w = .ok true w ∧ (sizeOf t).run P w = .ok n w := by
  unfold tin at h
  split at h
  · rename_i i d h1 h2
    have h3 := run_underlying' h2 w
    have h4 := run_sizeOf' h1 w
    cases d <;> simp at h <;> subst h <;> exact ⟨by simp [isAgg, h3, go_sem], h4⟩
  · cases h

theorem tin_one {P : Program} {t : TypeId} (h : tin P t = some none) (w : World) : (isAgg t).run P w = .ok false w := by
  unfold tin at h
  split at h
  · rename_i i d h1 h2
    have h3 := run_underlying' h2 w
    cases d <;> simp at h <;> simp [isAgg, h3, go_sem]
  · cases h

theorem OpQ.fieldAddr {cx : Cx} {o : Oper} {env : Env} {σ : List AObj} {K : Kont} {s : TypeId} {x : Operand} {f off : Nat} (ho : o.op = .fieldAddr s x f) (hf : fieldOff cx.P s f = some off)
    (hk : match aeval env x with | .ptr l v i j => K (.ptr l v i (j + off)) σ | .eptr cs j => K (.eptr cs (j + off)) σ | _ => False) : OpQ cx o env σ K := by
  have run : ∀ (ρ : Operand → Value) (w : World) (b ofs : Nat), ρ x = .pointer (some ⟨b, ofs, none⟩) → (execOp ρ o).run cx.P w = .ok (.value (.pointer (some ⟨b, ofs + off, none⟩))) w := by
    intro ρ w b ofs hx
    unfold fieldOff at hf
    split at hf
    · rename_i fs hs
      cases hq : fs[f]? with
      | none => simp [hq] at hf
      | some y =>
        simp only [hq, Option.bind_some] at hf
        split at hf
        · rename_i i hi
          split at hf
          · cases hf
          · rename_i hz
            cases hf
            simp [execOp, ho, go_sem, hx, Instr.fieldAt, Instr.sureAddr, run_underlying' hs w, hq, fieldPlace, run_sizeOf' hi w, hz, Addr.add]
        · cases hf
    · cases hf
  split at hk
  · rename_i l v i j hx
    refine .same hk fun B I ρ w st _ => ?_
    have hv := st x
    rw [hx] at hv
    generalize hρ : ρ x = u at hv
    cases hv with
    | ptr hB hr => exact ⟨_, run ρ w _ _ hρ, by rw [Nat.add_assoc]; exact .ptr hB hr⟩
  · rename_i cs j hx
    refine .same hk fun B I ρ w st _ => ?_
    have hv := st x
    rw [hx] at hv
    generalize hρ : ρ x = u at hv
    cases hv with
    | eptr h1 h2 h3 h4 => exact ⟨_, run ρ w _ _ hρ, by rw [Nat.add_assoc]; exact .eptr h1 h2 h3 h4⟩
  · exact hk.elim

end Go.Abs

/- The abstract layer, part 5: memory: load, store, new variables. -/
namespace Go.Abs
open Go Go.RowKit

theorem cell_of {w : World} {b : Nat} {cs : Array Value} {T : TypeId} {fr : Nat × Nat} (hb : w.heap[b]? = some (.cells cs T fr)) {k : Nat} (hk : k < cs.size) :
    w.cell? ⟨b, k, none⟩ = some (cs.getD k undef) := by
  simp [World.cell?, hb, hk]

theorem add_none (b o i : Nat) : Addr.add ⟨b, o, none⟩ i = ⟨b, o + i, none⟩ := by
  unfold Addr.add
  split
  · rename_i h; subst h; rfl
  · rfl

theorem run_load1 {P : Program} {w : World} {a : Addr} {v : Value} (h : w.cell? a = some v) : (load a).run P w = .ok v w := by
  simp [load, Sem.run, h]

theorem run_loadCellsFrom' {P : Program} {w : World} {b o : Nat} (g : Nat → Value) : ∀ (n i : Nat) (acc : Array Value), (∀ k, k < n → w.cell? ⟨b, o + (i + k), none⟩ = some (g (i + k))) →
    ∃ vs : Array Value, (loadCellsFrom ⟨b, o, none⟩ i n acc).run P w = .ok vs w ∧ vs.size = acc.size + n ∧ (∀ k, k < acc.size → vs.getD k undef = acc.getD k undef) ∧ ∀ k, k < n → vs.getD (acc.size + k) undef = g (i + k) := by
  intro n
  induction n with
  | zero => intro i acc _; exact ⟨acc, rfl, rfl, fun _ _ => rfl, fun _ hk => absurd hk (Nat.not_lt_zero _)⟩
  | succ n ih =>
    intro i acc h
    have h0 := h 0 (by omega)
    obtain ⟨vs, hr, hs, hold, hnew⟩ := ih (i + 1) (acc.push (g i)) (fun k hk => by
      have := h (k + 1) (by omega)
      rw [show i + (k + 1) = i + 1 + k by omega] at this
      exact this)
    refine ⟨vs, ?_, by simp at hs; omega, fun k hk => ?_, fun k hk => ?_⟩
    · rw [loadCellsFrom]
      have e : (load (Addr.add ⟨b, o, none⟩ i)).run P w = .ok (g i) w := run_load1 (by rw [add_none]; simpa using h0)
      simp only [Sem.run_bind, e, Result.andThen]
      exact hr
    · rw [hold k (by simp; omega)]
      simp [Array.getD_eq_getD_getElem?, Array.getElem?_push, Nat.ne_of_lt hk]
    · rcases Nat.eq_zero_or_pos k with rfl | hp
      · rw [Nat.add_zero, hold _ (by simp)]
        simp [Array.getD_eq_getD_getElem?]
      · have := hnew (k - 1) (by omega)
        simp only [Array.size_push] at this
        rw [show acc.size + 1 + (k - 1) = acc.size + k by omega, show i + 1 + (k - 1) = i + k by omega] at this
        exact this

theorem run_loadVar_agg {P : Program} {w : World} {t : TypeId} {n b o : Nat} (ht : tin P t = some (some n)) (g : Nat → Value) (h : ∀ k, k < n → w.cell? ⟨b, o + k, none⟩ = some (g k)) :
    ∃ vs : Array Value, (loadVar t ⟨b, o, none⟩).run P w = .ok (.agg vs) w ∧ vs.size = n ∧ ∀ k, k < n → vs.getD k undef = g k := by
  obtain ⟨vs, hr, hs, _, hn⟩ := run_loadCellsFrom' (P := P) (w := w) (b := b) (o := o) g n 0 #[] (fun k hk => by simpa using h k hk)
  refine ⟨vs, ?_, by simpa using hs, fun k hk => by simpa using hn k hk⟩
  obtain ⟨h1, h2⟩ := tin_agg ht w
  simp only [loadVar, Sem.run_bind, h1, Result.andThen, if_true, h2, loadCells, hr]
  rfl

theorem run_loadVar_one {P : Program} {w : World} {t : TypeId} {a : Addr} {v : Value} (ht : tin P t = some none) (h : w.cell? a = some v) : (loadVar t a).run P w = .ok v w := by
  have h1 := tin_one ht w
  simp only [loadVar, Sem.run_bind, h1, Result.andThen, Bool.false_eq_true, if_false]
  exact run_load1 h

/-- What is read of some cells in a row. -/
def cut (t : Option Nat) (cs : List AVal) (j : Nat) : AVal :=
  match t with
  | some n => .agg ((cs.drop j).take n)
  | none => cs.getD j .any

def wid : Option Nat → Nat
  | some n => n
  | none => 1

theorem getD_drop_take {cs : List AVal} {j n k : Nat} (hk : k < n) : ((cs.drop j).take n).getD k .any = cs.getD (j + k) .any := by
  simp [List.getD_eq_getElem?_getD, hk, List.getElem?_drop]

theorem run_cut {P : Program} {B : BMap} {I : Nat → Prop} {bs : Nat} {w : World} {t : TypeId} {q : Option Nat} (ht : tin P t = some q) {cs : List AVal} {b o j : Nat} {vs : Array Value} {T : TypeId} {fr : Nat × Nat}
    (hb : w.heap[b]? = some (.cells vs T fr)) (hj : j + wid q ≤ cs.length) (ho : o + cs.length ≤ vs.size)
    (hc : ∀ k, k < cs.length → RV B I bs w (cs.getD k .any) (vs.getD (o + k) undef)) :
    ∃ v, (loadVar t ⟨b, o + j, none⟩).run P w = .ok v w ∧ RV B I bs w (cut q cs j) v := by
  cases q with
  | none =>
    simp only [wid] at hj
    exact ⟨_, run_loadVar_one ht (cell_of hb (by omega)), hc j (by omega)⟩
  | some n =>
    simp only [wid] at hj
    obtain ⟨us, h1, h2, h3⟩ := run_loadVar_agg (P := P) (w := w) (b := b) (o := o + j) ht (fun k => vs.getD (o + j + k) undef) (fun k hk => cell_of hb (by omega))
    refine ⟨_, h1, .agg (by simp; omega) fun k hk => ?_⟩
    have hk' : k < n := by simp at hk; omega
    rw [getD_drop_take hk', h3 k hk', Nat.add_assoc]
    exact hc (j + k) (by omega)

/-- What a load gives. -/
def loadA (q : Option Nat) (av : AVal) (σ : List AObj) (K : Kont) : Prop :=
  match av with
  | .ptr l ver i j => match σ[l]? with
    | some (.row v sz xs) => (ver = v ∧ i < xs.length ∧ j + wid q ≤ sz) ∧ K (cut q (xs.getD i .any).cells j) σ
    | _ => False
  | .eptr cs j => j + wid q ≤ cs.length ∧ K (cut q cs j) σ
  | _ => False

theorem mem_getD {xs : List AVal} {i : Nat} (h : i < xs.length) : xs.getD i .any ∈ xs := by
  rw [List.getD_eq_getElem?_getD, List.getElem?_eq_getElem h]
  exact List.getElem_mem h

theorem OpQ.load {cx : Cx} {o : Oper} {env : Env} {σ : List AObj} {K : Kont} {t : TypeId} {x : Operand} {q : Option Nat} (ho : o.op = .load t x) (ht : tin cx.P t = some q)
    (hk : loadA q (aeval env x) σ K) : OpQ cx o env σ K := by
  have fin : ∀ (ρ : Operand → Value) (w : World) (a : Addr) (v : Value), ρ x = .pointer (some a) → (loadVar t a).run cx.P w = .ok v w → (execOp ρ o).run cx.P w = .ok (.value v) w := by
    intro ρ w a v hx hl
    simp only [execOp, ho, hx, Instr.loadAt, Instr.sureAddr, Sem.run_bind, Sem.run_pure, Result.andThen, hl]
  unfold loadA at hk
  split at hk
  · rename_i l ver i j hx
    split at hk
    · rename_i v sz xs hσ
      obtain ⟨⟨rfl, hi, hj⟩, hk⟩ := hk
      refine .same hk fun B I ρ w st sr => ?_
      have hv := st x
      rw [hx] at hv
      generalize hρ : ρ x = u at hv
      obtain ⟨y, hy⟩ := sr.row _ _ _ _ hσ
      cases hv with
      | ptr hB hr =>
        rename_i z
        obtain rfl : z = y := Option.some.inj (hB.symm.trans hy.at_)
        obtain ⟨cs, T, hb, hsz, hc⟩ := hy.real hr
        have hlen := hy.each _ (mem_getD hi)
        have hfit := hy.fits
        rw [hy.hsz] at hρ
        have hmul : i * sz + sz ≤ cs.size := by
          rw [hsz]
          calc i * sz + sz = (i + 1) * sz := by rw [Nat.add_mul, Nat.one_mul]
            _ ≤ z.C * sz := Nat.mul_le_mul_right _ (by omega)
        obtain ⟨v', h1, h2⟩ := run_cut (P := cx.P) (B := B) (I := I) (bs := cx.bs) (w := w) ht (cs := (xs.getD i .any).cells) (o := i * sz) (j := j) hb (by rw [hlen]; exact hj) (by rw [hlen]; exact hmul)
          (fun k hk => (hc i k hi (by rw [hlen] at hk; exact hk)).1)
        exact ⟨v', fin ρ w _ _ hρ h1, h2⟩
    · exact hk.elim
  · rename_i cs j hx
    obtain ⟨hj, hk⟩ := hk
    refine .same hk fun B I ρ w st sr => ?_
    have hv := st x
    rw [hx] at hv
    generalize hρ : ρ x = u at hv
    cases hv with
    | eptr hI hb ho hc =>
      obtain ⟨v', h1, h2⟩ := run_cut (P := cx.P) (B := B) (I := I) (bs := cx.bs) (w := w) ht (j := j) hb hj ho hc
      exact ⟨v', fin ρ w _ _ hρ h1, h2⟩
  · exact hk.elim


/-! ### Stores -/

/-- A value of one cell, and known. -/
def AVal.leaf : AVal → Bool
  | .any | .agg _ | .tuple _ => false
  | .val v => v.oneCell'
  | _ => true

theorem leaf_one {B : BMap} {I : Nat → Prop} {bs : Nat} {w : World} {a : AVal} {v : Value} (h : RV B I bs w a v) (ha : a.leaf = true) : v.oneCell' = true ∧ v.cells = #[v] ∧ a.cells = [a] := by
  have k : v.oneCell' = true → v.cells = #[v] := by intro h; cases v <;> first | rfl | cases h
  cases h <;> first | exact ⟨rfl, rfl, rfl⟩ | exact ⟨ha, k ha, rfl⟩ | exact ⟨mapV_one _, mapV_cells _, rfl⟩ | cases ha

/-- 'the cells of a with those of b from j on'. -/
def splice (a : List AVal) (j : Nat) (b : List AVal) : List AVal := a.take j ++ b ++ a.drop (j + b.length)

theorem splice_length {a b : List AVal} {j : Nat} (h : j + b.length ≤ a.length) : (splice a j b).length = a.length := by
  simp [splice]; omega

theorem splice_getD {a b : List AVal} {j k : Nat} (h : j + b.length ≤ a.length) : (splice a j b).getD k .any = if j ≤ k ∧ k < j + b.length then b.getD (k - j) .any else a.getD k .any := by
  simp only [splice, List.getD_eq_getElem?_getD, List.getElem?_append, List.length_append, List.length_take, List.getElem?_take, List.getElem?_drop, Nat.min_eq_left (show j ≤ a.length by omega)]
  by_cases h1 : k < j
  · rw [if_pos (by omega), if_pos h1, if_pos h1, if_neg (by omega)]
  · by_cases h2 : k < j + b.length
    · rw [if_pos h2, if_neg h1, if_pos (by omega)]
    · rw [if_neg h2, if_neg (by omega), show j + b.length + (k - (j + b.length)) = k by omega]

/-- An element with other cells. -/
def setCells (x : AVal) (j : Nat) (b : List AVal) : AVal :=
  match x with
  | .agg a => .agg (splice a j b)
  | _ => b.headD .any

theorem run_storeCells' {P : Program} {b : Nat} {T : TypeId} : ∀ (vs : List Value) (o i : Nat) (w : World) (cs : Array Value), w.heap[b]? = some (.cells cs T (0, 0)) → o + i + vs.length ≤ cs.size →
    (∀ v ∈ vs, v.oneCell' = true) → ∃ w' cs', (storeCells ⟨b, o, none⟩ vs i).run P w = .ok () w' ∧ w'.os = w.os ∧ w'.tape = w.tape ∧ w'.output = w.output ∧ w'.heap.size = w.heap.size ∧
      (∀ k, k ≠ b → w'.heap[k]? = w.heap[k]?) ∧ w'.heap[b]? = some (.cells cs' T (0, 0)) ∧ cs'.size = cs.size ∧
      ∀ k, cs'.getD k undef = if o + i ≤ k ∧ k < o + i + vs.length then vs.getD (k - (o + i)) undef else cs.getD k undef := by
  intro vs
  induction vs with
  | nil =>
    intro o i w cs hb _ _
    exact ⟨w, cs, rfl, rfl, rfl, rfl, rfl, fun _ _ => rfl, hb, rfl, fun k => by rw [if_neg (by simp only [List.length_nil]; omega)]⟩
  | cons v r ih =>
    intro o i w cs hb hsz hv
    simp only [List.length_cons] at hsz
    have hc : w.cell? ⟨b, o + i, none⟩ = some (cs.getD (o + i) undef) := cell_of hb (by omega)
    have hf : w.frozen? ⟨b, o + i, none⟩ = false := by simp [World.frozen?, hb]
    have hset : (w.setCell ⟨b, o + i, none⟩ v).heap[b]? = some (.cells (cs.setIfInBounds (o + i) v) T (0, 0)) := by
      simp [World.setCell, Array.getElem?_modify, hb]
    obtain ⟨w', cs', hr, h1, h2, h3, h4, h5, h6, h7, h8⟩ := ih o (i + 1) (w.setCell ⟨b, o + i, none⟩ v) _ hset (by simp; omega) (fun u hu => hv u (List.mem_cons_of_mem _ hu))
    refine ⟨w', cs', ?_, h1, h2, h3, by simpa [World.setCell] using h4, fun k hk => ?_, h6, by rw [h7]; simp, fun k => ?_⟩
    · rw [storeCells]
      simp only [Sem.run_bind, add_none]
      rw [run_store P w _ v _ (hv v (List.mem_cons_self ..)), hc]
      simp only [hf, Bool.false_eq_true, if_false, Result.andThen]
      exact hr
    · rw [h5 k hk]
      simp only [World.setCell, Array.getElem?_modify]
      rw [if_neg (fun e => hk e.symm)]
    · rw [h8 k]
      simp only [List.length_cons]
      by_cases e : k = o + i
      · subst e
        rw [if_neg (by omega), if_pos (by omega), Nat.sub_self]
        simp [Array.getD_eq_getD_getElem?]
        omega
      · have e1 : (cs.setIfInBounds (o + i) v).getD k undef = cs.getD k undef := by
          rw [Array.getD_eq_getD_getElem?, Array.getElem?_setIfInBounds_ne (fun h => e h.symm), ← Array.getD_eq_getD_getElem?]
        rw [e1]
        by_cases h : o + (i + 1) ≤ k ∧ k < o + (i + 1) + r.length
        · rw [if_pos h, if_pos (by omega), show k - (o + i) = (k - (o + (i + 1))) + 1 by omega]
          simp
        · rw [if_neg h, if_neg (by omega)]

/-- What is stored: known cells, as many as the type has. -/
def stOk (q : Option Nat) (a : AVal) : Bool :=
  match q, a with
  | some n, .agg cs => cs.length == n && cs.all AVal.leaf
  | none, a => a.leaf
  | _, _ => false

theorem stOk_cells {B : BMap} {I : Nat → Prop} {bs : Nat} {w : World} {q : Option Nat} {a : AVal} {v : Value} (h : stOk q a = true) (hv : RV B I bs w a v) :
    a.cells.length = wid q ∧ v.cells.size = wid q ∧ (∀ u ∈ v.cells.toList, u.oneCell' = true) ∧ (∀ x ∈ a.cells, x.cells.length = 1) ∧ ∀ k, k < wid q → RV B I bs w (a.cells.getD k .any) (v.cells.getD k undef) := by
  unfold stOk at h
  split at h
  · rename_i n cs
    simp only [Bool.and_eq_true, beq_iff_eq, List.all_eq_true] at h
    cases hv with
    | agg hl hc =>
      refine ⟨h.1, by show _ = n; rw [← h.1, hl]; rfl, fun u hu => ?_, fun x hx => ?_, fun k hk => hc k (by rw [h.1]; exact hk)⟩
      · obtain ⟨k, hk, e⟩ := List.mem_iff_getElem.1 hu
        have hk' : k < cs.length := by rw [hl]; simpa [Value.cells] using hk
        have := hc k hk'
        have e2 : (cs.getD k .any) ∈ cs := mem_getD hk'
        have l := (leaf_one this (h.2 _ e2)).1
        rw [← e]
        simp only [Value.cells] at hk ⊢
        rw [Array.getElem_toList]
        rw [Array.getD_eq_getD_getElem?, Array.getElem?_eq_getElem (by simpa using hk)] at l
        exact l
      · obtain ⟨k, hk, e⟩ := List.mem_iff_getElem.1 hx
        simp only [AVal.cells] at hk e
        have e2 := hc k hk
        have : cs.getD k .any = x := by rw [List.getD_eq_getElem?_getD, List.getElem?_eq_getElem hk]; exact e
        rw [this] at e2
        rw [(leaf_one e2 (h.2 _ hx)).2.2]; rfl
  · obtain ⟨h1, h2, h3⟩ := leaf_one hv h
    rw [h2, h3]
    refine ⟨rfl, rfl, by simpa using h1, by intro x hx; rw [List.mem_singleton.1 hx, h3]; rfl, fun k hk => ?_⟩
    have : k = 0 := by simp only [wid] at hk; omega
    subst this
    simpa using hv
  · cases h

theorem tin_size {P : Program} {t : TypeId} {q : Option Nat} (h : tin P t = some q) (h1 : q = none → ∃ i, P.info? t = some i ∧ i.size = 1) (w : World) : (sizeOf t).run P w = .ok (wid q) w := by
  cases q with
  | some n => exact (tin_agg h w).2
  | none =>
    obtain ⟨i, h2, h3⟩ := h1 rfl
    rw [run_sizeOf' h2, h3]; rfl

/-- The type's cells: one where it is no struct and no array. -/
def tin1 (P : Program) (t : TypeId) : Option (Option Nat) :=
  match tin P t with
  | some (some n) => some (some n)
  | some none => match P.info? t with | some i => if i.size = 1 then some none else none | none => none
  | none => none

theorem tin1_tin {P : Program} {t : TypeId} {q : Option Nat} (h : tin1 P t = some q) : tin P t = some q ∧ ∀ w, (sizeOf t).run P w = .ok (wid q) w := by
  unfold tin1 at h
  split at h
  · rename_i n hn
    cases h
    exact ⟨hn, fun w => (tin_agg hn w).2⟩
  · rename_i hn
    split at h
    · rename_i i hi
      split at h
      · rename_i h1
        cases h
        exact ⟨hn, fun w => by rw [run_sizeOf' hi, h1]; rfl⟩
      · cases h
    · cases h
  · cases h

def storeA (q : Option Nat) (av x : AVal) (σ : List AObj) (K : Kont) : Prop :=
  match av with
  | .ptr l ver i j => match σ[l]? with
    | some (.row v sz xs) => (ver = v ∧ i < xs.length ∧ j + wid q ≤ sz ∧ stOk q x = true) ∧ K .any (σ.set l (.row v sz (xs.set i (setCells (xs.getD i .any) j x.cells))))
    | _ => False
  | _ => False

theorem getD_set {xs : List AVal} {i k : Nat} {y : AVal} (h : i < xs.length) : (xs.set i y).getD k .any = if k = i then y else xs.getD k .any := by
  rw [List.getD_eq_getElem?_getD, List.getElem?_set]
  by_cases e : i = k
  · subst e; simp [h]
  · rw [if_neg e, if_neg (fun h => e h.symm), ← List.getD_eq_getElem?_getD]

theorem setCells_cells {x : AVal} {j : Nat} {b : List AVal} (h : j + b.length ≤ x.cells.length) (hb : ∀ y ∈ b, y.cells.length = 1) (hne : b ≠ []) (hx : ∀ a, x = .agg a → True) :
    (setCells x j b).cells.length = x.cells.length ∧ ((∃ a, x = .agg a) → (setCells x j b).cells = splice x.cells j b) := by
  cases x with
  | agg a => exact ⟨splice_length h, fun _ => rfl⟩
  | _ =>
    refine ⟨?_, fun ⟨a, e⟩ => by cases e⟩
    cases b with
    | nil => exact absurd rfl hne
    | cons y r =>
      simp only [AVal.cells, List.length_cons, List.length_nil] at h
      have := hb y (List.mem_cons_self ..)
      simpa [setCells, AVal.cells] using this

end Go.Abs

/- The abstract layer, part 6: stores and new variables, as operations. -/
namespace Go.Abs
open Go Go.RowKit

theorem BMap.upd_eq {B : BMap} {l ver : Nat} {x : BI} (h : B l ver = some x) : B.upd l ver x = B := by
  funext l' v'
  unfold BMap.upd
  split
  · rename_i e; obtain ⟨rfl, rfl⟩ := e; exact h.symm
  · rfl

theorem idx_inj {sz i i' a b : Nat} (ha : a < sz) (hb : b < sz) (h : i * sz + a = i' * sz + b) : i = i' ∧ a = b := by
  have e1 : (i * sz + a) / sz = i := by rw [Nat.add_comm, Nat.add_mul_div_right _ _ (by omega), Nat.div_eq_of_lt ha, Nat.zero_add]
  have e2 : (i' * sz + b) / sz = i' := by rw [Nat.add_comm, Nat.add_mul_div_right _ _ (by omega), Nat.div_eq_of_lt hb, Nat.zero_add]
  have : i = i' := by rw [← e1, ← e2, h]
  exact ⟨this, by subst this; omega⟩

theorem idx_range {sz i i' j n b : Nat} (hjn : j + n ≤ sz) (hb : b < sz) : (i * sz + j ≤ i' * sz + b ∧ i' * sz + b < i * sz + j + n) ↔ (i' = i ∧ j ≤ b ∧ b < j + n) := by
  constructor
  · rintro ⟨h1, h2⟩
    obtain ⟨a, ha⟩ : ∃ a, i' * sz + b = i * sz + (j + a) := ⟨i' * sz + b - (i * sz + j), by omega⟩
    obtain ⟨e, e2⟩ := idx_inj (i := i') (i' := i) hb (show j + a < sz by omega) ha
    exact ⟨e, by omega, by omega⟩
  · rintro ⟨rfl, h1, h2⟩
    omega

/-- The store's relation behind a change of one row in its own block. -/
theorem SR.sameBlock {B : BMap} {I : Nat → Prop} {bs : Nat} {σ : List AObj} {w w' : World} (h : SR B I bs σ w) {l v sz : Nat} {xs xs' : List AVal} {x : BI} (hσ : σ[l]? = some (.row v sz xs))
    (hx : RowOk B I bs w l v sz xs x) (hr : x.real = true) (hos : w'.os = w.os) (htape : w'.tape = w.tape) (hout : w'.output = w.output) (hsize : w'.heap.size = w.heap.size)
    (hkeep : ∀ k, k ≠ x.b → w'.heap[k]? = w.heap[k]?) {cs' : Array Value} {T : TypeId} (hb : w'.heap[x.b]? = some (.cells cs' T (0, 0))) (hcs : cs'.size = x.C * sz)
    (hfit : xs'.length ≤ x.C) (heach : ∀ y ∈ xs', y.cells.length = sz)
    (hc : ∀ i j, i < xs'.length → j < sz → RV B I bs w ((xs'.getD i .any).cells.getD j .any) (cs'.getD (i * sz + j) undef) ∧ (cs'.getD (i * sz + j) undef).oneCell' = true) (m : Nat) :
    SR B I bs (σ.set l (.row v sz xs')) w' ∧ Ext m B I σ w B I (σ.set l (.row v sz xs')) w' := by
  have hl : l < σ.length := (List.getElem?_eq_some_iff.1 hσ).1
  have hcur : Cur B σ l = some x.b := hx.cur hσ hr
  have hIk : ∀ b, I b → w'.heap[b]? = w.heap[b]? := fun b hb => hkeep b fun e => h.imm _ _ hcur (e ▸ hb)
  have hup : B.upd l v x = B := BMap.upd_eq hx.at_
  have s1 := SR.setRow (w' := w') (xs := xs') (x := x) (ver := v) (sz := sz) h hl (.inr hx.at_) (fun v' y hy => h.vmono _ _ _ _ _ _ hσ hy) (by omega)
    (fun b _ hne => by rcases hne with hne | hne; exact hkeep b hne; rw [hr] at hne; cases hne) (fun _ => .inl hcur) (fun _ => by rw [hsize]; exact h.lt _ _ hcur)
    (by
      rw [hup]
      exact ⟨hx.at_, hx.hsz, hx.pos, hfit, heach, hx.virt, fun _ => ⟨cs', T, hb, hcs, fun i j hi hj => ⟨(hc i j hi hj).1.mono (fun _ _ _ h => h) (fun _ h => h) hIk (Nat.le_refl _), (hc i j hi hj).2⟩⟩⟩)
  rw [hup] at s1
  have hcs : ∀ l', Cur B (σ.set l (.row v sz xs')) l' = Cur B σ l' := by
    intro l'
    by_cases e : l' = l
    · subst e
      simp only [Cur, List.getElem?_set_self hl, hσ]
    · simp only [Cur, List.getElem?_set_ne (fun h => e h.symm)]
  refine ⟨s1, hos, htape, hout, by omega, fun b _ hn => hkeep b fun e => hn l (e ▸ hcur), fun _ _ _ _ h => h, fun _ h => h, fun _ h => .inl h, fun l' b hb' => ?_⟩
  rw [hcs] at hb'
  rcases Nat.lt_or_ge l' m with hm | hm
  · exact .inr (.inl ⟨hm, hb'⟩)
  · exact .inr (.inr ⟨hm, l', hm, hb'⟩)

theorem setCells_ok {x : AVal} {j sz : Nat} {b : List AVal} (hx : x.cells.length = sz) (hj : j + b.length ≤ sz) (hb : ∀ y ∈ b, y.cells.length = 1) (hne : b ≠ []) (hbx : ∀ y ∈ b, y.leaf = true) :
    (setCells x j b).cells.length = sz ∧ ∀ k, k < sz → (setCells x j b).cells.getD k .any = if j ≤ k ∧ k < j + b.length then b.getD (k - j) .any else x.cells.getD k .any := by
  cases x with
  | agg a =>
    simp only [AVal.cells] at hx ⊢
    exact ⟨by rw [setCells]; exact (splice_length (by omega)).trans hx, fun k _ => by rw [setCells]; exact splice_getD (by omega)⟩
  | _ =>
    cases b with
    | nil => exact absurd rfl hne
    | cons y r =>
      simp only [AVal.cells, List.length_cons, List.length_nil] at hx hj
      have hy := hbx y (List.mem_cons_self ..)
      have hyc : y.cells = [y] := by cases y <;> first | rfl | cases hy
      have hr0 : r = [] := List.length_eq_zero_iff.1 (by omega)
      subst hr0
      simp only [setCells, List.headD_cons, hyc, List.length_cons, List.length_nil]
      refine ⟨by omega, fun k hk => ?_⟩
      have : k = 0 := by omega
      subst this
      rw [if_pos (by omega)]
      simp [show j = 0 by omega]

theorem stOk_leaf {B : BMap} {I : Nat → Prop} {bs : Nat} {w : World} {q : Option Nat} {a : AVal} {v : Value} (h : stOk q a = true) (hv : RV B I bs w a v) : ∀ y ∈ a.cells, y.leaf = true := by
  unfold stOk at h
  split at h
  · simp only [Bool.and_eq_true, List.all_eq_true] at h
    exact h.2
  · obtain ⟨_, _, h3⟩ := leaf_one hv h
    rw [h3]
    intro y hy
    rw [List.mem_singleton.1 hy]
    exact h
  · cases h

theorem OpA.store {cx : Cx} {o : Oper} {env : Env} {σ : List AObj} {K : Kont} {t : TypeId} {x y : Operand} {q : Option Nat} (ho : o.op = .store t x y) (ht : tin1 cx.P t = some q) (hq : 0 < wid q)
    (hk : storeA q (aeval env x) (aeval env y) σ K) : OpA cx o env σ K := by
  unfold storeA at hk
  split at hk
  · rename_i l ver i j hx
    split at hk
    · rename_i v sz xs hσ
      obtain ⟨⟨rfl, hi, hj, hst⟩, hk⟩ := hk
      intro B I a w st next Q' hn
      have hv := st.eval x
      rw [hx] at hv
      have hy := st.eval y
      generalize hρ : a.eval x = u at hv
      obtain ⟨z, hz⟩ := st.sr.row _ _ _ _ hσ
      cases hv with
      | ptr hB hr =>
        rename_i z'
        obtain rfl : z' = z := Option.some.inj (hB.symm.trans hz.at_)
        obtain ⟨cs, T, hb, hsz, hc⟩ := hz.real hr
        have hlen := hz.each _ (mem_getD hi)
        have hfit := hz.fits
        rw [hz.hsz] at hρ
        have hmul : i * sz + sz ≤ cs.size := by
          rw [hsz]
          calc i * sz + sz = (i + 1) * sz := by rw [Nat.add_mul, Nat.one_mul]
            _ ≤ z'.C * sz := Nat.mul_le_mul_right _ (by omega)
        obtain ⟨s1, s2, s3, s4, s5⟩ := stOk_cells hst hy
        obtain ⟨w', cs', r1, r2, r3, r4, r5, r6, r7, r8, r9⟩ := run_storeCells' (P := cx.P) (b := z'.b) (T := T) (a.eval y).cells.toList (i * sz + j) 0 w cs hb (by simp [s2]; omega) s3
        have hrun : (execOp a.eval o).run cx.P w = .ok .skip w' := by
          have hs := (tin1_tin ht).2
          simp only [execOp, ho, hρ, Instr.storeAt, Instr.sureAddr, Sem.run_bind, Sem.run_pure, Result.andThen, storeVar, hs, s2, ne_eq, not_true_eq_false, if_false, r1]
        have hcl : (aeval env y).cells.length ≤ sz - j := by omega
        have hok : (setCells (xs.getD i .any) j (aeval env y).cells).cells.length = sz ∧ _ := setCells_ok (x := xs.getD i .any) (j := j) (b := (aeval env y).cells) hlen (by omega) s4
          (by intro e; rw [e] at s1; simp at s1; omega) (stOk_leaf hst hy)
        obtain ⟨k1, k2⟩ := SR.sameBlock (m := cx.m) (xs' := xs.set i (setCells (xs.getD i .any) j (aeval env y).cells)) st.sr hσ hz hr r2 r3 r4 r5 r6 r7 (by rw [r8, hsz]) (by simpa using hfit)
          (by
            intro u hu
            rcases List.mem_or_eq_of_mem_set hu with hu | hu
            · exact hz.each _ hu
            · rw [hu]; exact hok.1)
          (by
            intro i' j' hi' hj'
            simp only [List.length_set] at hi'
            rw [getD_set hi, r9 (i' * sz + j')]
            simp only [Nat.add_zero, Array.length_toList, s2]
            by_cases e : i' = i
            · subst e
              rw [if_pos rfl, hok.2 j' hj', s1]
              by_cases e2 : j ≤ j' ∧ j' < j + wid q
              · rw [if_pos e2, if_pos (by omega), show i' * sz + j' - (i' * sz + j) = j' - j by omega]
                have := s5 (j' - j) (by omega)
                rw [Array.getD_eq_getD_getElem?, ← Array.getElem?_toList, ← List.getD_eq_getElem?_getD] at this
                refine ⟨this, s3 _ ?_⟩
                have hlt : j' - j < (a.eval y).cells.toList.length := by rw [Array.length_toList, s2]; omega
                rw [List.getD_eq_getElem?_getD, List.getElem?_eq_getElem hlt]
                exact List.getElem_mem hlt
              · rw [if_neg e2, if_neg (by omega)]
                exact hc _ _ hi hj'
            · rw [if_neg e, if_neg (fun h => e ((idx_range hj hj').1 h).1)]
              exact hc _ _ hi' hj')
        exact wp_skip' (by simp [ho]) hrun (hn .any _ B I undef w' hk k1 (.any _) k2 fun _ _ _ h => h)
    · exact hk.elim
  · exact hk.elim

/-- A new block: it belongs to a slot that was empty, or is one more. -/
theorem SR.newRow {B : BMap} {I : Nat → Prop} {bs : Nat} {σ : List AObj} {w : World} (h : SR B I bs σ w) {sz C : Nat} {xs : List AVal} {cs : Array Value} {T : TypeId} (hsz : 0 < sz) (hcs : cs.size = C * sz) (hfit : xs.length ≤ C)
    (heach : ∀ y ∈ xs, y.cells.length = sz) (hc : ∀ i j, i < xs.length → j < sz → RV B I bs w ((xs.getD i .any).cells.getD j .any) (cs.getD (i * sz + j) undef) ∧ (cs.getD (i * sz + j) undef).oneCell' = true) (m : Nat) :
    ∃ B', SR B' I bs (σ ++ [.row 0 sz xs]) (w.alloc (.cells cs T)) ∧ Ext m B I σ w B' I (σ ++ [.row 0 sz xs]) (w.alloc (.cells cs T)) ∧ (∀ l ver x, B l ver = some x → B' l ver = some x) ∧
      B' σ.length 0 = some ⟨w.heap.size, sz, C, true⟩ := by
  have hd : ∀ ver, B σ.length ver = none := fun ver => h.dead _ (.inl (List.getElem?_eq_none (Nat.le_refl _))) ver
  have hup : ∀ l ver x, B l ver = some x → B.upd σ.length 0 ⟨w.heap.size, sz, C, true⟩ l ver = some x := fun _ _ _ hx => BMap.upd_mono B (.inl (hd 0)) hx
  have hkeep : ∀ b, b < w.heap.size → (w.alloc (.cells cs T)).heap[b]? = w.heap[b]? := fun b hb => Below.heap_alloc _ _ _ hb
  have hnew : (w.alloc (.cells cs T)).heap[w.heap.size]? = some (.cells cs T (0, 0)) := by show (w.heap.push _)[w.heap.size]? = _; simp
  have s1 := SR.setRow (w' := w.alloc (.cells cs T)) (l := σ.length) (ver := 0) (sz := sz) (xs := xs) (x := ⟨w.heap.size, sz, C, true⟩) h.push_gone (by simp) (.inl (hd 0)) (fun v y hy => by rw [hd v] at hy; cases hy)
    (by simp) (fun b hb _ => hkeep b hb) (fun _ => .inr (Nat.le_refl _)) (fun _ => by simp)
    ⟨BMap.upd_self .., rfl, hsz, hfit, heach, by simp, fun _ => ⟨cs, T, hnew, hcs, fun i j hi hj => ⟨(hc i j hi hj).1.mono hup (fun _ h => h) (fun b hb => hkeep b (h.ilt b hb)) (Nat.le_refl _), (hc i j hi hj).2⟩⟩⟩
  have e : (σ ++ [AObj.gone]).set σ.length (.row 0 sz xs) = σ ++ [.row 0 sz xs] := by
    rw [List.set_append_right _ _ (Nat.le_refl _)]; simp
  rw [e] at s1
  refine ⟨_, s1, ?_, hup, BMap.upd_self ..⟩
  refine ⟨rfl, rfl, rfl, by simp, fun b hb _ => hkeep b hb, fun l ver x _ hx => hup l ver x hx, fun _ h => h, fun _ h => .inl h, fun l b hb => ?_⟩
  rcases Nat.lt_trichotomy l σ.length with hl | hl | hl
  · have : Cur B σ l = some b := by
      simpa only [Cur, List.getElem?_append_left hl, BMap.upd_ne B _ (Nat.ne_of_lt hl)] using hb
    rcases Nat.lt_or_ge l m with hm' | hm'
    · exact .inr (.inl ⟨hm', this⟩)
    · exact .inr (.inr ⟨hm', l, hm', this⟩)
  · subst hl
    simp [Cur, BMap.upd_self] at hb
    exact .inl (by omega)
  · have : (σ ++ [AObj.row 0 sz xs])[l]? = none := List.getElem?_eq_none (by simp; omega)
    simp [Cur, this] at hb


/-- A nil slice, as a row of its own. -/
theorem SR.newNil {B : BMap} {I : Nat → Prop} {bs : Nat} {σ : List AObj} {w : World} (h : SR B I bs σ w) {sz : Nat} (hsz : 0 < sz) (m : Nat) :
    ∃ B' x, SR B' I bs (σ ++ [.row 0 sz []]) w ∧ Ext m B I σ w B' I (σ ++ [.row 0 sz []]) w ∧ (∀ l ver x, B l ver = some x → B' l ver = some x) ∧ B' σ.length 0 = some x ∧ x.real = false := by
  have hd : ∀ ver, B σ.length ver = none := fun ver => h.dead _ (.inl (List.getElem?_eq_none (Nat.le_refl _))) ver
  have hup : ∀ l ver x, B l ver = some x → B.upd σ.length 0 ⟨0, sz, 0, false⟩ l ver = some x := fun _ _ _ hx => BMap.upd_mono B (.inl (hd 0)) hx
  have s1 := SR.setRow (w' := w) (l := σ.length) (ver := 0) (sz := sz) (xs := []) (x := ⟨0, sz, 0, false⟩) h.push_gone (by simp) (.inl (hd 0)) (fun v y hy => by rw [hd v] at hy; cases hy)
    (Nat.le_refl _) (fun _ _ _ => rfl) (fun h => by cases h) (fun h => by cases h)
    ⟨BMap.upd_self .., rfl, hsz, Nat.le_refl _, (fun y hy => by cases hy), fun _ => rfl, fun h => by cases h⟩
  have e : (σ ++ [AObj.gone]).set σ.length (.row 0 sz []) = σ ++ [.row 0 sz []] := by
    rw [List.set_append_right _ _ (Nat.le_refl _)]; simp
  rw [e] at s1
  refine ⟨_, _, s1, ?_, hup, BMap.upd_self .., rfl⟩
  refine ⟨rfl, rfl, rfl, Nat.le_refl _, fun _ _ _ => rfl, fun l ver x _ hx => hup l ver x hx, fun _ h => h, fun _ h => .inl h, fun l b hb => ?_⟩
  rcases Nat.lt_trichotomy l σ.length with hl | hl | hl
  · have : Cur B σ l = some b := by
      simpa only [Cur, List.getElem?_append_left hl, BMap.upd_ne B _ (Nat.ne_of_lt hl)] using hb
    rcases Nat.lt_or_ge l m with hm' | hm'
    · exact .inr (.inl ⟨hm', this⟩)
    · exact .inr (.inr ⟨hm', l, hm', this⟩)
  · subst hl
    simp [Cur, BMap.upd_self] at hb
  · have : (σ ++ [AObj.row 0 sz []])[l]? = none := List.getElem?_eq_none (by simp; omega)
    simp [Cur, this] at hb

/-- The zero value of a type, as cells. -/
def zeroCells (P : Program) (t : TypeId) : Option (List AVal) :=
  match P.info? t with
  | some i => match i.zero with
    | some z => if z.cells.size = i.size ∧ 0 < i.size ∧ z.cells.all (·.oneCell') then some (z.cells.toList.map .val) else none
    | none => none
  | none => none

/-- A value of a type, out of its cells. -/
def ofCells (q : Option Nat) (cs : List AVal) : AVal :=
  match q with
  | some _ => .agg cs
  | none => cs.headD .any

theorem zeroCells_run {P : Program} {t : TypeId} {zs : List AVal} (h : zeroCells P t = some zs) (w : World) : ∃ z, (zeroValue t).run P w = .ok z w ∧ z.cells.toList.map AVal.val = zs ∧ 0 < zs.length ∧ (sizeOf t).run P w = .ok zs.length w ∧ ∀ k, k < z.cells.size → (z.cells.getD k undef).oneCell' = true := by
  unfold zeroCells at h
  split at h
  · rename_i i hi
    split at h
    · rename_i z hz
      split at h
      · rename_i hs
        cases h
        refine ⟨z, ?_, rfl, by simpa using (by omega : 0 < z.cells.size), ?_, fun k hk => ?_⟩
        · simp [zeroValue, typeInfo, hi, hz, go_sem]
        · rw [run_sizeOf' hi]; simp [hs.1]
        · rw [Array.getD_eq_getD_getElem?, Array.getElem?_eq_getElem hk]
          exact Array.all_eq_true.1 hs.2.2 k hk
      · cases h
    · cases h
  · cases h

/-- The cells of an element that is one or more known values. -/
def asElem (cs : List AVal) : AVal := .agg cs

theorem run_newVar {P : Program} {t : TypeId} {v : Value} (w : World) : (newVar t v).run P w = .ok ⟨w.heap.size, 0, none⟩ (w.alloc (.cells v.cells t)) := by
  simp only [newVar, newRow, Sem.run_bind, run_newObj, Result.andThen, Sem.run_pure]
  rfl

theorem OpA.alloc {cx : Cx} {o : Oper} {env : Env} {σ : List AObj} {K : Kont} {t : TypeId} {zs : List AVal} (ho : o.op = .alloc t) (hz : zeroCells cx.P t = some zs)
    (hk : K (.ptr σ.length 0 0 0) (σ ++ [.row 0 zs.length [.agg zs]])) : OpA cx o env σ K := by
  intro B I a w st next Q' hn
  obtain ⟨z, h1, h2, h3, _, h5⟩ := zeroCells_run hz w
  have hl : z.cells.size = zs.length := by rw [← h2]; simp
  obtain ⟨B', k1, k2, k3, k4⟩ := SR.newRow (T := t) (sz := zs.length) (C := 1) (xs := [.agg zs]) (cs := z.cells) st.sr h3 (by omega) (by simp) (by intro y hy; rw [List.mem_singleton.1 hy]; rfl)
    (by
      intro i j hi hj
      have : i = 0 := by simpa using hi
      subst this
      have hjz : j < z.cells.size := by omega
      have : ([AVal.agg zs].getD 0 .any).cells.getD j .any = .val (z.cells.getD j undef) := by
        show zs.getD j .any = _
        rw [← h2, List.getD_eq_getElem?_getD]
        simp [hjz]
      rw [this, Nat.zero_mul, Nat.zero_add]
      exact ⟨.val _, h5 j hjz⟩) cx.m
  refine wp_value (v := .pointer (some ⟨w.heap.size, 0, none⟩)) (by simp [ho]) ?_ (hn _ _ B' I _ _ hk k1 ?_ k2 k3)
  · simp only [execOp, ho, Instr.alloc, Sem.run_bind, h1, Result.andThen, run_newVar, Sem.run_pure]
  · have := RV.ptr (B := B') (I := I) (bs := cx.bs) (w := w.alloc (.cells z.cells t)) (i := 0) (j := 0) k4 rfl
    simpa using this

theorem getD_toList' {vs : Array Value} {k : Nat} : vs.toList.getD k undef = vs.getD k undef := by
  rw [List.getD_eq_getElem?_getD, Array.getElem?_toList, ← Array.getD_eq_getD_getElem?]

theorem OpA.box {cx : Cx} {o : Oper} {env : Env} {σ : List AObj} {K : Kont} {t : TypeId} {x : Operand} (ho : o.op = .box t x) (hlen : 0 < (aeval env x).cells.length)
    (hlf : (aeval env x).cells.all AVal.leaf = true)
    (hk : K (.ptr σ.length 0 0 0) (σ ++ [.row 0 (aeval env x).cells.length [aeval env x]])) : OpA cx o env σ K := by
  intro B I a w st next Q' hn
  have hv := st.eval x
  have hcells : (aeval env x).cells.length = (a.eval x).cells.size ∧ ∀ k, k < (aeval env x).cells.length → RV B I cx.bs w ((aeval env x).cells.getD k .any) ((a.eval x).cells.getD k undef) := by
    have hlf' := List.all_eq_true.1 hlf
    by_cases hval : ∃ v, aeval env x = .val v
    · obtain ⟨v, e⟩ := hval
      have h1 : v.oneCell' = true := by have := hlf' (aeval env x) (by rw [e]; simp [AVal.cells]); rw [e] at this; exact this
      rw [e] at hv ⊢
      have hv' := hv.valEq
      rw [hv']
      have hc : v.cells = #[v] := by cases v <;> first | rfl | cases h1
      rw [hc]
      refine ⟨rfl, fun k hk => ?_⟩
      have : k = 0 := by simpa [AVal.cells] using hk
      subst this
      exact .val _
    · refine hv.cells (fun e => ?_) (fun v e => hval ⟨v, e⟩)
      have := hlf' (aeval env x) (by rw [e]; simp [AVal.cells])
      rw [e] at this; cases this
  obtain ⟨c1, c2⟩ := hcells
  obtain ⟨B', k1, k2, k3, k4⟩ := SR.newRow (T := t) (sz := (aeval env x).cells.length) (C := 1) (xs := [aeval env x]) (cs := (a.eval x).cells) st.sr hlen (by omega) (by simp) (by intro y hy; rw [List.mem_singleton.1 hy])
    (by
      intro i j hi hj
      have : i = 0 := by simpa using hi
      subst this
      rw [Nat.zero_mul, Nat.zero_add]
      exact ⟨c2 j hj, (leaf_one (c2 j hj) (List.all_eq_true.1 hlf _ (mem_getD hj))).1⟩) cx.m
  refine wp_value (v := .pointer (some ⟨w.heap.size, 0, none⟩)) (by simp [ho]) ?_ (hn _ _ B' I _ _ hk k1 ?_ k2 k3)
  · simp only [execOp, ho, Instr.box, Sem.run_bind, Result.andThen, run_newVar, Sem.run_pure]
  · have := RV.ptr (B := B') (I := I) (bs := cx.bs) (w := w.alloc (.cells (a.eval x).cells t)) (i := 0) (j := 0) k4 rfl
    simpa using this

end Go.Abs

/- The abstract layer, part 7: numbers, truth values, strings; small operations. -/
namespace Go.Abs
open Go Go.RowKit

def intA (op : BinOp) (k : IntKind) (a b : Int) : Option Value :=
  match op with
  | .add => some (.int k (k.wrap (a + b)))
  | .sub => some (.int k (k.wrap (a - b)))
  | .mul => some (.int k (k.wrap (a * b)))
  | .quo => if b = 0 then none else some (.int k (k.wrap (a.tdiv b)))
  | .rem => if b = 0 then none else some (.int k (a.tmod b))
  | .eql => some (.bool (decide (a = b)))
  | .neq => some (.bool (!decide (a = b)))
  | .lss => some (.bool (decide (a < b)))
  | .leq => some (.bool (decide (a ≤ b)))
  | .gtr => some (.bool (decide (b < a)))
  | .geq => some (.bool (decide (b ≤ a)))
  | .and => some (.int k (k.wrap (BitVec.ofInt k.bits a &&& BitVec.ofInt k.bits b).toNat))
  | .or => some (.int k (k.wrap (BitVec.ofInt k.bits a ||| BitVec.ofInt k.bits b).toNat))
  | .xor => some (.int k (k.wrap (BitVec.ofInt k.bits a ^^^ BitVec.ofInt k.bits b).toNat))
  | .shl => if b < 0 then none else some (.int k (k.wrap (a * 2 ^ (min b.toNat k.bits))))
  | .shr => if b < 0 then none else some (.int k (a.fdiv (2 ^ (min b.toNat k.bits))))
  | _ => none

theorem beq_decide (a b : Int) : (a == b) = decide (a = b) := by
  by_cases h : a = b <;> simp [h]

theorem bne_decide (a b : Int) : (a != b) = !decide (a = b) := by
  by_cases h : a = b <;> simp [h]

theorem intA_run {P : Program} {w : World} {op : BinOp} {t : TypeId} {k : IntKind} {a b : Int} {r : Value} (h : intA op k a b = some r) : (binOp op t (.int k a) (.int k b)).run P w = .ok r w := by
  cases op <;> simp only [intA] at h <;> first
    | cases h; done
    | (cases h; simp [binOp, Op.intArith, Op.intCmp, Op.intBits, beq_decide, bne_decide]; done)
    | (split at h
       · cases h
       · rename_i hb; cases h; simp [binOp, Op.intDiv, Op.shift, hb])

def strA (op : BinOp) (a b : ByteArray) : Option Value :=
  match op with
  | .eql => some (.bool (decide (a = b)))
  | .neq => some (.bool (!decide (a = b)))
  | _ => none

theorem toList_loop (bs : ByteArray) : ∀ (n i : Nat) (r : List UInt8), n = bs.size - i → ByteArray.toList.loop bs i r = r.reverse ++ bs.data.toList.drop i := by
  intro n
  induction n with
  | zero =>
    intro i r h
    unfold ByteArray.toList.loop
    rw [if_neg (by omega), List.drop_eq_nil_of_le (by simp only [Array.length_toList]; show bs.size ≤ i; omega)]
    simp
  | succ n ih =>
    intro i r h
    unfold ByteArray.toList.loop
    rw [if_pos (by omega), ih (i + 1) _ (by omega)]
    have hi : i < bs.data.toList.length := by simp only [Array.length_toList]; show i < bs.size; omega
    rw [List.drop_eq_getElem_cons hi]
    have : bs.get! i = bs.data.toList[i] := by
      show bs.data[i]! = _
      rw [getElem!_pos bs.data i (by simpa using hi)]
      simp
    simp [this]

theorem toList_eq (bs : ByteArray) : bs.toList = bs.data.toList := by
  unfold ByteArray.toList
  rw [toList_loop bs (bs.size - 0) 0 [] rfl]
  simp

theorem str_beq (a b : ByteArray) : (a.toList == b.toList) = decide (a = b) := by
  rw [toList_eq, toList_eq]
  by_cases h : a = b
  · subst h; simp
  · have : a.data ≠ b.data := by
      intro e
      apply h
      cases a; cases b
      simpa using e
    simp [h, this]

theorem strA_run {P : Program} {w : World} {op : BinOp} {t : TypeId} {a b : ByteArray} {r : Value} (h : strA op a b = some r) : (binOp op t (.string a) (.string b)).run P w = .ok r w := by
  cases op <;> simp only [strA] at h <;> first
    | cases h; done
    | (cases h; simp [binOp, Op.stringOp, str_beq])

theorem OpQ.binInt {cx : Cx} {o : Oper} {env : Env} {σ : List AObj} {K : Kont} {op : BinOp} {t yt : TypeId} {x y : Operand} {k : IntKind} {a b : Int} {r : Value} (ho : o.op = .binOp op t x y yt)
    (hx : aeval env x = .val (.int k a)) (hy : aeval env y = .val (.int k b)) (hr : intA op k a b = some r) (hk : K (.val r) σ) : OpQ cx o env σ K :=
  .same hk fun B I ρ w st _ => by
    have hu := st x
    have hv := st y
    rw [hx] at hu
    rw [hy] at hv
    refine ⟨r, ?_, .val r⟩
    have e1 : (eqGuard op t x y (.int k a) (.int k b)).run cx.P w = .ok () w := by
      unfold eqGuard
      cases op <;> rfl
    simp only [execOp, ho, hu.valEq, hv.valEq, Sem.run_bind, e1, Result.andThen, intA_run hr, Sem.run_pure]

theorem OpQ.binStr {cx : Cx} {o : Oper} {env : Env} {σ : List AObj} {K : Kont} {op : BinOp} {t yt : TypeId} {x y : Operand} {a b : ByteArray} {r : Value} (ho : o.op = .binOp op t x y yt)
    (hx : aeval env x = .val (.string a)) (hy : aeval env y = .val (.string b)) (hr : strA op a b = some r) (hk : K (.val r) σ) : OpQ cx o env σ K :=
  .same hk fun B I ρ w st _ => by
    have hu := st x
    have hv := st y
    rw [hx] at hu
    rw [hy] at hv
    refine ⟨r, ?_, .val r⟩
    have e1 : (eqGuard op t x y (.string a) (.string b)).run cx.P w = .ok () w := by
      unfold eqGuard
      cases op <;> rfl
    simp only [execOp, ho, hu.valEq, hv.valEq, Sem.run_bind, e1, Result.andThen, strA_run hr, Sem.run_pure]

theorem OpQ.not {cx : Cx} {o : Oper} {env : Env} {σ : List AObj} {K : Kont} {t : TypeId} {x : Operand} {b : Bool} (ho : o.op = .unOp .not t x) (hx : aeval env x = .val (.bool b)) (hk : K (.val (.bool (!b))) σ) : OpQ cx o env σ K :=
  .same hk fun B I ρ w st _ => by
    have hu := st x
    rw [hx] at hu
    exact ⟨_, by simp [execOp, ho, hu.valEq, Op.unary], .val _⟩

theorem OpQ.neg {cx : Cx} {o : Oper} {env : Env} {σ : List AObj} {K : Kont} {t : TypeId} {x : Operand} {k : IntKind} {a : Int} (ho : o.op = .unOp .neg t x) (hx : aeval env x = .val (.int k a)) (hk : K (.val (.int k (k.wrap (-a)))) σ) : OpQ cx o env σ K :=
  .same hk fun B I ρ w st _ => by
    have hu := st x
    rw [hx] at hu
    exact ⟨_, by simp [execOp, ho, hu.valEq, Op.unary, Op.intArith], .val _⟩

/-- Not nil: a value behind which something lies. -/
def AVal.solid : AVal → Bool
  | .ptr .. | .eptr .. | .iface .. => true
  | .func (.func _) _ _ => true
  | _ => false

theorem OpQ.nilCheck {cx : Cx} {o : Oper} {env : Env} {σ : List AObj} {K : Kont} {x : Operand} (ho : o.op = .nilCheck x) (hx : (aeval env x).solid = true) (hk : K (aeval env x) σ) : OpQ cx o env σ K :=
  .same hk fun B I ρ w st _ => by
    have hu := st x
    refine ⟨ρ x, ?_, hu⟩
    simp only [execOp, ho]
    generalize hρ : ρ x = u at hu
    generalize aeval env x = av at hx hu
    cases hu <;> first | cases hx; done | rfl | skip
    rename_i f first caps fv cv h1 h2 h3 h4
    cases f <;> first | cases hx; done | rfl

theorem OpQ.extract {cx : Cx} {o : Oper} {env : Env} {σ : List AObj} {K : Kont} {x : Operand} {i : Nat} {vs : List AVal} (ho : o.op = .extract x i) (hx : aeval env x = .tuple vs) (hi : i < vs.length) (hk : K (vs.getD i .any) σ) : OpQ cx o env σ K :=
  .same hk fun B I ρ w st _ => by
    have hu := st x
    rw [hx] at hu
    generalize hρ : ρ x = u at hu
    cases hu with
    | tuple hl hc =>
      rename_i us
      refine ⟨us.getD i undef, ?_, hc i hi⟩
      have : us[i]? = some (us.getD i undef) := by rw [Array.getD_eq_getD_getElem?, Array.getElem?_eq_getElem (by omega)]; rfl
      simp only [execOp, ho, hρ, Instr.extract, this, Sem.run_bind, Sem.run_pure, Result.andThen]

theorem getD_map_ops {B : BMap} {I : Nat → Prop} {bs : Nat} {w : World} {env : Env} {ρ : Operand → Value} (h : ∀ x, RV B I bs w (aeval env x) (ρ x)) (xs : Array Operand) :
    (xs.toList.map (aeval env)).length = (xs.map ρ).size ∧ ∀ k, k < (xs.toList.map (aeval env)).length → RV B I bs w ((xs.toList.map (aeval env)).getD k .any) ((xs.map ρ).getD k undef) := by
  refine ⟨by simp, fun k hk => ?_⟩
  simp only [List.length_map, Array.length_toList] at hk
  have e1 : (xs.toList.map (aeval env)).getD k .any = aeval env xs[k] := by simp [List.getD_eq_getElem?_getD, hk]
  have e2 : (xs.map ρ).getD k undef = ρ xs[k] := by simp [Array.getD_eq_getD_getElem?, hk]
  rw [e1, e2]
  exact h _

theorem OpQ.makeFunc {cx : Cx} {o : Oper} {env : Env} {σ : List AObj} {K : Kont} {f : Fn} {first caps : Array Operand} (ho : o.op = .makeFunc f first caps)
    (hk : K (.func f (first.toList.map (aeval env)) (caps.toList.map (aeval env))) σ) : OpQ cx o env σ K :=
  .same hk fun B I ρ w st _ => by
    obtain ⟨h1, h2⟩ := getD_map_ops st first
    obtain ⟨h3, h4⟩ := getD_map_ops st caps
    exact ⟨_, by simp only [execOp, ho, Instr.makeFunc, Sem.run_bind, Sem.run_pure, Result.andThen], .func h1 h3 h2 h4⟩

end Go.Abs

/- The abstract layer, part 8: slices. -/
namespace Go.Abs
open Go Go.RowKit

/-- The element's size of a slice type. -/
def selem (P : Program) (t : TypeId) : Option Nat :=
  match P.underlying t with
  | some (.slice e) => match P.info? e with | some i => if 0 < i.size then some i.size else none | none => none
  | _ => none

theorem selem_spec {P : Program} {t : TypeId} {n : Nat} (h : selem P t = some n) : 0 < n ∧ ∃ e i, P.underlying t = some (.slice e) ∧ P.info? e = some i ∧ i.size = n := by
  unfold selem at h
  split at h
  · rename_i e he
    split at h
    · rename_i i hi
      split at h
      · rename_i h0; cases h; exact ⟨h0, e, i, he, hi, rfl⟩
      · cases h
    · cases h
  · cases h

def indexAddrA (sz : Nat) (av : AVal) (i : Int) (σ : List AObj) (K : Kont) : Prop :=
  match av with
  | .row l ver off len => match σ[l]? with
    | some (.row v sz' _) => (ver = v ∧ sz' = sz ∧ 0 ≤ i ∧ i < len) ∧ K (.ptr l ver (off + i.toNat) 0) σ
    | _ => False
  | .list _ sz' xs => (sz' = sz ∧ 0 ≤ i ∧ i < xs.length) ∧ K (.eptr (xs.getD i.toNat .any).cells 0) σ
  | _ => False

theorem OpQ.indexAddr {cx : Cx} {o : Oper} {env : Env} {σ : List AObj} {K : Kont} {t : TypeId} {x y : Operand} {sz : Nat} {k : IntKind} {i : Int} (ho : o.op = .indexAddr t x y) (ht : selem cx.P t = some sz)
    (hy : aeval env y = .val (.int k i)) (hk : indexAddrA sz (aeval env x) i σ K) : OpQ cx o env σ K := by
  obtain ⟨h0, e, inf, hu, hinf, hsz⟩ := selem_spec ht
  have fin : ∀ (ρ : Operand → Value) (w : World) (b ofs len cap : Nat), ρ x = .slice (some ⟨b, ofs, none⟩) len cap → ρ y = .int k i → 0 ≤ i → i < len →
      (execOp ρ o).run cx.P w = .ok (.value (.pointer (some ⟨b, ofs + i.toNat * sz, none⟩))) w := by
    intro ρ w b ofs len cap hx hy' h1 h2
    simp only [execOp, ho, hx, hy', Instr.indexAt, asIntOf, Sem.run_bind, Sem.run_pure, Result.andThen, run_underlying' hu, run_sizeOf' hinf, hsz, h1, h2, and_self, if_true, add_none]
  unfold indexAddrA at hk
  split at hk
  · rename_i l ver off len hx
    split at hk
    · rename_i v sz' xs hσ
      obtain ⟨⟨rfl, rfl, h1, h2⟩, hk⟩ := hk
      refine .same hk fun B I ρ w st sr => ?_
      have hv := st x
      have hw := st y
      rw [hx] at hv
      rw [hy] at hw
      generalize hρ : ρ x = u at hv
      obtain ⟨z, hz⟩ := sr.row _ _ _ _ hσ
      cases hv with
      | row hB hr hle =>
        rename_i z'
        obtain rfl : z' = z := Option.some.inj (hB.symm.trans hz.at_)
        refine ⟨_, fin ρ w _ _ _ _ hρ hw.valEq h1 h2, ?_⟩
        have := RV.ptr (B := B) (I := I) (bs := cx.bs) (w := w) (i := off + i.toNat) (j := 0) hB hr
        rw [hz.hsz, Nat.add_zero, Nat.add_mul] at this
        rw [hz.hsz]
        exact this
      | rowEnd => simp at h2; omega
      | rowNil => simp at h2; omega
    · exact hk.elim
  · rename_i tg sz' xs hx
    obtain ⟨⟨rfl, h1, h2⟩, hk⟩ := hk
    refine .same hk fun B I ρ w st _ => ?_
    have hv := st x
    have hw := st y
    rw [hx] at hv
    rw [hy] at hw
    generalize hρ : ρ x = u at hv
    cases hv with
    | nil => simp at h2; omega
    | list hI hN hsz' hl hb ho' hc h1' hcap =>
      rename_i b' o' cap' cs' T' fr'
      have hlt : i.toNat < xs.length := by omega
      have hlen := hl _ (mem_getD hlt)
      refine ⟨_, fin ρ w _ _ _ _ hρ hw.valEq h1 h2, ?_⟩
      have hmul : i.toNat * sz' + sz' ≤ xs.length * sz' := by
        calc i.toNat * sz' + sz' = (i.toNat + 1) * sz' := by rw [Nat.add_mul, Nat.one_mul]
          _ ≤ xs.length * sz' := Nat.mul_le_mul_right _ (by omega)
      have := RV.eptr (B := B) (I := I) (bs := cx.bs) (w := w) (cs := (xs.getD i.toNat .any).cells) (j := 0) hI hb (show o' + i.toNat * sz' + (xs.getD i.toNat .any).cells.length ≤ cs'.size by omega)
        (fun q hq => by rw [hlen] at hq; exact hc _ _ hlt hq)
      rw [Nat.add_zero] at this
      exact this
  · exact hk.elim

/-- How long a slice (or, if b, a string) is. -/
def lenA (b : Bool) (av : AVal) : Option Int :=
  match b, av with
  | false, .row _ _ _ len => some len
  | false, .list _ _ xs => some xs.length
  | true, .val (.string s) => some s.size
  | false, .val (.slice _ n _) => some n
  | _, _ => none

theorem RV.len {B : BMap} {I : Nat → Prop} {bs : Nat} {w : World} {av : AVal} {v : Value} {b : Bool} {n : Int} (h : RV B I bs w av v) (hn : lenA b av = some n) :
    (b = false ∧ ∃ a k c, v = .slice a k c ∧ n = k) ∨ (b = true ∧ ∃ s, v = .string s ∧ n = s.size) := by
  cases h with
  | val u =>
    cases b <;> cases v <;> simp [lenA] at hn
    · exact .inl ⟨rfl, _, _, _, rfl, hn.symm⟩
    · exact .inr ⟨rfl, _, rfl, hn.symm⟩
  | nil => cases b <;> simp [lenA] at hn; exact .inl ⟨rfl, _, _, _, rfl, hn.symm⟩
  | list => cases b <;> simp [lenA] at hn; exact .inl ⟨rfl, _, _, _, rfl, hn.symm⟩
  | row => cases b <;> simp [lenA] at hn; exact .inl ⟨rfl, _, _, _, rfl, hn.symm⟩
  | rowEnd => cases b <;> simp [lenA] at hn; exact .inl ⟨rfl, _, _, _, rfl, hn.symm⟩
  | rowNil => cases b <;> simp [lenA] at hn; exact .inl ⟨rfl, _, _, _, rfl, hn.symm⟩
  | _ => cases b <;> cases hn

def isLenT (P : Program) (t : TypeId) : Option Bool :=
  match P.underlying t with
  | some .string => some true
  | some (.slice _) => some false
  | _ => none

theorem run_builtin {P : Program} {o : Oper} {b : Builtin} {args : Array Operand} {ts : Array TypeId} (ho : o.op = .call { callee := .builtin b, args := args, argTypes := ts }) (ρ : Operand → Value) (w : World) :
    (execOp ρ o).run P w = (builtin b ts o.type (args.map fun | .const _ => true | _ => false) (args.map ρ)).run P w := by
  simp only [execOp, ho, resolve, Sem.run_bind, Sem.run_pure, Result.andThen, invoke]
  rfl

theorem OpQ.len {cx : Cx} {o : Oper} {env : Env} {σ : List AObj} {K : Kont} {t : TypeId} {x : Operand} {n : Int} {b : Bool} (ho : o.op = .call { callee := .builtin .len, args := #[x], argTypes := #[t] })
    (ht : isLenT cx.P t = some b) (hn : lenA b (aeval env x) = some n) (hk : K (.val (.int .i64 n)) σ) : OpQ cx o env σ K :=
  .same hk fun B I ρ w st _ => by
    refine ⟨_, ?_, .val _⟩
    have hv := st x
    have e0 : #[x].map ρ = #[ρ x] := by simp
    rw [run_builtin ho, e0]
    simp only [builtin, Sem.run_bind]
    unfold isLenT at ht
    rcases hv.len hn with ⟨rfl, a, k, c, e, rfl⟩ | ⟨rfl, s, e, rfl⟩
    · split at ht
      · cases ht
      · rename_i el hu
        rw [e]
        simp [Builtin.len_, run_underlying' hu, goInt, Result.andThen]
      · cases ht
    · split at ht
      · rename_i hu
        rw [e]
        simp [Builtin.len_, run_underlying' hu, goInt, Result.andThen]
      · cases ht
      · cases ht

end Go.Abs

/- The abstract layer, part 9: append, make, slicing. -/
namespace Go.Abs
open Go Go.RowKit

/-- The elements of a slice. -/
def srcA (σ : List AObj) (sz : Nat) (av : AVal) : Option (List AVal) :=
  match av with
  | .list _ sz' xs => if sz' = sz then some xs else none
  | .row l ver off len => match σ[l]? with
    | some (.row v sz' xs) => if ver = v ∧ sz' = sz ∧ off + len ≤ xs.length then some ((xs.drop off).take len) else none
    | _ => none
  | .val (.slice none 0 0) => some []
  | _ => none

theorem getD_ext {a b : Array Value} (h : a.size = b.size) (hg : ∀ k, k < a.size → a.getD k undef = b.getD k undef) : a = b := by
  apply Array.ext h
  intro k h1 h2
  have := hg k h1
  simpa [Array.getD_eq_getD_getElem?, h1, h2] using this

theorem cell_heap {w w1 : World} (h : w1.heap = w.heap) (a : Addr) : w1.cell? a = w.cell? a := by simp only [World.cell?, h]

theorem run_loadCells {P : Program} {w : World} {b o n : Nat} (g : Nat → Value) (h : ∀ k, k < n → w.cell? ⟨b, o + k, none⟩ = some (g k)) :
    ∃ vs : Array Value, (∀ w1 : World, w1.heap = w.heap → (loadCells ⟨b, o, none⟩ n).run P w1 = .ok vs w1) ∧ vs.size = n ∧ ∀ k, k < n → vs.getD k undef = g k := by
  have key : ∀ w1 : World, w1.heap = w.heap → ∃ vs : Array Value, (loadCells ⟨b, o, none⟩ n).run P w1 = .ok vs w1 ∧ vs.size = n ∧ ∀ k, k < n → vs.getD k undef = g k := by
    intro w1 hw
    obtain ⟨vs, hr, hs, _, hn⟩ := run_loadCellsFrom' (P := P) (w := w1) (b := b) (o := o) g n 0 #[] (fun k hk => by rw [cell_heap hw]; simpa using h k hk)
    exact ⟨vs, hr, by simpa using hs, fun k hk => by simpa using hn k hk⟩
  obtain ⟨vs, _, hs, hn⟩ := key w rfl
  refine ⟨vs, fun w1 hw => ?_, hs, hn⟩
  obtain ⟨vs1, hr1, hs1, hn1⟩ := key w1 hw
  rw [hr1, getD_ext (hs1.trans hs.symm) (fun k hk => (hn1 k (hs1 ▸ hk)).trans (hn k (hs1 ▸ hk)).symm)]

theorem mul_lt {i j n sz : Nat} (hi : i < n) (hj : j < sz) : i * sz + j < n * sz := by
  calc i * sz + j < i * sz + sz := by omega
    _ = (i + 1) * sz := by rw [Nat.add_mul, Nat.one_mul]
    _ ≤ n * sz := Nat.mul_le_mul_right _ (by omega)

theorem src_spec {P : Program} {B : BMap} {I : Nat → Prop} {bs : Nat} {σ : List AObj} {w : World} {sz : Nat} {av : AVal} {v : Value} {ys : List AVal} (hsz : 0 < sz) (hs : SR B I bs σ w) (hv : RV B I bs w av v) (h : srcA σ sz av = some ys) :
    (∃ a c, v = .slice a ys.length c) ∧ (∀ y ∈ ys, y.cells.length = sz) ∧ ∃ vs : Array Value, (∀ w1 : World, w1.heap = w.heap → (Builtin.firstCells sz ys.length v).run P w1 = .ok vs w1) ∧ vs.size = ys.length * sz ∧
      ∀ i j, i < ys.length → j < sz → RV B I bs w ((ys.getD i .any).cells.getD j .any) (vs.getD (i * sz + j) undef) ∧ (vs.getD (i * sz + j) undef).oneCell' = true := by
  have zero : ∀ a c, (∃ a' c', Value.slice a 0 c = .slice a' ([] : List AVal).length c') ∧ (∀ y ∈ ([] : List AVal), y.cells.length = sz) ∧ ∃ vs : Array Value, (∀ w1 : World, w1.heap = w.heap → (Builtin.firstCells sz ([] : List AVal).length (.slice a 0 c)).run P w1 = .ok vs w1) ∧ vs.size = ([] : List AVal).length * sz ∧
      ∀ i j, i < ([] : List AVal).length → j < sz → RV B I bs w ((([] : List AVal).getD i .any).cells.getD j .any) (vs.getD (i * sz + j) undef) ∧ (vs.getD (i * sz + j) undef).oneCell' = true := by
    intro a c
    refine ⟨⟨a, c, rfl⟩, (fun y hy => by cases hy), #[], ?_, by simp, fun i j hi => absurd hi (Nat.not_lt_zero _)⟩
    intro w1 _
    cases a <;> simp [Builtin.firstCells, loadCells, loadCellsFrom]
  unfold srcA at h
  split at h
  · rename_i tg sz' xs
    split at h
    · rename_i e
      cases h
      subst e
      cases hv with
      | nil => exact zero _ _
      | list hI hN hsz' hl hb ho hc h1 hcap =>
        rename_i b o cap cs T fr
        obtain ⟨vs, h4, h2, h3⟩ := run_loadCells (P := P) (w := w) (b := b) (o := o) (n := ys.length * sz') (fun k => cs.getD (o + k) undef) (fun k hk => cell_of hb (by omega))
        refine ⟨⟨_, _, rfl⟩, hl, vs, by simpa [Builtin.firstCells] using h4, h2, fun i j hi hj => ?_⟩
        rw [h3 _ (mul_lt hi hj), ← Nat.add_assoc]
        exact ⟨hc i j hi hj, h1 i j hi hj⟩
    · cases h
  · rename_i l ver off len
    split at h
    · rename_i v' sz' xs hσ
      split at h
      · rename_i e
        cases h
        obtain ⟨rfl, rfl, hle⟩ := e
        obtain ⟨z, hz⟩ := hs.row _ _ _ _ hσ
        have hlen : ((xs.drop off).take len).length = len := by simp; omega
        have hget : ∀ i, i < len → ((xs.drop off).take len).getD i .any = xs.getD (off + i) .any := fun i hi => getD_drop_take hi
        cases hv with
        | rowNil => simpa using zero _ _
        | rowEnd => simpa using zero _ _
        | row hB hr ho =>
          rename_i z'
          obtain rfl : z' = z := Option.some.inj (hB.symm.trans hz.at_)
          obtain ⟨cs, T, hb, hcs, hc⟩ := hz.real hr
          have hfit := hz.fits
          have hmul : off * sz' + len * sz' ≤ cs.size := by
            rw [hcs, ← Nat.add_mul]
            exact Nat.mul_le_mul_right _ (by omega)
          obtain ⟨vs, h1, h2, h3⟩ := run_loadCells (P := P) (w := w) (b := z'.b) (o := off * sz') (n := len * sz') (fun k => cs.getD (off * sz' + k) undef) (fun k hk => cell_of hb (by omega))
          refine ⟨⟨_, _, by rw [hlen]⟩, fun y hy => hz.each _ (List.mem_of_mem_drop (List.mem_of_mem_take hy)), vs, by rw [hlen]; rw [hz.hsz]; simpa [Builtin.firstCells] using h1, by rw [hlen]; exact h2, fun i j hi hj => ?_⟩
          rw [hlen] at hi
          rw [h3 _ (mul_lt hi hj), hget i hi, ← Nat.add_assoc, ← Nat.add_mul]
          exact hc _ _ (by omega) hj
      · cases h
    · cases h
  · cases h
    cases hv.valEq
    exact zero _ _
  · cases h

/-- The bytes that an element of a slice type takes. -/
def sbytes (P : Program) (t : TypeId) : Nat :=
  match P.underlying t with
  | some (.slice e) => ((P.info? e).map (·.bytes)).getD 0
  | _ => 0

/-- Is it a slice type, and not one of numbers' (which the machine takes for a length to append zeros)? -/
def isSl (P : Program) (t : TypeId) : Bool := match P.underlying t with | some (.slice _) => true | _ => false

theorem nextslicecap_le (n c : Nat) (h : c < n) : Builtin.nextslicecap n c ≤ 4 * n + 4096 := by
  have g : ∀ r c, c ≤ 4 * n + 4096 → (c < n → True) → Builtin.growBy n r c ≤ max c (2 * n + 768) := by
    intro r
    induction r with
    | zero => intro c _ _; simp [Builtin.growBy]; omega
    | succ r ih =>
      intro c hc _
      unfold Builtin.growBy
      split
      · omega
      · have := ih (c + (c + 768) / 4) (by omega) (fun _ => trivial)
        omega
  unfold Builtin.nextslicecap
  split
  · omega
  · split
    · omega
    · have := g 4 c (by omega) (fun _ => trivial)
      omega

theorem choose_cap {P : Program} (w : World) (need old : Nat) (e : TypeId) : ∃ c w1, (choose (.appendCap need old e)).run P w = .ok c w1 ∧ need ≤ c ∧ w1.heap = w.heap ∧ w1.os = w.os ∧ w1.tape = w.tape ∧ w1.output = w.output := by
  refine ⟨_, { w with drawn := w.drawn + 1 }, by rw [run_choose]; simp only [Question.forced, Bool.false_eq_true, if_false]; rfl, ?_, rfl, rfl, rfl, rfl⟩
  simp only [Question.cut]
  omega

/-- THE RUN OF append: in place, or in a new block. -/
theorem run_append' {P : Program} {w : World} {t tx ty e : TypeId} {i : TypeInfo} {z : Value} {sz : Nat} (ht : P.underlying t = some (.slice e)) (hi : P.info? e = some i) (hz : i.zero = some z) (hsz : i.size = sz)
    (htx : isSl P tx = true) {base : Option Addr} {len cap n c2 : Nat} {a2 : Option Addr} {olds news : Array Value}
    (hold : ∀ w1 : World, w1.heap = w.heap → (Builtin.firstCells sz len (.slice base len cap)).run P w1 = .ok olds w1) (hnew : ∀ w1 : World, w1.heap = w.heap → (Builtin.firstCells sz n (.slice a2 n c2)).run P w1 = .ok news w1)
    (hroom : (4 * (len + n) + 4096) * i.bytes ≤ 2 ^ 48) (h63 : ((len + n : Nat) : Int) ≤ IntKind.i64.max) :
    (len + n ≤ cap ∧ (Builtin.append_ #[t, tx] ty #[.slice base len cap, .slice a2 n c2]).run P w =
      (match base with | some a => (storeCells (a.add (len * sz)) news.toList).run P w | none => .ok () w).andThen fun _ w' => .ok (.slice base (len + n) cap) w') ∨
    (cap < len + n ∧ ∃ (newCap : Nat) (w1 : World), len + n ≤ newCap ∧ w1.heap = w.heap ∧ w1.os = w.os ∧ w1.tape = w.tape ∧ w1.output = w.output ∧
      (Builtin.append_ #[t, tx] ty #[.slice base len cap, .slice a2 n c2]).run P w =
      .ok (.slice (some ⟨w.heap.size, 0, none⟩) (len + n) newCap) (w1.alloc (.cells (olds ++ news ++ Builtin.zeroCells z.cells (newCap - (len + n))) e))) := by
  obtain ⟨e2, htx'⟩ : ∃ e2, P.underlying tx = some (.slice e2) := by
    unfold isSl at htx
    split at htx
    · exact ⟨_, by assumption⟩
    · cases htx
  have hzero : ∀ w, (zeroValue e).run P w = .ok z w := fun w => by simp [zeroValue, typeInfo, hi, hz, go_sem]
  have hinfo : ∀ w, (typeInfo e).run P w = .ok i w := fun w => by simp [typeInfo, hi, go_sem]
  have hsize : ∀ w, (sizeOf e).run P w = .ok sz w := fun w => by rw [run_sizeOf' hi, hsz]
  by_cases hc : len + n ≤ cap
  · refine .inl ⟨hc, ?_⟩
    simp only [Builtin.append_]
    simp only [List.getElem?_toArray, List.getElem?_cons_zero, List.getElem?_cons_succ, Sem.run_bind, run_underlying' ht, run_underlying' htx', Result.andThen, hsize, Sem.run_pure, Bool.false_eq_true, if_false, Builtin.lenOf, hc, if_true, Bool.not_false, hnew w rfl]
    cases base with
    | none => simp only [Sem.run_pure]
    | some a => simp only [Sem.run_bind, Sem.run_pure, Result.andThen]
  · refine .inr ⟨by omega, ?_⟩
    obtain ⟨nc, w1, h1, h2, h3, h4, h5, h6⟩ := choose_cap (P := P) w (len + n) cap e
    refine ⟨nc, w1, h2, h3, h4, h5, h6, ?_⟩
    have hb : ¬ (((Builtin.nextslicecap (len + n) cap) * i.bytes > 2 ^ 48)) := by
      have := nextslicecap_le (len + n) cap (by omega)
      have := Nat.mul_le_mul_right i.bytes this
      omega
    simp only [Builtin.append_]
    simp only [List.getElem?_toArray, List.getElem?_cons_zero, List.getElem?_cons_succ, Sem.run_bind, run_underlying' ht, run_underlying' htx', Result.andThen, hsize, Sem.run_pure, Bool.false_eq_true, if_false, Builtin.lenOf, hc, if_true, Bool.not_false]
    have h64 : ¬ (((len + n : Nat) : Int) > IntKind.i64.max ∧ (False ∨ i.bytes = 0)) := fun h => absurd h.1 (by omega)
    have hzero' := hzero w1
    simp only [hinfo, h64, if_false, Sem.run_bind, hb, h1, Result.andThen, run_askRoom, hold w1 h3, hnew w1 h3, hzero', newRow, run_newObj, Sem.run_pure]
    show _ = Result.ok _ { w1 with heap := w1.heap.push _ }
    rw [h3]


theorem zeroCells_size {z : Array Value} {n : Nat} : (Builtin.zeroCells z n).size = n * z.size := by simp [Builtin.zeroCells]

theorem getD_append_l {a b : Array Value} {k : Nat} (h : k < a.size) : (a ++ b).getD k undef = a.getD k undef := by
  simp [Array.getD_eq_getD_getElem?, Array.getElem?_append, h]

theorem getD_append_r {a b : Array Value} {k : Nat} (h : a.size ≤ k) : (a ++ b).getD k undef = b.getD (k - a.size) undef := by
  simp [Array.getD_eq_getD_getElem?, Array.getElem?_append, Nat.not_lt.2 h]

theorem getD_app {xs ys : List AVal} {i : Nat} : (xs ++ ys).getD i .any = if i < xs.length then xs.getD i .any else ys.getD (i - xs.length) .any := by
  simp only [List.getD_eq_getElem?_getD, List.getElem?_append]
  split <;> rfl

theorem getD_take' {xs : List AVal} {n i : Nat} (h : i < n) : (xs.take n).getD i .any = xs.getD i .any := by
  simp [List.getD_eq_getElem?_getD, h]

/-- What is known of a slice type for append and make: its element's cells, bytes and zero. -/
structure SlT (P : Program) (t : TypeId) (sz bytes : Nat) (zs : List AVal) : Prop where
  pos : 0 < sz
  ex : ∃ e i z, P.underlying t = some (.slice e) ∧ P.info? e = some i ∧ i.zero = some z ∧ z.cells.size = sz ∧ i.size = sz ∧ i.bytes = bytes ∧ z.cells.toList.map AVal.val = zs ∧ ∀ k, k < z.cells.size → (z.cells.getD k undef).oneCell' = true

/-- The same, reckoned. -/
def slT (P : Program) (t : TypeId) : Option (Nat × Nat × List AVal) :=
  match P.underlying t with
  | some (.slice e) => match P.info? e with
    | some i => match i.zero with
      | some z => if z.cells.size = i.size ∧ 0 < i.size ∧ z.cells.all (·.oneCell') then some (i.size, i.bytes, z.cells.toList.map AVal.val) else none
      | none => none
    | none => none
  | _ => none

theorem slT_spec {P : Program} {t : TypeId} {sz bytes : Nat} {zs : List AVal} (h : slT P t = some (sz, bytes, zs)) : SlT P t sz bytes zs := by
  unfold slT at h
  split at h
  · rename_i e he
    split at h
    · rename_i i hi
      split at h
      · rename_i z hz
        split at h
        · rename_i hh
          cases h
          exact ⟨hh.2.1, e, i, z, he, hi, hz, hh.1, rfl, rfl, rfl, fun k hk => by
            rw [Array.getD_eq_getD_getElem?, Array.getElem?_eq_getElem hk]
            exact Array.all_eq_true.1 hh.2.2 k hk⟩
        · cases h
      · cases h
    · cases h
  · cases h

/-- What append may be given, and what comes of it. room: 'the new length, and bytes of an element'. -/
def appendA (sz bytes : Nat) (s x : AVal) (σ : List AObj) (K : Kont) : Prop :=
  match srcA σ sz x with
  | none => False
  | some ys => match s with
    | .row l ver off len => match σ[l]? with
      | some (.row v sz' xs) => if len < xs.length ∧ len + ys.length ≤ xs.length then
          (ver = v ∧ sz' = sz ∧ off = 0 ∧ (4 * (len + ys.length) + 4096) * bytes ≤ 281474976710656 ∧ len + ys.length ≤ 4611686018427387904) ∧
            K (.row l v 0 (len + ys.length)) (σ.set l (.row v sz (xs.take len ++ ys ++ xs.drop (len + ys.length))))
        else (ver = v ∧ sz' = sz ∧ off = 0 ∧ len ≤ xs.length ∧ (4 * (len + ys.length) + 4096) * bytes ≤ 281474976710656 ∧ len + ys.length ≤ 4611686018427387904) ∧
          K (.row l (v + 1) 0 (len + ys.length)) (σ.set l (.row (v + 1) sz (xs.take len ++ ys)))
      | _ => False
    | .val (.slice none 0 0) => ((4 * ys.length + 4096) * bytes ≤ 281474976710656 ∧ ys.length ≤ 4611686018427387904) ∧ K (.row σ.length 0 0 ys.length) (σ ++ [.row 0 sz ys])
    | _ => False

end Go.Abs

/- The abstract layer, part 10: append, as an operation. -/
namespace Go.Abs
open Go Go.RowKit

theorem Ext.draw {m : Nat} {B : BMap} {I : Nat → Prop} {σ σ' : List AObj} {w w1 w2 : World} {B' : BMap} {I' : Nat → Prop} (h1 : w1.heap = w.heap) (h2 : w1.os = w.os) (h3 : w1.tape = w.tape) (h4 : w1.output = w.output)
    (h : Ext m B I σ w1 B' I' σ' w2) : Ext m B I σ w B' I' σ' w2 := (Ext.of_heap h2 h3 h4 h1).trans h

/-- THE STORE BEHIND append: the slot's row anew, in its block or in a new one. -/
theorem SR.appended {B : BMap} {I : Nat → Prop} {bs : Nat} {σ : List AObj} {w w' : World} (h : SR B I bs σ w) {l v v' sz : Nat} {xs xs' : List AVal} {x x' : BI} (hσ : σ[l]? = some (.row v sz xs))
    (hx : RowOk B I bs w l v sz xs x) (hv : v' = v + 1) (hos : w'.os = w.os) (htape : w'.tape = w.tape) (hout : w'.output = w.output) (hsize : w.heap.size ≤ w'.heap.size)
    (hkeep : ∀ k, k < w.heap.size → k ≠ x'.b ∨ x'.real = false → w'.heap[k]? = w.heap[k]?)
    (hfree : x'.real = true → (x.real = true ∧ x'.b = x.b) ∨ w.heap.size ≤ x'.b) (hxb : x'.real = true → x'.b < w'.heap.size)
    (hsz : x'.sz = sz) (hfit : xs'.length ≤ x'.C) (heach : ∀ y ∈ xs', y.cells.length = sz) (hvirt : x'.real = false → x'.C = 0)
    (hc : x'.real = true → ∃ cs T, w'.heap[x'.b]? = some (.cells cs T (0, 0)) ∧ cs.size = x'.C * sz ∧
      ∀ i j, i < xs'.length → j < sz → RV B I bs w ((xs'.getD i .any).cells.getD j .any) (cs.getD (i * sz + j) undef) ∧ (cs.getD (i * sz + j) undef).oneCell' = true) (m : Nat) :
    SR (B.upd l v' x') I bs (σ.set l (.row v' sz xs')) w' ∧ Ext m B I σ w (B.upd l v' x') I (σ.set l (.row v' sz xs')) w' ∧ (∀ l1 v1 y, B l1 v1 = some y → B.upd l v' x' l1 v1 = some y) := by
  subst hv
  have hl : l < σ.length := (List.getElem?_eq_some_iff.1 hσ).1
  have hnone : B l (v + 1) = none := by
    cases e : B l (v + 1) with
    | none => rfl
    | some y => have := h.vmono _ _ _ _ _ _ hσ e; omega
  have hup : ∀ l1 v1 y, B l1 v1 = some y → B.upd l (v + 1) x' l1 v1 = some y := fun _ _ _ hy => BMap.upd_mono B (.inl hnone) hy
  have hfree' : x'.real = true → Cur B σ l = some x'.b ∨ w.heap.size ≤ x'.b := by
    intro hr
    rcases hfree hr with ⟨h1, h2⟩ | h1
    · exact .inl (h2 ▸ hx.cur hσ h1)
    · exact .inr h1
  have hIk : ∀ b, I b → w'.heap[b]? = w.heap[b]? := by
    intro b hb
    refine hkeep b (h.ilt b hb) ?_
    cases hr : x'.real with
    | false => exact .inr rfl
    | true =>
      refine .inl fun e => ?_
      subst e
      rcases hfree' hr with hc | hc
      · exact h.imm _ _ hc hb
      · have := h.ilt _ hb; omega
  have s1 := SR.setRow (w' := w') (xs := xs') (x := x') (ver := v + 1) (sz := sz) h hl (.inl hnone) (fun v' y hy => by have := h.vmono _ _ _ _ _ _ hσ hy; omega) hsize hkeep hfree' hxb
    ⟨BMap.upd_self .., hsz, hx.pos, hfit, heach, hvirt, fun hr => by
      obtain ⟨cs, T, h1, h2, h3⟩ := hc hr
      exact ⟨cs, T, h1, h2, fun i j hi hj => ⟨(h3 i j hi hj).1.mono hup (fun _ h => h) hIk (Nat.le_refl _), (h3 i j hi hj).2⟩⟩⟩
  refine ⟨s1, ⟨hos, htape, hout, hsize, fun b hb hn => hkeep b hb ?_, fun l1 v1 y _ hy => hup l1 v1 y hy, fun _ h => h, fun _ h => .inl h, fun l' b hb' => ?_⟩, hup⟩
  · cases hr : x'.real with
    | false => exact .inr rfl
    | true =>
      refine .inl fun e => ?_
      subst e
      rcases hfree' hr with hc | hc
      · exact hn _ hc
      · omega
  · by_cases e : l' = l
    · subst e
      simp only [Cur, List.getElem?_set_self hl, BMap.upd_self, Option.bind_some] at hb'
      cases hr : x'.real with
      | false => simp [hr] at hb'
      | true =>
        simp only [hr, if_true, Option.some.injEq] at hb'
        subst hb'
        rcases hfree' hr with hc | hc
        · rcases Nat.lt_or_ge l' m with hm | hm
          · exact .inr (.inl ⟨hm, hc⟩)
          · exact .inr (.inr ⟨hm, l', hm, hc⟩)
        · exact .inl hc
    · have : Cur B σ l' = some b := by
        have e1 : (σ.set l (.row (v + 1) sz xs'))[l']? = σ[l']? := List.getElem?_set_ne (fun h => e h.symm)
        simp only [Cur, e1] at hb' ⊢
        cases ho : σ[l']? with
        | none => rw [ho] at hb'; cases hb'
        | some o => rw [ho] at hb'; cases o <;> first | (simp at hb'; done) | simpa [BMap.upd_ne B x' e] using hb'
      rcases Nat.lt_or_ge l' m with hm | hm
      · exact .inr (.inl ⟨hm, this⟩)
      · exact .inr (.inr ⟨hm, l', hm, this⟩)

theorem run_appendOp {P : Program} {o : Oper} {s x : Operand} {t tx : TypeId} (ho : o.op = .call { callee := .builtin .append, args := #[s, x], argTypes := #[t, tx] }) (ρ : Operand → Value) (w : World) {v : Value} {w' : World}
    (h : (Builtin.append_ #[t, tx] o.type #[ρ s, ρ x]).run P w = .ok v w') : (execOp ρ o).run P w = .ok (.value v) w' := by
  have e0 : #[s, x].map ρ = #[ρ s, ρ x] := by simp
  rw [run_builtin ho, e0]
  simp only [builtin, Sem.run_bind, h, Result.andThen, Sem.run_pure]

end Go.Abs

/- The abstract layer, part 11: append, make, slicing: the operations. -/
namespace Go.Abs
open Go Go.RowKit

theorem appendIn {cx : Cx} {o : Oper} {env : Env} {σ : List AObj} {K : Kont} {t tx : TypeId} {s x : Operand} {sz sz' bytes l ver off len v : Nat} {zs xs ys : List AVal}
    (hin : len < xs.length) (hfits : len + ys.length ≤ xs.length)
    (ho : o.op = .call { callee := .builtin .append, args := #[s, x], argTypes := #[t, tx] }) (ht : slT cx.P t = some (sz, bytes, zs)) (htx : isSl cx.P tx = true)
    (hsv : aeval env s = .row l ver off len) (hσ : σ[l]? = some (.row v sz' xs)) (hsrc : srcA σ sz (aeval env x) = some ys)
    (hk : (ver = v ∧ sz' = sz ∧ off = 0 ∧ (4 * (len + ys.length) + 4096) * bytes ≤ 281474976710656 ∧ len + ys.length ≤ 4611686018427387904) ∧ K (.row l v 0 (len + ys.length)) (σ.set l (.row v sz (xs.take len ++ ys ++ xs.drop (len + ys.length)))))
    {B : BMap} {I : Nat → Prop} {a : Act} {w : World} (st : St cx B I env σ a w) {next : Act → World → Prop} {Q' : Exit → Act → World → Prop}
    (hn : ∀ av σ' B' I' v w', K av σ' → SR B' I' cx.bs σ' w' → RV B' I' cx.bs w' av v → Ext cx.m B I σ w B' I' σ' w' → (∀ l ver x, B l ver = some x → B' l ver = some x) → next (a.put o.dst v) w') :
    o.wpIn (FR cx.rd) 0 cx.P a w next Q' := by
  obtain ⟨hpos, e, i, z, hu, hi, hz, hzs, hsz, hby, hzl, _⟩ := slT_spec ht
  obtain ⟨⟨rfl, rfl, rfl, hroom, h62⟩, hk⟩ := hk
  have hx := st.eval x
  obtain ⟨⟨a2, c2, hxv⟩, heach, news, hnew, hnsz, hnc⟩ := src_spec (P := cx.P) hpos st.sr hx hsrc
  have hs := st.eval s
  obtain ⟨y, hy⟩ := st.sr.row _ _ _ _ hσ
  have hle : len ≤ xs.length := by omega
  have hsrc2 : srcA σ sz' (.row l ver 0 len) = some ((xs.drop 0).take len) := by
    simp [srcA, hσ, hle]
  rw [hsv] at hs
  obtain ⟨⟨ba, cap, hsv'⟩, heach2, olds, hold, hosz, hoc⟩ := src_spec (P := cx.P) hpos st.sr hs hsrc2
  have hlen2 : ((xs.drop 0).take len).length = len := by simp; omega
  rw [hlen2] at hsv' hold hosz hoc
  rw [hsv'] at hold
  rw [hxv] at hnew
  have hi63 : ((len + ys.length : Nat) : Int) ≤ IntKind.i64.max := by
    have : IntKind.i64.max = 9223372036854775807 := rfl
    rw [this]; omega
  have run := run_append' (P := cx.P) (w := w) (ty := o.type) (z := z) hu hi hz hsz htx (base := ba) (len := len) (cap := cap) (n := ys.length) (c2 := c2) (a2 := a2) hold hnew (by rw [hby]; exact hroom) hi63
  rw [hsv'] at hs
  have hfit := hy.fits
  have hreal : y.real = true := by
    cases hr : y.real with
    | true => rfl
    | false => have := hy.virt hr; omega
  generalize hq : AVal.row l ver 0 len = av at hs
  generalize hqv : Value.slice ba len cap = vv at hs
  cases hs with
  | any => cases hq
  | val => cases hq
  | nil => cases hq
  | list => cases hq
  | agg => cases hq
  | ptr => cases hq
  | eptr => cases hq
  | map => cases hq
  | func => cases hq
  | tuple => cases hq
  | iface => cases hq
  | rowEnd hB hr ho' hc' =>
    cases hq
    cases hqv
    rename_i x'
    obtain rfl : x' = y := Option.some.inj (hB.symm.trans hy.at_)
    omega
  | rowNil hB hr =>
    cases hq
    cases hqv
    rename_i x'
    obtain rfl : x' = y := Option.some.inj (hB.symm.trans hy.at_)
    rw [hreal] at hr; cases hr
  | row hB hr hle' =>
    rename_i l0 v0 o0 n0 x'
    cases hq
    cases hqv
    obtain rfl : x' = y := Option.some.inj (hB.symm.trans hy.at_)
    obtain ⟨cs, T, hb, hcs, hc⟩ := hy.real hr
    rcases run with ⟨hcap, run⟩ | ⟨hcap, _⟩
    · have hfits' : len + ys.length ≤ x'.C := by omega
      have hmul : len * sz' + ys.length * sz' ≤ cs.size := by rw [hcs, ← Nat.add_mul]; exact Nat.mul_le_mul_right _ hfits'
      obtain ⟨w', cs', r1, r2, r3, r4, r5, r6, r7, r8, r9⟩ := run_storeCells' (P := cx.P) (b := x'.b) (T := T) news.toList (len * sz') 0 w cs hb (by simp [hnsz]; exact hmul) (by
        intro u hu
        obtain ⟨q, hq, e⟩ := List.mem_iff_getElem.1 hu
        simp only [Array.length_toList, hnsz] at hq
        have e1 : q / sz' < ys.length := Nat.div_lt_of_lt_mul (by rw [Nat.mul_comm]; exact hq)
        have e2 : q % sz' < sz' := Nat.mod_lt _ hpos
        have := (hnc (q / sz') (q % sz') e1 e2).2
        rw [Nat.div_add_mod' q sz', Array.getD_eq_getD_getElem?, ← Array.getElem?_toList, List.getElem?_eq_getElem (by simpa [hnsz] using hq)] at this
        rw [← e]; exact this)
      have htl : (xs.take len).length = len := by simp; omega
      have hxl : (xs.take len ++ ys ++ xs.drop (len + ys.length)).length = xs.length := by simp; omega
      obtain ⟨k1, k2⟩ := SR.sameBlock (m := cx.m) (xs' := xs.take len ++ ys ++ xs.drop (len + ys.length)) st.sr hσ hy hr r2 r3 r4 r5 r6 r7 (by rw [r8, hcs]) (by rw [hxl]; exact hfit)
        (by
          intro q hq
          rcases List.mem_append.1 hq with h | h
          · rcases List.mem_append.1 h with h | h
            · exact hy.each _ (List.mem_of_mem_take h)
            · exact heach q h
          · exact hy.each _ (List.mem_of_mem_drop h))
        (by
          intro i' j' hi' hj'
          rw [hxl] at hi'
          rw [r9 (i' * sz' + j'), getD_app, getD_app]
          simp only [List.length_append, htl, Nat.add_zero, Array.length_toList, hnsz]
          by_cases h1 : i' < len
          · rw [if_pos (by omega), if_pos h1, if_neg (by have := mul_lt h1 hj'; omega), getD_take' h1]
            exact hc i' j' hi' hj'
          · by_cases h2 : i' < len + ys.length
            · rw [if_pos h2, if_neg h1]
              have hi2 : i' - len < ys.length := by omega
              have e1 : i' * sz' + j' = len * sz' + ((i' - len) * sz' + j') := by rw [← Nat.add_assoc, ← Nat.add_mul, show len + (i' - len) = i' by omega]
              have e2 := mul_lt hi2 hj'
              rw [if_pos (by omega), e1, show len * sz' + ((i' - len) * sz' + j') - len * sz' = (i' - len) * sz' + j' by omega, getD_toList']
              exact hnc _ _ hi2 hj'
            · have e3 : (len + ys.length) * sz' ≤ i' * sz' := Nat.mul_le_mul_right _ (by omega)
              rw [Nat.add_mul] at e3
              rw [if_neg h2, if_neg (by omega)]
              have e4 : (xs.drop (len + ys.length)).getD (i' - (len + ys.length)) .any = xs.getD i' .any := by
                rw [List.getD_eq_getElem?_getD, List.getElem?_drop, show len + ys.length + (i' - (len + ys.length)) = i' by omega, ← List.getD_eq_getElem?_getD]
              rw [e4]
              exact hc i' j' hi' hj')
      have r2' : (Builtin.append_ #[t, tx] o.type #[a.eval s, a.eval x]).run cx.P w = .ok (.slice (some ⟨x'.b, 0 * x'.sz, none⟩) (len + ys.length) (x'.C - 0)) w' := by
        rw [hsv', hxv, run]
        simp only [Nat.zero_mul, add_none, Nat.zero_add, Nat.sub_zero]
        rw [r1]
        simp [Result.andThen]
      exact wp_value (by simp [ho]) (run_appendOp ho a.eval w r2') (hn _ _ B I _ w' hk k1 (.row hB hr (by omega)) k2 (fun _ _ _ h => h))
    · omega

theorem OpA.append {cx : Cx} {o : Oper} {env : Env} {σ : List AObj} {K : Kont} {t tx : TypeId} {s x : Operand} {sz bytes : Nat} {zs : List AVal}
    (ho : o.op = .call { callee := .builtin .append, args := #[s, x], argTypes := #[t, tx] }) (ht : slT cx.P t = some (sz, bytes, zs)) (htx : isSl cx.P tx = true)
    (hk : appendA sz bytes (aeval env s) (aeval env x) σ K) : OpA cx o env σ K := by
  obtain ⟨hpos, e, i, z, hu, hi, hz, hzs, hsz, hby, hzl, _⟩ := slT_spec ht
  unfold appendA at hk
  cases hsrc : srcA σ sz (aeval env x) with
  | none => rw [hsrc] at hk; exact hk.elim
  | some ys =>
    rw [hsrc] at hk
    intro B I a w st next Q' hn
    have hx := st.eval x
    obtain ⟨⟨a2, c2, hxv⟩, heach, news, hnew, hnsz, hnc⟩ := src_spec (P := cx.P) hpos st.sr hx hsrc
    have hs := st.eval s
    simp only at hk
    split at hk
    · rename_i l ver off len hsv
      split at hk
      · rename_i v sz' xs hσ
        split at hk
        · rename_i hin
          exact appendIn (hin := hin.1) (hfits := hin.2) ho ht htx hsv hσ hsrc hk st hn
        rename_i hin
        obtain ⟨⟨rfl, rfl, rfl, hle, hroom, h62⟩, hk⟩ := hk
        obtain ⟨y, hy⟩ := st.sr.row _ _ _ _ hσ
        have hsrc2 : srcA σ sz' (.row l ver 0 len) = some ((xs.drop 0).take len) := by
          simp [srcA, hσ, hle]
        rw [hsv] at hs
        obtain ⟨⟨ba, cap, hsv'⟩, heach2, olds, hold, hosz, hoc⟩ := src_spec (P := cx.P) hpos st.sr hs hsrc2
        have hlen2 : ((xs.drop 0).take len).length = len := by simp; omega
        rw [hlen2] at hsv' hold hosz hoc
        rw [hsv'] at hold
        rw [hxv] at hnew
        simp only [List.drop_zero] at heach2 hoc
        have hi63 : ((len + ys.length : Nat) : Int) ≤ IntKind.i64.max := by
          have : IntKind.i64.max = 9223372036854775807 := rfl
          rw [this]; omega
        have run := run_append' (P := cx.P) (w := w) (ty := o.type) (z := z) hu hi hz hsz htx (base := ba) (len := len) (cap := cap) (n := ys.length) (c2 := c2) (a2 := a2) hold hnew (by rw [hby]; exact hroom) hi63
        have hxl : ((xs.take len) ++ ys).length = len + ys.length := by simp; omega
        have heach3 : ∀ q ∈ (xs.take len) ++ ys, q.cells.length = sz' := fun q hq => by
          rcases List.mem_append.1 hq with h | h
          · exact heach2 q h
          · exact heach q h
        rcases run with ⟨hcap, run⟩ | ⟨hcap, nc, w1, hnc1, g1, g2, g3, g4, run⟩
        · -- in place
          rw [hsv'] at hs
          have stay : ys.length = 0 → len = 0 → ∀ (hnil : xs.take len ++ ys = []), RV (B.upd l (ver + 1) y) I cx.bs w (.row l (ver + 1) 0 0) (.slice ba 0 cap) → (ba = none ∨ ∃ b', ba = some b') →
              o.wpIn (FR cx.rd) 0 cx.P a w next Q' := by
            intro h0 hl0 hnil hrv _
            subst hl0
            obtain ⟨k1, k2, k3⟩ := SR.appended (v' := ver + 1) (xs' := xs.take 0 ++ ys) (x' := y) (w' := w) (m := cx.m) st.sr hσ hy rfl rfl rfl rfl (Nat.le_refl _) (fun _ _ _ => rfl) (fun hr => .inl ⟨hr, rfl⟩)
              (st.sr.vlt _ _ _ hy.at_) hy.hsz (by rw [hnil]; exact Nat.zero_le _) heach3 hy.virt (fun hr => by
                obtain ⟨cs, T, q1, q2, _⟩ := hy.real hr
                exact ⟨cs, T, q1, q2, fun i' j' hi' => by rw [hnil] at hi'; exact absurd hi' (Nat.not_lt_zero _)⟩)
            have hn0 : news.toList = [] := by
              have : news.size = 0 := by rw [hnsz, h0, Nat.zero_mul]
              exact List.length_eq_zero_iff.1 (by simpa using this)
            have r2 : (Builtin.append_ #[t, tx] o.type #[a.eval s, a.eval x]).run cx.P w = .ok (.slice ba 0 cap) w := by
              rw [hsv', hxv, run, hn0]
              cases ba <;> simp [storeCells, Result.andThen, h0]
            rw [h0] at hk
            exact wp_value (by simp [ho]) (run_appendOp ho a.eval w r2) (hn _ _ _ I _ w hk k1 hrv k2 k3)
          generalize hq : AVal.row l ver 0 len = av at hs
          generalize hqv : Value.slice ba len cap = vv at hs
          cases hs with
          | any => cases hq
          | val => cases hq
          | nil => cases hq
          | list => cases hq
          | agg => cases hq
          | ptr => cases hq
          | eptr => cases hq
          | map => cases hq
          | func => cases hq
          | tuple => cases hq
          | iface => cases hq
          | rowEnd hB hr ho' hc' =>
            cases hq
            cases hqv
            subst hc'
            have h0 : ys.length = 0 := by omega
            have hy0 : ys = [] := List.length_eq_zero_iff.1 h0
            rename_i x'
            obtain rfl : x' = y := Option.some.inj (hB.symm.trans hy.at_)
            exact stay h0 rfl (by simp [hy0]) (.rowEnd (BMap.upd_self ..) hr ho' rfl) (by cases ba; exact .inl rfl; exact .inr ⟨_, rfl⟩)
          | rowNil hB hr =>
            cases hq
            cases hqv
            have h0 : ys.length = 0 := by omega
            have hy0 : ys = [] := List.length_eq_zero_iff.1 h0
            rename_i x'
            obtain rfl : x' = y := Option.some.inj (hB.symm.trans hy.at_)
            exact stay h0 rfl (by simp [hy0]) (.rowNil (BMap.upd_self ..) hr) (by cases ba; exact .inl rfl; exact .inr ⟨_, rfl⟩)
          | row hB hr hle' =>
            rename_i l0 v0 o0 n0 x'
            cases hq
            cases hqv
            obtain rfl : x' = y := Option.some.inj (hB.symm.trans hy.at_)
            obtain ⟨cs, T, hb, hcs, hc⟩ := hy.real hr
            have hfits : len + ys.length ≤ x'.C := by omega
            have hmul : len * sz' + ys.length * sz' ≤ cs.size := by rw [hcs, ← Nat.add_mul]; exact Nat.mul_le_mul_right _ hfits
            obtain ⟨w', cs', r1, r2, r3, r4, r5, r6, r7, r8, r9⟩ := run_storeCells' (P := cx.P) (b := x'.b) (T := T) news.toList (len * sz') 0 w cs hb (by simp [hnsz]; exact hmul) (by
              intro u hu
              obtain ⟨q, hq, e⟩ := List.mem_iff_getElem.1 hu
              simp only [Array.length_toList, hnsz] at hq
              have e1 : q / sz' < ys.length := Nat.div_lt_of_lt_mul (by rw [Nat.mul_comm]; exact hq)
              have e2 : q % sz' < sz' := Nat.mod_lt _ hpos
              have := (hnc (q / sz') (q % sz') e1 e2).2
              rw [Nat.div_add_mod' q sz', Array.getD_eq_getD_getElem?, ← Array.getElem?_toList, List.getElem?_eq_getElem (by simpa [hnsz] using hq)] at this
              rw [← e]; exact this)
            obtain ⟨k1, k2, k3⟩ := SR.appended (v' := ver + 1) (xs' := xs.take len ++ ys) (x' := x') (w' := w') (m := cx.m) st.sr hσ hy rfl r2 r3 r4 (by omega) (fun k _ hne => r6 k (by rcases hne with h | h; exact h; rw [hr] at h; cases h))
              (fun hr => .inl ⟨hr, rfl⟩) (fun hr => by rw [r5]; exact st.sr.vlt _ _ _ hy.at_ hr) hy.hsz (by omega) heach3 hy.virt (fun _ => ⟨cs', T, r7, by rw [r8, hcs], fun i' j' hi' hj' => by
                rw [r9 (i' * sz' + j'), getD_app]
                have htl : (xs.take len).length = len := by simp; omega
                simp only [htl, Nat.add_zero, Array.length_toList, hnsz]
                by_cases hlt : i' < len
                · rw [if_pos hlt, if_neg (by have := mul_lt hlt hj'; omega), getD_take' hlt]
                  exact hc i' j' (by omega) hj'
                · rw [if_neg hlt]
                  have hi2 : i' - len < ys.length := by omega
                  have e1 : i' * sz' + j' = len * sz' + ((i' - len) * sz' + j') := by rw [← Nat.add_assoc, ← Nat.add_mul, show len + (i' - len) = i' by omega]
                  have e2 := mul_lt hi2 hj'
                  rw [if_pos (by omega), e1, show len * sz' + ((i' - len) * sz' + j') - len * sz' = (i' - len) * sz' + j' by omega, getD_toList']
                  exact hnc _ _ hi2 hj'⟩)
            have r2' : (Builtin.append_ #[t, tx] o.type #[a.eval s, a.eval x]).run cx.P w = .ok (.slice (some ⟨x'.b, 0 * x'.sz, none⟩) (len + ys.length) (x'.C - 0)) w' := by
              rw [hsv', hxv, run]
              simp only [Nat.zero_mul, add_none, Nat.zero_add, Nat.sub_zero]
              rw [r1]
              simp [Result.andThen]
            exact wp_value (by simp [ho]) (run_appendOp ho a.eval w r2') (hn _ _ _ I _ w' hk k1 (.row (BMap.upd_self ..) hr (by omega)) k2 k3)
        · -- grown
          have hzsz : (Builtin.zeroCells z.cells (nc - (len + ys.length))).size = (nc - (len + ys.length)) * sz' := by rw [zeroCells_size, hzs]
          have hw1 : SR B I cx.bs σ w1 := st.sr.of_heap g1
          have hy1 : RowOk B I cx.bs w1 l ver sz' xs y := hy.mono (fun _ _ _ h => h) (fun _ h => h) (fun _ _ => by rw [g1]) (Nat.le_refl _) (fun _ => by rw [g1])
          obtain ⟨k1, k2, k3⟩ := SR.appended (v' := ver + 1) (xs' := xs.take len ++ ys) (x' := ⟨w.heap.size, sz', nc, true⟩) (w' := w1.alloc (.cells (olds ++ news ++ Builtin.zeroCells z.cells (nc - (len + ys.length))) e)) (m := cx.m) hw1 hσ hy1 rfl rfl rfl rfl
            (by simp) (fun k hk _ => Below.heap_alloc _ _ _ hk) (fun _ => .inr (by rw [g1]; exact Nat.le_refl _)) (fun _ => by simp [g1]) rfl (by show _ ≤ nc; omega) heach3 (fun h => by cases h) (fun _ => ⟨olds ++ news ++ Builtin.zeroCells z.cells (nc - (len + ys.length)), e, by
                show (w1.heap.push _)[w.heap.size]? = _
                rw [← g1]; simp, by
                simp only [Array.size_append, hosz, hnsz, hzsz]
                rw [← Nat.add_mul, ← Nat.add_mul]
                congr 1
                omega, fun i' j' hi' hj' => by
                have htl : (xs.take len).length = len := by simp; omega
                rw [getD_app, htl]
                by_cases hlt : i' < len
                · have := mul_lt hlt hj'
                  rw [if_pos hlt, getD_append_l (by simp only [Array.size_append]; omega), getD_append_l (by omega), ]
                  have h3 := hoc i' j' hlt hj'
                  exact ⟨h3.1.of_heap g1, h3.2⟩
                · have hi2 : i' - len < ys.length := by omega
                  have e1 : i' * sz' + j' = len * sz' + ((i' - len) * sz' + j') := by rw [← Nat.add_assoc, ← Nat.add_mul, show len + (i' - len) = i' by omega]
                  have e2 := mul_lt hi2 hj'
                  rw [if_neg hlt, getD_append_l (by simp only [Array.size_append]; omega), getD_append_r (by omega), e1, hosz, Nat.add_sub_cancel_left]
                  have h3 := hnc _ _ hi2 hj'
                  exact ⟨h3.1.of_heap g1, h3.2⟩⟩)
          have r2' : (Builtin.append_ #[t, tx] o.type #[a.eval s, a.eval x]).run cx.P w = .ok (.slice (some ⟨w.heap.size, 0, none⟩) (len + ys.length) nc) (w1.alloc (.cells (olds ++ news ++ Builtin.zeroCells z.cells (nc - (len + ys.length))) e)) := by
            rw [hsv', hxv, run]
          have rvn := RV.row (B := B.upd l (ver + 1) ⟨w.heap.size, sz', nc, true⟩) (I := I) (bs := cx.bs) (w := w1.alloc (.cells (olds ++ news ++ Builtin.zeroCells z.cells (nc - (len + ys.length))) e)) (l := l) (ver := ver + 1) (off := 0) (len := len + ys.length) (BMap.upd_self ..) rfl (by show 0 + (len + ys.length) ≤ nc; omega)
          simp only [Nat.zero_mul, Nat.sub_zero] at rvn
          exact wp_value (by simp [ho]) (run_appendOp ho a.eval w r2') (hn _ _ _ I _ _ hk k1 rvn (.draw g1 g2 g3 g4 k2) k3)
      · exact hk.elim
    · rename_i hsv
      obtain ⟨⟨hroom, h62⟩, hk⟩ := hk
      rw [hsv] at hs
      have hsv' := hs.valEq
      have hold : ∀ w1 : World, w1.heap = w.heap → (Builtin.firstCells sz 0 (.slice none 0 0)).run cx.P w1 = .ok #[] w1 := fun _ _ => rfl
      rw [hxv] at hnew
      have hi63 : ((0 + ys.length : Nat) : Int) ≤ IntKind.i64.max := by
        have : IntKind.i64.max = 9223372036854775807 := rfl
        rw [this]; omega
      have run := run_append' (P := cx.P) (w := w) (ty := o.type) (z := z) hu hi hz hsz htx (base := none) (len := 0) (cap := 0) (n := ys.length) (c2 := c2) (a2 := a2) hold hnew (by rw [hby]; simpa using hroom) hi63
      rcases run with ⟨hcap, run⟩ | ⟨hcap, nc, w1, hnc1, g1, g2, g3, g4, run⟩
      · have h0 : ys.length = 0 := by omega
        have hy0 : ys = [] := List.length_eq_zero_iff.1 h0
        subst hy0
        obtain ⟨B', y, k1, k2, k3, k4, k5⟩ := SR.newNil st.sr hpos cx.m
        have r2 : (Builtin.append_ #[t, tx] o.type #[a.eval s, a.eval x]).run cx.P w = .ok (.slice none 0 0) w := by
          rw [hsv', hxv, run]
          simp [Result.andThen]
        exact wp_value (by simp [ho]) (run_appendOp ho a.eval w r2) (hn _ _ B' I _ w hk k1 (.rowNil k4 k5) k2 k3)
      · rw [Nat.zero_add] at hnc1 run
        have hzsz : (Builtin.zeroCells z.cells (nc - ys.length)).size = (nc - ys.length) * sz := by rw [zeroCells_size, hzs]
        obtain ⟨B', k1, k2, k3, k4⟩ := SR.newRow (T := e) (sz := sz) (C := nc) (xs := ys) (cs := #[] ++ news ++ Builtin.zeroCells z.cells (nc - ys.length)) (st.sr.of_heap g1) hpos
          (by
            simp only [Array.size_append, hnsz, hzsz, List.size_toArray, List.length_nil, Nat.zero_add]
            rw [← Nat.add_mul]
            congr 1
            omega) hnc1 heach (fun i' j' hi' hj' => by
            have := mul_lt hi' hj'
            rw [getD_append_l (by simp only [Array.size_append, hnsz, List.size_toArray, List.length_nil]; omega), Array.empty_append]
            have h3 := hnc _ _ hi' hj'
            exact ⟨h3.1.of_heap g1, h3.2⟩) cx.m
        have r2 : (Builtin.append_ #[t, tx] o.type #[a.eval s, a.eval x]).run cx.P w = .ok (.slice (some ⟨w.heap.size, 0, none⟩) ys.length nc) (w1.alloc (.cells (#[] ++ news ++ Builtin.zeroCells z.cells (nc - ys.length)) e)) := by
          rw [hsv', hxv, run]
        have rvn := RV.row (B := B') (I := I) (bs := cx.bs) (w := w1.alloc (.cells (#[] ++ news ++ Builtin.zeroCells z.cells (nc - ys.length)) e)) (l := σ.length) (ver := 0) (off := 0) (len := ys.length) k4 rfl (by show 0 + ys.length ≤ nc; omega)
        simp only [Nat.zero_mul, Nat.sub_zero] at rvn
        rw [← g1] at r2
        exact wp_value (by simp [ho]) (run_appendOp ho a.eval w r2) (hn _ _ B' I _ _ hk k1 rvn (.draw g1 g2 g3 g4 k2) k3)
    · exact hk.elim

end Go.Abs

/- The abstract layer, part 12: composite values, make, slicing. -/
namespace Go.Abs
open Go Go.RowKit

/-- Known cells, so many. -/
def partOk (n : Nat) (a : AVal) : Bool := a.cells.length == n && a.cells.all AVal.leaf

theorem leaf_cells {B : BMap} {I : Nat → Prop} {bs : Nat} {w : World} {a : AVal} {v : Value} {n : Nat} (h : RV B I bs w a v) (hp : partOk n a = true) :
    a.cells.length = n ∧ v.cells.size = n ∧ ∀ k, k < n → RV B I bs w (a.cells.getD k .any) (v.cells.getD k undef) ∧ (v.cells.getD k undef).oneCell' = true := by
  simp only [partOk, Bool.and_eq_true, beq_iff_eq] at hp
  obtain ⟨hl, hlf⟩ := hp
  have hlf' := List.all_eq_true.1 hlf
  have key : a.cells.length = v.cells.size ∧ ∀ k, k < a.cells.length → RV B I bs w (a.cells.getD k .any) (v.cells.getD k undef) := by
    by_cases hval : ∃ u, a = .val u
    · obtain ⟨u, rfl⟩ := hval
      have h1 : u.oneCell' = true := hlf' (.val u) (by simp [AVal.cells])
      have hv' := h.valEq
      subst hv'
      have hc : v.cells = #[v] := by cases v <;> first | rfl | cases h1
      rw [hc]
      refine ⟨rfl, fun k hk => ?_⟩
      have : k = 0 := by simpa [AVal.cells] using hk
      subst this
      exact .val _
    · refine h.cells (fun e => ?_) (fun u e => hval ⟨u, e⟩)
      subst e
      have := hlf' .any (by simp [AVal.cells])
      cases this
  refine ⟨hl, by omega, fun k hk => ?_⟩
  have h2 := key.2 k (by omega)
  exact ⟨h2, (leaf_one h2 (hlf' _ (mem_getD (by omega)))).1⟩

theorem foldl_set {vs : List Value} : ∀ (s off : Nat) (cells : Array Value), off + s + vs.length ≤ cells.size →
    ((vs.zipIdx s).foldl (fun cs (c, j) => cs.setIfInBounds (off + j) c) cells).size = cells.size ∧
    ∀ k, ((vs.zipIdx s).foldl (fun cs (c, j) => cs.setIfInBounds (off + j) c) cells).getD k undef = if off + s ≤ k ∧ k < off + s + vs.length then vs.getD (k - (off + s)) undef else cells.getD k undef := by
  induction vs with
  | nil => intro s off cells _; exact ⟨rfl, fun k => by rw [if_neg (by simp only [List.length_nil]; omega)]; rfl⟩
  | cons v r ih =>
    intro s off cells h
    simp only [List.length_cons] at h
    simp only [List.zipIdx_cons, List.foldl_cons]
    obtain ⟨h1, h2⟩ := ih (s + 1) off (cells.setIfInBounds (off + s) v) (by simp; omega)
    refine ⟨by rw [h1]; simp, fun k => ?_⟩
    rw [h2 k]
    simp only [List.length_cons]
    by_cases e : k = off + s
    · subst e
      rw [if_neg (by omega), if_pos (by omega), Nat.sub_self]
      simp [Array.getD_eq_getD_getElem?]
      omega
    · have e1 : (cells.setIfInBounds (off + s) v).getD k undef = cells.getD k undef := by
        rw [Array.getD_eq_getD_getElem?, Array.getElem?_setIfInBounds_ne (fun h => e h.symm), ← Array.getD_eq_getD_getElem?]
      rw [e1]
      by_cases h : off + (s + 1) ≤ k ∧ k < off + (s + 1) + r.length
      · rw [if_pos h, if_pos (by omega), show k - (off + s) = (k - (off + (s + 1))) + 1 by omega]
        simp
      · rw [if_neg h, if_neg (by omega)]

theorem foldl_cells {v : Value} {off : Nat} {cells : Array Value} (h : off + v.cells.size ≤ cells.size) :
    (v.cells.zipIdx.foldl (fun cs (c, j) => cs.setIfInBounds (off + j) c) cells).size = cells.size ∧
    ∀ k, (v.cells.zipIdx.foldl (fun cs (c, j) => cs.setIfInBounds (off + j) c) cells).getD k undef = if off ≤ k ∧ k < off + v.cells.size then v.cells.getD (k - off) undef else cells.getD k undef := by
  have e : v.cells.zipIdx.foldl (fun cs (c, j) => cs.setIfInBounds (off + j) c) cells = (v.cells.toList.zipIdx 0).foldl (fun cs (c, j) => cs.setIfInBounds (off + j) c) cells := by
    rw [← Array.foldl_toList, Array.toList_zipIdx]
  rw [e]
  obtain ⟨h1, h2⟩ := foldl_set (vs := v.cells.toList) 0 off cells (by simpa using h)
  refine ⟨h1, fun k => ?_⟩
  rw [h2 k]
  simp only [Nat.add_zero, Array.length_toList, getD_toList']

/-- 'the slice literal's elements'. -/
def setParts (xs : List AVal) (parts : List (Nat × AVal)) : List AVal := parts.foldl (fun xs p => xs.set p.1 p.2) xs

theorem fill_slice {B : BMap} {I : Nat → Prop} {bs : Nat} {w : World} {sz n : Nat} {env : Env} {ρ : Operand → Value} (hρ : ∀ x, RV B I bs w (aeval env x) (ρ x)) :
    ∀ (parts : List (Nat × Operand)) (xs : List AVal) (cells : Array Value), (∀ p ∈ parts, p.1 < n ∧ partOk sz (aeval env p.2) = true) → xs.length = n → cells.size = n * sz → (∀ y ∈ xs, y.cells.length = sz) →
    (∀ i j, i < n → j < sz → RV B I bs w ((xs.getD i .any).cells.getD j .any) (cells.getD (i * sz + j) undef) ∧ (cells.getD (i * sz + j) undef).oneCell' = true) →
    ∃ cells', Instr.fill (fun i => some (i * sz, sz)) cells (parts.map fun p => (p.1, ρ p.2)) = some cells' ∧ cells'.size = n * sz ∧ (setParts xs (parts.map fun p => (p.1, aeval env p.2))).length = n ∧
      (∀ y ∈ setParts xs (parts.map fun p => (p.1, aeval env p.2)), y.cells.length = sz) ∧
      ∀ i j, i < n → j < sz → RV B I bs w (((setParts xs (parts.map fun p => (p.1, aeval env p.2))).getD i .any).cells.getD j .any) (cells'.getD (i * sz + j) undef) ∧ (cells'.getD (i * sz + j) undef).oneCell' = true := by
  intro parts
  induction parts with
  | nil => intro xs cells _ h1 h2 h3 h4; exact ⟨cells, rfl, h2, h1, h3, h4⟩
  | cons p r ih =>
    intro xs cells hp h1 h2 h3 h4
    obtain ⟨hp1, hp2⟩ := hp p (List.mem_cons_self ..)
    obtain ⟨c1, c2, c3⟩ := leaf_cells (hρ p.2) hp2
    have hmul : p.1 * sz + sz ≤ n * sz := by
      calc p.1 * sz + sz = (p.1 + 1) * sz := by rw [Nat.add_mul, Nat.one_mul]
        _ ≤ n * sz := Nat.mul_le_mul_right _ (by omega)
    obtain ⟨f1, f2⟩ := foldl_cells (v := ρ p.2) (off := p.1 * sz) (cells := cells) (by omega)
    obtain ⟨cells', e1, e2, e3, e4, e5⟩ := ih (xs.set p.1 (aeval env p.2)) _ (fun q hq => hp q (List.mem_cons_of_mem _ hq)) (by simpa using h1) (f1.trans h2)
      (by
        intro y hy
        rcases List.mem_or_eq_of_mem_set hy with hy | hy
        · exact h3 y hy
        · rw [hy]; exact c1)
      (by
        intro i j hi hj
        rw [getD_set (by omega), f2 (i * sz + j), c2]
        by_cases e : i = p.1
        · subst e
          rw [if_pos rfl, if_pos (by omega), show p.1 * sz + j - p.1 * sz = j by omega]
          exact c3 j hj
        · rw [if_neg e, if_neg (fun h => e ((idx_range (j := 0) (n := sz) (by omega) hj).1 (by simpa using h)).1)]
          exact h4 i j hi hj)
    refine ⟨cells', ?_, e2, e3, e4, e5⟩
    simp only [List.map_cons, Instr.fill]
    rw [if_neg (by simp [c2]; omega)]
    exact e1

/-- The zero element of a slice type. -/
def zelem (P : Program) (t : TypeId) : Option AVal :=
  match P.underlying t with
  | some (.slice e) => match tin P e, zeroCells P e with
    | some (some _), some zs => some (.agg zs)
    | some none, some [z] => some z
    | _, _ => none
  | _ => none

theorem zelem_spec {P : Program} {t : TypeId} {z : AVal} (h : zelem P t = some z) : ∃ e, P.underlying t = some (.slice e) ∧ 0 < z.cells.length ∧ ∀ w : World, (sizeOf e).run P w = .ok z.cells.length w ∧
    ∃ zv, (zeroValue e).run P w = .ok zv w ∧ zv.cells.size = z.cells.length ∧ ∀ k, k < z.cells.length → z.cells.getD k .any = .val (zv.cells.getD k undef) ∧ (zv.cells.getD k undef).oneCell' = true := by
  unfold zelem at h
  split at h
  · rename_i e he
    have key : ∀ zs, zeroCells P e = some zs → z.cells = zs → ∃ e, P.underlying t = some (.slice e) ∧ 0 < z.cells.length ∧ ∀ w : World, (sizeOf e).run P w = .ok z.cells.length w ∧
        ∃ zv, (zeroValue e).run P w = .ok zv w ∧ zv.cells.size = z.cells.length ∧ ∀ k, k < z.cells.length → z.cells.getD k .any = .val (zv.cells.getD k undef) ∧ (zv.cells.getD k undef).oneCell' = true := by
      intro zs h2 hc
      obtain ⟨_, _, _, h0, _⟩ := zeroCells_run h2 default
      refine ⟨e, he, by rw [hc]; exact h0, fun w => ?_⟩
      obtain ⟨zv, g1, g2, g3, g4, g5⟩ := zeroCells_run h2 w
      have hl : zv.cells.size = zs.length := by rw [← g2]; simp
      refine ⟨by rw [hc]; exact g4, zv, g1, by rw [hc]; exact hl, fun k hk => ?_⟩
      rw [hc] at hk ⊢
      refine ⟨?_, g5 k (by omega)⟩
      rw [← g2, List.getD_eq_getElem?_getD]
      have : k < zv.cells.size := by omega
      simp [this]
    split at h
    · rename_i n zs h1 h2
      cases h
      exact key zs h2 rfl
    · rename_i z' h1 h2
      cases h
      refine key _ h2 ?_
      obtain ⟨zv, g1, g2, g3, g4, g5⟩ := zeroCells_run h2 default
      have : z ∈ zv.cells.toList.map AVal.val := by rw [g2]; simp
      obtain ⟨u, _, rfl⟩ := List.mem_map.1 this
      rfl
    · cases h
  · cases h

theorem range_zero {zv : Value} {n sz : Nat} (hsz : zv.cells.size = sz) :
    ((Array.range (n * sz)).map (fun k => zv.cells[k % zv.cells.size]!)).size = n * sz ∧
    ∀ i j, i < n → j < sz → ((Array.range (n * sz)).map (fun k => zv.cells[k % zv.cells.size]!)).getD (i * sz + j) undef = zv.cells.getD j undef := by
  refine ⟨by simp, fun i j hi hj => ?_⟩
  have := mul_lt hi hj
  have e : (i * sz + j) % sz = j := by rw [Nat.add_comm, Nat.add_mul_mod_self_right, Nat.mod_eq_of_lt hj]
  have hj' : j < zv.cells.size := by omega
  rw [Array.getD_eq_getD_getElem?, Array.getElem?_eq_getElem (by simpa using this)]
  simp only [Array.getElem_map, Array.getElem_range, hsz, e, Option.getD_some]
  rw [getElem!_pos zv.cells j hj', Array.getD_eq_getD_getElem?, Array.getElem?_eq_getElem hj', Option.getD_some]

theorem getD_replicate' {n i : Nat} {z : AVal} (h : i < n) : (List.replicate n z).getD i .any = z := by
  simp [List.getD_eq_getElem?_getD, h]

theorem OpA.buildSlice {cx : Cx} {o : Oper} {env : Env} {σ : List AObj} {K : Kont} {t : TypeId} {n : Nat} {parts : Array (Nat × Operand)} {z : AVal} (ho : o.op = .buildSlice t n parts) (hz : zelem cx.P t = some z)
    (hp : ∀ p ∈ parts.toList, p.1 < n ∧ partOk z.cells.length (aeval env p.2) = true) (hn24 : n * z.cells.length ≤ 2 ^ 24)
    (hk : K (.row σ.length 0 0 n) (σ ++ [.row 0 z.cells.length (setParts (List.replicate n z) (parts.toList.map fun p => (p.1, aeval env p.2)))])) : OpA cx o env σ K := by
  obtain ⟨e, hu, h0, hrun⟩ := zelem_spec hz
  intro B I a w st next Q' hn
  obtain ⟨hs, zv, r1, r2, r3⟩ := hrun w
  have start : ∃ cells0 : Array Value, ((n * z.cells.length = 0 ∧ cells0 = #[]) ∨ (¬ n * z.cells.length = 0 ∧ cells0 = zv.cells)) ∧
      ((Array.range (n * z.cells.length)).map (fun k => cells0[k % cells0.size]!)).size = n * z.cells.length ∧
      ∀ i j, i < n → j < z.cells.length → ((Array.range (n * z.cells.length)).map (fun k => cells0[k % cells0.size]!)).getD (i * z.cells.length + j) undef = zv.cells.getD j undef := by
    by_cases hn0 : n * z.cells.length = 0
    · refine ⟨#[], .inl ⟨hn0, rfl⟩, by simp, fun i j hi hj => ?_⟩
      have := mul_lt hi hj
      omega
    · obtain ⟨g1, g2⟩ := range_zero (n := n) r2
      exact ⟨zv.cells, .inr ⟨hn0, rfl⟩, g1, g2⟩
  obtain ⟨cells0, s1, s2, s3⟩ := start
  obtain ⟨cells', f1, f2, f3, f4, f5⟩ := fill_slice (sz := z.cells.length) (n := n) st.eval parts.toList (List.replicate n z) ((Array.range (n * z.cells.length)).map (fun k => cells0[k % cells0.size]!)) hp (by simp) s2
    (fun y hy => by rw [List.eq_of_mem_replicate hy])
    (fun i j hi hj => by rw [getD_replicate' hi, s3 i j hi hj, (r3 j hj).1]; exact ⟨.val _, (r3 j hj).2⟩)
  obtain ⟨B', k1, k2, k3, k4⟩ := SR.newRow (T := e) (sz := z.cells.length) (C := n) (cs := cells') st.sr h0 f2 (by rw [f3]; exact Nat.le_refl _) f4 (fun i j hi hj => f5 i j (by rwa [f3] at hi) hj) cx.m
  have rvn := RV.row (B := B') (I := I) (bs := cx.bs) (w := w.alloc (.cells cells' e)) (l := σ.length) (ver := 0) (off := 0) (len := n) k4 rfl (by show 0 + n ≤ n; omega)
  simp only [Nat.zero_mul, Nat.sub_zero] at rvn
  refine wp_value (v := .slice (some ⟨w.heap.size, 0, none⟩) n n) (by simp [ho]) ?_ (hn _ _ B' I _ _ hk k1 rvn k2 k3)
  have e0 : (parts.map fun (i, x) => (i, a.eval x)).toList = parts.toList.map fun p => (p.1, a.eval p.2) := by simp
  simp only [execOp, ho, Instr.buildSlice, Sem.run_bind, run_underlying' hu, Result.andThen, hs, Sem.run_pure]
  rw [if_neg (by omega)]
  rcases s1 with ⟨g1, g2⟩ | ⟨g1, g2⟩
  · subst g2
    rw [if_pos g1]
    simp only [Sem.run_bind, Result.andThen, Sem.run_pure, e0, f1, newRow, run_newObj]
    rfl
  · subst g2
    rw [if_neg g1]
    simp only [Sem.run_bind, r1, Result.andThen, Sem.run_pure, e0, f1, newRow, run_newObj]
    rfl

theorem OpA.makeSlice {cx : Cx} {o : Oper} {env : Env} {σ : List AObj} {K : Kont} {t : TypeId} {x y : Operand} {z : AVal} {sz bytes : Nat} {zs : List AVal} {n c : Int} (ho : o.op = .makeSlice t x y) (hz : zelem cx.P t = some z) (ht : slT cx.P t = some (sz, bytes, zs))
    (hx : aeval env x = .val (.int .i64 n)) (hy : aeval env y = .val (.int .i64 c)) (h0n : 0 ≤ n) (hnc : n ≤ c) (hc : bytes * c ≤ 2 ^ 48) (h63 : c < 2 ^ 63)
    (hk : K (.row σ.length 0 0 n.toNat) (σ ++ [.row 0 z.cells.length (List.replicate n.toNat z)])) : OpA cx o env σ K := by
  obtain ⟨e, hu, h0, hrun⟩ := zelem_spec hz
  obtain ⟨_, e', i, _, hu', hi, _, _, _, hby, _, _⟩ := slT_spec ht
  obtain rfl : e' = e := by rw [hu] at hu'; cases hu'; rfl
  intro B I a w st next Q' hn
  obtain ⟨hs, zv, r1, r2, r3⟩ := hrun w
  have hvx := st.eval x
  have hvy := st.eval y
  rw [hx] at hvx
  rw [hy] at hvy
  have wrapn : ∀ q : Int, 0 ≤ q → q < 2 ^ 63 → IntKind.i64.wrap q = q := by
    intro q h1 h2
    have e1 : (2 : Int) ^ IntKind.i64.bits = 18446744073709551616 := rfl
    have e2 : (2 : Int) ^ (IntKind.i64.bits - 1) = 9223372036854775808 := rfl
    have e3 : IntKind.i64.signed = true := rfl
    unfold IntKind.wrap
    simp only [e1, e2, e3, Bool.true_and]
    have e4 : q % 18446744073709551616 = q := Int.emod_eq_of_lt h1 (by omega)
    rw [e4, if_neg (by simp; omega)]
  have cn := wrapn n h0n (by omega)
  have cc := wrapn c (by omega) h63
  have start : ∃ cells0 : Array Value, ((c.toNat * z.cells.length = 0 ∧ cells0 = #[]) ∨ (¬ c.toNat * z.cells.length = 0 ∧ cells0 = zv.cells)) ∧
      ((Array.range (c.toNat * z.cells.length)).map (fun k => cells0[k % cells0.size]!)).size = c.toNat * z.cells.length ∧
      ∀ i j, i < c.toNat → j < z.cells.length → ((Array.range (c.toNat * z.cells.length)).map (fun k => cells0[k % cells0.size]!)).getD (i * z.cells.length + j) undef = zv.cells.getD j undef := by
    by_cases hn0 : c.toNat * z.cells.length = 0
    · refine ⟨#[], .inl ⟨hn0, rfl⟩, by simp, fun i j hi hj => ?_⟩
      have := mul_lt hi hj
      omega
    · obtain ⟨g1, g2⟩ := range_zero (n := c.toNat) r2
      exact ⟨zv.cells, .inr ⟨hn0, rfl⟩, g1, g2⟩
  obtain ⟨cells0, s1, s2, s3⟩ := start
  obtain ⟨B', k1, k2, k3, k4⟩ := SR.newRow (T := e') (sz := z.cells.length) (C := c.toNat) (xs := List.replicate n.toNat z) (cs := (Array.range (c.toNat * z.cells.length)).map (fun k => cells0[k % cells0.size]!)) st.sr h0 s2 (by simp; omega)
    (fun y hy => by rw [List.eq_of_mem_replicate hy])
    (fun i j hi hj => by
      simp only [List.length_replicate] at hi
      rw [getD_replicate' hi, s3 i j (by omega) hj, (r3 j hj).1]; exact ⟨.val _, (r3 j hj).2⟩) cx.m
  have rvn := RV.row (B := B') (I := I) (bs := cx.bs) (w := w.alloc (.cells ((Array.range (c.toNat * z.cells.length)).map (fun k => cells0[k % cells0.size]!)) e')) (l := σ.length) (ver := 0) (off := 0) (len := n.toNat) k4 rfl (by show 0 + n.toNat ≤ c.toNat; omega)
  simp only [Nat.zero_mul, Nat.sub_zero] at rvn
  refine wp_value (v := .slice (some ⟨w.heap.size, 0, none⟩) n.toNat c.toNat) (by simp [ho]) ?_ (hn _ _ B' I _ _ hk k1 rvn k2 k3)
  have hinfo : (typeInfo e').run cx.P w = .ok i w := by simp [typeInfo, hi, go_sem]
  have htl : ¬ ((decide (c < 0) || decide ((i.bytes : Int) * c > 2 ^ 48) || decide (n < 0) || decide (n > c)) = true) := by
    rw [hby]
    simp only [Bool.or_eq_true, decide_eq_true_eq]
    omega
  simp only [execOp, ho, hvx.valEq, hvy.valEq, Instr.makeSlice, asInt, asIntOf, Sem.run_bind, run_underlying' hu, Result.andThen, Sem.run_pure, hinfo, cn, cc]
  rw [if_neg htl]
  simp only [Sem.run_bind, run_askRoom, Result.andThen, hs]
  rcases s1 with ⟨g1, g2⟩ | ⟨g1, g2⟩
  · subst g2
    rw [if_pos g1]
    simp only [Sem.run_bind, Result.andThen, Sem.run_pure, newRow, run_newObj]
    rfl
  · subst g2
    rw [if_neg g1]
    simp only [Sem.run_bind, r1, Result.andThen, Sem.run_pure, newRow, run_newObj]
    rfl

end Go.Abs

/- The abstract layer, part 13: structs, slicing, small builtins. -/
namespace Go.Abs
open Go Go.RowKit

/-- Where the fields of a struct type lie: offset and size. -/
def fieldAt (P : Program) (s : TypeId) (f : Nat) : Option (Nat × Nat) :=
  match P.underlying s with
  | some (.struct fs) => (fs[f]?).bind fun x => (P.info? x.type).map fun i => (x.offset, i.size)
  | _ => none

/-- The places of all fields, as the machine looks them up. -/
def fieldsAt (P : Program) (s : TypeId) : Option (List (Nat × Nat)) :=
  match P.underlying s with
  | some (.struct fs) => fs.toList.mapM fun x => (P.info? x.type).map fun i => (x.offset, i.size)
  | some (.array n e) => (P.info? e).map fun i => (List.range n).map fun k => (k * i.size, i.size)
  | _ => none

def spliceParts (places : List (Nat × Nat)) (cs : List AVal) (parts : List (Nat × AVal)) : List AVal :=
  parts.foldl (fun cs p => splice cs ((places[p.1]?).map (·.1) |>.getD 0) p.2.cells) cs

theorem fill_struct {B : BMap} {I : Nat → Prop} {bs : Nat} {w : World} {n : Nat} {places : List (Nat × Nat)} {place : Nat → Option (Nat × Nat)} (hpl : ∀ i x, places[i]? = some x → place i = some x) {env : Env} {ρ : Operand → Value} (hρ : ∀ x, RV B I bs w (aeval env x) (ρ x)) :
    ∀ (parts : List (Nat × Operand)) (cs : List AVal) (cells : Array Value), (∀ p ∈ parts, ∃ off sz, places[p.1]? = some (off, sz) ∧ partOk sz (aeval env p.2) = true ∧ off + sz ≤ n) → cs.length = n → cells.size = n →
    (∀ k, k < n → RV B I bs w (cs.getD k .any) (cells.getD k undef)) →
    ∃ cells', Instr.fill place cells (parts.map fun p => (p.1, ρ p.2)) = some cells' ∧ cells'.size = n ∧ (spliceParts places cs (parts.map fun p => (p.1, aeval env p.2))).length = n ∧
      ∀ k, k < n → RV B I bs w ((spliceParts places cs (parts.map fun p => (p.1, aeval env p.2))).getD k .any) (cells'.getD k undef) := by
  intro parts
  induction parts with
  | nil => intro cs cells _ h1 h2 h3; exact ⟨cells, rfl, h2, h1, h3⟩
  | cons p r ih =>
    intro cs cells hp h1 h2 h3
    obtain ⟨off, sz, q1, q2, q3⟩ := hp p (List.mem_cons_self ..)
    obtain ⟨c1, c2, c3⟩ := leaf_cells (hρ p.2) q2
    obtain ⟨f1, f2⟩ := foldl_cells (v := ρ p.2) (off := off) (cells := cells) (by omega)
    obtain ⟨cells', e1, e2, e3, e4⟩ := ih (splice cs off (aeval env p.2).cells) _ (fun q hq => hp q (List.mem_cons_of_mem _ hq)) (by rw [splice_length (by omega)]; exact h1) (f1.trans h2)
      (by
        intro k hk
        rw [splice_getD (by omega), f2 k, c2, c1]
        by_cases e : off ≤ k ∧ k < off + sz
        · rw [if_pos e, if_pos e]
          exact (c3 (k - off) (by omega)).1
        · rw [if_neg e, if_neg e]
          exact h3 k hk)
    refine ⟨cells', ?_, e2, by simpa [spliceParts, q1] using e3, by simpa [spliceParts, q1] using e4⟩
    simp only [List.map_cons, Instr.fill, hpl _ _ q1]
    rw [if_neg (by simp [c2]; omega)]
    exact e1

theorem mapM_places {P : Program} {w : World} : ∀ (fs : List Field) (pl : List (Nat × Nat)), fs.mapM (fun x => (P.info? x.type).map fun i => (x.offset, i.size)) = some pl →
    (fs.mapM (fun f => do pure (f.offset, ← sizeOf f.type) : Field → Sem (Nat × Nat))).run P w = .ok pl w := by
  intro fs
  induction fs with
  | nil => intro pl h; simp at h; subst h; simp
  | cons f r ih =>
    intro pl h
    simp only [List.mapM_cons] at h ⊢
    cases hi : P.info? f.type with
    | none => simp [hi] at h
    | some i =>
      cases hr : r.mapM (fun x => (P.info? x.type).map fun i => (x.offset, i.size)) with
      | none => simp [hi, hr] at h
      | some pr =>
        simp [hi, hr] at h
        subst h
        simp only [Sem.run_bind, run_sizeOf' hi, Result.andThen, Sem.run_pure, ih pr hr]

theorem OpQ.build {cx : Cx} {o : Oper} {env : Env} {σ : List AObj} {K : Kont} {t : TypeId} {parts : Array (Nat × Operand)} {zs : List AVal} {places : List (Nat × Nat)} (ho : o.op = .build t parts) (hz : zeroCells cx.P t = some zs)
    (hpl : fieldsAt cx.P t = some places)
    (hp : ∀ p ∈ parts.toList, ∃ off sz, places[p.1]? = some (off, sz) ∧ partOk sz (aeval env p.2) = true ∧ off + sz ≤ zs.length)
    (hk : K (.agg (spliceParts places zs (parts.toList.map fun p => (p.1, aeval env p.2)))) σ) : OpQ cx o env σ K := by
  unfold fieldsAt at hpl
  split at hpl
  case h_2 n e hu =>
    rw [Option.map_eq_some_iff] at hpl
    obtain ⟨i, hi, rfl⟩ := hpl
    refine .same hk fun B I ρ w st _ => ?_
    obtain ⟨z, h1, h2, h3, h4, h5⟩ := zeroCells_run hz w
    have hl : z.cells.size = zs.length := by rw [← h2]; simp
    obtain ⟨cells', e1, e2, e3, e4⟩ := fill_struct (n := zs.length) (places := (List.range n).map fun k => (k * i.size, i.size)) (place := fun k => some (k * i.size, i.size)) (fun k x hx => by
        rw [List.getElem?_map, Option.map_eq_some_iff] at hx
        obtain ⟨j, hj, rfl⟩ := hx
        rw [List.getElem?_eq_some_iff] at hj
        obtain ⟨_, hj⟩ := hj
        rw [List.getElem_range] at hj
        rw [hj]) st parts.toList zs z.cells hp rfl hl (by
      intro k hk
      have : zs.getD k .any = .val (z.cells.getD k undef) := by
        have hk' : k < z.cells.size := by omega
        rw [← h2, List.getD_eq_getElem?_getD]
        simp [hk']
      rw [this]; exact .val _)
    refine ⟨.agg cells', ?_, .agg (by rw [e3, e2]) (fun k hk => e4 k (by rwa [e3] at hk))⟩
    have e0 : (parts.map fun (i, x) => (i, ρ x)).toList = parts.toList.map fun p => (p.1, ρ p.2) := by simp
    simp only [execOp, ho, Instr.build, Sem.run_bind, h1, Result.andThen, run_underlying' hu, run_sizeOf' hi, e0, e1, Sem.run_pure]
  · rename_i fs hu
    refine .same hk fun B I ρ w st _ => ?_
    obtain ⟨z, h1, h2, h3, h4, h5⟩ := zeroCells_run hz w
    have hl : z.cells.size = zs.length := by rw [← h2]; simp
    obtain ⟨cells', e1, e2, e3, e4⟩ := fill_struct (n := zs.length) (places := places) (place := fun i => places.toArray[i]?) (fun i x hx => by simpa using hx) st parts.toList zs z.cells hp rfl hl (by
      intro k hk
      have : zs.getD k .any = .val (z.cells.getD k undef) := by
        have hk' : k < z.cells.size := by omega
        rw [← h2, List.getD_eq_getElem?_getD]
        simp [hk']
      rw [this]; exact .val _)
    refine ⟨.agg cells', ?_, .agg (by rw [e3, e2]) (fun k hk => e4 k (by rwa [e3] at hk))⟩
    have e0 : (parts.map fun (i, x) => (i, ρ x)).toList = parts.toList.map fun p => (p.1, ρ p.2) := by simp
    have hm : (fs.mapM (fun f => do pure (f.offset, ← sizeOf f.type) : Field → Sem (Nat × Nat))).run cx.P w = .ok places.toArray w := by
      rw [Array.mapM_eq_mapM_toList, Sem.run_map, mapM_places _ _ hpl]
      rfl
    simp only [execOp, ho, Instr.build, Sem.run_bind, h1, Result.andThen, run_underlying' hu, hm, e0, e1, Sem.run_pure]
  · cases hpl

end Go.Abs

/- The abstract layer, part 14: slicing; parts of values. -/
namespace Go.Abs
open Go Go.RowKit

/-- A bound of a slicing. -/
def bnd (env : Env) (x : Option Operand) (d : Int) : Option Int :=
  match x with
  | none => some d
  | some x => match aeval env x with
    | .val (.int _ n) => some n
    | _ => none

theorem bnd_val {B : BMap} {I : Nat → Prop} {bs : Nat} {w : World} {env : Env} {ρ : Operand → Value} (hρ : ∀ x, RV B I bs w (aeval env x) (ρ x)) {x : Operand} {d n : Int} (h : bnd env (some x) d = some n) : ∃ k, ρ x = .int k n := by
  simp only [bnd] at h
  split at h
  · rename_i k m hx
    cases h
    have := hρ x
    rw [hx] at this
    exact ⟨k, this.valEq⟩
  · cases h

theorem run_bounds {P : Program} {B : BMap} {I : Nat → Prop} {bs : Nat} {w : World} {env : Env} {ρ : Operand → Value} (hρ : ∀ x, RV B I bs w (aeval env x) (ρ x)) {lo hi : Option Operand} {len cap l h : Nat} (b : Bool)
    (hlo : bnd env lo 0 = some (l : Int)) (hhi : bnd env hi len = some (h : Int)) (hlh : l ≤ h) (hhc : h ≤ cap) :
    (Instr.sliceBounds b len cap (lo.map ρ) (hi.map ρ) none).run P w = .ok (l, h, cap) w := by
  unfold Instr.sliceBounds
  have e1 : (match hi.map ρ with | some v => Instr.sliceBound v cap (if b then .sliceAcap else .sliceAlen) | none => (pure len : Sem Nat)).run P w = .ok h w := by
    cases hi with
    | none => simp only [bnd, Option.some.injEq] at hhi; simp only [Option.map_none, Sem.run_pure]; rw [show len = h by omega]
    | some x =>
      obtain ⟨k, e⟩ := bnd_val hρ hhi
      simp only [Option.map_some, e, Instr.sliceBound, asIntOf, Sem.run_bind, Sem.run_pure, Result.andThen]
      rw [if_pos (by omega)]
      simp
  have e2 : (match lo.map ρ with | some v => Instr.sliceBound v h .sliceB | none => (pure 0 : Sem Nat)).run P w = .ok l w := by
    cases lo with
    | none => simp only [bnd, Option.some.injEq] at hlo; simp only [Option.map_none, Sem.run_pure]; rw [show 0 = l by omega]
    | some x =>
      obtain ⟨k, e⟩ := bnd_val hρ hlo
      simp only [Option.map_some, e, Instr.sliceBound, asIntOf, Sem.run_bind, Sem.run_pure, Result.andThen]
      rw [if_pos (by omega)]
      simp
  cases hi <;> cases lo <;> simp only [Option.map_none, Option.map_some, Sem.run_bind, Sem.run_pure, Result.andThen, Option.isSome_none, Bool.false_eq_true, if_false] at e1 e2 ⊢
  · cases e1; cases e2; rfl
  · cases e1; simp only [e2]
  · simp only [e1]; cases e2; rfl
  · simp only [e1, e2]

def sliceA (sz : Nat) (env : Env) (lo hi : Option Operand) (av : AVal) (σ : List AObj) (K : Kont) : Prop :=
  match av with
  | .row l ver off len => match bnd env lo 0, bnd env hi len with
    | some a, some b => (0 ≤ a ∧ a ≤ b ∧ ∃ v xs, σ[l]? = some (.row v sz xs) ∧ ver = v ∧ (b ≤ len ∨ off + b ≤ xs.length)) ∧ K (.row l ver (off + a.toNat) (b - a).toNat) σ
    | _, _ => False
  | .list tg sz' xs => match bnd env lo 0, bnd env hi xs.length with
    | some a, some b => (0 ≤ a ∧ a ≤ b ∧ b ≤ xs.length ∧ sz' = sz) ∧ K (.list tg sz ((xs.drop a.toNat).take (b - a).toNat)) σ
    | _, _ => False
  | _ => False

theorem OpQ.slice {cx : Cx} {o : Oper} {env : Env} {σ : List AObj} {K : Kont} {t : TypeId} {x : Operand} {lo hi : Option Operand} {sz : Nat} (ho : o.op = .slice t x lo hi none) (ht : selem cx.P t = some sz)
    (hk : sliceA sz env lo hi (aeval env x) σ K) : OpQ cx o env σ K := by
  obtain ⟨h0, e, inf, hu, hinf, hsz⟩ := selem_spec ht
  have fin : ∀ (ρ : Operand → Value) (w : World) (a : Option Addr) (len cap l h : Nat), ρ x = .slice a len cap → (Instr.sliceBounds true len cap (lo.map ρ) (hi.map ρ) none).run cx.P w = .ok (l, h, cap) w →
      (execOp ρ o).run cx.P w = .ok (.value (.slice (if cap = l then a else a.map (·.add (l * sz))) (h - l) (cap - l))) w := by
    intro ρ w a len cap l h hx hb
    simp only [execOp, ho, hx, Instr.sliceAt, Sem.run_bind, run_underlying' hu, Result.andThen, Instr.slice, Option.map_none, hb, run_sizeOf' hinf, hsz, Sem.run_pure]
  unfold sliceA at hk
  split at hk
  · rename_i l ver off len hx
    split at hk
    · rename_i a b hlo hhi
      obtain ⟨⟨ha, hab, v, xs, hσ, rfl, hbl⟩, hk⟩ := hk
      obtain ⟨a, rfl⟩ := Int.eq_ofNat_of_zero_le ha
      obtain ⟨b, rfl⟩ := Int.eq_ofNat_of_zero_le (Int.le_trans ha hab)
      have hab' : a ≤ b := by omega
      have hbl' : b ≤ len ∨ off + b ≤ xs.length := by omega
      have e1 : ((b : Int) - (a : Int)).toNat = b - a := by omega
      rw [e1, Int.toNat_natCast] at hk
      refine .same hk fun B I ρ w st sr => ?_
      have hv := st x
      rw [hx] at hv
      obtain ⟨y, hy⟩ := sr.row _ _ _ _ hσ
      generalize hρ : ρ x = u at hv
      cases hv with
      | row hB hr hle =>
        rename_i y'
        obtain rfl : y' = y := Option.some.inj (hB.symm.trans hy.at_)
        have hfit := hy.fits
        refine ⟨_, fin ρ w _ _ _ a b hρ (run_bounds st true hlo hhi hab' (by omega)), ?_⟩
        by_cases hc : y'.C - off = a
        · rw [if_pos hc, show b - a = 0 by omega, show y'.C - off - a = 0 by omega]
          exact .rowEnd hB hr (by omega) rfl
        · rw [if_neg hc]
          have := RV.row (B := B) (I := I) (bs := cx.bs) (w := w) (l := l) (ver := ver) (off := off + a) (len := b - a) hB hr (by omega)
          rw [Nat.add_mul, hy.hsz] at this
          simp only [Option.map_some, add_none, hy.hsz]
          rw [show y'.C - off - a = y'.C - (off + a) by omega]
          exact this
      | rowEnd hB hr ho' hc' =>
        subst hc'
        rename_i y' _
        obtain rfl : y' = y := Option.some.inj (hB.symm.trans hy.at_)
        have hfit := hy.fits
        obtain rfl : b = 0 := by omega
        obtain rfl : a = 0 := by omega
        refine ⟨_, fin ρ w _ _ _ 0 0 hρ (run_bounds st true hlo hhi (Nat.le_refl _) (Nat.zero_le _)), ?_⟩
        rw [if_pos rfl]
        exact .rowEnd hB hr ho' rfl
      | rowNil hB hr =>
        rename_i y' _
        obtain rfl : y' = y := Option.some.inj (hB.symm.trans hy.at_)
        have hfit := hy.fits
        have hv0 := hy.virt hr
        obtain rfl : b = 0 := by omega
        obtain rfl : a = 0 := by omega
        refine ⟨_, fin ρ w _ _ _ 0 0 hρ (run_bounds st true hlo hhi (Nat.le_refl _) (Nat.zero_le _)), ?_⟩
        rw [if_pos rfl]
        exact .rowNil hB hr
    · exact hk.elim
  · rename_i tg sz' xs hx
    split at hk
    · rename_i a b hlo hhi
      obtain ⟨⟨ha, hab, hbl, rfl⟩, hk⟩ := hk
      obtain ⟨a, rfl⟩ := Int.eq_ofNat_of_zero_le ha
      obtain ⟨b, rfl⟩ := Int.eq_ofNat_of_zero_le (Int.le_trans ha hab)
      have hab' : a ≤ b := by omega
      have hbl' : b ≤ xs.length := by omega
      have e1 : ((b : Int) - (a : Int)).toNat = b - a := by omega
      rw [e1, Int.toNat_natCast] at hk
      refine .same hk fun B I ρ w st sr => ?_
      have hv := st x
      rw [hx] at hv
      generalize hρ : ρ x = u at hv
      have hnil : b - a = 0 → ∀ q c, RV B I cx.bs w (.list tg sz' ((xs.drop a).take (b - a))) (.slice q (b - a) c) := by
        intro h q c
        rw [h, List.take_zero]
        exact .nil ..
      cases hv with
      | nil =>
        simp only [List.length_nil] at hbl'
        obtain rfl : b = 0 := by omega
        obtain rfl : a = 0 := by omega
        exact ⟨_, fin ρ w _ _ _ 0 0 hρ (run_bounds st true hlo hhi (Nat.le_refl _) (Nat.zero_le _)), hnil rfl _ _⟩
      | list hI hN hsz' hl hb ho' hc h1 hcap =>
        rename_i b' o' cap cs T fr
        refine ⟨_, fin ρ w _ _ _ a b hρ (run_bounds st true hlo hhi hab' (by omega)), ?_⟩
        by_cases h0' : b - a = 0
        · rw [h0']
          have := hnil h0' (if cap = a then some ⟨b', o', none⟩ else (some ⟨b', o', none⟩ : Option Addr).map (·.add (a * sz'))) (cap - a)
          rw [h0'] at this
          exact this
        · rw [if_neg (by omega)]
          simp only [Option.map_some, add_none]
          have hlen : ((xs.drop a).take (b - a)).length = b - a := by simp; omega
          have hmul : a * sz' + (b - a) * sz' ≤ xs.length * sz' := by rw [← Nat.add_mul]; exact Nat.mul_le_mul_right _ (by omega)
          have h := RV.list (B := B) (I := I) (bs := cx.bs) (w := w) (tg := tg) (xs := (xs.drop a).take (b - a)) (o := o' + a * sz') (cap := cap - a) hI hN hsz' (fun y hy => hl y (List.mem_of_mem_drop (List.mem_of_mem_take hy))) hb
            (by rw [hlen]; omega)
            (fun i j hi hj => by
              rw [hlen] at hi
              rw [getD_drop_take hi, show o' + a * sz' + i * sz' + j = o' + (a + i) * sz' + j by rw [Nat.add_mul]; omega]
              exact hc _ _ (by omega) hj)
            (fun i j hi hj => by
              rw [hlen] at hi
              rw [show o' + a * sz' + i * sz' + j = o' + (a + i) * sz' + j by rw [Nat.add_mul]; omega]
              exact h1 _ _ (by omega) hj) (by rw [hlen]; omega)
          rw [hlen] at h
          exact h
    · exact hk.elim
  · exact hk.elim


/-- 's[:0:0]': a slice of no length and no room: a row of its own that is nil. -/
theorem OpA.slice00 {cx : Cx} {o : Oper} {env : Env} {σ : List AObj} {K : Kont} {t : TypeId} {x hi mx : Operand} {k1 k2 : IntKind} {sz : Nat} (ho : o.op = .slice t x none (some hi) (some mx)) (ht : selem cx.P t = some sz)
    (hhi : aeval env hi = .val (.int k1 0)) (hmx : aeval env mx = .val (.int k2 0)) (hx : ∃ n, lenA false (aeval env x) = some n)
    (hk : K (.row σ.length 0 0 0) (σ ++ [.row 0 sz []])) : OpA cx o env σ K := by
  obtain ⟨h0, e, inf, hu, hinf, hsz⟩ := selem_spec ht
  intro B I a w st next Q' hn
  have v1 := st.eval hi
  have v2 := st.eval mx
  rw [hhi] at v1
  rw [hmx] at v2
  obtain ⟨n, hx⟩ := hx
  obtain ⟨B', y, r1, r2, r3, r4, r5⟩ := SR.newNil st.sr h0 cx.m
  rcases (st.eval x).len hx with ⟨_, q, k, c, e1, _⟩ | ⟨h, _⟩
  · refine wp_value (v := .slice q 0 0) (by simp [ho]) ?_ (hn _ _ B' I _ w hk r1 (.rowNil r4 r5) r2 r3)
    simp only [execOp, ho, e1, v1.valEq, v2.valEq, Instr.sliceAt, Sem.run_bind, run_underlying' hu, Result.andThen, Instr.slice, Option.map_none, Option.map_some, Instr.sliceBounds, Instr.sliceBound, asIntOf, Sem.run_pure]
    simp [run_sizeOf' hinf]
  · cases h

theorem OpQ.sliceStr {cx : Cx} {o : Oper} {env : Env} {σ : List AObj} {K : Kont} {t : TypeId} {x : Operand} {lo hi : Option Operand} {s : ByteArray} {a b : Int} (ho : o.op = .slice t x lo hi none) (ht : cx.P.underlying t = some .string)
    (hx : aeval env x = .val (.string s)) (hlo : bnd env lo 0 = some a) (hhi : bnd env hi s.size = some b) (ha : 0 ≤ a) (hab : a ≤ b) (hb : b ≤ s.size) (hk : K (.val (.string (s.extract a.toNat b.toNat))) σ) : OpQ cx o env σ K := by
  obtain ⟨a, rfl⟩ := Int.eq_ofNat_of_zero_le ha
  obtain ⟨b, rfl⟩ := Int.eq_ofNat_of_zero_le (Int.le_trans ha hab)
  rw [Int.toNat_natCast, Int.toNat_natCast] at hk
  refine .same hk fun B I ρ w st _ => ⟨_, ?_, .val _⟩
  have hv := st x
  rw [hx] at hv
  have hb' := run_bounds (P := cx.P) (w := w) (cap := s.size) (l := a) (h := b) st false hlo hhi (by omega) (by omega)
  simp only [execOp, ho, hv.valEq, Instr.sliceAt, Sem.run_bind, run_underlying' ht, Result.andThen, Instr.slice, Option.map_none, Option.isSome_none, Bool.false_eq_true, if_false, hb', Sem.run_pure]

theorem OpQ.indexStr {cx : Cx} {o : Oper} {env : Env} {σ : List AObj} {K : Kont} {t : TypeId} {x y : Operand} {s : ByteArray} {k : IntKind} {i : Int} (ho : o.op = .index t x y) (ht : cx.P.underlying t = some .string)
    (hx : aeval env x = .val (.string s)) (hy : aeval env y = .val (.int k i)) (h0 : 0 ≤ i) (hi : i < s.size) (hk : K (.val (.int .u8 (s.data.getD i.toNat 0).toNat)) σ) : OpQ cx o env σ K :=
  .same hk fun B I ρ w st _ => by
    have hv := st x
    have hw := st y
    rw [hx] at hv
    rw [hy] at hw
    refine ⟨_, ?_, .val _⟩
    have hlt : i.toNat < s.data.size := by show _ < s.size; omega
    have e : s[i.toNat]? = some (s.data.getD i.toNat 0) := by
      rw [getElem?_pos s i.toNat (by show _ < s.size; omega)]
      rw [Array.getD_eq_getD_getElem?, Array.getElem?_eq_getElem hlt]
      rfl
    simp only [execOp, ho, hv.valEq, hw.valEq, Instr.index, asIntOf, Sem.run_bind, Sem.run_pure, Result.andThen, run_underlying' ht, h0, if_true, e]

/-- A field of a struct that is a value. -/
theorem OpQ.field {cx : Cx} {o : Oper} {env : Env} {σ : List AObj} {K : Kont} {s : TypeId} {x : Operand} {f off : Nat} {q : Option Nat} {cs : List AVal} {fs : Array Field} {fd : Field} (ho : o.op = .field s x f) (hu : cx.P.underlying s = some (.struct fs)) (hf : fs[f]? = some fd)
    (hoff : fd.offset = off) (ht : tin cx.P fd.type = some q) (hx : aeval env x = .agg cs) (hle : off + wid q ≤ cs.length) (hk : K (cut q cs off) σ) : OpQ cx o env σ K := by
  subst hoff
  refine .same hk fun B I ρ w st _ => ?_
  have hv := st x
  rw [hx] at hv
  generalize hρ : ρ x = u at hv
  cases hv with
  | agg hl hc =>
    rename_i vs
    cases q with
    | none =>
      simp only [wid] at hle
      have e : vs[fd.offset]? = some (vs.getD fd.offset undef) := by rw [Array.getD_eq_getD_getElem?, Array.getElem?_eq_getElem (by omega)]; rfl
      refine ⟨vs.getD fd.offset undef, ?_, hc _ (by omega)⟩
      simp only [execOp, ho, hρ, Instr.field, Sem.run_bind, run_underlying' hu, Result.andThen, hf, asAgg, Sem.run_pure, part, tin_one ht w, Bool.false_eq_true, if_false, e]
    | some n =>
      simp only [wid] at hle
      refine ⟨.agg (vs.extract fd.offset (fd.offset + n)), ?_, .agg (by simp; omega) fun k hk => ?_⟩
      · simp only [execOp, ho, hρ, Instr.field, Sem.run_bind, run_underlying' hu, Result.andThen, hf, asAgg, Sem.run_pure, part, (tin_agg ht w).1, (tin_agg ht w).2, if_true]
      · have hk' : k < n := by simp at hk; omega
        rw [getD_drop_take hk', Array.getD_eq_getD_getElem?, Array.getElem?_extract]
        rw [if_pos (by omega), ← Array.getD_eq_getD_getElem?]
        exact hc _ (by omega)

end Go.Abs

/- The abstract layer, part 15: calls: contracts, how they are used, and how they come of a body. -/
namespace Go.Abs
open Go Go.RowKit

/-- A CONTRACT: called with these values, where the store is σ, the function returns what K takes. -/
def CallG (P : Program) (f : FuncId) (args : List AVal) (σ : List AObj) (K : Kont) : Prop :=
  ∀ (bs : Nat) (B : BMap) (I : Nat → Prop) (w : World) (vs : Array Value), SR B I bs σ w → args.length = vs.size → (∀ k, k < args.length → RV B I bs w (args.getD k .any) (vs.getD k undef)) →
    Calls P f vs w fun e w' => ∃ r σ' B' I' v, e = .returned v ∧ K r σ' ∧ SR B' I' bs σ' w' ∧ RV B' I' bs w' r v ∧ Ext σ.length B I σ w B' I' σ' w'

theorem CallG.mono {P : Program} {f : FuncId} {args : List AVal} {σ : List AObj} {K K' : Kont} (h : CallG P f args σ K) (hk : ∀ r σ', K r σ' → K' r σ') : CallG P f args σ K' :=
  fun bs B I w vs h1 h2 h3 => (h bs B I w vs h1 h2 h3).mono fun _ _ ⟨r, σ', B', I', v, e, k, rest⟩ => ⟨r, σ', B', I', v, e, hk _ _ k, rest⟩

/-- The function can be entered. -/
def Enters (P : Program) (f : FuncId) : Prop := ∀ (args : Array Value) (w : World), (callFunc f args).run P w = .ok (.enter f args) w

theorem enters_of {P : Program} {f : FuncId} {fn : Func} {c : Code} (hf : P.funcs[f]? = some fn) (hname : (fn.name == "runtime.NumGoroutine") = false) (hb : fn.body = some c) : Enters P f := by
  intro args w
  simp only [callFunc, Sem.run_bind, run_program, Result.andThen, hf, hname, hb, Option.isNone_some, Bool.false_eq_true, if_false, Sem.run_pure]

theorem fenced_FR (P : Program) (rd : Option Nat) (m : Machine) : m.fenced P (FR rd) := by
  intro g _
  exact ⟨(fun h => by cases h), .inl trivial, fun _ _ => trivial, (fun _ h => by cases h)⟩

theorem callsIn_FR {P : Program} {rd : Option Nat} {n : Nat} {f : FuncId} {args : Array Value} {w : World} {R : Ending → World → Prop} : CallsIn (FR rd) n P f args w R ↔ Calls P f args w R := by
  have steps : ∀ m m' : Machine, StepsIn (Machine.fenced P (FR rd)) P m m' ↔ Steps P m m' := fun m m' =>
    ⟨StepsIn.steps, fun h => (StepsIn.of_steps h).mono fun m _ => fenced_FR P rd m⟩
  have comes : ∀ (m m' : Machine) (e : Ending), ComesIn (Machine.fenced P (FR rd)) P m m' e ↔ Comes P m m' e := by
    intro m m' e
    cases e with
    | returned v => exact steps _ _
    | panicked c => exact steps _ _
    | outgrown => exact Iff.rfl
  exact ⟨fun h cs => let ⟨e, w', fr, r, s, x⟩ := h.2 cs (fr_room _ _); ⟨e, w', fr, r, (comes _ _ _).1 s, x⟩,
    fun h => ⟨trivial, fun cs _ => let ⟨e, w', fr, r, s, x⟩ := h cs; ⟨e, w', fr, r, (comes _ _ _).2 s, x⟩⟩⟩

theorem Ext.lower {m m' : Nat} {B B' : BMap} {I I' : Nat → Prop} {σ σ' : List AObj} {w w' : World} (h : Ext m' B I σ w B' I' σ' w') (hm : m ≤ m') (hd : ∀ l, m' ≤ l → ∀ b, Cur B σ l ≠ some b) : Ext m B I σ w B' I' σ' w' where
  os := h.os
  tape := h.tape
  output := h.output
  size := h.size
  block := h.block
  bmap l ver x hl hx := h.bmap l ver x (by omega) hx
  imono := h.imono
  inew b hb := by
    rcases h.inew b hb with h1 | ⟨l, hl, h1⟩ | h1
    · exact .inl h1
    · exact absurd h1 (hd l hl b)
    · exact .inr (.inr h1)
  own l b hb := by
    rcases h.own l b hb with h1 | ⟨h1, h2⟩ | ⟨_, l0, h1, h2⟩
    · exact .inl h1
    · rcases Nat.lt_or_ge l m with hl | hl
      · exact .inr (.inl ⟨hl, h2⟩)
      · exact .inr (.inr ⟨hl, l, hl, h2⟩)
    · exact absurd h2 (hd l0 h1 b)

theorem cur_none {B : BMap} {σ : List AObj} {l : Nat} (h : σ.length ≤ l) (b : Nat) : Cur B σ l ≠ some b := by
  have : σ[l]? = none := List.getElem?_eq_none h
  simp [Cur, this]

/-- What an operation calls: a function of the program, its arguments, what it has captured behind them. -/
theorem OpA.call {cx : Cx} {o : Oper} {env : Env} {σ : List AObj} {K : Kont} {f : Operand} {args : Array Operand} {ts : Array TypeId} {g : FuncId} {first caps : List AVal} (ho : o.op = .call { callee := .value f, args := args, argTypes := ts })
    (hf : aeval env f = .func (.func g) first caps) (hent : Enters cx.P g) (hm : cx.m ≤ σ.length) (hk : CallG cx.P g (first ++ args.toList.map (aeval env) ++ caps) σ K) : OpA cx o env σ K := by
  intro B I a w st next Q' hn
  refine ⟨fun _ _ => trivial, ?_⟩
  rw [Oper.semAt_eq _ _ _ (by simp [ho])]
  have hv := st.eval f
  rw [hf] at hv
  obtain ⟨ha1, ha2⟩ := getD_map_ops st.eval args
  generalize hρ : a.eval f = u at hv
  cases hv with
  | func h1 h2 h3 h4 =>
    rename_i fv cv
    have hrun : (execOp a.eval o).run cx.P w = .ok (.enter g (fv ++ args.map a.eval ++ cv)) w := by
      simp only [execOp, ho, resolve, hρ, Deferred.ofValue, Sem.run_bind, Sem.run_pure, Result.andThen, invoke]
      exact hent _ _
    rw [hrun]
    refine ⟨(fun h => by cases h), callsIn_FR.2 ?_⟩
    refine (hk cx.bs B I w _ st.sr (by simp [h1, h2]) fun k hlt => ?_).mono ?_
    · rw [getD_app]
      simp only [List.length_append, List.length_map, Array.length_toList] at hlt ⊢
      by_cases q1 : k < first.length + args.size
      · rw [if_pos q1, getD_app, getD_append_l (by simp; omega)]
        by_cases q2 : k < first.length
        · rw [if_pos q2, getD_append_l (by omega)]
          exact h3 k q2
        · rw [if_neg q2, getD_append_r (by omega), ← h1]
          exact ha2 _ (by simp; omega)
      · rw [if_neg q1, getD_append_r (by simp; omega)]
        have : (fv ++ args.map a.eval).size = first.length + args.size := by simp; omega
        rw [this]
        exact h4 _ (by omega)
    · rintro e w' ⟨r, σ', B', I', v, rfl, hkr, hsr, hrv, hext⟩
      have hB : ∀ l ver x, B l ver = some x → B' l ver = some x := by
        intro l ver x hx
        rcases Nat.lt_or_ge l σ.length with hl | hl
        · exact hext.bmap l ver x hl hx
        · rw [st.sr.dead l (.inl (List.getElem?_eq_none hl)) ver] at hx; cases hx
      exact hn r σ' B' I' v w' hkr hsr hrv (hext.lower hm fun l hl b => cur_none hl b) hB

/-! ### Contracts out of bodies -/

/-- What a function hands back, out of its frame. -/
def resA (P : Program) (env : Env) (σ : List AObj) : List ResultVar → List AVal → (List AVal → Prop) → Prop
  | [], acc, K => K acc.reverse
  | .tmp t :: r, acc, K => resA P env σ r (env.get t :: acc) K
  | .cell t ty :: r, acc, K => match tin P ty with
    | some q => loadA q (env.get t) σ fun v _ => resA P env σ r (v :: acc) K
    | none => False

def tupA : List AVal → AVal
  | [v] => v
  | vs => .tuple vs

def tupV (vs : Array Value) : Value := if h : vs.size = 1 then vs[0] else .tuple vs

theorem tup_rel {B : BMap} {I : Nat → Prop} {bs : Nat} {w : World} {as : List AVal} {vs : Array Value} (hl : as.length = vs.size) (h : ∀ k, k < as.length → RV B I bs w (as.getD k .any) (vs.getD k undef)) : RV B I bs w (tupA as) (tupV vs) := by
  unfold tupV
  split
  · rename_i h1
    match as, hl, h with
    | [a], _, h =>
      have := h 0 (by simp)
      simp only [tupA]
      rw [Array.getD_eq_getD_getElem?, Array.getElem?_eq_getElem (by omega)] at this
      exact this
    | [], hl, _ => simp at hl; omega
    | _ :: _ :: _, hl, _ => simp at hl; omega
  · rename_i h1
    match as, hl, h with
    | [a], hl, h => exact absurd hl.symm h1
    | [], hl, h => exact .tuple hl h
    | a :: b :: r, hl, h => exact .tuple hl h

theorem run_load_ptr {P : Program} {B : BMap} {I : Nat → Prop} {bs : Nat} {σ : List AObj} {w : World} {t : TypeId} {q : Option Nat} (ht : tin P t = some q) {av : AVal} {u : Value} (hs : SR B I bs σ w) (hv : RV B I bs w av u) {K : Kont} (h : loadA q av σ K) :
    ∃ a r v, u = .pointer (some a) ∧ (loadVar t a).run P w = .ok v w ∧ RV B I bs w r v ∧ K r σ := by
  unfold loadA at h
  split at h
  · rename_i l ver i j
    split at h
    · rename_i v sz xs hσ
      obtain ⟨⟨rfl, hi, hj⟩, hk⟩ := h
      obtain ⟨y, hy⟩ := hs.row _ _ _ _ hσ
      cases hv with
      | ptr hB hr =>
        rename_i z
        obtain rfl : z = y := Option.some.inj (hB.symm.trans hy.at_)
        obtain ⟨cs, T, hb, hsz, hc⟩ := hy.real hr
        have hlen := hy.each _ (mem_getD hi)
        have hfit := hy.fits
        have hmul : i * sz + sz ≤ cs.size := by
          rw [hsz]
          calc i * sz + sz = (i + 1) * sz := by rw [Nat.add_mul, Nat.one_mul]
            _ ≤ z.C * sz := Nat.mul_le_mul_right _ (by omega)
        obtain ⟨v', h1, h2⟩ := run_cut (P := P) (B := B) (I := I) (bs := bs) (w := w) ht (cs := (xs.getD i .any).cells) (o := i * sz) (j := j) hb (by rw [hlen]; exact hj) (by rw [hlen]; exact hmul)
          (fun k hk => (hc i k hi (by rw [hlen] at hk; exact hk)).1)
        rw [hy.hsz]
        exact ⟨_, _, v', rfl, h1, h2, hk⟩
    · exact h.elim
  · rename_i cs j
    obtain ⟨hj, hk⟩ := h
    cases hv with
    | eptr hI hb ho hc =>
      obtain ⟨v', h1, h2⟩ := run_cut (P := P) (B := B) (I := I) (bs := bs) (w := w) ht (j := j) hb hj ho hc
      exact ⟨_, _, v', rfl, h1, h2, hk⟩
  · exact h.elim

def rvRun (ts : Array Value) : ResultVar → Sem Value
  | .tmp t => pure (ts.getD t undef)
  | .cell a t => do loadVar t (← asAddr (ts.getD a undef))

theorem res_run {P : Program} {B : BMap} {I : Nat → Prop} {bs : Nat} {σ : List AObj} {w : World} {env : Env} {ts : Array Value} (hs : SR B I bs σ w) (he : EnvR B I bs w env ts) :
    ∀ (rs : List ResultVar) (acc : List AVal) (vacc : List Value) (K : List AVal → Prop), acc.length = vacc.length → (∀ k, k < acc.length → RV B I bs w (acc.getD k .any) (vacc.getD k undef)) → resA P env σ rs acc K →
    ∃ as vs, K as ∧ (rs.mapM (rvRun ts)).run P w = .ok vs w ∧ as.length = vacc.length + vs.length ∧
      ∀ k, k < as.length → RV B I bs w (as.getD k .any) ((vacc.reverse ++ vs).getD k undef) := by
  have rev : ∀ (acc : List AVal) (vacc : List Value), acc.length = vacc.length → (∀ k, k < acc.length → RV B I bs w (acc.getD k .any) (vacc.getD k undef)) → ∀ k, k < acc.reverse.length → RV B I bs w (acc.reverse.getD k .any) (vacc.reverse.getD k undef) := by
    intro acc vacc hl h k hk
    simp only [List.length_reverse] at hk
    have := h (acc.length - 1 - k) (by omega)
    rw [List.getD_eq_getElem?_getD, List.getD_eq_getElem?_getD, List.getElem?_reverse hk, List.getElem?_reverse (by omega), ← hl]
    rw [List.getD_eq_getElem?_getD, List.getD_eq_getElem?_getD] at this
    exact this
  intro rs
  induction rs with
  | nil =>
    intro acc vacc K hl hacc h
    refine ⟨acc.reverse, [], h, by simp, by simp [hl], fun k hk => ?_⟩
    rw [List.append_nil]
    exact rev acc vacc hl hacc k hk
  | cons r rs ih =>
    intro acc vacc K hl hacc h
    have step : ∀ (a : AVal) (v : Value), RV B I bs w a v → resA P env σ rs (a :: acc) K →
        (rvRun ts r).run P w = .ok v w →
        ∃ as vs, K as ∧ ((r :: rs).mapM (rvRun ts)).run P w = .ok vs w ∧ as.length = vacc.length + vs.length ∧
        ∀ k, k < as.length → RV B I bs w (as.getD k .any) ((vacc.reverse ++ vs).getD k undef) := by
      intro a v hav hres hrun
      obtain ⟨as, vs, k1, k2, k3, k4⟩ := ih (a :: acc) (v :: vacc) K (by simp [hl]) (by
        intro k hk
        cases k with
        | zero => exact hav
        | succ k => exact hacc k (by simpa using hk)) hres
      refine ⟨as, v :: vs, k1, ?_, by simp at k3 ⊢; omega, fun k hk => ?_⟩
      · simp only [List.mapM_cons, Sem.run_bind, hrun, Result.andThen, k2, Sem.run_pure]
      · have := k4 k hk
        rw [List.reverse_cons, List.append_assoc] at this
        exact this
    cases r with
    | tmp t => exact step _ _ (he t) h rfl
    | cell t ty =>
      simp only [resA] at h
      split at h
      · rename_i q hq
        obtain ⟨a, r, v, h1, h2, h3, h4⟩ := run_load_ptr hq hs (he t) h
        exact step r v h3 h4 (by simp only [rvRun, Sem.run_bind, h1, asAddr, Sem.run_pure, Result.andThen, h2])
      · exact h.elim

theorem results_run {P : Program} {fn : Func} {ts : Array Value} {w : World} {vs : List Value} (h : (fn.results.toList.mapM (rvRun ts)).run P w = .ok vs w) : (results fn ts).run P w = .ok (tupV vs.toArray) w := by
  have e : (fn.results.mapM (rvRun ts)).run P w = .ok vs.toArray w := by
    rw [Array.mapM_eq_mapM_toList, Sem.run_map, h]
    rfl
  have e2 : results fn ts = (do let vs ← fn.results.mapM (rvRun ts); pure (tupV vs)) := rfl
  rw [e2]
  simp only [Sem.run_bind, e, Result.andThen, Sem.run_pure]

/-- What a body must come to. -/
def bodyA (P : Program) (rs : List ResultVar) (K : Kont) : Post := fun e env σ =>
  match e with
  | .normal | .ret => resA P env σ rs [] fun as => K (tupA as) σ
  | _ => False

theorem SR.otherBlock {B : BMap} {I : Nat → Prop} {bs : Nat} {σ : List AObj} {w w' : World} (h : SR B I bs σ w) {r : Nat} (hs : w'.heap.size = w.heap.size) (hk : ∀ b, b ≠ r → w'.heap[b]? = w.heap[b]?)
    {ds : Option (List Deferred)} (hr : w.heap[r]? = some (.deferred ds)) : SR B I bs σ w' := by
  have hc : ∀ l b, Cur B σ l = some b → w'.heap[b]? = w.heap[b]? := by
    intro l b hl
    refine hk b fun e => ?_
    subst e
    rcases h.curCells hl with ⟨cs, T, e⟩ | ⟨ms, ck, e⟩ | ⟨r, e⟩ <;> rw [hr] at e <;> cases e
  have hI : ∀ b, I b → w'.heap[b]? = w.heap[b]? := by
    intro b hb
    refine hk b fun e => ?_
    subst e
    obtain ⟨cs, T, fr, e⟩ := h.icells b hb
    rw [hr] at e; cases e
  exact {
    row := fun l ver sz xs hl => let ⟨x, hx⟩ := h.row l ver sz xs hl; ⟨x, hx.mono (fun _ _ _ h => h) (fun _ h => h) hI (Nat.le_refl _) (fun hr => hc l _ (hx.cur hl hr))⟩
    map := fun l es ck hl => let ⟨x, hx⟩ := h.map l es ck hl; ⟨x, hx.mono (fun _ _ _ h => h) (fun _ h => h) hI (Nat.le_refl _) (hc l _ (hx.cur hl))⟩
    dead := h.dead
    sep := h.sep
    imm := h.imm
    lt := fun l b hb => by rw [hs]; exact h.lt l b hb
    icells := fun b hb => by rw [hI b hb]; exact h.icells b hb
    gl := h.gl.mono (fun _ h => h) hI
    vlt := fun l ver x hb hr => by rw [hs]; exact h.vlt l ver x hb hr
    bsle := by rw [hs]; exact h.bsle
    cbs := h.cbs
    vmono := h.vmono }

theorem RV.otherBlock {B : BMap} {I : Nat → Prop} {bs : Nat} {σ : List AObj} {w w' : World} (h : SR B I bs σ w) {r : Nat} (hk : ∀ b, b ≠ r → w'.heap[b]? = w.heap[b]?)
    {ds : Option (List Deferred)} (hr : w.heap[r]? = some (.deferred ds)) {a : AVal} {v : Value} (hv : RV B I bs w a v) : RV B I bs w' a v :=
  hv.mono (fun _ _ _ h => h) (fun _ h => h) (fun b hb => hk b fun e => by
    subst e
    obtain ⟨cs, T, fr, e⟩ := h.icells b hb
    rw [hr] at e; cases e) (Nat.le_refl _)


/-- The deferred marks are taken, one by one: nothing but their blocks turns. -/
theorem leave_marks {P : Program} {fn : Func} {ts : Array Value} {rd : Option Nat} {R : Ending → World → Prop} {B : BMap} {I : Nat → Prop} {bs : Nat} {σ : List AObj} {h0 : Nat} :
    ∀ (ds : List Deferred) (w : World), Marks h0 w ds → SR B I bs σ w →
    (∀ w1 : World, SR B I bs σ w1 → (∀ a v, RV B I bs w a v → RV B I bs w1 a v) → w1.os = w.os → w1.tape = w.tape → w1.output = w.output → w1.heap.size = w.heap.size → (∀ b, b < h0 → w1.heap[b]? = w.heap[b]?) →
      ∃ v, (results fn ts).run P w1 = .ok v w1 ∧ R (.returned v) w1) →
    LeavesInM (FR rd) 0 P fn ts R ds .returning w := by
  intro ds
  induction ds with
  | nil =>
    intro w _ hs hR
    exact hR w hs (fun _ _ h => h) rfl rfl rfl rfl fun _ _ => rfl
  | cons d ds ih =>
    intro w hm hs hR
    cases hm with
    | cons h hr hd ht =>
      rename_i r
      have hlt : r < w.heap.size := (Array.getElem?_eq_some_iff.1 h).1
      refine ⟨by simp, .inl ⟨r, { w with heap := w.heap.setIfInBounds r (.deferred none) }, rfl, ?_, ?_⟩⟩
      · simp only [Instr.takeDeferred, getObj, setObj, Sem.run_bind, Sem.run, h, Result.andThen]
        rfl
      · have hsz : ({ w with heap := w.heap.setIfInBounds r (.deferred none) } : World).heap.size = w.heap.size := by simp
        have hk : ∀ b, b ≠ r → ({ w with heap := w.heap.setIfInBounds r (.deferred none) } : World).heap[b]? = w.heap[b]? := fun b hb => Array.getElem?_setIfInBounds_ne (fun e => hb e.symm)
        have hs' := hs.otherBlock hsz hk h
        have hrv : ∀ a v, RV B I bs w a v → RV B I bs ({ w with heap := w.heap.setIfInBounds r (.deferred none) } : World) a v := fun a v hv => RV.otherBlock hs hk h hv
        refine ih _ ?_ hs' (fun w1 h1 h2 h3 h4 h5 h6 h7 => hR w1 h1 (fun a v hv => h2 a v (hrv a v hv)) h3 h4 h5 (h6.trans hsz) fun b hb => (h7 b hb).trans (hk b (by omega)))
        clear ih hR hs hs' hrv
        induction ht with
        | nil h => exact .nil (by rw [hsz]; exact h)
        | @cons r2 ds2 g1 g2 g3 _ ih2 =>
          have hne : r2 ≠ r := fun e => hd { target := .collected r2, args := #[] } (List.mem_cons_self ..) (by rw [e])
          exact .cons ((hk r2 hne).trans g1) g2 g3 (ih2 fun d' hd' => hd d' (List.mem_cons_of_mem _ hd'))

/-- The frame that a function begins with. -/
def argEnvFrom : Nat → List AVal → Env
  | _, [] => []
  | n, a :: r => (n, a) :: argEnvFrom (n + 1) r

def argEnv (args : List AVal) : Env := argEnvFrom 0 args

theorem argEnv_get : ∀ (args : List AVal) (s t : Nat), (argEnvFrom s args).get t = if s ≤ t then args.getD (t - s) .any else .any := by
  intro args
  induction args with
  | nil => intro s t; simp [argEnvFrom, Env.get]
  | cons a r ih =>
    intro s t
    simp only [argEnvFrom, Env.get]
    split
    · rename_i e; subst e; simp
    · rename_i e
      rw [ih (s + 1) t]
      by_cases h : s ≤ t
      · rw [if_pos h, if_pos (by omega), show t - s = (t - (s + 1)) + 1 by omega]
        simp
      · rw [if_neg h, if_neg (by omega)]

theorem callG_of_body {P : Program} {f : FuncId} {fn : Func} {c : Code} {args : List AVal} {σ : List AObj} {K : Kont} (hf : P.funcs[f]? = some fn) (hb : fn.body = some c) (hn : args.length ≤ fn.ntmps)
    (h : ∀ bs h0, WpA { P := P, rd := none, N := fn.ntmps, m := σ.length, bs := bs, h0 := h0 } c (argEnv args) σ (bodyA P fn.results.toList K)) : CallG P f args σ K := by
  intro bs B I w vs hs hlen hv
  refine callsIn_FR.1 (callsIn_of_wp_marks (F := FR none) (n := 0) hf hb trivial ?_)
  refine wpIn_mono (h bs w.heap.size B I { tmps := vs ++ Array.replicate (fn.ntmps - vs.size) undef, defers := [] } w ⟨by simp; omega, fun t => ?_, hs, .nil (Nat.le_refl _)⟩) ?_
  · rw [argEnv, argEnv_get]
    simp only [Nat.zero_le, if_true, Nat.sub_zero]
    by_cases ht : t < args.length
    · rw [getD_append_l (by omega)]
      exact hv t ht
    · rw [List.getD_eq_getElem?_getD, List.getElem?_eq_none (by omega)]
      exact .any _
  · rintro e a' w' ⟨env', σ', B', I', hq, st, hext⟩
    have fin : resA P env' σ' fn.results.toList [] (fun as => K (tupA as) σ') → LeavesInM (FR none) 0 P fn a'.tmps (fun e w' => ∃ r σ' B' I' v, e = .returned v ∧ K r σ' ∧ SR B' I' bs σ' w' ∧ RV B' I' bs w' r v ∧ Ext σ.length B I σ w B' I' σ' w') a'.defers .returning w' := by
      intro hres
      refine leave_marks a'.defers w' st.marks st.sr fun w1 h1 h2 h3 h4 h5 h6 h7 => ?_
      obtain ⟨as, us, k1, k2, k3, k4⟩ := res_run (P := P) h1 (fun t => h2 _ _ (st.env t)) fn.results.toList [] [] _ rfl (fun _ hk => absurd hk (Nat.not_lt_zero _)) hres
      simp only [List.length_nil, Nat.zero_add, List.reverse_nil, List.nil_append] at k3 k4
      have hrv : RV B' I' bs w1 (tupA as) (tupV us.toArray) := tup_rel (by simpa using k3) fun k hk => by
        have := k4 k hk
        rw [List.getD_eq_getElem?_getD] at this
        rw [Array.getD_eq_getD_getElem?, List.getElem?_toArray]
        exact this
      exact ⟨_, results_run k2, tupA as, σ', B', I', _, rfl, k1, h1, hrv, ⟨h3.trans hext.os, h4.trans hext.tape, h5.trans hext.output, by rw [h6]; exact hext.size, fun b hb hn => (h7 b hb).trans (hext.block b hb hn), hext.bmap, hext.imono, hext.inew, hext.own⟩⟩
    cases e with
    | normal => exact fin hq
    | ret => exact fin hq
    | _ => exact hq.elim


theorem callG_enter {P : Program} {f : FuncId} {fn : Func} {c : Code} {args : List AVal} {σ : List AObj} {K : Kont} {N : Nat} {rs : List ResultVar} (hf : P.funcs[f]? = some fn) (hb : fn.body = some c) (hN : fn.ntmps = N) (hR : fn.results.toList = rs)
    (hn : args.length ≤ N) (h : ∀ bs h0, WpA { P := P, rd := none, N := N, m := σ.length, bs := bs, h0 := h0 } c (argEnv args) σ (bodyA P rs K)) : CallG P f args σ K := by
  subst hN hR
  exact callG_of_body hf hb hn h

end Go.Abs

/- The abstract layer, text 4 of 5: loops by invariant, contracts, the sealed evaluator. Generic over the program. -/
import Derived.Test.YtphjobnijjkchaaGreatDoorL3

/- The abstract layer, part 31: the same told less fully: a nil slice is an empty list. -/
namespace Go.Abs
open Go Go.RowKit

inductive Sub : AVal → AVal → Prop
  | refl (a : AVal) : Sub a a
  | nil {tg : Bool} {sz : Nat} : Sub (.val (.slice none 0 0)) (.list tg sz [])
  | emp {tg tg' : Bool} {sz sz' : Nat} : Sub (.list tg sz []) (.list tg' sz' [])
  | agg {as bs : List AVal} (hl : as.length = bs.length) (h : ∀ k, k < as.length → Sub (as.getD k .any) (bs.getD k .any)) : Sub (.agg as) (.agg bs)
  | tuple {as bs : List AVal} (hl : as.length = bs.length) (h : ∀ k, k < as.length → Sub (as.getD k .any) (bs.getD k .any)) : Sub (.tuple as) (.tuple bs)
  | list {tg tg' : Bool} {sz : Nat} {xs ys : List AVal} (ht : tg' = true → tg = true) (hl : xs.length = ys.length) (hn : ∀ i, i < xs.length → (xs.getD i .any).cells.length = (ys.getD i .any).cells.length)
      (h : ∀ i j, i < xs.length → j < (xs.getD i .any).cells.length → Sub ((xs.getD i .any).cells.getD j .any) ((ys.getD i .any).cells.getD j .any)) : Sub (.list tg sz xs) (.list tg' sz ys)

theorem RV.sub {B : BMap} {I : Nat → Prop} {bs : Nat} {w : World} {a b : AVal} (h : Sub a b) : ∀ {v : Value}, RV B I bs w a v → RV B I bs w b v := by
  induction h with
  | refl a => exact id
  | nil => intro v hv; rw [hv.valEq]; exact .nil ..
  | emp =>
    intro v hv
    cases hv with
    | nil => exact .nil ..
    | list => exact .nil ..
  | agg hl _ ih =>
    intro v hv
    cases hv with
    | agg g1 g2 => exact .agg (hl.symm.trans g1) fun k hk => ih k (by omega) (g2 k (by omega))
  | tuple hl _ ih =>
    intro v hv
    cases hv with
    | tuple g1 g2 => exact .tuple (hl.symm.trans g1) fun k hk => ih k (by omega) (g2 k (by omega))
  | @list tg tg' sz xs ys ht hl hn _ ih =>
    intro v hv
    cases hv with
    | nil =>
      have : ys = [] := List.length_eq_zero_iff.1 (by simpa using hl.symm)
      subst this
      exact .nil ..
    | list hI hN hsz hlen hb ho hc h1 hcap =>
      rw [hl]
      refine .list hI (fun h => hN (ht h)) hsz (fun y hy => ?_) hb (by rw [← hl]; exact ho) (fun i j hi hj => ?_) (fun i j hi hj => h1 i j (by omega) hj) (by omega)
      · obtain ⟨k, hk, rfl⟩ := List.getElem_of_mem hy
        have e : ys.getD k .any = ys[k] := by simp [List.getD_eq_getElem?_getD, hk]
        have := hn k (by omega)
        rw [e] at this
        rw [← this]
        exact hlen _ (mem_getD (by omega))
      · have hi' : i < xs.length := by omega
        have := hlen _ (mem_getD hi')
        exact ih i j hi' (by omega) (hc i j hi' hj)

def SubL : List AVal → List AVal → Prop
  | [], [] => True
  | a :: as, b :: bs => Sub a b ∧ SubL as bs
  | _, _ => False

theorem SubL.pt : ∀ {as bs : List AVal}, SubL as bs → as.length = bs.length ∧ ∀ k, k < as.length → Sub (as.getD k .any) (bs.getD k .any)
  | [], [], _ => ⟨rfl, fun k hk => absurd hk (Nat.not_lt_zero _)⟩
  | a :: as, b :: bs, h => by
    obtain ⟨h1, h2⟩ := SubL.pt h.2
    refine ⟨by simp [h1], fun k hk => ?_⟩
    cases k with
    | zero => exact h.1
    | succ k => exact h2 k (by simpa using hk)
  | [], _ :: _, h => h.elim
  | _ :: _, [], h => h.elim

theorem SubL.refl : ∀ as : List AVal, SubL as as
  | [] => trivial
  | a :: as => ⟨.refl a, SubL.refl as⟩

theorem Sub.ofAgg {as bs : List AVal} (h : SubL as bs) : Sub (.agg as) (.agg bs) := .agg h.pt.1 h.pt.2
theorem Sub.ofTuple {as bs : List AVal} (h : SubL as bs) : Sub (.tuple as) (.tuple bs) := .tuple h.pt.1 h.pt.2
theorem Sub.untag {sz : Nat} {xs : List AVal} {tg : Bool} : Sub (.list true sz xs) (.list tg sz xs) := .list (fun _ => rfl) rfl (fun _ _ => rfl) fun _ _ _ _ => .refl _
theorem Sub.tagf {sz : Nat} {xs : List AVal} {tg : Bool} : Sub (.list tg sz xs) (.list false sz xs) := .list (fun h => by cases h) rfl (fun _ _ => rfl) fun _ _ _ _ => .refl _

/-- Element for element. -/
def ElemSub (a b : AVal) : Prop := SubL a.cells b.cells

theorem Sub.ofList {tg tg' : Bool} {sz : Nat} {xs ys : List AVal} (ht : tg' = true → tg = true) (hl : xs.length = ys.length) (h : ∀ i, i < xs.length → ElemSub (xs.getD i .any) (ys.getD i .any)) : Sub (.list tg sz xs) (.list tg' sz ys) :=
  .list ht hl (fun i hi => (h i hi).pt.1) fun i j hi hj => (h i hi).pt.2 j hj

theorem Sub.ofMap {α : Type} {tg tg' : Bool} {sz : Nat} {xs : List α} {f g : α → AVal} (ht : tg' = true → tg = true) (h : ∀ x ∈ xs, ElemSub (f x) (g x)) : Sub (.list tg sz (xs.map f)) (.list tg' sz (xs.map g)) :=
  .ofList ht (by simp) fun i hi => by
    have hi' : i < xs.length := by simpa using hi
    rw [List.getD_eq_getElem?_getD, List.getD_eq_getElem?_getD]
    simp only [List.getElem?_map, List.getElem?_eq_getElem hi', Option.map_some, Option.getD_some]
    exact h _ (List.getElem_mem hi')

inductive ObjSub : AObj → AObj → Prop
  | refl (o : AObj) : ObjSub o o
  | row {ver sz : Nat} {xs ys : List AVal} (hl : xs.length = ys.length) (h : ∀ i, i < xs.length → ElemSub (xs.getD i .any) (ys.getD i .any)) : ObjSub (.row ver sz xs) (.row ver sz ys)

theorem ObjSub.map {α : Type} {ver sz : Nat} {xs : List α} {f g : α → AVal} (h : ∀ x ∈ xs, ElemSub (f x) (g x)) : ObjSub (.row ver sz (xs.map f)) (.row ver sz (xs.map g)) :=
  .row (by simp) fun i hi => by
    have hi' : i < xs.length := by simpa using hi
    rw [List.getD_eq_getElem?_getD, List.getD_eq_getElem?_getD]
    simp only [List.getElem?_map, List.getElem?_eq_getElem hi', Option.map_some, Option.getD_some]
    exact h _ (List.getElem_mem hi')

def StoSub : List AObj → List AObj → Prop
  | [], [] => True
  | a :: as, b :: bs => ObjSub a b ∧ StoSub as bs
  | _, _ => False

theorem StoSub.refl : ∀ σ : List AObj, StoSub σ σ
  | [] => trivial
  | a :: as => ⟨.refl a, StoSub.refl as⟩

theorem StoSub.pt : ∀ {σ τ : List AObj}, StoSub σ τ → σ.length = τ.length ∧ ∀ (l : Nat) (o : AObj), τ[l]? = some o → ∃ o', σ[l]? = some o' ∧ ObjSub o' o
  | [], [], _ => ⟨rfl, fun l o h => by simp at h⟩
  | a :: as, b :: bs, h => by
    obtain ⟨h1, h2⟩ := StoSub.pt h.2
    refine ⟨by simp [h1], fun l o ho => ?_⟩
    cases l with
    | zero => simp only [List.getElem?_cons_zero, Option.some.injEq] at ho; subst ho; exact ⟨a, rfl, h.1⟩
    | succ l => exact h2 l o (by simpa using ho)
  | [], _ :: _, h => h.elim
  | _ :: _, [], h => h.elim

theorem ObjSub.rowL {o : AObj} {ver sz : Nat} {ys : List AVal} (h : ObjSub o (.row ver sz ys)) : ∃ xs, o = .row ver sz xs ∧ xs.length = ys.length ∧ ∀ i, i < xs.length → ElemSub (xs.getD i .any) (ys.getD i .any) := by
  cases h with
  | refl => exact ⟨ys, rfl, rfl, fun i _ => SubL.refl _⟩
  | row hl h => exact ⟨_, rfl, hl, h⟩

theorem StoSub.cur {σ τ : List AObj} (h : StoSub σ τ) (B : BMap) (l : Nat) : Cur B τ l = Cur B σ l := by
  obtain ⟨hl, hp⟩ := h.pt
  unfold Cur
  cases ht : τ[l]? with
  | none =>
    have : σ[l]? = none := List.getElem?_eq_none (by have := List.getElem?_eq_none_iff.1 ht; omega)
    rw [this]
  | some o =>
    obtain ⟨o', h1, h2⟩ := hp l o ht
    rw [h1]
    cases h2 <;> rfl

theorem SR.sub {B : BMap} {I : Nat → Prop} {bs : Nat} {σ τ : List AObj} {w : World} (h : SR B I bs σ w) (hs : StoSub σ τ) : SR B I bs τ w := by
  obtain ⟨hl, hp⟩ := hs.pt
  have hc := hs.cur B
  refine { row := ?_, map := ?_, dead := ?_, sep := fun l l' b h1 h2 => h.sep l l' b (by rw [← hc]; exact h1) (by rw [← hc]; exact h2), imm := fun l b h1 => h.imm l b (by rw [← hc]; exact h1), lt := fun l b h1 => h.lt l b (by rw [← hc]; exact h1), icells := h.icells, gl := h.gl, vlt := h.vlt, bsle := h.bsle, cbs := fun l b h1 => h.cbs l b (by rw [← hc]; exact h1), vmono := ?_ }
  · intro l ver sz ys ho
    obtain ⟨o', h1, h2⟩ := hp l _ ho
    obtain ⟨xs, rfl, h3, h4⟩ := h2.rowL
    obtain ⟨x, hx⟩ := h.row _ _ _ _ h1
    refine ⟨x, hx.at_, hx.hsz, hx.pos, by rw [← h3]; exact hx.fits, fun y hy => ?_, hx.virt, fun hr => ?_⟩
    · obtain ⟨k, hk, rfl⟩ := List.getElem_of_mem hy
      have e : ys.getD k .any = ys[k] := by simp [List.getD_eq_getElem?_getD, hk]
      have := (h4 k (by omega)).pt.1
      rw [e] at this
      rw [← this]
      exact hx.each _ (mem_getD (by omega))
    · obtain ⟨cs, T, g1, g2, g3⟩ := hx.real hr
      refine ⟨cs, T, g1, g2, fun i j hi hj => ?_⟩
      have hi' : i < xs.length := by omega
      have := hx.each _ (mem_getD hi')
      exact ⟨RV.sub ((h4 i hi').pt.2 j (by omega)) (g3 i j hi' hj).1, (g3 i j hi' hj).2⟩
  · intro l es ck ho
    obtain ⟨o', h1, h2⟩ := hp l _ ho
    cases h2 with
    | refl => exact h.map _ _ _ h1
  · intro l hd ver
    refine h.dead l ?_ ver
    rcases hd with hd | hd
    · exact .inl (List.getElem?_eq_none (by have := List.getElem?_eq_none_iff.1 hd; omega))
    · obtain ⟨o', h1, h2⟩ := hp l _ hd
      cases h2 with
      | refl => exact .inr h1
  · intro l v sz ys ver x ho hx
    obtain ⟨o', h1, h2⟩ := hp l _ ho
    obtain ⟨xs, rfl, _, _⟩ := h2.rowL
    exact h.vmono _ _ _ _ _ _ h1 hx

theorem Ext.cur {m : Nat} {B B' : BMap} {I I' : Nat → Prop} {σ τ σ' : List AObj} {w w' : World} (h : Ext m B I τ w B' I' σ' w') (hc : ∀ l, Cur B τ l = Cur B σ l) : Ext m B I σ w B' I' σ' w' where
  os := h.os
  tape := h.tape
  output := h.output
  size := h.size
  block b hb hn := h.block b hb fun l => by rw [hc]; exact hn l
  bmap := h.bmap
  imono := h.imono
  inew b hb := by simpa only [hc] using h.inew b hb
  own l b hl := by simpa only [hc] using h.own l b hl

/-- The frame told less fully. -/
def EnvSub (env : Env) : Env → Prop
  | [] => True
  | (t, v) :: r => (v = .any ∨ Sub (env.get t) v) ∧ EnvSub env r

theorem EnvSub.get {env : Env} : ∀ {env' : Env}, EnvSub env env' → ∀ t, env'.get t = .any ∨ Sub (env.get t) (env'.get t)
  | [], _, t => .inl rfl
  | (k, v) :: r, h, t => by
    simp only [Env.get]
    split
    · rename_i e; subst e; exact h.1
    · exact EnvSub.get h.2 t

theorem St.sub {cx : Cx} {B : BMap} {I : Nat → Prop} {env env' : Env} {σ τ : List AObj} {a : Act} {w : World} (st : St cx B I env σ a w) (he : EnvSub env env') (hs : StoSub σ τ) : St cx B I env' τ a w :=
  ⟨st.size, fun t => by
    rcases he.get t with e | e
    · rw [e]; exact .any _
    · exact (st.env t).sub e, st.sr.sub hs, st.marks⟩

theorem WpA.sub {cx : Cx} {c : Code} {env env' : Env} {σ τ : List AObj} {Q : Post} (he : EnvSub env env') (hs : StoSub σ τ) (h : WpA cx c env' τ Q) : WpA cx c env σ Q :=
  fun B I a w st => wpIn_mono (h B I a w (st.sub he hs)) fun _ _ _ ⟨env1, σ1, B1, I1, h1, h2, h3⟩ => ⟨env1, σ1, B1, I1, h1, h2, h3.cur (hs.cur B)⟩

theorem CallG.sub {P : Program} {f : FuncId} {args args' : List AVal} {σ : List AObj} {K : Kont} (ha : SubL args args') (h : CallG P f args' σ K) : CallG P f args σ K := by
  intro bs B I w vs hsr hlen hv
  obtain ⟨hl, hp⟩ := ha.pt
  exact h bs B I w vs hsr (hl ▸ hlen) fun k hk => (hv k (by omega)).sub (hp k (by omega))

end Go.Abs

/- The abstract layer, part 32: loops: from round to round by what is known at their head. -/
namespace Go.Abs
open Go Go.RowKit

theorem RestA.sub {cx : Cx} {c : Code} {env env' : Env} {σ τ : List AObj} {Q : Post} (he : EnvSub env env') (hs : StoSub σ τ) (h : RestA cx c env' τ Q) : RestA cx c env σ Q := by
  intro B I a w st b k cs hro
  obtain ⟨e, a', w', ⟨env1, σ1, B1, I1, h1, h2, h3⟩, harr⟩ := h B I a w (st.sub he hs) b k cs hro
  exact ⟨e, a', w', ⟨env1, σ1, B1, I1, h1, h2, h3.cur (hs.cur B)⟩, harr⟩

/-- What is known of a frame, cleared, suffices. -/
def EnvGc (n m : Nat) (picks : List Nat) (σ : List AObj) (env : Env) : Env → Prop
  | [] => True
  | (t, v) :: r => (v = .any ∨ Sub (gcv n m picks σ (env.get t)) v) ∧ EnvGc n m picks σ env r

theorem gcEnv_get' {n m : Nat} {picks : List Nat} {σ : List AObj} : ∀ (env : Env) (t : Nat), (gcEnv n m picks σ env).get t = gcv n m picks σ (env.get t) ∨ env.get t = .any
  | [], t => .inr rfl
  | (k, v) :: r, t => by
    simp only [gcEnv, List.map_cons, Env.get]
    split
    · exact .inl rfl
    · exact gcEnv_get' r t

theorem St.next {cx : Cx} {B : BMap} {I : Nat → Prop} {env env' : Env} {σ τ : List AObj} {a : Act} {w : World} {n m : Nat} {picks : List Nat} (hm : m ≤ σ.length) (hnd : picks.Nodup) (hge : ∀ l ∈ picks, m ≤ l)
    (st : St cx B I env σ a w) (he : EnvGc n m picks σ env env') (hs : StoSub (gcs n m picks σ) τ) : St cx (gcB B m picks σ) (gcI I B m picks σ) env' τ a w := by
  have key : ∀ (e' : Env), EnvGc n m picks σ env e' → ∀ t, e'.get t = .any ∨ Sub (gcv n m picks σ (env.get t)) (e'.get t) := by
    intro e'
    induction e' with
    | nil => intro _ t; exact .inl rfl
    | cons p r ih =>
      obtain ⟨k, v⟩ := p
      intro h t
      simp only [Env.get]
      split
      · rename_i e; subst e; exact h.1
      · exact ih h.2 t
  refine ⟨st.size, fun t => ?_, (st.sr.gc n hm hnd hge).sub hs, st.marks⟩
  rcases key env' he t with e | e
  · rw [e]; exact .any _
  · exact RV.sub e (RV.gc st.sr n (st.env t))

theorem WpA.next {cx : Cx} {c : Code} {env : Env} {σ : List AObj} {Q : Post} (n m : Nat) (picks : List Nat) (env' : Env) (τ : List AObj) (hmm : cx.m ≤ m) (hm : m ≤ σ.length) (hnd : picks.Nodup) (hge : ∀ l ∈ picks, m ≤ l)
    (he : EnvGc n m picks σ env env') (hs : StoSub (gcs n m picks σ) τ) (h : WpA cx c env' τ Q) : WpA cx c env σ Q := by
  intro B I a w st
  refine wpIn_mono (h _ _ a w (st.next hm hnd hge he hs)) fun _ _ _ ⟨env1, σ1, B1, I1, h1, h2, h3⟩ => ?_
  exact Reach.trans ((Ext.refl ..).gc n hmm hm hge st.sr) ⟨env1, σ1, B1, I1, h1, h2, h3.cur (hs.cur _)⟩

theorem RestA.next {cx : Cx} {c : Code} {env : Env} {σ : List AObj} {Q : Post} (n m : Nat) (picks : List Nat) (env' : Env) (τ : List AObj) (hmm : cx.m ≤ m) (hm : m ≤ σ.length) (hnd : picks.Nodup) (hge : ∀ l ∈ picks, m ≤ l)
    (he : EnvGc n m picks σ env env') (hs : StoSub (gcs n m picks σ) τ) (h : RestA cx c env' τ Q) : RestA cx c env σ Q := by
  intro B I a w st b k cs hro
  obtain ⟨e, a', w', ⟨env1, σ1, B1, I1, h1, h2, h3⟩, harr⟩ := h _ _ a w (st.next hm hnd hge he hs) b k cs hro
  exact ⟨e, a', w', Reach.trans ((Ext.refl ..).gc n hmm hm hge st.sr) ⟨env1, σ1, B1, I1, h1, h2, h3.cur (hs.cur _)⟩, harr⟩

/-- A loop, by what holds at its head. -/
theorem WpA.rounds {cx : Cx} {c : Code} {Q : Post} {S : Type} (P : S → Prop) (e : S → Env) (g : S → List AObj) (μ : S → Nat)
    (step : ∀ s, P s → (∀ s', P s' → μ s' < μ s → RestA cx c (e s') (g s') Q) → WpA cx c (e s) (g s) (Post.loop cx c Q)) (s : S) (hs : P s) : WpA cx (.loop c) (e s) (g s) Q := by
  have key : ∀ (k : Nat) (s : S), P s → μ s < k → WpA cx c (e s) (g s) (Post.loop cx c Q) := by
    intro k
    induction k with
    | zero => intro s _ h; exact absurd h (Nat.not_lt_zero _)
    | succ k ih => exact fun s hs hk => step s hs fun s' hs' hlt => RestA.of (ih s' hs' (by omega))
  exact .loop (key _ s hs (Nat.lt_succ_self _))

end Go.Abs

/- The abstract layer, part 33: loops by an invariant; lists of known things. -/
namespace Go.Abs
open Go Go.RowKit

/-- What is asked of a clearing, as one test. -/
def gcOk (m0 m len : Nat) (picks : List Nat) : Bool := Nat.ble m0 m && Nat.ble m len && nodupB picks && picks.all (Nat.ble m)

theorem gcOk_spec {m0 m len : Nat} {picks : List Nat} (h : gcOk m0 m len picks = true) : m0 ≤ m ∧ m ≤ len ∧ picks.Nodup ∧ ∀ l ∈ picks, m ≤ l := by
  simp only [gcOk, Bool.and_eq_true, List.all_eq_true] at h
  exact ⟨Nat.le_of_ble_eq_true h.1.1.1, Nat.le_of_ble_eq_true h.1.1.2, nodupB_spec h.1.2, fun l hl => Nat.le_of_ble_eq_true (h.2 l hl)⟩

/-- A LOOP: what holds at its head, for each stage; it holds at first; each round leads to a later stage, or out. -/
theorem WpA.inv {cx : Cx} {c : Code} {env : Env} {σ : List AObj} {Q : Post} {S : Type} (n m : Nat) (picks : List Nat) (P : S → Prop) (e : S → Env) (g : S → List AObj) (μ : S → Nat) (s0 : S)
    (hok : gcOk cx.m m σ.length picks = true)
    (he : EnvGc n m picks σ env (e s0)) (hs : StoSub (gcs n m picks σ) (g s0)) (hP : P s0)
    (step : ∀ s, P s → (∀ s', P s' → μ s' < μ s → RestA cx c (e s') (g s') Q) → WpA cx c (e s) (g s) (Post.loop cx c Q)) : WpA cx (.loop c) env σ Q :=
  have h := gcOk_spec hok
  .next n m picks (e s0) (g s0) h.1 h.2.1 h.2.2.1 h.2.2.2 he hs (.rounds P e g μ step s0 hP)

/-- A round's end. -/
theorem RestA.to {cx : Cx} {c : Code} {env : Env} {σ : List AObj} {Q : Post} (n m : Nat) (picks : List Nat) {env' : Env} {τ : List AObj} (hok : gcOk cx.m m σ.length picks = true)
    (h : RestA cx c env' τ Q) (he : EnvGc n m picks σ env env') (hs : StoSub (gcs n m picks σ) τ) : RestA cx c env σ Q :=
  have k := gcOk_spec hok
  .next n m picks env' τ k.1 k.2.1 k.2.2.1 k.2.2.2 he hs h

/-- In the midst of a body. -/
theorem WpA.to {cx : Cx} {c : Code} {env : Env} {σ : List AObj} {Q : Post} (n m : Nat) (picks : List Nat) {env' : Env} {τ : List AObj} (hok : gcOk cx.m m σ.length picks = true)
    (h : WpA cx c env' τ Q) (he : EnvGc n m picks σ env env') (hs : StoSub (gcs n m picks σ) τ) : WpA cx c env σ Q :=
  have k := gcOk_spec hok
  .next n m picks env' τ k.1 k.2.1 k.2.2.1 k.2.2.2 he hs h

theorem getD_map {α : Type} {f : α → AVal} {xs : List α} {k : Nat} (d : α) (h : k < xs.length) : (xs.map f).getD k .any = f (xs.getD k d) := by
  simp [List.getD_eq_getElem?_getD, h]

theorem set_map {α : Type} {f : α → AVal} {xs : List α} {k : Nat} {x : α} : (xs.map f).set k (f x) = (xs.set k x).map f := by
  rw [List.map_set]

theorem append_map {α : Type} {f : α → AVal} {xs ys : List α} : xs.map f ++ ys.map f = (xs ++ ys).map f := by simp

theorem snoc_map {α : Type} {f : α → AVal} {xs : List α} {y : α} : xs.map f ++ [f y] = (xs ++ [y]).map f := by simp

theorem take_map {α : Type} {f : α → AVal} {xs : List α} {k : Nat} : (xs.map f).take k = (xs.take k).map f := by simp
theorem drop_map {α : Type} {f : α → AVal} {xs : List α} {k : Nat} : (xs.map f).drop k = (xs.drop k).map f := by simp

attribute [go_sem] EnvGc StoSub EnvSub SubL gcs gco slot frz
  Int.toNat_natCast List.length_map Bool.not_eq_true' decide_eq_true_eq decide_eq_false_iff_not Bool.not_eq_eq_eq_not

end Go.Abs

/- The abstract layer, part 34: typed data as abstract values. -/
namespace Go.Abs
open Go Go.RowKit

section
variable (n m : Nat) (p : List Nat) (σ : List AObj)
@[go_sem] theorem gcv_any : gcv (n + 1) m p σ .any = .any := rfl
@[go_sem] theorem gcv_val (v : Value) : gcv (n + 1) m p σ (.val v) = .val v := rfl
@[go_sem] theorem gcv_list (tg : Bool) (sz : Nat) (xs : List AVal) : gcv (n + 1) m p σ (.list tg sz xs) = .list tg sz (xs.map (gcv n m p σ)) := rfl
@[go_sem] theorem gcv_agg (cs : List AVal) : gcv (n + 1) m p σ (.agg cs) = .agg (cs.map (gcv n m p σ)) := rfl
@[go_sem] theorem gcv_tuple (cs : List AVal) : gcv (n + 1) m p σ (.tuple cs) = .tuple (cs.map (gcv n m p σ)) := rfl
@[go_sem] theorem gcv_func (f : Fn) (a b : List AVal) : gcv (n + 1) m p σ (.func f a b) = .func f (a.map (gcv n m p σ)) (b.map (gcv n m p σ)) := rfl
@[go_sem] theorem gcv_iface (t : TypeId) (v : AVal) : gcv (n + 1) m p σ (.iface t v) = .iface t (gcv n m p σ v) := rfl
@[go_sem] theorem gcv_eptr (cs : List AVal) (j : Nat) : gcv (n + 1) m p σ (.eptr cs j) = .eptr (cs.map (gcv n m p σ)) j := rfl
@[go_sem] theorem gcv_row (l ver off len : Nat) : gcv (n + 1) m p σ (.row l ver off len) = if l < m then .row l ver off len else match σ[l]? with
      | some (.row v sz xs) => match p.idxOf? l with
        | some i => if ver = v then .row (m + i) 0 off len else .any
        | none => if ver = v ∧ off + len ≤ xs.length then .list true sz (((xs.drop off).take len).map (gcv n m p σ)) else .any
      | _ => .any := rfl
@[go_sem] theorem gcv_ptr (l ver i j : Nat) : gcv (n + 1) m p σ (.ptr l ver i j) = if l < m then .ptr l ver i j else match σ[l]? with
      | some (.row v _ _) => match p.idxOf? l with
        | some k => if ver = v then .ptr (m + k) 0 i j else .any
        | none => .any
      | _ => .any := rfl
@[go_sem] theorem gcv_map' (l : Nat) : gcv (n + 1) m p σ (.map l) = if l < m then .map l else match σ[l]? with
      | some (.map _ _) => match p.idxOf? l with
        | some k => .map (m + k)
        | none => .any
      | _ => .any := rfl
@[go_sem] theorem untag_any : untag (n + 1) .any = .any := rfl
@[go_sem] theorem untag_val (v : Value) : untag (n + 1) (.val v) = .val v := rfl
@[go_sem] theorem untag_list (tg : Bool) (sz : Nat) (xs : List AVal) : untag (n + 1) (.list tg sz xs) = .list false sz (xs.map (untag n)) := rfl
@[go_sem] theorem untag_agg (cs : List AVal) : untag (n + 1) (.agg cs) = .agg (cs.map (untag n)) := rfl
@[go_sem] theorem untag_tuple (cs : List AVal) : untag (n + 1) (.tuple cs) = .tuple (cs.map (untag n)) := rfl
@[go_sem] theorem untag_func (f : Fn) (a b : List AVal) : untag (n + 1) (.func f a b) = .func f (a.map (untag n)) (b.map (untag n)) := rfl
@[go_sem] theorem untag_iface (t : TypeId) (v : AVal) : untag (n + 1) (.iface t v) = .iface t (untag n v) := rfl
@[go_sem] theorem untag_eptr (cs : List AVal) (j : Nat) : untag (n + 1) (.eptr cs j) = .eptr (cs.map (untag n)) j := rfl
@[go_sem] theorem newIn_any : newIn (n + 1) .any = true := rfl
@[go_sem] theorem newIn_val (v : Value) : newIn (n + 1) (.val v) = true := rfl
@[go_sem] theorem newIn_list (tg : Bool) (sz : Nat) (xs : List AVal) : newIn (n + 1) (.list tg sz xs) = (tg && xs.all (newIn n)) := rfl
@[go_sem] theorem newIn_agg (cs : List AVal) : newIn (n + 1) (.agg cs) = cs.all (newIn n) := rfl
@[go_sem] theorem newIn_tuple (cs : List AVal) : newIn (n + 1) (.tuple cs) = cs.all (newIn n) := rfl
@[go_sem] theorem newIn_func (f : Fn) (a b : List AVal) : newIn (n + 1) (.func f a b) = (a.all (newIn n) && b.all (newIn n)) := rfl
end

/-- Typed data: how it lies in cells; what may be done to it without a change. -/
class Dat (α : Type) where
  enc : Bool → α → AVal
  sz : Nat
  dep : Nat
  pos : 0 < sz
  len : ∀ tg x, (enc tg x).cells.length = sz
  leaf : ∀ tg x, (enc tg x).cells.all AVal.leaf = true
  gc : ∀ tg x (n m : Nat) (p : List Nat) (σ : List AObj), dep ≤ n → gcv n m p σ (enc tg x) = enc tg x
  fz : ∀ tg x (n : Nat), dep ≤ n → Abs.untag n (enc tg x) = enc false x
  nw : ∀ x (n : Nat), dep ≤ n → newIn n (enc true x) = true
  sub : ∀ tg tg' x, (tg' = true → tg = true) → SubL (enc tg x).cells (enc tg' x).cells

theorem le_succ' {a n : Nat} (h : a + 1 ≤ n) : ∃ k, n = k + 1 ∧ a ≤ k := ⟨n - 1, by omega, by omega⟩

theorem map_id' {α : Type} {f : AVal → AVal} {e : α → AVal} {xs : List α} (h : ∀ x, f (e x) = e x) : (xs.map e).map f = xs.map e := by
  rw [List.map_map]
  exact List.map_congr_left fun x _ => h x

theorem map_to {α : Type} {f : AVal → AVal} {e e' : α → AVal} {xs : List α} (h : ∀ x, f (e x) = e' x) : (xs.map e).map f = xs.map e' := by
  rw [List.map_map]
  exact List.map_congr_left fun x _ => h x

instance : Dat Int where
  enc _ n := .val (.int .i64 n)
  sz := 1
  dep := 1
  pos := Nat.one_pos
  len _ _ := rfl
  leaf _ _ := rfl
  gc _ _ n _ _ _ h := by obtain ⟨k, rfl, _⟩ := le_succ' h; rfl
  fz _ _ n h := by obtain ⟨k, rfl, _⟩ := le_succ' h; rfl
  nw _ n h := by obtain ⟨k, rfl, _⟩ := le_succ' h; rfl
  sub _ _ _ _ := ⟨.refl _, trivial⟩

instance : Dat Bool where
  enc _ b := .val (.bool b)
  sz := 1
  dep := 1
  pos := Nat.one_pos
  len _ _ := rfl
  leaf _ _ := rfl
  gc _ _ n _ _ _ h := by obtain ⟨k, rfl, _⟩ := le_succ' h; rfl
  fz _ _ n h := by obtain ⟨k, rfl, _⟩ := le_succ' h; rfl
  nw _ n h := by obtain ⟨k, rfl, _⟩ := le_succ' h; rfl
  sub _ _ _ _ := ⟨.refl _, trivial⟩

instance : Dat ByteArray where
  enc _ s := .val (.string s)
  sz := 1
  dep := 1
  pos := Nat.one_pos
  len _ _ := rfl
  leaf _ _ := rfl
  gc _ _ n _ _ _ h := by obtain ⟨k, rfl, _⟩ := le_succ' h; rfl
  fz _ _ n h := by obtain ⟨k, rfl, _⟩ := le_succ' h; rfl
  nw _ n h := by obtain ⟨k, rfl, _⟩ := le_succ' h; rfl
  sub _ _ _ _ := ⟨.refl _, trivial⟩

instance {α : Type} [Dat α] : Dat (List α) where
  enc tg xs := .list tg (Dat.sz α) (xs.map (Dat.enc tg))
  sz := 1
  dep := Dat.dep α + 1
  pos := Nat.one_pos
  len _ _ := rfl
  leaf _ _ := rfl
  gc tg xs n m p σ h := by
    obtain ⟨k, rfl, hk⟩ := le_succ' h
    rw [gcv_list, map_id' fun x => Dat.gc tg x k m p σ hk]
  fz tg xs n h := by
    obtain ⟨k, rfl, hk⟩ := le_succ' h
    rw [untag_list, map_to fun x => Dat.fz tg x k hk]
  nw xs n h := by
    obtain ⟨k, rfl, hk⟩ := le_succ' h
    rw [newIn_list, Bool.true_and, List.all_eq_true]
    intro y hy
    obtain ⟨x, _, rfl⟩ := List.mem_map.1 hy
    exact Dat.nw x k hk
  sub tg tg' xs h := ⟨.ofMap h fun x _ => Dat.sub tg tg' x h, trivial⟩

@[go_sem] theorem enc_int (tg : Bool) (n : Int) : Dat.enc tg n = .val (.int .i64 n) := rfl
@[go_sem] theorem enc_bool (tg : Bool) (b : Bool) : Dat.enc tg b = .val (.bool b) := rfl
@[go_sem] theorem enc_str (tg : Bool) (s : ByteArray) : Dat.enc tg s = .val (.string s) := rfl
@[go_sem] theorem enc_list {α : Type} [Dat α] (tg : Bool) (xs : List α) : Dat.enc tg xs = .list tg (Dat.sz α) (xs.map (Dat.enc tg)) := rfl
@[go_sem] theorem sz_int : Dat.sz Int = 1 := rfl
@[go_sem] theorem sz_bool : Dat.sz Bool = 1 := rfl
@[go_sem] theorem sz_str : Dat.sz ByteArray = 1 := rfl
@[go_sem] theorem sz_list {α : Type} [Dat α] : Dat.sz (List α) = 1 := rfl
@[go_sem] theorem dep_int : Dat.dep Int = 1 := rfl
@[go_sem] theorem dep_bool : Dat.dep Bool = 1 := rfl
@[go_sem] theorem dep_str : Dat.dep ByteArray = 1 := rfl
@[go_sem] theorem dep_list {α : Type} [Dat α] : Dat.dep (List α) = Dat.dep α + 1 := rfl

@[go_sem] theorem gcv_enc {α : Type} [Dat α] {tg : Bool} {xs : List α} {n m : Nat} {p : List Nat} {σ : List AObj} (h : Dat.dep α ≤ n) : (xs.map (Dat.enc tg)).map (gcv n m p σ) = xs.map (Dat.enc tg) := map_id' fun x => Dat.gc tg x n m p σ h
@[go_sem] theorem untag_enc {α : Type} [Dat α] {tg : Bool} {xs : List α} {n : Nat} (h : Dat.dep α ≤ n) : (xs.map (Dat.enc tg)).map (untag n) = xs.map (Dat.enc false) := map_to fun x => Dat.fz tg x n h
@[go_sem] theorem newIn_enc {α : Type} [Dat α] {xs : List α} {n : Nat} (h : Dat.dep α ≤ n) : (xs.map (Dat.enc true)).all (newIn n) = true := by
  rw [List.all_eq_true]
  intro y hy
  obtain ⟨x, _, rfl⟩ := List.mem_map.1 hy
  exact Dat.nw x n h

theorem Sub.ofEnc {α : Type} [Dat α] {tg tg' : Bool} {sz : Nat} {xs : List α} (h : tg' = true → tg = true) : Sub (.list tg sz (xs.map (Dat.enc tg))) (.list tg' sz (xs.map (Dat.enc tg'))) := .ofMap h fun x _ => Dat.sub tg tg' x h

/-! ### Contracts of functions that change nothing -/

/-- Called with these values the function returns this one, and leaves nothing behind. -/
def Ret (P : Program) (f : FuncId) (args : List AVal) (r : AVal) : Prop := CallG P f args [] fun r' τ => r' = r ∧ τ = []

theorem shift_new : ∀ (n : Nat) {a : AVal} {k : Nat}, newIn n a = true → shift (n + 1) k a = a
  | 0, a, k, h => by cases h
  | n + 1, a, k, h => by
    have many : ∀ {cs : List AVal}, cs.all (newIn n) = true → cs.map (shift (n + 1) k) = cs := by
      intro cs hc
      have : ∀ x ∈ cs, shift (n + 1) k x = x := fun x hx => shift_new n (List.all_eq_true.1 hc x hx)
      calc cs.map (shift (n + 1) k) = cs.map id := List.map_congr_left this
        _ = cs := by simp
    have other : (if newIn (n + 1) a = true then a else anyLike a) = a := by rw [if_pos h]
    cases a with
    | agg cs => exact congrArg _ (many h)
    | tuple cs => exact congrArg _ (many h)
    | iface t v => exact congrArg _ (shift_new n h)
    | row => cases h
    | ptr => cases h
    | map => cases h
    | any => exact other
    | val v => exact other
    | list tg sz xs => exact other
    | eptr cs j => exact other
    | func f x y => exact other

theorem CallG.ret {P : Program} {f : FuncId} {args fargs : List AVal} {σ : List AObj} {K : Kont} {r : AVal} (h : Ret P f fargs r) (n n1 : Nat) (hs : SubL (args.map (frz n σ)) fargs) (hn : newIn n1 r = true) (hk : K r σ) : CallG P f args σ K :=
  .pure n 1 (n1 + 1) (CallG.sub hs h) rfl fun r' τ ⟨e1, e2⟩ => by
    subst e1 e2
    exact ⟨rfl, by rw [shift_new n1 hn, List.append_nil]; exact hk⟩

end Go.Abs

/- The abstract layer, part 34b: contracts whose result may share the arguments' lists. -/
namespace Go.Abs
open Go Go.RowKit

/-- No rows, no pointers into rows, no maps. -/
def plainL : Nat → AVal → Bool
  | 0, _ => false
  | n + 1, a => match a with
    | .any | .val _ => true
    | .list _ _ xs => xs.all (plainL n)
    | .agg cs => cs.all (plainL n)
    | .tuple vs => vs.all (plainL n)
    | .func _ a b => a.all (plainL n) && b.all (plainL n)
    | .iface _ v => plainL n v
    | .eptr cs _ => cs.all (plainL n)
    | _ => false

theorem gcv_plainL : ∀ (n : Nat) {a : AVal} (σ : List AObj), plainL n a = true → gcv n 0 [] σ a = a
  | 0, _, _, h => by cases h
  | n + 1, a, σ, h => by
    have many : ∀ {cs : List AVal}, cs.all (plainL n) = true → cs.map (gcv n 0 [] σ) = cs := by
      intro cs hc
      calc cs.map (gcv n 0 [] σ) = cs.map id := List.map_congr_left fun x hx => gcv_plainL n σ (List.all_eq_true.1 hc x hx)
        _ = cs := by simp
    cases a with
    | any => rfl
    | val v => rfl
    | list tg sz xs => simp only [gcv]; rw [many h]
    | agg cs => simp only [gcv]; rw [many h]
    | tuple cs => simp only [gcv]; rw [many h]
    | func f x y =>
      simp only [plainL, Bool.and_eq_true] at h
      simp only [gcv]; rw [many h.1, many h.2]
    | iface t v => simp only [gcv]; rw [gcv_plainL n σ h]
    | eptr cs j => simp only [gcv]; rw [many h]
    | row => cases h
    | ptr => cases h
    | map => cases h

theorem RV.plain {B B' : BMap} {I I' : Nat → Prop} {bs : Nat} {w : World} (hI : ∀ b, I b → I' b) : ∀ (n : Nat) {a : AVal} {v : Value}, plainL n a = true → RV B I bs w a v → RV B' I' bs w a v := by
  intro n
  induction n using Nat.strongRecOn with
  | _ n ih =>
  cases n with
  | zero => intro a v hn; cases hn
  | succ n =>
    have ihn : ∀ {a : AVal} {v : Value}, plainL n a = true → RV B I bs w a v → RV B' I' bs w a v := fun h => ih n (by omega) h
    have elems : ∀ {x : AVal} {sz j : Nat} {c : Value}, plainL n x = true → x.cells.length = sz → j < sz → RV B I bs w (x.cells.getD j .any) c → RV B' I' bs w (x.cells.getD j .any) c := by
      intro x sz j c hn hcl hj hrv
      by_cases ha : ∃ cs, x = .agg cs
      · obtain ⟨cs, rfl⟩ := ha
        cases n with
        | zero => cases hn
        | succ n =>
          simp only [plainL, List.all_eq_true] at hn
          simp only [AVal.cells] at hcl hrv ⊢
          exact ih n (by omega) (hn _ (mem_getD (by omega))) hrv
      · have hx : ∀ cs, x ≠ .agg cs := fun cs e => ha ⟨cs, e⟩
        have e1 : x.cells = [x] := by cases x <;> first | rfl | exact absurd rfl (hx _)
        rw [e1] at hcl hrv ⊢
        simp only [List.length_cons, List.length_nil] at hcl
        have : j = 0 := by omega
        subst this
        exact ihn hn hrv
    have many : ∀ {cs : List AVal} {vs : Array Value} {o : Nat}, cs.all (plainL n) = true → (∀ k, k < cs.length → RV B I bs w (cs.getD k .any) (vs.getD (o + k) undef)) → ∀ k, k < cs.length → RV B' I' bs w (cs.getD k .any) (vs.getD (o + k) undef) :=
      fun hn hc k hk => ihn (List.all_eq_true.1 hn _ (mem_getD hk)) (hc k hk)
    have many0 : ∀ {cs : List AVal} {vs : Array Value}, cs.all (plainL n) = true → (∀ k, k < cs.length → RV B I bs w (cs.getD k .any) (vs.getD k undef)) → ∀ k, k < cs.length → RV B' I' bs w (cs.getD k .any) (vs.getD k undef) :=
      fun hn hc k hk => ihn (List.all_eq_true.1 hn _ (mem_getD hk)) (hc k hk)
    intro a v hn h
    cases h with
    | any v => exact .any v
    | val v => exact .val v
    | nil tg sz a cap => exact .nil ..
    | list hIb hN hsz hl hb ho hc h1 hcap =>
      simp only [plainL, List.all_eq_true] at hn
      exact .list (hI _ hIb) hN hsz hl hb ho (fun i j hi hj => elems (hn _ (mem_getD hi)) (hl _ (mem_getD hi)) hj (hc i j hi hj)) h1 hcap
    | agg hl hc => exact .agg hl (many0 (by simpa only [plainL] using hn) hc)
    | tuple hl hc => exact .tuple hl (many0 (by simpa only [plainL] using hn) hc)
    | func g1 g2 g3 g4 =>
      simp only [plainL, Bool.and_eq_true] at hn
      exact .func g1 g2 (many0 hn.1 g3) (many0 hn.2 g4)
    | iface h => exact .iface (ihn (by simpa only [plainL] using hn) h)
    | eptr g1 g2 g3 g4 => exact .eptr (hI _ g1) g2 g3 (many (by simpa only [plainL] using hn) g4)
    | row => cases hn
    | rowEnd => cases hn
    | rowNil => cases hn
    | ptr => cases hn
    | map => cases hn

/-- A contract over the empty store, used where the arguments are plain: the result may lead into them. -/
theorem CallG.share' {P : Program} {f : FuncId} {args : List AVal} {σ : List AObj} {K : Kont} {r : AVal} (h : Ret P f args r) (n n1 : Nat) (hp : args.all (plainL n) = true) (hn : plainL n1 r = true) (hk : K r σ) : CallG P f args σ K := by
  intro bs B I w vs hsr hlen hv
  have s0 : SR (fun _ _ => none) I bs [] w := {
    row := fun l ver sz xs hl => by simp at hl
    map := fun l es ck hl => by simp at hl
    dead := fun _ _ _ => rfl
    sep := fun l l' b hc => by simp [Cur] at hc
    imm := fun l b hc => by simp [Cur] at hc
    lt := fun l b hc => by simp [Cur] at hc
    icells := hsr.icells
    gl := hsr.gl
    vlt := fun l ver x hx => by cases hx
    bsle := hsr.bsle
    cbs := fun l b hc => by simp [Cur] at hc
    vmono := fun l v sz xs ver x hl => by simp at hl }
  refine (h bs (fun _ _ => none) I w vs s0 hlen fun k hkl => RV.plain (fun _ h => h) n (List.all_eq_true.1 hp _ (mem_getD hkl)) (hv k hkl)).mono ?_
  · rintro e w' ⟨r', τ, B', I', v, rfl, ⟨rfl, rfl⟩, hs', hv', he⟩
    have hold : ∀ b, b < w.heap.size → w'.heap[b]? = w.heap[b]? := fun b hb => he.block b hb fun l hl => by simp [Cur] at hl
    have hIo : ∀ b, I b → w'.heap[b]? = w.heap[b]? := fun b hb => hold b (hsr.ilt b hb)
    refine ⟨r', σ, B, I', v, rfl, hk, ?_, RV.plain (fun _ h => h) n1 hn hv', ?_⟩
    · refine { row := ?_, map := ?_, dead := hsr.dead, sep := hsr.sep, imm := ?_, lt := fun l b hb => Nat.lt_of_lt_of_le (hsr.lt l b hb) he.size, icells := hs'.icells, gl := hs'.gl, vlt := fun l ver x hx hr => Nat.lt_of_lt_of_le (hsr.vlt l ver x hx hr) he.size,
               bsle := Nat.le_trans hsr.bsle he.size, cbs := hsr.cbs, vmono := hsr.vmono }
      · intro l ver sz xs hl
        obtain ⟨x, hx⟩ := hsr.row l ver sz xs hl
        exact ⟨x, hx.mono (fun _ _ _ h => h) he.imono hIo (Nat.le_refl _) fun hr => hold _ (hsr.lt _ _ (hx.cur hl hr))⟩
      · intro l es ck hl
        obtain ⟨x, hx⟩ := hsr.map l es ck hl
        exact ⟨x, hx.mono (fun _ _ _ h => h) he.imono hIo (Nat.le_refl _) (hold _ (hsr.lt _ _ (hx.cur hl)))⟩
      · intro l b hc hb
        rcases he.inew b hb with h1 | ⟨l', _, h1⟩ | h1
        · exact hsr.imm l b hc h1
        · simp [Cur] at h1
        · have := hsr.lt l b hc; omega
    · refine ⟨he.os, he.tape, he.output, he.size, fun b hb _ => hold b hb, fun _ _ _ _ h => h, he.imono, fun b hb => ?_, fun l b hb => ?_⟩
      · rcases he.inew b hb with h1 | ⟨l', _, h1⟩ | h1
        · exact .inl h1
        · simp [Cur] at h1
        · exact .inr (.inr h1)
      · rcases Nat.lt_or_ge l σ.length with hl | hl
        · exact .inr (.inl ⟨hl, hb⟩)
        · exact absurd hb (cur_none hl b)

theorem untag_plainL : ∀ (n n' : Nat) {a : AVal}, plainL n a = true → n ≤ n' → plainL n' (untag n' a) = true
  | 0, _, _, h, _ => by cases h
  | n + 1, 0, _, _, h => by omega
  | n + 1, n' + 1, a, h, hle => by
    have many : ∀ {cs : List AVal}, cs.all (plainL n) = true → (cs.map (untag n')).all (plainL n') = true := by
      intro cs hc
      rw [List.all_map, List.all_eq_true]
      exact fun x hx => untag_plainL n n' (List.all_eq_true.1 hc x hx) (by omega)
    cases a with
    | any => rfl
    | val v => rfl
    | list tg sz xs => exact many h
    | agg cs => exact many h
    | tuple cs => exact many h
    | func f x y =>
      simp only [plainL, Bool.and_eq_true] at h
      simp only [untag, plainL, Bool.and_eq_true]
      exact ⟨many h.1, many h.2⟩
    | iface t v => exact untag_plainL n n' h (by omega)
    | eptr cs j => exact many h
    | row => cases h
    | ptr => cases h
    | map => cases h

theorem CallG.share {P : Program} {f : FuncId} {args : List AVal} {σ : List AObj} {K : Kont} {r : AVal} (n n1 : Nat) (h : Ret P f (args.map (frz n σ)) r) (hp : args.all (plainL n) = true) (hn : plainL n1 r = true) (hk : K r σ) : CallG P f args σ K := by
  have e : args.map (frz n σ) = args.map (untag n) := List.map_congr_left fun x hx => by rw [frz, gcv_plainL n σ (List.all_eq_true.1 hp x hx)]
  have hp' : (args.map (frz n σ)).all (plainL n) = true := by
    rw [e, List.all_map, List.all_eq_true]
    exact fun x hx => untag_plainL n n (List.all_eq_true.1 hp x hx) (Nat.le_refl _)
  have h' : CallG P f (args.map (frz n σ)) σ K := CallG.share' h n n1 hp' hn hk
  intro bs B I w vs hsr hlen hv
  refine h' bs B I w vs hsr (by simpa using hlen) fun k hkl => ?_
  simp only [List.length_map] at hkl
  rw [e, getD_map_gcv hkl]
  exact RV.untag n (hv k hkl)

end Go.Abs

/- The abstract layer, part 35: how the evaluator is unfolded: what comes later is named, and not looked into. -/
namespace Go.Abs
open Go Go.RowKit

set_option linter.unusedSimpArgs false
/-- A thing that nobody unfolds. -/
noncomputable def sealed {α : Type}  (a : α) : α := Classical.choose (⟨a, rfl⟩ : ∃ b, b = a)
theorem sealed_eq {α : Type} (a : α) : sealed a = a := Classical.choose_spec (⟨a, rfl⟩ : ∃ b, b = a)

noncomputable def RC := sealed @runC
noncomputable def RL := sealed @runL
noncomputable def RA := sealed @runA
theorem RC_eq : RC = @runC := sealed_eq _
theorem RL_eq : RL = @runL := sealed_eq _
theorem RA_eq : RA = @runA := sealed_eq _

theorem RC_sound {cx : Cx} {ps : List RPlan} (hm : cx.P.follows .mixedOrders = true) (c : Code) (env : Env) (σ : List AObj) (Q : Post) (hok : codeOk cx.N ps c = true) (h : RC cx ps c env σ Q) : WpA cx c env σ Q := by
  rw [RC_eq] at h
  exact runC_sound hm c env σ Q hok h

/-! ### Code -/
def seqK0 (cx : Cx) (ps : List RPlan) (y : Code) (Q : Post) : Post := fun e env' σ' => match e with
    | .normal => runC cx ps y env' σ' Q
    | e => Q e env' σ'
noncomputable def seqK := sealed @seqK0
theorem seqK_eq : seqK = @seqK0 := sealed_eq _

def blkK0 (id : Nat) (Q : Post) : Post := fun e env' σ' => match e with
    | .exit id' => if id' = id then Q .normal env' σ' else Q (.exit id') env' σ'
    | e => Q e env' σ'
noncomputable def blkK := sealed @blkK0
theorem blkK_eq : blkK = @blkK0 := sealed_eq _

def nrmK0 (Q : Post) : Env → List AObj → Prop := fun env σ => Q .normal env σ
noncomputable def nrmK := sealed @nrmK0
theorem nrmK_eq : nrmK = @nrmK0 := sealed_eq _

def condK0 (cx : Cx) (ps : List RPlan) (x y : Code) (env : Env) (σ : List AObj) (Q : Post) : AVal → Prop
  | .val (.bool t) => (t = true → runC cx ps x env σ Q) ∧ (t = false → runC cx ps y env σ Q)
  | _ => False
noncomputable def condK := sealed @condK0
theorem condK_eq : condK = @condK0 := sealed_eq _

def planK0 (cx : Cx) (ops : Array Oper) (env : Env) (σ : List AObj) (Q : Post) : Option RPlan → Prop
  | some p => runA cx ops σ.length p.pl env (σ ++ holes p.hs) [] (nrmK0 Q)
  | none => False
noncomputable def planK := sealed @planK0
theorem planK_eq : planK = @planK0 := sealed_eq _

def tupK0 (K : Kont) (σ : List AObj) : List AVal → Prop := fun as => K (tupA as) σ
noncomputable def tupK := sealed @tupK0
theorem tupK_eq : tupK = @tupK0 := sealed_eq _

def resK0 (P : Program) (env : Env) (σ : List AObj) (r : List ResultVar) (acc : List AVal) (K : List AVal → Prop) : Kont := fun v _ => resA P env σ r (v :: acc) K
noncomputable def resK := sealed @resK0
theorem resK_eq : resK = @resK0 := sealed_eq _

def tinK0 (q : Option (Option Nat)) (av : AVal) (σ : List AObj) (K : Kont) : Prop := match q with | some q => loadA q av σ K | none => False
noncomputable def tinK := sealed @tinK0
theorem tinK_eq : tinK = @tinK0 := sealed_eq _

def kL0 (cx : Cx) (ops : Array Oper) (l : List Oper) (dst : Option Tmp) (env : Env) (K : Env → List AObj → Prop) : Kont := fun av σ' => runL cx ops l (env.put dst av) σ' K
noncomputable def kL := sealed @kL0
theorem kL_eq : kL = @kL0 := sealed_eq _

def execL0 (cx : Cx) (ops : Array Oper) (o : Oper) (l : List Oper) (σ : List AObj) (K : Env → List AObj → Prop) : Env → Prop := fun env => opA cx o env σ (kL0 cx ops l o.dst env K)
noncomputable def execL := sealed @execL0
theorem execL_eq : execL = @execL0 := sealed_eq _

def skipL0 (cx : Cx) (ops : Array Oper) (o : Oper) (l : List Oper) (σ : List AObj) (K : Env → List AObj → Prop) : Env → Prop := fun env => runL cx ops l (env.put o.dst .any) σ K
noncomputable def skipL := sealed @skipL0
theorem skipL_eq : skipL = @skipL0 := sealed_eq _

def guardK0 (env : Env) (want : Bool) (skip exec : Env → Prop) : Option (Nat × Bool) → Prop
  | some (t, b) => (b = want → exec (setB env t want)) ∧ (b = (!want) → skip (setB env t (!want)))
  | none => False
noncomputable def guardK := sealed @guardK0
theorem guardK_eq : guardK = @guardK0 := sealed_eq _

def grdK0 (ops : Array Oper) (env : Env) (skip exec : Env → Prop) : Option (Nat × Bool) → Prop
  | none => exec env
  | some (j, want) => guardK0 env want skip exec (guardT ops env j)
noncomputable def grdK := sealed @grdK0
theorem grdK_eq : grdK = @grdK0 := sealed_eq _

def gtK0 (d : Nat) : AVal → Option (Nat × Bool)
  | .val (.bool b) => some (d, b)
  | _ => none
noncomputable def gtK := sealed @gtK0
theorem gtK_eq : gtK = @gtK0 := sealed_eq _

def gtD0 (env : Env) : Option Nat → Option (Nat × Bool)
  | some d => gtK0 d (env.get d)
  | none => none
noncomputable def gtD := sealed @gtD0
theorem gtD_eq : gtD = @gtD0 := sealed_eq _

def eqK0 (av : AVal) : Kont := fun a _ => a = av
noncomputable def eqK := sealed @eqK0
theorem eqK_eq : eqK = @eqK0 := sealed_eq _

def qK0 (cx : Cx) (ops : Array Oper) (b0 : Nat) (s : Stp) (o : Oper) (rest : List Stp) (env : Env) (σ : List AObj) (pd : List Pd) (K : Env → List AObj → Prop) : AVal → Prop := fun av =>
  runA cx ops b0 rest (env.put o.dst av) σ (if blindOp o = true then pd else ⟨s.i, env.keep s.lk, av, s.U⟩ :: pd) K
noncomputable def qK := sealed @qK0
theorem qK_eq : qK = @qK0 := sealed_eq _

def eK0 (cx : Cx) (ops : Array Oper) (b0 : Nat) (s : Stp) (o : Oper) (rest : List Stp) (env : Env) (pd : List Pd) (K : Env → List AObj → Prop) : Kont := fun av σ' =>
  promises cx ops b0 σ' s.kp pd ∧ runA cx ops b0 rest (env.put o.dst av) σ' (pdKeep s.kp pd) K
noncomputable def eK := sealed @eK0
theorem eK_eq : eK = @eK0 := sealed_eq _

def flK0 (cx : Cx) (ops : Array Oper) (b0 h : Nat) (o : Oper) (rest : List Stp) (env : Env) (σ : List AObj) (pd : List Pd) (K : Env → List AObj → Prop) : AVal → AObj → Prop := fun av obj =>
  σ[b0 + h]? = some .gone ∧ runA cx ops b0 rest (env.put o.dst av) (σ.set (b0 + h) obj) pd K
noncomputable def flK := sealed @flK0
theorem flK_eq : flK = @flK0 := sealed_eq _

def imK0 (cx : Cx) (ops : Array Oper) (b0 : Nat) (o : Oper) (rest : List Stp) (env : Env) (σ : List AObj) (pd : List Pd) (K : Env → List AObj → Prop) : AVal → Prop := fun av =>
  runA cx ops b0 rest (env.put o.dst av) σ pd K
noncomputable def imK := sealed @imK0
theorem imK_eq : imK = @imK0 := sealed_eq _

def effXK0 (U : List Nat) (Xs : Nat → AObj) (σ : List AObj) (K : Kont) : Kont := fun av σ' => kept Xs σ' U ∧ K av (ux U σ 0 σ')
noncomputable def effXK := sealed @effXK0
theorem effXK_eq : effXK = @effXK0 := sealed_eq _

def clK0 (cx : Cx) (ops : Array Oper) (b0 : Nat) (s : Stp) (o : Oper) (rest : List Stp) (σ : List AObj) (pd : List Pd) (K : Env → List AObj → Prop) (env : Env) : Cl → Prop
  | .q => thereIs (fun av => valA cx o (env.keep s.lk) s.U b0 σ av) (qK0 cx ops b0 s o rest env σ pd K)
  | .e => effA cx o (env.keep s.lk) s.U b0 σ (eK0 cx ops b0 s o rest env pd K)
  | .fl h => floatA cx o (env.keep s.lk) (b0 + h) (flK0 cx ops b0 h o rest env σ pd K)
  | .vt h => virtA cx o ∧ runA cx ops b0 rest (env.put o.dst (.row (b0 + h) 0 0 0)) σ pd K
  | .im => immA cx o (env.keep s.lk) (imK0 cx ops b0 o rest env σ pd K)
noncomputable def clK := sealed @clK0
theorem clK_eq : clK = @clK0 := sealed_eq _

def execA0 (cx : Cx) (ops : Array Oper) (b0 : Nat) (s : Stp) (o : Oper) (rest : List Stp) (σ : List AObj) (pd : List Pd) (K : Env → List AObj → Prop) : Env → Prop := fun env => clK0 cx ops b0 s o rest σ pd K env s.cl
noncomputable def execA := sealed @execA0
theorem execA_eq : execA = @execA0 := sealed_eq _

def skipA0 (cx : Cx) (ops : Array Oper) (b0 : Nat) (o : Oper) (rest : List Stp) (σ : List AObj) (pd : List Pd) (K : Env → List AObj → Prop) : Env → Prop := fun env => runA cx ops b0 rest (env.put o.dst .any) σ pd K
noncomputable def skipA := sealed @skipA0
theorem skipA_eq : skipA = @skipA0 := sealed_eq _

def actK0 (cx : Cx) (ops : Array Oper) (b0 : Nat) (s : Stp) (rest : List Stp) (env : Env) (σ : List AObj) (pd : List Pd) (K : Env → List AObj → Prop) : Option Oper → Prop
  | some o => grdK0 ops env (skipA0 cx ops b0 o rest σ pd K) (execA0 cx ops b0 s o rest σ pd K) o.guard
  | none => False
noncomputable def actK := sealed @actK0
theorem actK_eq : actK = @actK0 := sealed_eq _

def pvK0 (cx : Cx) (b0 : Nat) (σ : List AObj) (p : Pd) : Option Oper → Prop
  | some o => valA cx o p.env p.U b0 σ p.av
  | none => True
noncomputable def pvK := sealed @pvK0
theorem pvK_eq : pvK = @pvK0 := sealed_eq _



section
variable (cx : Cx) (ps : List RPlan) (env : Env) (σ : List AObj) (Q : Post)
@[go_sem] theorem runC_skip : RC cx ps .skip env σ Q = Q .normal env σ := by
  try simp only [RC_eq, RL_eq, RA_eq, seqK_eq, blkK_eq, nrmK_eq, condK_eq, planK_eq, tupK_eq, resK_eq, tinK_eq, kL_eq, execL_eq, skipL_eq, guardK_eq, grdK_eq, gtK_eq, gtD_eq, eqK_eq, qK_eq, eK_eq, flK_eq, imK_eq, effXK_eq, clK_eq, execA_eq, skipA_eq, actK_eq, pvK_eq]
  try rfl

@[go_sem] theorem runC_label (l : Nat) : RC cx ps (.label l) env σ Q = Q .normal env σ := by
  try simp only [RC_eq, RL_eq, RA_eq, seqK_eq, blkK_eq, nrmK_eq, condK_eq, planK_eq, tupK_eq, resK_eq, tinK_eq, kL_eq, execL_eq, skipL_eq, guardK_eq, grdK_eq, gtK_eq, gtD_eq, eqK_eq, qK_eq, eK_eq, flK_eq, imK_eq, effXK_eq, clK_eq, execA_eq, skipA_eq, actK_eq, pvK_eq]
  try rfl

@[go_sem] theorem runC_ret : RC cx ps .ret env σ Q = Q .ret env σ := by
  try simp only [RC_eq, RL_eq, RA_eq, seqK_eq, blkK_eq, nrmK_eq, condK_eq, planK_eq, tupK_eq, resK_eq, tinK_eq, kL_eq, execL_eq, skipL_eq, guardK_eq, grdK_eq, gtK_eq, gtD_eq, eqK_eq, qK_eq, eK_eq, flK_eq, imK_eq, effXK_eq, clK_eq, execA_eq, skipA_eq, actK_eq, pvK_eq]
  try rfl

@[go_sem] theorem runC_exit (id : Nat) : RC cx ps (.exit id) env σ Q = Q (.exit id) env σ := by
  try simp only [RC_eq, RL_eq, RA_eq, seqK_eq, blkK_eq, nrmK_eq, condK_eq, planK_eq, tupK_eq, resK_eq, tinK_eq, kL_eq, execL_eq, skipL_eq, guardK_eq, grdK_eq, gtK_eq, gtD_eq, eqK_eq, qK_eq, eK_eq, flK_eq, imK_eq, effXK_eq, clK_eq, execA_eq, skipA_eq, actK_eq, pvK_eq]
  try rfl

@[go_sem] theorem runC_seq (x y : Code) : RC cx ps (.seq x y) env σ Q = RC cx ps x env σ (seqK cx ps y Q) := by
  try simp only [RC_eq, RL_eq, RA_eq, seqK_eq, blkK_eq, nrmK_eq, condK_eq, planK_eq, tupK_eq, resK_eq, tinK_eq, kL_eq, execL_eq, skipL_eq, guardK_eq, grdK_eq, gtK_eq, gtD_eq, eqK_eq, qK_eq, eK_eq, flK_eq, imK_eq, effXK_eq, clK_eq, execA_eq, skipA_eq, actK_eq, pvK_eq]
  try rfl

@[go_sem] theorem runC_block (id : Nat) (c : Code) : RC cx ps (.block id c) env σ Q = RC cx ps c env σ (blkK id Q) := by
  try simp only [RC_eq, RL_eq, RA_eq, seqK_eq, blkK_eq, nrmK_eq, condK_eq, planK_eq, tupK_eq, resK_eq, tinK_eq, kL_eq, execL_eq, skipL_eq, guardK_eq, grdK_eq, gtK_eq, gtD_eq, eqK_eq, qK_eq, eK_eq, flK_eq, imK_eq, effXK_eq, clK_eq, execA_eq, skipA_eq, actK_eq, pvK_eq]
  try rfl

@[go_sem] theorem runC_cond (c : Operand) (x y : Code) : RC cx ps (.cond c x y) env σ Q = condK cx ps x y env σ Q (aeval env c) := by
  try simp only [RC_eq, RL_eq, RA_eq, seqK_eq, blkK_eq, nrmK_eq, condK_eq, planK_eq, tupK_eq, resK_eq, tinK_eq, kL_eq, execL_eq, skipL_eq, guardK_eq, grdK_eq, gtK_eq, gtD_eq, eqK_eq, qK_eq, eK_eq, flK_eq, imK_eq, effXK_eq, clK_eq, execA_eq, skipA_eq, actK_eq, pvK_eq]
  simp only [runC]
  generalize aeval env c = v
  cases v with
  | val u => cases u <;> rfl
  | _ => rfl

@[go_sem] theorem runC_region (id : Nat) (ops : Array Oper) : RC cx ps (.region id ops false) env σ Q = RL cx ops ops.toList env σ (nrmK Q) := by
  try simp only [RC_eq, RL_eq, RA_eq, seqK_eq, blkK_eq, nrmK_eq, condK_eq, planK_eq, tupK_eq, resK_eq, tinK_eq, kL_eq, execL_eq, skipL_eq, guardK_eq, grdK_eq, gtK_eq, gtD_eq, eqK_eq, qK_eq, eK_eq, flK_eq, imK_eq, effXK_eq, clK_eq, execA_eq, skipA_eq, actK_eq, pvK_eq]
  try rfl

@[go_sem] theorem runC_any (id : Nat) (ops : Array Oper) : RC cx ps (.region id ops true) env σ Q = planK cx ops env σ Q (planOf ps id) := by
  try simp only [RC_eq, RL_eq, RA_eq, seqK_eq, blkK_eq, nrmK_eq, condK_eq, planK_eq, tupK_eq, resK_eq, tinK_eq, kL_eq, execL_eq, skipL_eq, guardK_eq, grdK_eq, gtK_eq, gtD_eq, eqK_eq, qK_eq, eK_eq, flK_eq, imK_eq, effXK_eq, clK_eq, execA_eq, skipA_eq, actK_eq, pvK_eq]
  simp only [runC]
  cases planOf ps id <;> rfl

@[go_sem] theorem runC_loop (c : Code) : RC cx ps (.loop c) env σ Q = WpA cx (.loop c) env σ Q := by
  try simp only [RC_eq, RL_eq, RA_eq, seqK_eq, blkK_eq, nrmK_eq, condK_eq, planK_eq, tupK_eq, resK_eq, tinK_eq, kL_eq, execL_eq, skipL_eq, guardK_eq, grdK_eq, gtK_eq, gtD_eq, eqK_eq, qK_eq, eK_eq, flK_eq, imK_eq, effXK_eq, clK_eq, execA_eq, skipA_eq, actK_eq, pvK_eq]
  try rfl

@[go_sem] theorem runC_rangeFunc (f : Operand) (a : Array Tmp) (x y : Code) : RC cx ps (.rangeFunc f a x y) env σ Q = WpA cx (.rangeFunc f a x y) env σ Q := by
  try simp only [RC_eq, RL_eq, RA_eq, seqK_eq, blkK_eq, nrmK_eq, condK_eq, planK_eq, tupK_eq, resK_eq, tinK_eq, kL_eq, execL_eq, skipL_eq, guardK_eq, grdK_eq, gtK_eq, gtD_eq, eqK_eq, qK_eq, eK_eq, flK_eq, imK_eq, effXK_eq, clK_eq, execA_eq, skipA_eq, actK_eq, pvK_eq]
  try rfl

@[go_sem] theorem seqK_normal (y : Code) : seqK cx ps y Q .normal env σ = RC cx ps y env σ Q := by
  try simp only [RC_eq, RL_eq, RA_eq, seqK_eq, blkK_eq, nrmK_eq, condK_eq, planK_eq, tupK_eq, resK_eq, tinK_eq, kL_eq, execL_eq, skipL_eq, guardK_eq, grdK_eq, gtK_eq, gtD_eq, eqK_eq, qK_eq, eK_eq, flK_eq, imK_eq, effXK_eq, clK_eq, execA_eq, skipA_eq, actK_eq, pvK_eq]
  try rfl

@[go_sem] theorem seqK_exit (y : Code) (i : Nat) : seqK cx ps y Q (.exit i) env σ = Q (.exit i) env σ := by
  try simp only [RC_eq, RL_eq, RA_eq, seqK_eq, blkK_eq, nrmK_eq, condK_eq, planK_eq, tupK_eq, resK_eq, tinK_eq, kL_eq, execL_eq, skipL_eq, guardK_eq, grdK_eq, gtK_eq, gtD_eq, eqK_eq, qK_eq, eK_eq, flK_eq, imK_eq, effXK_eq, clK_eq, execA_eq, skipA_eq, actK_eq, pvK_eq]
  try rfl

@[go_sem] theorem seqK_ret (y : Code) : seqK cx ps y Q .ret env σ = Q .ret env σ := by
  try simp only [RC_eq, RL_eq, RA_eq, seqK_eq, blkK_eq, nrmK_eq, condK_eq, planK_eq, tupK_eq, resK_eq, tinK_eq, kL_eq, execL_eq, skipL_eq, guardK_eq, grdK_eq, gtK_eq, gtD_eq, eqK_eq, qK_eq, eK_eq, flK_eq, imK_eq, effXK_eq, clK_eq, execA_eq, skipA_eq, actK_eq, pvK_eq]
  try rfl

@[go_sem] theorem blkK_normal (id : Nat) : blkK id Q .normal env σ = Q .normal env σ := by
  try simp only [RC_eq, RL_eq, RA_eq, seqK_eq, blkK_eq, nrmK_eq, condK_eq, planK_eq, tupK_eq, resK_eq, tinK_eq, kL_eq, execL_eq, skipL_eq, guardK_eq, grdK_eq, gtK_eq, gtD_eq, eqK_eq, qK_eq, eK_eq, flK_eq, imK_eq, effXK_eq, clK_eq, execA_eq, skipA_eq, actK_eq, pvK_eq]
  try rfl

@[go_sem] theorem blkK_exit (id i : Nat) : blkK id Q (.exit i) env σ = if i = id then Q .normal env σ else Q (.exit i) env σ := by
  try simp only [RC_eq, RL_eq, RA_eq, seqK_eq, blkK_eq, nrmK_eq, condK_eq, planK_eq, tupK_eq, resK_eq, tinK_eq, kL_eq, execL_eq, skipL_eq, guardK_eq, grdK_eq, gtK_eq, gtD_eq, eqK_eq, qK_eq, eK_eq, flK_eq, imK_eq, effXK_eq, clK_eq, execA_eq, skipA_eq, actK_eq, pvK_eq]
  try rfl

@[go_sem] theorem blkK_ret (id : Nat) : blkK id Q .ret env σ = Q .ret env σ := by
  try simp only [RC_eq, RL_eq, RA_eq, seqK_eq, blkK_eq, nrmK_eq, condK_eq, planK_eq, tupK_eq, resK_eq, tinK_eq, kL_eq, execL_eq, skipL_eq, guardK_eq, grdK_eq, gtK_eq, gtD_eq, eqK_eq, qK_eq, eK_eq, flK_eq, imK_eq, effXK_eq, clK_eq, execA_eq, skipA_eq, actK_eq, pvK_eq]
  try rfl

@[go_sem] theorem nrmK_app : nrmK Q env σ = Q .normal env σ := by
  try simp only [RC_eq, RL_eq, RA_eq, seqK_eq, blkK_eq, nrmK_eq, condK_eq, planK_eq, tupK_eq, resK_eq, tinK_eq, kL_eq, execL_eq, skipL_eq, guardK_eq, grdK_eq, gtK_eq, gtD_eq, eqK_eq, qK_eq, eK_eq, flK_eq, imK_eq, effXK_eq, clK_eq, execA_eq, skipA_eq, actK_eq, pvK_eq]
  try rfl

@[go_sem high] theorem condK_true (x y : Code) : condK cx ps x y env σ Q (.val (.bool true)) = RC cx ps x env σ Q := by
  try simp only [RC_eq, RL_eq, RA_eq, seqK_eq, blkK_eq, nrmK_eq, condK_eq, planK_eq, tupK_eq, resK_eq, tinK_eq, kL_eq, execL_eq, skipL_eq, guardK_eq, grdK_eq, gtK_eq, gtD_eq, eqK_eq, qK_eq, eK_eq, flK_eq, imK_eq, effXK_eq, clK_eq, execA_eq, skipA_eq, actK_eq, pvK_eq]
  simp [condK0]

@[go_sem high] theorem condK_false (x y : Code) : condK cx ps x y env σ Q (.val (.bool false)) = RC cx ps y env σ Q := by
  try simp only [RC_eq, RL_eq, RA_eq, seqK_eq, blkK_eq, nrmK_eq, condK_eq, planK_eq, tupK_eq, resK_eq, tinK_eq, kL_eq, execL_eq, skipL_eq, guardK_eq, grdK_eq, gtK_eq, gtD_eq, eqK_eq, qK_eq, eK_eq, flK_eq, imK_eq, effXK_eq, clK_eq, execA_eq, skipA_eq, actK_eq, pvK_eq]
  simp [condK0]

@[go_sem] theorem condK_bool (x y : Code) (t : Bool) : condK cx ps x y env σ Q (.val (.bool t)) = ((t = true → RC cx ps x env σ Q) ∧ (t = false → RC cx ps y env σ Q)) := by
  try simp only [RC_eq, RL_eq, RA_eq, seqK_eq, blkK_eq, nrmK_eq, condK_eq, planK_eq, tupK_eq, resK_eq, tinK_eq, kL_eq, execL_eq, skipL_eq, guardK_eq, grdK_eq, gtK_eq, gtD_eq, eqK_eq, qK_eq, eK_eq, flK_eq, imK_eq, effXK_eq, clK_eq, execA_eq, skipA_eq, actK_eq, pvK_eq]
  try rfl

@[go_sem] theorem planK_some (ops : Array Oper) (p : RPlan) : planK cx ops env σ Q (some p) = RA cx ops σ.length p.pl env (σ ++ holes p.hs) [] (nrmK Q) := by
  try simp only [RC_eq, RL_eq, RA_eq, seqK_eq, blkK_eq, nrmK_eq, condK_eq, planK_eq, tupK_eq, resK_eq, tinK_eq, kL_eq, execL_eq, skipL_eq, guardK_eq, grdK_eq, gtK_eq, gtD_eq, eqK_eq, qK_eq, eK_eq, flK_eq, imK_eq, effXK_eq, clK_eq, execA_eq, skipA_eq, actK_eq, pvK_eq]
  try rfl

@[go_sem] theorem planOf_cons (p : RPlan) (r : List RPlan) (id : Nat) : planOf (p :: r) id = if p.id = id then some p else planOf r id := by
  try simp only [RC_eq, RL_eq, RA_eq, seqK_eq, blkK_eq, nrmK_eq, condK_eq, planK_eq, tupK_eq, resK_eq, tinK_eq, kL_eq, execL_eq, skipL_eq, guardK_eq, grdK_eq, gtK_eq, gtD_eq, eqK_eq, qK_eq, eK_eq, flK_eq, imK_eq, effXK_eq, clK_eq, execA_eq, skipA_eq, actK_eq, pvK_eq]
  try rfl

@[go_sem] theorem loopK_normal (c : Code) : Post.loop cx c Q .normal env σ = RestA cx c env σ Q := by
  try simp only [RC_eq, RL_eq, RA_eq, seqK_eq, blkK_eq, nrmK_eq, condK_eq, planK_eq, tupK_eq, resK_eq, tinK_eq, kL_eq, execL_eq, skipL_eq, guardK_eq, grdK_eq, gtK_eq, gtD_eq, eqK_eq, qK_eq, eK_eq, flK_eq, imK_eq, effXK_eq, clK_eq, execA_eq, skipA_eq, actK_eq, pvK_eq]
  try rfl

@[go_sem] theorem loopK_exit (c : Code) (i : Nat) : Post.loop cx c Q (.exit i) env σ = Q (.exit i) env σ := by
  try simp only [RC_eq, RL_eq, RA_eq, seqK_eq, blkK_eq, nrmK_eq, condK_eq, planK_eq, tupK_eq, resK_eq, tinK_eq, kL_eq, execL_eq, skipL_eq, guardK_eq, grdK_eq, gtK_eq, gtD_eq, eqK_eq, qK_eq, eK_eq, flK_eq, imK_eq, effXK_eq, clK_eq, execA_eq, skipA_eq, actK_eq, pvK_eq]
  try rfl

@[go_sem] theorem loopK_ret (c : Code) : Post.loop cx c Q .ret env σ = Q .ret env σ := by
  try simp only [RC_eq, RL_eq, RA_eq, seqK_eq, blkK_eq, nrmK_eq, condK_eq, planK_eq, tupK_eq, resK_eq, tinK_eq, kL_eq, execL_eq, skipL_eq, guardK_eq, grdK_eq, gtK_eq, gtD_eq, eqK_eq, qK_eq, eK_eq, flK_eq, imK_eq, effXK_eq, clK_eq, execA_eq, skipA_eq, actK_eq, pvK_eq]
  try rfl

end

section
variable (P : Program) (env : Env) (σ : List AObj) (K : Kont)
@[go_sem] theorem bodyA_ret (rs : List ResultVar) : bodyA P rs K .ret env σ = resA P env σ rs [] (tupK K σ) := by
  try simp only [RC_eq, RL_eq, RA_eq, seqK_eq, blkK_eq, nrmK_eq, condK_eq, planK_eq, tupK_eq, resK_eq, tinK_eq, kL_eq, execL_eq, skipL_eq, guardK_eq, grdK_eq, gtK_eq, gtD_eq, eqK_eq, qK_eq, eK_eq, flK_eq, imK_eq, effXK_eq, clK_eq, execA_eq, skipA_eq, actK_eq, pvK_eq]
  try rfl

@[go_sem] theorem bodyA_normal (rs : List ResultVar) : bodyA P rs K .normal env σ = resA P env σ rs [] (tupK K σ) := by
  try simp only [RC_eq, RL_eq, RA_eq, seqK_eq, blkK_eq, nrmK_eq, condK_eq, planK_eq, tupK_eq, resK_eq, tinK_eq, kL_eq, execL_eq, skipL_eq, guardK_eq, grdK_eq, gtK_eq, gtD_eq, eqK_eq, qK_eq, eK_eq, flK_eq, imK_eq, effXK_eq, clK_eq, execA_eq, skipA_eq, actK_eq, pvK_eq]
  try rfl

@[go_sem] theorem tupK_app (as : List AVal) : tupK K σ as = K (tupA as) σ := by
  try simp only [RC_eq, RL_eq, RA_eq, seqK_eq, blkK_eq, nrmK_eq, condK_eq, planK_eq, tupK_eq, resK_eq, tinK_eq, kL_eq, execL_eq, skipL_eq, guardK_eq, grdK_eq, gtK_eq, gtD_eq, eqK_eq, qK_eq, eK_eq, flK_eq, imK_eq, effXK_eq, clK_eq, execA_eq, skipA_eq, actK_eq, pvK_eq]
  try rfl

@[go_sem] theorem resA_nil (acc : List AVal) (K : List AVal → Prop) : resA P env σ [] acc K = K acc.reverse := by
  try simp only [RC_eq, RL_eq, RA_eq, seqK_eq, blkK_eq, nrmK_eq, condK_eq, planK_eq, tupK_eq, resK_eq, tinK_eq, kL_eq, execL_eq, skipL_eq, guardK_eq, grdK_eq, gtK_eq, gtD_eq, eqK_eq, qK_eq, eK_eq, flK_eq, imK_eq, effXK_eq, clK_eq, execA_eq, skipA_eq, actK_eq, pvK_eq]
  try rfl

@[go_sem] theorem resA_tmp (t : Nat) (r : List ResultVar) (acc : List AVal) (K : List AVal → Prop) : resA P env σ (.tmp t :: r) acc K = resA P env σ r (env.get t :: acc) K := by
  try simp only [RC_eq, RL_eq, RA_eq, seqK_eq, blkK_eq, nrmK_eq, condK_eq, planK_eq, tupK_eq, resK_eq, tinK_eq, kL_eq, execL_eq, skipL_eq, guardK_eq, grdK_eq, gtK_eq, gtD_eq, eqK_eq, qK_eq, eK_eq, flK_eq, imK_eq, effXK_eq, clK_eq, execA_eq, skipA_eq, actK_eq, pvK_eq]
  try rfl

@[go_sem] theorem resA_cell (t : Nat) (ty : TypeId) (r : List ResultVar) (acc : List AVal) (K : List AVal → Prop) : resA P env σ (.cell t ty :: r) acc K = tinK (tin P ty) (env.get t) σ (resK P env σ r acc K) := by
  try simp only [RC_eq, RL_eq, RA_eq, seqK_eq, blkK_eq, nrmK_eq, condK_eq, planK_eq, tupK_eq, resK_eq, tinK_eq, kL_eq, execL_eq, skipL_eq, guardK_eq, grdK_eq, gtK_eq, gtD_eq, eqK_eq, qK_eq, eK_eq, flK_eq, imK_eq, effXK_eq, clK_eq, execA_eq, skipA_eq, actK_eq, pvK_eq]
  try rfl

@[go_sem] theorem tinK_some (q : Option Nat) (av : AVal) : tinK (some q) av σ K = loadA q av σ K := by
  try simp only [RC_eq, RL_eq, RA_eq, seqK_eq, blkK_eq, nrmK_eq, condK_eq, planK_eq, tupK_eq, resK_eq, tinK_eq, kL_eq, execL_eq, skipL_eq, guardK_eq, grdK_eq, gtK_eq, gtD_eq, eqK_eq, qK_eq, eK_eq, flK_eq, imK_eq, effXK_eq, clK_eq, execA_eq, skipA_eq, actK_eq, pvK_eq]
  try rfl

@[go_sem] theorem resK_app (r : List ResultVar) (acc : List AVal) (K : List AVal → Prop) (v : AVal) (σ' : List AObj) : resK P env σ r acc K v σ' = resA P env σ r (v :: acc) K := by
  try simp only [RC_eq, RL_eq, RA_eq, seqK_eq, blkK_eq, nrmK_eq, condK_eq, planK_eq, tupK_eq, resK_eq, tinK_eq, kL_eq, execL_eq, skipL_eq, guardK_eq, grdK_eq, gtK_eq, gtD_eq, eqK_eq, qK_eq, eK_eq, flK_eq, imK_eq, effXK_eq, clK_eq, execA_eq, skipA_eq, actK_eq, pvK_eq]
  try rfl

end

/-! ### Regions in the order of the text -/

/-- A guard, known or open. -/
@[go_sem] theorem guardT_eq (ops : Array Oper) (env : Env) (j : Nat) : guardT ops env j = gtD env ((ops[j]?).bind (·.dst)) := by
  try simp only [RC_eq, RL_eq, RA_eq, seqK_eq, blkK_eq, nrmK_eq, condK_eq, planK_eq, tupK_eq, resK_eq, tinK_eq, kL_eq, execL_eq, skipL_eq, guardK_eq, grdK_eq, gtK_eq, gtD_eq, eqK_eq, qK_eq, eK_eq, flK_eq, imK_eq, effXK_eq, clK_eq, execA_eq, skipA_eq, actK_eq, pvK_eq]
  unfold guardT gtD0
  split
  · rename_i d hd
    unfold gtK0
    split <;> split <;> simp_all
  · rename_i hd
    rw [hd]

@[go_sem] theorem gtD_some (env : Env) (d : Nat) : gtD env (some d) = gtK d (env.get d) := by
  try simp only [RC_eq, RL_eq, RA_eq, seqK_eq, blkK_eq, nrmK_eq, condK_eq, planK_eq, tupK_eq, resK_eq, tinK_eq, kL_eq, execL_eq, skipL_eq, guardK_eq, grdK_eq, gtK_eq, gtD_eq, eqK_eq, qK_eq, eK_eq, flK_eq, imK_eq, effXK_eq, clK_eq, execA_eq, skipA_eq, actK_eq, pvK_eq]
  try rfl

@[go_sem] theorem gtK_bool (d : Nat) (b : Bool) : gtK d (.val (.bool b)) = some (d, b) := by
  simp only [RC_eq, RL_eq, RA_eq, seqK_eq, blkK_eq, nrmK_eq, condK_eq, planK_eq, tupK_eq, resK_eq, tinK_eq, kL_eq, execL_eq, skipL_eq, guardK_eq, grdK_eq, gtK_eq, gtD_eq, eqK_eq, qK_eq, eK_eq, flK_eq, imK_eq, effXK_eq, clK_eq, execA_eq, skipA_eq, actK_eq, pvK_eq]
  try rfl

section
variable (env : Env) (skip exec : Env → Prop)
@[go_sem] theorem grdK_none (ops : Array Oper) : grdK ops env skip exec none = exec env := by
  try simp only [RC_eq, RL_eq, RA_eq, seqK_eq, blkK_eq, nrmK_eq, condK_eq, planK_eq, tupK_eq, resK_eq, tinK_eq, kL_eq, execL_eq, skipL_eq, guardK_eq, grdK_eq, gtK_eq, gtD_eq, eqK_eq, qK_eq, eK_eq, flK_eq, imK_eq, effXK_eq, clK_eq, execA_eq, skipA_eq, actK_eq, pvK_eq]
  try rfl

@[go_sem] theorem grdK_some (ops : Array Oper) (j : Nat) (want : Bool) : grdK ops env skip exec (some (j, want)) = guardK env want skip exec (guardT ops env j) := by
  try simp only [RC_eq, RL_eq, RA_eq, seqK_eq, blkK_eq, nrmK_eq, condK_eq, planK_eq, tupK_eq, resK_eq, tinK_eq, kL_eq, execL_eq, skipL_eq, guardK_eq, grdK_eq, gtK_eq, gtD_eq, eqK_eq, qK_eq, eK_eq, flK_eq, imK_eq, effXK_eq, clK_eq, execA_eq, skipA_eq, actK_eq, pvK_eq]
  try rfl

@[go_sem high] theorem guardK_tt (t : Nat) : guardK env true skip exec (some (t, true)) = exec (setB env t true) := by
  try simp only [RC_eq, RL_eq, RA_eq, seqK_eq, blkK_eq, nrmK_eq, condK_eq, planK_eq, tupK_eq, resK_eq, tinK_eq, kL_eq, execL_eq, skipL_eq, guardK_eq, grdK_eq, gtK_eq, gtD_eq, eqK_eq, qK_eq, eK_eq, flK_eq, imK_eq, effXK_eq, clK_eq, execA_eq, skipA_eq, actK_eq, pvK_eq]
  simp [guardK0]

@[go_sem high] theorem guardK_ff (t : Nat) : guardK env false skip exec (some (t, false)) = exec (setB env t false) := by
  try simp only [RC_eq, RL_eq, RA_eq, seqK_eq, blkK_eq, nrmK_eq, condK_eq, planK_eq, tupK_eq, resK_eq, tinK_eq, kL_eq, execL_eq, skipL_eq, guardK_eq, grdK_eq, gtK_eq, gtD_eq, eqK_eq, qK_eq, eK_eq, flK_eq, imK_eq, effXK_eq, clK_eq, execA_eq, skipA_eq, actK_eq, pvK_eq]
  simp [guardK0]

@[go_sem high] theorem guardK_tf (t : Nat) : guardK env true skip exec (some (t, false)) = skip (setB env t false) := by
  try simp only [RC_eq, RL_eq, RA_eq, seqK_eq, blkK_eq, nrmK_eq, condK_eq, planK_eq, tupK_eq, resK_eq, tinK_eq, kL_eq, execL_eq, skipL_eq, guardK_eq, grdK_eq, gtK_eq, gtD_eq, eqK_eq, qK_eq, eK_eq, flK_eq, imK_eq, effXK_eq, clK_eq, execA_eq, skipA_eq, actK_eq, pvK_eq]
  simp [guardK0]

@[go_sem high] theorem guardK_ft (t : Nat) : guardK env false skip exec (some (t, true)) = skip (setB env t true) := by
  try simp only [RC_eq, RL_eq, RA_eq, seqK_eq, blkK_eq, nrmK_eq, condK_eq, planK_eq, tupK_eq, resK_eq, tinK_eq, kL_eq, execL_eq, skipL_eq, guardK_eq, grdK_eq, gtK_eq, gtD_eq, eqK_eq, qK_eq, eK_eq, flK_eq, imK_eq, effXK_eq, clK_eq, execA_eq, skipA_eq, actK_eq, pvK_eq]
  simp [guardK0]

@[go_sem] theorem guardK_t (t : Nat) (b : Bool) : guardK env true skip exec (some (t, b)) = ((b = true → exec (setB env t true)) ∧ (b = false → skip (setB env t false))) := by
  try simp only [RC_eq, RL_eq, RA_eq, seqK_eq, blkK_eq, nrmK_eq, condK_eq, planK_eq, tupK_eq, resK_eq, tinK_eq, kL_eq, execL_eq, skipL_eq, guardK_eq, grdK_eq, gtK_eq, gtD_eq, eqK_eq, qK_eq, eK_eq, flK_eq, imK_eq, effXK_eq, clK_eq, execA_eq, skipA_eq, actK_eq, pvK_eq]
  try rfl

@[go_sem] theorem guardK_f (t : Nat) (b : Bool) : guardK env false skip exec (some (t, b)) = ((b = false → exec (setB env t false)) ∧ (b = true → skip (setB env t true))) := by
  try simp only [RC_eq, RL_eq, RA_eq, seqK_eq, blkK_eq, nrmK_eq, condK_eq, planK_eq, tupK_eq, resK_eq, tinK_eq, kL_eq, execL_eq, skipL_eq, guardK_eq, grdK_eq, gtK_eq, gtD_eq, eqK_eq, qK_eq, eK_eq, flK_eq, imK_eq, effXK_eq, clK_eq, execA_eq, skipA_eq, actK_eq, pvK_eq]
  try rfl

@[go_sem] theorem setB_eq (t : Nat) (b : Bool) : setB env t b = (t, .val (.bool b)) :: env := by
  try simp only [RC_eq, RL_eq, RA_eq, seqK_eq, blkK_eq, nrmK_eq, condK_eq, planK_eq, tupK_eq, resK_eq, tinK_eq, kL_eq, execL_eq, skipL_eq, guardK_eq, grdK_eq, gtK_eq, gtD_eq, eqK_eq, qK_eq, eK_eq, flK_eq, imK_eq, effXK_eq, clK_eq, execA_eq, skipA_eq, actK_eq, pvK_eq]
  try rfl

end

section
variable (cx : Cx) (ops : Array Oper) (env : Env) (σ : List AObj) (K : Env → List AObj → Prop) (o : Oper) (l : List Oper)
@[go_sem] theorem runL_nil : RL cx ops [] env σ K = K env σ := by
  try simp only [RC_eq, RL_eq, RA_eq, seqK_eq, blkK_eq, nrmK_eq, condK_eq, planK_eq, tupK_eq, resK_eq, tinK_eq, kL_eq, execL_eq, skipL_eq, guardK_eq, grdK_eq, gtK_eq, gtD_eq, eqK_eq, qK_eq, eK_eq, flK_eq, imK_eq, effXK_eq, clK_eq, execA_eq, skipA_eq, actK_eq, pvK_eq]
  try rfl

@[go_sem] theorem runL_cons : RL cx ops (o :: l) env σ K = grdK ops env (skipL cx ops o l σ K) (execL cx ops o l σ K) o.guard := by
  try simp only [RC_eq, RL_eq, RA_eq, seqK_eq, blkK_eq, nrmK_eq, condK_eq, planK_eq, tupK_eq, resK_eq, tinK_eq, kL_eq, execL_eq, skipL_eq, guardK_eq, grdK_eq, gtK_eq, gtD_eq, eqK_eq, qK_eq, eK_eq, flK_eq, imK_eq, effXK_eq, clK_eq, execA_eq, skipA_eq, actK_eq, pvK_eq]
  simp only [runL]
  cases o.guard with
  | none => rfl
  | some p =>
    obtain ⟨j, want⟩ := p
    show (match guardT ops env j with | some (t, b) => _ | none => False) = guardK0 env want _ _ (guardT ops env j)
    cases guardT ops env j with
    | none => rfl
    | some q => rfl

@[go_sem] theorem execL_app : execL cx ops o l σ K env = opA cx o env σ (kL cx ops l o.dst env K) := by
  try simp only [RC_eq, RL_eq, RA_eq, seqK_eq, blkK_eq, nrmK_eq, condK_eq, planK_eq, tupK_eq, resK_eq, tinK_eq, kL_eq, execL_eq, skipL_eq, guardK_eq, grdK_eq, gtK_eq, gtD_eq, eqK_eq, qK_eq, eK_eq, flK_eq, imK_eq, effXK_eq, clK_eq, execA_eq, skipA_eq, actK_eq, pvK_eq]
  try rfl

@[go_sem] theorem skipL_app : skipL cx ops o l σ K env = RL cx ops l (env.put o.dst .any) σ K := by
  try simp only [RC_eq, RL_eq, RA_eq, seqK_eq, blkK_eq, nrmK_eq, condK_eq, planK_eq, tupK_eq, resK_eq, tinK_eq, kL_eq, execL_eq, skipL_eq, guardK_eq, grdK_eq, gtK_eq, gtD_eq, eqK_eq, qK_eq, eK_eq, flK_eq, imK_eq, effXK_eq, clK_eq, execA_eq, skipA_eq, actK_eq, pvK_eq]
  try rfl

@[go_sem] theorem kL_app (dst : Option Tmp) (av : AVal) (σ' : List AObj) : kL cx ops l dst env K av σ' = RL cx ops l (env.put dst av) σ' K := by
  try simp only [RC_eq, RL_eq, RA_eq, seqK_eq, blkK_eq, nrmK_eq, condK_eq, planK_eq, tupK_eq, resK_eq, tinK_eq, kL_eq, execL_eq, skipL_eq, guardK_eq, grdK_eq, gtK_eq, gtD_eq, eqK_eq, qK_eq, eK_eq, flK_eq, imK_eq, effXK_eq, clK_eq, execA_eq, skipA_eq, actK_eq, pvK_eq]
  try rfl

end

/-! ### Regions whose order is open -/

@[go_sem] theorem eqK_app (av a : AVal) (σ : List AObj) : eqK av a σ = (a = av) := by
  simp only [RC_eq, RL_eq, RA_eq, seqK_eq, blkK_eq, nrmK_eq, condK_eq, planK_eq, tupK_eq, resK_eq, tinK_eq, kL_eq, execL_eq, skipL_eq, guardK_eq, grdK_eq, gtK_eq, gtD_eq, eqK_eq, qK_eq, eK_eq, flK_eq, imK_eq, effXK_eq, clK_eq, execA_eq, skipA_eq, actK_eq, pvK_eq]
  try rfl

@[go_sem] theorem valA_nil (cx : Cx) (o : Oper) (env : Env) (b0 : Nat) (σ : List AObj) (av : AVal) : valA cx o env [] b0 σ av = opA cx o env σ (eqK av) := by
  try simp only [RC_eq, RL_eq, RA_eq, seqK_eq, blkK_eq, nrmK_eq, condK_eq, planK_eq, tupK_eq, resK_eq, tinK_eq, kL_eq, execL_eq, skipL_eq, guardK_eq, grdK_eq, gtK_eq, gtD_eq, eqK_eq, qK_eq, eK_eq, flK_eq, imK_eq, effXK_eq, clK_eq, execA_eq, skipA_eq, actK_eq, pvK_eq]
  try rfl

@[go_sem] theorem valA_cons (cx : Cx) (o : Oper) (env : Env) (u : Nat) (us : List Nat) (b0 : Nat) (σ : List AObj) (av : AVal) :
    valA cx o env (u :: us) b0 σ av = ∀ Xs, opA cx o env (hx (addAll b0 (u :: us)) Xs 0 σ) (eqK av) := by
  simp only [RC_eq, RL_eq, RA_eq, seqK_eq, blkK_eq, nrmK_eq, condK_eq, planK_eq, tupK_eq, resK_eq, tinK_eq, kL_eq, execL_eq, skipL_eq, guardK_eq, grdK_eq, gtK_eq, gtD_eq, eqK_eq, qK_eq, eK_eq, flK_eq, imK_eq, effXK_eq, clK_eq, execA_eq, skipA_eq, actK_eq, pvK_eq]
  try rfl

section
variable (cx : Cx) (ops : Array Oper) (b0 : Nat) (s : Stp) (o : Oper) (rest : List Stp) (env : Env) (σ : List AObj) (pd : List Pd) (K : Env → List AObj → Prop)
@[go_sem] theorem runA_nil : RA cx ops b0 [] env σ pd K = K env σ := by
  try simp only [RC_eq, RL_eq, RA_eq, seqK_eq, blkK_eq, nrmK_eq, condK_eq, planK_eq, tupK_eq, resK_eq, tinK_eq, kL_eq, execL_eq, skipL_eq, guardK_eq, grdK_eq, gtK_eq, gtD_eq, eqK_eq, qK_eq, eK_eq, flK_eq, imK_eq, effXK_eq, clK_eq, execA_eq, skipA_eq, actK_eq, pvK_eq]
  try rfl

@[go_sem] theorem runA_cons : RA cx ops b0 (s :: rest) env σ pd K = actK cx ops b0 s rest env σ pd K ops[s.i]? := by
  try simp only [RC_eq, RL_eq, RA_eq, seqK_eq, blkK_eq, nrmK_eq, condK_eq, planK_eq, tupK_eq, resK_eq, tinK_eq, kL_eq, execL_eq, skipL_eq, guardK_eq, grdK_eq, gtK_eq, gtD_eq, eqK_eq, qK_eq, eK_eq, flK_eq, imK_eq, effXK_eq, clK_eq, execA_eq, skipA_eq, actK_eq, pvK_eq]
  simp only [runA]
  cases ops[s.i]? with
  | none => rfl
  | some o =>
    show guarded ops o env _ _ = grdK0 ops env _ _ o.guard
    unfold guarded
    cases o.guard with
    | none =>
      show _ = clK0 cx ops b0 s o rest σ pd K env s.cl
      cases s.cl <;> rfl
    | some p =>
      obtain ⟨j, want⟩ := p
      show (match guardT ops env j with | some (t, b) => _ | none => False) = guardK0 env want _ _ (guardT ops env j)
      cases guardT ops env j with
      | none => rfl
      | some q =>
        show (_ ∧ _) = ((_ → clK0 cx ops b0 s o rest σ pd K _ s.cl) ∧ _)
        cases s.cl <;> rfl

@[go_sem] theorem actK_some : actK cx ops b0 s rest env σ pd K (some o) = grdK ops env (skipA cx ops b0 o rest σ pd K) (execA cx ops b0 s o rest σ pd K) o.guard := by
  try simp only [RC_eq, RL_eq, RA_eq, seqK_eq, blkK_eq, nrmK_eq, condK_eq, planK_eq, tupK_eq, resK_eq, tinK_eq, kL_eq, execL_eq, skipL_eq, guardK_eq, grdK_eq, gtK_eq, gtD_eq, eqK_eq, qK_eq, eK_eq, flK_eq, imK_eq, effXK_eq, clK_eq, execA_eq, skipA_eq, actK_eq, pvK_eq]
  try rfl

@[go_sem] theorem execA_app : execA cx ops b0 s o rest σ pd K env = clK cx ops b0 s o rest σ pd K env s.cl := by
  try simp only [RC_eq, RL_eq, RA_eq, seqK_eq, blkK_eq, nrmK_eq, condK_eq, planK_eq, tupK_eq, resK_eq, tinK_eq, kL_eq, execL_eq, skipL_eq, guardK_eq, grdK_eq, gtK_eq, gtD_eq, eqK_eq, qK_eq, eK_eq, flK_eq, imK_eq, effXK_eq, clK_eq, execA_eq, skipA_eq, actK_eq, pvK_eq]
  try rfl

@[go_sem] theorem skipA_app : skipA cx ops b0 o rest σ pd K env = RA cx ops b0 rest (env.put o.dst .any) σ pd K := by
  try simp only [RC_eq, RL_eq, RA_eq, seqK_eq, blkK_eq, nrmK_eq, condK_eq, planK_eq, tupK_eq, resK_eq, tinK_eq, kL_eq, execL_eq, skipL_eq, guardK_eq, grdK_eq, gtK_eq, gtD_eq, eqK_eq, qK_eq, eK_eq, flK_eq, imK_eq, effXK_eq, clK_eq, execA_eq, skipA_eq, actK_eq, pvK_eq]
  try rfl

@[go_sem] theorem clK_q : clK cx ops b0 s o rest σ pd K env .q = thereIs (fun av => valA cx o (env.keep s.lk) s.U b0 σ av) (qK cx ops b0 s o rest env σ pd K) := by
  try simp only [RC_eq, RL_eq, RA_eq, seqK_eq, blkK_eq, nrmK_eq, condK_eq, planK_eq, tupK_eq, resK_eq, tinK_eq, kL_eq, execL_eq, skipL_eq, guardK_eq, grdK_eq, gtK_eq, gtD_eq, eqK_eq, qK_eq, eK_eq, flK_eq, imK_eq, effXK_eq, clK_eq, execA_eq, skipA_eq, actK_eq, pvK_eq]
  try rfl

@[go_sem] theorem clK_e : clK cx ops b0 s o rest σ pd K env .e = effA cx o (env.keep s.lk) s.U b0 σ (eK cx ops b0 s o rest env pd K) := by
  try simp only [RC_eq, RL_eq, RA_eq, seqK_eq, blkK_eq, nrmK_eq, condK_eq, planK_eq, tupK_eq, resK_eq, tinK_eq, kL_eq, execL_eq, skipL_eq, guardK_eq, grdK_eq, gtK_eq, gtD_eq, eqK_eq, qK_eq, eK_eq, flK_eq, imK_eq, effXK_eq, clK_eq, execA_eq, skipA_eq, actK_eq, pvK_eq]
  try rfl

@[go_sem] theorem clK_fl (h : Nat) : clK cx ops b0 s o rest σ pd K env (.fl h) = floatA cx o (env.keep s.lk) (b0 + h) (flK cx ops b0 h o rest env σ pd K) := by
  try simp only [RC_eq, RL_eq, RA_eq, seqK_eq, blkK_eq, nrmK_eq, condK_eq, planK_eq, tupK_eq, resK_eq, tinK_eq, kL_eq, execL_eq, skipL_eq, guardK_eq, grdK_eq, gtK_eq, gtD_eq, eqK_eq, qK_eq, eK_eq, flK_eq, imK_eq, effXK_eq, clK_eq, execA_eq, skipA_eq, actK_eq, pvK_eq]
  try rfl

@[go_sem] theorem clK_vt (h : Nat) : clK cx ops b0 s o rest σ pd K env (.vt h) = (virtA cx o ∧ RA cx ops b0 rest (env.put o.dst (.row (b0 + h) 0 0 0)) σ pd K) := by
  try simp only [RC_eq, RL_eq, RA_eq, seqK_eq, blkK_eq, nrmK_eq, condK_eq, planK_eq, tupK_eq, resK_eq, tinK_eq, kL_eq, execL_eq, skipL_eq, guardK_eq, grdK_eq, gtK_eq, gtD_eq, eqK_eq, qK_eq, eK_eq, flK_eq, imK_eq, effXK_eq, clK_eq, execA_eq, skipA_eq, actK_eq, pvK_eq]
  try rfl

@[go_sem] theorem clK_im : clK cx ops b0 s o rest σ pd K env .im = immA cx o (env.keep s.lk) (imK cx ops b0 o rest env σ pd K) := by
  try simp only [RC_eq, RL_eq, RA_eq, seqK_eq, blkK_eq, nrmK_eq, condK_eq, planK_eq, tupK_eq, resK_eq, tinK_eq, kL_eq, execL_eq, skipL_eq, guardK_eq, grdK_eq, gtK_eq, gtD_eq, eqK_eq, qK_eq, eK_eq, flK_eq, imK_eq, effXK_eq, clK_eq, execA_eq, skipA_eq, actK_eq, pvK_eq]
  try rfl

@[go_sem] theorem qK_app (av : AVal) : qK cx ops b0 s o rest env σ pd K av = RA cx ops b0 rest (env.put o.dst av) σ (if blindOp o = true then pd else ⟨s.i, env.keep s.lk, av, s.U⟩ :: pd) K := by
  try simp only [RC_eq, RL_eq, RA_eq, seqK_eq, blkK_eq, nrmK_eq, condK_eq, planK_eq, tupK_eq, resK_eq, tinK_eq, kL_eq, execL_eq, skipL_eq, guardK_eq, grdK_eq, gtK_eq, gtD_eq, eqK_eq, qK_eq, eK_eq, flK_eq, imK_eq, effXK_eq, clK_eq, execA_eq, skipA_eq, actK_eq, pvK_eq]
  try rfl

@[go_sem] theorem eK_app (av : AVal) (σ' : List AObj) : eK cx ops b0 s o rest env pd K av σ' = (promises cx ops b0 σ' s.kp pd ∧ RA cx ops b0 rest (env.put o.dst av) σ' (pdKeep s.kp pd) K) := by
  try simp only [RC_eq, RL_eq, RA_eq, seqK_eq, blkK_eq, nrmK_eq, condK_eq, planK_eq, tupK_eq, resK_eq, tinK_eq, kL_eq, execL_eq, skipL_eq, guardK_eq, grdK_eq, gtK_eq, gtD_eq, eqK_eq, qK_eq, eK_eq, flK_eq, imK_eq, effXK_eq, clK_eq, execA_eq, skipA_eq, actK_eq, pvK_eq]
  try rfl

@[go_sem] theorem flK_app (h : Nat) (av : AVal) (obj : AObj) : flK cx ops b0 h o rest env σ pd K av obj = (σ[b0 + h]? = some .gone ∧ RA cx ops b0 rest (env.put o.dst av) (σ.set (b0 + h) obj) pd K) := by
  try simp only [RC_eq, RL_eq, RA_eq, seqK_eq, blkK_eq, nrmK_eq, condK_eq, planK_eq, tupK_eq, resK_eq, tinK_eq, kL_eq, execL_eq, skipL_eq, guardK_eq, grdK_eq, gtK_eq, gtD_eq, eqK_eq, qK_eq, eK_eq, flK_eq, imK_eq, effXK_eq, clK_eq, execA_eq, skipA_eq, actK_eq, pvK_eq]
  try rfl

@[go_sem] theorem imK_app (av : AVal) : imK cx ops b0 o rest env σ pd K av = RA cx ops b0 rest (env.put o.dst av) σ pd K := by
  try simp only [RC_eq, RL_eq, RA_eq, seqK_eq, blkK_eq, nrmK_eq, condK_eq, planK_eq, tupK_eq, resK_eq, tinK_eq, kL_eq, execL_eq, skipL_eq, guardK_eq, grdK_eq, gtK_eq, gtD_eq, eqK_eq, qK_eq, eK_eq, flK_eq, imK_eq, effXK_eq, clK_eq, execA_eq, skipA_eq, actK_eq, pvK_eq]
  try rfl

@[go_sem] theorem effA_nil (K : Kont) : effA cx o env [] b0 σ K = opA cx o env σ K := by
  try simp only [RC_eq, RL_eq, RA_eq, seqK_eq, blkK_eq, nrmK_eq, condK_eq, planK_eq, tupK_eq, resK_eq, tinK_eq, kL_eq, execL_eq, skipL_eq, guardK_eq, grdK_eq, gtK_eq, gtD_eq, eqK_eq, qK_eq, eK_eq, flK_eq, imK_eq, effXK_eq, clK_eq, execA_eq, skipA_eq, actK_eq, pvK_eq]
  try rfl

@[go_sem] theorem effA_cons (u : Nat) (us : List Nat) (K : Kont) : effA cx o env (u :: us) b0 σ K = ∀ Xs, opA cx o env (hx (addAll b0 (u :: us)) Xs 0 σ) (effXK (addAll b0 (u :: us)) Xs σ K) := by
  try simp only [RC_eq, RL_eq, RA_eq, seqK_eq, blkK_eq, nrmK_eq, condK_eq, planK_eq, tupK_eq, resK_eq, tinK_eq, kL_eq, execL_eq, skipL_eq, guardK_eq, grdK_eq, gtK_eq, gtD_eq, eqK_eq, qK_eq, eK_eq, flK_eq, imK_eq, effXK_eq, clK_eq, execA_eq, skipA_eq, actK_eq, pvK_eq]
  try rfl

@[go_sem] theorem effXK_app (U : List Nat) (Xs : Nat → AObj) (K : Kont) (av : AVal) (σ' : List AObj) : effXK U Xs σ K av σ' = (kept Xs σ' U ∧ K av (ux U σ 0 σ')) := by
  try simp only [RC_eq, RL_eq, RA_eq, seqK_eq, blkK_eq, nrmK_eq, condK_eq, planK_eq, tupK_eq, resK_eq, tinK_eq, kL_eq, execL_eq, skipL_eq, guardK_eq, grdK_eq, gtK_eq, gtD_eq, eqK_eq, qK_eq, eK_eq, flK_eq, imK_eq, effXK_eq, clK_eq, execA_eq, skipA_eq, actK_eq, pvK_eq]
  try rfl

@[go_sem] theorem pdKeep_nil (kp : List Nat) : pdKeep kp [] = [] := by
  try simp only [RC_eq, RL_eq, RA_eq, seqK_eq, blkK_eq, nrmK_eq, condK_eq, planK_eq, tupK_eq, resK_eq, tinK_eq, kL_eq, execL_eq, skipL_eq, guardK_eq, grdK_eq, gtK_eq, gtD_eq, eqK_eq, qK_eq, eK_eq, flK_eq, imK_eq, effXK_eq, clK_eq, execA_eq, skipA_eq, actK_eq, pvK_eq]
  try rfl

@[go_sem] theorem pdKeep_cons (kp : List Nat) (p : Pd) (r : List Pd) : pdKeep kp (p :: r) = if inL kp p.i = true then p :: pdKeep kp r else pdKeep kp r := by
  try simp only [RC_eq, RL_eq, RA_eq, seqK_eq, blkK_eq, nrmK_eq, condK_eq, planK_eq, tupK_eq, resK_eq, tinK_eq, kL_eq, execL_eq, skipL_eq, guardK_eq, grdK_eq, gtK_eq, gtD_eq, eqK_eq, qK_eq, eK_eq, flK_eq, imK_eq, effXK_eq, clK_eq, execA_eq, skipA_eq, actK_eq, pvK_eq]
  try rfl

@[go_sem] theorem promises_nil (kp : List Nat) : promises cx ops b0 σ kp [] = True := by
  try simp only [RC_eq, RL_eq, RA_eq, seqK_eq, blkK_eq, nrmK_eq, condK_eq, planK_eq, tupK_eq, resK_eq, tinK_eq, kL_eq, execL_eq, skipL_eq, guardK_eq, grdK_eq, gtK_eq, gtD_eq, eqK_eq, qK_eq, eK_eq, flK_eq, imK_eq, effXK_eq, clK_eq, execA_eq, skipA_eq, actK_eq, pvK_eq]
  try rfl

end

@[go_sem] theorem pvK_some (cx : Cx) (b0 : Nat) (σ : List AObj) (p : Pd) (o : Oper) : pvK cx b0 σ p (some o) = valA cx o p.env p.U b0 σ p.av := by
  simp only [RC_eq, RL_eq, RA_eq, seqK_eq, blkK_eq, nrmK_eq, condK_eq, planK_eq, tupK_eq, resK_eq, tinK_eq, kL_eq, execL_eq, skipL_eq, guardK_eq, grdK_eq, gtK_eq, gtD_eq, eqK_eq, qK_eq, eK_eq, flK_eq, imK_eq, effXK_eq, clK_eq, execA_eq, skipA_eq, actK_eq, pvK_eq]
  try rfl

@[go_sem] theorem promises_cons (cx : Cx) (ops : Array Oper) (b0 : Nat) (σ : List AObj) (kp : List Nat) (p : Pd) (r : List Pd) :
    promises cx ops b0 σ kp (p :: r) = ((if inL kp p.i = true then pvK cx b0 σ p ops[p.i]? else True) ∧ promises cx ops b0 σ kp r) := by
  try simp only [RC_eq, RL_eq, RA_eq, seqK_eq, blkK_eq, nrmK_eq, condK_eq, planK_eq, tupK_eq, resK_eq, tinK_eq, kL_eq, execL_eq, skipL_eq, guardK_eq, grdK_eq, gtK_eq, gtD_eq, eqK_eq, qK_eq, eK_eq, flK_eq, imK_eq, effXK_eq, clK_eq, execA_eq, skipA_eq, actK_eq, pvK_eq]
  simp only [promises]
  cases ops[p.i]? <;> rfl

@[go_sem] theorem hx_nil (U : List Nat) (Xs : Nat → AObj) (k : Nat) : hx U Xs k [] = [] := by
  try simp only [RC_eq, RL_eq, RA_eq, seqK_eq, blkK_eq, nrmK_eq, condK_eq, planK_eq, tupK_eq, resK_eq, tinK_eq, kL_eq, execL_eq, skipL_eq, guardK_eq, grdK_eq, gtK_eq, gtD_eq, eqK_eq, qK_eq, eK_eq, flK_eq, imK_eq, effXK_eq, clK_eq, execA_eq, skipA_eq, actK_eq, pvK_eq]
  try rfl

@[go_sem] theorem hx_cons (U : List Nat) (Xs : Nat → AObj) (k : Nat) (o : AObj) (r : List AObj) : hx U Xs k (o :: r) = (if inL U k = true then Xs k else o) :: hx U Xs (k + 1) r := by
  try simp only [RC_eq, RL_eq, RA_eq, seqK_eq, blkK_eq, nrmK_eq, condK_eq, planK_eq, tupK_eq, resK_eq, tinK_eq, kL_eq, execL_eq, skipL_eq, guardK_eq, grdK_eq, gtK_eq, gtD_eq, eqK_eq, qK_eq, eK_eq, flK_eq, imK_eq, effXK_eq, clK_eq, execA_eq, skipA_eq, actK_eq, pvK_eq]
  try rfl

@[go_sem] theorem ux_nil (U : List Nat) (τ : List AObj) (k : Nat) : ux U τ k [] = [] := by
  try simp only [RC_eq, RL_eq, RA_eq, seqK_eq, blkK_eq, nrmK_eq, condK_eq, planK_eq, tupK_eq, resK_eq, tinK_eq, kL_eq, execL_eq, skipL_eq, guardK_eq, grdK_eq, gtK_eq, gtD_eq, eqK_eq, qK_eq, eK_eq, flK_eq, imK_eq, effXK_eq, clK_eq, execA_eq, skipA_eq, actK_eq, pvK_eq]
  try rfl

@[go_sem] theorem ux_cons (U : List Nat) (τ : List AObj) (k : Nat) (o : AObj) (r : List AObj) : ux U τ k (o :: r) = (if inL U k = true then τ.getD k .gone else o) :: ux U τ (k + 1) r := by
  try simp only [RC_eq, RL_eq, RA_eq, seqK_eq, blkK_eq, nrmK_eq, condK_eq, planK_eq, tupK_eq, resK_eq, tinK_eq, kL_eq, execL_eq, skipL_eq, guardK_eq, grdK_eq, gtK_eq, gtD_eq, eqK_eq, qK_eq, eK_eq, flK_eq, imK_eq, effXK_eq, clK_eq, execA_eq, skipA_eq, actK_eq, pvK_eq]
  try rfl

@[go_sem] theorem kept_nil (Xs : Nat → AObj) (σ : List AObj) : kept Xs σ [] = True := by
  try simp only [RC_eq, RL_eq, RA_eq, seqK_eq, blkK_eq, nrmK_eq, condK_eq, planK_eq, tupK_eq, resK_eq, tinK_eq, kL_eq, execL_eq, skipL_eq, guardK_eq, grdK_eq, gtK_eq, gtD_eq, eqK_eq, qK_eq, eK_eq, flK_eq, imK_eq, effXK_eq, clK_eq, execA_eq, skipA_eq, actK_eq, pvK_eq]
  try rfl

@[go_sem] theorem kept_cons (Xs : Nat → AObj) (σ : List AObj) (k : Nat) (r : List Nat) : kept Xs σ (k :: r) = (σ[k]? = some (Xs k) ∧ kept Xs σ r) := by
  try simp only [RC_eq, RL_eq, RA_eq, seqK_eq, blkK_eq, nrmK_eq, condK_eq, planK_eq, tupK_eq, resK_eq, tinK_eq, kL_eq, execL_eq, skipL_eq, guardK_eq, grdK_eq, gtK_eq, gtD_eq, eqK_eq, qK_eq, eK_eq, flK_eq, imK_eq, effXK_eq, clK_eq, execA_eq, skipA_eq, actK_eq, pvK_eq]
  try rfl

@[go_sem] theorem cells_val (v : Value) : (AVal.val v).cells = [.val v] := by
  try simp only [RC_eq, RL_eq, RA_eq, seqK_eq, blkK_eq, nrmK_eq, condK_eq, planK_eq, tupK_eq, resK_eq, tinK_eq, kL_eq, execL_eq, skipL_eq, guardK_eq, grdK_eq, gtK_eq, gtD_eq, eqK_eq, qK_eq, eK_eq, flK_eq, imK_eq, effXK_eq, clK_eq, execA_eq, skipA_eq, actK_eq, pvK_eq]
  try rfl

@[go_sem] theorem cells_agg (cs : List AVal) : (AVal.agg cs).cells = cs := by
  try simp only [RC_eq, RL_eq, RA_eq, seqK_eq, blkK_eq, nrmK_eq, condK_eq, planK_eq, tupK_eq, resK_eq, tinK_eq, kL_eq, execL_eq, skipL_eq, guardK_eq, grdK_eq, gtK_eq, gtD_eq, eqK_eq, qK_eq, eK_eq, flK_eq, imK_eq, effXK_eq, clK_eq, execA_eq, skipA_eq, actK_eq, pvK_eq]
  try rfl

@[go_sem] theorem cells_list (tg : Bool) (sz : Nat) (xs : List AVal) : (AVal.list tg sz xs).cells = [.list tg sz xs] := by
  try simp only [RC_eq, RL_eq, RA_eq, seqK_eq, blkK_eq, nrmK_eq, condK_eq, planK_eq, tupK_eq, resK_eq, tinK_eq, kL_eq, execL_eq, skipL_eq, guardK_eq, grdK_eq, gtK_eq, gtD_eq, eqK_eq, qK_eq, eK_eq, flK_eq, imK_eq, effXK_eq, clK_eq, execA_eq, skipA_eq, actK_eq, pvK_eq]
  try rfl

@[go_sem] theorem cells_row (l v o n : Nat) : (AVal.row l v o n).cells = [.row l v o n] := by
  try simp only [RC_eq, RL_eq, RA_eq, seqK_eq, blkK_eq, nrmK_eq, condK_eq, planK_eq, tupK_eq, resK_eq, tinK_eq, kL_eq, execL_eq, skipL_eq, guardK_eq, grdK_eq, gtK_eq, gtD_eq, eqK_eq, qK_eq, eK_eq, flK_eq, imK_eq, effXK_eq, clK_eq, execA_eq, skipA_eq, actK_eq, pvK_eq]
  try rfl

@[go_sem] theorem cells_ptr (l v i j : Nat) : (AVal.ptr l v i j).cells = [.ptr l v i j] := by
  try simp only [RC_eq, RL_eq, RA_eq, seqK_eq, blkK_eq, nrmK_eq, condK_eq, planK_eq, tupK_eq, resK_eq, tinK_eq, kL_eq, execL_eq, skipL_eq, guardK_eq, grdK_eq, gtK_eq, gtD_eq, eqK_eq, qK_eq, eK_eq, flK_eq, imK_eq, effXK_eq, clK_eq, execA_eq, skipA_eq, actK_eq, pvK_eq]
  try rfl

@[go_sem] theorem cells_map (l : Nat) : (AVal.map l).cells = [.map l] := by
  try simp only [RC_eq, RL_eq, RA_eq, seqK_eq, blkK_eq, nrmK_eq, condK_eq, planK_eq, tupK_eq, resK_eq, tinK_eq, kL_eq, execL_eq, skipL_eq, guardK_eq, grdK_eq, gtK_eq, gtD_eq, eqK_eq, qK_eq, eK_eq, flK_eq, imK_eq, effXK_eq, clK_eq, execA_eq, skipA_eq, actK_eq, pvK_eq]
  try rfl

@[go_sem] theorem cells_func (f : Fn) (a b : List AVal) : (AVal.func f a b).cells = [.func f a b] := by
  try simp only [RC_eq, RL_eq, RA_eq, seqK_eq, blkK_eq, nrmK_eq, condK_eq, planK_eq, tupK_eq, resK_eq, tinK_eq, kL_eq, execL_eq, skipL_eq, guardK_eq, grdK_eq, gtK_eq, gtD_eq, eqK_eq, qK_eq, eK_eq, flK_eq, imK_eq, effXK_eq, clK_eq, execA_eq, skipA_eq, actK_eq, pvK_eq]
  try rfl

@[go_sem] theorem cells_iface (t : TypeId) (v : AVal) : (AVal.iface t v).cells = [.iface t v] := by
  try simp only [RC_eq, RL_eq, RA_eq, seqK_eq, blkK_eq, nrmK_eq, condK_eq, planK_eq, tupK_eq, resK_eq, tinK_eq, kL_eq, execL_eq, skipL_eq, guardK_eq, grdK_eq, gtK_eq, gtD_eq, eqK_eq, qK_eq, eK_eq, flK_eq, imK_eq, effXK_eq, clK_eq, execA_eq, skipA_eq, actK_eq, pvK_eq]
  try rfl

@[go_sem] theorem arr_get (l : List Oper) (i : Nat) : (l.toArray)[i]? = l[i]? := by
  try simp only [RC_eq, RL_eq, RA_eq, seqK_eq, blkK_eq, nrmK_eq, condK_eq, planK_eq, tupK_eq, resK_eq, tinK_eq, kL_eq, execL_eq, skipL_eq, guardK_eq, grdK_eq, gtK_eq, gtD_eq, eqK_eq, qK_eq, eK_eq, flK_eq, imK_eq, effXK_eq, clK_eq, execA_eq, skipA_eq, actK_eq, pvK_eq]
  simp

end Go.Abs

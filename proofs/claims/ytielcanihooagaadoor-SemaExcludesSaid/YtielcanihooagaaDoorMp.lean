/- A map's block read as a list of keys and values, in the order in which they came in: look-up, store, delete, len, as steps of a walk.
   Conditions: the key's type is one whose keys the model compares plainly (KeyOk). -/
import Derived.Calls
import Derived.Tactics
import Derived.Below
import Derived.WalkKit
import Derived.Laws.AppendOwn
import Derived.Deep.Draws
set_option linter.unusedVariables false
set_option linter.unusedSimpArgs false
namespace Go.Proofs.YtielcanihooagaaDoor.Mp
open Go.Instr Go.RowKit

section
variable {κ : Type} [DecidableEq κ]
def look (k : κ) : List (κ × Value) → Nat → Option (Nat × Value)
  | [], _ => none
  | (a, v) :: r, i => if a = k then some (i, v) else look k r (i + 1)
def ins (k : κ) (v : Value) : List (κ × Value) → List (κ × Value)
  | [] => [(k, v)]
  | (a, u) :: r => if a = k then (k, v) :: r else (a, u) :: ins k v r
def del (k : κ) : List (κ × Value) → List (κ × Value)
  | [] => []
  | (a, u) :: r => if a = k then r else (a, u) :: del k r
def get (k : κ) (l : List (κ × Value)) : Option Value := (look k l 0).map (·.2)

def pr (e : MapEntry) : Value × Value := (e.key, e.val)
def en (enc : κ → Value) (p : κ × Value) : Value × Value := (enc p.1, p.2)
def MapOf (enc : κ → Value) (w : World) (b : Nat) (l : List (κ × Value)) : Prop :=
  ∃ es clock, w.heap[b]? = some (.map es clock) ∧ es.toList.map pr = l.map (en enc)

/-- What a key's type must tell. -/
structure KeyOk (P : Program) (K : TypeId) (enc : κ → Value) : Prop where
  check : ∀ (e : Bool) (k : κ) (w : World), (checkKey e 10000 K (enc k)).run P w = .ok () w
  find : ∀ (k : κ) (es : List MapEntry) (l : List (κ × Value)) (w : World), es.map pr = l.map (en enc) → (findKey K (enc k) es).run P w = .ok (look k l 0) w
  stays : ∀ (k : κ) (w : World), (keyThatStays (enc k) (enc k)).run P w = .ok (enc k) w

theorem look_at : ∀ (l : List (κ × Value)) (k : κ) (i0 i : Nat) (v : Value), look k l i0 = some (i, v) → i0 ≤ i ∧ l[i - i0]? = some (k, v) ∧ (∀ u, ins k u l = l.set (i - i0) (k, u)) ∧ del k l = l.eraseIdx (i - i0) := by
  intro l
  induction l with
  | nil => intro k i0 i v h; cases h
  | cons p r ih =>
    intro k i0 i v h
    obtain ⟨a, u⟩ := p
    unfold look at h
    by_cases e : a = k
    · rw [if_pos e] at h
      obtain ⟨rfl, rfl⟩ := Prod.mk.inj (Option.some.inj h)
      subst e
      refine ⟨Nat.le_refl _, by simp, fun u' => ?_, ?_⟩
      · simp [ins]
      · simp [del]
    · rw [if_neg e] at h
      obtain ⟨h1, h2, h3, h4⟩ := ih k (i0 + 1) i v h
      have hi : i - i0 = (i - (i0 + 1)) + 1 := by omega
      refine ⟨by omega, by rw [hi]; simpa using h2, fun u' => ?_, ?_⟩
      · rw [hi]; simp [ins, e, h3 u']
      · rw [hi]; simp [del, e, h4]
theorem look_none : ∀ (l : List (κ × Value)) (k : κ) (i0 : Nat), look k l i0 = none → (∀ u, ins k u l = l ++ [(k, u)]) ∧ del k l = l := by
  intro l
  induction l with
  | nil => intro k i0 _; exact ⟨fun u => rfl, rfl⟩
  | cons p r ih =>
    intro k i0 h
    obtain ⟨a, u⟩ := p
    unfold look at h
    by_cases e : a = k
    · rw [if_pos e] at h; cases h
    · rw [if_neg e] at h
      obtain ⟨h1, h2⟩ := ih k (i0 + 1) h
      exact ⟨fun u' => by simp [ins, e, h1 u'], by simp [del, e, h2]⟩
theorem look_get (l : List (κ × Value)) (k : κ) : get k l = (look k l 0).map (·.2) := rfl

/-! ### keys of whole numbers -/
theorem findNow_int {q : IntKind} (k : Int) : ∀ (es : List MapEntry) (l : List (Int × Value)) (i : Nat), es.map pr = l.map (en (Value.int q)) → findNow (.int q) (.int q k) es i = some (look k l i) := by
  intro es
  induction es with
  | nil =>
    intro l i h
    cases l with
    | nil => rfl
    | cons p r => cases h
  | cons e es ih =>
    intro l i h
    cases l with
    | nil => cases h
    | cons p r =>
      obtain ⟨a, v⟩ := p
      simp only [List.map_cons, List.cons.injEq, pr, en, Prod.mk.injEq] at h
      obtain ⟨⟨hk, hv⟩, hr⟩ := h
      unfold findNow look
      rw [hk, hv]
      simp only [sameNow, if_true]
      by_cases c : a = k
      · subst c; simp
      · have : (k == a) = false := by simpa using fun e => c e.symm
        rw [this, if_neg c]
        exact ih r (i + 1) hr
theorem int_key {P : Program} {K : TypeId} {q : IntKind} (h : P.underlying K = some (.int q)) : KeyOk P K (Value.int q) where
  check := fun e k w => by
    show (checkKey e (9999 + 1) K (Value.int q k)).run P w = _
    rw [checkKey]
    simp only [Sem.run_bind, run_underlying h, Result.andThen_ok]
    rfl
  find := fun k es l w he => by
    unfold findKey
    simp only [Sem.run_bind, run_underlying h, Result.andThen_ok, findNow_int k es l 0 he]
    rfl
  stays := fun k w => by
    unfold keyThatStays
    have : sameBits 10000 (Value.int q k) (Value.int q k) = true := by
      show sameBits (9999 + 1) (Value.int q k) (Value.int q k) = true
      simp [sameBits]
    rw [this, if_pos rfl]
    rfl

/-! ### the operations -/
variable {P : Program} {K E T : TypeId} {enc : κ → Value} (HK : KeyOk P K enc) (hT : P.underlying T = some (.map K E))
include HK hT
theorem run_look {z : Value} {w : World} (hz : (zeroValue E).run P w = .ok z w) {b : Nat} {l : List (κ × Value)} (hM : MapOf enc w b l) (k : κ) (ok : Bool) :
    (Instr.lookup T (.map (some b)) (enc k) ok).run P w = .ok (if ok = true then .tuple #[(get k l).getD z, .bool (get k l).isSome] else (get k l).getD z) w := by
  obtain ⟨es, clock, hb, he⟩ := hM
  unfold Instr.lookup
  have hg : (getObj b).run P w = .ok (.map es clock) w := by simp [getObj, Sem.run, hb]
  simp only [Sem.run_bind, run_underlying hT, Result.andThen_ok, hg, Sem.run_pure, HK.check, HK.find k es.toList l w he]
  rw [look_get]
  cases look k l 0 with
  | none => simp only [Sem.run_bind, hz, Result.andThen_ok, Sem.run_pure]; cases ok <;> rfl
  | some p => obtain ⟨i, v⟩ := p; simp only [Sem.run_pure, Result.andThen_ok]; cases ok <;> rfl
end
/-- The world with another object in a block. -/
def setO (w : World) (b : Nat) (o : Obj) : World := { w with heap := w.heap.setIfInBounds b o }
theorem setO_at {w : World} {b : Nat} {x : Obj} (h : w.heap[b]? = some x) (o : Obj) : (setO w b o).heap[b]? = some o := by
  have hl : b < w.heap.size := (Array.getElem?_eq_some_iff.1 h).1
  simp [setO, hl]
theorem setO_grown (w : World) (b : Nat) (o : Obj) : w.grownBy (setO w b o) (some b) :=
  ⟨rfl, rfl, rfl, by simp [setO], fun k hk hne => by
    have : b ≠ k := fun e => hne (by rw [e])
    simp [setO, this]⟩
theorem setO_size (w : World) (b : Nat) (o : Obj) : (setO w b o).heap.size = w.heap.size := by simp [setO]

section
variable {κ : Type} {enc : κ → Value}
theorem MapOf.kept {w w' : World} {b : Nat} {l : List (κ × Value)} (h : MapOf enc w b l) (hb : w'.heap[b]? = w.heap[b]?) : MapOf enc w' b l := by
  obtain ⟨es, cl, h1, h2⟩ := h
  exact ⟨es, cl, hb.trans h1, h2⟩
theorem MapOf.lt {w : World} {b : Nat} {l : List (κ × Value)} (h : MapOf enc w b l) : b < w.heap.size := by
  obtain ⟨es, cl, h1, h2⟩ := h
  exact (Array.getElem?_eq_some_iff.1 h1).1
theorem MapOf.grown {w w' : World} {b : Nat} {l : List (κ × Value)} {row : Option Nat} (h : MapOf enc w b l) (hg : w.grownBy w' row) (hne : some b ≠ row) : MapOf enc w' b l := h.kept (hg.block b h.lt hne)
theorem MapOf.below {w w' : World} {b : Nat} {l : List (κ × Value)} (h : MapOf enc w b l) (hb : Below w.heap.size w w') : MapOf enc w' b l := h.kept (hb.block b h.lt)
theorem MapOf.alloc {w : World} {b : Nat} {l : List (κ × Value)} (h : MapOf enc w b l) (o : Obj) : MapOf enc (w.alloc o) b l := h.grown (World.grownBy_alloc w o none) (by simp)
theorem MapOf.drewN {w : World} {b : Nat} {l : List (κ × Value)} (h : MapOf enc w b l) (n : Nat) : MapOf enc (w.drewN n) b l := h
theorem MapOf.drew {w : World} {b : Nat} {l : List (κ × Value)} (h : MapOf enc w b l) : MapOf enc w.drew b l := h
theorem MapOf.new (w : World) : MapOf enc (w.alloc (.map #[] 0)) w.heap.size [] := ⟨#[], 0, heap_alloc_new w _, rfl⟩
theorem MapOf.size_ {w : World} {b : Nat} {l : List (κ × Value)} (h : MapOf enc w b l) : ∃ es cl, w.heap[b]? = some (.map es cl) ∧ es.size = l.length := by
  obtain ⟨es, cl, h1, h2⟩ := h
  exact ⟨es, cl, h1, by have := congrArg List.length h2; simpa using this⟩
end

section
variable {κ : Type} [DecidableEq κ]
variable {P : Program} {K E T : TypeId} {enc : κ → Value} (HK : KeyOk P K enc) (hT : P.underlying T = some (.map K E))
include HK hT
theorem run_put {w : World} {b : Nat} {l : List (κ × Value)} (hM : MapOf enc w b l) (k : κ) (v : Value) :
    ∃ w', (Instr.mapUpdate T (.map (some b)) (enc k) v).run P w = .ok () w' ∧ MapOf enc w' b (ins k v l) ∧ w.grownBy w' (some b) ∧ w'.heap.size = w.heap.size := by
  obtain ⟨es, clock, hb, he⟩ := hM
  unfold Instr.mapUpdate
  have hg : (getObj b).run P w = .ok (.map es clock) w := by simp [getObj, Sem.run, hb]
  have hs : ∀ o : Obj, (setObj b o).run P w = .ok () (setO w b o) := fun o => by simp [setObj, Sem.run, hb, setO]
  simp only [Sem.run_bind, run_underlying hT, Result.andThen_ok, hg, HK.check, HK.find k es.toList l w he]
  cases hl : look k l 0 with
  | none =>
    obtain ⟨h1, _⟩ := look_none l k 0 hl
    simp only [hs]
    refine ⟨_, rfl, ⟨_, _, setO_at hb _, ?_⟩, setO_grown _ _ _, setO_size _ _ _⟩
    rw [h1 v, Array.toList_push, List.map_append, List.map_append, he]
    rfl
  | some p =>
    obtain ⟨i, u⟩ := p
    obtain ⟨_, h2, h3, _⟩ := look_at l k 0 i u hl
    rw [Nat.sub_zero] at h2 h3
    have hi : i < es.size := by
      have := congrArg List.length he
      have hl2 := (List.getElem?_eq_some_iff.1 h2).1
      simp at this
      omega
    have hk : ((es[i]?).map (·.key)).getD (enc k) = enc k := by
      have e1 : (es.toList.map pr)[i]? = (l.map (en enc))[i]? := by rw [he]
      rw [List.getElem?_map, List.getElem?_map, h2, Array.getElem?_toList, Array.getElem?_eq_getElem hi] at e1
      rw [Array.getElem?_eq_getElem hi]
      simp only [Option.map_some, Option.some.injEq, pr, en, Prod.mk.injEq] at e1
      simp [e1.1]
    simp only [hk, Sem.run_bind, HK.stays, Result.andThen_ok, hs]
    refine ⟨_, rfl, ⟨_, _, setO_at hb _, ?_⟩, setO_grown _ _ _, setO_size _ _ _⟩
    rw [h3 v]
    apply List.ext_getElem?
    intro j
    rw [List.getElem?_map, List.getElem?_map, Array.getElem?_toList, Array.getElem?_modify, List.getElem?_set]
    have ej : (es.toList.map pr)[j]? = (l.map (en enc))[j]? := by rw [he]
    rw [List.getElem?_map, List.getElem?_map, Array.getElem?_toList] at ej
    by_cases e : i = j
    · subst e
      rw [if_pos rfl, if_pos rfl, if_pos (List.getElem?_eq_some_iff.1 h2).1, Array.getElem?_eq_getElem hi]
      rfl
    · rw [if_neg e, if_neg e]; exact ej
theorem run_del {w : World} {b : Nat} {l : List (κ × Value)} (hM : MapOf enc w b l) (k : κ) (ty X : TypeId) :
    ∃ w', (Builtin.delete_ #[T, X] ty #[.map (some b), enc k]).run P w = .ok (.tuple #[]) w' ∧ MapOf enc w' b (del k l) ∧ w.grownBy w' (some b) ∧ w'.heap.size = w.heap.size := by
  obtain ⟨es, clock, hb, he⟩ := hM
  unfold Builtin.delete_
  have hg : (getObj b).run P w = .ok (.map es clock) w := by simp [getObj, Sem.run, hb]
  have hs : ∀ o : Obj, (setObj b o).run P w = .ok () (setO w b o) := fun o => by simp [setObj, Sem.run, hb, setO]
  simp only [List.getElem?_toArray, List.getElem?_cons_zero, List.getElem?_cons_succ, Sem.run_bind, run_underlying hT, Result.andThen_ok, hg, HK.check, HK.find k es.toList l w he]
  cases hl : look k l 0 with
  | none =>
    obtain ⟨_, h1⟩ := look_none l k 0 hl
    simp only [Sem.run_bind, hs, Result.andThen_ok, Sem.run_pure]
    exact ⟨_, rfl, ⟨_, _, setO_at hb _, by rw [h1]; exact he⟩, setO_grown _ _ _, setO_size _ _ _⟩
  | some p =>
    obtain ⟨i, u⟩ := p
    obtain ⟨_, h2, _, h4⟩ := look_at l k 0 i u hl
    rw [Nat.sub_zero] at h2 h4
    have hi : i < es.size := by
      have := congrArg List.length he
      have hl2 := (List.getElem?_eq_some_iff.1 h2).1
      simp at this
      omega
    simp only [Sem.run_bind, hs, Result.andThen_ok, Sem.run_pure]
    refine ⟨_, rfl, ⟨_, _, setO_at hb _, ?_⟩, setO_grown _ _ _, setO_size _ _ _⟩
    rw [h4, Array.eraseIdxIfInBounds, dif_pos hi, Array.toList_eraseIdx, List.eraseIdx_eq_take_drop_succ, List.eraseIdx_eq_take_drop_succ, List.map_append, List.map_append, List.map_take, List.map_take, List.map_drop, List.map_drop, he]
end

/-! ### as steps of a walk -/
section
variable {κ : Type} [DecidableEq κ] {P : Program} {ops : Array Oper} {rest : List Oper} {o : Oper} {a : Act} {Q : Exit → Act → World → Prop} {K E T : TypeId} {enc : κ → Value}
theorem step_look (HK : KeyOk P K enc) (hT : P.underlying T = some (.map K E)) (hgd : o.guard = none) {W : World} {x y : Operand} {ok : Bool} (ho : o.op = .lookup T x y ok) {z : Value} (hz : (zeroValue E).run P W = .ok z W) {b : Nat} {l : List (κ × Value)}
    (hM : MapOf enc W b l) (k : κ) (hx : a.eval x = .map (some b)) (hy : a.eval y = enc k) {v : Value} (hv : (if ok = true then .tuple #[(get k l).getD z, .bool (get k l).isSome] else (get k l).getD z) = v)
    (h : wpList P ops Q rest (a.put o.dst v) W) : wpList P ops Q (o :: rest) a W := by
  refine wpList_plain hgd fun Kc hK => ?_
  have hr : (execOp a.eval o).run P W = .ok (.value v) W := by
    unfold execOp
    simp only [ho, hx, hy, Sem.run_bind, run_look HK hT hz hM k ok, Result.andThen_ok, hv]
    rfl
  unfold Oper.wp
  rw [hr]
  exact hK _ _ h
theorem step_put (HK : KeyOk P K enc) (hT : P.underlying T = some (.map K E)) (hgd : o.guard = none) {W : World} {x y u : Operand} (ho : o.op = .mapUpdate T x y u) {b : Nat} {l : List (κ × Value)}
    (hM : MapOf enc W b l) (k : κ) (v : Value) (hx : a.eval x = .map (some b)) (hy : a.eval y = enc k) (hu : a.eval u = v)
    (h : ∀ w1, MapOf enc w1 b (ins k v l) → W.grownBy w1 (some b) → w1.heap.size = W.heap.size → wpList P ops Q rest (a.put o.dst undef) w1) : wpList P ops Q (o :: rest) a W := by
  refine wpList_plain hgd fun Kc hK => ?_
  obtain ⟨w', h1, h2, h3, h4⟩ := run_put HK hT hM k v
  have hr : (execOp a.eval o).run P W = .ok .skip w' := by
    unfold execOp
    simp only [ho, hx, hy, hu, Sem.run_bind, h1, Result.andThen_ok]
    rfl
  unfold Oper.wp
  rw [hr]
  exact hK _ _ (h w' h2 h3 h4)
theorem step_del (HK : KeyOk P K enc) (hT : P.underlying T = some (.map K E)) (hgd : o.guard = none) {W : World} {x y : Operand} {X : TypeId} (ho : o.op = .call { callee := .builtin .delete, args := #[x, y], argTypes := #[T, X] }) {b : Nat} {l : List (κ × Value)}
    (hM : MapOf enc W b l) (k : κ) (hx : a.eval x = .map (some b)) (hy : a.eval y = enc k)
    (h : ∀ w1, MapOf enc w1 b (del k l) → W.grownBy w1 (some b) → w1.heap.size = W.heap.size → wpList P ops Q rest (a.put o.dst (.tuple #[])) w1) : wpList P ops Q (o :: rest) a W := by
  refine wpList_plain hgd fun Kc hK => ?_
  obtain ⟨w', h1, h2, h3, h4⟩ := run_del HK hT hM k o.type X
  have hr : (execOp a.eval o).run P W = .ok (.value (.tuple #[])) w' := by
    unfold execOp
    simp only [ho]
    simp [resolve, invoke, builtin, hx, hy, h1]
  unfold Oper.wp
  rw [hr]
  exact hK _ _ (h w' h2 h3 h4)
end
end Go.Proofs.YtielcanihooagaaDoor.Mp

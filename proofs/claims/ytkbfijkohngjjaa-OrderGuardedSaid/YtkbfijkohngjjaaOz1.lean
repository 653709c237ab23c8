/- Words for calls that write: what a call leaves alone (Fr), and a store into a block that is known whole. Conditions: each theorem's own.
   Maps whose entries are found first and stored later ('m[k], n[j] = x, y'), and keys that are structs of two whole numbers. Conditions: each theorem's own.
   A range over a map whose round writes other blocks, and whose iterator lies anywhere. Conditions: each theorem's own.
   Of a trace of events: which event comes ahead of which, as plain sets of proposed arrows (from, to, why). Conditions: each theorem's own.
   What a finder of arrows holds in memory: what read noted (RO), and the arrows proposed so far (FS). Conditions: each theorem's own.
   The finder's small functions: arrow, capacity, origin. Conditions: each theorem's own.
   The finder's 'each': an arrow from each event ahead of which a function value says yes. Conditions: the function value's own contract.
   The function values of the finder's 'others'. Conditions: each theorem's own.
   Keys of the finder's maps; what a round of a loop over the events adds. Conditions: each theorem's own.
   Maps whose values are rows of the call's own: own tells whose each block is. Conditions: each theorem's own.
   Plain: what a wait, a signal and an await do to who waits and who was taken out. Conditions: each theorem's own. -/
import Derived.Calls
import Derived.Tactics
import Derived.Below
import Derived.WalkKit
import Derived.Laws.AppendOwn
import Derived.Deep.Draws
import Derived.Test.YtkbfijkohngjjaaQOrderx0
import Derived.StillTailTactics
import Derived.WideKeyEntry
import Derived.Maps.RangeWalk
import Derived.Test.YtkbfijkohngjjaaQOrderx1
/- A map's block read as a list of keys and values, in the order in which they came in: look-up, store, delete, len, as steps of a walk.
   Conditions: the key's type is one whose keys the model compares plainly (KeyOk). -/
set_option linter.unusedVariables false
set_option linter.unusedSimpArgs false
namespace Go.Proofs.Ytkbfijkohngjjaa.Mp
open Go.Instr Go.RowKit
section
variable {κ : Type} [DecidableEq κ]
def look (k : κ) : List (κ × Value) → Nat → Option (Nat × Value)
  | [], _ => none
  | (a, v) :: r, i => if a = k then some (i, v) else look k r (i + 1)
def ins (k : κ) (v : Value) : List (κ × Value) → List (κ × Value)
  | [] => [(k, v)]
  | (a, u) :: r => if a = k then (k, v) :: r else (a, u) :: ins k v r
def del (k : κ) : List (κ × Value) → List (κ × Value)
  | [] => []
  | (a, u) :: r => if a = k then r else (a, u) :: del k r
def get (k : κ) (l : List (κ × Value)) : Option Value := (look k l 0).map (·.2)
def pr (e : MapEntry) : Value × Value := (e.key, e.val)
def en (enc : κ → Value) (p : κ × Value) : Value × Value := (enc p.1, p.2)
def MapOf (enc : κ → Value) (w : World) (b : Nat) (l : List (κ × Value)) : Prop :=
  ∃ es clock, w.heap[b]? = some (.map es clock) ∧ es.toList.map pr = l.map (en enc)
/-- What a key's type must tell. -/
structure KeyOk (P : Program) (K : TypeId) (enc : κ → Value) : Prop where
  check : ∀ (e : Bool) (k : κ) (w : World), (checkKey e 10000 K (enc k)).run P w = .ok () w
  find : ∀ (k : κ) (es : List MapEntry) (l : List (κ × Value)) (w : World), es.map pr = l.map (en enc) → (findKey K (enc k) es).run P w = .ok (look k l 0) w
  stays : ∀ (k : κ) (w : World), (keyThatStays (enc k) (enc k)).run P w = .ok (enc k) w
theorem look_at : ∀ (l : List (κ × Value)) (k : κ) (i0 i : Nat) (v : Value), look k l i0 = some (i, v) → i0 ≤ i ∧ l[i - i0]? = some (k, v) ∧ (∀ u, ins k u l = l.set (i - i0) (k, u)) ∧ del k l = l.eraseIdx (i - i0) := by
  intro l
  induction l with
  | nil => intro k i0 i v h; cases h
  | cons p r ih =>
    intro k i0 i v h
    obtain ⟨a, u⟩ := p
    unfold look at h
    by_cases e : a = k
    · rw [if_pos e] at h
      obtain ⟨rfl, rfl⟩ := Prod.mk.inj (Option.some.inj h)
      subst e
      refine ⟨Nat.le_refl _, by simp, fun u' => ?_, ?_⟩
      · simp [ins]
      · simp [del]
    · rw [if_neg e] at h
      obtain ⟨h1, h2, h3, h4⟩ := ih k (i0 + 1) i v h
      have hi : i - i0 = (i - (i0 + 1)) + 1 := by omega
      refine ⟨by omega, by rw [hi]; simpa using h2, fun u' => ?_, ?_⟩
      · rw [hi]; simp [ins, e, h3 u']
      · rw [hi]; simp [del, e, h4]
theorem look_none : ∀ (l : List (κ × Value)) (k : κ) (i0 : Nat), look k l i0 = none → (∀ u, ins k u l = l ++ [(k, u)]) ∧ del k l = l := by
  intro l
  induction l with
  | nil => intro k i0 _; exact ⟨fun u => rfl, rfl⟩
  | cons p r ih =>
    intro k i0 h
    obtain ⟨a, u⟩ := p
    unfold look at h
    by_cases e : a = k
    · rw [if_pos e] at h; cases h
    · rw [if_neg e] at h
      obtain ⟨h1, h2⟩ := ih k (i0 + 1) h
      exact ⟨fun u' => by simp [ins, e, h1 u'], by simp [del, e, h2]⟩
theorem look_get (l : List (κ × Value)) (k : κ) : get k l = (look k l 0).map (·.2) := rfl
/-! ### keys of whole numbers -/
theorem findNow_int {q : IntKind} (k : Int) : ∀ (es : List MapEntry) (l : List (Int × Value)) (i : Nat), es.map pr = l.map (en (Value.int q)) → findNow (.int q) (.int q k) es i = some (look k l i) := by
  intro es
  induction es with
  | nil =>
    intro l i h
    cases l with
    | nil => rfl
    | cons p r => cases h
  | cons e es ih =>
    intro l i h
    cases l with
    | nil => cases h
    | cons p r =>
      obtain ⟨a, v⟩ := p
      simp only [List.map_cons, List.cons.injEq, pr, en, Prod.mk.injEq] at h
      obtain ⟨⟨hk, hv⟩, hr⟩ := h
      unfold findNow look
      rw [hk, hv]
      simp only [sameNow, if_true]
      by_cases c : a = k
      · subst c; simp
      · have : (k == a) = false := by simpa using fun e => c e.symm
        rw [this, if_neg c]
        exact ih r (i + 1) hr
theorem int_key {P : Program} {K : TypeId} {q : IntKind} (h : P.underlying K = some (.int q)) : KeyOk P K (Value.int q) where
  check := fun e k w => by
    show (checkKey e (9999 + 1) K (Value.int q k)).run P w = _
    rw [checkKey]
    simp only [Sem.run_bind, run_underlying h, Result.andThen_ok]
    rfl
  find := fun k es l w he => by
    unfold findKey
    simp only [Sem.run_bind, run_underlying h, Result.andThen_ok, findNow_int k es l 0 he]
    rfl
  stays := fun k w => by
    unfold keyThatStays
    have : sameBits 10000 (Value.int q k) (Value.int q k) = true := by
      show sameBits (9999 + 1) (Value.int q k) (Value.int q k) = true
      simp [sameBits]
    rw [this, if_pos rfl]
    rfl
/-! ### the operations -/
variable {P : Program} {K E T : TypeId} {enc : κ → Value} (HK : KeyOk P K enc) (hT : P.underlying T = some (.map K E))
include HK hT
theorem run_look {z : Value} {w : World} (hz : (zeroValue E).run P w = .ok z w) {b : Nat} {l : List (κ × Value)} (hM : MapOf enc w b l) (k : κ) (ok : Bool) :
    (Instr.lookup T (.map (some b)) (enc k) ok).run P w = .ok (if ok = true then .tuple #[(get k l).getD z, .bool (get k l).isSome] else (get k l).getD z) w := by
  obtain ⟨es, clock, hb, he⟩ := hM
  unfold Instr.lookup
  have hg : (getObj b).run P w = .ok (.map es clock) w := by simp [getObj, Sem.run, hb]
  simp only [Sem.run_bind, run_underlying hT, Result.andThen_ok, hg, Sem.run_pure, HK.check, HK.find k es.toList l w he]
  rw [look_get]
  cases look k l 0 with
  | none => simp only [Sem.run_bind, hz, Result.andThen_ok, Sem.run_pure]; cases ok <;> rfl
  | some p => obtain ⟨i, v⟩ := p; simp only [Sem.run_pure, Result.andThen_ok]; cases ok <;> rfl
end
/-- The world with another object in a block. -/
def setO (w : World) (b : Nat) (o : Obj) : World := { w with heap := w.heap.setIfInBounds b o }
theorem setO_at {w : World} {b : Nat} {x : Obj} (h : w.heap[b]? = some x) (o : Obj) : (setO w b o).heap[b]? = some o := by
  have hl : b < w.heap.size := (Array.getElem?_eq_some_iff.1 h).1
  simp [setO, hl]
theorem setO_grown (w : World) (b : Nat) (o : Obj) : w.grownBy (setO w b o) (some b) :=
  ⟨rfl, rfl, rfl, by simp [setO], fun k hk hne => by
    have : b ≠ k := fun e => hne (by rw [e])
    simp [setO, this]⟩
theorem setO_size (w : World) (b : Nat) (o : Obj) : (setO w b o).heap.size = w.heap.size := by simp [setO]
section
variable {κ : Type} {enc : κ → Value}
theorem MapOf.kept {w w' : World} {b : Nat} {l : List (κ × Value)} (h : MapOf enc w b l) (hb : w'.heap[b]? = w.heap[b]?) : MapOf enc w' b l := by
  obtain ⟨es, cl, h1, h2⟩ := h
  exact ⟨es, cl, hb.trans h1, h2⟩
theorem MapOf.lt {w : World} {b : Nat} {l : List (κ × Value)} (h : MapOf enc w b l) : b < w.heap.size := by
  obtain ⟨es, cl, h1, h2⟩ := h
  exact (Array.getElem?_eq_some_iff.1 h1).1
theorem MapOf.grown {w w' : World} {b : Nat} {l : List (κ × Value)} {row : Option Nat} (h : MapOf enc w b l) (hg : w.grownBy w' row) (hne : some b ≠ row) : MapOf enc w' b l := h.kept (hg.block b h.lt hne)
theorem MapOf.below {w w' : World} {b : Nat} {l : List (κ × Value)} (h : MapOf enc w b l) (hb : Below w.heap.size w w') : MapOf enc w' b l := h.kept (hb.block b h.lt)
theorem MapOf.alloc {w : World} {b : Nat} {l : List (κ × Value)} (h : MapOf enc w b l) (o : Obj) : MapOf enc (w.alloc o) b l := h.grown (World.grownBy_alloc w o none) (by simp)
theorem MapOf.drewN {w : World} {b : Nat} {l : List (κ × Value)} (h : MapOf enc w b l) (n : Nat) : MapOf enc (w.drewN n) b l := h
theorem MapOf.drew {w : World} {b : Nat} {l : List (κ × Value)} (h : MapOf enc w b l) : MapOf enc w.drew b l := h
theorem MapOf.new (w : World) : MapOf enc (w.alloc (.map #[] 0)) w.heap.size [] := ⟨#[], 0, heap_alloc_new w _, rfl⟩
theorem MapOf.size_ {w : World} {b : Nat} {l : List (κ × Value)} (h : MapOf enc w b l) : ∃ es cl, w.heap[b]? = some (.map es cl) ∧ es.size = l.length := by
  obtain ⟨es, cl, h1, h2⟩ := h
  exact ⟨es, cl, h1, by have := congrArg List.length h2; simpa using this⟩
end
section
variable {κ : Type} [DecidableEq κ]
variable {P : Program} {K E T : TypeId} {enc : κ → Value} (HK : KeyOk P K enc) (hT : P.underlying T = some (.map K E))
include HK hT
theorem run_put {w : World} {b : Nat} {l : List (κ × Value)} (hM : MapOf enc w b l) (k : κ) (v : Value) :
    ∃ w', (Instr.mapUpdate T (.map (some b)) (enc k) v).run P w = .ok () w' ∧ MapOf enc w' b (ins k v l) ∧ w.grownBy w' (some b) ∧ w'.heap.size = w.heap.size := by
  obtain ⟨es, clock, hb, he⟩ := hM
  unfold Instr.mapUpdate
  have hg : (getObj b).run P w = .ok (.map es clock) w := by simp [getObj, Sem.run, hb]
  have hs : ∀ o : Obj, (setObj b o).run P w = .ok () (setO w b o) := fun o => by simp [setObj, Sem.run, hb, setO]
  simp only [Sem.run_bind, run_underlying hT, Result.andThen_ok, hg, HK.check, HK.find k es.toList l w he]
  cases hl : look k l 0 with
  | none =>
    obtain ⟨h1, _⟩ := look_none l k 0 hl
    simp only [hs]
    refine ⟨_, rfl, ⟨_, _, setO_at hb _, ?_⟩, setO_grown _ _ _, setO_size _ _ _⟩
    rw [h1 v, Array.toList_push, List.map_append, List.map_append, he]
    rfl
  | some p =>
    obtain ⟨i, u⟩ := p
    obtain ⟨_, h2, h3, _⟩ := look_at l k 0 i u hl
    rw [Nat.sub_zero] at h2 h3
    have hi : i < es.size := by
      have := congrArg List.length he
      have hl2 := (List.getElem?_eq_some_iff.1 h2).1
      simp at this
      omega
    have hk : ((es[i]?).map (·.key)).getD (enc k) = enc k := by
      have e1 : (es.toList.map pr)[i]? = (l.map (en enc))[i]? := by rw [he]
      rw [List.getElem?_map, List.getElem?_map, h2, Array.getElem?_toList, Array.getElem?_eq_getElem hi] at e1
      rw [Array.getElem?_eq_getElem hi]
      simp only [Option.map_some, Option.some.injEq, pr, en, Prod.mk.injEq] at e1
      simp [e1.1]
    simp only [hk, Sem.run_bind, HK.stays, Result.andThen_ok, hs]
    refine ⟨_, rfl, ⟨_, _, setO_at hb _, ?_⟩, setO_grown _ _ _, setO_size _ _ _⟩
    rw [h3 v]
    apply List.ext_getElem?
    intro j
    rw [List.getElem?_map, List.getElem?_map, Array.getElem?_toList, Array.getElem?_modify, List.getElem?_set]
    have ej : (es.toList.map pr)[j]? = (l.map (en enc))[j]? := by rw [he]
    rw [List.getElem?_map, List.getElem?_map, Array.getElem?_toList] at ej
    by_cases e : i = j
    · subst e
      rw [if_pos rfl, if_pos rfl, if_pos (List.getElem?_eq_some_iff.1 h2).1, Array.getElem?_eq_getElem hi]
      rfl
    · rw [if_neg e, if_neg e]; exact ej
theorem run_del {w : World} {b : Nat} {l : List (κ × Value)} (hM : MapOf enc w b l) (k : κ) (ty X : TypeId) :
    ∃ w', (Builtin.delete_ #[T, X] ty #[.map (some b), enc k]).run P w = .ok (.tuple #[]) w' ∧ MapOf enc w' b (del k l) ∧ w.grownBy w' (some b) ∧ w'.heap.size = w.heap.size := by
  obtain ⟨es, clock, hb, he⟩ := hM
  unfold Builtin.delete_
  have hg : (getObj b).run P w = .ok (.map es clock) w := by simp [getObj, Sem.run, hb]
  have hs : ∀ o : Obj, (setObj b o).run P w = .ok () (setO w b o) := fun o => by simp [setObj, Sem.run, hb, setO]
  simp only [List.getElem?_toArray, List.getElem?_cons_zero, List.getElem?_cons_succ, Sem.run_bind, run_underlying hT, Result.andThen_ok, hg, HK.check, HK.find k es.toList l w he]
  cases hl : look k l 0 with
  | none =>
    obtain ⟨_, h1⟩ := look_none l k 0 hl
    simp only [Sem.run_bind, hs, Result.andThen_ok, Sem.run_pure]
    exact ⟨_, rfl, ⟨_, _, setO_at hb _, by rw [h1]; exact he⟩, setO_grown _ _ _, setO_size _ _ _⟩
  | some p =>
    obtain ⟨i, u⟩ := p
    obtain ⟨_, h2, _, h4⟩ := look_at l k 0 i u hl
    rw [Nat.sub_zero] at h2 h4
    have hi : i < es.size := by
      have := congrArg List.length he
      have hl2 := (List.getElem?_eq_some_iff.1 h2).1
      simp at this
      omega
    simp only [Sem.run_bind, hs, Result.andThen_ok, Sem.run_pure]
    refine ⟨_, rfl, ⟨_, _, setO_at hb _, ?_⟩, setO_grown _ _ _, setO_size _ _ _⟩
    rw [h4, Array.eraseIdxIfInBounds, dif_pos hi, Array.toList_eraseIdx, List.eraseIdx_eq_take_drop_succ, List.eraseIdx_eq_take_drop_succ, List.map_append, List.map_append, List.map_take, List.map_take, List.map_drop, List.map_drop, he]
end
/-! ### as steps of a walk -/
section
variable {κ : Type} [DecidableEq κ] {P : Program} {ops : Array Oper} {rest : List Oper} {o : Oper} {a : Act} {Q : Exit → Act → World → Prop} {K E T : TypeId} {enc : κ → Value}
theorem step_look (HK : KeyOk P K enc) (hT : P.underlying T = some (.map K E)) (hgd : o.guard = none) {W : World} {x y : Operand} {ok : Bool} (ho : o.op = .lookup T x y ok) {z : Value} (hz : (zeroValue E).run P W = .ok z W) {b : Nat} {l : List (κ × Value)}
    (hM : MapOf enc W b l) (k : κ) (hx : a.eval x = .map (some b)) (hy : a.eval y = enc k) {v : Value} (hv : (if ok = true then .tuple #[(get k l).getD z, .bool (get k l).isSome] else (get k l).getD z) = v)
    (h : wpList P ops Q rest (a.put o.dst v) W) : wpList P ops Q (o :: rest) a W := by
  refine wpList_plain hgd fun Kc hK => ?_
  have hr : (execOp a.eval o).run P W = .ok (.value v) W := by
    unfold execOp
    simp only [ho, hx, hy, Sem.run_bind, run_look HK hT hz hM k ok, Result.andThen_ok, hv]
    rfl
  unfold Oper.wp
  rw [hr]
  exact hK _ _ h
theorem step_put (HK : KeyOk P K enc) (hT : P.underlying T = some (.map K E)) (hgd : o.guard = none) {W : World} {x y u : Operand} (ho : o.op = .mapUpdate T x y u) {b : Nat} {l : List (κ × Value)}
    (hM : MapOf enc W b l) (k : κ) (v : Value) (hx : a.eval x = .map (some b)) (hy : a.eval y = enc k) (hu : a.eval u = v)
    (h : ∀ w1, MapOf enc w1 b (ins k v l) → W.grownBy w1 (some b) → w1.heap.size = W.heap.size → wpList P ops Q rest (a.put o.dst undef) w1) : wpList P ops Q (o :: rest) a W := by
  refine wpList_plain hgd fun Kc hK => ?_
  obtain ⟨w', h1, h2, h3, h4⟩ := run_put HK hT hM k v
  have hr : (execOp a.eval o).run P W = .ok .skip w' := by
    unfold execOp
    simp only [ho, hx, hy, hu, Sem.run_bind, h1, Result.andThen_ok]
    rfl
  unfold Oper.wp
  rw [hr]
  exact hK _ _ (h w' h2 h3 h4)
theorem step_del (HK : KeyOk P K enc) (hT : P.underlying T = some (.map K E)) (hgd : o.guard = none) {W : World} {x y : Operand} {X : TypeId} (ho : o.op = .call { callee := .builtin .delete, args := #[x, y], argTypes := #[T, X] }) {b : Nat} {l : List (κ × Value)}
    (hM : MapOf enc W b l) (k : κ) (hx : a.eval x = .map (some b)) (hy : a.eval y = enc k)
    (h : ∀ w1, MapOf enc w1 b (del k l) → W.grownBy w1 (some b) → w1.heap.size = W.heap.size → wpList P ops Q rest (a.put o.dst (.tuple #[])) w1) : wpList P ops Q (o :: rest) a W := by
  refine wpList_plain hgd fun Kc hK => ?_
  obtain ⟨w', h1, h2, h3, h4⟩ := run_del HK hT hM k o.type X
  have hr : (execOp a.eval o).run P W = .ok (.value (.tuple #[])) w' := by
    unfold execOp
    simp only [ho]
    simp [resolve, invoke, builtin, hx, hy, h1]
  unfold Oper.wp
  rw [hr]
  exact hK _ _ (h w' h2 h3 h4)
end
end Go.Proofs.Ytkbfijkohngjjaa.Mp
set_option linter.unusedVariables false
set_option linter.unusedSimpArgs false
namespace Go.Proofs.Ytkbfijkohngjjaa.Ef
open Go.RowKit Go.Proofs.Ytkbfijkohngjjaa.Mp Go.Proofs.YtkbfijkohngjjaaW.PrintWords Go.Proofs.YtkbfijkohngjjaaW.PrintLast Go.Proofs.YtkbfijkohngjjaaW.PrintMore
/-- From w to w': below base nothing is changed, and of w's blocks none but those of S. -/
structure Fr (base : Nat) (S : Nat → Prop) (w w' : World) : Prop where
  b : Below base w w'
  k : Kept w w' S
  sz : base ≤ w.heap.size
  sb : ∀ k, S k → base ≤ k
theorem below_up {base : Nat} {w w' : World} (h : Below w.heap.size w w') (hb : base ≤ w.heap.size) : Below base w w' := ⟨h.os, h.tape, h.output, h.size, fun i hi => h.block i (by omega)⟩
theorem below_mput {n : Nat} {w W w1 : World} {b : Nat} (h : Below n w W) (hg : W.grownBy w1 (some b)) (hn : n ≤ b) (hs : n ≤ W.heap.size) : Below n w w1 :=
  ⟨hg.os.trans h.os, hg.tape.trans h.tape, hg.output.trans h.output, Nat.le_trans h.size hg.size, fun i hi => (hg.block i (by omega) (by intro e; cases e; omega)).trans (h.block i hi)⟩
section
variable {base : Nat} {S S2 : Nat → Prop} {w W W2 : World}
theorem Fr.refl (hs : base ≤ w.heap.size) (hS : ∀ k, S k → base ≤ k) : Fr base S w w := ⟨Below.refl _ _, Kept.refl _ _, hs, hS⟩
theorem Fr.size (h : Fr base S w W) : w.heap.size ≤ W.heap.size := h.k.1
theorem Fr.below (h : Fr base S w W) (hb : Below W.heap.size W W2) : Fr base S w W2 := ⟨h.b.trans (below_up hb (Nat.le_trans h.sz h.size)), h.k.below hb, h.sz, h.sb⟩
theorem Fr.drew (h : Fr base S w W) : Fr base S w W.drew := h.below (below_drew (Below.refl _ _))
theorem Fr.drewN (h : Fr base S w W) (n : Nat) : Fr base S w (W.drewN n) := h.below (pw_below_drewN (Below.refl _ _) n)
theorem Fr.alloc (h : Fr base S w W) (o : Obj) : Fr base S w (W.alloc o) := h.below (below_alloc (Below.refl _ _) o)
theorem Fr.grown (h : Fr base S w W) {g : Nat} (hg : W.grownBy W2 (some g)) (hS : S g ∨ w.heap.size ≤ g) : Fr base S w W2 :=
  ⟨below_mput h.b hg (hS.elim (h.sb g) (Nat.le_trans h.sz)) (Nat.le_trans h.sz h.size), Kept.of_grown hg h.k (fun k hk => by cases hk; exact hS), h.sz, h.sb⟩
theorem Fr.grownO (h : Fr base S w W) {row : Option Nat} (hg : W.grownBy W2 row) (hr : ∀ k, row = some k → S k ∨ w.heap.size ≤ k) : Fr base S w W2 := by
  cases row with
  | none => exact h.below ⟨hg.os, hg.tape, hg.output, hg.size, fun k hk => hg.block k hk (by simp)⟩
  | some g => exact h.grown hg (hr g rfl)
theorem Fr.then_ (h : Fr base S w W) {b2 : Nat} (k : Fr b2 S2 W W2) (hb : base ≤ b2) (hs : ∀ k, S2 k → S k ∨ w.heap.size ≤ k) : Fr base S w W2 :=
  ⟨h.b.trans ⟨k.b.os, k.b.tape, k.b.output, k.b.size, fun i hi => k.b.block i (by omega)⟩, h.k.then_ k.k hs, h.sz, h.sb⟩
theorem Fr.mono (h : Fr base S w W) (hs : ∀ k, S k → S2 k) (hb : ∀ k, S2 k → base ≤ k) : Fr base S2 w W := ⟨h.b, h.k.mono hs, h.sz, hb⟩
/-- All that was written is new since. -/
theorem Fr.new (h : Fr base S w W) {w0 : World} (hb : Below w0.heap.size w0 w) (hs : ∀ k, S k → w0.heap.size ≤ k) : Below w0.heap.size w0 W :=
  ⟨h.b.os.trans hb.os, h.b.tape.trans hb.tape, h.b.output.trans hb.output, Nat.le_trans hb.size h.size, fun i hi => (h.k.2 i (Nat.lt_of_lt_of_le hi hb.size) (fun q => by have := hs i q; omega)).trans (hb.block i hi)⟩
theorem Fr.blk (h : Fr base S w W) {g : Nat} {o : Obj} (hb : w.heap[g]? = some o) (hS : ¬ S g) : W.heap[g]? = some o := blk_kept hb h.k hS
end
/-- One cell of a block that is known whole has been written. -/
theorem set_step {W : World} {g : Nat} {e : TypeId} {cur cur' : Array Value} (hb : W.heap[g]? = some (.cells cur e (0, 0))) (j : Nat) (u : Value) (hc : cur.setIfInBounds j u = cur') :
    (W.setCell ⟨g, j, none⟩ u).heap[g]? = some (.cells cur' e (0, 0)) ∧ W.grownBy (W.setCell ⟨g, j, none⟩ u) (some g) :=
  ⟨by rw [blk_set hb j u, hc], ⟨rfl, rfl, rfl, by simp [World.setCell], fun k _ hk => Below.heap_setCell W ⟨g, j, none⟩ u k (fun he => hk (by rw [he]))⟩⟩
section
variable {P : Program} {ops : Array Oper} {rest : List Oper} {o : Oper} {a : Act} {Q : Exit → Act → World → Prop} {W : World}
theorem gate_del {args : Array Operand} {ts : Array TypeId} (_ho : o.op = .call { callee := .builtin .delete, args := args, argTypes := ts }) (h : wpList P ops Q (o :: rest) a W) : wpList P ops Q (o :: rest) a W := h
theorem gate_put {T : TypeId} {x y u : Operand} (_ho : o.op = .mapUpdate T x y u) (h : wpList P ops Q (o :: rest) a W) : wpList P ops Q (o :: rest) a W := h
theorem gate_look {T : TypeId} {x y : Operand} {ok : Bool} (_ho : o.op = .lookup T x y ok) (h : wpList P ops Q (o :: rest) a W) : wpList P ops Q (o :: rest) a W := h
theorem exec_look {κ : Type} [DecidableEq κ] {K E T : TypeId} {enc : κ → Value} (HK : KeyOk P K enc) (hT : P.underlying T = some (.map K E)) {x y : Operand} {ok : Bool} (ho : o.op = .lookup T x y ok) {z : Value} (hz : (zeroValue E).run P W = .ok z W) {b : Nat} {l : List (κ × Value)}
    (hM : MapOf enc W b l) (k : κ) (hx : a.eval x = .map (some b)) (hy : a.eval y = enc k) {v : Value} (hv : (if ok = true then .tuple #[(Mp.get k l).getD z, .bool (Mp.get k l).isSome] else (Mp.get k l).getD z) = v) : (execOp a.eval o).run P W = .ok (.value v) W := by
  unfold execOp
  simp only [ho, hx, hy, Sem.run_bind, run_look HK hT hz hM k ok, Result.andThen_ok, hv]
  rfl
/-- One operation of a still region that only reads. -/
theorem still_value {R : Act → Prop} (hgd : o.guard = none) {v : Value} (hr : (execOp a.eval o).run P W = .ok (.value v) W) (h : wpStill P ops W R rest (a.put o.dst v)) : wpStill P ops W R (o :: rest) a := by
  refine wpStill_step (fun K hK => ?_)
  rw [if_pos (by simp [Region.wanted, hgd])]
  unfold Oper.still
  rw [hr, Oper.stillUpon_value]
  exact hK _ h
/-- A store into a block that is known whole. -/
theorem step_store (hN : o.dst = none) (hgd : o.guard = none) {t : TypeId} {p x : Operand} (ho : o.op = .store t p x) {g off : Nat} {e : TypeId} {cur cur' : Array Value} (hb : W.heap[g]? = some (.cells cur e (0, 0)))
    (haddr : a.eval p = .pointer (some ⟨g, off, none⟩)) {u : Value} {seg : List Value} (hx : a.eval x = u) (hu : u.cells.toList = seg) (ht : (P.info? t).map (·.size) = some seg.length) (h1 : ∀ q ∈ seg, q.oneCell' = true)
    (hfit : off + seg.length ≤ cur.size) (hc : cur'.toList = cur.toList.take off ++ seg ++ cur.toList.drop (off + seg.length))
    (h : ∀ w1, w1.heap[g]? = some (.cells cur' e (0, 0)) → W.grownBy w1 (some g) → w1.heap.size = W.heap.size → wpList P ops Q rest a w1) : wpList P ops Q (o :: rest) a W := by
  obtain ⟨cur2, h3, h4, h5⟩ := setCells_row seg off W cur hb hfit
  obtain ⟨s1, s2, s3, s4⟩ := setCells_same g seg off W
  have e2 : cur2 = cur' := by rw [← Array.toList_inj, h5, hc]
  subst e2
  refine wpList_plain hgd fun K hK => ?_
  have hrun := run_store_run (P := P) t u seg hb hu ht hfit h1
  unfold Oper.wp execOp
  simp only [ho, haddr, hx, Sem.run_bind, Sem.run_pure, Result.andThen_ok, hrun]
  show K (a.put o.dst undef) _
  rw [hN]
  exact hK a _ (h _ h3 ⟨s1, s2, s3, by rw [s4]; exact Nat.le_refl _, fun k _ hk => setCells_far seg off k (fun he => hk (by rw [he]))⟩ s4)
end
end Go.Proofs.Ytkbfijkohngjjaa.Ef
set_option linter.unusedVariables false
set_option linter.unusedSimpArgs false
set_option linter.unusedSectionVars false
namespace Go.Proofs.Ytkbfijkohngjjaa.Mp
open Go.Instr Go.RowKit
section
variable {κ : Type} [DecidableEq κ]
/-- A map whose entries are stamped each by its own number. -/
def MapS (enc : κ → Value) (w : World) (b : Nat) (l : List (κ × Value)) : Prop :=
  ∃ es clock, w.heap[b]? = some (.map es clock) ∧ es.toList.map pr = l.map (en enc) ∧ (∀ x ∈ es.toList, x.born < clock) ∧ (es.toList.map (·.born)).Nodup
/-- An entry has been found (or made), and not yet stored. -/
def Ent (enc : κ → Value) (w : World) (b : Nat) (k : κ) (l : List (κ × Value)) (st : Nat) : Prop :=
  ∃ es clock j e, w.heap[b]? = some (.map es clock) ∧ es[j]? = some e ∧ e.born = st ∧ (∀ v, (es.toList.set j { e with val := v }).map pr = (ins k v l).map (en enc)) ∧ (∀ x ∈ es.toList, x.born < clock) ∧ (es.toList.map (·.born)).Nodup
variable {enc : κ → Value} {w w' : World} {b : Nat} {l : List (κ × Value)}
theorem MapS.of (h : MapS enc w b l) : MapOf enc w b l := by obtain ⟨es, cl, h1, h2, _, _⟩ := h; exact ⟨es, cl, h1, h2⟩
theorem MapS.lt (h : MapS enc w b l) : b < w.heap.size := h.of.lt
theorem MapS.kept (h : MapS enc w b l) (hb : w'.heap[b]? = w.heap[b]?) : MapS enc w' b l := by
  obtain ⟨es, cl, h1, h2⟩ := h
  exact ⟨es, cl, hb.trans h1, h2⟩
theorem MapS.grown {row : Option Nat} (h : MapS enc w b l) (hg : w.grownBy w' row) (hne : some b ≠ row) : MapS enc w' b l := h.kept (hg.block b h.lt hne)
theorem MapS.below (h : MapS enc w b l) (hb : Below w.heap.size w w') : MapS enc w' b l := h.kept (hb.block b h.lt)
theorem MapS.new (w : World) : MapS enc (w.alloc (.map #[] 0)) w.heap.size [] := ⟨#[], 0, heap_alloc_new w _, rfl, by simp, by simp⟩
theorem Ent.kept {k : κ} {st : Nat} (h : Ent enc w b k l st) (hb : w'.heap[b]? = w.heap[b]?) : Ent enc w' b k l st := by
  obtain ⟨es, cl, j, e, h1, h2⟩ := h
  exact ⟨es, cl, j, e, hb.trans h1, h2⟩
theorem Ent.lt {k : κ} {st : Nat} (h : Ent enc w b k l st) : b < w.heap.size := by
  obtain ⟨es, cl, j, e, h1, h2⟩ := h
  exact (Array.getElem?_eq_some_iff.1 h1).1
theorem MapS.size_ (h : MapS enc w b l) : ∃ es cl, w.heap[b]? = some (.map es cl) ∧ es.size = l.length := h.of.size_
theorem modify_set {α : Type} (f : α → α) : ∀ (l : List α) (j : Nat) (a : α), l[j]? = some a → l.modify j f = l.set j (f a)
  | [], _, _, h => by simp at h
  | b :: r, 0, a, h => by simp at h; subst h; rfl
  | b :: r, j + 1, a, h => by simp at h; simp [List.modify_succ_cons, modify_set f r j a h]
theorem born_at {l : List MapEntry} (hn : (l.map (·.born)).Nodup) {j : Nat} {e : MapEntry} (he : l[j]? = some e) : l.findIdx? (fun x => (x.born : Int) == (e.born : Int)) = some j := by
  obtain ⟨hj, rfl⟩ := List.getElem?_eq_some_iff.1 he
  rw [List.findIdx?_eq_some_iff_getElem]
  refine ⟨hj, by simp, fun i hi => ?_⟩
  have h2 := List.pairwise_iff_getElem.1 (List.nodup_iff_pairwise_ne.1 hn) i j (by simp; omega) (by simpa using hj) hi
  simp only [List.getElem_map] at h2
  simp only [beq_eq_false_iff_ne, ne_eq, Bool.not_eq_true]
  intro q
  exact h2 (by omega)
end
section
variable {κ : Type} [DecidableEq κ]
variable {P : Program} {K E T : TypeId} {enc : κ → Value} (HK : KeyOk P K enc) (hT : P.underlying T = some (.map K E))
include HK hT
theorem run_entry {z : Value} {w : World} (hz : (zeroValue E).run P w = .ok z w) {b : Nat} {l : List (κ × Value)} (hM : MapS enc w b l) (k : κ) :
    ∃ v0 st w', (Instr.mapEntry T (.map (some b)) (enc k)).run P w = .ok (.tuple #[v0, .int .i64 (st : Nat)]) w' ∧ Ent enc w' b k l st ∧ w.grownBy w' (some b) ∧ w'.heap.size = w.heap.size := by
  obtain ⟨es, clock, hb, he, hs1, hs2⟩ := hM
  unfold Instr.mapEntry
  have hg : (getObj b).run P w = .ok (.map es clock) w := by simp [getObj, Sem.run, hb]
  have hs : ∀ o : Obj, (setObj b o).run P w = .ok () (setO w b o) := fun o => by simp [setObj, Sem.run, hb, setO]
  simp only [Sem.run_bind, run_underlying hT, Result.andThen_ok, hg, HK.check, HK.find k es.toList l w he]
  cases hl : look k l 0 with
  | none =>
    obtain ⟨h1, _⟩ := look_none l k 0 hl
    simp only [Sem.run_bind, hz, hs, Result.andThen_ok, Sem.run_pure]
    refine ⟨z, clock, _, rfl, ⟨es.push { key := enc k, val := z, born := clock }, clock + 1, es.size, { key := enc k, val := z, born := clock }, setO_at hb _, by simp, rfl, fun v => ?_, ?_, ?_⟩, setO_grown _ _ _, setO_size _ _ _⟩
    · rw [h1 v, Array.toList_push, List.map_append, ← he]
      have : (es.toList ++ [({ key := enc k, val := z, born := clock } : MapEntry)]).set es.size { key := enc k, val := v, born := clock } = es.toList ++ [{ key := enc k, val := v, born := clock }] := by
        rw [List.set_append_right _ _ (by simp)]
        simp
      rw [this, List.map_append]
      rfl
    · intro x hx
      rw [Array.toList_push, List.mem_append] at hx
      rcases hx with hx | hx
      · exact Nat.lt_succ_of_lt (hs1 x hx)
      · rw [List.mem_singleton.1 hx]; exact Nat.lt_succ_self _
    · rw [Array.toList_push, List.map_append, List.nodup_append]
      refine ⟨hs2, by simp, fun a ha c hc e1 => ?_⟩
      obtain ⟨x, hx, rfl⟩ := List.mem_map.1 ha
      simp only [List.map_cons, List.map_nil, List.mem_singleton] at hc
      have := hs1 x hx
      omega
  | some p =>
    obtain ⟨i, u⟩ := p
    obtain ⟨_, h2, h3, _⟩ := look_at l k 0 i u hl
    rw [Nat.sub_zero] at h2 h3
    have hi : i < es.size := by
      have := congrArg List.length he
      have hl2 := (List.getElem?_eq_some_iff.1 h2).1
      simp at this
      omega
    have hk : es[i].key = enc k := by
      have e1 : (es.toList.map pr)[i]? = (l.map (en enc))[i]? := by rw [he]
      rw [List.getElem?_map, List.getElem?_map, h2, Array.getElem?_toList, Array.getElem?_eq_getElem hi] at e1
      simp only [Option.map_some, Option.some.injEq, pr, en, Prod.mk.injEq] at e1
      exact e1.1
    have hk1 : ((es[i]?).map (·.key)).getD (enc k) = enc k := by rw [Array.getElem?_eq_getElem hi]; exact hk
    have hk2 : ((es[i]?).map (fun x => (x.born : Int))).getD 0 = (es[i].born : Int) := by rw [Array.getElem?_eq_getElem hi]; rfl
    simp only [hk1, Sem.run_bind, HK.stays, Result.andThen_ok, hs, Sem.run_pure]
    have hm : (es.modify i fun e => { e with key := enc k }) = es := by
      apply Array.ext'
      rw [Array.toList_modify, modify_set _ _ _ es[i] (by rw [Array.getElem?_toList, Array.getElem?_eq_getElem hi])]
      have : ({ es[i] with key := enc k } : MapEntry) = es[i] := by rw [← hk]
      rw [this]
      have := @List.set_getElem_self _ es.toList i (by simpa using hi)
      simpa using this
    rw [hm]
    refine ⟨u, es[i].born, _, by rw [hk2]; rfl, ⟨es, clock, i, es[i], setO_at hb _, Array.getElem?_eq_getElem hi, rfl, fun v => ?_, hs1, hs2⟩, setO_grown _ _ _, setO_size _ _ _⟩
    rw [h3 v, List.map_set, he, List.map_set]
    show (l.map (en enc)).set i (es[i].key, v) = (l.map (en enc)).set i (enc k, v)
    rw [hk]
omit HK hT in
theorem run_estore {w : World} {b : Nat} {k : κ} {l : List (κ × Value)} {st : Nat} (hM : Ent enc w b k l st) (v : Value) :
    ∃ w', (Instr.entryStore T (.map (some b)) (.int .i64 (st : Nat)) v).run P w = .ok () w' ∧ MapS enc w' b (ins k v l) ∧ w.grownBy w' (some b) ∧ w'.heap.size = w.heap.size := by
  obtain ⟨es, clock, j, e, hb, hj, rfl, hv, hs1, hs2⟩ := hM
  unfold Instr.entryStore
  have hg : (getObj b).run P w = .ok (.map es clock) w := by simp [getObj, Sem.run, hb]
  have hs : ∀ o : Obj, (setObj b o).run P w = .ok () (setO w b o) := fun o => by simp [setObj, Sem.run, hb, setO]
  have hjl : es.toList[j]? = some e := by simpa using hj
  have hidx : es.findIdx? (fun x => (x.born : Int) == (e.born : Int)) = some j := by
    rw [← born_at hs2 hjl]
    cases es
    simp
  have hi : (asInt (.int .i64 (e.born : Int))).run P w = .ok (e.born : Int) w := by simp [asInt, asIntOf]
  simp only [Sem.run_bind, hg, hi, Result.andThen_ok, hidx, hs]
  have hm : (es.modify j fun e => { e with val := v }).toList = es.toList.set j { e with val := v } := by rw [Array.toList_modify, modify_set _ _ _ e hjl]
  refine ⟨_, rfl, ⟨_, _, setO_at hb _, by rw [hm]; exact hv v, ?_, ?_⟩, setO_grown _ _ _, setO_size _ _ _⟩
  · intro x hx
    rw [hm] at hx
    rcases List.mem_or_eq_of_mem_set hx with q | q
    · exact hs1 x q
    · rw [q]; exact hs1 e (List.mem_of_getElem? hjl)
  · rw [hm, List.map_set]
    have : (es.toList.map (·.born)).set j e.born = es.toList.map (·.born) := by
      obtain ⟨h1, h2⟩ := List.getElem?_eq_some_iff.1 hjl
      have := @List.set_getElem_self _ (es.toList.map (·.born)) j (by simpa using h1)
      rw [List.getElem_map, h2] at this
      exact this
    show ((es.toList.map (·.born)).set j e.born).Nodup
    rw [this]
    exact hs2
theorem run_delS {w : World} {b : Nat} {l : List (κ × Value)} (hM : MapS enc w b l) (k : κ) (ty X : TypeId) :
    ∃ w', (Builtin.delete_ #[T, X] ty #[.map (some b), enc k]).run P w = .ok (.tuple #[]) w' ∧ MapS enc w' b (del k l) ∧ w.grownBy w' (some b) ∧ w'.heap.size = w.heap.size := by
  obtain ⟨es, clock, hb, he, hs1, hs2⟩ := hM
  unfold Builtin.delete_
  have hg : (getObj b).run P w = .ok (.map es clock) w := by simp [getObj, Sem.run, hb]
  have hs : ∀ o : Obj, (setObj b o).run P w = .ok () (setO w b o) := fun o => by simp [setObj, Sem.run, hb, setO]
  simp only [List.getElem?_toArray, List.getElem?_cons_zero, List.getElem?_cons_succ, Sem.run_bind, run_underlying hT, Result.andThen_ok, hg, HK.check, HK.find k es.toList l w he]
  cases hl : look k l 0 with
  | none =>
    obtain ⟨_, h1⟩ := look_none l k 0 hl
    simp only [Sem.run_bind, hs, Result.andThen_ok, Sem.run_pure]
    exact ⟨_, rfl, ⟨_, _, setO_at hb _, by rw [h1]; exact he, hs1, hs2⟩, setO_grown _ _ _, setO_size _ _ _⟩
  | some p =>
    obtain ⟨i, u⟩ := p
    obtain ⟨_, h2, _, h4⟩ := look_at l k 0 i u hl
    rw [Nat.sub_zero] at h2 h4
    have hi : i < es.size := by
      have := congrArg List.length he
      have hl2 := (List.getElem?_eq_some_iff.1 h2).1
      simp at this
      omega
    simp only [Sem.run_bind, hs, Result.andThen_ok, Sem.run_pure]
    have hm : (es.eraseIdxIfInBounds i).toList = es.toList.eraseIdx i := by rw [Array.eraseIdxIfInBounds, dif_pos hi, Array.toList_eraseIdx]
    refine ⟨_, rfl, ⟨_, _, setO_at hb _, ?_, ?_, ?_⟩, setO_grown _ _ _, setO_size _ _ _⟩
    · rw [h4, hm, List.eraseIdx_eq_take_drop_succ, List.eraseIdx_eq_take_drop_succ, List.map_append, List.map_append, List.map_take, List.map_take, List.map_drop, List.map_drop, he]
    · intro x hx
      rw [hm] at hx
      exact hs1 x (List.mem_of_mem_eraseIdx hx)
    · rw [hm]
      exact hs2.sublist ((List.eraseIdx_sublist _ _).map _)
end
/-! ### as steps of a walk -/
section
variable {κ : Type} [DecidableEq κ] {P : Program} {ops : Array Oper} {rest : List Oper} {o : Oper} {a : Act} {Q : Exit → Act → World → Prop} {K E T : TypeId} {enc : κ → Value} {W : World}
theorem gate_entry {T : TypeId} {x y : Operand} (_ho : o.op = .mapEntry T x y) (h : wpList P ops Q (o :: rest) a W) : wpList P ops Q (o :: rest) a W := h
theorem gate_estore {T : TypeId} {x y u : Operand} (_ho : o.op = .entryStore T x y u) (h : wpList P ops Q (o :: rest) a W) : wpList P ops Q (o :: rest) a W := h
theorem step_entry (HK : KeyOk P K enc) (hT : P.underlying T = some (.map K E)) (hgd : o.guard = none) {x y : Operand} (ho : o.op = .mapEntry T x y) {z : Value} (hz : (zeroValue E).run P W = .ok z W) {b : Nat} {l : List (κ × Value)}
    (hM : MapS enc W b l) (k : κ) (hx : a.eval x = .map (some b)) (hy : a.eval y = enc k)
    (h : ∀ (v0 : Value) (st : Nat) w1, Ent enc w1 b k l st → W.grownBy w1 (some b) → w1.heap.size = W.heap.size → wpList P ops Q rest (a.put o.dst (.tuple #[v0, .int .i64 (st : Nat)])) w1) : wpList P ops Q (o :: rest) a W := by
  refine wpList_plain hgd fun Kc hK => ?_
  obtain ⟨v0, st, w', h1, h2, h3, h4⟩ := run_entry HK hT hz hM k
  have hr : (execOp a.eval o).run P W = .ok (.value (.tuple #[v0, .int .i64 (st : Nat)])) w' := by
    unfold execOp
    simp only [ho, hx, hy, Sem.run_bind, h1, Result.andThen_ok]
    rfl
  unfold Oper.wp
  rw [hr]
  exact hK _ _ (h v0 st w' h2 h3 h4)
theorem step_estore (hgd : o.guard = none) {x y u : Operand} (ho : o.op = .entryStore T x y u) {b : Nat} {k : κ} {l : List (κ × Value)} {st : Nat}
    (hM : Ent enc W b k l st) (v : Value) (hx : a.eval x = .map (some b)) (hy : a.eval y = .int .i64 (st : Nat)) (hu : a.eval u = v)
    (h : ∀ w1, MapS enc w1 b (ins k v l) → W.grownBy w1 (some b) → w1.heap.size = W.heap.size → wpList P ops Q rest (a.put o.dst undef) w1) : wpList P ops Q (o :: rest) a W := by
  refine wpList_plain hgd fun Kc hK => ?_
  obtain ⟨w', h1, h2, h3, h4⟩ := run_estore (P := P) (T := T) hM v
  have hr : (execOp a.eval o).run P W = .ok .skip w' := by
    unfold execOp
    simp only [ho, hx, hy, hu, Sem.run_bind, h1, Result.andThen_ok]
    rfl
  unfold Oper.wp
  rw [hr]
  exact hK _ _ (h w' h2 h3 h4)
theorem step_delS (HK : KeyOk P K enc) (hT : P.underlying T = some (.map K E)) (hgd : o.guard = none) {x y : Operand} {X : TypeId} (ho : o.op = .call { callee := .builtin .delete, args := #[x, y], argTypes := #[T, X] }) {b : Nat} {l : List (κ × Value)}
    (hM : MapS enc W b l) (k : κ) (hx : a.eval x = .map (some b)) (hy : a.eval y = enc k)
    (h : ∀ w1, MapS enc w1 b (del k l) → W.grownBy w1 (some b) → w1.heap.size = W.heap.size → wpList P ops Q rest (a.put o.dst (.tuple #[])) w1) : wpList P ops Q (o :: rest) a W := by
  refine wpList_plain hgd fun Kc hK => ?_
  obtain ⟨w', h1, h2, h3, h4⟩ := run_delS HK hT hM k o.type X
  have hr : (execOp a.eval o).run P W = .ok (.value (.tuple #[])) w' := by
    unfold execOp
    simp only [ho]
    simp [resolve, invoke, builtin, hx, hy, h1]
  unfold Oper.wp
  rw [hr]
  exact hK _ _ (h w' h2 h3 h4)
end
/-! ### keys that are structs of two whole numbers -/
def enc2 (k : Int × Int) : Value := .agg #[.int .i64 k.1, .int .i64 k.2]
theorem asking2 {P : Program} {K : TypeId} (heq : ∀ (a b : Int × Int) (w : World), (Op.equal K (enc2 a) (enc2 b)).run P w = .ok (decide (a = b)) w) (k : Int × Int) (w : World) :
    ∀ (es : List MapEntry) (l : List ((Int × Int) × Value)) (i : Nat), es.map pr = l.map (en enc2) → (findAsking K (enc2 k) es i).run P w = .ok (look k l i) w := by
  intro es
  induction es with
  | nil =>
    intro l i h
    cases l with
    | nil => unfold findAsking; rfl
    | cons p r => cases h
  | cons e es ih =>
    intro l i h
    cases l with
    | nil => cases h
    | cons p r =>
      obtain ⟨a, v⟩ := p
      simp only [List.map_cons, List.cons.injEq, pr, en, Prod.mk.injEq] at h
      obtain ⟨⟨hk, hv⟩, hr⟩ := h
      unfold findAsking look
      simp only [Sem.run_bind, hk, heq, Result.andThen_ok, hv]
      by_cases c : a = k
      · subst c; simp
      · have c' : ¬ k = a := fun e => c e.symm
        rw [if_neg c]
        simp only [decide_eq_true_eq, c', if_false]
        exact ih r (i + 1) hr
theorem key2 {P : Program} {K : TypeId} {fs : Array Field} (hu : P.underlying K = some (.struct fs)) (hc : ∀ (e : Bool) (k : Int × Int) (w : World), (checkKey e 10000 K (enc2 k)).run P w = .ok () w)
    (heq : ∀ (a b : Int × Int) (w : World), (Op.equal K (enc2 a) (enc2 b)).run P w = .ok (decide (a = b)) w) : KeyOk P K enc2 where
  check := hc
  find := fun k es l w he => by
    unfold findKey
    simp only [Sem.run_bind, run_underlying hu, Result.andThen_ok]
    cases es with
    | nil =>
      cases l with
      | nil => rfl
      | cons p r => cases he
    | cons e es =>
      have : findNow (.struct fs) (enc2 k) (e :: es) 0 = none := by
        unfold findNow
        have : sameNow (.struct fs) (enc2 k) e.key = none := rfl
        rw [this]
      simp only [this]
      exact asking2 heq k w (e :: es) l 0 he
  stays := fun k w => by
    unfold keyThatStays
    have : sameBits 10000 (enc2 k) (enc2 k) = true := by
      show sameBits (9998 + 1 + 1) (enc2 k) (enc2 k) = true
      simp [sameBits, enc2]
    rw [this, if_pos rfl]
    rfl
end Go.Proofs.Ytkbfijkohngjjaa.Mp
set_option linter.unusedVariables false
set_option linter.unusedSimpArgs false
set_option linter.unusedSectionVars false
namespace Go.Proofs.Ytkbfijkohngjjaa.Mp
open Go.Instr Go.RowKit
open Go.ChangeMaps (setBlock)
section
variable {κ : Type} [DecidableEq κ]
/-- Block r goes over the map in block b, which holds l; whatever has come is one of D's. -/
def Going (enc : κ → Value) (w : World) (b r : Nat) (l : List (κ × Value)) (D : κ → Prop) : Prop :=
  ∃ es clock seen c0, w.heap[b]? = some (.map es clock) ∧ es.toList.map pr = l.map (en enc) ∧ (∀ x ∈ es.toList, x.born < clock) ∧ (es.toList.map (·.born)).Nodup ∧
    w.heap[r]? = some (.mapIter (some b) clock seen c0) ∧ clock ≤ c0 ∧ (∀ (i : Nat) (e : MapEntry) (p : κ × Value), es.toList[i]? = some e → l[i]? = some p → seen.contains e.born = true → D p.1)
variable {enc : κ → Value} {w w' : World} {b r : Nat} {l : List (κ × Value)} {D : κ → Prop}
theorem Going.lt (h : Going enc w b r l D) : b < w.heap.size ∧ r < w.heap.size ∧ b ≠ r := by
  obtain ⟨es, clock, seen, c0, h1, h2, h3, h4, h5, h6⟩ := h
  refine ⟨(Array.getElem?_eq_some_iff.1 h1).1, (Array.getElem?_eq_some_iff.1 h5).1, fun e => ?_⟩
  rw [e, h5] at h1
  cases h1
theorem Going.kept (h : Going enc w b r l D) (h1 : w'.heap[b]? = w.heap[b]?) (h2 : w'.heap[r]? = w.heap[r]?) : Going enc w' b r l D := by
  obtain ⟨es, clock, seen, c0, k1, k2, k3, k4, k5, k6⟩ := h
  exact ⟨es, clock, seen, c0, h1.trans k1, k2, k3, k4, h2.trans k5, k6⟩
theorem Going.grown {row : Option Nat} (h : Going enc w b r l D) (hg : w.grownBy w' row) (h1 : some b ≠ row) (h2 : some r ≠ row) : Going enc w' b r l D := h.kept (hg.block b h.lt.1 h1) (hg.block r h.lt.2.1 h2)
theorem Going.below (h : Going enc w b r l D) (hb : Below w.heap.size w w') : Going enc w' b r l D := h.kept (hb.block b h.lt.1) (hb.block r h.lt.2.1)
theorem Going.left (h : Going enc w b r l D) (h2 : Going enc w' b r l D) (e1 : w'.heap[b]? = w.heap[b]?) (e2 : w'.heap[r]? = w.heap[r]?) : w'.rangeLeft b r = w.rangeLeft b r := by
  unfold World.rangeLeft
  rw [e1, e2]
theorem left_kept (h : Going enc w b r l D) (hb : Below w.heap.size w w') : w'.rangeLeft b r = w.rangeLeft b r := by
  unfold World.rangeLeft
  rw [hb.block b h.lt.1, hb.block r h.lt.2.1]
theorem left_grown {row : Option Nat} (h : Going enc w b r l D) (hg : w.grownBy w' row) (h1 : some b ≠ row) (h2 : some r ≠ row) : w'.rangeLeft b r = w.rangeLeft b r := by
  unfold World.rangeLeft
  rw [hg.block b h.lt.1 h1, hg.block r h.lt.2.1 h2]
theorem Going.begin {P : Program} {T K E : TypeId} (hT : P.underlying T = some (.map K E)) (hM : MapS enc w b l) :
    ∃ w', (Instr.range T (.map (some b))).run P w = .ok (.pointer (some ⟨w.heap.size, 0, none⟩)) w' ∧ Going enc w' b w.heap.size l (fun _ => False) ∧ w'.heap.size = w.heap.size + 1 ∧ w.grownBy w' none := by
  obtain ⟨es, clock, hb, he, hs1, hs2⟩ := hM
  have hlt : b < w.heap.size := (Array.getElem?_eq_some_iff.1 hb).1
  refine ⟨_, run_range_map w T K E b es clock hT hb, ⟨es, clock, #[], clock, (heap_alloc_old w _ hlt).trans hb, he, hs1, hs2, heap_alloc_new w _, Nat.le_refl _, fun i e p _ _ h => by simp at h⟩, Array.size_push _, World.grownBy_alloc w _ none⟩
theorem entry_at {es : Array MapEntry} (he : es.toList.map pr = l.map (en enc)) {e : MapEntry} (hm : e ∈ es.toList) : ∃ (i : Nat) (p : κ × Value), es.toList[i]? = some e ∧ l[i]? = some p ∧ e.key = enc p.1 ∧ e.val = p.2 ∧ p ∈ l := by
  obtain ⟨i, hi, rfl⟩ := List.getElem_of_mem hm
  have hl : i < l.length := by have := congrArg List.length he; simp at this; simpa [this] using hi
  have h1 : (es.toList.map pr)[i]? = (l.map (en enc))[i]? := by rw [he]
  rw [List.getElem?_map, List.getElem?_map, List.getElem?_eq_getElem hi, List.getElem?_eq_getElem hl] at h1
  simp only [Option.map_some, Option.some.injEq, pr, en, Prod.mk.injEq] at h1
  exact ⟨i, l[i], List.getElem?_eq_getElem hi, List.getElem?_eq_getElem hl, h1.1, h1.2, List.getElem_mem hl⟩
theorem Going.next {P : Program} (h : Going enc w b r l D) (ty : TypeId) :
    ((∀ p ∈ l, D p.1) ∧ (Instr.next (.pointer (some ⟨r, 0, none⟩)) false ty).run P w = .ok (.tuple #[.bool false]) w) ∨
    ∃ (p : κ × Value) (w' : World), p ∈ l ∧ (Instr.next (.pointer (some ⟨r, 0, none⟩)) false ty).run P w = .ok (.tuple #[.bool true, enc p.1, p.2]) w' ∧ Going enc w' b r l (fun k => D k ∨ k = p.1) ∧ w'.rangeLeft b r < w.rangeLeft b r ∧
      w.grownBy w' (some r) ∧ w'.heap.size = w.heap.size ∧ (Instr.entry (.pointer (some ⟨r, 0, none⟩))).run P w' = .ok (.tuple #[enc p.1, p.2]) w' := by
  have hlt := h.lt
  obtain ⟨es, clock, seen, c0, hb, he, hs1, hs2, hr, hc, hD⟩ := h
  rcases run_next_at (P := P) w ty r b clock c0 seen es clock hr hb hs1 hc with ⟨h0, hrun⟩ | ⟨e, hel, w1, hw1, hrun⟩
  · left
    refine ⟨fun p hp => ?_, hrun⟩
    obtain ⟨i, hi, rfl⟩ := List.getElem_of_mem hp
    have hi2 : i < es.toList.length := by have := congrArg List.length he; simp at this; simpa [this] using hi
    exact hD i es.toList[i] l[i] (List.getElem?_eq_getElem hi2) (List.getElem?_eq_getElem hi) (all_seen es seen h0 _ (List.getElem_mem hi2))
  · right
    obtain ⟨hem, hns⟩ := mem_left hel
    obtain ⟨i, p, hi, hpi, hk, hv, hpl⟩ := entry_at he hem
    have hw1h : w1.heap = w.heap := by rcases hw1 with rfl | rfl <;> rfl
    have hbr : b ≠ r := hlt.2.2
    have hB : (setBlock w1 r (.mapIter (some b) clock (seen.push e.born) clock)).heap[b]? = some (.map es clock) := by
      simp only [setBlock, hw1h, Array.getElem?_setIfInBounds_ne hbr.symm]
      exact hb
    have hR : (setBlock w1 r (.mapIter (some b) clock (seen.push e.born) clock)).heap[r]? = some (.mapIter (some b) clock (seen.push e.born) clock) := by
      simp only [setBlock, hw1h]
      exact Array.getElem?_setIfInBounds_self_of_lt hlt.2.1
    refine ⟨p, _, hpl, by rw [hrun, hk, hv], ⟨es, clock, seen.push e.born, clock, hB, he, hs1, hs2, hR, Nat.le_refl _, fun j e' p' hj hpj hs => ?_⟩, ?_, ?_, ?_, ?_⟩
    · rw [contains_push, Bool.or_eq_true] at hs
      rcases hs with hs | hs
      · exact .inl (hD j e' p' hj hpj hs)
      · right
        have hbn : e'.born = e.born := by simpa using hs
        have hj1 := (List.getElem?_eq_some_iff.1 hj).1
        have hi1 := (List.getElem?_eq_some_iff.1 hi).1
        have hij : j = i := by
          have h1 := (List.getElem?_eq_some_iff.1 hj).2
          have h2 := (List.getElem?_eq_some_iff.1 hi).2
          rw [← h1, ← h2] at hbn
          have hl1 : j < (es.toList.map (·.born)).length := by simpa using hj1
          have hl2 : i < (es.toList.map (·.born)).length := by simpa using hi1
          have h3 : (es.toList.map (·.born))[j] = (es.toList.map (·.born))[i] := by rw [List.getElem_map, List.getElem_map]; exact hbn
          exact (List.getElem_inj hs2).1 h3
        rw [hij, hpi] at hpj
        rw [Option.some.inj hpj]
    · simp only [World.rangeLeft, hB, hR, hb, hr]
      exact left_shrinks es seen e hel
    · refine ⟨?_, ?_, ?_, ?_, fun k hk2 hne => ?_⟩
      · rcases hw1 with rfl | rfl <;> rfl
      · rcases hw1 with rfl | rfl <;> rfl
      · rcases hw1 with rfl | rfl <;> rfl
      · simp [setBlock, hw1h]
      · simp only [setBlock, hw1h]
        exact Array.getElem?_setIfInBounds_ne (fun e1 => hne (by rw [e1]))
    · simp [setBlock, hw1h]
    · rw [← hk, ← hv]
      exact run_entry_at _ r b clock seen es clock e hR hB hem hs2
end
section
variable {κ : Type} [DecidableEq κ] {P : Program} {w : World} {ops : Array Oper} {rest : List Oper} {o : Oper} {a : Act} {Q : Exit → Act → World → Prop} {enc : κ → Value}
/-- 'range m'. -/
theorem step_range (hg : o.guard = none) (m : Operand) (T : TypeId) (hop : o.op = Op.range T m) {K E : TypeId} (hT : P.underlying T = some (.map K E)) {b : Nat} {l : List (κ × Value)} (hm : a.eval m = .map (some b)) (hM : MapS enc w b l)
    (hK : ∀ w', Going enc w' b w.heap.size l (fun _ => False) → w.grownBy w' none → w'.heap.size = w.heap.size + 1 → wpList P ops Q rest (a.put o.dst (.pointer (some ⟨w.heap.size, 0, none⟩))) w') :
    wpList P ops Q (o :: rest) a w := by
  refine wpList_plain hg fun K' hK' => ?_
  obtain ⟨w', hrun, r1, r2, r3⟩ := Going.begin (P := P) hT hM
  unfold Oper.wp
  simp [execOp, hop, hm, hrun, Result.andThen]
  exact hK' _ _ (hK w' r1 r3 r2)
/-- The step. -/
theorem step_next (hg : o.guard = none) (it : Operand) (hop : o.op = Op.next it false) {b r : Nat} {l : List (κ × Value)} {D : κ → Prop} (hit : a.eval it = .pointer (some ⟨r, 0, none⟩)) (h : Going enc w b r l D)
    (hDone : (∀ p ∈ l, D p.1) → wpList P ops Q rest (a.put o.dst (.tuple #[.bool false])) w)
    (hMore : ∀ (p : κ × Value) (w' : World), p ∈ l → Going enc w' b r l (fun k => D k ∨ k = p.1) → w'.rangeLeft b r < w.rangeLeft b r → w.grownBy w' (some r) → w'.heap.size = w.heap.size → (Instr.entry (.pointer (some ⟨r, 0, none⟩))).run P w' = .ok (.tuple #[enc p.1, p.2]) w' → wpList P ops Q rest (a.put o.dst (.tuple #[.bool true, enc p.1, p.2])) w') :
    wpList P ops Q (o :: rest) a w := by
  refine wpList_plain hg fun K' hK' => ?_
  unfold Oper.wp
  rcases h.next (P := P) o.type with ⟨hl, hrun⟩ | ⟨p, w', hp, hrun, hrg, hlt, hgr, hsz, hen⟩
  · simp [execOp, hop, hit, hrun, Result.andThen]
    exact hK' _ _ (hDone hl)
  · simp [execOp, hop, hit, hrun, Result.andThen]
    exact hK' _ _ (hMore p w' hp hrg hlt hgr hsz hen)
end
end Go.Proofs.Ytkbfijkohngjjaa.Mp
set_option linter.unusedVariables false
set_option linter.unusedSimpArgs false
namespace Go.Proofs.Ytkbfijkohngjjaa.Od
open Go.RowKit Go.Proofs.Ytkbfijkohngjjaa.QOrder Go.Proofs.YtkbfijkohngjjaaW.PrintWords Go.Proofs.YtkbfijkohngjjaaW.PrintLast Go.Proofs.YtkbfijkohngjjaaW.PrintMore
/-- The i-th event. -/
def E (l : List S36) (i : Nat) : S36 := l.getD i z36
theorem E_at {l : List S36} {i : Nat} (h : i < l.length) : E l i = l[i] := by simp [E, List.getD_eq_getElem?_getD, h]
def nob (g : S34) : Bool := g.f0 == 0 && g.f1 == 0
def samG (g h : S34) : Bool := g.f0 == h.f0 && g.f1 == h.f1
theorem samG_iff {g h : S34} : samG g h = true ↔ g = h := by
  cases g; cases h
  simp [samG]
theorem nob_iff {g : S34} : nob g = true ↔ g = ⟨0, 0⟩ := by
  cases g
  simp [nob]
/-- The last of the first n that p holds of. -/
def lastN (p : Nat → Bool) : Nat → Option Nat
  | 0 => none
  | n + 1 => if p n = true then some n else lastN p n
/-- The first of the first n that p holds of. -/
def firstN (p : Nat → Bool) : Nat → Option Nat
  | 0 => none
  | n + 1 => match firstN p n with
    | some s => some s
    | none => if p n = true then some n else none
theorem lastN_some {p : Nat → Bool} : ∀ {n k : Nat}, lastN p n = some k → k < n ∧ p k = true ∧ ∀ j, k < j → j < n → p j = false
  | 0, k, h => by cases h
  | n + 1, k, h => by
    unfold lastN at h
    by_cases c : p n = true
    · rw [if_pos c] at h
      cases h
      exact ⟨Nat.lt_succ_self _, c, fun j h1 h2 => by omega⟩
    · rw [if_neg c] at h
      obtain ⟨h1, h2, h3⟩ := lastN_some h
      refine ⟨by omega, h2, fun j h4 h5 => ?_⟩
      by_cases e : j = n
      · subst e; simpa using c
      · exact h3 j h4 (by omega)
theorem lastN_none {p : Nat → Bool} : ∀ {n : Nat}, lastN p n = none → ∀ j, j < n → p j = false
  | 0, _, j, hj => by omega
  | n + 1, h, j, hj => by
    unfold lastN at h
    by_cases c : p n = true
    · rw [if_pos c] at h; cases h
    · rw [if_neg c] at h
      by_cases e : j = n
      · subst e; simpa using c
      · exact lastN_none h j (by omega)
theorem firstN_some {p : Nat → Bool} : ∀ {n k : Nat}, firstN p n = some k → k < n ∧ p k = true ∧ ∀ j, j < k → p j = false
  | 0, k, h => by cases h
  | n + 1, k, h => by
    unfold firstN at h
    cases hf : firstN p n with
    | some s =>
      rw [hf] at h
      cases h
      obtain ⟨h1, h2, h3⟩ := firstN_some hf
      exact ⟨by omega, h2, h3⟩
    | none =>
      rw [hf] at h
      simp only [] at h
      by_cases c : p n = true
      · rw [if_pos c] at h
        cases h
        exact ⟨Nat.lt_succ_self _, c, fun j hj => firstN_none hf j hj⟩
      · rw [if_neg c] at h; cases h
where
  firstN_none {p : Nat → Bool} : ∀ {n : Nat}, firstN p n = none → ∀ j, j < n → p j = false
    | 0, _, j, hj => by omega
    | n + 1, h, j, hj => by
      unfold firstN at h
      cases hf : firstN p n with
      | some s => rw [hf] at h; cases h
      | none =>
        rw [hf] at h
        simp only [] at h
        by_cases c : p n = true
        · rw [if_pos c] at h; cases h
        · by_cases e : j = n
          · subst e; simpa using c
          · exact firstN_none hf j (by omega)
theorem firstN_none {p : Nat → Bool} {n : Nat} (h : firstN p n = none) : ∀ j, j < n → p j = false := firstN_some.firstN_none h
theorem lastN_iff {p : Nat → Bool} {n k : Nat} : lastN p n = some k ↔ k < n ∧ p k = true ∧ ∀ j, k < j → j < n → p j = false := by
  refine ⟨lastN_some, fun ⟨h1, h2, h3⟩ => ?_⟩
  cases h : lastN p n with
  | none => have := lastN_none h k h1; rw [h2] at this; cases this
  | some q =>
    obtain ⟨q1, q2, q3⟩ := lastN_some h
    rcases Nat.lt_trichotomy q k with c | c | c
    · have := q3 k c h1; rw [h2] at this; cases this
    · rw [c]
    · have := h3 q c q1; rw [q2] at this; cases this
theorem firstN_iff {p : Nat → Bool} {n k : Nat} : firstN p n = some k ↔ k < n ∧ p k = true ∧ ∀ j, j < k → p j = false := by
  refine ⟨firstN_some, fun ⟨h1, h2, h3⟩ => ?_⟩
  cases h : firstN p n with
  | none => have := firstN_none h k h1; rw [h2] at this; cases this
  | some q =>
    obtain ⟨q1, q2, q3⟩ := firstN_some h
    rcases Nat.lt_trichotomy q k with c | c | c
    · have := h3 q c; rw [q2] at this; cases this
    · rw [c]
    · have := q3 k c; rw [h2] at this; cases this
/-- The event ahead of one, of the same goroutine. -/
def aheadN (l : List S36) (i : Nat) : Option Nat := if nob (E l i).f2 = true then none else lastN (fun k => samG (E l k).f2 (E l i).f2) i
def oi (o : Option Nat) : Int := match o with | some k => (k : Int) | none => -1
def ahead (l : List S36) (i : Nat) : Int := oi (aheadN l i)
theorem ahead_lt {l : List S36} {i : Nat} : ahead l i < (i : Int) := by
  unfold ahead aheadN
  by_cases c : nob (E l i).f2 = true
  · rw [if_pos c]; show (-1 : Int) < _; omega
  · rw [if_neg c]
    cases h : lastN (fun k => samG (E l k).f2 (E l i).f2) i with
    | none => show (-1 : Int) < _; omega
    | some k => have := (lastN_some h).1; show (k : Int) < _; omega
theorem ahead_ge {l : List S36} {i : Nat} : -1 ≤ ahead l i := by
  unfold ahead
  cases aheadN l i with
  | none => exact Int.le_refl _
  | some k => show (-1 : Int) ≤ (k : Int); omega
/-- What a send or a receive begins with. -/
def origin (l : List S36) (i : Nat) : Int := if 0 ≤ ahead l i ∧ (E l (ahead l i).toNat).f3 = 18 then ahead l (ahead l i).toNat else ahead l i
def isK (l : List S36) (kind a b : Int) (i : Nat) : Bool := (E l i).f3 == kind && (E l i).f4 == a && (E l i).f5 == b
/-- The place of the first event among n of a kind, a channel and a number from 1 on. -/
def place (l : List S36) (n : Nat) (kind : Int) (k : Int × Int) : Option Nat := if 1 ≤ k.2 then firstN (isK l kind k.1 k.2) n else none
def isO (l : List S36) (kind a : Int) (i : Nat) : Bool := (E l i).f3 == kind && (E l i).f4 == a
/-- The places of the events among n of a kind and an object. -/
def idx (l : List S36) (n : Nat) (kind a : Int) : List Nat := (List.range n).filter (isO l kind a)
theorem idx_succ (l : List S36) (n : Nat) (kind a : Int) : idx l (n + 1) kind a = if isO l kind a n = true then idx l n kind a ++ [n] else idx l n kind a := by
  unfold idx
  rw [List.range_succ, List.filter_append]
  by_cases c : isO l kind a n = true
  · simp [c]
  · simp [c]
theorem place_succ (l : List S36) (n : Nat) (kind : Int) (k : Int × Int) : place l (n + 1) kind k = match place l n kind k with
    | some s => some s
    | none => if 1 ≤ k.2 ∧ isK l kind k.1 k.2 n = true then some n else none := by
  unfold place
  by_cases c : 1 ≤ k.2
  · simp only [if_pos c, firstN]
    cases firstN (isK l kind k.1 k.2) n <;> simp [c]
  · simp [c]
/-- What read alone finds wrong. -/
def readWrong (l : List S36) (i : Nat) : Bool :=
  ((E l i).f3 == 16 && (decide ((E l i).f5 < 1) || (place l i 16 ((E l i).f4, (E l i).f5)).isSome)) ||
  ((E l i).f3 == 17 && (decide ((E l i).f5 < 0) || (decide (0 < (E l i).f5) && (place l i 17 ((E l i).f4, (E l i).f5)).isSome)))
def cap (caps : List Int) (ch : Int) : Int := if ch < 1 ∨ (caps.length : Int) < ch then 0 else max (caps.getD (ch - 1).toNat 0) 0
/-- A set of proposed arrows: from, to, why; one that does not lead on makes its end wrong. -/
abbrev Props := Int → Nat → Int → Prop
def P0 (l : List S36) : Props := fun f t w => readWrong l t = true ∧ f = (l.length : Int) ∧ w = 0
def flowP (l : List S36) (caps : List Int) : Props := fun f t w =>
  ((E l t).f3 = 17 ∧ readWrong l t = false ∧ (E l t).f5 ≠ 0 ∧ (match place l l.length 16 ((E l t).f4, (E l t).f5) with
    | some s => f = origin l s ∧ w = 2
    | none => f = (l.length : Int) ∧ w = 0)) ∨
  ((E l t).f3 = 16 ∧ readWrong l t = false ∧ cap caps (E l t).f4 < (E l t).f5 ∧ (match place l l.length 17 ((E l t).f4, wrap64 ((E l t).f5 - cap caps (E l t).f4)) with
    | some r => f = origin l r ∧ w = 3
    | none => False))
def acqP (l : List S36) : Props := fun f t w => (E l t).f3 = 26 ∧ (match (idx l l.length 27 (E l t).f4)[(idx l t 26 (E l t).f4).length]? with
    | some s => f = (s : Int) ∧ w = 8
    | none => f = (l.length : Int) ∧ w = 0)
def handle (g : S34) : Int := wrap64 (g.f0 + wrap64 (g.f1 * 4294967296))
/-- Why an arrow leads from an event to a later one, of the kinds that need no counting. -/
def leads (e f : S36) (w : Int) : Prop :=
  (f.f3 = 17 ∧ f.f5 = 0 ∧ e.f3 = 19 ∧ e.f4 = f.f4 ∧ w = 4) ∨
  (f.f3 = 20 ∧ (f.f5 = 0 ∨ (f.f5 = 1 ∧ e.f5 = 0)) ∧ e.f3 = 21 ∧ e.f4 = f.f4 ∧ w = 5) ∨
  (f.f3 = 25 ∧ e.f3 = 21 ∧ e.f4 = f.f5 ∧ w = 5) ∨
  (f.f3 = 23 ∧ e.f3 = 22 ∧ e.f4 = f.f4 ∧ e.f5 < 0 ∧ w = 7) ∨
  ((f.f3 = 30 ∨ f.f3 = 31 ∨ f.f3 = 32) ∧ (e.f3 = 30 ∨ e.f3 = 32) ∧ e.f4 = f.f4 ∧ w = 9)
def spawnAt (l : List S36) (t : Nat) : Option Nat := lastN (fun k => !nob (E l k).f2 && handle (E l k).f2 == (E l t).f4) t
def otherP (l : List S36) : Props := fun f t w =>
  ((E l t).f3 = 6 ∧ ∃ k, spawnAt l t = some k ∧ f = (k : Int) ∧ w = 1) ∨ (∃ i : Nat, i < t ∧ f = (i : Int) ∧ leads (E l i) (E l t) w)
/-- Who waits at a condition, and who was taken out by which signal. -/
def sigStep (l : List S36) (i : Nat) (s : List Nat × List (Nat × Nat)) : List Nat × List (Nat × Nat) :=
  if (E l i).f3 = 4 ∧ (E l i).f4 = 42 then (s.1 ++ [i], s.2)
  else if (E l i).f3 = 24 then
    (if (E l i).f5 ≠ 0 then (s.1.filter (fun q => !((E l q).f5 == (E l i).f4)), s.2 ++ (s.1.filter (fun q => (E l q).f5 == (E l i).f4)).map (fun q => (q, i)))
     else (s.1.eraseP (fun q => (E l q).f5 == (E l i).f4), s.2 ++ ((s.1.filter (fun q => (E l q).f5 == (E l i).f4)).take 1).map (fun q => (q, i))))
  else if (E l i).f3 = 25 then (s.1, s.2.filter (fun q => !(samG (E l q.1).f2 (E l i).f2)))
  else s
def sigState (l : List S36) : Nat → List Nat × List (Nat × Nat)
  | 0 => ([], [])
  | i + 1 => sigStep l i (sigState l i)
def sigsAt (l : List S36) (i : Nat) : List Nat := ((sigState l i).2.filter (fun q => samG (E l q.1).f2 (E l i).f2)).map (·.2)
def condP (l : List S36) : Props := fun f t w => (E l t).f3 = 25 ∧ ∃ s ∈ sigsAt l t, f = (s : Int) ∧ w = 6
/-- All of them. -/
def allP (l : List S36) (caps : List Int) : Props := fun f t w => P0 l f t w ∨ flowP l caps f t w ∨ acqP l f t w ∨ otherP l f t w ∨ condP l f t w
def bad (l : List S36) (caps : List Int) (t : Nat) : Prop := ∃ f w, allP l caps f t w ∧ (t : Int) ≤ f
/-- An arrow. -/
def isArr (l : List S36) (caps : List Int) (a : S60) : Prop := ∃ t : Nat, t < l.length ∧ a.f1 = (t : Int) ∧ 0 ≤ a.f0 ∧ a.f0 < (t : Int) ∧ allP l caps a.f0 t a.f2
def ltA (a b : S60) : Prop := a.f1 < b.f1 ∨ (a.f1 = b.f1 ∧ (a.f0 < b.f0 ∨ (a.f0 = b.f0 ∧ a.f2 < b.f2)))
def SortedA (o : List S60) : Prop := o.Pairwise ltA
theorem ltA_irrefl (a : S60) : ¬ ltA a a := by unfold ltA; omega
theorem ltA_trans {a b c : S60} (h1 : ltA a b) (h2 : ltA b c) : ltA a c := by unfold ltA at *; omega
/-- A sorted list is told by its members. -/
theorem sorted_eq : ∀ {a b : List S60}, SortedA a → SortedA b → (∀ x, x ∈ a ↔ x ∈ b) → a = b
  | [], [], _, _, _ => rfl
  | [], y :: b, _, _, h => by have := (h y).2 (by simp); simp at this
  | x :: a, [], _, _, h => by have := (h x).1 (by simp); simp at this
  | x :: a, y :: b, ha, hb, h => by
    obtain ⟨ha1, ha2⟩ := List.pairwise_cons.1 ha
    obtain ⟨hb1, hb2⟩ := List.pairwise_cons.1 hb
    have e : x = y := by
      rcases List.mem_cons.1 ((h x).1 (by simp)) with e | e
      · exact e
      · rcases List.mem_cons.1 ((h y).2 (by simp)) with e2 | e2
        · exact e2.symm
        · exact absurd (ltA_trans (ha1 y e2) (hb1 x e)) (ltA_irrefl x)
    subst e
    rw [sorted_eq ha2 hb2 (fun z => ⟨fun hz => ?_, fun hz => ?_⟩)]
    · rcases List.mem_cons.1 ((h z).1 (List.mem_cons_of_mem _ hz)) with e | e
      · subst e; exact absurd (ha1 z hz) (ltA_irrefl z)
      · exact e
    · rcases List.mem_cons.1 ((h z).2 (List.mem_cons_of_mem _ hz)) with e | e
      · subst e; exact absurd (hb1 z hz) (ltA_irrefl z)
      · exact e
noncomputable def badB (l : List S36) (caps : List Int) (j : Nat) : Bool := @decide (bad l caps j) (Classical.propDecidable _)
theorem badB_iff {l : List S36} {caps : List Int} {j : Nat} : badB l caps j = true ↔ bad l caps j := @decide_eq_true_iff _ (Classical.propDecidable _)
theorem badB_no {l : List S36} {caps : List Int} {j : Nat} (h : ¬ bad l caps j) : badB l caps j = false := by
  cases c : badB l caps j with
  | false => rfl
  | true => exact absurd (badB_iff.1 c) h
noncomputable def canonA (l : List S36) (caps : List Int) : List S60 := Classical.epsilon (fun o => SortedA o ∧ ∀ a, a ∈ o ↔ isArr l caps a)
theorem canonA_eq {l : List S36} {caps : List Int} {o : List S60} (hs : SortedA o) (ho : ∀ a, a ∈ o ↔ isArr l caps a) : canonA l caps = o := by
  obtain ⟨c1, c2⟩ := Classical.epsilon_spec (p := fun o => SortedA o ∧ ∀ a, a ∈ o ↔ isArr l caps a) ⟨o, hs, ho⟩
  exact sorted_eq c1 hs (fun a => (c2 a).trans (ho a).symm)
/-- All arrows of a trace, or the place of what may not be. -/
noncomputable def arrowsF (l : List S36) (caps : List Int) : List S60 × Int × Int :=
  if 65536 < l.length then ([], 0, 2)
  else match firstN (badB l caps) l.length with
    | some j => ([], (j : Int), 260)
    | none => (canonA l caps, 0, 0)
theorem arrowsF_ok {l : List S36} {caps : List Int} {o : List S60} (hl : l.length ≤ 65536) (hb : ∀ j, j < l.length → ¬ bad l caps j) (hs : SortedA o) (ho : ∀ a, a ∈ o ↔ isArr l caps a) : arrowsF l caps = (o, 0, 0) := by
  unfold arrowsF
  rw [if_neg (by omega)]
  cases h : firstN (badB l caps) l.length with
  | some j =>
    obtain ⟨h1, h2, _⟩ := firstN_some h
    exact absurd (badB_iff.1 h2) (hb j h1)
  | none => simp only [canonA_eq hs ho]
theorem arrowsF_bad {l : List S36} {caps : List Int} {j : Nat} (hl : l.length ≤ 65536) (hj : j < l.length) (hb : bad l caps j) (hf : ∀ i, i < j → ¬ bad l caps i) : arrowsF l caps = ([], (j : Int), 260) := by
  unfold arrowsF
  rw [if_neg (by omega)]
  have : firstN (badB l caps) l.length = some j := firstN_iff.2 ⟨hj, badB_iff.2 hb, fun i hi => badB_no (hf i hi)⟩
  rw [this]
theorem arrowsF_full {l : List S36} {caps : List Int} (hl : 65536 < l.length) : arrowsF l caps = ([], 0, 2) := by
  unfold arrowsF
  rw [if_pos hl]
end Go.Proofs.Ytkbfijkohngjjaa.Od
set_option linter.unusedVariables false
set_option linter.unusedSimpArgs false
namespace Go.Proofs.Ytkbfijkohngjjaa.Od
open Go.RowKit Go.Proofs.Ytkbfijkohngjjaa.Ef Go.Proofs.Ytkbfijkohngjjaa.Mp Go.Proofs.Ytkbfijkohngjjaa.QOrder Go.Proofs.YtkbfijkohngjjaaW.PrintWords Go.Proofs.YtkbfijkohngjjaaW.PrintLast Go.Proofs.YtkbfijkohngjjaaW.PrintMore
/-- Where a finder's parts lie: gf itself, gw the row of what is wrong; s and r the maps of sends and receives, a and b those of acquires and releases. -/
structure Fnd where
  gf : Nat
  gw : Nat
  s : Nat
  r : Nat
  a : Nat
  b : Nat
  vl : Value
  vc : Value
  va : Value
def Fnd.cells (F : Fnd) (n : Nat) (vo : Value) : Array Value := #[F.vl, F.vc, F.va, .map (some F.s), .map (some F.r), .slice (some ⟨F.gw, 0, none⟩) n n, .map (some F.a), .map (some F.b), vo]
def castN (l : List Nat) : List Int := l.map (fun (i : Nat) => (i : Int))
def aheads (l : List S36) (n : Nat) : List Int := (List.range n).map (ahead l)
def old (F : Fnd) (s1 : Nat) (k : Nat) : Prop := k < s1 ∧ k ≠ F.gf ∧ k ≠ F.gw
def Placed (l : List S36) (kind : Int) (W : World) (b : Nat) : Prop := ∃ m, MapOf enc2 W b m ∧ ∀ k, Mp.get k m = (place l l.length kind k).map (fun (s : Nat) => Value.int .i64 (s : Int))
/-- A row, or nothing where there is none. -/
def RowAt {α : Type} (d : Kd α) (e : Nat) (W : World) (base : Nat) (ok : Nat → Prop) (o : Option Value) (xs : List α) : Prop := match o with
  | none => xs = []
  | some v => d.Q e W base ok v xs
theorem RowAt.step {α : Type} {d : Kd α} {e base : Nat} {W W1 : World} {ok : Nat → Prop} {o : Option Value} {xs : List α} (h : RowAt d e W base ok o xs) (hm : ∀ k, ok k → k < W.heap.size → W1.heap[k]? = W.heap[k]?) : RowAt d e W1 base ok o xs := by
  cases o with
  | none => exact h
  | some v => exact Kd.Q_step h hm
/-- The value that a look-up tells. -/
theorem RowAt.val {α : Type} {d : Kd α} {e base : Nat} {W : World} {ok : Nat → Prop} {o : Option Value} {xs : List α} (h : RowAt d e W base ok o xs) : d.Q e W base ok (o.getD (.slice none 0 0)) xs := by
  cases o with
  | none => cases h; exact Kd.Q_nil _ _ _ _ _
  | some v => exact h
def Listed (l : List S36) (kind : Int) (F : Fnd) (base s1 : Nat) (W : World) (b : Nat) : Prop :=
  ∃ m, MapS (Value.int .i64) W b m ∧ m.length ≤ l.length ∧ (∀ p ∈ m, Mp.get p.1 m = some p.2) ∧ ∀ a, RowAt (Kd.int .i64) 3 W base (old F s1) (Mp.get a m) (castN (idx l l.length kind a))
/-- What read noted; w: the caller's world, s1: all of it lies below. -/
structure RO (w : World) (s1 : Nat) (F : Fnd) (l : List S36) (caps : List Int) (W : World) : Prop where
  hb : Below w.heap.size w W
  hs1 : s1 ≤ W.heap.size
  hgf : w.heap.size ≤ F.gf ∧ F.gf < s1
  hgw : w.heap.size ≤ F.gw ∧ F.gw < s1 ∧ F.gw ≠ F.gf
  hn : l.length ≤ 65536
  hl : ∃ A c, F.vl = .slice A l.length c ∧ l.length ≤ c ∧ Kd.C k36 w A l.length l
  hc : ∃ A c, F.vc = .slice A caps.length c ∧ caps.length ≤ c ∧ Kd.C (Kd.int .i64) w A caps.length caps
  ha : Kd.Q (Kd.int .i64) 3 W w.heap.size (old F s1) F.va (aheads l l.length)
  hm : ∀ b, b = F.s ∨ b = F.r ∨ b = F.a ∨ b = F.b → old F s1 b
  hms : Placed l 16 W F.s
  hmr : Placed l 17 W F.r
  hma : Listed l 26 F w.heap.size s1 W F.a
  hmb : Listed l 27 F w.heap.size s1 W F.b
section
variable {w W W2 : World} {s1 : Nat} {F : Fnd} {l : List S36} {caps : List Int}
theorem Placed.step {kind : Int} {b : Nat} (h : Placed l kind W b) (hb : W2.heap[b]? = W.heap[b]?) : Placed l kind W2 b := by
  obtain ⟨m, h1, h2⟩ := h
  exact ⟨m, h1.kept hb, h2⟩
theorem Listed.step {kind : Int} {base b : Nat} (h : Listed l kind F base s1 W b) (hb : W2.heap[b]? = W.heap[b]?) (hm : ∀ k, old F s1 k → W2.heap[k]? = W.heap[k]?) : Listed l kind F base s1 W2 b := by
  obtain ⟨m, h1, h0, h2, h3⟩ := h
  exact ⟨m, h1.kept hb, h0, h2, fun a => (h3 a).step (fun k hk _ => hm k hk)⟩
theorem RO.step (h : RO w s1 F l caps W) (hk : Kept W W2 (fun k => k = F.gf ∨ k = F.gw ∨ s1 ≤ k)) (hos : Below w.heap.size w W2) : RO w s1 F l caps W2 := by
  have hm : ∀ k, old F s1 k → W2.heap[k]? = W.heap[k]? := fun k q => hk.2 k (Nat.lt_of_lt_of_le q.1 h.hs1) (fun e => by rcases e with e | e | e; exact q.2.1 e; exact q.2.2 e; exact absurd q.1 (Nat.not_lt.2 e))
  exact ⟨hos, Nat.le_trans h.hs1 hk.1, h.hgf, h.hgw, h.hn, h.hl, h.hc, Kd.Q_step h.ha (fun k q _ => hm k q), h.hm, h.hms.step (hm _ (h.hm _ (.inl rfl))), h.hmr.step (hm _ (h.hm _ (.inr (.inl rfl)))),
    h.hma.step (hm _ (h.hm _ (.inr (.inr (.inl rfl))))) hm, h.hmb.step (hm _ (h.hm _ (.inr (.inr (.inr rfl))))) hm⟩
end
/-- A set of proposals is told by what is wrong, and by the arrows. -/
structure Told (n : Nat) (P : Props) (wr : List Bool) (o : List S60) : Prop where
  len : wr.length = n
  wr : ∀ j, j < n → (wr.getD j false = true ↔ ∃ f w, P f j w ∧ (j : Int) ≤ f)
  o : ∀ a : S60, a ∈ o ↔ ∃ t : Nat, t < n ∧ a.f1 = (t : Int) ∧ 0 ≤ a.f0 ∧ a.f0 < (t : Int) ∧ P a.f0 t a.f2
def addP (P : Props) (f0 : Int) (t0 : Nat) (w0 : Int) : Props := fun f t w => P f t w ∨ (f = f0 ∧ t = t0 ∧ w = w0)
theorem Told.none {n : Nat} {P : Props} {wr : List Bool} {o : List S60} (h : Told n P wr o) {f : Int} {t : Nat} {w : Int} (hf : f < 0) : Told n (addP P f t w) wr o := by
  refine ⟨h.len, fun j hj => (h.wr j hj).trans ⟨fun ⟨f1, w1, a, b⟩ => ⟨f1, w1, .inl a, b⟩, ?_⟩, fun a => (h.o a).trans ⟨fun ⟨t1, a1, a2, a3, a4, a5⟩ => ⟨t1, a1, a2, a3, a4, .inl a5⟩, ?_⟩⟩
  · rintro ⟨f1, w1, a | ⟨rfl, rfl, rfl⟩, b⟩
    · exact ⟨f1, w1, a, b⟩
    · omega
  · rintro ⟨t1, a1, a2, a3, a4, a5 | ⟨e1, e2, e3⟩⟩
    · exact ⟨t1, a1, a2, a3, a4, a5⟩
    · omega
theorem getD_set {wr : List Bool} {t j : Nat} (ht : t < wr.length) : (wr.set t true).getD j false = if j = t then true else wr.getD j false := by
  rw [List.getD_eq_getElem?_getD, List.getD_eq_getElem?_getD, List.getElem?_set]
  by_cases e : t = j
  · subst e; simp [ht]
  · have e2 : ¬ j = t := fun q => e q.symm
    simp [e, e2]
theorem Told.bad {n : Nat} {P : Props} {wr : List Bool} {o : List S60} (h : Told n P wr o) {f : Int} {t : Nat} {w : Int} (ht : t < n) (hf : (t : Int) ≤ f) : Told n (addP P f t w) (wr.set t true) o := by
  refine ⟨by rw [List.length_set]; exact h.len, fun j hj => ?_, fun a => (h.o a).trans ⟨fun ⟨t1, a1, a2, a3, a4, a5⟩ => ⟨t1, a1, a2, a3, a4, .inl a5⟩, ?_⟩⟩
  · rw [getD_set (by rw [h.len]; exact ht)]
    by_cases e : j = t
    · subst e
      rw [if_pos rfl]
      exact ⟨fun _ => ⟨f, w, .inr ⟨rfl, rfl, rfl⟩, hf⟩, fun _ => rfl⟩
    · rw [if_neg e, h.wr j hj]
      refine ⟨fun ⟨f1, w1, a, b⟩ => ⟨f1, w1, .inl a, b⟩, ?_⟩
      rintro ⟨f1, w1, a | ⟨_, e2, _⟩, b⟩
      · exact ⟨f1, w1, a, b⟩
      · exact absurd e2 e
  · rintro ⟨t1, a1, a2, a3, a4, a5 | ⟨e1, e2, e3⟩⟩
    · exact ⟨t1, a1, a2, a3, a4, a5⟩
    · subst e2; omega
theorem Told.arrow {n : Nat} {P : Props} {wr : List Bool} {o : List S60} (h : Told n P wr o) {f : Int} {t : Nat} {w : Int} (ht : t < n) (h0 : 0 ≤ f) (hf : f < (t : Int)) : Told n (addP P f t w) wr (o ++ [⟨f, t, w⟩]) := by
  refine ⟨h.len, fun j hj => (h.wr j hj).trans ⟨fun ⟨f1, w1, a, b⟩ => ⟨f1, w1, .inl a, b⟩, ?_⟩, fun a => ?_⟩
  · rintro ⟨f1, w1, a | ⟨e1, e2, e3⟩, b⟩
    · exact ⟨f1, w1, a, b⟩
    · subst e2; omega
  · rw [List.mem_append, List.mem_singleton, h.o a]
    constructor
    · rintro (⟨t1, a1, a2, a3, a4, a5⟩ | rfl)
      · exact ⟨t1, a1, a2, a3, a4, .inl a5⟩
      · exact ⟨t, ht, rfl, h0, hf, .inr ⟨rfl, rfl, rfl⟩⟩
    · rintro ⟨t1, a1, a2, a3, a4, a5 | ⟨e1, e2, e3⟩⟩
      · exact .inl ⟨t1, a1, a2, a3, a4, a5⟩
      · refine .inr ?_
        cases a
        subst e2
        simp only [] at a2 e1 e3
        rw [a2, e1, e3]
theorem Told.imp {n : Nat} {P P2 : Props} {wr : List Bool} {o : List S60} (h : Told n P wr o) (hp : ∀ f t w, t < n → (P f t w ↔ P2 f t w)) : Told n P2 wr o :=
  ⟨h.len, fun j hj => (h.wr j hj).trans ⟨fun ⟨f1, w1, a, b⟩ => ⟨f1, w1, (hp _ _ _ hj).1 a, b⟩, fun ⟨f1, w1, a, b⟩ => ⟨f1, w1, (hp _ _ _ hj).2 a, b⟩⟩,
   fun a => (h.o a).trans ⟨fun ⟨t1, a1, a2, a3, a4, a5⟩ => ⟨t1, a1, a2, a3, a4, (hp _ _ _ a1).1 a5⟩, fun ⟨t1, a1, a2, a3, a4, a5⟩ => ⟨t1, a1, a2, a3, a4, (hp _ _ _ a1).2 a5⟩⟩⟩
/-- A finder at work: ok: whose blocks the arrows' row may be; at most N arrows. -/
structure FSx (w : World) (s1 : Nat) (F : Fnd) (l : List S36) (caps : List Int) (ok : Nat → Prop) (P : Props) (N : Nat) (W : World) (vo : Value) (o : List S60) (wr : List Bool) : Prop where
  ro : RO w s1 F l caps W
  bf : W.heap[F.gf]? = some (.cells (F.cells l.length vo) 75 (0, 0))
  bw : W.heap[F.gw]? = some (.cells (wr.map Value.bool).toArray 4 (0, 0))
  out : k60.R 60 W w.heap.size (fun k => ok k ∧ s1 ≤ k) vo o
  told : Told l.length P wr o
  len : o.length ≤ N
def FS (w : World) (s1 : Nat) (F : Fnd) (l : List S36) (caps : List Int) (ok : Nat → Prop) (P : Props) (N : Nat) (W : World) : Prop := ∃ vo o wr, FSx w s1 F l caps ok P N W vo o wr
/-- What a call that proposes leaves alone. -/
def foot (F : Fnd) (s1 : Nat) (ok : Nat → Prop) (k : Nat) : Prop := k = F.gf ∨ k = F.gw ∨ (ok k ∧ s1 ≤ k)
section
variable {w W W2 : World} {s1 : Nat} {F : Fnd} {l : List S36} {caps : List Int} {ok ok2 : Nat → Prop} {P P2 : Props} {N N2 : Nat} {vo : Value} {o : List S60} {wr : List Bool}
theorem FSx.below (h : FSx w s1 F l caps ok P N W vo o wr) (hb : Below W.heap.size W W2) : FSx w s1 F l caps ok P N W2 vo o wr :=
  ⟨h.ro.step (Kept.of_below hb _) (below_step h.ro.hb hb), blk_below h.bf hb, blk_below h.bw hb, Kd.R_below h.out hb, h.told, h.len⟩
theorem FSx.imp (h : FSx w s1 F l caps ok P N W vo o wr) (ho : ∀ k, ok k → s1 ≤ k → k < W.heap.size → ok2 k) (hp : ∀ f t w, t < l.length → (P f t w ↔ P2 f t w)) (hn : N ≤ N2) : FSx w s1 F l caps ok2 P2 N2 W vo o wr :=
  ⟨h.ro, h.bf, h.bw, Kd.R_mono (Kd.R_bound h.out) (fun k q => ⟨ho k q.1.1 q.1.2 q.2.2.1, q.1.2⟩), h.told.imp hp, Nat.le_trans h.len hn⟩
theorem FS.below (h : FS w s1 F l caps ok P N W) (hb : Below W.heap.size W W2) : FS w s1 F l caps ok P N W2 := by obtain ⟨a, b, c, h⟩ := h; exact ⟨a, b, c, h.below hb⟩
theorem FS.imp (h : FS w s1 F l caps ok P N W) (ho : ∀ k, ok k → s1 ≤ k → k < W.heap.size → ok2 k) (hp : ∀ f t w, t < l.length → (P f t w ↔ P2 f t w)) (hn : N ≤ N2) : FS w s1 F l caps ok2 P2 N2 W := by obtain ⟨a, b, c, h⟩ := h; exact ⟨a, b, c, h.imp ho hp hn⟩
theorem FS.ro (h : FS w s1 F l caps ok P N W) : RO w s1 F l caps W := by obtain ⟨a, b, c, h⟩ := h; exact h.ro
theorem wr_get {wr : List Bool} {t : Nat} (ht : t < wr.length) : (wr.map Value.bool).toArray[t]? = some (.bool (wr.getD t false)) := by
  simp [List.getElem?_eq_getElem ht, List.getD_eq_getElem?_getD]
theorem wr_set {wr : List Bool} {t : Nat} : ((wr.map Value.bool).toArray).setIfInBounds t (.bool true) = ((wr.set t true).map Value.bool).toArray := by
  apply Array.ext'
  simp [List.map_set]
end
end Go.Proofs.Ytkbfijkohngjjaa.Od
set_option linter.unusedVariables false
set_option linter.unusedSimpArgs false
namespace Go.Proofs.Ytkbfijkohngjjaa.Od
open Go.RowKit Go.Proofs.Ytkbfijkohngjjaa.Ef Go.Proofs.Ytkbfijkohngjjaa.Mp Go.Proofs.Ytkbfijkohngjjaa.QOrder Go.Proofs.YtkbfijkohngjjaaW.PrintWords Go.Proofs.YtkbfijkohngjjaaW.PrintLast Go.Proofs.YtkbfijkohngjjaaW.PrintMore
attribute [local go_sem] max2_int
theorem foot_kept {w W W2 : World} {s1 : Nat} {F : Fnd} {ok : Nat → Prop} (h : Kept W W2 (foot F s1 ok)) : Kept W W2 (fun k => k = F.gf ∨ k = F.gw ∨ s1 ≤ k) := h.mono (fun k q => q.imp id (fun q => q.imp id (fun q => q.2)))
set_option maxHeartbeats 2000000 in
set_option maxRecDepth 100000 in
theorem arrow_none {w : World} {s1 : Nat} {F : Fnd} {l : List S36} {caps : List Int} {ok : Nat → Prop} {P : Props} {N : Nat} (f : Int) (t : Nat) (y : Int) (W : World) (h : FS w s1 F l caps ok P N W) (hf : f < 0) :
    Calls Try.prog 52 #[.pointer (some ⟨F.gf, 0, none⟩), .int .i64 f, .int .i64 (t : Int), .int .i64 y] W fun e w' => e = .returned (.tuple #[]) ∧ FS w s1 F l caps ok (addP P f t y) (N + 1) w' ∧ Below W.heap.size W w' := by
  have HH := Aside0.mk h
  have HF := Aside0.mk hf
  have hd : decide (f < 0) = true := decide_eq_true hf
  clear h hf
  go_enter Try.func52, Try.ntmps52
  go_wp2
  go_end0
  obtain ⟨vo, o, wr, H⟩ := HH.out
  exact ⟨rfl, ⟨vo, o, wr, H.ro, H.bf, H.bw, H.out, H.told.none HF.out, Nat.le_succ_of_le H.len⟩, Below.refl _ _⟩
set_option maxHeartbeats 2000000 in
set_option maxRecDepth 100000 in
theorem arrow_bad {w : World} {s1 : Nat} {F : Fnd} {l : List S36} {caps : List Int} {ok : Nat → Prop} {P : Props} {N : Nat} (f : Int) (t : Nat) (y : Int) (W : World) (h : FS w s1 F l caps ok P N W) (ht : t < l.length) (hf : (t : Int) ≤ f) :
    Calls Try.prog 52 #[.pointer (some ⟨F.gf, 0, none⟩), .int .i64 f, .int .i64 (t : Int), .int .i64 y] W fun e w' => e = .returned (.tuple #[]) ∧ FS w s1 F l caps ok (addP P f t y) (N + 1) w' ∧ Kept W w' (foot F s1 ok) := by
  obtain ⟨vo, o, wr, H⟩ := h
  have HH := Aside0.mk H
  have HF := Aside0.mk hf
  have HT := Aside0.mk ht
  have hd : decide (f < 0) = false := decide_eq_false (by omega)
  have hd2 : decide ((t : Int) ≤ f) = true := decide_eq_true hf
  have hu75 := Try.underlying75
  have c5 : W.cell? ⟨F.gf, 5, none⟩ = some (.slice (some ⟨F.gw, 0, none⟩) l.length l.length) := (blk_cell H.bf 5).trans rfl
  have z5 : W.frozen? ⟨F.gw, t, none⟩ = false := blk_frozen H.bw t
  have ht1 : (t : Int) < (l.length : Int) := by omega
  have ht0 : (0 : Int) ≤ (t : Int) := by omega
  have cw : W.cell? ⟨F.gw, t, none⟩ = some (.bool (wr.getD t false)) := (blk_cell H.bw t).trans (wr_get (by rw [H.told.len]; exact ht))
  clear H hf ht
  go_enter Try.func52, Try.ntmps52
  go_wp2
  go_end0
  have hb := blk_put HH.out.bw t (.bool true) wr_set
  have hg : W.grownBy (W.setCell ⟨F.gw, t, none⟩ (.bool true)) (some F.gw) := (set_step HH.out.bw t (.bool true) rfl).2
  have hk : Kept W (W.setCell ⟨F.gw, t, none⟩ (.bool true)) (foot F s1 ok) := Kept.of_grown hg (Kept.refl _ _) (fun k e => by cases e; exact .inl (.inr (.inl rfl)))
  refine ⟨rfl, ⟨vo, o, wr.set t true, HH.out.ro.step (foot_kept (w := w) hk) (below_mput HH.out.ro.hb hg HH.out.ro.hgw.1 HH.out.ro.hb.size), blk_grown HH.out.bf hg (fun e => HH.out.ro.hgw.2.2 (Option.some.inj e).symm), hb, Kd.R_grown HH.out.out hg (fun k q e => by cases e; exact absurd q.2 (Nat.not_le.2 HH.out.ro.hgw.2.1)), HH.out.told.bad HT.out HF.out, Nat.le_succ_of_le HH.out.len⟩, hk⟩
theorem cells_put (F : Fnd) (n : Nat) (vo v : Value) : (F.cells n vo).setIfInBounds 8 v = F.cells n v := by
  unfold Fnd.cells
  rfl
set_option maxHeartbeats 4000000 in
set_option maxRecDepth 100000 in
theorem arrow_put {w : World} {s1 : Nat} {F : Fnd} {l : List S36} {caps : List Int} {ok : Nat → Prop} {P : Props} {N : Nat} (f : Int) (t : Nat) (y : Int) (W : World) (h : FS w s1 F l caps ok P N W) (ht : t < l.length) (h0 : 0 ≤ f) (hf : f < (t : Int)) (hN : (N + 1) * 24 ≤ 140737488355328) :
    Calls Try.prog 52 #[.pointer (some ⟨F.gf, 0, none⟩), .int .i64 f, .int .i64 (t : Int), .int .i64 y] W fun e w' => e = .returned (.tuple #[]) ∧ FS w s1 F l caps (fun k => ok k ∨ W.heap.size ≤ k) (addP P f t y) (N + 1) w' ∧ Kept W w' (foot F s1 ok) := by
  obtain ⟨vo, o, wr, H⟩ := h
  have HH := Aside0.mk H
  have HF := Aside0.mk hf
  have HT := Aside0.mk ht
  have H0 := Aside0.mk h0
  have HN := Aside0.mk hN
  have hd : decide (f < 0) = false := decide_eq_false (by omega)
  have hd2 : decide ((t : Int) ≤ f) = false := decide_eq_false (by omega)
  have hu75 := Try.underlying75
  have c8 : W.cell? ⟨F.gf, 8, none⟩ = some vo := (blk_cell H.bf 8).trans rfl
  clear H hf ht h0 hN
  go_enter Try.func52, Try.ntmps52
  go_wp2_with (first
    | ((with_reducible refine gate_builtin (b := .append) (xs := #[.tmp 12, .tmp 17]) rfl ?_); at_builtin; refine Kd.R_append k60 (w0 := w) (W := W) w.heap.size rfl (.tmp 12) (.tmp 17) 38 60 (.agg #[(.int .i64 0), (.int .i64 0), (.int .i64 0)]) 24 rfl Try.underlying38 info60 rfl (by decide) (by decide) vo o ⟨f, (t : Int), y⟩ [.int .i64 f, .int .i64 (t : Int), .int .i64 y] (fun k => (ok k ∨ W.heap.size ≤ k) ∧ s1 ≤ k) (fun _ => False) rfl rfl ?aP (fun _ hk => hk.elim) ?aF ?aO HH.out.ro.hb HH.out.ro.hb.size ?aL ?_; (case aP => exact k60_mkM _ _ _ ⟨f, (t : Int), y⟩); (case aF => exact fun k hk => ⟨.inr hk, Nat.le_trans HH.out.ro.hs1 hk⟩); (case aO => exact Kd.R_mono HH.out.out (fun k q => ⟨.inl q.1, q.2⟩)); (case aL => have := HH.out.len; have := HN.out; omega); intro v7 w7 hrow hb7 hg7 hat; obtain ⟨A7, n7, c7, rfl⟩ : ∃ A n c, v7 = .slice A n c := (by obtain ⟨A, c, e⟩ := Kd.R_slice hrow; exact ⟨A, _, c, e⟩); have HO7 := Aside0.mk hrow; have HB7 := Aside0.mk hb7; have HG7 := Aside0.mk hg7; have hne : some F.gf ≠ vo.ownBlock := (fun e => by have := HH.out.out.1 F.gf e.symm; have := HH.out.ro.hgf; omega); have HBF := Aside0.mk (blk_grown HH.out.bf hg7 hne); clear hrow hb7 hg7 hat hne; have z8 : w7.frozen? ⟨F.gf, 8, none⟩ = false := blk_frozen HBF.out 8; have c8 : w7.cell? ⟨F.gf, 8, none⟩ = some vo := (blk_cell HBF.out 8).trans rfl))
  go_end0
  have hb := blk_put HBF.out 8 (.slice A7 n7 c7) (cells_put F l.length vo (.slice A7 n7 c7))
  have hg : w7.grownBy (w7.setCell ⟨F.gf, 8, none⟩ (.slice A7 n7 c7)) (some F.gf) := (set_step HBF.out 8 (.slice A7 n7 c7) rfl).2
  have hk0 : Kept W w7 (foot F s1 ok) := Kept.of_grown HG7.out (Kept.refl _ _) (fun k e => .inl (.inr (.inr (HH.out.out.1 k e))))
  have hk : Kept W (w7.setCell ⟨F.gf, 8, none⟩ (.slice A7 n7 c7)) (foot F s1 ok) := Kept.of_grown hg hk0 (fun k e => by cases e; exact .inl (.inl rfl))
  have hwne : some F.gw ≠ vo.ownBlock := fun e => by have := HH.out.out.1 F.gw e.symm; have := HH.out.ro.hgw; omega
  refine ⟨rfl, ⟨.slice A7 n7 c7, o ++ [⟨f, (t : Int), y⟩], wr, HH.out.ro.step (foot_kept (w := w) hk) (below_mput HB7.out hg HH.out.ro.hgf.1 HB7.out.size), hb, blk_grown (blk_grown HH.out.bw HG7.out hwne) hg (fun e => HH.out.ro.hgw.2.2 (Option.some.inj e)), Kd.R_grown HO7.out hg (fun k q e => by cases e; exact absurd q.2 (Nat.not_le.2 HH.out.ro.hgf.2)), HH.out.told.arrow HT.out H0.out HF.out, by have := HH.out.len; simp only [List.length_append, List.length_singleton]; omega⟩, hk⟩
/-- An arrow is proposed. -/
theorem arrow_calls {w : World} {s1 : Nat} {F : Fnd} {l : List S36} {caps : List Int} {ok : Nat → Prop} {P : Props} {N : Nat} (f : Int) (t : Nat) (y : Int) (W : World) (h : FS w s1 F l caps ok P N W) (ht : t < l.length) (hN : (N + 1) * 24 ≤ 140737488355328) :
    Calls Try.prog 52 #[.pointer (some ⟨F.gf, 0, none⟩), .int .i64 f, .int .i64 (t : Int), .int .i64 y] W fun e w' => e = .returned (.tuple #[]) ∧ FS w s1 F l caps (fun k => ok k ∨ W.heap.size ≤ k) (addP P f t y) (N + 1) w' ∧ Kept W w' (foot F s1 ok) := by
  by_cases c1 : f < 0
  · refine (arrow_none f t y W h c1).mono ?_
    rintro e w' ⟨he, hf, hb⟩
    exact ⟨he, hf.imp (fun k q _ _ => .inl q) (fun _ _ _ _ => Iff.rfl) (Nat.le_refl _), Kept.of_below hb _⟩
  · by_cases c2 : (t : Int) ≤ f
    · refine (arrow_bad f t y W h ht c2).mono ?_
      rintro e w' ⟨he, hf, hb⟩
      exact ⟨he, hf.imp (fun k q _ _ => .inl q) (fun _ _ _ _ => Iff.rfl) (Nat.le_refl _), hb⟩
    · exact arrow_put f t y W h ht (by omega) (by omega) hN
/-! ### reading -/
theorem aheads_get {l : List S36} {n : Nat} {i : Nat} (h : i < n) : rd (aheads l n) (i : Int) = ahead l i := by
  unfold rd aheads
  simp [List.getD_eq_getElem?_getD, h]
set_option maxHeartbeats 2000000 in
set_option maxRecDepth 100000 in
theorem capacity_calls {w : World} {s1 : Nat} {F : Fnd} {l : List S36} {caps : List Int} {ok : Nat → Prop} {P : Props} {N : Nat} (ch : Int) (W : World) (h : FS w s1 F l caps ok P N W) :
    Calls Try.prog 54 #[.pointer (some ⟨F.gf, 0, none⟩), .int .i64 ch] W fun e w' => e = .returned (.int .i64 (cap caps ch)) ∧ Below W.heap.size W w' := by
  obtain ⟨vo, o, wr, H⟩ := h
  have hu75 := Try.underlying75
  obtain ⟨A, c, hv, hl, hC⟩ := H.ro.hc
  have c1 : W.cell? ⟨F.gf, 1, none⟩ = some (.slice A caps.length c) := hv ▸ ((blk_cell H.bf 1).trans rfl)
  have HC := Aside0.mk (Kd.C_below hC H.ro.hb)
  clear H hv hl hC
  unfold cap
  by_cases d1 : ch < 1
  · have e1 : decide (ch < 1) = true := decide_eq_true d1
    rw [if_pos (.inl d1)]
    clear d1
    go_enter Try.func54, Try.ntmps54
    go_wp2
    go_ret
    exact ⟨rfl, Below.refl _ _⟩
  · have e1 : decide (ch < 1) = false := decide_eq_false d1
    by_cases d2 : (caps.length : Int) < ch
    · have e2 : decide ((caps.length : Int) < ch) = true := decide_eq_true d2
      rw [if_pos (.inr d2)]
      clear d1 d2
      go_enter Try.func54, Try.ntmps54
      go_wp2
      go_ret
      exact ⟨rfl, Below.refl _ _⟩
    · have e2 : decide ((caps.length : Int) < ch) = false := decide_eq_false d2
      rw [if_neg (by omega)]
      have hi0 : 0 ≤ ch - 1 := by omega
      have hi1 : ch - 1 < (caps.length : Int) := by omega
      obtain ⟨ad, ea, hx⟩ := Kd.at_int HC.out (ch - 1) hi0 hi1
      cases ea
      have hm : (caps.length : Int) ≤ 9223372036854775807 := by have := HC.out.2.1; omega
      have hw : IntKind.i64.wrap (ch - 1) = ch - 1 := by simp [IntKind.wrap, IntKind.bits, IntKind.signed]; omega
      have hrd : rd caps (ch - 1) = caps.getD (ch - 1).toNat 0 := rfl
      have hx2 : W.cell? (ad.add (ch.toNat - 1)) = some (.int .i64 (rd caps (ch - 1))) := by rw [← hx]; congr 2; omega
      rw [← hrd]
      generalize rd caps (ch - 1) = v at *
      clear d1 d2 hrd
      by_cases d3 : v < 0
      · rw [show max v 0 = 0 by omega]
        go_enter Try.func54, Try.ntmps54
        go_wp2
        go_ret
        exact ⟨rfl, Below.refl _ _⟩
      · rw [show max v 0 = v by omega]
        go_enter Try.func54, Try.ntmps54
        go_wp2
        go_ret
        exact ⟨rfl, Below.refl _ _⟩
set_option maxHeartbeats 2000000 in
set_option maxRecDepth 100000 in
theorem origin_calls {w : World} {s1 : Nat} {F : Fnd} {l : List S36} {caps : List Int} {ok : Nat → Prop} {P : Props} {N : Nat} (i : Nat) (W : World) (h : FS w s1 F l caps ok P N W) (hi : i < l.length) :
    Calls Try.prog 53 #[.pointer (some ⟨F.gf, 0, none⟩), .int .i64 (i : Int)] W fun e w' => e = .returned (.int .i64 (origin l i)) ∧ Below W.heap.size W w' := by
  obtain ⟨vo, o, wr, H⟩ := h
  have hu75 := Try.underlying75
  obtain ⟨A, c, hv, hl, hC⟩ := H.ro.hl
  obtain ⟨Aa, ca, hva, _, hCa⟩ := Kd.Q_reads H.ro.ha
  have hlen : (aheads l l.length).length = l.length := by simp [aheads]
  rw [hlen] at hva hCa
  have c0 : W.cell? ⟨F.gf, 0, none⟩ = some (.slice A l.length c) := hv ▸ ((blk_cell H.bf 0).trans rfl)
  have c2 : W.cell? ⟨F.gf, 2, none⟩ = some (.slice Aa l.length ca) := hva ▸ ((blk_cell H.bf 2).trans rfl)
  have HC := Aside0.mk (Kd.C_below hC H.ro.hb)
  have i0 : (0 : Int) ≤ (i : Int) := by omega
  have i1 : (i : Int) < (l.length : Int) := by omega
  have HCa := Aside0.mk hCa
  obtain ⟨ad, ea, hx⟩ := Kd.at_int hCa (i : Int) i0 i1
  cases ea
  rw [aheads_get hi, Int.toNat_natCast] at hx
  clear H hv hl hC hva hCa hlen
  unfold origin
  have hge := ahead_ge (l := l) (i := i)
  have hlt := ahead_lt (l := l) (i := i)
  generalize ahead l i = a at *
  by_cases d1 : 0 ≤ a
  · have e1 : decide (0 ≤ a) = true := decide_eq_true d1
    have a1 : a < (l.length : Int) := by omega
    obtain ⟨ad2, ea2, hy0, hy1, hy2, hy3, hy4, hy5, hy6, hy7⟩ := at_T36 HC.out a d1 a1
    cases ea2
    have hE : rd_T36 l a = E l a.toNat := rfl
    rw [hE] at hy4
    clear hy0 hy1 hy2 hy3 hy5 hy6 hy7 hE
    by_cases d2 : (E l a.toNat).f3 = 18
    · have e2 : ((E l a.toNat).f3 == 18) = true := by simp [d2]
      rw [if_pos ⟨d1, d2⟩]
      obtain ⟨ad3, ea3, hz⟩ := Kd.at_int HCa.out a d1 a1
      cases ea3
      have hq : rd (aheads l l.length) a = ahead l a.toNat := by
        have := aheads_get (l := l) (n := l.length) (i := a.toNat) (by omega)
        rw [Int.toNat_of_nonneg d1] at this
        exact this
      rw [hq] at hz
      clear d2 hq
      generalize (E l a.toNat).f3 = b at *
      go_enter Try.func53, Try.ntmps53
      go_wp2
      go_ret
      exact ⟨rfl, Below.refl _ _⟩
    · have e2 : ((E l a.toNat).f3 == 18) = false := by simp [d2]
      rw [if_neg (fun q => d2 q.2)]
      clear d2
      generalize (E l a.toNat).f3 = b at *
      go_enter Try.func53, Try.ntmps53
      go_wp2
      go_ret
      exact ⟨rfl, Below.refl _ _⟩
  · have e1 : decide (0 ≤ a) = false := decide_eq_false d1
    rw [if_neg (fun q => d1 q.1)]
    go_enter Try.func53, Try.ntmps53
    go_wp2
    go_ret
    exact ⟨rfl, Below.refl _ _⟩
end Go.Proofs.Ytkbfijkohngjjaa.Od
set_option linter.unusedVariables false
set_option linter.unusedSimpArgs false
namespace Go.Proofs.Ytkbfijkohngjjaa.Od
open Go.RowKit Go.Proofs.Ytkbfijkohngjjaa.Ef Go.Proofs.Ytkbfijkohngjjaa.Mp Go.Proofs.Ytkbfijkohngjjaa.QOrder Go.Proofs.YtkbfijkohngjjaaW.PrintWords Go.Proofs.YtkbfijkohngjjaaW.PrintLast Go.Proofs.YtkbfijkohngjjaaW.PrintMore
abbrev cE (x : S36) : Array Value := #[.int .u64 x.f0, .int .i64 x.f1, .int .i64 x.f2.f0, .int .i64 x.f2.f1, .int .i64 x.f3, .int .i64 x.f4, .int .i64 x.f5, .int .i64 x.f6]
abbrev zE : Array Value := #[.int .u64 0, .int .i64 0, .int .i64 0, .int .i64 0, .int .i64 0, .int .i64 0, .int .i64 0, .int .i64 0]
/-- The cells of the i-th event. -/
theorem at_ev {w W : World} {A : Option Addr} {l : List S36} (hC : Kd.C k36 w A l.length l) (hb : Below w.heap.size w W) {i : Nat} (hi : i < l.length) {x : S36} (hx : E l i = x) : ∃ ad, A = some ad ∧ W.cell? (ad.add (i * 8)) = some (.int .u64 x.f0) ∧ W.cell? ⟨(ad.add (i * 8)).block, (ad.add (i * 8)).off + 1, none⟩ = some (.int .i64 x.f1) ∧ W.cell? ⟨(ad.add (i * 8)).block, (ad.add (i * 8)).off + 2, none⟩ = some (.int .i64 x.f2.f0) ∧ W.cell? ⟨(ad.add (i * 8)).block, (ad.add (i * 8)).off + 3, none⟩ = some (.int .i64 x.f2.f1) ∧ W.cell? ⟨(ad.add (i * 8)).block, (ad.add (i * 8)).off + 4, none⟩ = some (.int .i64 x.f3) ∧ W.cell? ⟨(ad.add (i * 8)).block, (ad.add (i * 8)).off + 5, none⟩ = some (.int .i64 x.f4) ∧ W.cell? ⟨(ad.add (i * 8)).block, (ad.add (i * 8)).off + 6, none⟩ = some (.int .i64 x.f5) ∧ W.cell? ⟨(ad.add (i * 8)).block, (ad.add (i * 8)).off + 7, none⟩ = some (.int .i64 x.f6) := by
  have := at_T36 (Kd.C_below hC hb) (i : Int) (by omega) (by omega)
  rw [Int.toNat_natCast, show rd_T36 l (i : Int) = E l i from rfl, hx] at this
  exact this
theorem wrap_succ {i n : Nat} (h : i < n) (hn : n ≤ 65536) : wrap64 ((i : Int) + 1) = ((i + 1 : Nat) : Int) := by rw [wrap64]; omega
theorem meas_lt {i t : Nat} (h : i < t) (hw : wrap64 ((i : Int) + 1) = ((i + 1 : Nat) : Int)) : t - (intOf (Value.int IntKind.i64 (wrap64 ((i : Int) + 1)))).toNat < t - (intOf (Value.int IntKind.i64 (i : Int))).toNat := by
  rw [hw]
  show t - ((i + 1 : Nat) : Int).toNat < t - (i : Int).toNat
  rw [Int.toNat_natCast, Int.toNat_natCast]
  omega
def eachP (l : List S36) (p : S36 → Bool) (t0 n : Nat) (y : Int) : Props := fun f t w => t = t0 ∧ w = y ∧ ∃ i : Nat, i < n ∧ f = (i : Int) ∧ p (E l i) = true
def orP (P Q : Props) : Props := fun f t w => P f t w ∨ Q f t w
theorem eachP_yes {l : List S36} {p : S36 → Bool} {t0 i : Nat} {y : Int} {P : Props} (h : p (E l i) = true) : ∀ f t w, (addP (orP P (eachP l p t0 i y)) (i : Int) t0 y f t w ↔ orP P (eachP l p t0 (i + 1) y) f t w) := by
  intro f t w
  constructor
  · rintro ((a | ⟨a, b, j, c, d, e⟩) | ⟨a, b, c⟩)
    · exact .inl a
    · exact .inr ⟨a, b, j, by omega, d, e⟩
    · exact .inr ⟨b, c, i, by omega, a, h⟩
  · rintro (a | ⟨a, b, j, c, d, e⟩)
    · exact .inl (.inl a)
    · by_cases q : j = i
      · subst q; exact .inr ⟨d, a, b⟩
      · exact .inl (.inr ⟨a, b, j, by omega, d, e⟩)
theorem eachP_no {l : List S36} {p : S36 → Bool} {t0 i : Nat} {y : Int} {P : Props} (h : p (E l i) = false) : ∀ f t w, (orP P (eachP l p t0 i y) f t w ↔ orP P (eachP l p t0 (i + 1) y) f t w) := by
  intro f t w
  constructor
  · rintro (a | ⟨a, b, j, c, d, e⟩)
    · exact .inl a
    · exact .inr ⟨a, b, j, by omega, d, e⟩
  · rintro (a | ⟨a, b, j, c, d, e⟩)
    · exact .inl a
    · by_cases q : j = i
      · subst q; rw [h] at e; cases e
      · exact .inr ⟨a, b, j, by omega, d, e⟩
set_option maxHeartbeats 8000000 in
set_option maxRecDepth 100000 in
theorem each_calls {w : World} {s1 : Nat} {F : Fnd} {l : List S36} {caps : List Int} {ok : Nat → Prop} {P : Props} {N : Nat} (t : Nat) (y : Int) (fn : FuncId) (hn : ∀ (args : Array Value) (w : World), (callFunc fn args).run Try.prog w = .ok (.enter fn args) w) (g : Nat) (p : S36 → Bool) (W : World) (h : FS w s1 F l caps ok P N W) (ht : t < l.length) (hN : (N + t) * 24 ≤ 140737488355328)
    (hg : ¬ foot F s1 ok g) (hgl : g < W.heap.size) (hC : ∀ (x : S36) (W2 : World), W2.heap[g]? = W.heap[g]? → Calls Try.prog fn #[.agg (cE x), .pointer (some ⟨g, 0, none⟩)] W2 fun e w' => e = .returned (.bool (p x)) ∧ Below W2.heap.size W2 w') :
    Calls Try.prog 56 #[.pointer (some ⟨F.gf, 0, none⟩), .int .i64 (t : Int), .int .i64 y, .func (.func fn) #[] #[.pointer (some ⟨g, 0, none⟩)]] W fun e w' => e = .returned (.tuple #[]) ∧ FS w s1 F l caps (fun k => ok k ∨ W.heap.size ≤ k) (orP P (eachP l p t t y)) (N + t) w' ∧ Kept W w' (foot F s1 ok) := by
  have hu75 := Try.underlying75
  have hu36 := Try.underlying36
  have hu22 := Try.underlying22
  obtain ⟨A, c, hv, hl, hCl⟩ := h.ro.hl
  have hbf : W.cell? ⟨F.gf, 0, none⟩ = some (.slice A l.length c) := by obtain ⟨vo, o, wr, H⟩ := h; exact hv ▸ ((blk_cell H.bf 0).trans rfl)
  have HH := Aside0.mk h
  have HC := Aside0.mk hC
  have HCl := Aside0.mk hCl
  have HT := Aside0.mk ht
  have HN := Aside0.mk hN
  have HG := Aside0.mk hg
  have HGL := Aside0.mk hgl
  have t1 : (t : Int) ≤ (l.length : Int) := by omega
  have t1c : (t : Int) ≤ (c : Int) := by omega
  have t0 : (0 : Int) ≤ (t : Int) := by omega
  have t2 : t ≤ c := by omega
  clear h hC hCl ht hN hg hgl hv
  go_enter Try.func56, Try.ntmps56
  go_wp2
  go_loopw [17] (fun v17 wr => ∃ i : Nat, v17 = .int .i64 (i : Int) ∧ Aside0 (i ≤ t) ∧ Aside0 (FS w s1 F l caps (fun k => ok k ∨ W.heap.size ≤ k) (orP P (eachP l p t i y)) (N + i) wr) ∧ Aside0 (Kept W wr (foot F s1 ok))) (fun v17 _ => t - (intOf v17).toNat)
  case atStart => exact ⟨0, rfl, ⟨Nat.zero_le _⟩, ⟨HH.out.imp (fun k q _ _ => .inl q) (fun f t w _ => ⟨.inl, fun q => q.elim id (fun q => by obtain ⟨_, _, j, hj, _⟩ := q; omega)⟩) (Nat.le_refl _)⟩, ⟨Kept.refl _ _⟩⟩
  case round =>
    clear HH hbf
    obtain ⟨i, rfl, HI, HF, HK⟩ := hrel
    by_cases hlt : (i : Int) < (t : Int)
    · have hi0 : (0 : Int) ≤ (i : Int) := by omega
      have hil : i < l.length := by have := HT.out; omega
      obtain ⟨x, HX⟩ : ∃ x, Aside0 (E l i = x) := ⟨_, ⟨rfl⟩⟩
      obtain ⟨ad, e1, hx0, hx1, hx2, hx3, hx4, hx5, hx6, hx7⟩ := at_ev HCl.out HF.out.ro.hb hil HX.out
      cases e1
      have HQ := Aside0.mk (show wr.heap[g]? = W.heap[g]? from HK.out.2 g HGL.out HG.out)
      have HGW := Aside0.mk (show g < wr.heap.size from Nat.lt_of_lt_of_le HGL.out HK.out.1)
      have i1 : (i : Int) < (l.length : Int) := by omega
      have HW := Aside0.mk (wrap_succ hil HF.out.ro.hn)
      by_cases hp : p x = true
      · have HP := Aside0.mk hp
        clear hp hil
        go_wp2_with (first
        | ((with_reducible refine gate_dst (N := 9) rfl ?_); refine box_event ?hg (N := 9) ?hd (cs := zE) (t := 36) ?hr ?_; (case hd => rfl); (case hg => rfl); (case hr => first | (go_simp; done) | (go_simp; rfl)); intro bl hbl w5 hbox hb; have HB5 := Aside0.mk hb; have BK5 := Aside0.mk hbox; have HBL := Aside0.mk hbl; clear hb hbox hbl hx0 hx1 hx2 hx3 hx4 hx5 hx6 hx7)
        | ((with_reducible refine gate_store (t := 36) (p := 9) (v := .tmp 21) rfl ?_); refine step_store rfl rfl rfl BK5.out rfl (u := .agg (cE x)) (seg := (cE x).toList) rfl rfl (by kernel_rfl) (by simp [Value.oneCell']) (Nat.le_refl 8) (cur' := cE x) rfl ?_; intro w6 hb6 hg6 hs6; have HB6 := Aside0.mk (below_mput HB5.out hg6 (show wr.heap.size ≤ bl by have := HBL.out; omega) HB5.out.size); have n0 : w6.cell? ⟨bl, 0, none⟩ = some (.int .u64 x.f0) := (blk_cell hb6 0).trans rfl; have n1 : w6.cell? ⟨bl, 1, none⟩ = some (.int .i64 x.f1) := (blk_cell hb6 1).trans rfl; have n2 : w6.cell? ⟨bl, 2, none⟩ = some (.int .i64 x.f2.f0) := (blk_cell hb6 2).trans rfl; have n3 : w6.cell? ⟨bl, 3, none⟩ = some (.int .i64 x.f2.f1) := (blk_cell hb6 3).trans rfl; have n4 : w6.cell? ⟨bl, 4, none⟩ = some (.int .i64 x.f3) := (blk_cell hb6 4).trans rfl; have n5 : w6.cell? ⟨bl, 5, none⟩ = some (.int .i64 x.f4) := (blk_cell hb6 5).trans rfl; have n6 : w6.cell? ⟨bl, 6, none⟩ = some (.int .i64 x.f5) := (blk_cell hb6 6).trans rfl; have n7 : w6.cell? ⟨bl, 7, none⟩ = some (.int .i64 x.f6) := (blk_cell hb6 7).trans rfl; clear hb6 hg6 hs6 BK5 HB5))
        refine (HC.out x w6 ((HB6.out.block g HGW.out).trans HQ.out)).mono ?_
        rw [HP.out]
        rintro e w7 ⟨rfl, hb7⟩
        have HB7 := Aside0.mk (below_step HB6.out hb7)
        clear hb7 n0 n1 n2 n3 n4 n5 n6 n7 HB6
        have HF7 := Aside0.mk (HF.out.below HB7.out)
        have HA := Aside0.mk (arrow_calls (i : Int) t y w7 HF7.out HT.out (by have := HN.out; omega))
        go_wp2_with (go_at_call 52; (refine HA.out.mono ?_); rintro e w8 ⟨rfl, hf8, hk8⟩; have HF8 := Aside0.mk hf8; have HK8 := Aside0.mk hk8; clear hf8 hk8)
        go_roundw
        case rel => exact ⟨i + 1, by rw [HW.out], ⟨by omega⟩, ⟨HF8.out.imp (fun k q _ _ => q.elim id (fun q => .inr (Nat.le_trans HK.out.1 (Nat.le_trans HB7.out.size q)))) (fun f t w _ => eachP_yes (by rw [HX.out]; exact HP.out) f t w) (by omega)⟩, ⟨(HK.out.below HB7.out).then_ HK8.out (fun k q => by rcases q with q | q | ⟨q | q, q2⟩; exact .inl (.inl q); exact .inl (.inr (.inl q)); exact .inl (.inr (.inr ⟨q, q2⟩)); exact .inr q)⟩⟩
        case measure => exact meas_lt (Int.ofNat_lt.1 hlt) HW.out
      · have HP := Aside0.mk (show p x = false by simpa using hp)
        clear hp hil
        go_wp2_with (first
        | ((with_reducible refine gate_dst (N := 9) rfl ?_); refine box_event ?hg (N := 9) ?hd (cs := zE) (t := 36) ?hr ?_; (case hd => rfl); (case hg => rfl); (case hr => first | (go_simp; done) | (go_simp; rfl)); intro bl hbl w5 hbox hb; have HB5 := Aside0.mk hb; have BK5 := Aside0.mk hbox; have HBL := Aside0.mk hbl; clear hb hbox hbl hx0 hx1 hx2 hx3 hx4 hx5 hx6 hx7)
        | ((with_reducible refine gate_store (t := 36) (p := 9) (v := .tmp 21) rfl ?_); refine step_store rfl rfl rfl BK5.out rfl (u := .agg (cE x)) (seg := (cE x).toList) rfl rfl (by kernel_rfl) (by simp [Value.oneCell']) (Nat.le_refl 8) (cur' := cE x) rfl ?_; intro w6 hb6 hg6 hs6; have HB6 := Aside0.mk (below_mput HB5.out hg6 (show wr.heap.size ≤ bl by have := HBL.out; omega) HB5.out.size); have n0 : w6.cell? ⟨bl, 0, none⟩ = some (.int .u64 x.f0) := (blk_cell hb6 0).trans rfl; have n1 : w6.cell? ⟨bl, 1, none⟩ = some (.int .i64 x.f1) := (blk_cell hb6 1).trans rfl; have n2 : w6.cell? ⟨bl, 2, none⟩ = some (.int .i64 x.f2.f0) := (blk_cell hb6 2).trans rfl; have n3 : w6.cell? ⟨bl, 3, none⟩ = some (.int .i64 x.f2.f1) := (blk_cell hb6 3).trans rfl; have n4 : w6.cell? ⟨bl, 4, none⟩ = some (.int .i64 x.f3) := (blk_cell hb6 4).trans rfl; have n5 : w6.cell? ⟨bl, 5, none⟩ = some (.int .i64 x.f4) := (blk_cell hb6 5).trans rfl; have n6 : w6.cell? ⟨bl, 6, none⟩ = some (.int .i64 x.f5) := (blk_cell hb6 6).trans rfl; have n7 : w6.cell? ⟨bl, 7, none⟩ = some (.int .i64 x.f6) := (blk_cell hb6 7).trans rfl; clear hb6 hg6 hs6 BK5 HB5))
        refine (HC.out x w6 ((HB6.out.block g HGW.out).trans HQ.out)).mono ?_
        rw [HP.out]
        rintro e w7 ⟨rfl, hb7⟩
        have HB7 := Aside0.mk (below_step HB6.out hb7)
        clear hb7 n0 n1 n2 n3 n4 n5 n6 n7 HB6
        have HF7 := Aside0.mk (HF.out.below HB7.out)
        go_wp2
        go_roundw
        case rel => exact ⟨i + 1, by rw [HW.out], ⟨by omega⟩, ⟨HF7.out.imp (fun k q _ _ => q) (fun f t w _ => eachP_no (by rw [HX.out]; exact HP.out) f t w) (by omega)⟩, ⟨HK.out.below HB7.out⟩⟩
        case measure => exact meas_lt (Int.ofNat_lt.1 hlt) HW.out
    · have hi : i = t := by have := HI.out; omega
      subst hi
      go_wp2
      go_end0
      exact ⟨rfl, HF.out, HK.out⟩
end Go.Proofs.Ytkbfijkohngjjaa.Od
set_option linter.unusedVariables false
set_option linter.unusedSimpArgs false
namespace Go.Proofs.Ytkbfijkohngjjaa.Od
open Go.RowKit Go.Proofs.Ytkbfijkohngjjaa.Ef Go.Proofs.Ytkbfijkohngjjaa.Mp Go.Proofs.Ytkbfijkohngjjaa.QOrder Go.Proofs.YtkbfijkohngjjaaW.PrintWords Go.Proofs.YtkbfijkohngjjaaW.PrintLast Go.Proofs.YtkbfijkohngjjaaW.PrintMore
def p57 (e x : S36) : Bool := x.f3 == 19 && x.f4 == e.f4
set_option maxHeartbeats 2000000 in
set_option maxRecDepth 100000 in
theorem cl57_calls (e x : S36) (g : Nat) (w : World) (hb : w.heap[g]? = some (.cells (cE e) 36 (0, 0))) :
    Calls Try.prog 57 #[.agg (cE x), .pointer (some ⟨g, 0, none⟩)] w fun r w' => r = .returned (.bool (p57 e x)) ∧ Below w.heap.size w w' := by
  have hu36 := Try.underlying36
  have y5 : w.cell? ⟨g, 5, none⟩ = some (.int .i64 e.f4) := (blk_cell hb 5).trans rfl
  have y6 : w.cell? ⟨g, 6, none⟩ = some (.int .i64 e.f5) := (blk_cell hb 6).trans rfl
  have hl := blk_lt hb
  clear hb
  unfold p57
  rcases h0 : (x.f3 == 19) with _ | _
  all_goals (
    go_enter Try.func57, Try.ntmps57
    go_wp2_with ((with_reducible refine gate_dst (N := 2) rfl ?_); refine box_event ?hg (N := 2) ?hd (cs := cE x) (t := 36) ?hr ?_; (case hd => rfl); (case hg => rfl); (case hr => first | (go_simp; done) | (go_simp; rfl)); intro g2 hg2 w1 hbox hb; have HB := Aside0.mk hb; have x3 : w1.cell? ⟨g2, 4, none⟩ = some (.int .i64 x.f3) := (blk_cell hbox 4).trans rfl; have x4 : w1.cell? ⟨g2, 5, none⟩ = some (.int .i64 x.f4) := (blk_cell hbox 5).trans rfl; have x5 : w1.cell? ⟨g2, 6, none⟩ = some (.int .i64 x.f5) := (blk_cell hbox 6).trans rfl; replace y5 := (hb.cell (p := ⟨g, 5, none⟩) hl).trans y5; replace y6 := (hb.cell (p := ⟨g, 6, none⟩) hl).trans y6; clear hb hbox hg2)
    go_ret
    exact ⟨by first | rfl | (simp; done) | (simp [*]; done), HB.out⟩)
def p58 (e x : S36) : Bool := x.f3 == 21 && x.f4 == e.f4 && (e.f5 == 0 || x.f5 == 0)
set_option maxHeartbeats 2000000 in
set_option maxRecDepth 100000 in
theorem cl58_calls (e x : S36) (g : Nat) (w : World) (hb : w.heap[g]? = some (.cells (cE e) 36 (0, 0))) :
    Calls Try.prog 58 #[.agg (cE x), .pointer (some ⟨g, 0, none⟩)] w fun r w' => r = .returned (.bool (p58 e x)) ∧ Below w.heap.size w w' := by
  have hu36 := Try.underlying36
  have y5 : w.cell? ⟨g, 5, none⟩ = some (.int .i64 e.f4) := (blk_cell hb 5).trans rfl
  have y6 : w.cell? ⟨g, 6, none⟩ = some (.int .i64 e.f5) := (blk_cell hb 6).trans rfl
  have hl := blk_lt hb
  clear hb
  unfold p58
  rcases h0 : (x.f3 == 21) with _ | _ <;> rcases h1 : (x.f4 == e.f4) with _ | _ <;> rcases h2 : (e.f5 == 0) with _ | _
  all_goals (
    go_enter Try.func58, Try.ntmps58
    go_wp2_with ((with_reducible refine gate_dst (N := 2) rfl ?_); refine box_event ?hg (N := 2) ?hd (cs := cE x) (t := 36) ?hr ?_; (case hd => rfl); (case hg => rfl); (case hr => first | (go_simp; done) | (go_simp; rfl)); intro g2 hg2 w1 hbox hb; have HB := Aside0.mk hb; have x3 : w1.cell? ⟨g2, 4, none⟩ = some (.int .i64 x.f3) := (blk_cell hbox 4).trans rfl; have x4 : w1.cell? ⟨g2, 5, none⟩ = some (.int .i64 x.f4) := (blk_cell hbox 5).trans rfl; have x5 : w1.cell? ⟨g2, 6, none⟩ = some (.int .i64 x.f5) := (blk_cell hbox 6).trans rfl; replace y5 := (hb.cell (p := ⟨g, 5, none⟩) hl).trans y5; replace y6 := (hb.cell (p := ⟨g, 6, none⟩) hl).trans y6; clear hb hbox hg2)
    go_ret
    exact ⟨by first | rfl | (simp; done) | (simp [*]; done), HB.out⟩)
def p59 (e x : S36) : Bool := x.f3 == 21 && x.f4 == e.f5
set_option maxHeartbeats 2000000 in
set_option maxRecDepth 100000 in
theorem cl59_calls (e x : S36) (g : Nat) (w : World) (hb : w.heap[g]? = some (.cells (cE e) 36 (0, 0))) :
    Calls Try.prog 59 #[.agg (cE x), .pointer (some ⟨g, 0, none⟩)] w fun r w' => r = .returned (.bool (p59 e x)) ∧ Below w.heap.size w w' := by
  have hu36 := Try.underlying36
  have y5 : w.cell? ⟨g, 5, none⟩ = some (.int .i64 e.f4) := (blk_cell hb 5).trans rfl
  have y6 : w.cell? ⟨g, 6, none⟩ = some (.int .i64 e.f5) := (blk_cell hb 6).trans rfl
  have hl := blk_lt hb
  clear hb
  unfold p59
  rcases h0 : (x.f3 == 21) with _ | _
  all_goals (
    go_enter Try.func59, Try.ntmps59
    go_wp2_with ((with_reducible refine gate_dst (N := 2) rfl ?_); refine box_event ?hg (N := 2) ?hd (cs := cE x) (t := 36) ?hr ?_; (case hd => rfl); (case hg => rfl); (case hr => first | (go_simp; done) | (go_simp; rfl)); intro g2 hg2 w1 hbox hb; have HB := Aside0.mk hb; have x3 : w1.cell? ⟨g2, 4, none⟩ = some (.int .i64 x.f3) := (blk_cell hbox 4).trans rfl; have x4 : w1.cell? ⟨g2, 5, none⟩ = some (.int .i64 x.f4) := (blk_cell hbox 5).trans rfl; have x5 : w1.cell? ⟨g2, 6, none⟩ = some (.int .i64 x.f5) := (blk_cell hbox 6).trans rfl; replace y5 := (hb.cell (p := ⟨g, 5, none⟩) hl).trans y5; replace y6 := (hb.cell (p := ⟨g, 6, none⟩) hl).trans y6; clear hb hbox hg2)
    go_ret
    exact ⟨by first | rfl | (simp; done) | (simp [*]; done), HB.out⟩)
def p60 (e x : S36) : Bool := x.f3 == 22 && x.f4 == e.f4 && decide (x.f5 < 0)
set_option maxHeartbeats 2000000 in
set_option maxRecDepth 100000 in
theorem cl60_calls (e x : S36) (g : Nat) (w : World) (hb : w.heap[g]? = some (.cells (cE e) 36 (0, 0))) :
    Calls Try.prog 60 #[.agg (cE x), .pointer (some ⟨g, 0, none⟩)] w fun r w' => r = .returned (.bool (p60 e x)) ∧ Below w.heap.size w w' := by
  have hu36 := Try.underlying36
  have y5 : w.cell? ⟨g, 5, none⟩ = some (.int .i64 e.f4) := (blk_cell hb 5).trans rfl
  have y6 : w.cell? ⟨g, 6, none⟩ = some (.int .i64 e.f5) := (blk_cell hb 6).trans rfl
  have hl := blk_lt hb
  clear hb
  unfold p60
  rcases h0 : (x.f3 == 22) with _ | _ <;> rcases h1 : (x.f4 == e.f4) with _ | _
  all_goals (
    go_enter Try.func60, Try.ntmps60
    go_wp2_with ((with_reducible refine gate_dst (N := 2) rfl ?_); refine box_event ?hg (N := 2) ?hd (cs := cE x) (t := 36) ?hr ?_; (case hd => rfl); (case hg => rfl); (case hr => first | (go_simp; done) | (go_simp; rfl)); intro g2 hg2 w1 hbox hb; have HB := Aside0.mk hb; have x3 : w1.cell? ⟨g2, 4, none⟩ = some (.int .i64 x.f3) := (blk_cell hbox 4).trans rfl; have x4 : w1.cell? ⟨g2, 5, none⟩ = some (.int .i64 x.f4) := (blk_cell hbox 5).trans rfl; have x5 : w1.cell? ⟨g2, 6, none⟩ = some (.int .i64 x.f5) := (blk_cell hbox 6).trans rfl; replace y5 := (hb.cell (p := ⟨g, 5, none⟩) hl).trans y5; replace y6 := (hb.cell (p := ⟨g, 6, none⟩) hl).trans y6; clear hb hbox hg2)
    go_ret
    exact ⟨by first | rfl | (simp; done) | (simp [*]; done), HB.out⟩)
def p61 (e x : S36) : Bool := (x.f3 == 30 || x.f3 == 32) && x.f4 == e.f4
set_option maxHeartbeats 2000000 in
set_option maxRecDepth 100000 in
theorem cl61_calls (e x : S36) (g : Nat) (w : World) (hb : w.heap[g]? = some (.cells (cE e) 36 (0, 0))) :
    Calls Try.prog 61 #[.agg (cE x), .pointer (some ⟨g, 0, none⟩)] w fun r w' => r = .returned (.bool (p61 e x)) ∧ Below w.heap.size w w' := by
  have hu36 := Try.underlying36
  have y5 : w.cell? ⟨g, 5, none⟩ = some (.int .i64 e.f4) := (blk_cell hb 5).trans rfl
  have y6 : w.cell? ⟨g, 6, none⟩ = some (.int .i64 e.f5) := (blk_cell hb 6).trans rfl
  have hl := blk_lt hb
  clear hb
  unfold p61
  rcases h0 : (x.f3 == 30) with _ | _ <;> rcases h1 : (x.f3 == 32) with _ | _
  all_goals (
    go_enter Try.func61, Try.ntmps61
    go_wp2_with ((with_reducible refine gate_dst (N := 2) rfl ?_); refine box_event ?hg (N := 2) ?hd (cs := cE x) (t := 36) ?hr ?_; (case hd => rfl); (case hg => rfl); (case hr => first | (go_simp; done) | (go_simp; rfl)); intro g2 hg2 w1 hbox hb; have HB := Aside0.mk hb; have x3 : w1.cell? ⟨g2, 4, none⟩ = some (.int .i64 x.f3) := (blk_cell hbox 4).trans rfl; have x4 : w1.cell? ⟨g2, 5, none⟩ = some (.int .i64 x.f4) := (blk_cell hbox 5).trans rfl; have x5 : w1.cell? ⟨g2, 6, none⟩ = some (.int .i64 x.f5) := (blk_cell hbox 6).trans rfl; replace y5 := (hb.cell (p := ⟨g, 5, none⟩) hl).trans y5; replace y6 := (hb.cell (p := ⟨g, 6, none⟩) hl).trans y6; clear hb hbox hg2)
    go_ret
    exact ⟨by first | rfl | (simp; done) | (simp [*]; done), HB.out⟩)
end Go.Proofs.Ytkbfijkohngjjaa.Od
set_option linter.unusedVariables false
set_option linter.unusedSimpArgs false
namespace Go.Proofs.Ytkbfijkohngjjaa.Od
open Go.RowKit Go.Instr Go.Proofs.Ytkbfijkohngjjaa.Ef Go.Proofs.Ytkbfijkohngjjaa.Mp Go.Proofs.Ytkbfijkohngjjaa.QOrder Go.Proofs.YtkbfijkohngjjaaW.PrintWords Go.Proofs.YtkbfijkohngjjaaW.PrintLast Go.Proofs.YtkbfijkohngjjaaW.PrintMore
theorem eqK90 (d : Nat) (w : World) (x0 y0 : Int) (x1 y1 : Int) :
    (Op.equalIn (d + 2) 90 (.agg #[.int .i64 x0, .int .i64 x1]) (.agg #[.int .i64 y0, .int .i64 y1])).run Try.prog w = .ok (x0 == y0 && (x1 == y1)) w := by
  refine eqA_of Try.underlying90 (by kernel_rfl) ?_
  refine eqf_cons (by rfl) (by go_simp; rfl) (by go_simp; rfl) (by go_simp) ?_
  exact eqf_last (by rfl) (by go_simp; rfl) (by go_simp; rfl) (by go_simp)
theorem eq34k (a b : Int × Int) (w : World) : (Op.equal 34 (enc2 a) (enc2 b)).run Try.prog w = .ok (decide (a = b)) w := by
  have h := eqA34 9998 w a.1 b.1 a.2 b.2
  have : ((a.1 == b.1) && (a.2 == b.2)) = decide (a = b) := by
    obtain ⟨a1, a2⟩ := a
    obtain ⟨b1, b2⟩ := b
    simp only [Prod.mk.injEq, Bool.decide_and]
    rfl
  rw [← this, ← h]
  rfl
theorem eq90k (a b : Int × Int) (w : World) : (Op.equal 90 (enc2 a) (enc2 b)).run Try.prog w = .ok (decide (a = b)) w := by
  have h := eqK90 9998 w a.1 b.1 a.2 b.2
  have : ((a.1 == b.1) && (a.2 == b.2)) = decide (a = b) := by
    obtain ⟨a1, a2⟩ := a
    obtain ⟨b1, b2⟩ := b
    simp only [Prod.mk.injEq, Bool.decide_and]
    rfl
  rw [← this, ← h]
  rfl
theorem chk34 (e : Bool) (a b : Int) (n : Nat) (w : World) : (Instr.checkKey e (n + 2) 34 (.agg #[.int .i64 a, .int .i64 b])).run Try.prog w = .ok () w := by
  rw [show n + 2 = (n + 1) + 1 from rfl, Instr.checkKey]
  simp only [Sem.run_bind, run_underlying Try.underlying34, Result.andThen_ok]
  simp [Instr.checkKey, go_sem]
theorem chk90 (e : Bool) (a b : Int) (n : Nat) (w : World) : (Instr.checkKey e (n + 2) 90 (.agg #[.int .i64 a, .int .i64 b])).run Try.prog w = .ok () w := by
  rw [show n + 2 = (n + 1) + 1 from rfl, Instr.checkKey]
  simp only [Sem.run_bind, run_underlying Try.underlying90, Result.andThen_ok]
  simp [Instr.checkKey, go_sem]
theorem keyG : KeyOk Try.prog 34 enc2 := key2 Try.underlying34 (fun e k w => chk34 e k.1 k.2 9998 w) eq34k
theorem keyK : KeyOk Try.prog 90 enc2 := key2 Try.underlying90 (fun e k w => chk90 e k.1 k.2 9998 w) eq90k
theorem keyL : KeyOk Try.prog 2 (Value.int .i64) := int_key Try.underlying2
theorem zero3 (w : World) : (zeroValue 3).run Try.prog w = .ok (.int .i64 0) w := by kernel_rfl
theorem zero58 (w : World) : (zeroValue 58).run Try.prog w = .ok (.slice none 0 0) w := by kernel_rfl
theorem zero43 (w : World) : (zeroValue 43).run Try.prog w = .ok (.slice none 0 0) w := by kernel_rfl
/-! ### what a round adds -/
def upTo (Q : Props) (i : Nat) : Props := fun f t w => t < i ∧ Q f t w
theorem up_step {Q R P : Props} {i : Nat} (h1 : ∀ f w, Q f i w ↔ R f i w) (h2 : ∀ f t w, R f t w → t = i) : ∀ f t w, (orP (orP P (upTo Q i)) R f t w ↔ orP P (upTo Q (i + 1)) f t w) := by
  intro f t w
  constructor
  · rintro ((a | ⟨a, b⟩) | a)
    · exact .inl a
    · exact .inr ⟨by omega, b⟩
    · have := h2 _ _ _ a
      subst this
      exact .inr ⟨by omega, (h1 _ _).2 a⟩
  · rintro (a | ⟨a, b⟩)
    · exact .inl (.inl a)
    · by_cases e : t = i
      · subst e; exact .inr ((h1 _ _).1 b)
      · exact .inl (.inr ⟨by omega, b⟩)
theorem up_none {Q P : Props} {i : Nat} (h : ∀ f w, ¬ Q f i w) : ∀ f t w, (orP P (upTo Q i) f t w ↔ orP P (upTo Q (i + 1)) f t w) := by
  intro f t w
  rw [← up_step (P := P) (R := fun _ _ _ => False) (fun f w => ⟨fun q => h f w q, fun q => q.elim⟩) (fun _ _ _ q => q.elim)]
  exact ⟨.inl, fun q => q.elim id (fun q => q.elim)⟩
theorem up_one {Q P : Props} {i : Nat} {f0 w0 : Int} (h : ∀ f w, Q f i w ↔ (f = f0 ∧ w = w0)) : ∀ f t w, (addP (orP P (upTo Q i)) f0 i w0 f t w ↔ orP P (upTo Q (i + 1)) f t w) := by
  intro f t w
  rw [← up_step (P := P) (R := fun f t w => f = f0 ∧ t = i ∧ w = w0) (fun f w => (h f w).trans ⟨fun q => ⟨q.1, rfl, q.2⟩, fun q => ⟨q.1, q.2.2⟩⟩) (fun _ _ _ q => q.2.1)]
  exact Iff.rfl
theorem up_start {Q P : Props} : ∀ f t w, (P f t w ↔ orP P (upTo Q 0) f t w) := fun f t w => ⟨.inl, fun q => q.elim id (fun q => absurd q.1 (Nat.not_lt_zero _))⟩
theorem up_end {Q P : Props} {n : Nat} : ∀ f t w, t < n → (orP P (upTo Q n) f t w ↔ orP P Q f t w) := fun f t w ht => ⟨fun q => q.imp id (fun q => q.2), fun q => q.imp id (fun q => ⟨ht, q⟩)⟩
section
variable {w W W2 : World} {s1 : Nat} {F : Fnd} {l : List S36} {caps : List Int} {ok ok2 : Nat → Prop} {P P2 : Props} {N N2 : Nat} {vo : Value} {o : List S60} {wr : List Bool}
/-- wrong[t] = true -/
theorem FSx.mark (h : FSx w s1 F l caps ok P N W vo o wr) {t : Nat} (ht : t < l.length) {f : Int} (hf : (t : Int) ≤ f) (y : Int) : FSx w s1 F l caps ok (addP P f t y) N (W.setCell ⟨F.gw, t, none⟩ (.bool true)) vo o (wr.set t true) ∧ Kept W (W.setCell ⟨F.gw, t, none⟩ (.bool true)) (foot F s1 ok) := by
  have hb := blk_put h.bw t (.bool true) wr_set
  have hg : W.grownBy (W.setCell ⟨F.gw, t, none⟩ (.bool true)) (some F.gw) := (set_step h.bw t (.bool true) rfl).2
  have hk : Kept W (W.setCell ⟨F.gw, t, none⟩ (.bool true)) (foot F s1 ok) := Kept.of_grown hg (Kept.refl _ _) (fun k e => by cases e; exact .inl (.inr (.inl rfl)))
  exact ⟨⟨h.ro.step (foot_kept (w := w) hk) (below_mput h.ro.hb hg h.ro.hgw.1 h.ro.hb.size), blk_grown h.bf hg (fun e => h.ro.hgw.2.2 (Option.some.inj e).symm), hb, Kd.R_grown h.out hg (fun k q e => by cases e; exact absurd q.2 (Nat.not_le.2 h.ro.hgw.2.1)), h.told.bad ht hf, h.len⟩, hk⟩
/-- A block of somebody else's is written. -/
theorem FSx.grown (h : FSx w s1 F l caps ok P N W vo o wr) {g : Nat} (hg : W.grownBy W2 (some g)) (h1 : s1 ≤ g) (h2 : ¬ ok g) : FSx w s1 F l caps ok P N W2 vo o wr :=
  ⟨h.ro.step (Kept.of_grown hg (Kept.refl _ _) (fun k e => by cases e; exact .inl (.inr (.inr h1)))) (below_mput h.ro.hb hg (Nat.le_trans h.ro.hgf.1 (Nat.le_of_lt (Nat.lt_of_lt_of_le h.ro.hgf.2 h1))) h.ro.hb.size), blk_grown h.bf hg (fun e => by have := h.ro.hgf; cases e; omega), blk_grown h.bw hg (fun e => by have := h.ro.hgw; cases e; omega), Kd.R_grown h.out hg (fun k q e => by cases e; exact h2 q.1), h.told, h.len⟩
theorem FS.grown (h : FS w s1 F l caps ok P N W) {g : Nat} (hg : W.grownBy W2 (some g)) (h1 : s1 ≤ g) (h2 : ¬ ok g) : FS w s1 F l caps ok P N W2 := by obtain ⟨a, b, c, h⟩ := h; exact ⟨a, b, c, h.grown hg h1 h2⟩
theorem FS.mark (h : FS w s1 F l caps ok P N W) {t : Nat} (ht : t < l.length) {f : Int} (hf : (t : Int) ≤ f) (y : Int) : FS w s1 F l caps ok (addP P f t y) N (W.setCell ⟨F.gw, t, none⟩ (.bool true)) ∧ Kept W (W.setCell ⟨F.gw, t, none⟩ (.bool true)) (foot F s1 ok) := by obtain ⟨a, b, c, h⟩ := h; exact ⟨⟨a, b, _, (h.mark ht hf y).1⟩, (h.mark ht hf y).2⟩
/-- The finder's cells. -/
theorem FS.cells (h : FS w s1 F l caps ok P N W) : W.cell? ⟨F.gf, 0, none⟩ = some F.vl ∧ W.cell? ⟨F.gf, 2, none⟩ = some F.va ∧ W.cell? ⟨F.gf, 3, none⟩ = some (.map (some F.s)) ∧ W.cell? ⟨F.gf, 4, none⟩ = some (.map (some F.r)) ∧ W.cell? ⟨F.gf, 5, none⟩ = some (.slice (some ⟨F.gw, 0, none⟩) l.length l.length) ∧ W.cell? ⟨F.gf, 6, none⟩ = some (.map (some F.a)) ∧ W.cell? ⟨F.gf, 7, none⟩ = some (.map (some F.b)) := by
  obtain ⟨vo, o, wr, H⟩ := h
  exact ⟨(blk_cell H.bf 0).trans rfl, (blk_cell H.bf 2).trans rfl, (blk_cell H.bf 3).trans rfl, (blk_cell H.bf 4).trans rfl, (blk_cell H.bf 5).trans rfl, (blk_cell H.bf 6).trans rfl, (blk_cell H.bf 7).trans rfl⟩
theorem FS.wrong (h : FS w s1 F l caps ok P N W) {t : Nat} (ht : t < l.length) {b : Bool} (hb : b = true ↔ ∃ f w, P f t w ∧ (t : Int) ≤ f) : W.cell? ⟨F.gw, t, none⟩ = some (.bool b) ∧ W.frozen? ⟨F.gw, t, none⟩ = false := by
  obtain ⟨vo, o, wr, H⟩ := h
  have e : wr.getD t false = b := by
    have := (H.told.wr t ht).trans hb.symm
    cases h1 : wr.getD t false <;> cases b <;> simp_all
  exact ⟨by rw [← e]; exact (blk_cell H.bw t).trans (wr_get (by rw [H.told.len]; exact ht)), blk_frozen H.bw t⟩
end
end Go.Proofs.Ytkbfijkohngjjaa.Od
set_option linter.unusedVariables false
set_option linter.unusedSimpArgs false
namespace Go.Proofs.Ytkbfijkohngjjaa.Od
open Go.RowKit Go.Proofs.Ytkbfijkohngjjaa.Ef Go.Proofs.Ytkbfijkohngjjaa.Mp Go.Proofs.Ytkbfijkohngjjaa.QOrder Go.Proofs.YtkbfijkohngjjaaW.PrintWords Go.Proofs.YtkbfijkohngjjaaW.PrintLast Go.Proofs.YtkbfijkohngjjaaW.PrintMore
section
variable {κ : Type} [DecidableEq κ]
theorem look_shift (k : κ) : ∀ (l : List (κ × Value)) (i : Nat), (Mp.look k l i).map (·.2) = Mp.get k l := by
  have key : ∀ (l : List (κ × Value)) (i j : Nat), (Mp.look k l i).map (·.2) = (Mp.look k l j).map (·.2) := by
    intro l
    induction l with
    | nil => intro i j; rfl
    | cons p r ih =>
      intro i j
      obtain ⟨a, v⟩ := p
      unfold Mp.look
      by_cases e : a = k
      · rw [if_pos e, if_pos e]; rfl
      · rw [if_neg e, if_neg e]; exact ih _ _
  intro l i
  rw [look_get]
  exact key l i 0
theorem get_nil (k : κ) : Mp.get k ([] : List (κ × Value)) = none := rfl
theorem get_cons (k a : κ) (v : Value) (r : List (κ × Value)) : Mp.get k ((a, v) :: r) = if a = k then some v else Mp.get k r := by
  rw [look_get]
  unfold Mp.look
  by_cases e : a = k
  · rw [if_pos e, if_pos e]; rfl
  · rw [if_neg e, if_neg e]; exact look_shift k r 1
theorem get_ins (k c : κ) (v : Value) : ∀ l : List (κ × Value), Mp.get k (Mp.ins c v l) = if k = c then some v else Mp.get k l
  | [] => by
    unfold Mp.ins
    rw [get_cons, get_nil]
    by_cases e : k = c
    · subst e; rfl
    · rw [if_neg (fun q => e q.symm), if_neg e]
  | (a, u) :: r => by
    unfold Mp.ins
    by_cases e : a = c
    · subst e
      rw [if_pos rfl, get_cons, get_cons]
      by_cases e2 : k = a
      · subst e2; simp
      · rw [if_neg (fun q => e2 q.symm), if_neg e2, if_neg (fun q => e2 q.symm)]
    · rw [if_neg e, get_cons, get_cons, get_ins k c v r]
      by_cases e2 : a = k
      · subst e2
        rw [if_pos rfl, if_neg e, if_pos rfl]
      · rw [if_neg e2, if_neg e2]
theorem ins_keys (c : κ) (v : Value) : ∀ l : List (κ × Value), (∀ k, k ∈ (Mp.ins c v l).map (·.1) ↔ k = c ∨ k ∈ l.map (·.1)) ∧ ((l.map (·.1)).Nodup → ((Mp.ins c v l).map (·.1)).Nodup) ∧ (Mp.ins c v l).length ≤ l.length + 1
  | [] => ⟨fun k => by simp [Mp.ins], fun _ => by simp [Mp.ins], Nat.le_refl _⟩
  | (a, u) :: r => by
    obtain ⟨h1, h2, h3⟩ := ins_keys c v r
    unfold Mp.ins
    by_cases e : a = c
    · subst e
      rw [if_pos rfl]
      exact ⟨fun k => by simp, fun h => by simpa using h, by simp⟩
    · rw [if_neg e]
      refine ⟨fun k => ?_, fun h => ?_, by simp only [List.length_cons]; omega⟩
      · rw [List.map_cons, List.mem_cons, h1 k, List.map_cons, List.mem_cons]
        constructor
        · rintro (q | q | q)
          · exact .inr (.inl q)
          · exact .inl q
          · exact .inr (.inr q)
        · rintro (q | q | q)
          · exact .inr (.inl q)
          · exact .inl q
          · exact .inr (.inr q)
      · rw [List.map_cons, List.nodup_cons] at h ⊢
        exact ⟨fun q => ((h1 a).1 q).elim e h.1, h2 h.2⟩
theorem get_not {k : κ} : ∀ {l : List (κ × Value)}, k ∉ l.map (·.1) → Mp.get k l = none
  | [], _ => rfl
  | (a, u) :: r, h => by
    rw [List.map_cons, List.mem_cons] at h
    rw [get_cons, if_neg (fun e => h (.inl e.symm)), get_not (fun q => h (.inr q))]
theorem get_del (k c : κ) : ∀ {l : List (κ × Value)}, (l.map (·.1)).Nodup → Mp.get k (Mp.del c l) = (if k = c then none else Mp.get k l)
  | [], _ => by simp [Mp.del, get_nil]
  | (a, u) :: r, h => by
    rw [List.map_cons, List.nodup_cons] at h
    unfold Mp.del
    by_cases e : a = c
    · subst e
      rw [if_pos rfl]
      by_cases e2 : k = a
      · subst e2; rw [if_pos rfl]; exact get_not h.1
      · rw [if_neg e2, get_cons, if_neg (fun q => e2 q.symm)]
    · rw [if_neg e, get_cons, get_cons, get_del k c h.2]
      by_cases e2 : a = k
      · subst e2; rw [if_pos rfl, if_pos rfl, if_neg e]
      · rw [if_neg e2, if_neg e2]
theorem del_keys (c : κ) : ∀ {l : List (κ × Value)}, (∀ k, k ∈ (Mp.del c l).map (·.1) → k ∈ l.map (·.1)) ∧ ((l.map (·.1)).Nodup → ((Mp.del c l).map (·.1)).Nodup)
  | [] => ⟨fun k h => h, fun h => h⟩
  | (a, u) :: r => by
    obtain ⟨h1, h2⟩ := del_keys c (l := r)
    unfold Mp.del
    by_cases e : a = c
    · rw [if_pos e]
      exact ⟨fun k h => by rw [List.map_cons]; exact List.mem_cons_of_mem _ h, fun h => by rw [List.map_cons, List.nodup_cons] at h; exact h.2⟩
    · rw [if_neg e]
      refine ⟨fun k h => ?_, fun h => ?_⟩
      · rw [List.map_cons, List.mem_cons] at h ⊢
        exact h.imp id (h1 k)
      · rw [List.map_cons, List.nodup_cons] at h ⊢
        exact ⟨fun q => h.1 (h1 _ q), h2 h.2⟩
theorem get_of_mem {k : κ} {v : Value} : ∀ {l : List (κ × Value)}, (l.map (·.1)).Nodup → (k, v) ∈ l → Mp.get k l = some v
  | [], _, h => by cases h
  | (a, u) :: r, hn, h => by
    rw [List.map_cons, List.nodup_cons] at hn
    rcases List.mem_cons.1 h with e | e
    · cases e; rw [get_cons, if_pos rfl]
    · rw [get_cons, if_neg (fun q => hn.1 (by subst q; exact List.mem_map.2 ⟨_, e, rfl⟩))]
      exact get_of_mem hn.2 e
/-- Blocks from n on are x's. -/
def reown {τ : Type} (own : Nat → Option τ) (n : Nat) (x : Option τ) : Nat → Option τ := fun k => if k < n then own k else x
variable {τ α : Type}
def Rows (d : Kd α) (e : Nat) (W : World) (base : Nat) (own : Nat → Option τ) (tag : κ → τ) (m : List (κ × Value)) (cont : κ → List α) : Prop :=
  ∀ k, RowAt d e W base (fun q => own q = some (tag k)) (Mp.get k m) (cont k)
variable {d : Kd α} {e base : Nat} {W W2 : World} {own : Nat → Option τ} {tag : κ → τ} {m : List (κ × Value)} {cont cont2 : κ → List α}
theorem RowAt.mono {o : Option Value} {xs : List α} {ok ok2 : Nat → Prop} (h : RowAt d e W base ok o xs) (hm : ∀ k, ok k → k < W.heap.size → base ≤ k → ok2 k) : RowAt d e W base ok2 o xs := by
  cases o with
  | none => exact h
  | some v => exact Kd.Q_mono (Kd.Q_bound h) (fun k q => hm k q.1 q.2.2.1 q.2.1)
theorem RowAt.lower {o : Option Value} {xs : List α} {ok : Nat → Prop} {base2 : Nat} (h : RowAt d e W base ok o xs) (hb : base2 ≤ base) : RowAt d e W base2 ok o xs := by
  cases o with
  | none => exact h
  | some v => exact Kd.Q_lower h hb
theorem Rows.reown (h : Rows d e W base own tag m cont) (x : Option τ) : Rows d e W base (Od.reown own W.heap.size x) tag m cont :=
  fun k => (h k).mono (fun q hq hl _ => by unfold Od.reown; rw [if_pos hl]; exact hq)
theorem Rows.step (h : Rows d e W base own tag m cont) (hm : ∀ q k, own q = some (tag k) → q < W.heap.size → W2.heap[q]? = W.heap[q]?) : Rows d e W2 base own tag m cont :=
  fun k => (h k).step (fun q hq hl => hm q k hq hl)
theorem Rows.below (h : Rows d e W base own tag m cont) (hb : Below W.heap.size W W2) : Rows d e W2 base own tag m cont := h.step (fun q _ _ hl => hb.block q hl)
theorem Rows.grown (h : Rows d e W base own tag m cont) {row : Option Nat} (hg : W.grownBy W2 row) (hr : ∀ q k, row = some q → own q ≠ some (tag k)) : Rows d e W2 base own tag m cont :=
  h.step (fun q k hq hl => hg.block q hl (fun e => hr q k e.symm hq))
theorem Rows.nil (d : Kd α) (e : Nat) (W : World) (base : Nat) (own : Nat → Option τ) (tag : κ → τ) : Rows d e W base own tag [] (fun _ => []) := fun k => rfl
theorem Rows.eq (h : Rows d e W base own tag m cont) (he : ∀ k, cont k = cont2 k) : Rows d e W base own tag m cont2 := fun k => he k ▸ h k
/-- Another row at c. -/
theorem Rows.put (h : Rows d e W base own tag m cont) {c : κ} {v : Value} (hv : d.Q e W base (fun q => own q = some (tag c)) v (cont2 c)) (he : ∀ k, k ≠ c → cont2 k = cont k) : Rows d e W base own tag (Mp.ins c v m) cont2 := by
  intro k
  rw [get_ins]
  by_cases q : k = c
  · subst q; rw [if_pos rfl]; exact hv
  · rw [if_neg q, he k q]; exact h k
/-- A row is made longer: its world, its blocks. -/
theorem Rows.appended (h : Rows d e W base own tag m cont) (hi : ∀ a b, tag a = tag b → a = b) {c : κ} {v v2 : Value} {xs : List α} (hv : d.Q e W base (fun q => own q = some (tag c)) v (cont c)) (hg : W.grownBy W2 v.ownBlock)
    (hv2 : d.Q e W2 base (fun q => Od.reown own W.heap.size (some (tag c)) q = some (tag c)) v2 xs) :
    Rows d e W2 base (Od.reown own W.heap.size (some (tag c))) tag (Mp.ins c v2 m) (fun k => if k = c then xs else cont k) := by
  intro k
  rw [get_ins]
  by_cases q : k = c
  · subst q; rw [if_pos rfl]; simp only [if_pos rfl]; exact hv2
  · rw [if_neg q]
    simp only [if_neg q]
    have h1 := (h k).mono (ok2 := fun b => Od.reown own W.heap.size (some (tag c)) b = some (tag k) ∧ own b = some (tag k)) (fun b hb hl _ => ⟨by unfold Od.reown; rw [if_pos hl]; exact hb, hb⟩)
    have h2 := h1.step (fun b hb hl => hg.block b hl (fun e => by
      have h3 : own b = some (tag c) := hv.1 b e.symm
      rw [hb.2] at h3
      exact q (hi _ _ (Option.some.inj h3))))
    exact h2.mono (fun b hb _ _ => hb.1)
end
section
variable {P : Program} {ops : Array Oper} {rest : List Oper} {o : Oper} {a : Act} {Q' : Exit → Act → World → Prop} {α : Type}
/-- append of one element whose cells lie anywhere. -/
theorem Q_append_at (d : Kd α) {W : World} (base : Nat) (hgd : o.guard = none) (s x : Operand) (t e : TypeId) (z : Value) (bytes : Nat)
    (ho : o.op = .call { callee := .builtin .append, args := #[s, x], argTypes := #[t, t] })
    (ht : P.underlying t = some (.slice e)) (hinfo : (P.info? e).map (fun i => (i.zero, i.size, i.bytes)) = some (some z, d.sz, bytes)) (hz : z.cells.size = d.sz) (hs0 : 0 < d.sz) (hb0 : 0 < bytes)
    (v : Value) (xs : List α) (p : α) (cs : List Value) (ok okp : Nat → Prop) (ad : Addr) (cx : Nat) (hs : a.eval s = v) (hx : a.eval x = .slice (some ad) 1 cx) (hcell : ∀ j u, cs[j]? = some u → W.cell? (ad.add j) = some u) (hp : d.M W base okp p cs) (hokp : ∀ k, okp k → ok k ∧ some k ≠ v.ownBlock) (hfresh : ∀ k, W.heap.size ≤ k → ok k)
    (HO : d.Q e W base ok v xs) (hbase : base ≤ W.heap.size) (hl : (xs.length + 1) * bytes ≤ 140737488355328)
    (h : ∀ v1 w1, d.Q e w1 base ok v1 (xs ++ [p]) → W.grownBy w1 v.ownBlock → (v1.ownBlock = v.ownBlock ∨ ∃ b, v1.ownBlock = some b ∧ W.heap.size ≤ b) → wpList P ops Q' rest (a.put o.dst v1) w1) :
    wpList P ops Q' (o :: rest) a W := by
  obtain ⟨h0, inner, hown, hr⟩ := HO
  obtain ⟨i0, hi, hzz⟩ := Option.map_eq_some_iff.1 hinfo
  simp only [Prod.mk.injEq] at hzz
  obtain ⟨hz0, hz1, hz2⟩ := hzz
  have hlen : xs.length + 1 ≤ 140737488355328 := Nat.le_trans (Nat.le_mul_of_pos_right _ hb0) hl
  have hcl := d.K_len (d.K_of_M hp)
  obtain ⟨v1, w1, hrun, hq1, hg1, hat⟩ := q_append (P := P) W base t o.type e i0 z d.sz bytes ht hi hz0 hz1 hz2 hz hs0 v xs.length inner hown ad 1 cx cs (by rw [hcl, Nat.one_mul]) hcell (d.K_one (d.K_of_M hp)) (by omega) (by simp only [maxLen]; omega) hl hbase
  refine wpList_plain hgd fun K hK => ?_
  unfold Oper.wp execOp
  simp only [ho, resolve, invoke, builtin, Sem.run_bind, Sem.run_pure, Result.andThen_ok, List.map_toArray, List.map_cons, List.map_nil, hs, hx, hrun]
  exact hK _ _ (h v1 w1 (Kd.Q_appended h0 hr hp hokp hfresh hq1 hg1 hat) hg1 hat)
end
section
open Go.Instr
variable {κ : Type} [DecidableEq κ] {P : Program} {K E T : TypeId} {enc : κ → Value} (HK : KeyOk P K enc) (hT : P.underlying T = some (.map K E))
include HK hT
/-- mapEntry, with the value that it tells. -/
theorem run_entry' {z : Value} {w : World} (hz : (zeroValue E).run P w = .ok z w) {b : Nat} {l : List (κ × Value)} (hM : MapS enc w b l) (k : κ) :
    ∃ st w', (Instr.mapEntry T (.map (some b)) (enc k)).run P w = .ok (.tuple #[(Mp.get k l).getD z, .int .i64 (st : Nat)]) w' ∧ Ent enc w' b k l st ∧ w.grownBy w' (some b) ∧ w'.heap.size = w.heap.size := by
  obtain ⟨v0, st, w', h1, h2, h3, h4⟩ := run_entry HK hT hz hM k
  refine ⟨st, w', ?_, h2, h3, h4⟩
  rw [h1]
  obtain ⟨es, clock, hb, he, hs1, hs2⟩ := hM
  unfold Instr.mapEntry at h1
  have hg : (getObj b).run P w = .ok (.map es clock) w := by simp [getObj, Sem.run, hb]
  have hs : ∀ o : Obj, (setObj b o).run P w = .ok () (setO w b o) := fun o => by simp [setObj, Sem.run, hb, setO]
  simp only [Sem.run_bind, run_underlying hT, Result.andThen_ok, hg, HK.check, HK.find k es.toList l w he] at h1
  rw [look_get]
  cases hl : Mp.look k l 0 with
  | none =>
    rw [hl] at h1
    simp only [Sem.run_bind, hz, hs, Result.andThen_ok, Sem.run_pure] at h1
    cases h1
    rfl
  | some q =>
    obtain ⟨i, u⟩ := q
    rw [hl] at h1
    obtain ⟨_, h2', h3', _⟩ := look_at l k 0 i u hl
    rw [Nat.sub_zero] at h2'
    have hi : i < es.size := by
      have := congrArg List.length he
      have hl2 := (List.getElem?_eq_some_iff.1 h2').1
      simp at this
      omega
    have hk : es[i].key = enc k := by
      have e1 : (es.toList.map pr)[i]? = (l.map (en enc))[i]? := by rw [he]
      rw [List.getElem?_map, List.getElem?_map, h2', Array.getElem?_toList, Array.getElem?_eq_getElem hi] at e1
      simp only [Option.map_some, Option.some.injEq, pr, en, Prod.mk.injEq] at e1
      exact e1.1
    have hk1 : ((es[i]?).map (·.key)).getD (enc k) = enc k := by rw [Array.getElem?_eq_getElem hi]; exact hk
    simp only [hk1, Sem.run_bind, HK.stays, Result.andThen_ok, hs, Sem.run_pure] at h1
    injection h1 with h5 _
    injection h5 with h6
    have h7 := congrArg (fun (a : Array Value) => a[0]?) h6
    simp at h7
    rw [← h7]
    rfl
end
section
variable {κ : Type} [DecidableEq κ] {P : Program} {ops : Array Oper} {rest : List Oper} {o : Oper} {a : Act} {Q : Exit → Act → World → Prop} {K E T : TypeId} {enc : κ → Value} {W : World}
theorem step_entry' (HK : KeyOk P K enc) (hT : P.underlying T = some (.map K E)) (hgd : o.guard = none) {x y : Operand} (ho : o.op = .mapEntry T x y) {z : Value} (hz : (zeroValue E).run P W = .ok z W) {b : Nat} {l : List (κ × Value)}
    (hM : MapS enc W b l) (k : κ) (hx : a.eval x = .map (some b)) (hy : a.eval y = enc k)
    (h : ∀ (st : Nat) w1, Ent enc w1 b k l st → W.grownBy w1 (some b) → w1.heap.size = W.heap.size → wpList P ops Q rest (a.put o.dst (.tuple #[(Mp.get k l).getD z, .int .i64 (st : Nat)])) w1) : wpList P ops Q (o :: rest) a W := by
  refine wpList_plain hgd fun Kc hK => ?_
  obtain ⟨st, w', h1, h2, h3, h4⟩ := run_entry' HK hT hz hM k
  have hr : (execOp a.eval o).run P W = .ok (.value (.tuple #[(Mp.get k l).getD z, .int .i64 (st : Nat)])) w' := by
    unfold execOp
    simp only [ho, hx, hy, Sem.run_bind, h1, Result.andThen_ok]
    rfl
  unfold Oper.wp
  rw [hr]
  exact hK _ _ (h st w' h2 h3 h4)
end
end Go.Proofs.Ytkbfijkohngjjaa.Od
set_option linter.unusedVariables false
set_option linter.unusedSimpArgs false
namespace Go.Proofs.Ytkbfijkohngjjaa.Od
open Go.RowKit Go.Proofs.Ytkbfijkohngjjaa.QOrder Go.Proofs.YtkbfijkohngjjaaW.PrintWords Go.Proofs.YtkbfijkohngjjaaW.PrintLast Go.Proofs.YtkbfijkohngjjaaW.PrintMore
def cw (l : List S36) (q : List Nat) (c : Int) : List S34 := (q.filter (fun k => (E l k).f5 == c)).map (fun k => (E l k).f2)
def gk (g : S34) : Int × Int := (g.f0, g.f1)
def ct (l : List S36) (t : List (Nat × Nat)) (g : Int × Int) : List Int := (t.filter (fun p => decide (gk (E l p.1).f2 = g))).map (fun p => (p.2 : Int))
def addAll (gs : List S34) (i : Int) (cont : Int × Int → List Int) : Int × Int → List Int := fun g => cont g ++ (gs.filter (fun x => decide (gk x = g))).map (fun _ => i)
theorem samG_gk {a b : S34} : samG a b = decide (gk a = gk b) := by
  cases a; cases b
  unfold samG gk
  simp only [Prod.mk.injEq, Bool.decide_and]
  rfl
theorem cw_len (l : List S36) (q : List Nat) (c : Int) : (cw l q c).length ≤ q.length := by
  unfold cw
  rw [List.length_map]
  exact List.length_filter_le _ _
theorem ct_len (l : List S36) (t : List (Nat × Nat)) (g : Int × Int) : (ct l t g).length ≤ t.length := by
  unfold ct
  rw [List.length_map]
  exact List.length_filter_le _ _
theorem cw_app (l : List S36) (q : List Nat) (i : Nat) (c : Int) : cw l (q ++ [i]) c = if (E l i).f5 = c then cw l q c ++ [(E l i).f2] else cw l q c := by
  unfold cw
  rw [List.filter_append]
  by_cases e : (E l i).f5 = c
  · rw [if_pos e]; simp [e]
  · rw [if_neg e]; simp [e]
theorem len_split {α : Type} (p : α → Bool) : ∀ q : List α, (q.filter (fun x => !p x)).length + (q.filter p).length = q.length
  | [] => rfl
  | a :: q => by
    have := len_split p q
    by_cases c : p a = true
    · simp [c]; omega
    · simp [c]; omega
theorem len_erase {α : Type} (p : α → Bool) : ∀ q : List α, (q.eraseP p).length + ((q.filter p).take 1).length = q.length
  | [] => rfl
  | a :: q => by
    have := len_erase p q
    by_cases c : p a = true
    · simp [c]
    · simp [c]; simp at this; omega
theorem sig_len (l : List S36) : ∀ i, (sigState l i).1.length + (sigState l i).2.length ≤ i
  | 0 => Nat.le_refl _
  | i + 1 => by
    have ih := sig_len l i
    show (sigStep l i (sigState l i)).1.length + (sigStep l i (sigState l i)).2.length ≤ i + 1
    unfold sigStep
    by_cases c1 : (E l i).f3 = 4 ∧ (E l i).f4 = 42
    · rw [if_pos c1]
      simp only [List.length_append, List.length_singleton]
      omega
    · rw [if_neg c1]
      by_cases c2 : (E l i).f3 = 24
      · rw [if_pos c2]
        by_cases c3 : (E l i).f5 ≠ 0
        · rw [if_pos c3]
          have := len_split (fun q => (E l q).f5 == (E l i).f4) (sigState l i).1
          simp only [List.length_append, List.length_map]
          omega
        · rw [if_neg c3]
          have := len_erase (fun q => (E l q).f5 == (E l i).f4) (sigState l i).1
          simp only [List.length_append, List.length_map]
          omega
      · rw [if_neg c2]
        by_cases c4 : (E l i).f3 = 25
        · rw [if_pos c4]
          have := List.length_filter_le (fun q : Nat × Nat => !(samG (E l q.1).f2 (E l i).f2)) (sigState l i).2
          simp only []
          omega
        · rw [if_neg c4]
          omega
theorem sig_other {l : List S36} {i : Nat} (h1 : ¬ ((E l i).f3 = 4 ∧ (E l i).f4 = 42)) (h2 : (E l i).f3 ≠ 24) (h3 : (E l i).f3 ≠ 25) : sigState l (i + 1) = sigState l i := by
  show sigStep l i (sigState l i) = _
  unfold sigStep
  rw [if_neg h1, if_neg h2, if_neg h3]
theorem sig_wait {l : List S36} {i : Nat} (h1 : (E l i).f3 = 4 ∧ (E l i).f4 = 42) : sigState l (i + 1) = ((sigState l i).1 ++ [i], (sigState l i).2) := by
  show sigStep l i (sigState l i) = _
  unfold sigStep
  rw [if_pos h1]
theorem sig_await {l : List S36} {i : Nat} (h3 : (E l i).f3 = 25) : sigState l (i + 1) = ((sigState l i).1, (sigState l i).2.filter (fun q => !(samG (E l q.1).f2 (E l i).f2))) := by
  show sigStep l i (sigState l i) = _
  unfold sigStep
  rw [if_neg (by rw [h3]; simp), if_neg (by rw [h3]; simp), if_pos h3]
def many (l : List S36) (i : Nat) : Nat := if (E l i).f5 ≠ 0 then (cw l (sigState l i).1 (E l i).f4).length else min 1 (cw l (sigState l i).1 (E l i).f4).length
theorem filter_swap {α : Type} (p q : α → Bool) (h : ∀ x, q x = true → p x = true) : ∀ l : List α, (l.filter p).filter q = l.filter q
  | [] => rfl
  | a :: l => by
    have ih := filter_swap p q h l
    by_cases c : q a = true
    · simp [c, h a c, ih]
    · by_cases c2 : p a = true
      · simp [c, c2, ih]
      · simp [c, c2, ih]
theorem filter_never {α : Type} (p q : α → Bool) (h : ∀ x, q x = true → p x = false) : ∀ l : List α, (l.filter p).filter q = []
  | [] => rfl
  | a :: l => by
    have ih := filter_never p q h l
    by_cases c : q a = true
    · simp [h a c, ih]
    · by_cases c2 : p a = true
      · simp [c, c2, ih]
      · simp [c2, ih]
theorem erase_filter_same {α : Type} (p : α → Bool) : ∀ l : List α, (l.eraseP p).filter p = (l.filter p).drop 1
  | [] => rfl
  | a :: l => by
    have ih := erase_filter_same p l
    by_cases c : p a = true
    · simp [c]
    · simp [c, ih]
theorem erase_filter_other {α : Type} (p q : α → Bool) (h : ∀ x, q x = true → p x = false) : ∀ l : List α, (l.eraseP p).filter q = l.filter q
  | [] => rfl
  | a :: l => by
    have ih := erase_filter_other p q h l
    by_cases c : p a = true
    · have : ¬ q a = true := fun e => by rw [h a e] at c; cases c
      simp [c, this]
    · by_cases c2 : q a = true
      · simp [c, c2, ih]
      · simp [c, c2, ih]
theorem ct_moved (l : List S36) (t : List (Nat × Nat)) (mv : List Nat) (i : Nat) (g : Int × Int) : ct l (t ++ mv.map (fun q => (q, i))) g = addAll (mv.map (fun k => (E l k).f2)) (i : Int) (ct l t) g := by
  unfold ct addAll
  rw [List.filter_append, List.map_append]
  congr 1
  induction mv with
  | nil => rfl
  | cons a mv ih =>
    simp only [List.map_cons, List.filter_cons]
    by_cases c : gk (E l a).f2 = g
    · simp [c, ih]
    · simp [c, ih]
theorem sig_signal {l : List S36} {i : Nat} (h2 : (E l i).f3 = 24) : (∀ c, cw l (sigState l (i + 1)).1 c = if c = (E l i).f4 then (cw l (sigState l i).1 (E l i).f4).drop (many l i) else cw l (sigState l i).1 c) ∧
    ∀ g, ct l (sigState l (i + 1)).2 g = addAll ((cw l (sigState l i).1 (E l i).f4).take (many l i)) (i : Int) (ct l (sigState l i).2) g := by
  have e : sigState l (i + 1) = sigStep l i (sigState l i) := rfl
  rw [e]
  unfold sigStep many
  rw [if_neg (by rw [h2]; simp), if_pos h2]
  generalize sigState l i = st
  obtain ⟨q, t⟩ := st
  by_cases c3 : (E l i).f5 ≠ 0
  · rw [if_pos c3, if_pos c3]
    simp only []
    refine ⟨fun c => ?_, fun g => ?_⟩
    · rw [List.drop_length]
      by_cases ec : c = (E l i).f4
      · rw [if_pos ec]
        unfold cw
        rw [filter_never _ _ (fun x hx => by rw [beq_iff_eq] at hx; simp [hx, ec])]
        rfl
      · rw [if_neg ec]
        unfold cw
        rw [filter_swap _ _ (fun x hx => by rw [beq_iff_eq] at hx; simp [hx, ec])]
    · rw [List.take_length]
      exact ct_moved l t _ i g
  · rw [if_neg c3, if_neg c3]
    simp only []
    have hm : ∀ (α : Type) (x : List α), x.take (min 1 x.length) = x.take 1 := fun α x => by cases x <;> simp
    have hd : ∀ (α : Type) (x : List α), x.drop (min 1 x.length) = x.drop 1 := fun α x => by cases x <;> simp
    refine ⟨fun c => ?_, fun g => ?_⟩
    · rw [hd]
      by_cases ec : c = (E l i).f4
      · rw [if_pos ec]
        subst ec
        unfold cw
        rw [erase_filter_same, List.map_drop]
      · rw [if_neg ec]
        unfold cw
        rw [erase_filter_other _ _ (fun x hx => by rw [beq_iff_eq] at hx; simp [hx, ec])]
    · rw [hm]
      unfold cw
      rw [← List.map_take]
      exact ct_moved l t _ i g
theorem many_le (l : List S36) (i : Nat) : many l i ≤ (cw l (sigState l i).1 (E l i).f4).length := by
  unfold many
  by_cases c : (E l i).f5 ≠ 0
  · rw [if_pos c]; exact Nat.le_refl _
  · rw [if_neg c]; exact Nat.min_le_right _ _
theorem ct_await (l : List S36) (t : List (Nat × Nat)) (g0 : S34) (g : Int × Int) : ct l (t.filter (fun q => !(samG (E l q.1).f2 g0))) g = if g = gk g0 then [] else ct l t g := by
  unfold ct
  by_cases e : g = gk g0
  · rw [if_pos e, filter_never _ _ (fun x hx => by rw [decide_eq_true_eq] at hx; rw [samG_gk, hx, e]; simp)]
    rfl
  · rw [if_neg e, filter_swap _ _ (fun x hx => by rw [decide_eq_true_eq] at hx; rw [samG_gk, hx]; simp [e])]
theorem ct_sigs (l : List S36) (i : Nat) : ct l (sigState l i).2 (gk (E l i).f2) = (sigsAt l i).map (fun (s : Nat) => (s : Int)) := by
  unfold ct sigsAt
  rw [List.map_map]
  have : (fun p : Nat × Nat => decide (gk (E l p.1).f2 = gk (E l i).f2)) = fun q => samG (E l q.1).f2 (E l i).f2 := by
    funext p
    rw [samG_gk]
  rw [this]
  rfl
theorem addAll_snoc (gs : List S34) (x : S34) (i : Int) (cont : Int × Int → List Int) (g : Int × Int) : addAll (gs ++ [x]) i cont g = if g = gk x then addAll gs i cont g ++ [i] else addAll gs i cont g := by
  unfold addAll
  rw [List.filter_append, List.map_append]
  by_cases e : g = gk x
  · rw [if_pos e]; simp [e]
  · rw [if_neg e]
    have : ¬ gk x = g := fun q => e q.symm
    simp [this]
theorem sigs_len (l : List S36) (i : Nat) : (sigsAt l i).length ≤ i := by
  have h := sig_len l i
  unfold sigsAt
  rw [List.length_map]
  have := List.length_filter_le (fun q : Nat × Nat => samG (E l q.1).f2 (E l i).f2) (sigState l i).2
  omega
theorem wait_cw {l : List S36} {i : Nat} (h1 : (E l i).f3 = 4 ∧ (E l i).f4 = 42) (k : Int) : (if k = (E l i).f5 then cw l (sigState l i).1 (E l i).f5 ++ [(E l i).f2] else cw l (sigState l i).1 k) = cw l (sigState l (i + 1)).1 k := by
  rw [sig_wait h1, cw_app]
  by_cases e : k = (E l i).f5
  · rw [if_pos e, if_pos e.symm, e]
  · rw [if_neg e, if_neg (fun q => e q.symm)]
theorem wait_ct {l : List S36} {i : Nat} (h1 : (E l i).f3 = 4 ∧ (E l i).f4 = 42) (k : Int × Int) : ct l (sigState l i).2 k = ct l (sigState l (i + 1)).2 k := by rw [sig_wait h1]
theorem await_cw {l : List S36} {i : Nat} (h3 : (E l i).f3 = 25) (k : Int) : cw l (sigState l i).1 k = cw l (sigState l (i + 1)).1 k := by rw [sig_await h3]
theorem await_ct {l : List S36} {i : Nat} (h3 : (E l i).f3 = 25) (k : Int × Int) : (if k = gk (E l i).f2 then [] else ct l (sigState l i).2 k) = ct l (sigState l (i + 1)).2 k := by rw [sig_await h3, ct_await]
def sigP (l : List S36) (i k : Nat) : Props := fun f t w => t = i ∧ w = 6 ∧ ∃ j s : Nat, j < k ∧ (sigsAt l i)[j]? = some s ∧ f = (s : Int)
theorem cond_sigs {l : List S36} {i : Nat} (h3 : (E l i).f3 = 25) (f w : Int) : condP l f i w ↔ sigP l i (sigsAt l i).length f i w := by
  unfold condP sigP
  constructor
  · rintro ⟨_, s, hs, a, b⟩
    obtain ⟨j, hj⟩ := List.getElem?_of_mem hs
    exact ⟨rfl, b, j, s, (List.getElem?_eq_some_iff.1 hj).1, hj, a⟩
  · rintro ⟨_, b, j, s, _, hj, a⟩
    exact ⟨h3, s, List.mem_of_getElem? hj, a, b⟩
theorem sigP_step {l : List S36} {i k s : Nat} {P : Props} (h : (sigsAt l i)[k]? = some s) : ∀ f t w, ((P f t w ∨ sigP l i k f t w) ∨ (f = (s : Int) ∧ t = i ∧ w = 6) ↔ P f t w ∨ sigP l i (k + 1) f t w) := by
  intro f t w
  constructor
  · rintro ((q | ⟨a, b, j, s2, c, d, e⟩) | ⟨a, b, c⟩)
    · exact .inl q
    · exact .inr ⟨a, b, j, s2, by omega, d, e⟩
    · exact .inr ⟨b, c, k, s, by omega, h, a⟩
  · rintro (q | ⟨a, b, j, s2, c, d, e⟩)
    · exact .inl (.inl q)
    · by_cases z : j = k
      · subst z
        rw [h] at d
        cases d
        exact .inr ⟨e, a, b⟩
      · exact .inl (.inr ⟨a, b, j, s2, by omega, d, e⟩)
theorem cond_no {l : List S36} {i : Nat} (h : (E l i).f3 ≠ 25) (f w : Int) : ¬ condP l f i w := fun q => h q.1
end Go.Proofs.Ytkbfijkohngjjaa.Od

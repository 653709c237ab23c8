/-  -/
import Derived.Calls
import Derived.Tactics
import Derived.Below
import Derived.WalkKit
import Derived.Laws.AppendOwn
import Derived.Deep.Draws
import Derived.Test.YtdlikjfffdpmiaaQProperx0
import Derived.Test.YtdlikjfffdpmiaaQProperx48
import Derived.Test.YtdlikjfffdpmiaaQProperx35
import Derived.Outline
import Derived.Carry
/- A map's block read as a list of keys and values, in the order in which they came in: look-up, store, delete, len, as steps of a walk.
   Conditions: the key's type is one whose keys the model compares plainly (KeyOk). -/
set_option linter.unusedVariables false
set_option linter.unusedSimpArgs false
namespace Go.Proofs.Ytdlikjfffdpmiaa.Mp
open Go.Instr Go.RowKit
section
variable {κ : Type} [DecidableEq κ]
def look (k : κ) : List (κ × Value) → Nat → Option (Nat × Value)
  | [], _ => none
  | (a, v) :: r, i => if a = k then some (i, v) else look k r (i + 1)
def ins (k : κ) (v : Value) : List (κ × Value) → List (κ × Value)
  | [] => [(k, v)]
  | (a, u) :: r => if a = k then (k, v) :: r else (a, u) :: ins k v r
def del (k : κ) : List (κ × Value) → List (κ × Value)
  | [] => []
  | (a, u) :: r => if a = k then r else (a, u) :: del k r
def get (k : κ) (l : List (κ × Value)) : Option Value := (look k l 0).map (·.2)
def pr (e : MapEntry) : Value × Value := (e.key, e.val)
def en (enc : κ → Value) (p : κ × Value) : Value × Value := (enc p.1, p.2)
def MapOf (enc : κ → Value) (w : World) (b : Nat) (l : List (κ × Value)) : Prop :=
  ∃ es clock, w.heap[b]? = some (.map es clock) ∧ es.toList.map pr = l.map (en enc)
/-- What a key's type must tell. -/
structure KeyOk (P : Program) (K : TypeId) (enc : κ → Value) : Prop where
  check : ∀ (e : Bool) (k : κ) (w : World), (checkKey e 10000 K (enc k)).run P w = .ok () w
  find : ∀ (k : κ) (es : List MapEntry) (l : List (κ × Value)) (w : World), es.map pr = l.map (en enc) → (findKey K (enc k) es).run P w = .ok (look k l 0) w
  stays : ∀ (k : κ) (w : World), (keyThatStays (enc k) (enc k)).run P w = .ok (enc k) w
theorem look_at : ∀ (l : List (κ × Value)) (k : κ) (i0 i : Nat) (v : Value), look k l i0 = some (i, v) → i0 ≤ i ∧ l[i - i0]? = some (k, v) ∧ (∀ u, ins k u l = l.set (i - i0) (k, u)) ∧ del k l = l.eraseIdx (i - i0) := by
  intro l
  induction l with
  | nil => intro k i0 i v h; cases h
  | cons p r ih =>
    intro k i0 i v h
    obtain ⟨a, u⟩ := p
    unfold look at h
    by_cases e : a = k
    · rw [if_pos e] at h
      obtain ⟨rfl, rfl⟩ := Prod.mk.inj (Option.some.inj h)
      subst e
      refine ⟨Nat.le_refl _, by simp, fun u' => ?_, ?_⟩
      · simp [ins]
      · simp [del]
    · rw [if_neg e] at h
      obtain ⟨h1, h2, h3, h4⟩ := ih k (i0 + 1) i v h
      have hi : i - i0 = (i - (i0 + 1)) + 1 := by omega
      refine ⟨by omega, by rw [hi]; simpa using h2, fun u' => ?_, ?_⟩
      · rw [hi]; simp [ins, e, h3 u']
      · rw [hi]; simp [del, e, h4]
theorem look_none : ∀ (l : List (κ × Value)) (k : κ) (i0 : Nat), look k l i0 = none → (∀ u, ins k u l = l ++ [(k, u)]) ∧ del k l = l := by
  intro l
  induction l with
  | nil => intro k i0 _; exact ⟨fun u => rfl, rfl⟩
  | cons p r ih =>
    intro k i0 h
    obtain ⟨a, u⟩ := p
    unfold look at h
    by_cases e : a = k
    · rw [if_pos e] at h; cases h
    · rw [if_neg e] at h
      obtain ⟨h1, h2⟩ := ih k (i0 + 1) h
      exact ⟨fun u' => by simp [ins, e, h1 u'], by simp [del, e, h2]⟩
theorem look_get (l : List (κ × Value)) (k : κ) : get k l = (look k l 0).map (·.2) := rfl
/-! ### keys of whole numbers -/
theorem findNow_int {q : IntKind} (k : Int) : ∀ (es : List MapEntry) (l : List (Int × Value)) (i : Nat), es.map pr = l.map (en (Value.int q)) → findNow (.int q) (.int q k) es i = some (look k l i) := by
  intro es
  induction es with
  | nil =>
    intro l i h
    cases l with
    | nil => rfl
    | cons p r => cases h
  | cons e es ih =>
    intro l i h
    cases l with
    | nil => cases h
    | cons p r =>
      obtain ⟨a, v⟩ := p
      simp only [List.map_cons, List.cons.injEq, pr, en, Prod.mk.injEq] at h
      obtain ⟨⟨hk, hv⟩, hr⟩ := h
      unfold findNow look
      rw [hk, hv]
      simp only [sameNow, if_true]
      by_cases c : a = k
      · subst c; simp
      · have : (k == a) = false := by simpa using fun e => c e.symm
        rw [this, if_neg c]
        exact ih r (i + 1) hr
theorem int_key {P : Program} {K : TypeId} {q : IntKind} (h : P.underlying K = some (.int q)) : KeyOk P K (Value.int q) where
  check := fun e k w => by
    show (checkKey e (9999 + 1) K (Value.int q k)).run P w = _
    rw [checkKey]
    simp only [Sem.run_bind, run_underlying h, Result.andThen_ok]
    rfl
  find := fun k es l w he => by
    unfold findKey
    simp only [Sem.run_bind, run_underlying h, Result.andThen_ok, findNow_int k es l 0 he]
    rfl
  stays := fun k w => by
    unfold keyThatStays
    have : sameBits 10000 (Value.int q k) (Value.int q k) = true := by
      show sameBits (9999 + 1) (Value.int q k) (Value.int q k) = true
      simp [sameBits]
    rw [this, if_pos rfl]
    rfl
/-! ### the operations -/
variable {P : Program} {K E T : TypeId} {enc : κ → Value} (HK : KeyOk P K enc) (hT : P.underlying T = some (.map K E))
include HK hT
theorem run_look {z : Value} {w : World} (hz : (zeroValue E).run P w = .ok z w) {b : Nat} {l : List (κ × Value)} (hM : MapOf enc w b l) (k : κ) (ok : Bool) :
    (Instr.lookup T (.map (some b)) (enc k) ok).run P w = .ok (if ok = true then .tuple #[(get k l).getD z, .bool (get k l).isSome] else (get k l).getD z) w := by
  obtain ⟨es, clock, hb, he⟩ := hM
  unfold Instr.lookup
  have hg : (getObj b).run P w = .ok (.map es clock) w := by simp [getObj, Sem.run, hb]
  simp only [Sem.run_bind, run_underlying hT, Result.andThen_ok, hg, Sem.run_pure, HK.check, HK.find k es.toList l w he]
  rw [look_get]
  cases look k l 0 with
  | none => simp only [Sem.run_bind, hz, Result.andThen_ok, Sem.run_pure]; cases ok <;> rfl
  | some p => obtain ⟨i, v⟩ := p; simp only [Sem.run_pure, Result.andThen_ok]; cases ok <;> rfl
end
/-- The world with another object in a block. -/
def setO (w : World) (b : Nat) (o : Obj) : World := { w with heap := w.heap.setIfInBounds b o }
theorem setO_at {w : World} {b : Nat} {x : Obj} (h : w.heap[b]? = some x) (o : Obj) : (setO w b o).heap[b]? = some o := by
  have hl : b < w.heap.size := (Array.getElem?_eq_some_iff.1 h).1
  simp [setO, hl]
theorem setO_grown (w : World) (b : Nat) (o : Obj) : w.grownBy (setO w b o) (some b) :=
  ⟨rfl, rfl, rfl, by simp [setO], fun k hk hne => by
    have : b ≠ k := fun e => hne (by rw [e])
    simp [setO, this]⟩
theorem setO_size (w : World) (b : Nat) (o : Obj) : (setO w b o).heap.size = w.heap.size := by simp [setO]
section
variable {κ : Type} {enc : κ → Value}
theorem MapOf.kept {w w' : World} {b : Nat} {l : List (κ × Value)} (h : MapOf enc w b l) (hb : w'.heap[b]? = w.heap[b]?) : MapOf enc w' b l := by
  obtain ⟨es, cl, h1, h2⟩ := h
  exact ⟨es, cl, hb.trans h1, h2⟩
theorem MapOf.lt {w : World} {b : Nat} {l : List (κ × Value)} (h : MapOf enc w b l) : b < w.heap.size := by
  obtain ⟨es, cl, h1, h2⟩ := h
  exact (Array.getElem?_eq_some_iff.1 h1).1
theorem MapOf.grown {w w' : World} {b : Nat} {l : List (κ × Value)} {row : Option Nat} (h : MapOf enc w b l) (hg : w.grownBy w' row) (hne : some b ≠ row) : MapOf enc w' b l := h.kept (hg.block b h.lt hne)
theorem MapOf.below {w w' : World} {b : Nat} {l : List (κ × Value)} (h : MapOf enc w b l) (hb : Below w.heap.size w w') : MapOf enc w' b l := h.kept (hb.block b h.lt)
theorem MapOf.alloc {w : World} {b : Nat} {l : List (κ × Value)} (h : MapOf enc w b l) (o : Obj) : MapOf enc (w.alloc o) b l := h.grown (World.grownBy_alloc w o none) (by simp)
theorem MapOf.drewN {w : World} {b : Nat} {l : List (κ × Value)} (h : MapOf enc w b l) (n : Nat) : MapOf enc (w.drewN n) b l := h
theorem MapOf.drew {w : World} {b : Nat} {l : List (κ × Value)} (h : MapOf enc w b l) : MapOf enc w.drew b l := h
theorem MapOf.new (w : World) : MapOf enc (w.alloc (.map #[] 0)) w.heap.size [] := ⟨#[], 0, heap_alloc_new w _, rfl⟩
theorem MapOf.size_ {w : World} {b : Nat} {l : List (κ × Value)} (h : MapOf enc w b l) : ∃ es cl, w.heap[b]? = some (.map es cl) ∧ es.size = l.length := by
  obtain ⟨es, cl, h1, h2⟩ := h
  exact ⟨es, cl, h1, by have := congrArg List.length h2; simpa using this⟩
end
section
variable {κ : Type} [DecidableEq κ]
variable {P : Program} {K E T : TypeId} {enc : κ → Value} (HK : KeyOk P K enc) (hT : P.underlying T = some (.map K E))
include HK hT
theorem run_put {w : World} {b : Nat} {l : List (κ × Value)} (hM : MapOf enc w b l) (k : κ) (v : Value) :
    ∃ w', (Instr.mapUpdate T (.map (some b)) (enc k) v).run P w = .ok () w' ∧ MapOf enc w' b (ins k v l) ∧ w.grownBy w' (some b) ∧ w'.heap.size = w.heap.size := by
  obtain ⟨es, clock, hb, he⟩ := hM
  unfold Instr.mapUpdate
  have hg : (getObj b).run P w = .ok (.map es clock) w := by simp [getObj, Sem.run, hb]
  have hs : ∀ o : Obj, (setObj b o).run P w = .ok () (setO w b o) := fun o => by simp [setObj, Sem.run, hb, setO]
  simp only [Sem.run_bind, run_underlying hT, Result.andThen_ok, hg, HK.check, HK.find k es.toList l w he]
  cases hl : look k l 0 with
  | none =>
    obtain ⟨h1, _⟩ := look_none l k 0 hl
    simp only [hs]
    refine ⟨_, rfl, ⟨_, _, setO_at hb _, ?_⟩, setO_grown _ _ _, setO_size _ _ _⟩
    rw [h1 v, Array.toList_push, List.map_append, List.map_append, he]
    rfl
  | some p =>
    obtain ⟨i, u⟩ := p
    obtain ⟨_, h2, h3, _⟩ := look_at l k 0 i u hl
    rw [Nat.sub_zero] at h2 h3
    have hi : i < es.size := by
      have := congrArg List.length he
      have hl2 := (List.getElem?_eq_some_iff.1 h2).1
      simp at this
      omega
    have hk : ((es[i]?).map (·.key)).getD (enc k) = enc k := by
      have e1 : (es.toList.map pr)[i]? = (l.map (en enc))[i]? := by rw [he]
      rw [List.getElem?_map, List.getElem?_map, h2, Array.getElem?_toList, Array.getElem?_eq_getElem hi] at e1
      rw [Array.getElem?_eq_getElem hi]
      simp only [Option.map_some, Option.some.injEq, pr, en, Prod.mk.injEq] at e1
      simp [e1.1]
    simp only [hk, Sem.run_bind, HK.stays, Result.andThen_ok, hs]
    refine ⟨_, rfl, ⟨_, _, setO_at hb _, ?_⟩, setO_grown _ _ _, setO_size _ _ _⟩
    rw [h3 v]
    apply List.ext_getElem?
    intro j
    rw [List.getElem?_map, List.getElem?_map, Array.getElem?_toList, Array.getElem?_modify, List.getElem?_set]
    have ej : (es.toList.map pr)[j]? = (l.map (en enc))[j]? := by rw [he]
    rw [List.getElem?_map, List.getElem?_map, Array.getElem?_toList] at ej
    by_cases e : i = j
    · subst e
      rw [if_pos rfl, if_pos rfl, if_pos (List.getElem?_eq_some_iff.1 h2).1, Array.getElem?_eq_getElem hi]
      rfl
    · rw [if_neg e, if_neg e]; exact ej
theorem run_del {w : World} {b : Nat} {l : List (κ × Value)} (hM : MapOf enc w b l) (k : κ) (ty X : TypeId) :
    ∃ w', (Builtin.delete_ #[T, X] ty #[.map (some b), enc k]).run P w = .ok (.tuple #[]) w' ∧ MapOf enc w' b (del k l) ∧ w.grownBy w' (some b) ∧ w'.heap.size = w.heap.size := by
  obtain ⟨es, clock, hb, he⟩ := hM
  unfold Builtin.delete_
  have hg : (getObj b).run P w = .ok (.map es clock) w := by simp [getObj, Sem.run, hb]
  have hs : ∀ o : Obj, (setObj b o).run P w = .ok () (setO w b o) := fun o => by simp [setObj, Sem.run, hb, setO]
  simp only [List.getElem?_toArray, List.getElem?_cons_zero, List.getElem?_cons_succ, Sem.run_bind, run_underlying hT, Result.andThen_ok, hg, HK.check, HK.find k es.toList l w he]
  cases hl : look k l 0 with
  | none =>
    obtain ⟨_, h1⟩ := look_none l k 0 hl
    simp only [Sem.run_bind, hs, Result.andThen_ok, Sem.run_pure]
    exact ⟨_, rfl, ⟨_, _, setO_at hb _, by rw [h1]; exact he⟩, setO_grown _ _ _, setO_size _ _ _⟩
  | some p =>
    obtain ⟨i, u⟩ := p
    obtain ⟨_, h2, _, h4⟩ := look_at l k 0 i u hl
    rw [Nat.sub_zero] at h2 h4
    have hi : i < es.size := by
      have := congrArg List.length he
      have hl2 := (List.getElem?_eq_some_iff.1 h2).1
      simp at this
      omega
    simp only [Sem.run_bind, hs, Result.andThen_ok, Sem.run_pure]
    refine ⟨_, rfl, ⟨_, _, setO_at hb _, ?_⟩, setO_grown _ _ _, setO_size _ _ _⟩
    rw [h4, Array.eraseIdxIfInBounds, dif_pos hi, Array.toList_eraseIdx, List.eraseIdx_eq_take_drop_succ, List.eraseIdx_eq_take_drop_succ, List.map_append, List.map_append, List.map_take, List.map_take, List.map_drop, List.map_drop, he]
end
/-! ### as steps of a walk -/
section
variable {κ : Type} [DecidableEq κ] {P : Program} {ops : Array Oper} {rest : List Oper} {o : Oper} {a : Act} {Q : Exit → Act → World → Prop} {K E T : TypeId} {enc : κ → Value}
theorem step_look (HK : KeyOk P K enc) (hT : P.underlying T = some (.map K E)) (hgd : o.guard = none) {W : World} {x y : Operand} {ok : Bool} (ho : o.op = .lookup T x y ok) {z : Value} (hz : (zeroValue E).run P W = .ok z W) {b : Nat} {l : List (κ × Value)}
    (hM : MapOf enc W b l) (k : κ) (hx : a.eval x = .map (some b)) (hy : a.eval y = enc k) {v : Value} (hv : (if ok = true then .tuple #[(get k l).getD z, .bool (get k l).isSome] else (get k l).getD z) = v)
    (h : wpList P ops Q rest (a.put o.dst v) W) : wpList P ops Q (o :: rest) a W := by
  refine wpList_plain hgd fun Kc hK => ?_
  have hr : (execOp a.eval o).run P W = .ok (.value v) W := by
    unfold execOp
    simp only [ho, hx, hy, Sem.run_bind, run_look HK hT hz hM k ok, Result.andThen_ok, hv]
    rfl
  unfold Oper.wp
  rw [hr]
  exact hK _ _ h
theorem step_put (HK : KeyOk P K enc) (hT : P.underlying T = some (.map K E)) (hgd : o.guard = none) {W : World} {x y u : Operand} (ho : o.op = .mapUpdate T x y u) {b : Nat} {l : List (κ × Value)}
    (hM : MapOf enc W b l) (k : κ) (v : Value) (hx : a.eval x = .map (some b)) (hy : a.eval y = enc k) (hu : a.eval u = v)
    (h : ∀ w1, MapOf enc w1 b (ins k v l) → W.grownBy w1 (some b) → w1.heap.size = W.heap.size → wpList P ops Q rest (a.put o.dst undef) w1) : wpList P ops Q (o :: rest) a W := by
  refine wpList_plain hgd fun Kc hK => ?_
  obtain ⟨w', h1, h2, h3, h4⟩ := run_put HK hT hM k v
  have hr : (execOp a.eval o).run P W = .ok .skip w' := by
    unfold execOp
    simp only [ho, hx, hy, hu, Sem.run_bind, h1, Result.andThen_ok]
    rfl
  unfold Oper.wp
  rw [hr]
  exact hK _ _ (h w' h2 h3 h4)
theorem step_del (HK : KeyOk P K enc) (hT : P.underlying T = some (.map K E)) (hgd : o.guard = none) {W : World} {x y : Operand} {X : TypeId} (ho : o.op = .call { callee := .builtin .delete, args := #[x, y], argTypes := #[T, X] }) {b : Nat} {l : List (κ × Value)}
    (hM : MapOf enc W b l) (k : κ) (hx : a.eval x = .map (some b)) (hy : a.eval y = enc k)
    (h : ∀ w1, MapOf enc w1 b (del k l) → W.grownBy w1 (some b) → w1.heap.size = W.heap.size → wpList P ops Q rest (a.put o.dst (.tuple #[])) w1) : wpList P ops Q (o :: rest) a W := by
  refine wpList_plain hgd fun Kc hK => ?_
  obtain ⟨w', h1, h2, h3, h4⟩ := run_del HK hT hM k o.type X
  have hr : (execOp a.eval o).run P W = .ok (.value (.tuple #[])) w' := by
    unfold execOp
    simp only [ho]
    simp [resolve, invoke, builtin, hx, hy, h1]
  unfold Oper.wp
  rw [hr]
  exact hK _ _ (h w' h2 h3 h4)
end
end Go.Proofs.Ytdlikjfffdpmiaa.Mp
/- proper.Depth: how deep calls go: a search that keeps what it knows, and what is open, in two maps.
   Conditions: each theorem's own. -/
set_option linter.unusedVariables false
set_option linter.unusedSimpArgs false
namespace Go.Proofs.Ytdlikjfffdpmiaa.QProper
open Go.RowKit Go.Proofs.Ytdlikjfffdpmiaa.Mp Go.Proofs.YtdlikjfffdpmiaaW.PrintWords Go.Proofs.YtdlikjfffdpmiaaW.PrintLast Go.Proofs.YtdlikjfffdpmiaaW.PrintMore
attribute [local go_sem] max2_int max_two
def insI (k v : Int) : List (Int × Int) → List (Int × Int)
  | [] => [(k, v)]
  | (a, u) :: r => if a = k then (k, v) :: r else (a, u) :: insI k v r
def getI (k : Int) : List (Int × Int) → Option Int
  | [] => none
  | (a, u) :: r => if a = k then some u else getI k r
def kv (p : Int × Int) : Int × Value := (p.1, .int .i64 p.2)
def ov (x : Int) : Int × Value := (x, .bool true)
theorem look_snd (k : Int) : ∀ (l : List (Int × Value)) (i j : Nat), (Mp.look k l i).map (·.2) = (Mp.look k l j).map (·.2) := by
  intro l
  induction l with
  | nil => intro i j; rfl
  | cons p r ih =>
    intro i j
    obtain ⟨a, v⟩ := p
    unfold Mp.look
    by_cases e : a = k
    · rw [if_pos e, if_pos e]; rfl
    · rw [if_neg e, if_neg e]; exact ih _ _
theorem get_cons (k a : Int) (v : Value) (r : List (Int × Value)) : Mp.get k ((a, v) :: r) = if a = k then some v else Mp.get k r := by
  show (Mp.look k ((a, v) :: r) 0).map (·.2) = if a = k then some v else (Mp.look k r 0).map (·.2)
  rw [Mp.look]
  by_cases e : a = k
  · rw [if_pos e, if_pos e]; rfl
  · rw [if_neg e, if_neg e]; exact look_snd k r 1 0
theorem get_kv (k : Int) : ∀ l : List (Int × Int), Mp.get k (l.map kv) = (getI k l).map (Value.int .i64) := by
  intro l
  induction l with
  | nil => rfl
  | cons p r ih =>
    obtain ⟨a, u⟩ := p
    rw [List.map_cons, show kv (a, u) = (a, .int .i64 u) from rfl, get_cons]
    unfold getI
    by_cases e : a = k
    · rw [if_pos e, if_pos e]; rfl
    · rw [if_neg e, if_neg e]; exact ih
theorem ins_kv (k v : Int) : ∀ l : List (Int × Int), ins k (.int .i64 v) (l.map kv) = (insI k v l).map kv := by
  intro l
  induction l with
  | nil => rfl
  | cons p r ih =>
    obtain ⟨a, u⟩ := p
    rw [List.map_cons, show kv (a, u) = (a, .int .i64 u) from rfl]
    unfold ins insI
    by_cases e : a = k
    · rw [if_pos e, if_pos e]; rfl
    · rw [if_neg e, if_neg e, ih]; rfl
theorem get_ov (k : Int) : ∀ l : List Int, Mp.get k (l.map ov) = if k ∈ l then some (.bool true) else none := by
  intro l
  induction l with
  | nil => rfl
  | cons a r ih =>
    rw [List.map_cons, show ov a = (a, .bool true) from rfl, get_cons, ih]
    by_cases e : a = k
    · rw [if_pos e, if_pos (by simp [e])]
    · rw [if_neg e]
      have : k ∈ a :: r ↔ k ∈ r := by rw [List.mem_cons]; exact ⟨fun h => h.elim (fun h => absurd h.symm e) id, .inr⟩
      simp only [this]
theorem ins_ov (k : Int) : ∀ l : List Int, k ∉ l → ins k (.bool true) (l.map ov) = (l ++ [k]).map ov := by
  intro l
  induction l with
  | nil => intro _; rfl
  | cons a r ih =>
    intro h
    rw [List.mem_cons, not_or] at h
    rw [List.map_cons, show ov a = (a, .bool true) from rfl]
    unfold ins
    rw [if_neg (fun e => h.1 e.symm), ih h.2]
    rfl
theorem del_ov (k : Int) : ∀ l : List Int, del k (l.map ov) = (l.erase k).map ov := by
  intro l
  induction l with
  | nil => rfl
  | cons a r ih =>
    rw [List.map_cons, show ov a = (a, .bool true) from rfl]
    unfold del
    by_cases e : a = k
    · rw [if_pos e, e, List.erase_cons_head]
    · rw [if_neg e, ih, List.erase_cons_tail (by simpa using e)]; rfl
/-- The loop over what a function names. -/
def dLoop (rec : Int → List (Int × Int) → List Int → Option (Int × List (Int × Int) × List Int)) : List Int → Int → List (Int × Int) → List Int → Option (Int × List (Int × Int) × List Int)
  | [], m, kn, op => some (m, kn, op)
  | g :: r, m, kn, op => (rec g kn op).bind fun q => if q.1 < 0 then some (-1, q.2.1, q.2.2) else if q.1 < 4611686018427387904 then dLoop rec r (if m < q.1 + 1 then q.1 + 1 else m) q.2.1 q.2.2 else none
def dEnd (f : Int) (q : Int × List (Int × Int) × List Int) : Option (Int × List (Int × Int) × List Int) := if q.1 < 0 then some (-1, q.2.1, q.2.2) else some (q.1, insI f q.1 q.2.1, q.2.2.erase f)
def dOf (nm : Int → Option (List Int)) : Nat → Int → List (Int × Int) → List Int → Option (Int × List (Int × Int) × List Int)
  | 0, _, _, _ => none
  | k + 1, f, kn, op => match getI f kn with
    | some n => some (n, kn, op)
    | none => if f ∈ op then some (-1, kn, op) else (nm f).bind fun l => (dLoop (dOf nm k) l 0 kn (op ++ [f])).bind (dEnd f)
def proper_Depth.f (k : Nat) (l0_0 : List Int) (l0_1 : List S34) (l0_2 : List S58) (a1 : Int) : Option (Int × Int) :=
  (proper_function.f k l0_0 l0_1 l0_2 a1).bind fun e => if e = 0 then (dOf (fun g => proper_named.f k l0_0 l0_1 l0_2 g false) k a1 [] []).bind fun q => some (q.1, 0) else some (0, e)
theorem dLoop_mono {rec rec' : Int → List (Int × Int) → List Int → Option (Int × List (Int × Int) × List Int)} (h : ∀ g kn op, LeO (rec g kn op) (rec' g kn op)) : ∀ l m kn op, LeO (dLoop rec l m kn op) (dLoop rec' l m kn op) := by
  intro l
  induction l with
  | nil => intro m kn op; exact LeO.refl _
  | cons g r ih => intro m kn op; exact LeO.bind (h _ _ _) (fun q => LeO.ite (LeO.refl _) (LeO.ite (ih _ _ _) (LeO.refl _)))
theorem dOf_mono {nm nm' : Int → Option (List Int)} (h : ∀ g, LeO (nm g) (nm' g)) : ∀ k f kn op, LeO (dOf nm k f kn op) (dOf nm' (k + 1) f kn op) := by
  intro k
  induction k with
  | zero => intro f kn op r hr; cases hr
  | succ k ih =>
    intro f kn op
    show LeO (dOf nm (k + 1) f kn op) (dOf nm' ((k + 1) + 1) f kn op)
    unfold dOf
    cases getI f kn with
    | some n => exact LeO.refl _
    | none => exact LeO.ite (LeO.refl _) (LeO.bind (h f) (fun l => LeO.bind (dLoop_mono ih _ _ _ _) (fun q => LeO.refl _)))
theorem proper_Depth.mono : ∀ a0 a1 a2 a3 k, LeO (proper_Depth.f k a0 a1 a2 a3) (proper_Depth.f (k + 1) a0 a1 a2 a3) := by
  intro a0 a1 a2 a3 k
  unfold proper_Depth.f
  exact LeO.bind (proper_function.mono _ _ _ _ _) (fun e => LeO.ite (LeO.bind (dOf_mono (fun g => proper_named.mono _ _ _ _ _ _) _ _ _ _) (fun _ => LeO.refl _)) (LeO.refl _))
/-! ### the walk -/
theorem keyI : KeyOk Try.prog 3 (Value.int .i64) := int_key Try.underlying3
theorem zero3 (w : World) : (zeroValue 3).run Try.prog w = .ok (.int .i64 0) w := by kernel_rfl
theorem zero4 (w : World) : (zeroValue 4).run Try.prog w = .ok (.bool false) w := by kernel_rfl
section
variable {P : Program} {ops : Array Oper} {rest : List Oper} {o : Oper} {a : Act} {Q : Exit → Act → World → Prop} {W : World}
theorem gate_del {args : Array Operand} {ts : Array TypeId} (_ho : o.op = .call { callee := .builtin .delete, args := args, argTypes := ts }) (h : wpList P ops Q (o :: rest) a W) : wpList P ops Q (o :: rest) a W := h
theorem gate_put {T : TypeId} {x y u : Operand} (_ho : o.op = .mapUpdate T x y u) (h : wpList P ops Q (o :: rest) a W) : wpList P ops Q (o :: rest) a W := h
end
theorem below_mput {n : Nat} {w W w1 : World} {b : Nat} (h : Below n w W) (hg : W.grownBy w1 (some b)) (hn : n ≤ b) (hs : n ≤ W.heap.size) : Below n w w1 :=
  ⟨hg.os.trans h.os, hg.tape.trans h.tape, hg.output.trans h.output, Nat.le_trans h.size hg.size, fun i hi => (hg.block i (by omega) (by intro e; cases e; omega)).trans (h.block i hi)⟩
/-- What a call of 'of' leaves: the two maps, all else as it was. -/
structure Left (w0 w w' : World) (b1 b2 : Nat) (kn : List (Int × Int)) (op : List Int) : Prop where
  below : Below w0.heap.size w0 w'
  kn : MapOf (Value.int .i64) w' b1 (kn.map kv)
  op : MapOf (Value.int .i64) w' b2 (op.map ov)
  size : w.heap.size ≤ w'.heap.size
  rest : ∀ i, i < w.heap.size → i ≠ b1 → i ≠ b2 → w'.heap[i]? = w.heap[i]?
section
variable (k0 : Nat) (A0 : Option Addr) (c0 : Nat) (l0 : List Int) (A1 : Option Addr) (c1 : Nat) (l1 : List S34) (A2 : Option Addr) (c2 : Nat) (l2 : List S58) (w0 : World)
  (hr0 : Kd.C (Kd.int .u32) w0 A0 l0.length l0) (hc0 : l0.length ≤ c0) (hr1 : Kd.C k34 w0 A1 l1.length l1) (hc1 : l1.length ≤ c1) (hr2 : Kd.C k58 w0 A2 l2.length l2) (hc2 : l2.length ≤ c2) (b1 b2 : Nat) (hb1 : w0.heap.size ≤ b1) (hb2 : w0.heap.size ≤ b2) (hne : b1 ≠ b2)
set_option maxHeartbeats 4000000 in
set_option maxRecDepth 100000 in
theorem of_known (f : Int) (kn : List (Int × Int)) (op : List Int) (w : World) (hB : Below w0.heap.size w0 w) (hk : MapOf (Value.int .i64) w b1 (kn.map kv)) (ho : MapOf (Value.int .i64) w b2 (op.map ov)) (n : Int) (hg : getI f kn = some n) :
    Calls Try.prog 49 #[.agg #[.slice A0 l0.length c0, .slice A1 l1.length c1, .slice A2 l2.length c2, .map (some b1), .map (some b2)], .int .i64 f] w fun e w' => e = .returned (.int .i64 n) ∧ Left w0 w w' b1 b2 kn op := by
  have HK := Aside0.mk hk
  have HO := Aside0.mk ho
  have HW := Aside0.mk hB
  have hv : (if true = true then Value.tuple #[(Mp.get f (kn.map kv)).getD (.int .i64 0), .bool (Mp.get f (kn.map kv)).isSome] else (Mp.get f (kn.map kv)).getD (.int .i64 0)) = .tuple #[.int .i64 n, .bool true] := by
    rw [if_pos rfl, get_kv, hg]; rfl
  have HV := Aside0.mk hv
  clear hv hg hk ho hB
  go_enter Try.func49, Try.ntmps49
  go_wp2_with (first
    | ((with_reducible refine gate_dst (N := 2) rfl ?_); refine box_event ?hg (N := 2) ?hd (cs := #[.slice A0 l0.length c0, .slice A1 l1.length c1, .slice A2 l2.length c2, .map (some b1), .map (some b2)]) (t := 75) ?hr ?_; (case hd => rfl); (case hg => rfl); (case hr => first | (go_simp; done) | (go_simp; rfl)); intro g2 hg2 w2 hbox hb; have HB2 := Aside0.mk hb; have BK := Aside0.mk hbox; clear hb hbox hg2; have hcz3 : w2.cell? ⟨g2, 3, none⟩ = some (.map (some b1)) := (blk_cell BK.out 3).trans rfl; have hcz4 : w2.cell? ⟨g2, 4, none⟩ = some (.map (some b2)) := (blk_cell BK.out 4).trans rfl)
    | ((with_reducible refine gate_dst (N := 15) rfl ?_); refine step_look keyI Try.underlying72 rfl rfl (zero3 _) (HK.out.below HB2.out) f rfl rfl HV.out ?_))
  go_ret
  exact ⟨rfl, ⟨below_step HW.out HB2.out, HK.out.below HB2.out, HO.out.below HB2.out, HB2.out.size, fun i hi _ _ => HB2.out.block i hi⟩⟩
set_option maxHeartbeats 4000000 in
set_option maxRecDepth 100000 in
theorem of_open (f : Int) (kn : List (Int × Int)) (op : List Int) (w : World) (hB : Below w0.heap.size w0 w) (hk : MapOf (Value.int .i64) w b1 (kn.map kv)) (ho : MapOf (Value.int .i64) w b2 (op.map ov)) (hg : getI f kn = none) (hf : f ∈ op) :
    Calls Try.prog 49 #[.agg #[.slice A0 l0.length c0, .slice A1 l1.length c1, .slice A2 l2.length c2, .map (some b1), .map (some b2)], .int .i64 f] w fun e w' => e = .returned (.int .i64 (-1)) ∧ Left w0 w w' b1 b2 kn op := by
  have HK := Aside0.mk hk
  have HO := Aside0.mk ho
  have HW := Aside0.mk hB
  have hu26 := Try.underlying26
  have hu75 := Try.underlying75
  have hv : (if true = true then Value.tuple #[(Mp.get f (kn.map kv)).getD (.int .i64 0), .bool (Mp.get f (kn.map kv)).isSome] else (Mp.get f (kn.map kv)).getD (.int .i64 0)) = .tuple #[.int .i64 0, .bool false] := by
    rw [if_pos rfl, get_kv, hg]; rfl
  have HV := Aside0.mk hv
  have hv2 : (if false = true then Value.tuple #[(Mp.get f (op.map ov)).getD (.bool false), .bool (Mp.get f (op.map ov)).isSome] else (Mp.get f (op.map ov)).getD (.bool false)) = .bool true := by
    rw [if_neg (by decide), get_ov, if_pos hf]; rfl
  have HV2 := Aside0.mk hv2
  clear hv hv2 hg hk ho hB
  go_enter Try.func49, Try.ntmps49
  go_wp2_with (first
    | ((with_reducible refine gate_dst (N := 2) rfl ?_); refine box_event ?hg (N := 2) ?hd (cs := #[.slice A0 l0.length c0, .slice A1 l1.length c1, .slice A2 l2.length c2, .map (some b1), .map (some b2)]) (t := 75) ?hr ?_; (case hd => rfl); (case hg => rfl); (case hr => first | (go_simp; done) | (go_simp; rfl)); intro g2 hg2 w2 hbox hb; have HB2 := Aside0.mk hb; have BK := Aside0.mk hbox; have HG := Aside0.mk hg2; clear hb hbox hg2; have hcz0 : w2.cell? ⟨g2, 0, none⟩ = some (.slice A0 l0.length c0) := (blk_cell BK.out 0).trans rfl; have hcz1 : w2.cell? ⟨g2, 1, none⟩ = some (.slice A1 l1.length c1) := (blk_cell BK.out 1).trans rfl; have hcz2 : w2.cell? ⟨g2, 2, none⟩ = some (.slice A2 l2.length c2) := (blk_cell BK.out 2).trans rfl; have hcz3 : w2.cell? ⟨g2, 3, none⟩ = some (.map (some b1)) := (blk_cell BK.out 3).trans rfl; have hcz4 : w2.cell? ⟨g2, 4, none⟩ = some (.map (some b2)) := (blk_cell BK.out 4).trans rfl)
    | ((with_reducible refine gate_dst (N := 15) rfl ?_); refine step_look keyI Try.underlying72 rfl rfl (zero3 _) (HK.out.below HB2.out) f rfl rfl HV.out ?_)
    | ((with_reducible refine gate_dst (N := 23) rfl ?_); refine step_look keyI Try.underlying73 rfl rfl (zero4 _) (HO.out.below HB2.out) f rfl rfl HV2.out ?_))
  go_ret
  exact ⟨rfl, ⟨below_step HW.out HB2.out, HK.out.below HB2.out, HO.out.below HB2.out, HB2.out.size, fun i hi _ _ => HB2.out.block i hi⟩⟩
include hr0 hc0 hr1 hc1 hr2 hc2 hb1 hb2 hne
set_option maxHeartbeats 4000000 in
set_option maxRecDepth 100000 in
theorem of_main (k : Nat) (ih : ∀ (f : Int) (kn : List (Int × Int)) (op : List Int) (w : World), Below w0.heap.size w0 w → MapOf (Value.int .i64) w b1 (kn.map kv) → MapOf (Value.int .i64) w b2 (op.map ov) → ∀ r kn' op', dOf (fun g => proper_named.f k0 l0 l1 l2 g false) k f kn op = some (r, kn', op') →
    Calls Try.prog 49 #[.agg #[.slice A0 l0.length c0, .slice A1 l1.length c1, .slice A2 l2.length c2, .map (some b1), .map (some b2)], .int .i64 f] w fun e w' => e = .returned (.int .i64 r) ∧ Left w0 w w' b1 b2 kn' op')
    (f : Int) (kn : List (Int × Int)) (op : List Int) (w : World) (hB : Below w0.heap.size w0 w) (hk : MapOf (Value.int .i64) w b1 (kn.map kv)) (ho : MapOf (Value.int .i64) w b2 (op.map ov)) (hg : getI f kn = none) (hf : f ∉ op) (l : List Int) (hl : proper_named.f k0 l0 l1 l2 f false = some l)
    (m : Int) (kn' : List (Int × Int)) (op' : List Int) (hd : dLoop (dOf (fun g => proper_named.f k0 l0 l1 l2 g false) k) l 0 kn (op ++ [f]) = some (m, kn', op')) :
    Calls Try.prog 49 #[.agg #[.slice A0 l0.length c0, .slice A1 l1.length c1, .slice A2 l2.length c2, .map (some b1), .map (some b2)], .int .i64 f] w fun e w' => ∃ r kn2 op2, dEnd f (m, kn', op') = some (r, kn2, op2) ∧ e = .returned (.int .i64 r) ∧ Left w0 w w' b1 b2 kn2 op2 := by
  have HK := Aside0.mk hk
  have HO := Aside0.mk ho
  have HW := Aside0.mk hB
  have hu26 := Try.underlying26
  have hu75 := Try.underlying75
  have hv : (if true = true then Value.tuple #[(Mp.get f (kn.map kv)).getD (.int .i64 0), .bool (Mp.get f (kn.map kv)).isSome] else (Mp.get f (kn.map kv)).getD (.int .i64 0)) = .tuple #[.int .i64 0, .bool false] := by
    rw [if_pos rfl, get_kv, hg]; rfl
  have HV := Aside0.mk hv
  have hv2 : (if false = true then Value.tuple #[(Mp.get f (op.map ov)).getD (.bool false), .bool (Mp.get f (op.map ov)).isSome] else (Mp.get f (op.map ov)).getD (.bool false)) = .bool false := by
    rw [if_neg (by decide), get_ov, if_neg hf]; rfl
  have HV2 := Aside0.mk hv2
  have HR0 := Aside0.mk hr0
  have HR1 := Aside0.mk hr1
  have HR2 := Aside0.mk hr2
  have HC0 := Aside0.mk hc0
  have HC1 := Aside0.mk hc1
  have HC2 := Aside0.mk hc2
  have HN := Aside0.mk hl
  have HD := Aside0.mk hd
  have HNE := Aside0.mk hne
  have HBB2 := Aside0.mk hb2
  have HBB1 := Aside0.mk hb1
  have HF := Aside0.mk hf
  have HS0 := Aside0.mk hB.size
  have HIN := Aside0.mk (ins_ov f op hf)
  clear hr0 hc0 hr1 hc1 hr2 hc2 hv hv2 hg hk ho hB hl hd hne hb1 hb2 hf
  go_enter Try.func49, Try.ntmps49
  go_wp2_with (first
    | ((with_reducible refine gate_dst (N := 2) rfl ?_); refine box_event ?hg (N := 2) ?hd (cs := #[.slice A0 l0.length c0, .slice A1 l1.length c1, .slice A2 l2.length c2, .map (some b1), .map (some b2)]) (t := 75) ?hr ?_; (case hd => rfl); (case hg => rfl); (case hr => first | (go_simp; done) | (go_simp; rfl)); intro g2 hg2 w2 hbox hb; have HB2 := Aside0.mk hb; have BK := Aside0.mk hbox; have HG := Aside0.mk hg2; have HGB2 := Aside0.mk (show g2 ≠ b2 from by have := HO.out.lt; omega); have HGB1 := Aside0.mk (show g2 ≠ b1 from by have := HK.out.lt; omega); have HGW := Aside0.mk (show w.heap.size ≤ g2 from by omega); have HSW := Aside0.mk (show w.heap.size ≤ w2.heap.size from HB2.out.size); clear hb hbox hg2; have hcz0 : w2.cell? ⟨g2, 0, none⟩ = some (.slice A0 l0.length c0) := (blk_cell BK.out 0).trans rfl; have hcz1 : w2.cell? ⟨g2, 1, none⟩ = some (.slice A1 l1.length c1) := (blk_cell BK.out 1).trans rfl; have hcz2 : w2.cell? ⟨g2, 2, none⟩ = some (.slice A2 l2.length c2) := (blk_cell BK.out 2).trans rfl; have hcz3 : w2.cell? ⟨g2, 3, none⟩ = some (.map (some b1)) := (blk_cell BK.out 3).trans rfl; have hcz4 : w2.cell? ⟨g2, 4, none⟩ = some (.map (some b2)) := (blk_cell BK.out 4).trans rfl)
    | ((with_reducible refine gate_dst (N := 15) rfl ?_); refine step_look keyI Try.underlying72 rfl rfl (zero3 _) (HK.out.below HB2.out) f rfl rfl HV.out ?_)
    | ((with_reducible refine gate_dst (N := 23) rfl ?_); refine step_look keyI Try.underlying73 rfl rfl (zero4 _) (HO.out.below HB2.out) f rfl rfl HV2.out ?_)
    | ((with_reducible refine gate_put (T := 73) rfl ?_); refine step_put keyI Try.underlying73 rfl rfl (HO.out.below HB2.out) f (.bool true) rfl rfl rfl ?_; intro w3 hm3 hg3 hs3; have HM2 := Aside0.mk hm3; have HM1 := Aside0.mk ((HK.out.below HB2.out).grown hg3 (by simpa using HNE.out)); have BK3 := Aside0.mk (blk_grown BK.out hg3 (by simp only [ne_eq, Option.some.injEq]; exact HGB2.out)); have HB3 := Aside0.mk (below_mput (below_step HW.out HB2.out) hg3 HBB2.out (Nat.le_trans HW.out.size HB2.out.size)); have HS3 := Aside0.mk (show w2.heap.size ≤ w3.heap.size from hg3.size); have HR3 := Aside0.mk (show ∀ i, i < w.heap.size → i ≠ b1 → i ≠ b2 → w3.heap[i]? = w.heap[i]? from fun i hi _ h2 => (hg3.block i (Nat.lt_of_lt_of_le hi HB2.out.size) (by intro e; cases e; exact h2 rfl)).trans (HB2.out.block i hi)); clear hm3 hg3 hs3 hcz0 hcz1 hcz2 hcz3 hcz4 BK HK HO HB2 HW; have hcz0 : w3.cell? ⟨g2, 0, none⟩ = some (.slice A0 l0.length c0) := (blk_cell BK3.out 0).trans rfl; have hcz1 : w3.cell? ⟨g2, 1, none⟩ = some (.slice A1 l1.length c1) := (blk_cell BK3.out 1).trans rfl; have hcz2 : w3.cell? ⟨g2, 2, none⟩ = some (.slice A2 l2.length c2) := (blk_cell BK3.out 2).trans rfl)
    | (go_at_call 45; (refine (proper_named.calls k0 _ _ l0 _ _ l1 _ _ l2 f false l _ (Kd.C_below HR0.out HB3.out) HC0.out (Kd.C_below HR1.out HB3.out) HC1.out (Kd.C_below HR2.out HB3.out) HC2.out HN.out).mono ?_); rintro e w4 ⟨v4, rfl, ho4, hb4⟩; obtain ⟨A4, c4, rfl⟩ := Kd.R_slice ho4; have HL := Aside0.mk (Kd.R_mono (Kd.R_bound ho4) (ok' := fun k => k ≠ b1 ∧ k ≠ b2) (fun k hk => ⟨by have := hk.2.1; have := HM1.out.lt; omega, by have := hk.2.1; have := HM2.out.lt; omega⟩)); have HM1' := Aside0.mk (HM1.out.below hb4); have HM2' := Aside0.mk (HM2.out.below hb4); have BK4 := Aside0.mk (blk_below BK3.out hb4); have HS4 := Aside0.mk (show w.heap.size ≤ w4.heap.size from Nat.le_trans HSW.out (Nat.le_trans HS3.out hb4.size)); have HR4 := Aside0.mk (show ∀ i, i < w.heap.size → i ≠ b1 → i ≠ b2 → w4.heap[i]? = w.heap[i]? from fun i hi h1 h2 => (hb4.block i (by have := HSW.out; have := HS3.out; omega)).trans (HR3.out i hi h1 h2)); have HB4 := Aside0.mk (below_step HB3.out hb4); clear hcz0 hcz1 hcz2))
  go_loopw [7, 32] (fun v7 v32 wr => ∃ (m1 : Int) (i : Nat) (kn1 : List (Int × Int)) (op1 : List Int), v7 = .int .i64 m1 ∧ v32 = .int .i64 (i : Int) ∧ Aside0 (0 ≤ m1) ∧ Aside0 (i ≤ l.length) ∧ Aside0 (dLoop (dOf (fun g => proper_named.f k0 l0 l1 l2 g false) k) (l.drop i) m1 kn1 op1 = some (m, kn', op')) ∧ Aside0 (Below w0.heap.size w0 wr) ∧ Aside0 (MapOf (Value.int .i64) wr b1 (kn1.map kv)) ∧ Aside0 (MapOf (Value.int .i64) wr b2 (op1.map ov)) ∧ Aside0 (wr.heap[g2]? = some (.cells #[.slice A0 l0.length c0, .slice A1 l1.length c1, .slice A2 l2.length c2, .map (some b1), .map (some b2)] 75 (0, 0))) ∧ Aside0 (Kd.R (Kd.int .i64) 3 wr w3.heap.size (fun k => k ≠ b1 ∧ k ≠ b2) (.slice A4 l.length c4) l) ∧ Aside0 (w.heap.size ≤ wr.heap.size) ∧ Aside0 (∀ i, i < w.heap.size → i ≠ b1 → i ≠ b2 → wr.heap[i]? = w.heap[i]?)) (fun v7 v32 _ => l.length - (intOf v32).toNat)
  case atStart => exact ⟨0, 0, kn, op ++ [f], rfl, rfl, ⟨by omega⟩, ⟨by omega⟩, HD, HB4, HM1', ⟨HIN.out ▸ HM2'.out⟩, BK4, HL, HS4, HR4⟩
  case round =>
    obtain ⟨m1, i, kn1, op1, rfl, rfl, HM0, HI, HD1, HB5, HK5, HO5, BK5, HL5, HS5, HR5⟩ := hrel
    clear HB4 HM1' HM2' BK4 HL HS4 HR4 HD HV HV2 HIN HM1 HM2 BK3 HB3 HR3
    have hz0 : wr.cell? ⟨g2, 0, none⟩ = some (.slice A0 l0.length c0) := (blk_cell BK5.out 0).trans rfl
    have hz1 : wr.cell? ⟨g2, 1, none⟩ = some (.slice A1 l1.length c1) := (blk_cell BK5.out 1).trans rfl
    have hz2 : wr.cell? ⟨g2, 2, none⟩ = some (.slice A2 l2.length c2) := (blk_cell BK5.out 2).trans rfl
    have hz3 : wr.cell? ⟨g2, 3, none⟩ = some (.map (some b1)) := (blk_cell BK5.out 3).trans rfl
    have hz4 : wr.cell? ⟨g2, 4, none⟩ = some (.map (some b2)) := (blk_cell BK5.out 4).trans rfl
    by_cases hlt : (i : Int) < (l.length : Int)
    · have p0 : (0 : Int) ≤ (i : Int) := Int.natCast_nonneg i
      obtain ⟨ad, e1, hx0⟩ := Kd.at_int (Kd.R_reads' HL5.out).2.2 (i : Int) p0 hlt
      cases e1
      rw [Int.toNat_natCast] at hx0
      have hsz : (l.length : Int) ≤ 9223372036854775807 := by have := (Kd.R_reads' HL5.out).2.2.2.1; omega
      have hin : i < l.length := by omega
      have hdrop : l.drop i = rd l (i : Int) :: l.drop (i + 1) := by
        rw [List.drop_eq_getElem_cons hin]
        congr 1
        simp [rd, hin]
      have hd := HD1.out
      rw [hdrop] at hd
      obtain ⟨⟨n, kn2, op2⟩, hq, hd⟩ := Option.bind_eq_some_iff.mp hd
      dsimp only at hd
      have hcall := ih _ _ _ _ HB5.out HK5.out HO5.out n kn2 op2 hq
      have HDD := Aside0.mk hd
      clear hd HD1 hq hdrop
      go_wp2_with fail
      refine hcall.mono ?_
      rintro e w6 ⟨rfl, hL⟩
      have HLe := Aside0.mk hL
      clear hL hcall hx0 hz0 hz1 hz2 hz3 hz4 ih
      have HR6 : Aside0 (∀ i, i < w.heap.size → i ≠ b1 → i ≠ b2 → w6.heap[i]? = w.heap[i]?) := ⟨fun i hi h1 h2 => (HLe.out.rest i (by have := HS5.out; omega) h1 h2).trans (HR5.out i hi h1 h2)⟩
      have HS6 : Aside0 (w.heap.size ≤ w6.heap.size) := ⟨Nat.le_trans HS5.out HLe.out.size⟩
      by_cases hn : n < 0
      · have hd := HDD.out
        rw [if_pos hn] at hd
        cases hd
        go_wp2
        go_ret
        exact ⟨-1, kn', op', if_pos (by show (-1 : Int) < 0; decide), rfl, HLe.out.below, HLe.out.kn, HLe.out.op, HS6.out, HR6.out⟩
      · have hd := HDD.out
        rw [if_neg hn] at hd
        by_cases hn2 : n < 4611686018427387904
        · rw [if_pos hn2] at hd
          have HD6 := Aside0.mk hd
          clear hd HDD
          have hnn : 0 ≤ n := by omega
          go_wp2
          go_roundw
          case rel =>
            refine ⟨if m1 < n + 1 then n + 1 else m1, i + 1, kn2, op2, rfl, rfl, ⟨by have := HM0.out; split <;> omega⟩, ⟨by omega⟩, HD6, ⟨HLe.out.below⟩, ⟨HLe.out.kn⟩, ⟨HLe.out.op⟩, ⟨?_⟩, ⟨?_⟩, HS6, HR6⟩
            · exact (HLe.out.rest g2 (blk_lt BK5.out) HGB1.out HGB2.out).trans BK5.out
            · exact Kd.R_step HL5.out (fun k hk hlt => HLe.out.rest k hlt hk.1 hk.2)
          case measure => simp [intOf]; omega
        · rw [if_neg hn2] at hd; cases hd
    · have hi : i = l.length := by have := HI.out; omega
      have hd := HD1.out
      rw [hi, List.drop_length] at hd
      cases hd
      clear HD1 ih
      go_wp2_with (first
        | ((with_reducible refine gate_del (args := #[.tmp 47, .tmp 48]) rfl ?_); refine step_del keyI Try.underlying73 rfl rfl HO5.out f rfl rfl ?_; intro w7 hm7 hg7 hs7; have HM27 := Aside0.mk hm7; have HM17 := Aside0.mk (HK5.out.grown hg7 (by simpa using HNE.out)); have BK7 := Aside0.mk (blk_grown BK5.out hg7 (by simp only [ne_eq, Option.some.injEq]; exact HGB2.out)); have HB7 := Aside0.mk (below_mput HB5.out hg7 HBB2.out HB5.out.size); have HS7 := Aside0.mk (show w.heap.size ≤ w7.heap.size from Nat.le_trans HS5.out hg7.size); have HR7 := Aside0.mk (show ∀ i, i < w.heap.size → i ≠ b1 → i ≠ b2 → w7.heap[i]? = w.heap[i]? from fun i hi h1 h2 => (hg7.block i (Nat.lt_of_lt_of_le hi HS5.out) (by intro e; cases e; exact h2 rfl)).trans (HR5.out i hi h1 h2)); clear hm7 hg7 hs7 hz0 hz1 hz2 hz3 hz4 BK5 HK5 HO5 HB5 HR5; have hz3 : w7.cell? ⟨g2, 3, none⟩ = some (.map (some b1)) := (blk_cell BK7.out 3).trans rfl)
        | ((with_reducible refine gate_put (T := 72) rfl ?_); refine step_put keyI Try.underlying72 rfl rfl HM17.out f (.int .i64 m) rfl rfl (by rfl) ?_; intro w8 hm8 hg8 hs8; have HM18 := Aside0.mk hm8; have HM28 := Aside0.mk (HM27.out.grown hg8 (by simpa using HNE.out.symm)); have HB8 := Aside0.mk (below_mput HB7.out hg8 HBB1.out HB7.out.size); have HS8 := Aside0.mk (show w.heap.size ≤ w8.heap.size from Nat.le_trans HS7.out hg8.size); have HR8 := Aside0.mk (show ∀ i, i < w.heap.size → i ≠ b1 → i ≠ b2 → w8.heap[i]? = w.heap[i]? from fun i hi h1 h2 => (hg8.block i (Nat.lt_of_lt_of_le hi HS7.out) (by intro e; cases e; exact h1 rfl)).trans (HR7.out i hi h1 h2)); clear hm8 hg8 hs8 hz3))
      go_ret
      have hm0 := HM0.out
      refine ⟨m, insI f m kn', op'.erase f, if_neg (by show ¬ m < 0; omega), rfl, HB8.out, ?_, ?_, HS8.out, HR8.out⟩
      · rw [← ins_kv]; exact HM18.out
      · rw [← del_ov]; exact HM28.out
theorem of_calls : ∀ (k : Nat) (f : Int) (kn : List (Int × Int)) (op : List Int) (w : World), Below w0.heap.size w0 w → MapOf (Value.int .i64) w b1 (kn.map kv) → MapOf (Value.int .i64) w b2 (op.map ov) → ∀ r kn' op', dOf (fun g => proper_named.f k0 l0 l1 l2 g false) k f kn op = some (r, kn', op') →
    Calls Try.prog 49 #[.agg #[.slice A0 l0.length c0, .slice A1 l1.length c1, .slice A2 l2.length c2, .map (some b1), .map (some b2)], .int .i64 f] w fun e w' => e = .returned (.int .i64 r) ∧ Left w0 w w' b1 b2 kn' op' := by
  intro k
  induction k with
  | zero => intro f kn op w _ _ _ r kn' op' h; cases h
  | succ k ih =>
    intro f kn op w hB hk ho r kn' op' h
    unfold dOf at h
    cases hg : getI f kn with
    | some n =>
      rw [hg] at h
      cases h
      exact of_known A0 c0 l0 A1 c1 l1 A2 c2 l2 w0 b1 b2 f kn op w hB hk ho r hg
    | none =>
      rw [hg] at h
      dsimp only at h
      by_cases hf : f ∈ op
      · rw [if_pos hf] at h
        cases h
        exact of_open A0 c0 l0 A1 c1 l1 A2 c2 l2 w0 b1 b2 f kn op w hB hk ho hg hf
      · rw [if_neg hf] at h
        obtain ⟨l, hl, h⟩ := Option.bind_eq_some_iff.mp h
        obtain ⟨⟨m, kn1, op1⟩, hd, h⟩ := Option.bind_eq_some_iff.mp h
        refine (of_main k0 A0 c0 l0 A1 c1 l1 A2 c2 l2 w0 hr0 hc0 hr1 hc1 hr2 hc2 b1 b2 hb1 hb2 hne k ih f kn op w hB hk ho hg hf l hl m kn1 op1 hd).mono ?_
        rintro e w' ⟨r', kn2, op2, h1, rfl, h2⟩
        rw [h] at h1
        cases h1
        exact ⟨rfl, h2⟩
end
set_option maxHeartbeats 4000000 in
set_option maxRecDepth 100000 in
theorem proper_Depth.calls (k : Nat) (A0_0 : Option Addr) (c0_0 : Nat) (l0_0 : List Int) (A0_1 : Option Addr) (c0_1 : Nat) (l0_1 : List (S34)) (A0_2 : Option Addr) (c0_2 : Nat) (l0_2 : List (S58)) (a1 : Int) (r1 r2 : Int) (w : World) (hr0_0 : Kd.C (Kd.int .u32) w A0_0 l0_0.length l0_0) (hc0_0 : l0_0.length ≤ c0_0) (hr0_1 : Kd.C k34 w A0_1 l0_1.length l0_1) (hc0_1 : l0_1.length ≤ c0_1) (hr0_2 : Kd.C k58 w A0_2 l0_2.length l0_2) (hc0_2 : l0_2.length ≤ c0_2) (h : proper_Depth.f k l0_0 l0_1 l0_2 a1 = some (r1, r2)) :
    Calls Try.prog 25 #[.agg #[.slice A0_0 l0_0.length c0_0, .slice A0_1 l0_1.length c0_1, .slice A0_2 l0_2.length c0_2], .int .i64 a1] w fun e w' => e = .returned (.tuple #[.int .i64 r1, .int .i64 r2]) ∧ Below w.heap.size w w' := by
  have hu26 := Try.underlying26
  obtain ⟨e0, hk, h⟩ := Option.bind_eq_some_iff.mp h
  have HK := Aside0.mk hk
  have H := Aside0.mk h
  have HR0 := Aside0.mk hr0_0
  have HR1 := Aside0.mk hr0_1
  have HR2 := Aside0.mk hr0_2
  have HC0 := Aside0.mk hc0_0
  have HC1 := Aside0.mk hc0_1
  have HC2 := Aside0.mk hc0_2
  clear hk h hr0_0 hr0_1 hr0_2 hc0_0 hc0_1 hc0_2
  by_cases c : e0 = 0
  · have c0 : (e0 != 0) = false := bne_eq_false_iff_eq.mpr c
    have H' := H.out
    simp only [c, if_true] at H'
    clear H
    subst c
    clear c0
    obtain ⟨⟨d, kn', op'⟩, hq, h⟩ := Option.bind_eq_some_iff.mp H'
    clear H'
    simp only [Option.some.injEq, Prod.mk.injEq] at h
    obtain ⟨rfl, rfl⟩ := h
    have HQ := Aside0.mk hq
    clear hq
    have hmm := @run_makeMap Try.prog
    have hu75 := Try.underlying75
    go_enter Try.func25, Try.ntmps25
    go_wp2_with (first
      | ((with_reducible refine gate_dst (N := 2) rfl ?_); refine box_event ?hg (N := 2) ?hd (cs := #[.slice A0_0 l0_0.length c0_0, .slice A0_1 l0_1.length c0_1, .slice A0_2 l0_2.length c0_2]) (t := 26) ?hr ?_; (case hd => rfl); (case hg => rfl); (case hr => first | (go_simp; done) | (go_simp; rfl)); intro gp hgp w2 hbox hb; have HB1 := Aside0.mk hb; have BK1 := Aside0.mk hbox; clear hb hbox hgp; have hcz0 : w2.cell? ⟨gp, 0, none⟩ = some (.slice A0_0 l0_0.length c0_0) := (blk_cell BK1.out 0).trans rfl; have hcz1 : w2.cell? ⟨gp, 1, none⟩ = some (.slice A0_1 l0_1.length c0_1) := (blk_cell BK1.out 1).trans rfl; have hcz2 : w2.cell? ⟨gp, 2, none⟩ = some (.slice A0_2 l0_2.length c0_2) := (blk_cell BK1.out 2).trans rfl)
      | (go_at_call 41; (refine (proper_function.calls k _ _ l0_0 _ _ l0_1 _ _ l0_2 a1 0 _ (Kd.C_below HR0.out HB1.out) HC0.out (Kd.C_below HR1.out HB1.out) HC1.out (Kd.C_below HR2.out HB1.out) HC2.out HK.out).mono ?_); rintro e w4 ⟨rfl, hb⟩; have HB2 := Aside0.mk (below_step HB1.out hb); have BK2 := Aside0.mk (blk_below BK1.out hb); clear hb HB1 BK1 hcz0 hcz1 hcz2; have hcz0 : w4.cell? ⟨gp, 0, none⟩ = some (.slice A0_0 l0_0.length c0_0) := (blk_cell BK2.out 0).trans rfl; have hcz1 : w4.cell? ⟨gp, 1, none⟩ = some (.slice A0_1 l0_1.length c0_1) := (blk_cell BK2.out 1).trans rfl; have hcz2 : w4.cell? ⟨gp, 2, none⟩ = some (.slice A0_2 l0_2.length c0_2) := (blk_cell BK2.out 2).trans rfl))
    have HB3 := Aside0.mk (below_alloc (below_alloc HB2.out (.map #[] 0)) (.map #[] 0))
    have M1 : MapOf (Value.int .i64) ((w4.alloc (.map #[] 0)).alloc (.map #[] 0)) w4.heap.size (([] : List (Int × Int)).map kv) := (MapOf.new w4).alloc _
    have M2 : MapOf (Value.int .i64) ((w4.alloc (.map #[] 0)).alloc (.map #[] 0)) (w4.heap.size + 1) (([] : List Int).map ov) := by
      have := MapOf.new (enc := Value.int .i64) (w4.alloc (.map #[] 0))
      have e : (w4.alloc (.map #[] 0)).heap.size = w4.heap.size + 1 := Array.size_push _
      rw [e] at this
      exact this
    refine (of_calls k A0_0 c0_0 l0_0 A0_1 c0_1 l0_1 A0_2 c0_2 l0_2 w HR0.out HC0.out HR1.out HC1.out HR2.out HC2.out w4.heap.size (w4.heap.size + 1) HB2.out.size (Nat.le_succ_of_le HB2.out.size) (by omega) k a1 [] [] _ HB3.out M1 M2 _ kn' op' HQ.out).mono ?_
    rintro e w6 ⟨rfl, hL⟩
    have HL := Aside0.mk hL
    clear hL M1 M2 HB3
    go_wp2
    go_ret2
    exact ⟨by first | rfl | (simp; done) | (simp [*]; done), HL.out.below⟩
  · have c0 : (e0 != 0) = true := bne_iff_ne.mpr c
    have H' := H.out
    simp only [c, if_false, Option.some.injEq, Prod.mk.injEq] at H'
    clear H
    obtain ⟨rfl, rfl⟩ := H'
    clear c
    go_enter Try.func25, Try.ntmps25
    go_wp2_with (first
      | ((with_reducible refine gate_dst (N := 2) rfl ?_); refine box_event ?hg (N := 2) ?hd (cs := #[.slice A0_0 l0_0.length c0_0, .slice A0_1 l0_1.length c0_1, .slice A0_2 l0_2.length c0_2]) (t := 26) ?hr ?_; (case hd => rfl); (case hg => rfl); (case hr => first | (go_simp; done) | (go_simp; rfl)); intro gp hgp w2 hbox hb; have HB1 := Aside0.mk hb; have BK1 := Aside0.mk hbox; clear hb hbox hgp; have hcz0 : w2.cell? ⟨gp, 0, none⟩ = some (.slice A0_0 l0_0.length c0_0) := (blk_cell BK1.out 0).trans rfl; have hcz1 : w2.cell? ⟨gp, 1, none⟩ = some (.slice A0_1 l0_1.length c0_1) := (blk_cell BK1.out 1).trans rfl; have hcz2 : w2.cell? ⟨gp, 2, none⟩ = some (.slice A0_2 l0_2.length c0_2) := (blk_cell BK1.out 2).trans rfl)
      | (go_at_call 41; (refine (proper_function.calls k _ _ l0_0 _ _ l0_1 _ _ l0_2 a1 _ _ (Kd.C_below HR0.out HB1.out) HC0.out (Kd.C_below HR1.out HB1.out) HC1.out (Kd.C_below HR2.out HB1.out) HC2.out HK.out).mono ?_); rintro e w4 ⟨rfl, hb⟩; have HB2 := Aside0.mk (below_step HB1.out hb); clear hb))
    go_ret2
    exact ⟨by first | rfl | (simp; done) | (simp [*]; done), HB2.out⟩
end Go.Proofs.Ytdlikjfffdpmiaa.QProper

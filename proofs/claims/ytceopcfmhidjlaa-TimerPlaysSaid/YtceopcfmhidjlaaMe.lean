/- Maps whose entries are found first and stored later ('m[k], n[j] = x, y'), and keys that are structs of two whole numbers. Conditions: each theorem's own. -/
import Derived.Test.YtceopcfmhidjlaaMp
import Derived.WideKeyEntry
set_option linter.unusedVariables false
set_option linter.unusedSimpArgs false
set_option linter.unusedSectionVars false
namespace Go.Proofs.Ytceopcfmhidjlaa.Mp
open Go.Instr Go.RowKit

section
variable {κ : Type} [DecidableEq κ]
/-- A map whose entries are stamped each by its own number. -/
def MapS (enc : κ → Value) (w : World) (b : Nat) (l : List (κ × Value)) : Prop :=
  ∃ es clock, w.heap[b]? = some (.map es clock) ∧ es.toList.map pr = l.map (en enc) ∧ (∀ x ∈ es.toList, x.born < clock) ∧ (es.toList.map (·.born)).Nodup
/-- An entry has been found (or made), and not yet stored. -/
def Ent (enc : κ → Value) (w : World) (b : Nat) (k : κ) (l : List (κ × Value)) (st : Nat) : Prop :=
  ∃ es clock j e, w.heap[b]? = some (.map es clock) ∧ es[j]? = some e ∧ e.born = st ∧ (∀ v, (es.toList.set j { e with val := v }).map pr = (ins k v l).map (en enc)) ∧ (∀ x ∈ es.toList, x.born < clock) ∧ (es.toList.map (·.born)).Nodup
variable {enc : κ → Value} {w w' : World} {b : Nat} {l : List (κ × Value)}
theorem MapS.of (h : MapS enc w b l) : MapOf enc w b l := by obtain ⟨es, cl, h1, h2, _, _⟩ := h; exact ⟨es, cl, h1, h2⟩
theorem MapS.lt (h : MapS enc w b l) : b < w.heap.size := h.of.lt
theorem MapS.kept (h : MapS enc w b l) (hb : w'.heap[b]? = w.heap[b]?) : MapS enc w' b l := by
  obtain ⟨es, cl, h1, h2⟩ := h
  exact ⟨es, cl, hb.trans h1, h2⟩
theorem MapS.grown {row : Option Nat} (h : MapS enc w b l) (hg : w.grownBy w' row) (hne : some b ≠ row) : MapS enc w' b l := h.kept (hg.block b h.lt hne)
theorem MapS.below (h : MapS enc w b l) (hb : Below w.heap.size w w') : MapS enc w' b l := h.kept (hb.block b h.lt)
theorem MapS.new (w : World) : MapS enc (w.alloc (.map #[] 0)) w.heap.size [] := ⟨#[], 0, heap_alloc_new w _, rfl, by simp, by simp⟩
theorem Ent.kept {k : κ} {st : Nat} (h : Ent enc w b k l st) (hb : w'.heap[b]? = w.heap[b]?) : Ent enc w' b k l st := by
  obtain ⟨es, cl, j, e, h1, h2⟩ := h
  exact ⟨es, cl, j, e, hb.trans h1, h2⟩
theorem Ent.lt {k : κ} {st : Nat} (h : Ent enc w b k l st) : b < w.heap.size := by
  obtain ⟨es, cl, j, e, h1, h2⟩ := h
  exact (Array.getElem?_eq_some_iff.1 h1).1
theorem MapS.size_ (h : MapS enc w b l) : ∃ es cl, w.heap[b]? = some (.map es cl) ∧ es.size = l.length := h.of.size_
theorem modify_set {α : Type} (f : α → α) : ∀ (l : List α) (j : Nat) (a : α), l[j]? = some a → l.modify j f = l.set j (f a)
  | [], _, _, h => by simp at h
  | b :: r, 0, a, h => by simp at h; subst h; rfl
  | b :: r, j + 1, a, h => by simp at h; simp [List.modify_succ_cons, modify_set f r j a h]
theorem born_at {l : List MapEntry} (hn : (l.map (·.born)).Nodup) {j : Nat} {e : MapEntry} (he : l[j]? = some e) : l.findIdx? (fun x => (x.born : Int) == (e.born : Int)) = some j := by
  obtain ⟨hj, rfl⟩ := List.getElem?_eq_some_iff.1 he
  rw [List.findIdx?_eq_some_iff_getElem]
  refine ⟨hj, by simp, fun i hi => ?_⟩
  have h2 := List.pairwise_iff_getElem.1 (List.nodup_iff_pairwise_ne.1 hn) i j (by simp; omega) (by simpa using hj) hi
  simp only [List.getElem_map] at h2
  simp only [beq_eq_false_iff_ne, ne_eq, Bool.not_eq_true]
  intro q
  exact h2 (by omega)
end
section
variable {κ : Type} [DecidableEq κ]
variable {P : Program} {K E T : TypeId} {enc : κ → Value} (HK : KeyOk P K enc) (hT : P.underlying T = some (.map K E))
include HK hT
theorem run_entry {z : Value} {w : World} (hz : (zeroValue E).run P w = .ok z w) {b : Nat} {l : List (κ × Value)} (hM : MapS enc w b l) (k : κ) :
    ∃ v0 st w', (Instr.mapEntry T (.map (some b)) (enc k)).run P w = .ok (.tuple #[v0, .int .i64 (st : Nat)]) w' ∧ Ent enc w' b k l st ∧ w.grownBy w' (some b) ∧ w'.heap.size = w.heap.size := by
  obtain ⟨es, clock, hb, he, hs1, hs2⟩ := hM
  unfold Instr.mapEntry
  have hg : (getObj b).run P w = .ok (.map es clock) w := by simp [getObj, Sem.run, hb]
  have hs : ∀ o : Obj, (setObj b o).run P w = .ok () (setO w b o) := fun o => by simp [setObj, Sem.run, hb, setO]
  simp only [Sem.run_bind, run_underlying hT, Result.andThen_ok, hg, HK.check, HK.find k es.toList l w he]
  cases hl : look k l 0 with
  | none =>
    obtain ⟨h1, _⟩ := look_none l k 0 hl
    simp only [Sem.run_bind, hz, hs, Result.andThen_ok, Sem.run_pure]
    refine ⟨z, clock, _, rfl, ⟨es.push { key := enc k, val := z, born := clock }, clock + 1, es.size, { key := enc k, val := z, born := clock }, setO_at hb _, by simp, rfl, fun v => ?_, ?_, ?_⟩, setO_grown _ _ _, setO_size _ _ _⟩
    · rw [h1 v, Array.toList_push, List.map_append, ← he]
      have : (es.toList ++ [({ key := enc k, val := z, born := clock } : MapEntry)]).set es.size { key := enc k, val := v, born := clock } = es.toList ++ [{ key := enc k, val := v, born := clock }] := by
        rw [List.set_append_right _ _ (by simp)]
        simp
      rw [this, List.map_append]
      rfl
    · intro x hx
      rw [Array.toList_push, List.mem_append] at hx
      rcases hx with hx | hx
      · exact Nat.lt_succ_of_lt (hs1 x hx)
      · rw [List.mem_singleton.1 hx]; exact Nat.lt_succ_self _
    · rw [Array.toList_push, List.map_append, List.nodup_append]
      refine ⟨hs2, by simp, fun a ha c hc e1 => ?_⟩
      obtain ⟨x, hx, rfl⟩ := List.mem_map.1 ha
      simp only [List.map_cons, List.map_nil, List.mem_singleton] at hc
      have := hs1 x hx
      omega
  | some p =>
    obtain ⟨i, u⟩ := p
    obtain ⟨_, h2, h3, _⟩ := look_at l k 0 i u hl
    rw [Nat.sub_zero] at h2 h3
    have hi : i < es.size := by
      have := congrArg List.length he
      have hl2 := (List.getElem?_eq_some_iff.1 h2).1
      simp at this
      omega
    have hk : es[i].key = enc k := by
      have e1 : (es.toList.map pr)[i]? = (l.map (en enc))[i]? := by rw [he]
      rw [List.getElem?_map, List.getElem?_map, h2, Array.getElem?_toList, Array.getElem?_eq_getElem hi] at e1
      simp only [Option.map_some, Option.some.injEq, pr, en, Prod.mk.injEq] at e1
      exact e1.1
    have hk1 : ((es[i]?).map (·.key)).getD (enc k) = enc k := by rw [Array.getElem?_eq_getElem hi]; exact hk
    have hk2 : ((es[i]?).map (fun x => (x.born : Int))).getD 0 = (es[i].born : Int) := by rw [Array.getElem?_eq_getElem hi]; rfl
    simp only [hk1, Sem.run_bind, HK.stays, Result.andThen_ok, hs, Sem.run_pure]
    have hm : (es.modify i fun e => { e with key := enc k }) = es := by
      apply Array.ext'
      rw [Array.toList_modify, modify_set _ _ _ es[i] (by rw [Array.getElem?_toList, Array.getElem?_eq_getElem hi])]
      have : ({ es[i] with key := enc k } : MapEntry) = es[i] := by rw [← hk]
      rw [this]
      have := List.set_getElem_self (as := es.toList) (i := i) (by simpa using hi)
      simpa using this
    rw [hm]
    refine ⟨u, es[i].born, _, by rw [hk2]; rfl, ⟨es, clock, i, es[i], setO_at hb _, Array.getElem?_eq_getElem hi, rfl, fun v => ?_, hs1, hs2⟩, setO_grown _ _ _, setO_size _ _ _⟩
    rw [h3 v, List.map_set, he, List.map_set]
    show (l.map (en enc)).set i (es[i].key, v) = (l.map (en enc)).set i (enc k, v)
    rw [hk]
omit HK hT in
theorem run_estore {w : World} {b : Nat} {k : κ} {l : List (κ × Value)} {st : Nat} (hM : Ent enc w b k l st) (v : Value) :
    ∃ w', (Instr.entryStore T (.map (some b)) (.int .i64 (st : Nat)) v).run P w = .ok () w' ∧ MapS enc w' b (ins k v l) ∧ w.grownBy w' (some b) ∧ w'.heap.size = w.heap.size := by
  obtain ⟨es, clock, j, e, hb, hj, rfl, hv, hs1, hs2⟩ := hM
  unfold Instr.entryStore
  have hg : (getObj b).run P w = .ok (.map es clock) w := by simp [getObj, Sem.run, hb]
  have hs : ∀ o : Obj, (setObj b o).run P w = .ok () (setO w b o) := fun o => by simp [setObj, Sem.run, hb, setO]
  have hjl : es.toList[j]? = some e := by simpa using hj
  have hidx : es.findIdx? (fun x => (x.born : Int) == (e.born : Int)) = some j := by
    rw [← born_at hs2 hjl]
    cases es
    simp
  have hi : (asInt (.int .i64 (e.born : Int))).run P w = .ok (e.born : Int) w := by simp [asInt, asIntOf]
  simp only [Sem.run_bind, hg, hi, Result.andThen_ok, hidx, hs]
  have hm : (es.modify j fun e => { e with val := v }).toList = es.toList.set j { e with val := v } := by rw [Array.toList_modify, modify_set _ _ _ e hjl]
  refine ⟨_, rfl, ⟨_, _, setO_at hb _, by rw [hm]; exact hv v, ?_, ?_⟩, setO_grown _ _ _, setO_size _ _ _⟩
  · intro x hx
    rw [hm] at hx
    rcases List.mem_or_eq_of_mem_set hx with q | q
    · exact hs1 x q
    · rw [q]; exact hs1 e (List.mem_of_getElem? hjl)
  · rw [hm, List.map_set]
    have : (es.toList.map (·.born)).set j e.born = es.toList.map (·.born) := by
      obtain ⟨h1, h2⟩ := List.getElem?_eq_some_iff.1 hjl
      have := List.set_getElem_self (as := es.toList.map (·.born)) (i := j) (by simpa using h1)
      rw [List.getElem_map, h2] at this
      exact this
    show ((es.toList.map (·.born)).set j e.born).Nodup
    rw [this]
    exact hs2
theorem run_delS {w : World} {b : Nat} {l : List (κ × Value)} (hM : MapS enc w b l) (k : κ) (ty X : TypeId) :
    ∃ w', (Builtin.delete_ #[T, X] ty #[.map (some b), enc k]).run P w = .ok (.tuple #[]) w' ∧ MapS enc w' b (del k l) ∧ w.grownBy w' (some b) ∧ w'.heap.size = w.heap.size := by
  obtain ⟨es, clock, hb, he, hs1, hs2⟩ := hM
  unfold Builtin.delete_
  have hg : (getObj b).run P w = .ok (.map es clock) w := by simp [getObj, Sem.run, hb]
  have hs : ∀ o : Obj, (setObj b o).run P w = .ok () (setO w b o) := fun o => by simp [setObj, Sem.run, hb, setO]
  simp only [List.getElem?_toArray, List.getElem?_cons_zero, List.getElem?_cons_succ, Sem.run_bind, run_underlying hT, Result.andThen_ok, hg, HK.check, HK.find k es.toList l w he]
  cases hl : look k l 0 with
  | none =>
    obtain ⟨_, h1⟩ := look_none l k 0 hl
    simp only [Sem.run_bind, hs, Result.andThen_ok, Sem.run_pure]
    exact ⟨_, rfl, ⟨_, _, setO_at hb _, by rw [h1]; exact he, hs1, hs2⟩, setO_grown _ _ _, setO_size _ _ _⟩
  | some p =>
    obtain ⟨i, u⟩ := p
    obtain ⟨_, h2, _, h4⟩ := look_at l k 0 i u hl
    rw [Nat.sub_zero] at h2 h4
    have hi : i < es.size := by
      have := congrArg List.length he
      have hl2 := (List.getElem?_eq_some_iff.1 h2).1
      simp at this
      omega
    simp only [Sem.run_bind, hs, Result.andThen_ok, Sem.run_pure]
    have hm : (es.eraseIdxIfInBounds i).toList = es.toList.eraseIdx i := by rw [Array.eraseIdxIfInBounds, dif_pos hi, Array.toList_eraseIdx]
    refine ⟨_, rfl, ⟨_, _, setO_at hb _, ?_, ?_, ?_⟩, setO_grown _ _ _, setO_size _ _ _⟩
    · rw [h4, hm, List.eraseIdx_eq_take_drop_succ, List.eraseIdx_eq_take_drop_succ, List.map_append, List.map_append, List.map_take, List.map_take, List.map_drop, List.map_drop, he]
    · intro x hx
      rw [hm] at hx
      exact hs1 x (List.mem_of_mem_eraseIdx hx)
    · rw [hm]
      exact hs2.sublist ((List.eraseIdx_sublist _ _).map _)
end
/-! ### as steps of a walk -/
section
variable {κ : Type} [DecidableEq κ] {P : Program} {ops : Array Oper} {rest : List Oper} {o : Oper} {a : Act} {Q : Exit → Act → World → Prop} {K E T : TypeId} {enc : κ → Value} {W : World}
theorem gate_entry {T : TypeId} {x y : Operand} (_ho : o.op = .mapEntry T x y) (h : wpList P ops Q (o :: rest) a W) : wpList P ops Q (o :: rest) a W := h
theorem gate_estore {T : TypeId} {x y u : Operand} (_ho : o.op = .entryStore T x y u) (h : wpList P ops Q (o :: rest) a W) : wpList P ops Q (o :: rest) a W := h
theorem step_entry (HK : KeyOk P K enc) (hT : P.underlying T = some (.map K E)) (hgd : o.guard = none) {x y : Operand} (ho : o.op = .mapEntry T x y) {z : Value} (hz : (zeroValue E).run P W = .ok z W) {b : Nat} {l : List (κ × Value)}
    (hM : MapS enc W b l) (k : κ) (hx : a.eval x = .map (some b)) (hy : a.eval y = enc k)
    (h : ∀ (v0 : Value) (st : Nat) w1, Ent enc w1 b k l st → W.grownBy w1 (some b) → w1.heap.size = W.heap.size → wpList P ops Q rest (a.put o.dst (.tuple #[v0, .int .i64 (st : Nat)])) w1) : wpList P ops Q (o :: rest) a W := by
  refine wpList_plain hgd fun Kc hK => ?_
  obtain ⟨v0, st, w', h1, h2, h3, h4⟩ := run_entry HK hT hz hM k
  have hr : (execOp a.eval o).run P W = .ok (.value (.tuple #[v0, .int .i64 (st : Nat)])) w' := by
    unfold execOp
    simp only [ho, hx, hy, Sem.run_bind, h1, Result.andThen_ok]
    rfl
  unfold Oper.wp
  rw [hr]
  exact hK _ _ (h v0 st w' h2 h3 h4)
theorem step_estore (hgd : o.guard = none) {x y u : Operand} (ho : o.op = .entryStore T x y u) {b : Nat} {k : κ} {l : List (κ × Value)} {st : Nat}
    (hM : Ent enc W b k l st) (v : Value) (hx : a.eval x = .map (some b)) (hy : a.eval y = .int .i64 (st : Nat)) (hu : a.eval u = v)
    (h : ∀ w1, MapS enc w1 b (ins k v l) → W.grownBy w1 (some b) → w1.heap.size = W.heap.size → wpList P ops Q rest (a.put o.dst undef) w1) : wpList P ops Q (o :: rest) a W := by
  refine wpList_plain hgd fun Kc hK => ?_
  obtain ⟨w', h1, h2, h3, h4⟩ := run_estore (P := P) (T := T) hM v
  have hr : (execOp a.eval o).run P W = .ok .skip w' := by
    unfold execOp
    simp only [ho, hx, hy, hu, Sem.run_bind, h1, Result.andThen_ok]
    rfl
  unfold Oper.wp
  rw [hr]
  exact hK _ _ (h w' h2 h3 h4)
theorem step_delS (HK : KeyOk P K enc) (hT : P.underlying T = some (.map K E)) (hgd : o.guard = none) {x y : Operand} {X : TypeId} (ho : o.op = .call { callee := .builtin .delete, args := #[x, y], argTypes := #[T, X] }) {b : Nat} {l : List (κ × Value)}
    (hM : MapS enc W b l) (k : κ) (hx : a.eval x = .map (some b)) (hy : a.eval y = enc k)
    (h : ∀ w1, MapS enc w1 b (del k l) → W.grownBy w1 (some b) → w1.heap.size = W.heap.size → wpList P ops Q rest (a.put o.dst (.tuple #[])) w1) : wpList P ops Q (o :: rest) a W := by
  refine wpList_plain hgd fun Kc hK => ?_
  obtain ⟨w', h1, h2, h3, h4⟩ := run_delS HK hT hM k o.type X
  have hr : (execOp a.eval o).run P W = .ok (.value (.tuple #[])) w' := by
    unfold execOp
    simp only [ho]
    simp [resolve, invoke, builtin, hx, hy, h1]
  unfold Oper.wp
  rw [hr]
  exact hK _ _ (h w' h2 h3 h4)
end
/-! ### keys that are structs of two whole numbers -/
def enc2 (k : Int × Int) : Value := .agg #[.int .i64 k.1, .int .i64 k.2]
theorem asking2 {P : Program} {K : TypeId} (heq : ∀ (a b : Int × Int) (w : World), (Op.equal K (enc2 a) (enc2 b)).run P w = .ok (decide (a = b)) w) (k : Int × Int) (w : World) :
    ∀ (es : List MapEntry) (l : List ((Int × Int) × Value)) (i : Nat), es.map pr = l.map (en enc2) → (findAsking K (enc2 k) es i).run P w = .ok (look k l i) w := by
  intro es
  induction es with
  | nil =>
    intro l i h
    cases l with
    | nil => unfold findAsking; rfl
    | cons p r => cases h
  | cons e es ih =>
    intro l i h
    cases l with
    | nil => cases h
    | cons p r =>
      obtain ⟨a, v⟩ := p
      simp only [List.map_cons, List.cons.injEq, pr, en, Prod.mk.injEq] at h
      obtain ⟨⟨hk, hv⟩, hr⟩ := h
      unfold findAsking look
      simp only [Sem.run_bind, hk, heq, Result.andThen_ok, hv]
      by_cases c : a = k
      · subst c; simp
      · have c' : ¬ k = a := fun e => c e.symm
        rw [if_neg c]
        simp only [decide_eq_true_eq, c', if_false]
        exact ih r (i + 1) hr
theorem key2 {P : Program} {K : TypeId} {fs : Array Field} (hu : P.underlying K = some (.struct fs)) (hc : ∀ (e : Bool) (k : Int × Int) (w : World), (checkKey e 10000 K (enc2 k)).run P w = .ok () w)
    (heq : ∀ (a b : Int × Int) (w : World), (Op.equal K (enc2 a) (enc2 b)).run P w = .ok (decide (a = b)) w) : KeyOk P K enc2 where
  check := hc
  find := fun k es l w he => by
    unfold findKey
    simp only [Sem.run_bind, run_underlying hu, Result.andThen_ok]
    cases es with
    | nil =>
      cases l with
      | nil => rfl
      | cons p r => cases he
    | cons e es =>
      have : findNow (.struct fs) (enc2 k) (e :: es) 0 = none := by
        unfold findNow
        have : sameNow (.struct fs) (enc2 k) e.key = none := rfl
        rw [this]
      simp only [this]
      exact asking2 heq k w (e :: es) l 0 he
  stays := fun k w => by
    unfold keyThatStays
    have : sameBits 10000 (enc2 k) (enc2 k) = true := by
      show sameBits (9998 + 1 + 1) (enc2 k) (enc2 k) = true
      simp [sameBits, enc2]
    rw [this, if_pos rfl]
    rfl
end Go.Proofs.Ytceopcfmhidjlaa.Mp

/- A range over a map whose round writes other blocks, and whose iterator lies anywhere. Conditions: each theorem's own. -/
import Derived.Test.YtceopcfmhidjlaaMe
import Derived.Maps.RangeWalk
set_option linter.unusedVariables false
set_option linter.unusedSimpArgs false
set_option linter.unusedSectionVars false
namespace Go.Proofs.Ytceopcfmhidjlaa.Mp
open Go.Instr Go.RowKit
open Go.ChangeMaps (setBlock)

section
variable {κ : Type} [DecidableEq κ]
/-- Block r goes over the map in block b, which holds l; whatever has come is one of D's. -/
def Going (enc : κ → Value) (w : World) (b r : Nat) (l : List (κ × Value)) (D : κ → Prop) : Prop :=
  ∃ es clock seen c0, w.heap[b]? = some (.map es clock) ∧ es.toList.map pr = l.map (en enc) ∧ (∀ x ∈ es.toList, x.born < clock) ∧ (es.toList.map (·.born)).Nodup ∧
    w.heap[r]? = some (.mapIter (some b) clock seen c0) ∧ clock ≤ c0 ∧ (∀ (i : Nat) (e : MapEntry) (p : κ × Value), es.toList[i]? = some e → l[i]? = some p → seen.contains e.born = true → D p.1)
variable {enc : κ → Value} {w w' : World} {b r : Nat} {l : List (κ × Value)} {D : κ → Prop}
theorem Going.lt (h : Going enc w b r l D) : b < w.heap.size ∧ r < w.heap.size ∧ b ≠ r := by
  obtain ⟨es, clock, seen, c0, h1, h2, h3, h4, h5, h6⟩ := h
  refine ⟨(Array.getElem?_eq_some_iff.1 h1).1, (Array.getElem?_eq_some_iff.1 h5).1, fun e => ?_⟩
  rw [e, h5] at h1
  cases h1
theorem Going.kept (h : Going enc w b r l D) (h1 : w'.heap[b]? = w.heap[b]?) (h2 : w'.heap[r]? = w.heap[r]?) : Going enc w' b r l D := by
  obtain ⟨es, clock, seen, c0, k1, k2, k3, k4, k5, k6⟩ := h
  exact ⟨es, clock, seen, c0, h1.trans k1, k2, k3, k4, h2.trans k5, k6⟩
theorem Going.grown {row : Option Nat} (h : Going enc w b r l D) (hg : w.grownBy w' row) (h1 : some b ≠ row) (h2 : some r ≠ row) : Going enc w' b r l D := h.kept (hg.block b h.lt.1 h1) (hg.block r h.lt.2.1 h2)
theorem Going.below (h : Going enc w b r l D) (hb : Below w.heap.size w w') : Going enc w' b r l D := h.kept (hb.block b h.lt.1) (hb.block r h.lt.2.1)
theorem Going.left (h : Going enc w b r l D) (h2 : Going enc w' b r l D) (e1 : w'.heap[b]? = w.heap[b]?) (e2 : w'.heap[r]? = w.heap[r]?) : w'.rangeLeft b r = w.rangeLeft b r := by
  unfold World.rangeLeft
  rw [e1, e2]
theorem left_kept (h : Going enc w b r l D) (hb : Below w.heap.size w w') : w'.rangeLeft b r = w.rangeLeft b r := by
  unfold World.rangeLeft
  rw [hb.block b h.lt.1, hb.block r h.lt.2.1]
theorem left_grown {row : Option Nat} (h : Going enc w b r l D) (hg : w.grownBy w' row) (h1 : some b ≠ row) (h2 : some r ≠ row) : w'.rangeLeft b r = w.rangeLeft b r := by
  unfold World.rangeLeft
  rw [hg.block b h.lt.1 h1, hg.block r h.lt.2.1 h2]
theorem Going.begin {P : Program} {T K E : TypeId} (hT : P.underlying T = some (.map K E)) (hM : MapS enc w b l) :
    ∃ w', (Instr.range T (.map (some b))).run P w = .ok (.pointer (some ⟨w.heap.size, 0, none⟩)) w' ∧ Going enc w' b w.heap.size l (fun _ => False) ∧ w'.heap.size = w.heap.size + 1 ∧ w.grownBy w' none := by
  obtain ⟨es, clock, hb, he, hs1, hs2⟩ := hM
  have hlt : b < w.heap.size := (Array.getElem?_eq_some_iff.1 hb).1
  refine ⟨_, run_range_map w T K E b es clock hT hb, ⟨es, clock, #[], clock, (heap_alloc_old w _ hlt).trans hb, he, hs1, hs2, heap_alloc_new w _, Nat.le_refl _, fun i e p _ _ h => by simp at h⟩, Array.size_push _, World.grownBy_alloc w _ none⟩
theorem entry_at {es : Array MapEntry} (he : es.toList.map pr = l.map (en enc)) {e : MapEntry} (hm : e ∈ es.toList) : ∃ (i : Nat) (p : κ × Value), es.toList[i]? = some e ∧ l[i]? = some p ∧ e.key = enc p.1 ∧ e.val = p.2 ∧ p ∈ l := by
  obtain ⟨i, hi, rfl⟩ := List.getElem_of_mem hm
  have hl : i < l.length := by have := congrArg List.length he; simp at this; simpa [this] using hi
  have h1 : (es.toList.map pr)[i]? = (l.map (en enc))[i]? := by rw [he]
  rw [List.getElem?_map, List.getElem?_map, List.getElem?_eq_getElem hi, List.getElem?_eq_getElem hl] at h1
  simp only [Option.map_some, Option.some.injEq, pr, en, Prod.mk.injEq] at h1
  exact ⟨i, l[i], List.getElem?_eq_getElem hi, List.getElem?_eq_getElem hl, h1.1, h1.2, List.getElem_mem hl⟩
theorem Going.next {P : Program} (h : Going enc w b r l D) (ty : TypeId) :
    ((∀ p ∈ l, D p.1) ∧ (Instr.next (.pointer (some ⟨r, 0, none⟩)) false ty).run P w = .ok (.tuple #[.bool false]) w) ∨
    ∃ (p : κ × Value) (w' : World), p ∈ l ∧ (Instr.next (.pointer (some ⟨r, 0, none⟩)) false ty).run P w = .ok (.tuple #[.bool true, enc p.1, p.2]) w' ∧ Going enc w' b r l (fun k => D k ∨ k = p.1) ∧ w'.rangeLeft b r < w.rangeLeft b r ∧
      w.grownBy w' (some r) ∧ w'.heap.size = w.heap.size ∧ (Instr.entry (.pointer (some ⟨r, 0, none⟩))).run P w' = .ok (.tuple #[enc p.1, p.2]) w' := by
  have hlt := h.lt
  obtain ⟨es, clock, seen, c0, hb, he, hs1, hs2, hr, hc, hD⟩ := h
  rcases run_next_at (P := P) w ty r b clock c0 seen es clock hr hb hs1 hc with ⟨h0, hrun⟩ | ⟨e, hel, w1, hw1, hrun⟩
  · left
    refine ⟨fun p hp => ?_, hrun⟩
    obtain ⟨i, hi, rfl⟩ := List.getElem_of_mem hp
    have hi2 : i < es.toList.length := by have := congrArg List.length he; simp at this; simpa [this] using hi
    exact hD i es.toList[i] l[i] (List.getElem?_eq_getElem hi2) (List.getElem?_eq_getElem hi) (all_seen es seen h0 _ (List.getElem_mem hi2))
  · right
    obtain ⟨hem, hns⟩ := mem_left hel
    obtain ⟨i, p, hi, hpi, hk, hv, hpl⟩ := entry_at he hem
    have hw1h : w1.heap = w.heap := by rcases hw1 with rfl | rfl <;> rfl
    have hbr : b ≠ r := hlt.2.2
    have hB : (setBlock w1 r (.mapIter (some b) clock (seen.push e.born) clock)).heap[b]? = some (.map es clock) := by
      simp only [setBlock, hw1h, Array.getElem?_setIfInBounds_ne hbr.symm]
      exact hb
    have hR : (setBlock w1 r (.mapIter (some b) clock (seen.push e.born) clock)).heap[r]? = some (.mapIter (some b) clock (seen.push e.born) clock) := by
      simp only [setBlock, hw1h]
      exact Array.getElem?_setIfInBounds_self_of_lt hlt.2.1
    refine ⟨p, _, hpl, by rw [hrun, hk, hv], ⟨es, clock, seen.push e.born, clock, hB, he, hs1, hs2, hR, Nat.le_refl _, fun j e' p' hj hpj hs => ?_⟩, ?_, ?_, ?_, ?_⟩
    · rw [contains_push, Bool.or_eq_true] at hs
      rcases hs with hs | hs
      · exact .inl (hD j e' p' hj hpj hs)
      · right
        have hbn : e'.born = e.born := by simpa using hs
        have hj1 := (List.getElem?_eq_some_iff.1 hj).1
        have hi1 := (List.getElem?_eq_some_iff.1 hi).1
        have hij : j = i := by
          have h1 := (List.getElem?_eq_some_iff.1 hj).2
          have h2 := (List.getElem?_eq_some_iff.1 hi).2
          rw [← h1, ← h2] at hbn
          have hl1 : j < (es.toList.map (·.born)).length := by simpa using hj1
          have hl2 : i < (es.toList.map (·.born)).length := by simpa using hi1
          have h3 : (es.toList.map (·.born))[j] = (es.toList.map (·.born))[i] := by rw [List.getElem_map, List.getElem_map]; exact hbn
          exact (List.getElem_inj hs2).1 h3
        rw [hij, hpi] at hpj
        rw [Option.some.inj hpj]
    · simp only [World.rangeLeft, hB, hR, hb, hr]
      exact left_shrinks es seen e hel
    · refine ⟨?_, ?_, ?_, ?_, fun k hk2 hne => ?_⟩
      · rcases hw1 with rfl | rfl <;> rfl
      · rcases hw1 with rfl | rfl <;> rfl
      · rcases hw1 with rfl | rfl <;> rfl
      · simp [setBlock, hw1h]
      · simp only [setBlock, hw1h]
        exact Array.getElem?_setIfInBounds_ne (fun e1 => hne (by rw [e1]))
    · simp [setBlock, hw1h]
    · rw [← hk, ← hv]
      exact run_entry_at _ r b clock seen es clock e hR hB hem hs2
end
section
variable {κ : Type} [DecidableEq κ] {P : Program} {w : World} {ops : Array Oper} {rest : List Oper} {o : Oper} {a : Act} {Q : Exit → Act → World → Prop} {enc : κ → Value}
/-- 'range m'. -/
theorem step_range (hg : o.guard = none) (m : Operand) (T : TypeId) (hop : o.op = Op.range T m) {K E : TypeId} (hT : P.underlying T = some (.map K E)) {b : Nat} {l : List (κ × Value)} (hm : a.eval m = .map (some b)) (hM : MapS enc w b l)
    (hK : ∀ w', Going enc w' b w.heap.size l (fun _ => False) → w.grownBy w' none → w'.heap.size = w.heap.size + 1 → wpList P ops Q rest (a.put o.dst (.pointer (some ⟨w.heap.size, 0, none⟩))) w') :
    wpList P ops Q (o :: rest) a w := by
  refine wpList_plain hg fun K' hK' => ?_
  obtain ⟨w', hrun, r1, r2, r3⟩ := Going.begin (P := P) hT hM
  unfold Oper.wp
  simp [execOp, hop, hm, hrun, Result.andThen]
  exact hK' _ _ (hK w' r1 r3 r2)
/-- The step. -/
theorem step_next (hg : o.guard = none) (it : Operand) (hop : o.op = Op.next it false) {b r : Nat} {l : List (κ × Value)} {D : κ → Prop} (hit : a.eval it = .pointer (some ⟨r, 0, none⟩)) (h : Going enc w b r l D)
    (hDone : (∀ p ∈ l, D p.1) → wpList P ops Q rest (a.put o.dst (.tuple #[.bool false])) w)
    (hMore : ∀ (p : κ × Value) (w' : World), p ∈ l → Going enc w' b r l (fun k => D k ∨ k = p.1) → w'.rangeLeft b r < w.rangeLeft b r → w.grownBy w' (some r) → w'.heap.size = w.heap.size → (Instr.entry (.pointer (some ⟨r, 0, none⟩))).run P w' = .ok (.tuple #[enc p.1, p.2]) w' → wpList P ops Q rest (a.put o.dst (.tuple #[.bool true, enc p.1, p.2])) w') :
    wpList P ops Q (o :: rest) a w := by
  refine wpList_plain hg fun K' hK' => ?_
  unfold Oper.wp
  rcases h.next (P := P) o.type with ⟨hl, hrun⟩ | ⟨p, w', hp, hrun, hrg, hlt, hgr, hsz, hen⟩
  · simp [execOp, hop, hit, hrun, Result.andThen]
    exact hK' _ _ (hDone hl)
  · simp [execOp, hop, hit, hrun, Result.andThen]
    exact hK' _ _ (hMore p w' hp hrg hlt hgr hsz hen)
end
end Go.Proofs.Ytceopcfmhidjlaa.Mp

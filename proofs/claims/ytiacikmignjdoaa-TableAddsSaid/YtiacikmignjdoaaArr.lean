/- A block of the call's own that holds a list of values, one cell each: read, stored into, made.
   Conditions: none but that the block is there. -/
import Derived.Test.YtiacikmignjdoaaWWords
import Derived.Laws.MakeOwn
import Derived.Laws.OwnMore
set_option linter.unusedVariables false
namespace Go.Proofs.Ytiacikmignjdoaa.Arr
open Go.RowKit Go.Proofs.YtiacikmignjdoaaW.PrintWords

/-- The cells of a list of values. -/
def encA {α : Type} (enc : α → Value) (m : List α) : Array Value := (m.map enc).toArray
theorem encA_size {α : Type} (enc : α → Value) (m : List α) : (encA enc m).size = m.length := by simp [encA]
theorem encA_set {α : Type} (enc : α → Value) (m : List α) (i : Nat) (v : α) : (encA enc m).setIfInBounds i (enc v) = encA enc (m.set i v) := by
  apply Array.ext'
  simp [encA, List.map_set]
theorem encA_get {α : Type} (enc : α → Value) (m : List α) (d : α) (i : Nat) (h : i < m.length) : (encA enc m)[i]? = some (enc (m.getD i d)) := by
  simp [encA, List.getElem?_eq_getElem h, List.getD]
theorem encA_made {α : Type} (enc : α → Value) (d : α) (n : Nat) : madeCells #[enc d] n = encA enc (List.replicate n d) := by
  apply Array.ext'
  rw [toList_madeCells_one]
  simp [encA]

/-- A row that is known whole. -/
def HasArr {α : Type} (enc : α → Value) (t : TypeId) (g : Nat) (m : List α) (w : World) : Prop := w.heap[g]? = some (.cells (encA enc m) t (0, 0))
theorem HasArr.cell {α : Type} {enc : α → Value} {t : TypeId} {g : Nat} {m : List α} {w : World} (h : HasArr enc t g m w) (d : α) (i : Nat) (hi : i < m.length) : w.cell? ⟨g, i, none⟩ = some (enc (m.getD i d)) := (blk_cell h i).trans (encA_get enc m d i hi)
theorem HasArr.free {α : Type} {enc : α → Value} {t : TypeId} {g : Nat} {m : List α} {w : World} (h : HasArr enc t g m w) (i : Nat) : w.frozen? ⟨g, i, none⟩ = false := blk_frozen h i
theorem HasArr.lt {α : Type} {enc : α → Value} {t : TypeId} {g : Nat} {m : List α} {w : World} (h : HasArr enc t g m w) : g < w.heap.size := blk_lt h
theorem HasArr.set {α : Type} {enc : α → Value} {t : TypeId} {g : Nat} {m : List α} {w : World} (h : HasArr enc t g m w) (i : Nat) (v : α) : HasArr enc t g (m.set i v) (w.setCell ⟨g, i, none⟩ (enc v)) := by
  have := blk_set h i (enc v)
  rw [encA_set] at this
  exact this
theorem HasArr.far {α : Type} {enc : α → Value} {t : TypeId} {g : Nat} {m : List α} {w : World} (h : HasArr enc t g m w) {p : Addr} (hp : g ≠ p.block) (u : Value) : HasArr enc t g m (w.setCell p u) := blk_far h hp u
theorem HasArr.alloc {α : Type} {enc : α → Value} {t : TypeId} {g : Nat} {m : List α} {w : World} (h : HasArr enc t g m w) (o : Obj) : HasArr enc t g m (w.alloc o) := blk_alloc h o
theorem HasArr.below {α : Type} {enc : α → Value} {t : TypeId} {g : Nat} {m : List α} {w w1 : World} (h : HasArr enc t g m w) (hb : Below w.heap.size w w1) : HasArr enc t g m w1 := blk_below h hb
theorem HasArr.drewN {α : Type} {enc : α → Value} {t : TypeId} {g : Nat} {m : List α} {w : World} (h : HasArr enc t g m w) (n : Nat) : HasArr enc t g m (w.drewN n) := h
theorem HasArr.made {α : Type} (enc : α → Value) (t : TypeId) (d : α) (n : Nat) (w : World) : HasArr enc t w.heap.size (List.replicate n d) (w.alloc (.cells (madeCells #[enc d] n) t)) := by
  unfold HasArr
  rw [encA_made]
  exact blk_new w _
end Go.Proofs.Ytiacikmignjdoaa.Arr

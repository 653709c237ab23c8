/- HeapApart: the pure statement. Conditions: none. -/
import Derived.Test.YtedkacknopcceaaHeapApartS
namespace Go.Proofs.Ytedkacknopcceaa.SHeapApart
open Go.RowKit Go.Proofs.Ytedkacknopcceaa.QHeap
theorem pure : Pure := fun l0 l1 h0 h1 => ⟨0, by unfold rotalaw05_HeapApart.f; rw [if_pos (show l0.length ≤ most ∧ l1.length ≤ most from ⟨by have := h0.1.2; unfold most; omega, by have := h1.1.2; unfold most; omega⟩)]⟩
end Go.Proofs.Ytedkacknopcceaa.SHeapApart

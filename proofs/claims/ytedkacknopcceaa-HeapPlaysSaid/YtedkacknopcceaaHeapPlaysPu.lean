/- HeapPlays: the pure statement. Conditions: none. -/
import Derived.Test.YtedkacknopcceaaHeapPlaysS
namespace Go.Proofs.Ytedkacknopcceaa.SHeapPlays
open Go.RowKit Go.Proofs.Ytedkacknopcceaa.QHeap
theorem pure : Pure := fun l0 h0 => ⟨0, by unfold rotalaw05_HeapPlays.f; rw [if_pos (show l0.length ≤ most from by have := h0.1.2; unfold most; omega)]⟩
end Go.Proofs.Ytedkacknopcceaa.SHeapPlays

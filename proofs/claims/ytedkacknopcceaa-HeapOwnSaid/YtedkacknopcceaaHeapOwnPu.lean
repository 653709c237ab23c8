/- HeapOwn: the pure statement. Conditions: none. -/
import Derived.Test.YtedkacknopcceaaHeapOwnS
namespace Go.Proofs.Ytedkacknopcceaa.SHeapOwn
open Go.RowKit Go.Proofs.Ytedkacknopcceaa.QHeap
theorem pure : Pure := fun l0 h0 => ⟨0, by unfold rotalaw05_HeapOwn.f; rw [if_pos (show l0.length ≤ most from by have := h0.1.2; unfold most; omega)]⟩
end Go.Proofs.Ytedkacknopcceaa.SHeapOwn

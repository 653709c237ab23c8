/- HeapOwn told as a function that answers true for every script that fits. Conditions: each theorem's own. -/
import Derived.Test.YtedkacknopcceaaHow
set_option linter.unusedVariables false
namespace Go.Proofs.Ytedkacknopcceaa.QHeap
open Go.RowKit Go.Proofs.YtedkacknopcceaaW.PrintWords
def rotalaw05_HeapOwn.f (k : Nat) (l0 : List S46) : Option Bool := if l0.length ≤ most then some true else none
theorem rotalaw05_HeapOwn.calls (k : Nat) (A0 : Option Addr) (c0 : Nat) (l0 : List S46) (r : Bool) (w : World) (hr0 : Kd.C k46 w A0 l0.length l0) (hc0 : l0.length ≤ c0) (h : rotalaw05_HeapOwn.f k l0 = some r) :
    Calls Try.prog 6 #[.slice A0 l0.length c0] w fun e w' => e = .returned (.bool r) ∧ Below w.heap.size w w' := by
  unfold rotalaw05_HeapOwn.f at h
  by_cases hs : l0.length ≤ most
  · rw [if_pos hs] at h
    obtain rfl := Option.some.inj h
    exact own_calls A0 c0 l0 w hr0 hs
  · rw [if_neg hs] at h
    cases h
end Go.Proofs.Ytedkacknopcceaa.QHeap

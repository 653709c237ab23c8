/- HeapApart told as a function that answers true for all scripts that fit. Conditions: each theorem's own. -/
import Derived.Test.YtedkacknopcceaaHap
set_option linter.unusedVariables false
namespace Go.Proofs.Ytedkacknopcceaa.QHeap
open Go.RowKit Go.Proofs.YtedkacknopcceaaW.PrintWords
def rotalaw05_HeapApart.f (k : Nat) (l0 l1 : List S46) : Option Bool := if l0.length ≤ most ∧ l1.length ≤ most then some true else none
theorem rotalaw05_HeapApart.calls (k : Nat) (A0 : Option Addr) (c0 : Nat) (l0 : List S46) (A1 : Option Addr) (c1 : Nat) (l1 : List S46) (r : Bool) (w : World) (hr0 : Kd.C k46 w A0 l0.length l0) (hc0 : l0.length ≤ c0) (hr1 : Kd.C k46 w A1 l1.length l1) (hc1 : l1.length ≤ c1) (h : rotalaw05_HeapApart.f k l0 l1 = some r) :
    Calls Try.prog 5 #[.slice A0 l0.length c0, .slice A1 l1.length c1] w fun e w' => e = .returned (.bool r) ∧ Below w.heap.size w w' := by
  unfold rotalaw05_HeapApart.f at h
  by_cases hs : l0.length ≤ most ∧ l1.length ≤ most
  · rw [if_pos hs] at h
    obtain rfl := Option.some.inj h
    exact apart_calls A0 c0 l0 A1 c1 l1 w hr0 hr1 hs.1 hs.2
  · rw [if_neg hs] at h
    cases h
end Go.Proofs.Ytedkacknopcceaa.QHeap

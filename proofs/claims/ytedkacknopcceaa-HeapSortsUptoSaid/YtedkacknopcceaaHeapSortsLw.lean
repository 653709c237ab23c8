/- HeapSorts told as a function that always answers true. Conditions: at most 1048576 numbers come in. -/
import Derived.Test.YtedkacknopcceaaHso
set_option linter.unusedVariables false
namespace Go.Proofs.Ytedkacknopcceaa.QHeap
open Go.RowKit Go.Proofs.YtedkacknopcceaaW.PrintWords
def rotalaw05_HeapSorts.f (k : Nat) (l0 l1 : List Int) : Option Bool := some true
theorem rotalaw05_HeapSorts.calls (k : Nat) (A0 : Option Addr) (c0 : Nat) (l0 : List Int) (A1 : Option Addr) (c1 : Nat) (l1 : List Int) (r : Bool) (w : World) (hr0 : Kd.C (Kd.int .u64) w A0 l0.length l0) (hc0 : l0.length ≤ c0) (hr1 : Kd.C (Kd.int .i64) w A1 l1.length l1) (hc1 : l1.length ≤ c1) (u0 : l0.length ≤ 1048576) (u1 : l1.length ≤ 1048576) (h : rotalaw05_HeapSorts.f k l0 l1 = some r) :
    Calls Try.prog 3 #[.slice A0 l0.length c0, .slice A1 l1.length c1] w fun e w' => e = .returned (.bool r) ∧ Below w.heap.size w w' := by
  obtain rfl := Option.some.inj h
  exact sorts_calls A0 c0 l0 A1 c1 l1 w hr0 hr1 u0 u1
end Go.Proofs.Ytedkacknopcceaa.QHeap

/- The argument kinds of the law HeapSorts, how they open, and its one pure statement. Conditions: none. -/
import Derived.Test.YtedkacknopcceaaKin
import Derived.Test.YtedkacknopcceaaHeapSortsLw
set_option linter.unusedVariables false
namespace Go.Proofs.Ytedkacknopcceaa.SHeapSorts
open Go.RowKit Go.Proofs.Ytedkacknopcceaa.QHeap Go.Proofs.YtedkacknopcceaaW.PrintWords Go.Proofs.YtedkacknopcceaaW.PrintLast Go.Proofs.Ytedkacknopcceaa.Kin

def Pure : Prop := ∀ (l0 : List (Int)) (l1 : List (Int)), ((l0.length ≤ maxLen ∧ l0.length * 8 ≤ 140737488351232) ∧ ∀ y ∈ l0, (Lit.int .u64 y).wf = true) → ((l1.length ≤ maxLen ∧ l1.length * 8 ≤ 140737488351232) ∧ ∀ y ∈ l1, (Lit.int .i64 y).wf = true) → ∃ k, rotalaw05_HeapSorts.f k l0 l1 = some true
end Go.Proofs.Ytedkacknopcceaa.SHeapSorts

/- The argument kinds of the law SemaCounts, how they open, and its one pure statement. Conditions: none. -/
import Derived.Test.YtielcanihooagaaDoorKin
import Derived.Test.YtielcanihooagaaDoorSco
set_option linter.unusedVariables false
namespace Go.Proofs.YtielcanihooagaaDoor.SSemaCounts
open Go.RowKit Go.Proofs.YtielcanihooagaaDoor.PSemaExcludes Go.Proofs.YtielcanihooagaaDoorW.PrintWords Go.Proofs.YtielcanihooagaaDoorW.PrintLast Go.Proofs.YtielcanihooagaaDoor.Kin

def Pure : Prop := ∀ (l0 : List (Bool)), ((l0.length ≤ maxLen ∧ l0.length * 1 ≤ 140737488351232) ∧ ∀ y ∈ l0, True) → ∃ k, rotalaw13_SemaCounts.f k l0 = some true
end Go.Proofs.YtielcanihooagaaDoor.SSemaCounts

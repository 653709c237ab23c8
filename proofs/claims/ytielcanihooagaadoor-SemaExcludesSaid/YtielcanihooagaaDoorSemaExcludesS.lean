/- The argument kinds of the law SemaExcludes, how they open, and its one pure statement. Conditions: none. -/
import Derived.Test.YtielcanihooagaaDoorKin
import Derived.Test.YtielcanihooagaaDoorSex
set_option linter.unusedVariables false
namespace Go.Proofs.YtielcanihooagaaDoor.SSemaExcludes
open Go.RowKit Go.Proofs.YtielcanihooagaaDoor.PSemaExcludes Go.Proofs.YtielcanihooagaaDoorW.PrintWords Go.Proofs.YtielcanihooagaaDoorW.PrintLast Go.Proofs.YtielcanihooagaaDoor.Kin

def Pure : Prop := ∀ (l0 : List (Int)), ((l0.length ≤ maxLen ∧ l0.length * 1 ≤ 140737488351232) ∧ ∀ y ∈ l0, (Lit.int .u8 y).wf = true) → ∃ k, rotalaw13_SemaExcludes.f k l0 = some true
end Go.Proofs.YtielcanihooagaaDoor.SSemaExcludes

/- SemaCounts: the pure statement. Conditions: none. -/
import Derived.Test.YtielcanihooagaaDoorSemaCountsS
namespace Go.Proofs.YtielcanihooagaaDoor.SSemaCounts
theorem pure : Pure := fun _ _ => ⟨0, rfl⟩
end Go.Proofs.YtielcanihooagaaDoor.SSemaCounts

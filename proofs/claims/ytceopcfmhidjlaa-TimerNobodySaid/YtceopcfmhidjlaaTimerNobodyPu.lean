/- TimerNobody, of plain numbers: the walk itself has shown it. Conditions: none. -/
import Derived.Test.YtceopcfmhidjlaaTimerNobodyS
set_option linter.unusedVariables false
namespace Go.Proofs.Ytceopcfmhidjlaa.STimerNobody
open Go.RowKit Go.Proofs.Ytceopcfmhidjlaa.PTimerNobody
theorem pure : Pure := fun _ _ _ _ _ _ _ _ _ _ _ _ => ⟨0, rfl⟩
end Go.Proofs.Ytceopcfmhidjlaa.STimerNobody

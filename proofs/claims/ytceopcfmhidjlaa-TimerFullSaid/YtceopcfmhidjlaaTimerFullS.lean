/- The argument kinds of the law TimerFull, how they open, and its one pure statement. Conditions: none. -/
import Derived.Test.YtceopcfmhidjlaaKin
import Derived.Test.YtceopcfmhidjlaaTfu
set_option linter.unusedVariables false
namespace Go.Proofs.Ytceopcfmhidjlaa.STimerFull
open Go.RowKit Go.Proofs.Ytceopcfmhidjlaa.PTimerPlays Go.Proofs.YtceopcfmhidjlaaW.PrintWords Go.Proofs.YtceopcfmhidjlaaW.PrintLast Go.Proofs.Ytceopcfmhidjlaa.Kin

def Pure : Prop := ∀ (a0 : Int) (a1 : Int), (Lit.int .u64 a0).wf = true → (Lit.int .u64 a1).wf = true → ∃ k, rotalaw14_TimerFull.f k a0 a1 = some true
end Go.Proofs.Ytceopcfmhidjlaa.STimerFull

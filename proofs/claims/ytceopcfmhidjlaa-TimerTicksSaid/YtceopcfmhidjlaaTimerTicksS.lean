/- The argument kinds of the law TimerTicks, how they open, and its one pure statement. Conditions: none. -/
import Derived.Test.YtceopcfmhidjlaaKin
import Derived.Test.YtceopcfmhidjlaaTtk
set_option linter.unusedVariables false
namespace Go.Proofs.Ytceopcfmhidjlaa.STimerTicks
open Go.RowKit Go.Proofs.Ytceopcfmhidjlaa.PTimerPlays Go.Proofs.YtceopcfmhidjlaaW.PrintWords Go.Proofs.YtceopcfmhidjlaaW.PrintLast Go.Proofs.Ytceopcfmhidjlaa.Kin

def Pure : Prop := ∀ (a0_0 : Int) (a0_1 : Int) (a0_2 : Int) (a0_3 : Int), (Lit.int .i64 a0_0).wf = true → (Lit.int .u64 a0_1).wf = true → (Lit.int .u8 a0_2).wf = true → (Lit.int .u8 a0_3).wf = true → ∃ k, rotalaw14_TimerTicks.f k a0_0 a0_1 a0_2 a0_3 = some true
end Go.Proofs.Ytceopcfmhidjlaa.STimerTicks

/- The argument kinds of the law TimerNobody, how they open, and its one pure statement. Conditions: none. -/
import Derived.Test.YtceopcfmhidjlaaKin
import Derived.Test.YtceopcfmhidjlaaTimerNobodyLw
set_option linter.unusedVariables false
namespace Go.Proofs.Ytceopcfmhidjlaa.STimerNobody
open Go.RowKit Go.Proofs.Ytceopcfmhidjlaa.PTimerNobody Go.Proofs.YtceopcfmhidjlaaW.PrintWords Go.Proofs.YtceopcfmhidjlaaW.PrintLast Go.Proofs.Ytceopcfmhidjlaa.Kin

def W30 (x : S30) : Prop := (Lit.int .i64 x.f0).wf = true ∧ (Lit.int .i64 x.f1).wf = true
theorem opens_T30 : Opens Try.prog 30 k30 W30 :=
  opens_iso (fun x : S30 => (x.f0, x.f1)) (fun y => ⟨y.1, y.2⟩) (fun _ => rfl) (opens_struct Try.underlying30 (by kernel_rfl) (opensAt_cons rfl (by kernel_rfl) (opens_int Try.underlying3) (opensAt_one rfl (by kernel_rfl) (opens_int Try.underlying3))))

def Pure : Prop := ∀ (a0_0 : Int) (a0_1_0 : Int) (a0_1_1 : Int) (a0_2 : Int) (a0_3 : Int) (a0_4 : Int), (Lit.int .i64 a0_0).wf = true → (Lit.int .i64 a0_1_0).wf = true → (Lit.int .i64 a0_1_1).wf = true → (Lit.int .i64 a0_2).wf = true → (Lit.int .u64 a0_3).wf = true → (Lit.int .u64 a0_4).wf = true → ∃ k, rotalaw14_TimerNobody.f k a0_0 a0_1_0 a0_1_1 a0_2 a0_3 a0_4 = some true
end Go.Proofs.Ytceopcfmhidjlaa.STimerNobody

/- The argument kinds of the law TimerPlays, how they open, and its one pure statement. Conditions: none. -/
import Derived.Test.YtceopcfmhidjlaaKin
import Derived.Test.YtceopcfmhidjlaaTd2
set_option linter.unusedVariables false
namespace Go.Proofs.Ytceopcfmhidjlaa.STimerPlays
open Go.RowKit Go.Proofs.Ytceopcfmhidjlaa.PTimerPlays Go.Proofs.YtceopcfmhidjlaaW.PrintWords Go.Proofs.YtceopcfmhidjlaaW.PrintLast Go.Proofs.Ytceopcfmhidjlaa.Kin

def W30 (x : S30) : Prop := (Lit.int .i64 x.f0).wf = true ∧ (Lit.int .i64 x.f1).wf = true
theorem opens_T30 : Opens Try.prog 30 k30 W30 :=
  opens_iso (fun x : S30 => (x.f0, x.f1)) (fun y => ⟨y.1, y.2⟩) (fun _ => rfl) (opens_struct Try.underlying30 (by kernel_rfl) (opensAt_cons rfl (by kernel_rfl) (opens_int Try.underlying3) (opensAt_one rfl (by kernel_rfl) (opens_int Try.underlying3))))

def W52 (x : S52) : Prop := (Lit.int .i64 x.f0).wf = true ∧ W30 x.f1 ∧ (Lit.int .i64 x.f2).wf = true ∧ (Lit.int .u64 x.f3).wf = true ∧ (Lit.int .u64 x.f4).wf = true
theorem opens_T52 : Opens Try.prog 52 k52 W52 :=
  opens_iso (fun x : S52 => (x.f0, x.f1, x.f2, x.f3, x.f4)) (fun y => ⟨y.1, y.2.1, y.2.2.1, y.2.2.2.1, y.2.2.2.2⟩) (fun _ => rfl) (opens_struct Try.underlying52 (by kernel_rfl) (opensAt_cons rfl (by kernel_rfl) (opens_int Try.underlying3) (opensAt_cons rfl (by kernel_rfl) opens_T30 (opensAt_cons rfl (by kernel_rfl) (opens_int Try.underlying2) (opensAt_cons rfl (by kernel_rfl) (opens_int Try.underlying22) (opensAt_one rfl (by kernel_rfl) (opens_int Try.underlying22)))))))

def Pure : Prop := ∀ (l0 : List (S52)), ((l0.length ≤ maxLen ∧ l0.length * 48 ≤ 140737488351232) ∧ ∀ y ∈ l0, W52 y) → ∃ k, rotalaw14_TimerPlays.f k l0 = some true
end Go.Proofs.Ytceopcfmhidjlaa.STimerPlays

/- The argument kinds of the law OrderStrict, how they open, and its one pure statement. Conditions: none. -/
import Derived.Test.YtkbfijkohngjjaaKin
import Derived.Test.YtkbfijkohngjjaaQOrderx9
set_option linter.unusedVariables false
namespace Go.Proofs.Ytkbfijkohngjjaa.SOrderStrict
open Go.RowKit Go.Proofs.Ytkbfijkohngjjaa.QOrder Go.Proofs.YtkbfijkohngjjaaW.PrintWords Go.Proofs.YtkbfijkohngjjaaW.PrintLast Go.Proofs.Ytkbfijkohngjjaa.Kin

def W34 (x : S34) : Prop := (Lit.int .i64 x.f0).wf = true ∧ (Lit.int .i64 x.f1).wf = true
theorem opens_T34 : Opens Try.prog 34 k34 W34 :=
  opens_iso (fun x : S34 => (x.f0, x.f1)) (fun y => ⟨y.1, y.2⟩) (fun _ => rfl) (opens_struct Try.underlying34 (by kernel_rfl) (opensAt_cons rfl (by kernel_rfl) (opens_int Try.underlying3) (opensAt_one rfl (by kernel_rfl) (opens_int Try.underlying3))))

def W36 (x : S36) : Prop := (Lit.int .u64 x.f0).wf = true ∧ (Lit.int .i64 x.f1).wf = true ∧ W34 x.f2 ∧ (Lit.int .i64 x.f3).wf = true ∧ (Lit.int .i64 x.f4).wf = true ∧ (Lit.int .i64 x.f5).wf = true ∧ (Lit.int .i64 x.f6).wf = true
theorem opens_T36 : Opens Try.prog 36 k36 W36 :=
  opens_iso (fun x : S36 => (x.f0, x.f1, x.f2, x.f3, x.f4, x.f5, x.f6)) (fun y => ⟨y.1, y.2.1, y.2.2.1, y.2.2.2.1, y.2.2.2.2.1, y.2.2.2.2.2.1, y.2.2.2.2.2.2⟩) (fun _ => rfl) (opens_struct Try.underlying36 (by kernel_rfl) (opensAt_cons rfl (by kernel_rfl) (opens_int Try.underlying32) (opensAt_cons rfl (by kernel_rfl) (opens_int Try.underlying3) (opensAt_cons rfl (by kernel_rfl) opens_T34 (opensAt_cons rfl (by kernel_rfl) (opens_int Try.underlying3) (opensAt_cons rfl (by kernel_rfl) (opens_int Try.underlying2) (opensAt_cons rfl (by kernel_rfl) (opens_int Try.underlying2) (opensAt_one rfl (by kernel_rfl) (opens_int Try.underlying2)))))))))

def Pure : Prop := ∀ (l0_0 : List (S36)) (l0_1 : List (Int)) (a0_2 : Int) (a0_3 : Int) (a0_4 : Int), ((l0_0.length ≤ maxLen ∧ l0_0.length * 64 ≤ 140737488351232) ∧ ∀ y ∈ l0_0, W36 y) → ((l0_1.length ≤ maxLen ∧ l0_1.length * 8 ≤ 140737488351232) ∧ ∀ y ∈ l0_1, (Lit.int .i64 y).wf = true) → (Lit.int .i64 a0_2).wf = true → (Lit.int .i64 a0_3).wf = true → (Lit.int .i64 a0_4).wf = true → ∃ k, rotalaw26_OrderStrict.f k l0_0 l0_1 a0_2 a0_3 a0_4 = some true
end Go.Proofs.Ytkbfijkohngjjaa.SOrderStrict

/- The argument kinds of the law OrderGuarded, how they open, and its one pure statement. Conditions: none. -/
import Derived.Test.YtkbfijkohngjjaaKin
import Derived.Test.YtkbfijkohngjjaaQOrderx18
set_option linter.unusedVariables false
namespace Go.Proofs.Ytkbfijkohngjjaa.SOrderGuarded
open Go.RowKit Go.Proofs.Ytkbfijkohngjjaa.QOrder Go.Proofs.YtkbfijkohngjjaaW.PrintWords Go.Proofs.YtkbfijkohngjjaaW.PrintLast Go.Proofs.Ytkbfijkohngjjaa.Kin

def W34 (x : S34) : Prop := (Lit.int .i64 x.f0).wf = true ∧ (Lit.int .i64 x.f1).wf = true
theorem opens_T34 : Opens Try.prog 34 k34 W34 :=
  opens_iso (fun x : S34 => (x.f0, x.f1)) (fun y => ⟨y.1, y.2⟩) (fun _ => rfl) (opens_struct Try.underlying34 (by kernel_rfl) (opensAt_cons rfl (by kernel_rfl) (opens_int Try.underlying3) (opensAt_one rfl (by kernel_rfl) (opens_int Try.underlying3))))

def W36 (x : S36) : Prop := (Lit.int .u64 x.f0).wf = true ∧ (Lit.int .i64 x.f1).wf = true ∧ W34 x.f2 ∧ (Lit.int .i64 x.f3).wf = true ∧ (Lit.int .i64 x.f4).wf = true ∧ (Lit.int .i64 x.f5).wf = true ∧ (Lit.int .i64 x.f6).wf = true
theorem opens_T36 : Opens Try.prog 36 k36 W36 :=
  opens_iso (fun x : S36 => (x.f0, x.f1, x.f2, x.f3, x.f4, x.f5, x.f6)) (fun y => ⟨y.1, y.2.1, y.2.2.1, y.2.2.2.1, y.2.2.2.2.1, y.2.2.2.2.2.1, y.2.2.2.2.2.2⟩) (fun _ => rfl) (opens_struct Try.underlying36 (by kernel_rfl) (opensAt_cons rfl (by kernel_rfl) (opens_int Try.underlying32) (opensAt_cons rfl (by kernel_rfl) (opens_int Try.underlying3) (opensAt_cons rfl (by kernel_rfl) opens_T34 (opensAt_cons rfl (by kernel_rfl) (opens_int Try.underlying3) (opensAt_cons rfl (by kernel_rfl) (opens_int Try.underlying2) (opensAt_cons rfl (by kernel_rfl) (opens_int Try.underlying2) (opensAt_one rfl (by kernel_rfl) (opens_int Try.underlying2)))))))))

def Pure : Prop := ∀ (l0 : List (S36)) (l1 : List (Int)) (a2 : Int), ((l0.length ≤ maxLen ∧ l0.length * 64 ≤ 140737488351232) ∧ ∀ y ∈ l0, W36 y) → ((l1.length ≤ maxLen ∧ l1.length * 8 ≤ 140737488351232) ∧ ∀ y ∈ l1, (Lit.int .i64 y).wf = true) → (Lit.int .i64 a2).wf = true → ∃ k, rotalaw26_OrderGuarded.f k l0 l1 a2 = some true
end Go.Proofs.Ytkbfijkohngjjaa.SOrderGuarded

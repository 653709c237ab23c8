/- The argument kinds of the law TableAdds, how they open, and its one pure statement. Conditions: none. -/
import Derived.Test.YtiacikmignjdoaaKin
import Derived.Test.YtiacikmignjdoaaKinA
import Derived.Test.YtiacikmignjdoaaTableAddsAd
set_option linter.unusedVariables false
namespace Go.Proofs.Ytiacikmignjdoaa.STableAdds
open Go.RowKit Go.Proofs.Ytiacikmignjdoaa.QTableAdds Go.Proofs.YtiacikmignjdoaaW.PrintWords Go.Proofs.YtiacikmignjdoaaW.PrintLast Go.Proofs.Ytiacikmignjdoaa.Kin

def W46 (x : S46) : Prop := (Lit.int .u64 x.f0).wf = true ∧ (Lit.int .u64 x.f1).wf = true
theorem opens_T46 : Opens Try.prog 46 k46 W46 :=
  opens_iso (fun x : S46 => (x.f0, x.f1)) (fun y => ⟨y.1, y.2⟩) (fun _ => rfl) (opens_struct Try.underlying46 (by kernel_rfl) (opensAt_cons rfl (by kernel_rfl) (opens_int Try.underlying22) (opensAt_one rfl (by kernel_rfl) (opens_int Try.underlying22))))

def W48 (x : S48) : Prop := (Lit.int .i64 x.f0).wf = true ∧ W46 x.f1 ∧ (Lit.int .u64 x.f2).wf = true
theorem opens_T48 : Opens Try.prog 48 k48 W48 :=
  opens_iso (fun x : S48 => (x.f0, x.f1, x.f2)) (fun y => ⟨y.1, y.2.1, y.2.2⟩) (fun _ => rfl) (opens_struct Try.underlying48 (by kernel_rfl) (opensAt_cons rfl (by kernel_rfl) (opens_int Try.underlying3) (opensAt_cons rfl (by kernel_rfl) opens_T46 (opensAt_one rfl (by kernel_rfl) (opens_int Try.underlying22)))))

def Pure : Prop := ∀ (a0_0 : Int) (l0_1 : List (List (S48))) (a1 : Int) (a2_0 : Int) (a2_1 : Int), (Lit.int .u64 a0_0).wf = true → ((l0_1.length ≤ maxLen ∧ l0_1.length * 24 ≤ 140737488351232) ∧ ∀ y ∈ l0_1, ((y.length ≤ maxLen ∧ y.length * 32 ≤ 140737488351232) ∧ ∀ yy ∈ y, W48 yy)) → (Lit.int .i64 a1).wf = true → (Lit.int .u64 a2_0).wf = true → (Lit.int .u64 a2_1).wf = true → ∃ k, rotalaw16_TableAdds.f k a0_0 l0_1 a1 a2_0 a2_1 = some true
end Go.Proofs.Ytiacikmignjdoaa.STableAdds

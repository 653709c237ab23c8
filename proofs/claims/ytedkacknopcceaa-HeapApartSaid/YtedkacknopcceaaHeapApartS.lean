/- The argument kinds of the law HeapApart, how they open, and its one pure statement. Conditions: none. -/
import Derived.Test.YtedkacknopcceaaKin
import Derived.Test.YtedkacknopcceaaHeapApartLw
set_option linter.unusedVariables false
namespace Go.Proofs.Ytedkacknopcceaa.SHeapApart
open Go.RowKit Go.Proofs.Ytedkacknopcceaa.QHeap Go.Proofs.YtedkacknopcceaaW.PrintWords Go.Proofs.YtedkacknopcceaaW.PrintLast Go.Proofs.Ytedkacknopcceaa.Kin

def W46 (x : S46) : Prop := (Lit.int .i64 x.f0).wf = true ∧ (Lit.int .u64 x.f1).wf = true ∧ (Lit.int .i64 x.f2).wf = true
theorem opens_T46 : Opens Try.prog 46 k46 W46 :=
  opens_iso (fun x : S46 => (x.f0, x.f1, x.f2)) (fun y => ⟨y.1, y.2.1, y.2.2⟩) (fun _ => rfl) (opens_struct Try.underlying46 (by kernel_rfl) (opensAt_cons rfl (by kernel_rfl) (opens_int Try.underlying3) (opensAt_cons rfl (by kernel_rfl) (opens_int Try.underlying28) (opensAt_one rfl (by kernel_rfl) (opens_int Try.underlying3)))))

def Pure : Prop := ∀ (l0 : List (S46)) (l1 : List (S46)), ((l0.length ≤ maxLen ∧ l0.length * 24 ≤ 140737488351232) ∧ ∀ y ∈ l0, W46 y) → ((l1.length ≤ maxLen ∧ l1.length * 24 ≤ 140737488351232) ∧ ∀ y ∈ l1, W46 y) → ∃ k, rotalaw05_HeapApart.f k l0 l1 = some true
end Go.Proofs.Ytedkacknopcceaa.SHeapApart

/- The argument kinds of the law ProperTurned, how they open, and its one pure statement. Conditions: none. -/
import Derived.Test.YtdlikjfffdpmiaaKin
import Derived.Test.YtdlikjfffdpmiaaProperTw
set_option linter.unusedVariables false
namespace Go.Proofs.Ytdlikjfffdpmiaa.SProperTurned
open Go.RowKit Go.Proofs.Ytdlikjfffdpmiaa.QProper Go.Proofs.YtdlikjfffdpmiaaW.PrintWords Go.Proofs.YtdlikjfffdpmiaaW.PrintLast Go.Proofs.Ytdlikjfffdpmiaa.Kin

def W34 (x : S34) : Prop := (Lit.int .i64 x.f0).wf = true ∧ (Lit.int .i64 x.f1).wf = true
theorem opens_T34 : Opens Try.prog 34 k34 W34 :=
  opens_iso (fun x : S34 => (x.f0, x.f1)) (fun y => ⟨y.1, y.2⟩) (fun _ => rfl) (opens_struct Try.underlying34 (by kernel_rfl) (opensAt_cons rfl (by kernel_rfl) (opens_int Try.underlying3) (opensAt_one rfl (by kernel_rfl) (opens_int Try.underlying3))))

def W87 (x : S87) : Prop := True ∧ (Lit.int .i64 x.f1).wf = true ∧ (Lit.int .i64 x.f2).wf = true ∧ (Lit.int .i64 x.f3).wf = true
theorem opens_T87 : Opens Try.prog 87 k87 W87 :=
  opens_iso (fun x : S87 => (x.f0, x.f1, x.f2, x.f3)) (fun y => ⟨y.1, y.2.1, y.2.2.1, y.2.2.2⟩) (fun _ => rfl) (opens_struct Try.underlying87 (by kernel_rfl) (opensAt_cons rfl (by kernel_rfl) (opens_bool Try.underlying4) (opensAt_cons rfl (by kernel_rfl) (opens_int Try.underlying3) (opensAt_cons rfl (by kernel_rfl) (opens_int Try.underlying3) (opensAt_one rfl (by kernel_rfl) (opens_int Try.underlying3))))))

def W58 (x : S58) : Prop := ((x.f0.length ≤ maxLen ∧ x.f0.length * 32 ≤ 140737488351232) ∧ ∀ y ∈ x.f0, W87 y) ∧ True
theorem opens_T58 : Opens Try.prog 58 k58 W58 :=
  opens_iso (fun x : S58 => (x.f0, x.f1)) (fun y => ⟨y.1, y.2⟩) (fun _ => rfl) (opens_struct Try.underlying58 (by kernel_rfl) (opensAt_cons rfl (by kernel_rfl) (opens_slice (B := 32) z87 Try.underlying56 (by kernel_rfl) (by kernel_rfl) opens_T87) (opensAt_one rfl (by kernel_rfl) (opens_bool Try.underlying4))))

def Pure : Prop := ∀ (l0_0 : List (Int)) (l0_1 : List (S34)) (l0_2 : List (S58)) (a1 : Int) (a2 : Int), ((l0_0.length ≤ maxLen ∧ l0_0.length * 4 ≤ 140737488351232) ∧ ∀ y ∈ l0_0, (Lit.int .u32 y).wf = true) → ((l0_1.length ≤ maxLen ∧ l0_1.length * 16 ≤ 140737488351232) ∧ ∀ y ∈ l0_1, W34 y) → ((l0_2.length ≤ maxLen ∧ l0_2.length * 32 ≤ 140737488351232) ∧ ∀ y ∈ l0_2, W58 y) → (Lit.int .i64 a1).wf = true → (Lit.int .u32 a2).wf = true → ∃ k, rotalaw08_ProperTurned.f k l0_0 l0_1 l0_2 a1 a2 = some true
end Go.Proofs.Ytdlikjfffdpmiaa.SProperTurned

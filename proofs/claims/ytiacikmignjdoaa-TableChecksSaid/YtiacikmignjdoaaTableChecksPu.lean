/- TableChecks, of plain numbers and lists: the program's Check tells what the document's Check tells, and a table of its own is told rightly. Conditions: none. -/
import Derived.Test.YtiacikmignjdoaaTableChecksS
import Derived.Test.YtiacikmignjdoaaTableChecksR
set_option linter.unusedVariables false
namespace Go.Proofs.Ytiacikmignjdoaa.STableChecks
open Go.RowKit Go.Proofs.Ytiacikmignjdoaa.PTableChecks Go.Proofs.YtiacikmignjdoaaW.PrintWords Go.Proofs.YtiacikmignjdoaaW.PrintLast Go.Proofs.Ytiacikmignjdoaa.Kin Go.Proofs.Ytiacikmignjdoaa.CTableChecks

theorem good {s : S48} (h : W48 s) : G48 s := ⟨wf_i64 h.1, wf_u64 h.2.1.1, wf_u64 h.2.1.2, (wf_u64 h.2.2).1, (wf_u64 h.2.2).2⟩

theorem awake {k : Nat} (hk : 30 ≤ k) : rotalaw16_awake.f k = some true :=
  at_rounds (g := rotalaw16_awake.f) rotalaw16_awake.mono hk (by decide +kernel)

theorem pure : Pure := by
  intro F ls dom hF hl hd
  have hg : ∀ l ∈ ls, ∀ s ∈ l, G48 s := fun l hl' s hs => good ((hl.2 l hl').2 s hs)
  refine ⟨200000, ?_⟩
  unfold rotalaw16_TableChecks.f
  rw [check_f F dom ls hg _ (by omega), refCheck_f F dom ls hg _ (by omega), awake (by omega)]
  simp
end Go.Proofs.Ytiacikmignjdoaa.STableChecks

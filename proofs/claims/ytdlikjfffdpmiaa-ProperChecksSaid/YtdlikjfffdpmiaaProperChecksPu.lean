/- ProperChecks, of plain numbers and lists: the program's Check tells what the document's Check tells; a small program of its own is told rightly. Conditions: none. -/
import Derived.Test.YtdlikjfffdpmiaaProperChecksS
import Derived.Test.YtdlikjfffdpmiaaProperCW2
set_option linter.unusedVariables false
namespace Go.Proofs.Ytdlikjfffdpmiaa.SProperChecks
open Go.RowKit Go.Proofs.Ytdlikjfffdpmiaa.QProper Go.Proofs.YtdlikjfffdpmiaaW.PrintWords Go.Proofs.YtdlikjfffdpmiaaW.PrintLast Go.Proofs.YtdlikjfffdpmiaaW.PrintMore Go.Proofs.Ytdlikjfffdpmiaa.Kin Go.Proofs.Ytdlikjfffdpmiaa.CProper

theorem awake {k : Nat} (hk : 40 ≤ k) : rotalaw08_awake.f k = some true :=
  at_rounds (g := rotalaw08_awake.f) rotalaw08_awake.mono hk (by decide +kernel)

theorem pure : Pure := by
  intro c fs ts hc hf ht
  have hc' : ∀ x ∈ c, 0 ≤ x ∧ x < 4294967296 := fun x hx => by have := wf_u32 (hc.2 x hx); omega
  refine ⟨30000, ?_⟩
  unfold rotalaw08_ProperChecks.f
  rw [checks c fs ts hc' _ (by omega), refCheck_f c fs ts hc' _ (by omega), awake (by omega)]
  simp
end Go.Proofs.Ytdlikjfffdpmiaa.SProperChecks

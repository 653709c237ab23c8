/- ProperWords, of plain numbers and lists: In and Next tell what the document tells. Conditions: none. -/
import Derived.Test.YtdlikjfffdpmiaaProperWordsS
import Derived.Test.YtdlikjfffdpmiaaProperCN
set_option linter.unusedVariables false
namespace Go.Proofs.Ytdlikjfffdpmiaa.SProperWords
open Go.RowKit Go.Proofs.Ytdlikjfffdpmiaa.QProper Go.Proofs.YtdlikjfffdpmiaaW.PrintWords Go.Proofs.YtdlikjfffdpmiaaW.PrintLast Go.Proofs.YtdlikjfffdpmiaaW.PrintMore Go.Proofs.Ytdlikjfffdpmiaa.Kin Go.Proofs.Ytdlikjfffdpmiaa.CProper

theorem awake {k : Nat} (hk : 40 ≤ k) : rotalaw08_awake.f k = some true :=
  at_rounds (g := rotalaw08_awake.f) rotalaw08_awake.mono hk (by decide +kernel)

theorem pure : Pure := by
  intro c fs ts at_ hc hf ht ha
  have hc' : ∀ x ∈ c, 0 ≤ x ∧ x < 4294967296 := fun x hx => by have := wf_u32 (hc.2 x hx); omega
  refine ⟨30000, ?_⟩
  have hl := nextAll_len c fs ts at_
  unfold rotalaw08_ProperWords.f
  rw [in_ok c fs ts hc' at_ _ (by omega), refIn_ok c fs ts hc' at_ _ (by omega), Next_ok c fs ts hc' at_ _ (by omega), refNext_ok c fs ts hc' at_ _ (by omega)]
  simp only [Option.bind_some, if_true]
  rw [same_ok _ (by omega) _ (by omega)]
  simp only [Option.bind_some, if_true]
  rw [awake (by omega)]
  rfl
end Go.Proofs.Ytdlikjfffdpmiaa.SProperWords

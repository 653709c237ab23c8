/- ProperReaches, of plain numbers and lists: what can be come to within a function is what the document tells. Conditions: none. -/
import Derived.Test.YtdlikjfffdpmiaaProperReachesS
import Derived.Test.YtdlikjfffdpmiaaProperCRB
set_option linter.unusedVariables false
namespace Go.Proofs.Ytdlikjfffdpmiaa.SProperReaches
open Go.RowKit Go.Proofs.Ytdlikjfffdpmiaa.QProper Go.Proofs.YtdlikjfffdpmiaaW.PrintWords Go.Proofs.YtdlikjfffdpmiaaW.PrintLast Go.Proofs.YtdlikjfffdpmiaaW.PrintMore Go.Proofs.Ytdlikjfffdpmiaa.Kin Go.Proofs.Ytdlikjfffdpmiaa.CProper

theorem awake {k : Nat} (hk : 40 ≤ k) : rotalaw08_awake.f k = some true :=
  at_rounds (g := rotalaw08_awake.f) rotalaw08_awake.mono hk (by decide +kernel)

theorem pure : Pure := by
  intro c fs ts f hc hf ht ha
  have hc' : ∀ x ∈ c, 0 ≤ x ∧ x < 4294967296 := fun x hx => by have := wf_u32 (hc.2 x hx); omega
  obtain ⟨L, hl, _, hL⟩ := Reach_both c fs ts hc' f
  refine ⟨200000000, ?_⟩
  obtain ⟨h1, h2⟩ := hL 200000000 (Nat.le_refl _)
  unfold rotalaw08_ProperReaches.f
  rw [h1, h2]
  simp only [Option.bind_some, if_true]
  rw [same_ok _ (by omega) _ (by omega)]
  simp only [Option.bind_some, if_true]
  rw [awake (by omega)]
  rfl
end Go.Proofs.Ytdlikjfffdpmiaa.SProperReaches

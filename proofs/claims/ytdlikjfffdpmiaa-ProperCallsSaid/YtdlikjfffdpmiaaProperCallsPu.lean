/- ProperCalls, of plain numbers and lists: what can run on behalf of a function, and how deep its calls go, is what the document tells. Conditions: none. -/
import Derived.Test.YtdlikjfffdpmiaaProperCallsS
import Derived.Test.YtdlikjfffdpmiaaProperDB
set_option linter.unusedVariables false
namespace Go.Proofs.Ytdlikjfffdpmiaa.SProperCalls
open Go.RowKit Go.Proofs.Ytdlikjfffdpmiaa.QProper Go.Proofs.YtdlikjfffdpmiaaW.PrintWords Go.Proofs.YtdlikjfffdpmiaaW.PrintLast Go.Proofs.YtdlikjfffdpmiaaW.PrintMore Go.Proofs.Ytdlikjfffdpmiaa.Kin Go.Proofs.Ytdlikjfffdpmiaa.CProper

theorem awake {k : Nat} (hk : 40 ≤ k) : rotalaw08_awake.f k = some true :=
  at_rounds (g := rotalaw08_awake.f) rotalaw08_awake.mono hk (by decide +kernel)

theorem pure : Pure := by
  intro c fs ts f sp hc hf ht ha
  have hc' : ∀ x ∈ c, 0 ≤ x ∧ x < 4294967296 := fun x hx => by have := wf_u32 (hc.2 x hx); omega
  obtain ⟨L, hl, _, hL⟩ := Calls_both c fs ts hc' f sp
  obtain ⟨D, hD⟩ := Depth_both c fs ts hc' f
  refine ⟨300000000, ?_⟩
  obtain ⟨h1, h2⟩ := hL 300000000 (Nat.le_refl _)
  obtain ⟨h3, h4⟩ := hD 300000000 (Nat.le_refl _)
  unfold rotalaw08_ProperCalls.f
  rw [h1, Option.bind_some, h2, Option.bind_some, h3, Option.bind_some, h4, Option.bind_some, if_pos rfl, same_ok _ (by omega) _ (by omega), Option.bind_some, if_pos rfl, if_pos rfl, if_pos rfl, awake (by omega)]
  rfl
end Go.Proofs.Ytdlikjfffdpmiaa.SProperCalls

/- What Races answers, in plain words. Conditions: each theorem's own. -/
import Derived.Test.YtkbfijkohngjjaaRc
set_option linter.unusedVariables false
set_option linter.unusedSimpArgs false
namespace Go.Proofs.Ytkbfijkohngjjaa.Od
open Go.RowKit Go.Proofs.Ytkbfijkohngjjaa.QOrder Go.Proofs.YtkbfijkohngjjaaW.PrintWords Go.Proofs.YtkbfijkohngjjaaW.PrintLast Go.Proofs.YtkbfijkohngjjaaW.PrintMore

theorem races_ev (l : List S36) (caps : List Int) : ∃ K, ∀ k, K ≤ k → order_Races.f k l caps = some (racesF l caps) := ⟨0, fun _ _ => rfl⟩
theorem accR_mem {l : List S36} {o : List S60} {r : S50} : ∀ n, r ∈ accR l o n ↔ ∃ i d : Nat, i < n ∧ d < l.length - (i + 1) ∧ r = ⟨(i : Int), ((i + 1 + d : Nat) : Int)⟩ ∧ raceB (E l i) (E l (i + 1 + d)) = true ∧ inS (rowF l o (i + 1 + d)) i = false
  | 0 => ⟨(fun h => by cases h), (fun ⟨i, d, h, _⟩ => absurd h (Nat.not_lt_zero i))⟩
  | n + 1 => by
    unfold accR
    rw [List.mem_append, accR_mem n]
    constructor
    · rintro (⟨i, d, h1, h2⟩ | h)
      · exact ⟨i, d, by omega, h2⟩
      · unfold partR at h
        obtain ⟨d, hd, rfl⟩ := List.mem_map.1 h
        obtain ⟨h1, h2⟩ := List.mem_filter.1 hd
        rw [Bool.and_eq_true, Bool.not_eq_true'] at h2
        exact ⟨n, d, by omega, List.mem_range.1 h1, rfl, h2.1, h2.2⟩
    · rintro ⟨i, d, h1, h2, h3, h4, h5⟩
      by_cases e : i = n
      · subst e
        refine .inr ?_
        unfold partR
        exact List.mem_map.2 ⟨d, List.mem_filter.2 ⟨List.mem_range.2 h2, by rw [h4, h5]; rfl⟩, h3.symm⟩
      · exact .inl ⟨i, d, by omega, h2, h3, h4, h5⟩
theorem race_mem {l : List S36} {caps : List Int} {r : S50} : r ∈ raceL l caps ↔ ∃ i j : Nat, i < j ∧ j < l.length ∧ r = ⟨(i : Int), (j : Int)⟩ ∧ raceB (E l i) (E l j) = true ∧ befB l caps i j = false := by
  unfold raceL
  rw [accR_mem]
  constructor
  · rintro ⟨i, d, h1, h2, h3, h4, h5⟩
    exact ⟨i, i + 1 + d, by omega, by omega, h3, h4, h5⟩
  · rintro ⟨i, j, h1, h2, rfl, h3, h4⟩
    have e : i + 1 + (j - (i + 1)) = j := by omega
    refine ⟨i, j - (i + 1), by omega, by omega, by rw [e], by rw [e]; exact h3, ?_⟩
    rw [e]
    exact h4
theorem race_dif {a b : S36} (h : raceB a b = true) : samG a.f2 b.f2 = false ∧ nob a.f2 = false ∧ nob b.f2 = false := by
  unfold raceB at h
  simp only [Bool.and_eq_true, Bool.not_eq_true'] at h
  exact ⟨h.1.1.1.1.2, h.1.1.1.2, h.1.1.2⟩
end Go.Proofs.Ytkbfijkohngjjaa.Od

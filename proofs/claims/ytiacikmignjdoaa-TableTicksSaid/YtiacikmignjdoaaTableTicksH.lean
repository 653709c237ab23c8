/- What Ps a domain has at a tick, by the program: the places, rising, of the lists whose slot at the tick's place is the domain's.
   Conditions: the table's numbers are of their kinds. -/
import Derived.Test.YtiacikmignjdoaaTableTicksT
set_option linter.unusedVariables false
set_option linter.unusedSimpArgs false
namespace Go.Proofs.Ytiacikmignjdoaa.CTableTicks
open Go.RowKit Go.Proofs.Ytiacikmignjdoaa.QTableTicks Go.Proofs.YtiacikmignjdoaaW.PrintWords Go.Proofs.YtiacikmignjdoaaW.PrintLast Go.Proofs.Ytiacikmignjdoaa.Kin

def hasB (pl d : Int) (l : List S48) : Bool := match slotL pl l with | some s => s.f0 == d | none => false
def hasL (pl d : Int) : List (List S48) → Int → List Int
  | [], _ => []
  | l :: r, p => if hasB pl d l = true then p :: hasL pl d r (p + 1) else hasL pl d r (p + 1)

theorem hasL_len (pl d : Int) : ∀ (r : List (List S48)) (p : Int), (hasL pl d r p).length ≤ r.length
  | [], _ => Nat.le_refl _
  | l :: r, p => by
    have := hasL_len pl d r (p + 1)
    unfold hasL
    split <;> simp <;> omega

theorem hasL_mem (pl d : Int) (q : Int) : ∀ (r : List (List S48)) (p : Int), q ∈ hasL pl d r p ↔ ∃ i : Nat, i < r.length ∧ q = p + i ∧ hasB pl d (r.getD i []) = true
  | [], p => by simp [hasL]
  | l :: r, p => by
    have ih := hasL_mem pl d q r (p + 1)
    unfold hasL
    constructor
    · intro h
      split at h
      · rename_i hb
        rcases List.mem_cons.1 h with h | h
        · exact ⟨0, by simp, by omega, hb⟩
        · obtain ⟨i, h1, h2, h3⟩ := ih.1 h
          exact ⟨i + 1, by simp; omega, by omega, by simpa using h3⟩
      · obtain ⟨i, h1, h2, h3⟩ := ih.1 h
        exact ⟨i + 1, by simp; omega, by omega, by simpa using h3⟩
    · rintro ⟨i, h1, h2, h3⟩
      cases i with
      | zero =>
        have hb : hasB pl d l = true := by simpa using h3
        rw [if_pos hb]
        exact List.mem_cons.2 (.inl (by omega))
      | succ i =>
        have : q ∈ hasL pl d r (p + 1) := ih.2 ⟨i, by simp at h1; omega, by omega, by simpa using h3⟩
        split
        · exact List.mem_cons_of_mem _ this
        · exact this

end Go.Proofs.Ytiacikmignjdoaa.CTableTicks

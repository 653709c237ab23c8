/- What Ps a domain has at a tick, by the program: the places, rising, of the lists whose slot at the tick's place is the domain's.
   Conditions: the table's numbers are of their kinds. -/
import Derived.Test.YtiacikmignjdoaaTableCountedT
set_option linter.unusedVariables false
set_option linter.unusedSimpArgs false
namespace Go.Proofs.Ytiacikmignjdoaa.CTableCounted
open Go.RowKit Go.Proofs.Ytiacikmignjdoaa.QTableCounted Go.Proofs.YtiacikmignjdoaaW.PrintWords Go.Proofs.YtiacikmignjdoaaW.PrintLast Go.Proofs.Ytiacikmignjdoaa.Kin

def hasB (pl d : Int) (l : List S48) : Bool := match slotL pl l with | some s => s.f0 == d | none => false
def hasL (pl d : Int) : List (List S48) → Int → List Int
  | [], _ => []
  | l :: r, p => if hasB pl d l = true then p :: hasL pl d r (p + 1) else hasL pl d r (p + 1)

theorem hasL_len (pl d : Int) : ∀ (r : List (List S48)) (p : Int), (hasL pl d r p).length ≤ r.length
  | [], _ => Nat.le_refl _
  | l :: r, p => by
    have := hasL_len pl d r (p + 1)
    unfold hasL
    split <;> simp <;> omega

theorem hasL_mem (pl d : Int) (q : Int) : ∀ (r : List (List S48)) (p : Int), q ∈ hasL pl d r p ↔ ∃ i : Nat, i < r.length ∧ q = p + i ∧ hasB pl d (r.getD i []) = true
  | [], p => by simp [hasL]
  | l :: r, p => by
    have ih := hasL_mem pl d q r (p + 1)
    unfold hasL
    constructor
    · intro h
      split at h
      · rename_i hb
        rcases List.mem_cons.1 h with h | h
        · exact ⟨0, by simp, by omega, hb⟩
        · obtain ⟨i, h1, h2, h3⟩ := ih.1 h
          exact ⟨i + 1, by simp; omega, by omega, by simpa using h3⟩
      · obtain ⟨i, h1, h2, h3⟩ := ih.1 h
        exact ⟨i + 1, by simp; omega, by omega, by simpa using h3⟩
    · rintro ⟨i, h1, h2, h3⟩
      cases i with
      | zero =>
        have hb : hasB pl d l = true := by simpa using h3
        rw [if_pos hb]
        exact List.mem_cons.2 (.inl (by omega))
      | succ i =>
        have : q ∈ hasL pl d r (p + 1) := ih.2 ⟨i, by simp at h1; omega, by omega, by simpa using h3⟩
        split
        · exact List.mem_cons_of_mem _ this
        · exact this

theorem has_l0 (t F d : Int) (ht : 0 ≤ t) (ls : List (List S48)) (ho : OkT F 16 ls) (hg : ∀ l ∈ ls, ∀ s ∈ l, G48 s) : ∀ (r : List (List S48)) (p : Nat) (acc : List Int) (k : Nat), ls.drop p = r → acc.length ≤ p → 1025 + r.length < k →
    table_Has.l0 k t d acc (ls.length : Int) (p : Int) F ls = some (acc ++ hasL (t % F) d r p, 0) := by
  intro r
  have hn := ho.n
  induction r with
  | nil =>
    intro p acc k hd ha hk
    obtain ⟨k, rfl⟩ : ∃ m, k = m + 1 := ⟨k - 1, by omega⟩
    have := drop_nil hd
    simp only [table_Has.l0]
    rw [if_neg (show ¬ (p : Int) < (ls.length : Int) by omega)]
    simp [hasL]
  | cons l r ih =>
    intro p acc k hd ha hk
    obtain ⟨hi, hr, hd'⟩ := rdL_drop hd
    simp only [List.length_cons] at hk
    obtain ⟨k, rfl⟩ : ∃ m, k = m + 1 := ⟨k - 1, by omega⟩
    simp only [table_Has.l0]
    rw [if_pos (show (p : Int) < (ls.length : Int) by omega), slot_f t F ls ht ho hg (p : Int) (by omega) (by omega) k (by omega)]
    have hpr : proc ls (p : Int) = l := hr
    simp only [Option.bind_some, hpr]
    rw [wrap1 (show (p : Int) < 9223372036854775807 by omega)]
    have hp1 : ((p + 1 : Nat) : Int) = (p : Int) + 1 := by omega
    unfold slotOut
    cases hs : slotL (t % F) l with
    | none =>
      have hb : hasB (t % F) d l = false := by simp [hasB, hs]
      simp only [Bool.false_eq_true, if_false]
      rw [ih (p + 1) acc k hd' (by omega) (by omega)]
      simp [hasL, hb, hp1]
    | some s =>
      simp only [if_true]
      by_cases c : s.f0 = d
      · have hb : hasB (t % F) d l = true := by simp [hasB, hs, c]
        rw [if_pos c, if_pos (by omega), ih (p + 1) (acc ++ [(p : Int)]) k hd' (by simp; omega) (by omega)]
        simp [hasL, hb, hp1]
      · have hb : hasB (t % F) d l = false := by simp [hasB, hs, c]
        rw [if_neg c, ih (p + 1) acc k hd' (by omega) (by omega)]
        simp [hasL, hb, hp1]

def hasS (F : Int) (ls : List (List S48)) (t d : Int) : List Int := hasL (t % F) d ls 0

theorem has_f (F : Int) (ls : List (List S48)) (hg : ∀ l ∈ ls, ∀ s ∈ l, G48 s) (t d : Int) (ht : 0 ≤ t) (k : Nat) (hk : 4000 ≤ k) : table_Has.f k F ls t d = some (if mayS F ls 0 d = 0 then (hasS F ls t d, 0) else ([], mayS F ls 0 d)) := by
  unfold table_Has.f
  rw [may_f F ls hg 0 d k hk]
  simp only [Option.bind_some]
  by_cases c : mayS F ls 0 d = 0
  · obtain ⟨ho, _⟩ := may_ok c
    have hn := ho.n
    rw [if_pos c, if_pos c]
    have := has_l0 t F d ht ls ho hg ls 0 [] k rfl (by simp) (by omega)
    simpa [hasS] using this
  · rw [if_neg c, if_neg c]
end Go.Proofs.Ytiacikmignjdoaa.CTableCounted

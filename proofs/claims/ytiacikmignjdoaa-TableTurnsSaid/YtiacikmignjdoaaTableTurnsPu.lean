/- TableTurns, of plain numbers and lists: who has what is told by the tick's place in the frame alone. Conditions: none. -/
import Derived.Test.YtiacikmignjdoaaTableTurnsS
import Derived.Test.YtiacikmignjdoaaTableTurnsH
set_option linter.unusedVariables false
set_option linter.unusedSimpArgs false
namespace Go.Proofs.Ytiacikmignjdoaa.STableTurns
open Go.RowKit Go.Proofs.Ytiacikmignjdoaa.PTableTurns Go.Proofs.YtiacikmignjdoaaW.PrintWords Go.Proofs.YtiacikmignjdoaaW.PrintLast Go.Proofs.Ytiacikmignjdoaa.Kin Go.Proofs.Ytiacikmignjdoaa.CTableTurns

theorem good {s : S48} (h : W48 s) : G48 s := ⟨wf_i64 h.1, wf_u64 h.2.1.1, wf_u64 h.2.1.2, (wf_u64 h.2.2).1, (wf_u64 h.2.2).2⟩

theorem awake {k : Nat} (hk : 30 ≤ k) : rotalaw16_awake.f k = some true :=
  at_rounds (g := rotalaw16_awake.f) rotalaw16_awake.mono hk (by decide +kernel)

theorem same_l0 (xs : List Int) (hx : xs.length ≤ 64) : ∀ (n i k : Nat), i + n = xs.length → n < k → rotalaw16_sameInts.l0 k xs xs (i : Int) = some true := by
  intro n
  induction n with
  | zero =>
    intro i k hi hk
    obtain ⟨k, rfl⟩ : ∃ m, k = m + 1 := ⟨k - 1, by omega⟩
    simp only [rotalaw16_sameInts.l0]
    rw [if_neg (show ¬ (i : Int) < (xs.length : Int) by omega)]
  | succ n ih =>
    intro i k hi hk
    obtain ⟨k, rfl⟩ : ∃ m, k = m + 1 := ⟨k - 1, by omega⟩
    simp only [rotalaw16_sameInts.l0]
    rw [if_pos (show (i : Int) < (xs.length : Int) by omega), if_pos (show 0 ≤ (i : Int) by omega), if_pos (show (i : Int) < (xs.length : Int) by omega), if_pos trivial, wrap1 (show (i : Int) < 9223372036854775807 by omega)]
    exact ih (i + 1) k (by omega) (by omega)

theorem same_f (xs : List Int) (hx : xs.length ≤ 64) (k : Nat) (hk : 65 ≤ k) : rotalaw16_sameInts.f k xs xs = some true := by
  unfold rotalaw16_sameInts.f
  rw [if_pos rfl]
  exact same_l0 xs hx xs.length 0 k (by omega) (by omega)

def endS (F : Int) (ls : List (List S48)) (t p : Int) : Bool := match slotL (t % F) (proc ls p) with | some s => s.f1.f0 + s.f1.f1 - t % F == 1 | none => false

theorem ends_f {F : Int} {ls : List (List S48)} (hg : ∀ l ∈ ls, ∀ s ∈ l, G48 s) (t p : Int) (ht : 0 ≤ t) (k : Nat) (hk : 4000 ≤ k) : table_Ends.f k F ls t p = some (if mayS F ls p 0 = 0 then (endS F ls t p, 0) else (false, mayS F ls p 0)) := by
  unfold table_Ends.f
  rw [may_f F ls hg p 0 k (by omega)]
  simp only [Option.bind_some]
  by_cases c : mayS F ls p 0 = 0
  · obtain ⟨ho, h0, h1, _⟩ := may_ok c
    rw [if_pos c, if_pos c, slot_f t F ls ht ho hg p h0 h1 k (by omega)]
    unfold slotOut endS
    cases slotL (t % F) (proc ls p) <;> simp
  · rw [if_neg c, if_neg c]

theorem pure : Pure := by
  intro F ls t p d hF hl ht hp hd
  have hg : ∀ l ∈ ls, ∀ s ∈ l, G48 s := fun l hl' s hs => good ((hl.2 l hl').2 s hs)
  have ht' := wf_u64 ht
  refine ⟨200001, ?_⟩
  unfold rotalaw16_TableTurns.f
  rw [check_f F 16 ls hg _ (by omega)]
  simp only [Option.bind_some, rotalaw16_TableTurns.j0]
  by_cases c : (checkS F 16 ls).2.2 = 0
  · have ho := check_ok c
    have hfr := ho.fr
    rw [if_pos c]
    by_cases c2 : IntKind.u64.wrap (t + F) < t
    · rw [if_pos (by simpa using c2), awake (by omega)]; rfl
    rw [if_neg (by simpa using c2)]
    have hw : IntKind.u64.wrap (t + F) = t + F := by
      by_cases h : t + F ≤ 18446744073709551615
      · exact IntWalk.u64_in _ (by omega)
      · rw [IntKind.wrap_u64] at c2; omega
    have hm : (t + F) % F = t % F := Int.add_emod_right t F
    have e1 : ownS F ls (t + F) p = ownS F ls t p := by unfold ownS; rw [hm]
    have e2 : leftS F ls (t + F) p = leftS F ls t p := by unfold leftS; rw [hm]
    have e3 : endS F ls (t + F) p = endS F ls t p := by unfold endS; rw [hm]
    have e4 : hasS F ls (t + F) d = hasS F ls t d := by unfold hasS; rw [hm]
    have hn := ho.n
    have hlen : (hasS F ls t d).length ≤ 64 := by have := hasL_len (t % F) d ls 0; unfold hasS; omega
    rw [hw, owner_f F ls hg t p ht'.1 _ (by omega), owner_f F ls hg (t + F) p (by omega) _ (by omega), left_f F ls hg t p ht'.1 _ (by omega), left_f F ls hg (t + F) p (by omega) _ (by omega),
      ends_f hg t p ht'.1 _ (by omega), ends_f hg (t + F) p (by omega) _ (by omega), has_f F ls hg t d ht'.1 _ (by omega), has_f F ls hg (t + F) d (by omega) _ (by omega), e1, e2, e3, e4]
    by_cases c3 : mayS F ls 0 d = 0
    · simp [c3, same_f _ hlen]
    · simp [c3, same_f ([] : List Int) (by simp)]
  · rw [if_neg c, if_pos trivial, awake (by omega)]; rfl
end Go.Proofs.Ytiacikmignjdoaa.STableTurns

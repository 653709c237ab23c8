/- TableOne, of plain numbers and lists: at any tick a P is among what Has tells of a domain just if Owner tells that domain. Conditions: none. -/
import Derived.Test.YtiacikmignjdoaaTableOneS
import Derived.Test.YtiacikmignjdoaaTableOneH
set_option linter.unusedVariables false
set_option linter.unusedSimpArgs false
namespace Go.Proofs.Ytiacikmignjdoaa.STableOne
open Go.RowKit Go.Proofs.Ytiacikmignjdoaa.PTableOne Go.Proofs.YtiacikmignjdoaaW.PrintWords Go.Proofs.YtiacikmignjdoaaW.PrintLast Go.Proofs.Ytiacikmignjdoaa.Kin Go.Proofs.Ytiacikmignjdoaa.CTableOne

theorem good {s : S48} (h : W48 s) : G48 s := ⟨wf_i64 h.1, wf_u64 h.2.1.1, wf_u64 h.2.1.2, (wf_u64 h.2.2).1, (wf_u64 h.2.2).2⟩

theorem awake {k : Nat} (hk : 30 ≤ k) : rotalaw16_awake.f k = some true :=
  at_rounds (g := rotalaw16_awake.f) rotalaw16_awake.mono hk (by decide +kernel)

theorem rd_dropI {l r : List Int} {s : Int} {i : Nat} (h : l.drop i = s :: r) : i < l.length ∧ rd l (i : Int) = s ∧ l.drop (i + 1) = r := by
  have hi : i < l.length := by
    rcases Nat.lt_or_ge i l.length with h1 | h1
    · exact h1
    · rw [List.drop_eq_nil_of_le h1] at h; cases h
  rw [List.drop_eq_getElem_cons hi] at h
  injection h with h1 h2
  refine ⟨hi, ?_, h2⟩
  simp [rd, List.getD, List.getElem?_eq_getElem hi, h1]

theorem one_l1 (F : Int) (ls : List (List S48)) (t p d' own : Int) (i : Int) (xs : List Int) (hx : xs.length ≤ 64) : ∀ (r : List Int) (j : Nat) (b : Bool) (k : Nat), xs.drop j = r → r.length < k →
    rotalaw16_TableOne.l1 k own i xs 0 b (j : Int) F ls t p d' = if ((b || r.contains p) != (i == own)) = true then some false else rotalaw16_TableOne.l0 (k - (r.length + 1)) own (wrap64 (i + 1)) F ls t p d' := by
  intro r
  induction r with
  | nil =>
    intro j b k hd hk
    obtain ⟨k, rfl⟩ : ∃ m, k = m + 1 := ⟨k - 1, by omega⟩
    have := drop_nil hd
    simp only [rotalaw16_TableOne.l1]
    rw [if_neg (show ¬ (j : Int) < (xs.length : Int) by omega)]
    simp
  | cons x r ih =>
    intro j b k hd hk
    obtain ⟨hi, hr, hd'⟩ := rd_dropI hd
    simp only [List.length_cons] at hk
    obtain ⟨k, rfl⟩ : ∃ m, k = m + 1 := ⟨k - 1, by omega⟩
    simp only [rotalaw16_TableOne.l1]
    rw [if_pos (show (j : Int) < (xs.length : Int) by omega), wrap1 (show (j : Int) < 9223372036854775807 by omega), hr]
    have hk' : k + 1 - ((x :: r).length + 1) = k - (r.length + 1) := by simp
    rw [hk']
    cases b with
    | true =>
      rw [if_pos rfl, ih (j + 1) true k hd' (by omega)]
      simp
    | false =>
      rw [if_neg (by simp), if_pos (show 0 ≤ (j : Int) by omega), ih (j + 1) (x == p) k hd' (by omega)]
      have hc : (x == p) = (p == x) := by rw [Bool.eq_iff_iff, beq_iff_eq, beq_iff_eq]; exact eq_comm
      rw [hc, List.contains_cons, Bool.false_or]

theorem one_l0 (F : Int) (ls : List (List S48)) (hg : ∀ l ∈ ls, ∀ s ∈ l, G48 s) (t p d' : Int) (ht : 0 ≤ t) (hm : mayS F ls p 0 = 0) : ∀ (n i k : Nat), i + n = 16 → 5000 + 70 * n < k →
    rotalaw16_TableOne.l0 k (ownS F ls t p) (i : Int) F ls t p d' = some true := by
  obtain ⟨ho, h0, h1, _⟩ := may_ok hm
  have hmem := proc_mem h0 h1
  intro n
  induction n with
  | zero =>
    intro i k hi hk
    obtain ⟨k, rfl⟩ : ∃ m, k = m + 1 := ⟨k - 1, by omega⟩
    simp only [rotalaw16_TableOne.l0]
    rw [if_neg (show ¬ (i : Int) < 16 by omega)]
    have hown : -1 ≤ ownS F ls t p ∧ ownS F ls t p < 16 := by
      unfold ownS
      cases hs : slotL (t % F) (proc ls p) with
      | none => simp
      | some s =>
        obtain ⟨_, _, _, o2, _⟩ := find_ok (ho.p _ hmem).2 (hg _ hmem) hs
        simp only
        omega
    rw [if_pos (show ownS F ls t p ≥ -1 from hown.1)]
    simp [hown.2]
  | succ n ih =>
    intro i k hi hk
    obtain ⟨k, rfl⟩ : ∃ m, k = m + 1 := ⟨k - 1, by omega⟩
    simp only [rotalaw16_TableOne.l0]
    have hmi : mayS F ls 0 (i : Int) = 0 := by
      have hn := ho.n
      unfold mayS at hm ⊢
      split at hm
      · rw [if_pos (by assumption), if_neg (by omega)]
      · contradiction
    rw [if_pos (show (i : Int) < 16 by omega), has_f F ls hg t (i : Int) ht k (by omega), if_pos hmi]
    simp only [Option.bind_some]
    have hlen : (hasS F ls t (i : Int)).length ≤ 64 := by have := hasL_len (t % F) (i : Int) ls 0; have := ho.n; unfold hasS; omega
    have h00 := one_l1 F ls t p d' (ownS F ls t p) (i : Int) _ hlen (hasS F ls t (i : Int)) 0 false k rfl (by omega)
    rw [show ((0 : Nat) : Int) = 0 from rfl] at h00
    rw [h00, wrap1 (show (i : Int) < 9223372036854775807 by omega), ih (i + 1) _ (by omega) (by omega)]
    have hkey : (hasS F ls t (i : Int)).contains p = ((i : Int) == ownS F ls t p) := by
      rw [Bool.eq_iff_iff, List.contains_iff_mem, beq_iff_eq]
      have hq := hasL_mem (t % F) (i : Int) p ls 0
      have hpd : ∀ j : Nat, p = 0 + (j : Int) → ls.getD j [] = proc ls p := by
        intro j hj
        unfold proc rd_L4
        rw [show p.toNat = j by omega]
      have : (p ∈ hasS F ls t (i : Int)) ↔ hasB (t % F) (i : Int) (proc ls p) = true := by
        constructor
        · intro h
          obtain ⟨j, _, h2, h3⟩ := hq.1 h
          rw [hpd j h2] at h3
          exact h3
        · intro h
          exact hq.2 ⟨p.toNat, by omega, by omega, by rw [hpd p.toNat (by omega)]; exact h⟩
      rw [this]
      unfold hasB ownS
      cases slotL (t % F) (proc ls p) with
      | none => simp; try omega
      | some s => simp; try exact eq_comm
    rw [Bool.false_or, hkey]
    simp

theorem pure : Pure := by
  intro F ls t p d hF hl ht hp hd
  have hg : ∀ l ∈ ls, ∀ s ∈ l, G48 s := fun l hl' s hs => good ((hl.2 l hl').2 s hs)
  have ht' := (wf_u64 ht).1
  refine ⟨200000, ?_⟩
  unfold rotalaw16_TableOne.f
  rw [owner_f F ls hg t p ht' _ (by omega)]
  simp only [Option.bind_some]
  by_cases c : mayS F ls p 0 = 0
  · rw [if_pos c]
    have := one_l0 F ls hg t p d ht' c 16 0 200000 (by omega) (by omega)
    simpa using this
  · rw [if_neg c, awake (by omega)]
    simp [c]
end Go.Proofs.Ytiacikmignjdoaa.STableOne

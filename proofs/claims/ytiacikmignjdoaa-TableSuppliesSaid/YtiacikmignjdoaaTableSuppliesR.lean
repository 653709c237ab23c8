/- What the document's Check computes over a table: the same plain scan as the program's.
   Conditions: the table's numbers are of their kinds. -/
import Derived.Test.YtiacikmignjdoaaTableSuppliesC
set_option linter.unusedVariables false
set_option linter.unusedSimpArgs false
namespace Go.Proofs.Ytiacikmignjdoaa.CTableSupplies
open Go.RowKit Go.Proofs.Ytiacikmignjdoaa.QTableSupplies Go.Proofs.YtiacikmignjdoaaW.PrintWords Go.Proofs.YtiacikmignjdoaaW.PrintLast Go.Proofs.Ytiacikmignjdoaa.Kin

theorem window_f (s : S48) (F : Int) (hs : G48 s) (hF : F ≤ 65536) : rotaref16_window.f s.f0 s.f1.f0 s.f1.f1 s.f2 F = some (decide (1 ≤ s.f1.f1 ∧ s.f1.f0 < F ∧ s.f1.f1 ≤ F - s.f1.f0 ∧ s.f2 < s.f1.f1)) := by
  obtain ⟨h0, h1, h2, h3⟩ := hs
  unfold rotaref16_window.f
  by_cases c1 : s.f1.f1 ≥ 1
  · by_cases c2 : s.f1.f0 < F
    · rw [if_pos c1, if_pos c2, IntWalk.u64_in _ (show 0 ≤ F - s.f1.f0 ∧ F - s.f1.f0 ≤ 18446744073709551615 by omega)]
      by_cases c3 : s.f1.f1 ≤ F - s.f1.f0
      · rw [if_pos c3]; congr 1; rw [decide_eq_decide]; omega
      · rw [if_neg c3]; congr 1; symm; rw [decide_eq_false_iff_not]; omega
    · rw [if_pos c1, if_neg c2]; congr 1; symm; rw [decide_eq_false_iff_not]; omega
  · rw [if_neg c1]; congr 1; symm; rw [decide_eq_false_iff_not]; omega

theorem ref_l1 (F dom : Int) (hF : 1 ≤ F ∧ F ≤ 65536) (ls : List (List S48)) (p : Nat) (hp : p < ls.length) (l : List S48) (hl : rd_L4 ls (p : Int) = l) (hlen : l.length ≤ 1024) : ∀ (r : List S48) (i : Nat) (e : Int) (k : Nat), (∀ s ∈ r, G48 s) → l.drop i = r → 2 * r.length < k →
    rotaref16_Check.l1 k dom (p : Int) e (i : Int) F ls = if (scan F dom r i e).2 = 0 then rotaref16_Check.l0 (k - (2 * r.length + 1)) dom (wrap64 ((p : Int) + 1)) F ls else some ((p : Int), (scan F dom r i e).1, (scan F dom r i e).2) := by
  intro r
  induction r with
  | nil =>
    intro i e k hg hd hk
    obtain ⟨k, rfl⟩ : ∃ m, k = m + 1 := ⟨k - 1, by omega⟩
    have := drop_nil hd
    simp only [rotaref16_Check.l1]
    rw [if_pos (show 0 ≤ (p : Int) by omega), if_pos (show (p : Int) < (ls.length : Int) by omega), hl, if_neg (show ¬ (i : Int) < (l.length : Int) by omega)]
    simp [scan]
  | cons s r ih =>
    intro i e k hg hd hk
    obtain ⟨hi, hr, hd'⟩ := rd_drop hd
    simp only [List.length_cons] at hk
    obtain ⟨k, rfl⟩ : ∃ m, k = m + 2 := ⟨k - 2, by omega⟩
    have hs : G48 s := hg s List.mem_cons_self
    have ih' := ih (i + 1) (s.f1.f0 + s.f1.f1) k (fun x hx => hg x (List.mem_cons_of_mem _ hx)) hd' (by omega)
    simp only [rotaref16_Check.l1]
    rw [if_pos (show 0 ≤ (p : Int) by omega), if_pos (show (p : Int) < (ls.length : Int) by omega), hl, if_pos (show (i : Int) < (l.length : Int) by omega), if_pos (show 0 ≤ (i : Int) by omega), hr, window_f s F hs hF.2]
    simp only [Option.bind_some, decide_eq_true_eq]
    obtain ⟨h0, h1, h2, h3⟩ := hs
    by_cases c0 : ¬ (1 ≤ s.f1.f1 ∧ s.f1.f0 < F ∧ s.f1.f1 ≤ F - s.f1.f0 ∧ s.f2 < s.f1.f1)
    · have hb : bad F dom s e = 161 := if_pos c0
      rw [if_neg c0]; simp [scan, hb]
    have c1 := Decidable.not_not.1 c0
    rw [if_pos c1]
    have hb0 : bad F dom s e = if s.f0 < 0 ∨ s.f0 ≥ dom then 162 else if s.f1.f0 < e then 163 else 0 := if_neg (by omega)
    simp only [rotaref16_Check.j4, decide_eq_true_eq, if_true]
    by_cases c5 : s.f0 < 0
    · have hb : bad F dom s e = 162 := by rw [hb0]; exact if_pos (by omega)
      rw [if_pos c5]; simp [scan, hb]
    rw [if_neg c5]
    by_cases c6 : s.f0 ≥ dom
    · have hb : bad F dom s e = 162 := by rw [hb0]; exact if_pos (by omega)
      rw [if_pos c6]; simp [scan, hb]
    rw [if_neg c6]
    have hb1 : bad F dom s e = if s.f1.f0 < e then 163 else 0 := by rw [hb0]; exact if_neg (by omega)
    by_cases c7 : s.f1.f0 < e
    · have hb : bad F dom s e = 163 := by rw [hb1]; exact if_pos c7
      rw [if_pos c7]; simp [scan, hb]
    have hb : bad F dom s e = 0 := by rw [hb1]; exact if_neg c7
    rw [if_neg c7, IntWalk.u64_in _ (show 0 ≤ s.f1.f0 + s.f1.f1 ∧ s.f1.f0 + s.f1.f1 ≤ 18446744073709551615 by omega), wrap1 (show (i : Int) < 9223372036854775807 by omega), ih']
    have he : k + 2 - (2 * (r.length + 1) + 1) = k - (2 * r.length + 1) := by omega
    simp [scan, hb, he]

theorem ref_l0 (F dom : Int) (hF : 1 ≤ F ∧ F ≤ 65536) (ls : List (List S48)) (hl : ls.length ≤ 64) : ∀ (r : List (List S48)) (p : Nat) (k : Nat), (∀ l ∈ r, ∀ s ∈ l, G48 s) → ls.drop p = r → 2100 * r.length < k →
    rotaref16_Check.l0 k dom (p : Int) F ls = some (checkL F dom r p) := by
  intro r
  induction r with
  | nil =>
    intro p k hg hd hk
    obtain ⟨k, rfl⟩ : ∃ m, k = m + 1 := ⟨k - 1, by omega⟩
    have := drop_nil hd
    simp only [rotaref16_Check.l0]
    rw [if_neg (show ¬ (p : Int) < (ls.length : Int) by omega)]
    rfl
  | cons l r ih =>
    intro p k hg hd hk
    obtain ⟨hi, hr, hd'⟩ := rdL_drop hd
    simp only [List.length_cons] at hk
    obtain ⟨k, rfl⟩ : ∃ m, k = m + 1 := ⟨k - 1, by omega⟩
    simp only [rotaref16_Check.l0]
    rw [if_pos (show (p : Int) < (ls.length : Int) by omega), if_pos (show 0 ≤ (p : Int) by omega), hr]
    simp only [checkL]
    by_cases c : (l.length : Int) > 1024
    · have hw : wrongS F dom l = (0, 2) := if_pos c
      rw [if_pos c, hw]; simp
    have hw : wrongS F dom l = scan F dom l 0 0 := if_neg c
    rw [if_neg c, hw]
    have h1 := ref_l1 F dom hF ls p hi l hr (by omega) l 0 0 k (hg l List.mem_cons_self) rfl (by omega)
    have h2 : ((0 : Nat) : Int) = 0 := rfl
    rw [h2] at h1
    rw [h1]
    by_cases c2 : (scan F dom l 0 0).2 = 0
    · rw [if_pos c2, if_pos c2, wrap1 (show (p : Int) < 9223372036854775807 by omega), ih (p + 1) _ (fun x hx => hg x (List.mem_cons_of_mem _ hx)) hd' (by omega)]
      simp
    · rw [if_neg c2, if_neg c2]

theorem refCheck_f (F dom : Int) (ls : List (List S48)) (hg : ∀ l ∈ ls, ∀ s ∈ l, G48 s) (k : Nat) (hk : 140000 ≤ k) : rotaref16_Check.f k F ls dom = some (checkS F dom ls) := by
  obtain ⟨k, rfl⟩ : ∃ m, k = m + 2 := ⟨k - 2, by omega⟩
  unfold rotaref16_Check.f checkS
  simp only [rotaref16_Check.j0, rotaref16_Check.j1]
  by_cases c1 : dom < 1
  · simp [c1]
  by_cases c2 : dom > 16
  · simp [c1, c2]
  rw [if_neg c1, if_neg (by simpa using c2), if_neg (show ¬ (dom < 1 ∨ dom > 16) by omega)]
  by_cases c3 : F < 1
  · simp [c3]
  by_cases c4 : F > 65536
  · simp [c3, c4]
  by_cases c5 : (ls.length : Int) < 1
  · simp [c3, c4, c5]
  by_cases c6 : (ls.length : Int) > 64
  · simp [c3, c4, c5, c6]
  rw [if_neg c3, if_neg c4, if_neg c5, if_neg (by simpa using c6), if_neg (show ¬ (F < 1 ∨ F > 65536 ∨ (ls.length : Int) < 1 ∨ (ls.length : Int) > 64) by omega)]
  exact ref_l0 F dom (by omega) ls (by omega) ls 0 k hg rfl (by omega)
end Go.Proofs.Ytiacikmignjdoaa.CTableSupplies

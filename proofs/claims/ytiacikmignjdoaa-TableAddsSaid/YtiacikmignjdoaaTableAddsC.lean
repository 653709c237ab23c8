/- What Check of the program and of the document compute over a table, both as one plain scan.
   Conditions: the table's numbers are of their kinds. -/
import Derived.Test.YtiacikmignjdoaaKin
import Derived.Test.YtiacikmignjdoaaQTableAddsx
set_option linter.unusedVariables false
set_option linter.unusedSimpArgs false
namespace Go.Proofs.Ytiacikmignjdoaa.CTableAdds
open Go.RowKit Go.Proofs.Ytiacikmignjdoaa.QTableAdds Go.Proofs.YtiacikmignjdoaaW.PrintWords Go.Proofs.YtiacikmignjdoaaW.PrintLast Go.Proofs.Ytiacikmignjdoaa.Kin

/-- A slot whose numbers are of their kinds. -/
def G48 (s : S48) : Prop := (-9223372036854775808 ≤ s.f0 ∧ s.f0 ≤ 9223372036854775807) ∧ (0 ≤ s.f1.f0 ∧ s.f1.f0 ≤ 18446744073709551615) ∧ (0 ≤ s.f1.f1 ∧ s.f1.f1 ≤ 18446744073709551615) ∧ 0 ≤ s.f2 ∧ s.f2 ≤ 18446744073709551615

/-- What is wrong first with a slot behind the end e. -/
def bad (F dom : Int) (s : S48) (e : Int) : Int :=
  if ¬ (1 ≤ s.f1.f1 ∧ s.f1.f0 < F ∧ s.f1.f1 ≤ F - s.f1.f0 ∧ s.f2 < s.f1.f1) then 161 else if s.f0 < 0 ∨ s.f0 ≥ dom then 162 else if s.f1.f0 < e then 163 else 0

/-- The first slot of a list that may not be, the place of its first one being i. -/
def scan (F dom : Int) : List S48 → Int → Int → Int × Int
  | [], _, _ => (0, 0)
  | s :: r, i, e => if bad F dom s e = 0 then scan F dom r (i + 1) (s.f1.f0 + s.f1.f1) else (i, bad F dom s e)

def wrongS (F dom : Int) (l : List S48) : Int × Int := if (l.length : Int) > 1024 then (0, 2) else scan F dom l 0 0

def checkL (F dom : Int) : List (List S48) → Int → Int × Int × Int
  | [], _ => (0, 0, 0)
  | l :: r, p => if (wrongS F dom l).2 = 0 then checkL F dom r (p + 1) else (p, (wrongS F dom l).1, (wrongS F dom l).2)

def checkS (F dom : Int) (ls : List (List S48)) : Int × Int × Int :=
  if dom < 1 ∨ dom > 16 then (0, 0, 1) else if F < 1 ∨ F > 65536 ∨ (ls.length : Int) < 1 ∨ (ls.length : Int) > 64 then (0, 0, 160) else checkL F dom ls 0

theorem rd_drop {l r : List S48} {s : S48} {i : Nat} (h : l.drop i = s :: r) : i < l.length ∧ rd_T48 l (i : Int) = s ∧ l.drop (i + 1) = r := by
  have hi : i < l.length := by
    rcases Nat.lt_or_ge i l.length with h1 | h1
    · exact h1
    · rw [List.drop_eq_nil_of_le h1] at h; cases h
  rw [List.drop_eq_getElem_cons hi] at h
  injection h with h1 h2
  refine ⟨hi, ?_, h2⟩
  simp [rd_T48, List.getD, List.getElem?_eq_getElem hi, h1]

theorem rdL_drop {l r : List (List S48)} {s : List S48} {i : Nat} (h : l.drop i = s :: r) : i < l.length ∧ rd_L4 l (i : Int) = s ∧ l.drop (i + 1) = r := by
  have hi : i < l.length := by
    rcases Nat.lt_or_ge i l.length with h1 | h1
    · exact h1
    · rw [List.drop_eq_nil_of_le h1] at h; cases h
  rw [List.drop_eq_getElem_cons hi] at h
  injection h with h1 h2
  refine ⟨hi, ?_, h2⟩
  simp [rd_L4, List.getD, List.getElem?_eq_getElem hi, h1]

theorem drop_nil {α : Type} {l : List α} {i : Nat} (h : l.drop i = []) : l.length ≤ i := by
  have := congrArg List.length h
  rw [List.length_drop] at this
  simp at this
  omega

theorem wrap1 {i : Nat} (h : (i : Int) < 9223372036854775807) : wrap64 ((i : Int) + 1) = ((i + 1 : Nat) : Int) := by unfold wrap64; omega

theorem wrong_l0 (F dom : Int) (hF : 1 ≤ F ∧ F ≤ 65536) (l : List S48) (hl : l.length ≤ 1024) : ∀ (r : List S48) (i : Nat) (e : Int) (k : Nat), (∀ s ∈ r, G48 s) → l.drop i = r → 3 * r.length < k →
    table_wrong.l0 k F dom e l (l.length : Int) (i : Int) = some (scan F dom r i e) := by
  intro r
  induction r with
  | nil =>
    intro i e k hg hd hk
    obtain ⟨k, rfl⟩ : ∃ m, k = m + 1 := ⟨k - 1, by omega⟩
    have := drop_nil hd
    simp only [table_wrong.l0]
    rw [if_neg (by omega)]
    rfl
  | cons s r ih =>
    intro i e k hg hd hk
    obtain ⟨hi, hr, hd'⟩ := rd_drop hd
    simp only [List.length_cons] at hk
    obtain ⟨k, rfl⟩ : ∃ m, k = m + 3 := ⟨k - 3, by omega⟩
    have hs : G48 s := hg s List.mem_cons_self
    have ih' := ih (i + 1) (s.f1.f0 + s.f1.f1) k (fun x hx => hg x (List.mem_cons_of_mem _ hx)) hd' (by omega)
    obtain ⟨h0, h1, h2, h3⟩ := hs
    simp only [table_wrong.l0]
    rw [if_pos (by omega), if_pos (by omega), if_pos (by omega), hr]
    unfold tick_May.f
    rw [if_neg (show ¬ F = 0 by omega)]
    by_cases c1 : s.f1.f1 < 1
    · have hb : bad F dom s e = 161 := if_pos (by omega)
      rw [if_pos c1]; simp [table_wrong.j1, scan, hb]
    rw [if_neg c1]
    by_cases c2 : s.f1.f0 ≥ F
    · have hb : bad F dom s e = 161 := if_pos (by omega)
      rw [if_pos c2]; simp [table_wrong.j1, scan, hb]
    rw [if_neg c2, IntWalk.u64_in _ (show 0 ≤ F - s.f1.f0 ∧ F - s.f1.f0 ≤ 18446744073709551615 by omega)]
    by_cases c3 : s.f1.f1 > F - s.f1.f0
    · have hb : bad F dom s e = 161 := if_pos (by omega)
      rw [if_pos c3]; simp [table_wrong.j1, scan, hb]
    rw [if_neg c3]
    simp only [Option.bind_some, if_true, table_wrong.j1, decide_eq_true_eq]
    by_cases c4 : s.f2 ≥ s.f1.f1
    · have hb : bad F dom s e = 161 := if_pos (by omega)
      rw [if_pos c4]; simp [scan, hb]
    rw [if_neg c4]
    have hb0 : bad F dom s e = if s.f0 < 0 ∨ s.f0 ≥ dom then 162 else if s.f1.f0 < e then 163 else 0 := if_neg (by omega)
    simp only [table_wrong.j2, decide_eq_true_eq, if_true]
    by_cases c5 : s.f0 < 0
    · have hb : bad F dom s e = 162 := by rw [hb0]; exact if_pos (by omega)
      rw [if_pos c5]; simp [scan, hb]
    rw [if_neg c5]
    by_cases c6 : s.f0 ≥ dom
    · have hb : bad F dom s e = 162 := by rw [hb0]; exact if_pos (by omega)
      rw [if_pos c6]; simp [scan, hb]
    rw [if_neg c6]
    have hb1 : bad F dom s e = if s.f1.f0 < e then 163 else 0 := by rw [hb0]; exact if_neg (by omega)
    by_cases c7 : s.f1.f0 < e
    · have hb : bad F dom s e = 163 := by rw [hb1]; exact if_pos c7
      rw [if_pos c7]; simp [scan, hb]
    have hb : bad F dom s e = 0 := by rw [hb1]; exact if_neg c7
    rw [if_neg c7, IntWalk.u64_in _ (show 0 ≤ s.f1.f0 + s.f1.f1 ∧ s.f1.f0 + s.f1.f1 ≤ 18446744073709551615 by omega), wrap1 (show (i : Int) < 9223372036854775807 by omega), ih']
    simp [scan, hb]

theorem wrong_f (F dom : Int) (hF : 1 ≤ F ∧ F ≤ 65536) (l : List S48) (hg : ∀ s ∈ l, G48 s) (k : Nat) (hk : 3073 ≤ k) : table_wrong.f k l F dom = some (wrongS F dom l) := by
  unfold table_wrong.f wrongS
  by_cases h : (l.length : Int) > 1024
  · rw [if_pos h, if_pos h]
  · rw [if_neg h, if_neg h]
    exact wrong_l0 F dom hF l (by omega) l 0 0 k hg rfl (by omega)

theorem check_l0 (F dom : Int) (hF : 1 ≤ F ∧ F ≤ 65536) (ls : List (List S48)) (hl : ls.length ≤ 64) (F' : Int) (ls' : List (List S48)) (hF' : F' = F) : ∀ (r : List (List S48)) (p : Nat) (k : Nat), (∀ l ∈ r, ∀ s ∈ l, G48 s) → ls.drop p = r → r.length + 3073 < k →
    table_Check.l0 k dom ls (ls.length : Int) (p : Int) F' ls' = some (checkL F dom r p) := by
  subst hF'
  intro r
  induction r with
  | nil =>
    intro p k hg hd hk
    obtain ⟨k, rfl⟩ : ∃ m, k = m + 1 := ⟨k - 1, by omega⟩
    have := drop_nil hd
    simp only [table_Check.l0]
    rw [if_neg (by omega)]
    rfl
  | cons l r ih =>
    intro p k hg hd hk
    obtain ⟨hi, hr, hd'⟩ := rdL_drop hd
    simp only [List.length_cons] at hk
    obtain ⟨k, rfl⟩ : ∃ m, k = m + 1 := ⟨k - 1, by omega⟩
    have ih' := ih (p + 1) k (fun x hx => hg x (List.mem_cons_of_mem _ hx)) hd' (by omega)
    simp only [table_Check.l0]
    rw [if_pos (by omega), if_pos (by omega), if_pos (by omega), hr, wrong_f F' dom hF l (hg l List.mem_cons_self) k (by omega)]
    simp only [Option.bind_some, checkL]
    by_cases c : (wrongS F' dom l).2 = 0
    · rw [if_pos c, if_pos c, wrap1 (by omega), ih']; simp
    · rw [if_neg c, if_neg c]

theorem check_f (F dom : Int) (ls : List (List S48)) (hg : ∀ l ∈ ls, ∀ s ∈ l, G48 s) (k : Nat) (hk : 4000 ≤ k) : table_Check.f k F ls dom = some (checkS F dom ls) := by
  obtain ⟨k, rfl⟩ : ∃ m, k = m + 1 := ⟨k - 1, by omega⟩
  unfold table_Check.f checkS
  simp only [table_Check.j0]
  by_cases c1 : dom < 1
  · simp [c1]
  by_cases c2 : dom > 16
  · simp [c1, c2]
  rw [if_neg c1, if_neg (by simpa using c2), if_neg (show ¬ (dom < 1 ∨ dom > 16) by omega)]
  by_cases c3 : F < 1
  · simp [c3]
  by_cases c4 : F > 65536
  · simp [c3, c4]
  by_cases c5 : (ls.length : Int) < 1
  · simp [c3, c4, c5]
  by_cases c6 : (ls.length : Int) > 64
  · simp [c3, c4, c5, c6]
  rw [if_neg c3, if_neg c4, if_neg c5, if_neg c6, if_neg (show ¬ (F < 1 ∨ F > 65536 ∨ (ls.length : Int) < 1 ∨ (ls.length : Int) > 64) by omega)]
  exact check_l0 F dom (by omega) ls (by omega) F ls rfl ls 0 k hg rfl (by omega)
end Go.Proofs.Ytiacikmignjdoaa.CTableAdds

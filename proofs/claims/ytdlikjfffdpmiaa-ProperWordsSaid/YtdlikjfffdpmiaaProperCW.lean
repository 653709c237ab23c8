/- Decode of the program and of the document are one. Conditions: the word is a uint32. -/
import Derived.Test.YtdlikjfffdpmiaaQProperx7
import Derived.Test.YtdlikjfffdpmiaaProperTr
import Derived.Test.YtdlikjfffdpmiaaQProperx16
import Derived.Laws.BitsAllLaws
import Derived.Laws.BitsLemmas
set_option linter.unusedVariables false
set_option linter.unusedSimpArgs false
namespace Go.Proofs.Ytdlikjfffdpmiaa.CProper
open Go.RowKit Go.Proofs.Ytdlikjfffdpmiaa.QProper Go.Proofs.YtdlikjfffdpmiaaW.PrintWords Go.Proofs.YtdlikjfffdpmiaaW.PrintLast Go.Proofs.YtdlikjfffdpmiaaW.PrintMore

theorem and_high (x : Nat) : x &&& 65520 = (x / 16 % 4096) * 16 := by
  have h : x &&& (4095 <<< 4) = ((x >>> 4) &&& 4095) <<< 4 := by
    apply Nat.eq_of_testBit_eq
    intro i
    simp only [Nat.testBit_and, Nat.testBit_shiftLeft, Nat.testBit_shiftRight]
    by_cases h : 4 ≤ i
    · simp [h, show 4 + (i - 4) = i by omega]
    · simp [h]
  have h2 : (x >>> 4) &&& 4095 = (x / 16) % 4096 := by
    rw [Nat.shiftRight_eq_div_pow, show (4095 : Nat) = 2 ^ 12 - 1 by decide, Nat.and_two_pow_sub_one_eq_mod]
  rw [show (65520 : Nat) = 4095 <<< 4 by decide, h, h2, Nat.shiftLeft_eq]

theorem wraps_u32 : ∀ n : Int, 0 ≤ n → n < 2 ^ 32 → IntKind.u32.wrap n = n := by
  intro n h0 h1
  simp [IntKind.wrap, IntKind.bits, IntKind.signed]
  omega
section
variable {x : Int} (h0 : 0 ≤ x) (h1 : x < 4294967296)
include h0 h1
theorem m15 : Go.bits .and .u32 x 15 = x % 16 := bits_mask .u32 32 (by decide) wraps_u32 4 (by decide) x h0 h1
theorem m16 : Go.bits .and .u32 x 65535 = x % 65536 := bits_mask .u32 32 (by decide) wraps_u32 16 (by decide) x h0 h1
theorem mh : Go.bits .and .u32 x 65520 = (x / 16 % 4096) * 16 := by
  rw [u32_and x 65520 h0 h1 (by decide) (by decide)]
  have := and_high x.toNat
  rw [show (65520 : Int).toNat = 65520 by decide, this]
  omega
end
theorem i16w (x : Int) : IntKind.i16.wrap x = (if x % 65536 ≥ 32768 then x % 65536 - 65536 else x % 65536) := by
  simp [IntKind.wrap, IntKind.bits, IntKind.signed]

theorem rows_one : ∀ j : Nat, j < 58 → (rotaref06_table.f ((j : Int) + 1)).map (fun t => (t.2.1, t.2.2.2.2.2)) = (opRows[j]?).map (fun r => (r.2.1, true)) := by decide +kernel
theorem rows_shape : ∀ j : Nat, j < 58 → ∃ s : Nat, s < 7 ∧ (opRows[j]?).map (fun r => r.2.1) = some (s : Int) := by decide +kernel
theorem rows_out : ∀ j : Nat, j < 256 → (j = 0 ∨ 59 ≤ j) → (rotaref06_table.f (j : Int)).map (fun t => t.2.2.2.2.2) = some false := by decide +kernel

section
variable {x : Int} (h0 : 0 ≤ x) (h1 : x < 4294967296)
include h0 h1
theorem lem1 : wrap64 (x / 16777216) = x / 16777216 := IntWalk.wrap64_in _ (by omega)
theorem lem2 : wrap64 (Go.bits .and .u32 (x / 1048576) 15) = x / 1048576 % 16 := by
  have a0 : 0 ≤ x / 1048576 := by omega
  have a1 : x / 1048576 < 4294967296 := by omega
  generalize x / 1048576 = y at a0 a1 ⊢
  rw [m15 a0 a1]; exact IntWalk.wrap64_in _ (by omega)
theorem lem3 : wrap64 (Go.bits .and .u32 (x / 65536) 15) = x / 65536 % 16 := by
  have a0 : 0 ≤ x / 65536 := by omega
  have a1 : x / 65536 < 4294967296 := by omega
  generalize x / 65536 = y at a0 a1 ⊢
  rw [m15 a0 a1]; exact IntWalk.wrap64_in _ (by omega)
theorem lem4 : wrap64 (Go.bits .and .u32 x 15) = x % 65536 % 16 := by
  rw [m15 h0 h1, IntWalk.wrap64_in _ (by omega)]
  exact (Int.emod_emod_of_dvd x (by decide)).symm
theorem lem5 : wrap64 (Go.bits .and .u32 x 65520) = (x % 65536 / 16) * 16 := by
  have e : x / 16 % 4096 = x % 65536 / 16 := by omega
  rw [mh h0 h1, e]
  have b : 0 ≤ x % 65536 / 16 ∧ x % 65536 / 16 < 4096 := by omega
  exact IntWalk.wrap64_in _ (by omega)
theorem lem6 : wrap64 (Go.bits .and .u32 x 65535) = x % 65536 := by
  rw [m16 h0 h1]; exact IntWalk.wrap64_in _ (by omega)
end
theorem lem7 (x : Int) : wrap64 (IntKind.i16.wrap x) = (if x % 65536 ≥ 32768 then x % 65536 - 65536 else x % 65536) := by
  rw [i16w]
  have : 0 ≤ x % 65536 ∧ x % 65536 < 65536 := by omega
  generalize x % 65536 = y at this ⊢
  by_cases c : y ≥ 32768
  · rw [if_pos c]; exact IntWalk.wrap64_in _ (by omega)
  · rw [if_neg c]; exact IntWalk.wrap64_in _ (by omega)
/-- The shape of an operation. -/
def shp (op : Int) : Int := ((opRows[(op - 1).toNat]?).map (·.2.1)).getD 0
def bad61 : Int × Int × Int × Int × Int × Int := (0, 0, 0, 0, 0, 61)
def decF (op A B lo sh : Int) : Int × Int × Int × Int × Int × Int :=
  if sh = 0 then (if A = 0 ∧ B = 0 ∧ lo = 0 then (op, 0, 0, 0, 0, 0) else bad61)
  else if sh = 1 then (if B = 0 ∧ lo = 0 then (op, A, 0, 0, 0, 0) else bad61)
  else if sh = 2 then (if lo = 0 then (op, A, B, 0, 0, 0) else bad61)
  else if sh = 3 then (if lo < 16 then (op, A, B, lo, 0, 0) else bad61)
  else if sh = 4 then (if A = 0 ∧ B = 0 then (op, 0, 0, 0, lo, 0) else bad61)
  else if sh = 5 then (if B = 0 then (op, A, 0, 0, lo, 0) else bad61)
  else (if B = 0 then (op, A, 0, 0, (if lo ≥ 32768 then lo - 65536 else lo), 0) else bad61)
/-- What a word is. -/
def dec (x : Int) : Int × Int × Int × Int × Int × Int :=
  if x / 16777216 ≤ 0 ∨ 59 ≤ x / 16777216 then (0, 0, 0, 0, 0, 60) else decF (x / 16777216) (x / 1048576 % 16) (x / 65536 % 16) (x % 65536) (shp (x / 16777216))

theorem reg_in {n : Int} (h : 0 ≤ n ∧ n < 16) : word_register.f n = some true := by
  unfold word_register.f
  rw [if_pos (show n ≥ 0 from h.1), decide_eq_true h.2]

theorem beqd (a b : Int) : (a == b) = decide (a = b) := by by_cases h : a = b <;> simp [h]
/-- The fields that fit a shape. -/
theorem fits_f (k : Nat) (op A B C I sh : Int) (hs : 0 ≤ sh ∧ sh ≤ 6) (hA : 0 ≤ A ∧ A < 16) (hB : 0 ≤ B ∧ B < 16) (hC : 0 ≤ C ∧ C < 16) :
    word_fits.f (k + 9) op A B C I sh = some (if sh = 0 then decide (A = 0 ∧ B = 0 ∧ C = 0 ∧ I = 0) else if sh = 1 then decide (B = 0 ∧ C = 0 ∧ I = 0) else if sh = 2 then decide (C = 0 ∧ I = 0) else if sh = 3 then decide (I = 0)
      else if sh = 4 then decide (A = 0 ∧ B = 0 ∧ C = 0 ∧ 0 ≤ I ∧ I < 65536) else if sh = 5 then decide (B = 0 ∧ C = 0 ∧ 0 ≤ I ∧ I < 65536) else decide (B = 0 ∧ C = 0 ∧ -32768 ≤ I ∧ I < 32768)) := by
  have hsh : sh = 0 ∨ sh = 1 ∨ sh = 2 ∨ sh = 3 ∨ sh = 4 ∨ sh = 5 ∨ sh = 6 := by omega
  unfold word_fits.f
  rcases hsh with rfl | rfl | rfl | rfl | rfl | rfl | rfl
  · simp [beqd]
  · by_cases h2 : B = 0 <;> by_cases h3 : C = 0 <;> simp [word_fits.j0, word_fits.j1, h2, h3, reg_in hA, reg_in hB, reg_in hC, reg_in (n := 0) (by decide), beqd]
  · by_cases h3 : C = 0 <;> simp [word_fits.j0, word_fits.j1, h3, reg_in hA, reg_in hB, reg_in hC, reg_in (n := 0) (by decide), beqd]
  · simp [word_fits.j0, word_fits.j1, reg_in hA, reg_in hB, reg_in hC, beqd]
  · by_cases h1 : A = 0 <;> by_cases h2 : B = 0 <;> by_cases h3 : C = 0 <;> by_cases h4 : 0 ≤ I <;> simp [word_fits.j0, word_fits.j2, h1, h2, h3, h4, reg_in hA, reg_in (n := 0) (by decide)]
  · by_cases h2 : B = 0 <;> by_cases h3 : C = 0 <;> by_cases h4 : 0 ≤ I <;> simp [word_fits.j0, word_fits.j2, h2, h3, h4, reg_in hA, reg_in (n := 0) (by decide)]
  · by_cases h2 : B = 0 <;> by_cases h3 : C = 0 <;> by_cases h4 : -32768 ≤ I <;> simp [word_fits.j0, word_fits.j2, h2, h3, h4, reg_in hA, reg_in (n := 0) (by decide)]

theorem shp_of {op : Int} (h : ¬ (op ≤ 0 ∨ 59 ≤ op)) : 0 ≤ shp op ∧ shp op ≤ 6 ∧ (∃ r, opRows[(op - 1).toNat]? = some r ∧ r.2.1 = shp op) ∧ ∃ t, rotaref06_table.f op = some t ∧ t.2.1 = shp op ∧ t.2.2.2.2.2 = true := by
  have hj : (op - 1).toNat < 58 := by omega
  obtain ⟨s, hs, e⟩ := rows_shape _ hj
  have h1 := rows_one _ hj
  rw [show (((op - 1).toNat : Nat) : Int) + 1 = op by omega] at h1
  cases hr : opRows[(op - 1).toNat]? with
  | none => rw [hr] at e; cases e
  | some r =>
    rw [hr] at e h1
    simp only [Option.map_some, Option.some.injEq] at e h1
    have hsh : shp op = r.2.1 := by unfold shp; rw [hr]; rfl
    cases ht : rotaref06_table.f op with
    | none => rw [ht] at h1; cases h1
    | some t =>
      rw [ht] at h1
      simp only [Option.map_some, Option.some.injEq, Prod.mk.injEq] at h1
      exact ⟨by omega, by omega, ⟨r, rfl, hsh.symm⟩, t, rfl, by rw [hsh]; exact h1.1, h1.2⟩

set_option maxHeartbeats 1000000 in
theorem Decode_f (k : Nat) (x : Int) (h0 : 0 ≤ x) (h1 : x < 4294967296) : word_Decode.f (k + 9) x = some (dec x) := by
  unfold word_Decode.f dec
  have e1 := lem1 h0 h1
  have e2 := lem2 h0 h1
  have e3 := lem3 h0 h1
  have e4 := lem4 h0 h1
  have e5 := lem5 h0 h1
  have e6 := lem6 h0 h1
  have e7 := lem7 x
  rw [e1, e2, e3, e4, e5, e6, e7]
  generalize x / 16777216 = op
  have hA : 0 ≤ x / 1048576 % 16 ∧ x / 1048576 % 16 < 16 := ⟨Int.emod_nonneg _ (by decide), Int.emod_lt_of_pos _ (by decide)⟩
  have hB : 0 ≤ x / 65536 % 16 ∧ x / 65536 % 16 < 16 := ⟨Int.emod_nonneg _ (by decide), Int.emod_lt_of_pos _ (by decide)⟩
  have hl : 0 ≤ x % 65536 ∧ x % 65536 < 65536 := ⟨Int.emod_nonneg _ (by decide), Int.emod_lt_of_pos _ (by decide)⟩
  generalize x / 1048576 % 16 = A at hA ⊢
  generalize x / 65536 % 16 = B at hB ⊢
  generalize x % 65536 = lo at hl ⊢
  clear e1 e2 e3 e4 e5 e6 e7 h0 h1
  by_cases ho : op ≤ 0 ∨ 59 ≤ op
  · simp [word_find.f, ho]
  · obtain ⟨hs0, hs1, ⟨r, hr, hrs⟩, -⟩ := shp_of ho
    generalize shp op = sh at hs0 hs1 hrs ⊢
    rw [if_neg ho]
    simp only [word_find.f, if_neg ho, hr, Option.map_some, Option.bind_some, hrs, if_true]
    have hsh : sh = 0 ∨ sh = 1 ∨ sh = 2 ∨ sh = 3 ∨ sh = 4 ∨ sh = 5 ∨ sh = 6 := by omega
    have hC0 : (0 : Int) ≤ 0 ∧ (0 : Int) < 16 := by decide
    have hC1 : 0 ≤ lo % 16 ∧ lo % 16 < 16 := by omega
    rw [fits_f k op A B 0 _ sh ⟨hs0, hs1⟩ hA hB hC0, fits_f k op A B 0 lo sh ⟨hs0, hs1⟩ hA hB hC0, fits_f k op A B (lo % 16) _ sh ⟨hs0, hs1⟩ hA hB hC1]
    clear hr hrs
    rcases hsh with rfl | rfl | rfl | rfl | rfl | rfl | rfl
    · by_cases c : A = 0 ∧ B = 0 ∧ lo = 0
      · obtain ⟨rfl, rfl, rfl⟩ := c; simp [decF]
      · simp [decF, c, bad61]
    · by_cases c : B = 0 ∧ lo = 0
      · obtain ⟨rfl, rfl⟩ := c; simp [decF]
      · simp [decF, c, bad61]
    · by_cases c : lo = 0
      · subst c; simp [decF]
      · simp [decF, c, bad61]
    · by_cases c : lo < 16
      · have c1 : lo / 16 * 16 = 0 := by omega
        have c2 : lo % 16 = lo := by omega
        simp [decF, c, c1, c2]
      · have c1 : ¬ lo / 16 * 16 = 0 := by omega
        have c2 : ¬ lo / 16 = 0 := by omega
        simp [decF, c, c1, c2, bad61]
    · by_cases c : A = 0 ∧ B = 0
      · obtain ⟨rfl, rfl⟩ := c; simp [decF, hl.1, hl.2]
      · have c1 : ¬ (A = 0 ∧ B = 0 ∧ 0 ≤ lo ∧ lo < 65536) := fun h => c ⟨h.1, h.2.1⟩
        simp [decF, c, c1, bad61]
    · by_cases c : B = 0
      · subst c; simp [decF, hl.1, hl.2]
      · simp [decF, c, bad61]
    · by_cases c : B = 0
      · subst c
        by_cases c2 : lo ≥ 32768
        · have c3 : -32768 ≤ lo - 65536 ∧ lo - 65536 < 32768 := by omega
          simp [decF, c2, c3.1, c3.2]
        · have c3 : -32768 ≤ lo ∧ lo < 32768 := by omega
          simp [decF, c2, c3.1, c3.2]
      · simp [decF, c, bad61]
end Go.Proofs.Ytdlikjfffdpmiaa.CProper

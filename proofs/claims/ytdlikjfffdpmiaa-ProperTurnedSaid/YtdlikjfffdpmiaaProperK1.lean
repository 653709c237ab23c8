/- Decode of the program and of the document are one. Conditions: the word is a uint32.
   What the program's Check computes, as one plain scan. Conditions: the words are uint32, the functions' numbers are ints.
   The document's parts and table, plain. Conditions: none.
   A program that may be, plain: what Check's OK says of its functions and words. Conditions: none.
   Next of the program, plain. Conditions: the words are uint32. -/
import Derived.Test.YtdlikjfffdpmiaaQProperx7
import Derived.Test.YtdlikjfffdpmiaaProperTT
import Derived.Test.YtdlikjfffdpmiaaQProperx100
import Derived.Laws.BitsAllLaws
import Derived.Laws.BitsLemmas
import Derived.Test.YtdlikjfffdpmiaaQProperx11
import Derived.Test.YtdlikjfffdpmiaaQProperx12
import Derived.Test.YtdlikjfffdpmiaaQProperx14
import Derived.Test.YtdlikjfffdpmiaaProperIn
import Derived.Test.YtdlikjfffdpmiaaProperNx
import Derived.Test.YtdlikjfffdpmiaaQProperx30
set_option linter.unusedVariables false
set_option linter.unusedSimpArgs false
namespace Go.Proofs.Ytdlikjfffdpmiaa.CProper
open Go.RowKit Go.Proofs.Ytdlikjfffdpmiaa.QProper Go.Proofs.YtdlikjfffdpmiaaW.PrintWords Go.Proofs.YtdlikjfffdpmiaaW.PrintLast Go.Proofs.YtdlikjfffdpmiaaW.PrintMore
theorem and_high (x : Nat) : x &&& 65520 = (x / 16 % 4096) * 16 := by
  have h : x &&& (4095 <<< 4) = ((x >>> 4) &&& 4095) <<< 4 := by
    apply Nat.eq_of_testBit_eq
    intro i
    simp only [Nat.testBit_and, Nat.testBit_shiftLeft, Nat.testBit_shiftRight]
    by_cases h : 4 ≤ i
    · simp [h, show 4 + (i - 4) = i by omega]
    · simp [h]
  have h2 : (x >>> 4) &&& 4095 = (x / 16) % 4096 := by
    rw [Nat.shiftRight_eq_div_pow, show (4095 : Nat) = 2 ^ 12 - 1 by decide, Nat.and_two_pow_sub_one_eq_mod]
  rw [show (65520 : Nat) = 4095 <<< 4 by decide, h, h2, Nat.shiftLeft_eq]
theorem wraps_u32 : ∀ n : Int, 0 ≤ n → n < 2 ^ 32 → IntKind.u32.wrap n = n := by
  intro n h0 h1
  simp [IntKind.wrap, IntKind.bits, IntKind.signed]
  omega
section
variable {x : Int} (h0 : 0 ≤ x) (h1 : x < 4294967296)
include h0 h1
theorem m15 : Go.bits .and .u32 x 15 = x % 16 := bits_mask .u32 32 (by decide) wraps_u32 4 (by decide) x h0 h1
theorem m16 : Go.bits .and .u32 x 65535 = x % 65536 := bits_mask .u32 32 (by decide) wraps_u32 16 (by decide) x h0 h1
theorem mh : Go.bits .and .u32 x 65520 = (x / 16 % 4096) * 16 := by
  rw [u32_and x 65520 h0 h1 (by decide) (by decide)]
  have := and_high x.toNat
  rw [show (65520 : Int).toNat = 65520 by decide, this]
  omega
end
theorem i16w (x : Int) : IntKind.i16.wrap x = (if x % 65536 ≥ 32768 then x % 65536 - 65536 else x % 65536) := by
  simp [IntKind.wrap, IntKind.bits, IntKind.signed]
theorem rows_one : ∀ j : Nat, j < 58 → (rotaref06_table.f ((j : Int) + 1)).map (fun t => (t.2.1, t.2.2.2.2.2)) = (opRows[j]?).map (fun r => (r.2.1, true)) := by decide +kernel
theorem rows_shape : ∀ j : Nat, j < 58 → ∃ s : Nat, s < 7 ∧ (opRows[j]?).map (fun r => r.2.1) = some (s : Int) := by decide +kernel
theorem rows_out : ∀ j : Nat, j < 256 → (j = 0 ∨ 59 ≤ j) → (rotaref06_table.f (j : Int)).map (fun t => t.2.2.2.2.2) = some false := by decide +kernel
section
variable {x : Int} (h0 : 0 ≤ x) (h1 : x < 4294967296)
include h0 h1
theorem lem1 : wrap64 (x / 16777216) = x / 16777216 := IntWalk.wrap64_in _ (by omega)
theorem lem2 : wrap64 (Go.bits .and .u32 (x / 1048576) 15) = x / 1048576 % 16 := by
  have a0 : 0 ≤ x / 1048576 := by omega
  have a1 : x / 1048576 < 4294967296 := by omega
  generalize x / 1048576 = y at a0 a1 ⊢
  rw [m15 a0 a1]; exact IntWalk.wrap64_in _ (by omega)
theorem lem3 : wrap64 (Go.bits .and .u32 (x / 65536) 15) = x / 65536 % 16 := by
  have a0 : 0 ≤ x / 65536 := by omega
  have a1 : x / 65536 < 4294967296 := by omega
  generalize x / 65536 = y at a0 a1 ⊢
  rw [m15 a0 a1]; exact IntWalk.wrap64_in _ (by omega)
theorem lem4 : wrap64 (Go.bits .and .u32 x 15) = x % 65536 % 16 := by
  rw [m15 h0 h1, IntWalk.wrap64_in _ (by omega)]
  exact (Int.emod_emod_of_dvd x (by decide)).symm
theorem lem5 : wrap64 (Go.bits .and .u32 x 65520) = (x % 65536 / 16) * 16 := by
  have e : x / 16 % 4096 = x % 65536 / 16 := by omega
  rw [mh h0 h1, e]
  have b : 0 ≤ x % 65536 / 16 ∧ x % 65536 / 16 < 4096 := by omega
  exact IntWalk.wrap64_in _ (by omega)
theorem lem6 : wrap64 (Go.bits .and .u32 x 65535) = x % 65536 := by
  rw [m16 h0 h1]; exact IntWalk.wrap64_in _ (by omega)
end
theorem lem7 (x : Int) : wrap64 (IntKind.i16.wrap x) = (if x % 65536 ≥ 32768 then x % 65536 - 65536 else x % 65536) := by
  rw [i16w]
  have : 0 ≤ x % 65536 ∧ x % 65536 < 65536 := by omega
  generalize x % 65536 = y at this ⊢
  by_cases c : y ≥ 32768
  · rw [if_pos c]; exact IntWalk.wrap64_in _ (by omega)
  · rw [if_neg c]; exact IntWalk.wrap64_in _ (by omega)
/-- The shape of an operation. -/
def shp (op : Int) : Int := ((opRows[(op - 1).toNat]?).map (·.2.1)).getD 0
def bad61 : Int × Int × Int × Int × Int × Int := (0, 0, 0, 0, 0, 61)
def decF (op A B lo sh : Int) : Int × Int × Int × Int × Int × Int :=
  if sh = 0 then (if A = 0 ∧ B = 0 ∧ lo = 0 then (op, 0, 0, 0, 0, 0) else bad61)
  else if sh = 1 then (if B = 0 ∧ lo = 0 then (op, A, 0, 0, 0, 0) else bad61)
  else if sh = 2 then (if lo = 0 then (op, A, B, 0, 0, 0) else bad61)
  else if sh = 3 then (if lo < 16 then (op, A, B, lo, 0, 0) else bad61)
  else if sh = 4 then (if A = 0 ∧ B = 0 then (op, 0, 0, 0, lo, 0) else bad61)
  else if sh = 5 then (if B = 0 then (op, A, 0, 0, lo, 0) else bad61)
  else (if B = 0 then (op, A, 0, 0, (if lo ≥ 32768 then lo - 65536 else lo), 0) else bad61)
/-- What a word is. -/
def dec (x : Int) : Int × Int × Int × Int × Int × Int :=
  if x / 16777216 ≤ 0 ∨ 59 ≤ x / 16777216 then (0, 0, 0, 0, 0, 60) else decF (x / 16777216) (x / 1048576 % 16) (x / 65536 % 16) (x % 65536) (shp (x / 16777216))
theorem reg_in {n : Int} (h : 0 ≤ n ∧ n < 16) : word_register.f n = some true := by
  unfold word_register.f
  rw [if_pos (show n ≥ 0 from h.1), decide_eq_true h.2]
theorem beqd (a b : Int) : (a == b) = decide (a = b) := by by_cases h : a = b <;> simp [h]
/-- The fields that fit a shape. -/
theorem fits_f (k : Nat) (op A B C I sh : Int) (hs : 0 ≤ sh ∧ sh ≤ 6) (hA : 0 ≤ A ∧ A < 16) (hB : 0 ≤ B ∧ B < 16) (hC : 0 ≤ C ∧ C < 16) :
    word_fits.f (k + 9) op A B C I sh = some (if sh = 0 then decide (A = 0 ∧ B = 0 ∧ C = 0 ∧ I = 0) else if sh = 1 then decide (B = 0 ∧ C = 0 ∧ I = 0) else if sh = 2 then decide (C = 0 ∧ I = 0) else if sh = 3 then decide (I = 0)
      else if sh = 4 then decide (A = 0 ∧ B = 0 ∧ C = 0 ∧ 0 ≤ I ∧ I < 65536) else if sh = 5 then decide (B = 0 ∧ C = 0 ∧ 0 ≤ I ∧ I < 65536) else decide (B = 0 ∧ C = 0 ∧ -32768 ≤ I ∧ I < 32768)) := by
  have hsh : sh = 0 ∨ sh = 1 ∨ sh = 2 ∨ sh = 3 ∨ sh = 4 ∨ sh = 5 ∨ sh = 6 := by omega
  unfold word_fits.f
  rcases hsh with rfl | rfl | rfl | rfl | rfl | rfl | rfl
  · simp [beqd]
  · by_cases h2 : B = 0 <;> by_cases h3 : C = 0 <;> simp [word_fits.j0, word_fits.j1, h2, h3, reg_in hA, reg_in hB, reg_in hC, reg_in (n := 0) (by decide), beqd]
  · by_cases h3 : C = 0 <;> simp [word_fits.j0, word_fits.j1, h3, reg_in hA, reg_in hB, reg_in hC, reg_in (n := 0) (by decide), beqd]
  · simp [word_fits.j0, word_fits.j1, reg_in hA, reg_in hB, reg_in hC, beqd]
  · by_cases h1 : A = 0 <;> by_cases h2 : B = 0 <;> by_cases h3 : C = 0 <;> by_cases h4 : 0 ≤ I <;> simp [word_fits.j0, word_fits.j2, h1, h2, h3, h4, reg_in hA, reg_in (n := 0) (by decide)]
  · by_cases h2 : B = 0 <;> by_cases h3 : C = 0 <;> by_cases h4 : 0 ≤ I <;> simp [word_fits.j0, word_fits.j2, h2, h3, h4, reg_in hA, reg_in (n := 0) (by decide)]
  · by_cases h2 : B = 0 <;> by_cases h3 : C = 0 <;> by_cases h4 : -32768 ≤ I <;> simp [word_fits.j0, word_fits.j2, h2, h3, h4, reg_in hA, reg_in (n := 0) (by decide)]
theorem shp_of {op : Int} (h : ¬ (op ≤ 0 ∨ 59 ≤ op)) : 0 ≤ shp op ∧ shp op ≤ 6 ∧ (∃ r, opRows[(op - 1).toNat]? = some r ∧ r.2.1 = shp op) ∧ ∃ t, rotaref06_table.f op = some t ∧ t.2.1 = shp op ∧ t.2.2.2.2.2 = true := by
  have hj : (op - 1).toNat < 58 := by omega
  obtain ⟨s, hs, e⟩ := rows_shape _ hj
  have h1 := rows_one _ hj
  rw [show (((op - 1).toNat : Nat) : Int) + 1 = op by omega] at h1
  cases hr : opRows[(op - 1).toNat]? with
  | none => rw [hr] at e; cases e
  | some r =>
    rw [hr] at e h1
    simp only [Option.map_some, Option.some.injEq] at e h1
    have hsh : shp op = r.2.1 := by unfold shp; rw [hr]; rfl
    cases ht : rotaref06_table.f op with
    | none => rw [ht] at h1; cases h1
    | some t =>
      rw [ht] at h1
      simp only [Option.map_some, Option.some.injEq, Prod.mk.injEq] at h1
      exact ⟨by omega, by omega, ⟨r, rfl, hsh.symm⟩, t, rfl, by rw [hsh]; exact h1.1, h1.2⟩
set_option maxHeartbeats 1000000 in
theorem Decode_f (k : Nat) (x : Int) (h0 : 0 ≤ x) (h1 : x < 4294967296) : word_Decode.f (k + 9) x = some (dec x) := by
  unfold word_Decode.f dec
  have e1 := lem1 h0 h1
  have e2 := lem2 h0 h1
  have e3 := lem3 h0 h1
  have e4 := lem4 h0 h1
  have e5 := lem5 h0 h1
  have e6 := lem6 h0 h1
  have e7 := lem7 x
  rw [e1, e2, e3, e4, e5, e6, e7]
  generalize x / 16777216 = op
  have hA : 0 ≤ x / 1048576 % 16 ∧ x / 1048576 % 16 < 16 := ⟨Int.emod_nonneg _ (by decide), Int.emod_lt_of_pos _ (by decide)⟩
  have hB : 0 ≤ x / 65536 % 16 ∧ x / 65536 % 16 < 16 := ⟨Int.emod_nonneg _ (by decide), Int.emod_lt_of_pos _ (by decide)⟩
  have hl : 0 ≤ x % 65536 ∧ x % 65536 < 65536 := ⟨Int.emod_nonneg _ (by decide), Int.emod_lt_of_pos _ (by decide)⟩
  generalize x / 1048576 % 16 = A at hA ⊢
  generalize x / 65536 % 16 = B at hB ⊢
  generalize x % 65536 = lo at hl ⊢
  clear e1 e2 e3 e4 e5 e6 e7 h0 h1
  by_cases ho : op ≤ 0 ∨ 59 ≤ op
  · simp [word_find.f, ho]
  · obtain ⟨hs0, hs1, ⟨r, hr, hrs⟩, -⟩ := shp_of ho
    generalize shp op = sh at hs0 hs1 hrs ⊢
    rw [if_neg ho]
    simp only [word_find.f, if_neg ho, hr, Option.map_some, Option.bind_some, hrs, if_true]
    have hsh : sh = 0 ∨ sh = 1 ∨ sh = 2 ∨ sh = 3 ∨ sh = 4 ∨ sh = 5 ∨ sh = 6 := by omega
    have hC0 : (0 : Int) ≤ 0 ∧ (0 : Int) < 16 := by decide
    have hC1 : 0 ≤ lo % 16 ∧ lo % 16 < 16 := by omega
    rw [fits_f k op A B 0 _ sh ⟨hs0, hs1⟩ hA hB hC0, fits_f k op A B 0 lo sh ⟨hs0, hs1⟩ hA hB hC0, fits_f k op A B (lo % 16) _ sh ⟨hs0, hs1⟩ hA hB hC1]
    clear hr hrs
    rcases hsh with rfl | rfl | rfl | rfl | rfl | rfl | rfl
    · by_cases c : A = 0 ∧ B = 0 ∧ lo = 0
      · obtain ⟨rfl, rfl, rfl⟩ := c; simp [decF]
      · simp [decF, c, bad61]
    · by_cases c : B = 0 ∧ lo = 0
      · obtain ⟨rfl, rfl⟩ := c; simp [decF]
      · simp [decF, c, bad61]
    · by_cases c : lo = 0
      · subst c; simp [decF]
      · simp [decF, c, bad61]
    · by_cases c : lo < 16
      · have c1 : lo / 16 * 16 = 0 := by omega
        have c2 : lo % 16 = lo := by omega
        simp [decF, c, c1, c2]
      · have c1 : ¬ lo / 16 * 16 = 0 := by omega
        have c2 : ¬ lo / 16 = 0 := by omega
        simp [decF, c, c1, c2, bad61]
    · by_cases c : A = 0 ∧ B = 0
      · obtain ⟨rfl, rfl⟩ := c; simp [decF, hl.1, hl.2]
      · have c1 : ¬ (A = 0 ∧ B = 0 ∧ 0 ≤ lo ∧ lo < 65536) := fun h => c ⟨h.1, h.2.1⟩
        simp [decF, c, c1, bad61]
    · by_cases c : B = 0
      · subst c; simp [decF, hl.1, hl.2]
      · simp [decF, c, bad61]
    · by_cases c : B = 0
      · subst c
        by_cases c2 : lo ≥ 32768
        · have c3 : -32768 ≤ lo - 65536 ∧ lo - 65536 < 32768 := by omega
          simp [decF, c2, c3.1, c3.2]
        · have c3 : -32768 ≤ lo ∧ lo < 32768 := by omega
          simp [decF, c2, c3.1, c3.2]
      · simp [decF, c, bad61]
end Go.Proofs.Ytdlikjfffdpmiaa.CProper
set_option linter.unusedVariables false
set_option linter.unusedSimpArgs false
namespace Go.Proofs.Ytdlikjfffdpmiaa.CProper
open Go.RowKit Go.Proofs.Ytdlikjfffdpmiaa.QProper Go.Proofs.YtdlikjfffdpmiaaW.PrintWords Go.Proofs.YtdlikjfffdpmiaaW.PrintLast Go.Proofs.YtdlikjfffdpmiaaW.PrintMore
def jmp (op : Int) : Bool := decide (op = 17) || decide (op = 18) || decide (op = 19)
def endo (op : Int) : Bool := decide (op = 17) || decide (op = 21) || decide (op = 24) || decide (op = 58)
theorem jumps_f (op : Int) : proper_jumps.f op = some (jmp op) := by
  unfold proper_jumps.f jmp
  by_cases h1 : op = 17
  · simp [h1]
  by_cases h2 : op = 18
  · simp [h2]
  simp [h1, h2, beqd]
theorem ends_f (op : Int) : proper_ends.f op = some (endo op) := by
  unfold proper_ends.f endo
  by_cases h1 : op = 17
  · simp [h1]
  by_cases h2 : op = 21
  · simp [h2]
  by_cases h3 : op = 24
  · simp [h3]
  simp [h1, h2, h3, beqd]
/-- What is wrong with a word behind its jump. -/
def W2 (nf nt op imm : Int) (last : Bool) : Int :=
  if (op = 20 ∨ op = 22) ∧ imm ≥ nf then 81 else if op = 34 ∧ imm ≥ nt then 83 else if last = true ∧ endo op = false then 84 else 0
/-- What is wrong with a word of a function from b to e. -/
def W (nf nt x b e i : Int) : Int :=
  if (dec x).2.2.2.2.2 ≠ 0 then 80 else if jmp (dec x).1 = true ∧ ((dec x).2.2.2.2.1 < b ∨ (dec x).2.2.2.2.1 ≥ e) then 82 else W2 nf nt (dec x).1 (dec x).2.2.2.2.1 (decide (i = e - 1))
theorem wrong_j0 (k : Nat) (i : Int) (far : Bool) (c : List Int) (fs : List S34) (ts : List S58) (b e op A B C imm : Int) (he : wrap64 (e - 1) = e - 1) :
    proper_wrong.j0 (k + 5) i far c fs ts b e op A B C imm = some (if far = true then 82 else W2 fs.length ts.length op imm (decide (i = e - 1))) := by
  simp only [proper_wrong.j0]
  cases far with
  | true => simp
  | false =>
    have hj2 : ∀ big, proper_wrong.j2 (k + 3) i big b e op A B C imm = some (if big = true then 83 else if decide (i = e - 1) = true ∧ endo op = false then 84 else 0) := by
      intro big
      simp only [proper_wrong.j2, he, ends_f]
      cases big with
      | true => simp
      | false =>
        by_cases h : i = e - 1
        · cases hE : endo op <;> simp [h]
        · simp [h]
    have hj1 : ∀ big, proper_wrong.j1 (k + 4) i big c fs ts b e op A B C imm = some (if big = true then 81 else if op = 34 ∧ imm ≥ ts.length then 83 else if decide (i = e - 1) = true ∧ endo op = false then 84 else 0) := by
      intro big
      simp only [proper_wrong.j1, hj2]
      cases big with
      | true => simp
      | false =>
        by_cases h : op = 34
        · simp [h]
        · simp [h]
    rw [if_neg (by decide)]
    simp only [hj1, W2]
    by_cases h1 : op = 20
    · simp [h1]
    · by_cases h2 : op = 22
      · simp [h2]
      · simp [h1, h2]
theorem wrong_f (k : Nat) (c : List Int) (fs : List S34) (ts : List S58) (i b e : Int) (hc : ∀ x ∈ c, 0 ≤ x ∧ x < 4294967296) (h0 : 0 ≤ i) (h1 : i < c.length) (he : -9223372036854775808 < e ∧ e ≤ 9223372036854775807) :
    proper_wrong.f (k + 9) c fs ts i b e = some (W fs.length ts.length (rd c i) b e i) := by
  have hx : 0 ≤ rd c i ∧ rd c i < 4294967296 := by
    apply hc
    unfold rd
    rw [List.getD_eq_getElem?_getD, List.getElem?_eq_getElem (show i.toNat < c.length by omega)]
    exact List.getElem_mem _
  have hw : wrap64 (e - 1) = e - 1 := IntWalk.wrap64_in _ (by omega)
  unfold proper_wrong.f W
  rw [if_pos h0, if_pos h1, Decode_f k _ hx.1 hx.2]
  generalize dec (rd c i) = d
  obtain ⟨op, A, B, C, imm, er⟩ := d
  simp only [Option.bind_some, jumps_f]
  by_cases h : er = 0
  · simp only [h, if_true, ne_eq, not_true_eq_false, if_false]
    cases hj : jmp op with
    | false => simp [wrong_j0 (k + 4) i _ c fs ts b e op A B C imm hw]
    | true =>
      by_cases hb : imm < b
      · simp [hb, wrong_j0 (k + 4) i _ c fs ts b e op A B C imm hw]
      · by_cases hE : imm ≥ e
        · simp [hb, hE, wrong_j0 (k + 4) i _ c fs ts b e op A B C imm hw]
        · simp [hb, hE, wrong_j0 (k + 4) i _ c fs ts b e op A B C imm hw]
  · simp [h]
/-! ### the functions part the code -/
def fparts (n tot : Int) : List S34 → Int → Int → Int × Bool
  | [], at_, _ => (tot, decide (0 < tot) && decide (at_ = n))
  | f :: r, at_, j => if f.f0 = at_ ∧ at_ < f.f1 ∧ f.f1 ≤ n then fparts n tot r f.f1 (j + 1) else (j, false)
def Chain (n : Int) : List S34 → Int → Prop
  | [], at_ => at_ = n
  | f :: r, at_ => f.f0 = at_ ∧ at_ < f.f1 ∧ f.f1 ≤ n ∧ Chain n r f.f1
theorem chain_of (n tot : Int) : ∀ (r : List S34) (at_ j : Int), (fparts n tot r at_ j).2 = true → Chain n r at_ := by
  intro r
  induction r with
  | nil => intro at_ j h; simp [fparts] at h; exact h.2
  | cons f r ih =>
    intro at_ j h
    unfold fparts at h
    by_cases c : f.f0 = at_ ∧ at_ < f.f1 ∧ f.f1 ≤ n
    · rw [if_pos c] at h
      exact ⟨c.1, c.2.1, c.2.2, ih _ _ h⟩
    · rw [if_neg c] at h; cases h
theorem rd34_drop {l r : List S34} {s : S34} {i : Nat} (h : l.drop i = s :: r) : i < l.length ∧ rd_T34 l (i : Int) = s ∧ l.drop (i + 1) = r := by
  have hi : i < l.length := by
    rcases Nat.lt_or_ge i l.length with h1 | h1
    · exact h1
    · rw [List.drop_eq_nil_of_le h1] at h; cases h
  rw [List.drop_eq_getElem_cons hi] at h
  injection h with h1 h2
  refine ⟨hi, ?_, h2⟩
  simp [rd_T34, List.getD, List.getElem?_eq_getElem hi, h1]
theorem drop_nil {α : Type} {l : List α} {i : Nat} (h : l.drop i = []) : l.length ≤ i := by
  have := congrArg List.length h
  rw [List.length_drop] at this
  simp at this
  omega
theorem wrap1 {i : Nat} (h : (i : Int) < 9223372036854775807) : wrap64 ((i : Int) + 1) = ((i + 1 : Nat) : Int) := by unfold wrap64; omega
theorem functions_l0 (c : List Int) (fs : List S34) (ts : List S58) (hf : fs.length ≤ 256) : ∀ (r : List S34) (j : Nat) (at_ : Int) (k : Nat), fs.drop j = r → r.length < k →
    proper_functions.l0 k at_ fs (fs.length : Int) (j : Int) c fs ts = some (fparts c.length fs.length r at_ j) := by
  intro r
  induction r with
  | nil =>
    intro j at_ k hd hk
    obtain ⟨k, rfl⟩ : ∃ m, k = m + 1 := ⟨k - 1, by omega⟩
    have := drop_nil hd
    simp only [proper_functions.l0]
    rw [if_neg (by omega)]
    by_cases h : (fs.length : Int) > 0
    · rw [if_pos h]; simp [fparts, beqd, h]; omega
    · rw [if_neg h]; simp [fparts, h]; omega
  | cons f r ih =>
    intro j at_ k hd hk
    obtain ⟨hj, hr, hd'⟩ := rd34_drop hd
    simp only [List.length_cons] at hk
    obtain ⟨k, rfl⟩ : ∃ m, k = m + 1 := ⟨k - 1, by omega⟩
    have ih' := ih (j + 1) f.f1 k hd' (by omega)
    simp only [proper_functions.l0]
    rw [if_pos (by omega), if_pos (by omega), if_pos (by omega), hr, wrap1 (by omega), ih']
    simp only [fparts]
    by_cases h1 : f.f0 = at_
    · by_cases h2 : f.f1 ≤ f.f0
      · rw [if_pos h1, if_pos h2, if_neg (by omega)]
      · by_cases h3 : f.f1 > c.length
        · rw [if_pos h1, if_neg h2, if_pos h3, if_neg (by omega)]
        · rw [if_pos h1, if_neg h2, if_neg h3, if_pos (by omega)]
          simp
    · rw [if_neg h1, if_neg (by omega)]
theorem functions_f (c : List Int) (fs : List S34) (ts : List S58) (hf : fs.length ≤ 256) (k : Nat) (hk : 257 ≤ k) : proper_functions.f k c fs ts = some (fparts c.length fs.length fs 0 0) :=
  functions_l0 c fs ts hf fs 0 0 k rfl (by omega)
/-! ### word by word -/
/-- The first of m words from a on with which something is wrong. -/
def fw (g : Int → Int) : Nat → Int → Int × Int
  | 0, _ => (0, 0)
  | m + 1, a => if g a = 0 then fw g m (a + 1) else (a, g a)
theorem check_l1 (g : Int → Int) (c : List Int) (fs : List S34) (ts : List S58) (hn : c.length ≤ 4096) (hc : ∀ x ∈ c, 0 ≤ x ∧ x < 4294967296) (b e : Int) (he : e ≤ c.length) (j : Int) (hj : wrap64 (j + 1) = j + 1)
    (hg : ∀ i, b ≤ i → i < e → g i = W fs.length ts.length (rd c i) b e i) (M K : Nat)
    (hnext : ∀ k, K ≤ k → proper_Check.l0 k fs (fs.length : Int) (j + 1) c fs ts = some (fw g M e)) :
    ∀ (m : Nat) (a : Int) (k : Nat), b ≤ a → 0 ≤ a → a + m = e → K + m + 12 ≤ k → proper_Check.l1 k a fs (fs.length : Int) j c fs ts b e = some (fw g (m + M) a) := by
  intro m
  induction m with
  | zero =>
    intro a k hb h0 hm hk
    obtain ⟨k, rfl⟩ : ∃ m, k = m + 1 := ⟨k - 1, by omega⟩
    have : a = e := by omega
    subst this
    simp only [proper_Check.l1]
    rw [if_neg (by omega), hj, hnext k (by omega)]
    simp
  | succ m ih =>
    intro a k hb h0 hm hk
    obtain ⟨k, rfl⟩ : ∃ m, k = m + 1 := ⟨k - 1, by omega⟩
    have ih' := ih (a + 1) k (by omega) (by omega) (by omega) (by omega)
    have hwr : proper_wrong.f k c fs ts a b e = some (W fs.length ts.length (rd c a) b e a) := by
      obtain ⟨q, rfl⟩ : ∃ m, k = m + 9 := ⟨k - 9, by omega⟩
      exact wrong_f q c fs ts a b e hc h0 (by omega) (by omega)
    simp only [proper_Check.l1]
    rw [if_pos (by omega), hwr, ← hg a hb (by omega), IntWalk.wrap64_in (a + 1) (by omega), ih', show m + 1 + M = (m + M) + 1 by omega]
    simp only [Option.bind_some, fw]
    by_cases h : g a = 0
    · rw [if_pos h, if_pos h]
    · rw [if_neg h, if_neg h]
theorem check_l0 (g : Int → Int) (c : List Int) (fs : List S34) (ts : List S58) (hn : c.length ≤ 4096) (hf : fs.length ≤ 256) (hc : ∀ x ∈ c, 0 ≤ x ∧ x < 4294967296) :
    ∀ (r : List S34) (j : Nat) (at_ : Int) (k : Nat), fs.drop j = r → 0 ≤ at_ → at_ ≤ c.length → Chain c.length r at_ → (∀ f ∈ r, ∀ i, f.f0 ≤ i → i < f.f1 → g i = W fs.length ts.length (rd c i) f.f0 f.f1 i) →
    (c.length - at_).toNat + 20 * r.length + 20 ≤ k → proper_Check.l0 k fs (fs.length : Int) (j : Int) c fs ts = some (fw g (c.length - at_).toNat at_) := by
  intro r
  induction r with
  | nil =>
    intro j at_ k hd h0 h1 hch hg hk
    obtain ⟨k, rfl⟩ : ∃ m, k = m + 1 := ⟨k - 1, by omega⟩
    have := drop_nil hd
    have e : at_ = c.length := hch
    simp only [proper_Check.l0]
    rw [if_neg (by omega), show ((c.length : Int) - at_).toNat = 0 by omega]
    rfl
  | cons f r ih =>
    intro j at_ k hd h0 h1 hch hg hk
    obtain ⟨hj, hr, hd'⟩ := rd34_drop hd
    obtain ⟨e0, e1, e2, hch'⟩ := hch
    simp only [List.length_cons] at hk
    obtain ⟨k, rfl⟩ : ∃ m, k = m + 1 := ⟨k - 1, by omega⟩
    simp only [proper_Check.l0]
    rw [if_pos (by omega), if_pos (by omega), if_pos (by omega), hr]
    have hw : wrap64 ((j : Int) + 1) = (j : Int) + 1 := IntWalk.wrap64_in _ (by omega)
    have hl := check_l1 g c fs ts hn hc f.f0 f.f1 e2 (j : Int) hw (hg f List.mem_cons_self) (c.length - f.f1).toNat ((c.length - f.f1).toNat + 20 * r.length + 20)
      (fun k' hk' => ih (j + 1) f.f1 k' hd' (by omega) e2 hch' (fun x hx => hg x (List.mem_cons_of_mem _ hx)) hk') (f.f1 - f.f0).toNat f.f0 k (by omega) (by omega) (by omega) (by omega)
    rw [hl, e0, show (f.f1 - at_).toNat + ((c.length : Int) - f.f1).toNat = ((c.length : Int) - at_).toNat by omega]
def checkAll (g : Int → Int) (c : List Int) (fs : List S34) (ts : List S58) : Int × Int :=
  if (c.length : Int) > 4096 ∨ (fs.length : Int) > 256 ∨ (ts.length : Int) > 256 then (0, 2)
  else if (fparts c.length fs.length fs 0 0).2 = false then ((fparts c.length fs.length fs 0 0).1, 81)
  else match ts.findIdx? badTable with
    | some i => ((i : Int), 83)
    | none => fw g c.length 0
theorem check_f (g : Int → Int) (c : List Int) (fs : List S34) (ts : List S58) (hc : ∀ x ∈ c, 0 ≤ x ∧ x < 4294967296) 
    (hg : c.length ≤ 4096 → Chain c.length fs 0 → ∀ f ∈ fs, ∀ i, f.f0 ≤ i → i < f.f1 → g i = W fs.length ts.length (rd c i) f.f0 f.f1 i) (k : Nat) (hk : 20000 ≤ k) : proper_Check.f k c fs ts = some (checkAll g c fs ts) := by
  obtain ⟨k, rfl⟩ : ∃ m, k = m + 1 := ⟨k - 1, by omega⟩
  unfold proper_Check.f checkAll
  simp only [proper_Check.j0]
  by_cases c1 : (c.length : Int) > 4096
  · simp [c1]
  by_cases c2 : (fs.length : Int) > 256
  · simp [c1, c2]
  by_cases c3 : (ts.length : Int) > 256
  · simp [c1, c2, c3]
  rw [if_neg c1, if_neg c2, if_neg (by simpa using c3), if_neg (show ¬ ((c.length : Int) > 4096 ∨ (fs.length : Int) > 256 ∨ (ts.length : Int) > 256) by omega), functions_f c fs ts (by omega) k (by omega)]
  simp only [Option.bind_some]
  cases hp : (fparts c.length fs.length fs 0 0).2 with
  | false => simp
  | true =>
    have hch := chain_of _ _ _ _ _ hp
    simp only [proper_tables.f, Option.bind_some, if_true]
    cases ht : ts.findIdx? badTable with
    | some i => simp [firstOf, ht]; omega
    | none =>
      simp only [firstOf, ht]
      have := check_l0 g c fs ts (by omega) (by omega) hc fs 0 0 k rfl (by omega) (by omega) hch (hg (by omega) hch) (by omega)
      simpa using this
end Go.Proofs.Ytdlikjfffdpmiaa.CProper
set_option linter.unusedVariables false
set_option linter.unusedSimpArgs false
namespace Go.Proofs.Ytdlikjfffdpmiaa.CProper
open Go.RowKit Go.Proofs.Ytdlikjfffdpmiaa.QProper Go.Proofs.YtdlikjfffdpmiaaW.PrintWords Go.Proofs.YtdlikjfffdpmiaaW.PrintLast Go.Proofs.YtdlikjfffdpmiaaW.PrintMore
/-- What the document's parts tell. -/
def told (q : Int × Bool) : Int := if q.2 = true then -1 else q.1
theorem parts_l0 (c : List Int) (fs : List S34) (ts : List S58) (hf : fs.length ≤ 256) : ∀ (r : List S34) (j : Nat) (at_ : Int) (k : Nat), fs.drop j = r → r.length < k →
    rotaref08_parts.l0 k at_ (j : Int) c fs ts = some (told (fparts c.length fs.length r at_ j)) := by
  intro r
  induction r with
  | nil =>
    intro j at_ k hd hk
    obtain ⟨k, rfl⟩ : ∃ m, k = m + 1 := ⟨k - 1, by omega⟩
    have := drop_nil hd
    simp only [rotaref08_parts.l0, fparts]
    rw [if_neg (by omega)]
    by_cases h : (fs.length : Int) = 0
    · rw [if_pos h]; simp [h, told]
    · rw [if_neg h]
      have h' : decide ((0 : Int) < fs.length) = true := decide_eq_true (by omega)
      rw [h', Bool.true_and]
      by_cases h2 : at_ = c.length
      · rw [if_pos h2, decide_eq_true h2]; rfl
      · rw [if_neg h2, decide_eq_false h2]; rfl
  | cons f r ih =>
    intro j at_ k hd hk
    obtain ⟨hj, hr, hd'⟩ := rd34_drop hd
    simp only [List.length_cons] at hk
    obtain ⟨k, rfl⟩ : ∃ m, k = m + 1 := ⟨k - 1, by omega⟩
    have ih' := ih (j + 1) f.f1 k hd' (by omega)
    simp only [rotaref08_parts.l0]
    rw [if_pos (by omega), if_pos (by omega), hr, wrap1 (by omega), ih']
    simp only [fparts]
    by_cases h1 : f.f0 = at_
    · by_cases h2 : f.f1 ≤ f.f0
      · rw [if_pos h1, if_pos h2, if_neg (by omega)]; rfl
      · by_cases h3 : f.f1 > c.length
        · rw [if_pos h1, if_neg h2, if_pos h3, if_neg (by omega)]; rfl
        · rw [if_pos h1, if_neg h2, if_neg h3, if_pos (by omega)]
          simp
    · rw [if_neg h1, if_neg (by omega)]; rfl
theorem parts_f (c : List Int) (fs : List S34) (ts : List S58) (hf : fs.length ≤ 256) (k : Nat) (hk : 257 ≤ k) :
    rotaref08_parts.f k c fs ts = some (told (fparts c.length fs.length fs 0 0)) :=
  parts_l0 c fs ts hf fs 0 0 k rfl (by omega)
theorem rd87_drop {l r : List S87} {s : S87} {i : Nat} (h : l.drop i = s :: r) : i < l.length ∧ rd_T87 l (i : Int) = s ∧ l.drop (i + 1) = r := by
  have hi : i < l.length := by
    rcases Nat.lt_or_ge i l.length with h1 | h1
    · exact h1
    · rw [List.drop_eq_nil_of_le h1] at h; cases h
  rw [List.drop_eq_getElem_cons hi] at h
  injection h with h1 h2
  refine ⟨hi, ?_, h2⟩
  simp [rd_T87, List.getD, List.getElem?_eq_getElem hi, h1]
theorem rd58_drop {l r : List S58} {s : S58} {i : Nat} (h : l.drop i = s :: r) : i < l.length ∧ rd_T58 l (i : Int) = s ∧ l.drop (i + 1) = r := by
  have hi : i < l.length := by
    rcases Nat.lt_or_ge i l.length with h1 | h1
    · exact h1
    · rw [List.drop_eq_nil_of_le h1] at h; cases h
  rw [List.drop_eq_getElem_cons hi] at h
  injection h with h1 h2
  refine ⟨hi, ?_, h2⟩
  simp [rd_T58, List.getD, List.getElem?_eq_getElem hi, h1]
theorem refReg (n : Int) : rotaref08_register.f n = some (reg n) := by
  unfold rotaref08_register.f reg
  by_cases h : 0 ≤ n
  · simp [h]
  · simp [h]
theorem bad_step (f : S87) (q : Bool) :
    ((some (reg f.f1)).bind fun t149 => (if t149 = true then ((some (reg f.f2)).bind fun t150 => (if t150 = true then ((some (reg f.f3)).bind fun t151 => (if t151 = true then (if f.f0 = true then (if f.f3 = 0 then (some (!q)) else (some false)) else (some (!q))) else (some false))) else (some false))) else (some false))) = some (!(badCase f || q)) := by
  obtain ⟨b, x, y, z⟩ := f
  simp only [badCase, Option.bind_some]
  cases reg x
  · rfl
  cases reg y
  · rfl
  cases reg z
  · rfl
  cases b
  · rfl
  by_cases h : z = 0
  · subst h; rfl
  · rw [if_pos rfl, if_pos rfl, if_pos rfl, if_pos rfl, if_neg h, beq_eq_false_iff_ne.mpr h]; rfl
theorem table_l0 (l : List S87) (b : Bool) (hl : l.length ≤ 16) : ∀ (r : List S87) (j : Nat) (k : Nat), l.drop j = r → r.length < k → rotaref08_table.l0 k (j : Int) l b = some (!r.any badCase) := by
  intro r
  induction r with
  | nil =>
    intro j k hd hk
    obtain ⟨k, rfl⟩ : ∃ m, k = m + 1 := ⟨k - 1, by omega⟩
    have := drop_nil hd
    simp only [rotaref08_table.l0]
    rw [if_neg (by omega)]
    rfl
  | cons f r ih =>
    intro j k hd hk
    obtain ⟨hj, hr, hd'⟩ := rd87_drop hd
    simp only [List.length_cons] at hk
    obtain ⟨k, rfl⟩ : ∃ m, k = m + 1 := ⟨k - 1, by omega⟩
    have ih' := ih (j + 1) k hd' (by omega)
    simp only [rotaref08_table.l0]
    rw [if_pos (by omega), if_pos (by omega), hr, wrap1 (by omega), ih']
    simp only [refReg]
    rw [bad_step f (r.any badCase), List.any_cons]
theorem table_f (t : S58) (k : Nat) (hk : 17 ≤ k) : rotaref08_table.f k t.f0 t.f1 = some (!badTable t) := by
  unfold rotaref08_table.f badTable
  by_cases h : (t.f0.length : Int) > 16
  · rw [if_pos h, decide_eq_true h]; rfl
  · rw [if_neg h, decide_eq_false (show ¬ 16 < (t.f0.length : Int) from h), Bool.false_or]
    exact table_l0 t.f0 t.f1 (by omega) t.f0 0 k rfl (by omega)
/-! ### which function a word is of -/
def inn : List S34 → Int → Int → Int
  | [], _, _ => -1
  | f :: r, i, o => if f.f0 ≤ i ∧ i < f.f1 then o else inn r i (o + 1)
theorem inn_is : ∀ (l : List S34) (i o : Int), inn l i o = -1 ∨ ∃ (j : Nat) (f : S34), inn l i o = o + j ∧ l[j]? = some f ∧ f.f0 ≤ i ∧ i < f.f1 := by
  intro l
  induction l with
  | nil => intro i o; exact .inl rfl
  | cons f r ih =>
    intro i o
    simp only [inn]
    by_cases c : f.f0 ≤ i ∧ i < f.f1
    · rw [if_pos c]; exact .inr ⟨0, f, by simp, rfl, c.1, c.2⟩
    · rw [if_neg c]
      rcases ih i (o + 1) with h | ⟨j, g, h, hg, h0, h1⟩
      · exact .inl h
      · exact .inr ⟨j + 1, g, by omega, hg, h0, h1⟩
theorem chain_ge (n : Int) : ∀ (l : List S34) (a : Int), Chain n l a → ∀ f ∈ l, a ≤ f.f0 ∧ f.f0 < f.f1 ∧ f.f1 ≤ n := by
  intro l
  induction l with
  | nil => intro a h f hf; cases hf
  | cons g r ih =>
    intro a h f hf
    obtain ⟨e0, e1, e2, h'⟩ := h
    rcases List.mem_cons.mp hf with rfl | hf
    · omega
    · have := ih _ h' f hf; omega
theorem inn_at (n : Int) : ∀ (l : List S34) (a : Int), Chain n l a → ∀ (j : Nat) (f : S34) (i o : Int), l[j]? = some f → f.f0 ≤ i → i < f.f1 → inn l i o = o + j := by
  intro l
  induction l with
  | nil => intro a h j f i o hj; cases hj
  | cons g r ih =>
    intro a h j f i o hj h0 h1
    obtain ⟨e0, e1, e2, h'⟩ := h
    cases j with
    | zero =>
      simp only [List.getElem?_cons_zero, Option.some.injEq] at hj
      subst hj
      simp only [inn]
      rw [if_pos ⟨h0, h1⟩]; simp
    | succ j =>
      simp only [List.getElem?_cons_succ] at hj
      have hm := List.mem_of_getElem? hj
      have := chain_ge n r _ h' f hm
      simp only [inn]
      rw [if_neg (by omega), ih _ h' j f i (o + 1) hj h0 h1]
      omega
theorem chain_has (n : Int) : ∀ (l : List S34) (a : Int), Chain n l a → ∀ i, a ≤ i → i < n → ∃ (j : Nat) (f : S34), l[j]? = some f ∧ f.f0 ≤ i ∧ i < f.f1 := by
  intro l
  induction l with
  | nil => intro a h i h0 h1; have : a = n := h; omega
  | cons g r ih =>
    intro a h i h0 h1
    obtain ⟨e0, e1, e2, h'⟩ := h
    by_cases c : i < g.f1
    · exact ⟨0, g, rfl, by omega, c⟩
    · obtain ⟨j, f, hj, x, y⟩ := ih _ h' i (by omega) h1
      exact ⟨j + 1, f, hj, x, y⟩
/-- What is wrong with word i. -/
def gW (c : List Int) (fs : List S34) (ts : List S58) (i : Int) : Int :=
  W fs.length ts.length (rd c i) (rd_T34 fs (inn fs i 0)).f0 (rd_T34 fs (inn fs i 0)).f1 i
theorem rd34_at {l : List S34} {j : Nat} {f : S34} (h : l[j]? = some f) : rd_T34 l (j : Int) = f := by
  unfold rd_T34
  rw [List.getD_eq_getElem?_getD, Int.toNat_natCast, h]; rfl
theorem gW_in (c : List Int) (fs : List S34) (ts : List S58) (h : Chain c.length fs 0) : ∀ f ∈ fs, ∀ i, f.f0 ≤ i → i < f.f1 → gW c fs ts i = W fs.length ts.length (rd c i) f.f0 f.f1 i := by
  intro f hf i h0 h1
  obtain ⟨j, hj, e⟩ := List.getElem_of_mem hf
  have hj' : fs[j]? = some f := by rw [List.getElem?_eq_getElem hj, e]
  have := inn_at _ fs 0 h j f i 0 hj' h0 h1
  unfold gW
  rw [this, Int.zero_add, rd34_at hj']
end Go.Proofs.Ytdlikjfffdpmiaa.CProper
set_option linter.unusedVariables false
set_option linter.unusedSimpArgs false
namespace Go.Proofs.Ytdlikjfffdpmiaa.CProper
open Go.RowKit Go.Proofs.Ytdlikjfffdpmiaa.QProper Go.Proofs.YtdlikjfffdpmiaaW.PrintWords Go.Proofs.YtdlikjfffdpmiaaW.PrintLast Go.Proofs.YtdlikjfffdpmiaaW.PrintMore
theorem ite_chk {α : Type} {e : Int} {a b : α} (h : e = 0) : (if e ≠ 0 then a else b) = b := by simp [h]
structure Fine (c : List Int) (fs : List S34) (ts : List S58) : Prop where
  nc : c.length ≤ 4096
  nf : fs.length ≤ 256
  nt : ts.length ≤ 256
  pos : 0 < fs.length
  chain : Chain c.length fs 0
  chk : checkAll (gW c fs ts) c fs ts = (0, 0)
  word : ∀ (j : Nat) (f : S34) (i : Int), fs[j]? = some f → f.f0 ≤ i → i < f.f1 → W fs.length ts.length (rd c i) f.f0 f.f1 i = 0
theorem fw_zero (g : Int → Int) : ∀ (m : Nat) (a : Int), (fw g m a).2 = 0 → fw g m a = (0, 0) ∧ ∀ i, a ≤ i → i < a + m → g i = 0 := by
  intro m
  induction m with
  | zero => intro a _; exact ⟨rfl, fun i h0 h1 => by omega⟩
  | succ m ih =>
    intro a h
    unfold fw at h ⊢
    by_cases hg : g a = 0
    · rw [if_pos hg] at h ⊢
      obtain ⟨h1, h2⟩ := ih _ h
      refine ⟨h1, fun i h0 h3 => ?_⟩
      by_cases e : i = a
      · rw [e]; exact hg
      · exact h2 i (by omega) (by omega)
    · rw [if_neg hg] at h; exact absurd h hg
theorem fparts_len (n tot : Int) : ∀ (r : List S34) (at_ j : Int), (fparts n tot r at_ j).2 = true → 0 < tot := by
  intro r
  induction r with
  | nil => intro at_ j h; simp [fparts] at h; exact h.1
  | cons f r ih =>
    intro at_ j h
    unfold fparts at h
    by_cases c : f.f0 = at_ ∧ at_ < f.f1 ∧ f.f1 ≤ n
    · rw [if_pos c] at h; exact ih _ _ h
    · rw [if_neg c] at h; cases h
theorem fine_of {c : List Int} {fs : List S34} {ts : List S58} (h : (checkAll (gW c fs ts) c fs ts).2 = 0) : checkAll (gW c fs ts) c fs ts = (0, 0) ∧ Fine c fs ts := by
  unfold checkAll at h ⊢
  by_cases c1 : (c.length : Int) > 4096 ∨ (fs.length : Int) > 256 ∨ (ts.length : Int) > 256
  · rw [if_pos c1] at h; exact absurd h (by decide)
  rw [if_neg c1] at h ⊢
  cases hp : (fparts c.length fs.length fs 0 0).2 with
  | false => rw [hp, if_pos rfl] at h; exact absurd h (by simp)
  | true =>
    rw [hp, if_neg (by decide)] at h
    rw [if_neg (by decide)]
    cases ht : ts.findIdx? badTable with
    | some i => rw [ht] at h; exact absurd h (by simp)
    | none =>
      rw [ht] at h
      simp only at h ⊢
      have hch := chain_of _ _ _ _ _ hp
      obtain ⟨h1, h2⟩ := fw_zero _ _ _ h
      refine ⟨h1, by omega, by omega, by omega, by have := fparts_len _ _ _ _ _ hp; omega, hch, ?_, fun j f i hj h0 h3 => ?_⟩
      · unfold checkAll; rw [if_neg c1, hp, if_neg (by decide), ht]; exact h1
      have hf : f ∈ fs := List.mem_of_getElem? hj
      rw [← gW_in c fs ts hch f hf i h0 h3]
      have := chain_ge _ fs 0 hch f hf
      exact h2 i (by omega) (by omega)
theorem W_zero {nf nt x b e i : Int} (h : W nf nt x b e i = 0) :
    (dec x).2.2.2.2.2 = 0 ∧ (jmp (dec x).1 = true → b ≤ (dec x).2.2.2.2.1 ∧ (dec x).2.2.2.2.1 < e) ∧ ((dec x).1 = 20 ∨ (dec x).1 = 22 → (dec x).2.2.2.2.1 < nf) ∧ ((dec x).1 = 34 → (dec x).2.2.2.2.1 < nt) ∧ (i = e - 1 → endo (dec x).1 = true) := by
  unfold W at h
  by_cases h1 : (dec x).2.2.2.2.2 ≠ 0
  · rw [if_pos h1] at h; exact absurd h (by decide)
  rw [if_neg h1] at h
  by_cases h2 : jmp (dec x).1 = true ∧ ((dec x).2.2.2.2.1 < b ∨ (dec x).2.2.2.2.1 ≥ e)
  · rw [if_pos h2] at h; exact absurd h (by decide)
  rw [if_neg h2] at h
  unfold W2 at h
  by_cases h3 : ((dec x).1 = 20 ∨ (dec x).1 = 22) ∧ (dec x).2.2.2.2.1 ≥ nf
  · rw [if_pos h3] at h; exact absurd h (by decide)
  rw [if_neg h3] at h
  by_cases h4 : (dec x).1 = 34 ∧ (dec x).2.2.2.2.1 ≥ nt
  · rw [if_pos h4] at h; exact absurd h (by decide)
  rw [if_neg h4] at h
  by_cases h5 : decide (i = e - 1) = true ∧ endo (dec x).1 = false
  · rw [if_pos h5] at h; exact absurd h (by decide)
  refine ⟨by simpa using h1, fun hj => ?_, fun hc => ?_, fun hc => ?_, fun hc => ?_⟩
  · have : ¬ ((dec x).2.2.2.2.1 < b ∨ (dec x).2.2.2.2.1 ≥ e) := fun hh => h2 ⟨hj, hh⟩
    omega
  · have : ¬ (dec x).2.2.2.2.1 ≥ nf := fun hh => h3 ⟨hc, hh⟩
    omega
  · have : ¬ (dec x).2.2.2.2.1 ≥ nt := fun hh => h4 ⟨hc, hh⟩
    omega
  · cases he : endo (dec x).1 with
    | true => rfl
    | false => exact absurd ⟨decide_eq_true hc, he⟩ h5
/-! ### the function of a word -/
theorem inn_firstIn : ∀ (l : List S34) (i o : Int), inn l i o = match l.findIdx? (inF i) with | some j => o + j | none => -1 := by
  intro l
  induction l with
  | nil => intro i o; rfl
  | cons f r ih =>
    intro i o
    unfold inn
    rw [List.findIdx?_cons]
    by_cases h : f.f0 ≤ i ∧ i < f.f1
    · have : inF i f = true := by simp [inF, h.1, h.2]
      rw [if_pos h, this]; simp
    · have : inF i f = false := by
        unfold inF
        by_cases h0 : f.f0 ≤ i
        · have h1 : ¬ i < f.f1 := fun hh => h ⟨h0, hh⟩
          simp [h0, h1]
        · simp [h0]
      rw [if_neg h, this, ih]
      cases r.findIdx? (inF i) with
      | none => simp
      | some j =>
        have e : ∀ a b : Int, a + 1 + b = a + (b + 1) := fun a b => by omega
        simpa using e o j
theorem firstIn_inn (l : List S34) (i : Int) : firstIn i l = inn l i 0 := by
  rw [inn_firstIn]
  unfold firstIn
  cases l.findIdx? (inF i) with
  | none => rfl
  | some j => simp
theorem inn_out {n : Int} {fs : List S34} (h : Chain n fs 0) {i : Int} (hi : i < 0 ∨ n ≤ i) : inn fs i 0 = -1 := by
  rcases inn_is fs i 0 with h1 | ⟨j, f, _, hj, h0, h1⟩
  · exact h1
  · have := chain_ge n fs 0 h f (List.mem_of_getElem? hj)
    omega
theorem inn_has {n : Int} {fs : List S34} (h : Chain n fs 0) {i : Int} (h0 : 0 ≤ i) (h1 : i < n) : ∃ (j : Nat) (f : S34), inn fs i 0 = j ∧ fs[j]? = some f ∧ f.f0 ≤ i ∧ i < f.f1 := by
  obtain ⟨j, f, hj, h2, h3⟩ := chain_has n fs 0 h i h0 h1
  exact ⟨j, f, by rw [inn_at n fs 0 h j f i 0 hj h2 h3]; omega, hj, h2, h3⟩
theorem in_ok (c : List Int) (fs : List S34) (ts : List S58) (hc : ∀ x ∈ c, 0 ≤ x ∧ x < 4294967296) (at_ : Int) (k : Nat) (hk : 20000 ≤ k) :
    proper_In.f k c fs ts at_ = some (if (checkAll (gW c fs ts) c fs ts).2 ≠ 0 then (0, (checkAll (gW c fs ts) c fs ts).2) else if at_ < 0 ∨ (c.length : Int) ≤ at_ then (0, 1) else (inn fs at_ 0, 0)) := by
  unfold proper_In.f
  rw [check_f (gW c fs ts) c fs ts hc (fun _ h => gW_in c fs ts h) k hk]
  simp only [Option.bind_some]
  by_cases h : (checkAll (gW c fs ts) c fs ts).2 = 0
  · obtain ⟨e, F⟩ := fine_of h
    rw [e]
    simp only [if_true, ne_eq, not_true_eq_false, if_false]
    rw [firstIn_inn]
    by_cases ha : at_ < 0 ∨ (c.length : Int) ≤ at_
    · rw [inn_out F.chain ha]; simp [ha]
    · obtain ⟨j, f, e1, _⟩ := inn_has F.chain (show 0 ≤ at_ by omega) (by omega)
      rw [if_neg ha, e1, if_neg (by omega)]
  · simp [h]
/-! ### where a word goes on -/
def nexts (x i : Int) : List Int :=
  if (dec x).1 = 17 then [(dec x).2.2.2.2.1] else if endo (dec x).1 = true then [] else if jmp (dec x).1 = false ∨ (dec x).2.2.2.2.1 = i + 1 then [i + 1]
  else if (dec x).2.2.2.2.1 < i + 1 then [(dec x).2.2.2.2.1, i + 1] else [i + 1, (dec x).2.2.2.2.1]
theorem nexts_len (x i : Int) : (nexts x i).length ≤ 2 := by
  unfold nexts
  split
  · simp
  · split
    · simp
    · split
      · simp
      · split <;> simp
theorem compact_one (a : Int) : Lib.compact (sorted [a]) = [a] := by simp [sorted, Lib.compact, Lib.compactUpTo, Lib.keeps]
theorem compact_two (a b : Int) : Lib.compact (sorted [a, b]) = if a = b then [a] else if a < b then [a, b] else [b, a] := by
  have hs : sorted [a, b] = if a ≤ b then [a, b] else [b, a] := by
    unfold sorted
    by_cases h : a ≤ b
    · rw [if_pos h]; exact List.mergeSort_of_pairwise (by simp [h])
    · rw [if_neg h]
      have : [a, b].Perm [b, a] := List.Perm.swap _ _ _
      have p := (List.mergeSort_perm [a, b] (fun x y => decide (x ≤ y))).trans this
      refine List.Perm.eq_of_pairwise (le := fun x y : Int => x ≤ y) (fun x y _ _ h1 h2 => Int.le_antisymm h1 h2) ?_ (by simp; omega) p
      have := List.pairwise_mergeSort (le := fun x y : Int => decide (x ≤ y)) (by intro a b c; simp; omega) (by intro a b; simp; omega) [a, b]
      exact this.imp (by simp)
  rw [hs]
  by_cases e : a = b
  · subst e; rw [if_pos rfl, if_pos (Int.le_refl _)]; simp [Lib.compact, Lib.compactUpTo, Lib.keeps, List.range, List.range.loop]
  · by_cases h : a ≤ b
    · rw [if_pos h, if_neg e, if_pos (by omega)]; simp [Lib.compact, Lib.compactUpTo, Lib.keeps, List.range, List.range.loop, show ¬ b = a by omega]
    · rw [if_neg h, if_neg e, if_neg (by omega)]; simp [Lib.compact, Lib.compactUpTo, Lib.keeps, List.range, List.range.loop, e]
theorem next_ok (c : List Int) (fs : List S34) (ts : List S58) (hc : ∀ x ∈ c, 0 ≤ x ∧ x < 4294967296) (hn : c.length ≤ 4096) (i : Int) (h0 : 0 ≤ i) (h1 : i < c.length) (k : Nat) (hk : 9 ≤ k) :
    proper_next.f k c fs ts i = some (nexts (rd c i) i) := by
  have hx : 0 ≤ rd c i ∧ rd c i < 4294967296 := by
    apply hc
    unfold rd
    rw [List.getD_eq_getElem?_getD, List.getElem?_eq_getElem (show i.toNat < c.length by omega)]
    exact List.getElem_mem _
  obtain ⟨k, rfl⟩ : ∃ m, k = m + 9 := ⟨k - 9, by omega⟩
  unfold proper_next.f nexts
  rw [if_pos ⟨h0, h1, by omega⟩, Decode_f k (rd c i) hx.1 hx.2]
  simp only [Option.bind_some, jumps_f, ends_f]
  generalize (dec (rd c i)).1 = op
  generalize (dec (rd c i)).2.2.2.2.1 = imm
  congr 1
  unfold nextL nextB
  by_cases h17 : op = 17
  · subst h17
    have : jmp 17 = true := by decide
    have e2 : endo 17 = true := by decide
    rw [this, e2]; simpa using compact_one imm
  rw [if_neg h17]
  cases he : endo op with
  | true =>
    have : jmp op = false := by
      simp only [endo, jmp, Bool.or_eq_true, decide_eq_true_eq] at he ⊢
      simp only [Bool.or_eq_false_iff, decide_eq_false_iff_not]
      omega
    rw [this]; simp [sorted, Lib.compact, Lib.compactUpTo]
  | false =>
    cases hj : jmp op with
    | false => simpa using compact_one (i + 1)
    | true =>
      simp only [if_true, Bool.false_eq_true, if_false, List.cons_append, List.nil_append, false_or, reduceCtorEq]
      rw [compact_two]
      by_cases e : imm = i + 1
      · rw [if_pos e, if_pos e, e]
      · rw [if_neg e, if_neg e]
end Go.Proofs.Ytdlikjfffdpmiaa.CProper
set_option linter.unusedVariables false
set_option linter.unusedSimpArgs false
namespace Go.Proofs.Ytdlikjfffdpmiaa.CProper
open Go.RowKit Go.Proofs.Ytdlikjfffdpmiaa.QProper Go.Proofs.YtdlikjfffdpmiaaW.PrintWords Go.Proofs.YtdlikjfffdpmiaaW.PrintLast Go.Proofs.YtdlikjfffdpmiaaW.PrintMore
def nextAll (c : List Int) (fs : List S34) (ts : List S58) (at_ : Int) : List Int × Int :=
  if (checkAll (gW c fs ts) c fs ts).2 ≠ 0 then ([], (checkAll (gW c fs ts) c fs ts).2) else if at_ < 0 ∨ (c.length : Int) ≤ at_ then ([], 1) else (nexts (rd c at_) at_, 0)
section
variable (c : List Int) (fs : List S34) (ts : List S58) (hc : ∀ x ∈ c, 0 ≤ x ∧ x < 4294967296) (at_ : Int) (k : Nat) (hk : 20000 ≤ k)
include hc hk
theorem Next_ok : proper_Next.f k c fs ts at_ = some (nextAll c fs ts at_) := by
  unfold proper_Next.f nextAll
  rw [in_ok c fs ts hc at_ k hk]
  simp only [Option.bind_some]
  by_cases h : (checkAll (gW c fs ts) c fs ts).2 = 0
  · obtain ⟨e, F⟩ := fine_of h
    rw [ite_chk h, ite_chk h]
    by_cases h1 : at_ < 0 ∨ (c.length : Int) ≤ at_
    · rw [if_pos h1, if_pos h1]; rfl
    · rw [if_neg h1, if_neg h1, if_pos rfl, next_ok c fs ts hc F.nc at_ (by omega) (by omega) k (by omega)]; rfl
  · rw [if_pos h, if_pos h, if_neg h]
end
theorem nextAll_len (c : List Int) (fs : List S34) (ts : List S58) (at_ : Int) : (nextAll c fs ts at_).1.length ≤ 2 := by
  unfold nextAll
  split
  · simp
  · split
    · simp
    · exact nexts_len _ _
end Go.Proofs.Ytdlikjfffdpmiaa.CProper

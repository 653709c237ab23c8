/- In and Next of the program and of the document, plain. Conditions: the words are uint32. -/
import Derived.Test.YtdlikjfffdpmiaaProperCNA
import Derived.Test.YtdlikjfffdpmiaaProperCW2
import Derived.Test.YtdlikjfffdpmiaaQProperx28
import Derived.Test.YtdlikjfffdpmiaaQProperx32
import Derived.Test.YtdlikjfffdpmiaaQProperx33
set_option linter.unusedVariables false
set_option linter.unusedSimpArgs false
namespace Go.Proofs.Ytdlikjfffdpmiaa.CProper
open Go.RowKit Go.Proofs.Ytdlikjfffdpmiaa.QProper Go.Proofs.YtdlikjfffdpmiaaW.PrintWords Go.Proofs.YtdlikjfffdpmiaaW.PrintLast Go.Proofs.YtdlikjfffdpmiaaW.PrintMore

section
variable (c : List Int) (fs : List S34) (ts : List S58) (hc : ∀ x ∈ c, 0 ≤ x ∧ x < 4294967296) (at_ : Int) (k : Nat) (hk : 20000 ≤ k)
include hc hk
theorem looked_ok (m : Int) : rotaref08_looked.f k c fs ts at_ m = some (if (checkAll (gW c fs ts) c fs ts).2 ≠ 0 then (checkAll (gW c fs ts) c fs ts).2 else if at_ < 0 ∨ m ≤ at_ then 1 else 0) := by
  unfold rotaref08_looked.f
  rw [refCheck_f c fs ts hc k hk]
  simp only [Option.bind_some]
  by_cases h : (checkAll (gW c fs ts) c fs ts).2 = 0
  · rw [if_pos h, ite_chk h]
    by_cases h1 : at_ < 0
    · rw [if_pos h1, if_pos (Or.inl h1)]
    · by_cases h2 : at_ ≥ m
      · rw [if_neg h1, if_pos h2, if_pos (Or.inr h2)]
      · rw [if_neg h1, if_neg h2, if_neg (by omega)]
  · rw [if_neg h, if_pos h]
theorem refIn_ok : rotaref08_In.f k c fs ts at_ = some (if (checkAll (gW c fs ts) c fs ts).2 ≠ 0 then (0, (checkAll (gW c fs ts) c fs ts).2) else if at_ < 0 ∨ (c.length : Int) ≤ at_ then (0, 1) else (inn fs at_ 0, 0)) := by
  unfold rotaref08_In.f
  rw [looked_ok c fs ts hc at_ k hk]
  simp only [Option.bind_some]
  by_cases h : (checkAll (gW c fs ts) c fs ts).2 = 0
  · obtain ⟨e, F⟩ := fine_of h
    rw [ite_chk h, ite_chk h]
    by_cases h1 : at_ < 0 ∨ (c.length : Int) ≤ at_
    · rw [if_pos h1, if_pos h1, if_neg (by decide)]
    · rw [if_neg h1, if_neg h1, if_pos rfl, in_f c fs ts F.nf at_ k (by omega)]; rfl
  · rw [if_pos h, if_pos h, if_neg h]
theorem refnext_ok (hn : c.length ≤ 4096) (h0 : 0 ≤ at_) (h1 : at_ < c.length) : rotaref08_next.f k c fs ts at_ = some (nexts (rd c at_) at_) := by
  have hx := rd_word hc h0 h1
  obtain ⟨k, rfl⟩ : ∃ m, k = m + 1 := ⟨k - 1, by omega⟩
  have hw : wrap64 (at_ + 1) = at_ + 1 := IntWalk.wrap64_in _ (by omega)
  unfold rotaref08_next.f nexts
  rw [if_pos h0, if_pos h1, refDecode_f k (rd c at_) hx.1 hx.2]
  simp only [Option.bind_some, refJumps_f, refEnds_f, rotaref08_next.j0, hw]
  generalize (dec (rd c at_)).1 = op
  generalize (dec (rd c at_)).2.2.2.2.1 = imm
  by_cases h17 : op = 17
  · rw [if_pos h17, if_pos h17]
  rw [if_neg h17, if_neg h17]
  cases endo op with
  | true => rfl
  | false =>
    cases jmp op with
    | false => simp
    | true =>
      by_cases e : imm = at_ + 1
      · simp [e]
      · by_cases hl : imm < at_ + 1
        · simp [e, hl]
        · simp [e, hl]
theorem refNext_ok : rotaref08_Next.f k c fs ts at_ = some (nextAll c fs ts at_) := by
  unfold rotaref08_Next.f nextAll
  rw [looked_ok c fs ts hc at_ k hk]
  simp only [Option.bind_some]
  by_cases h : (checkAll (gW c fs ts) c fs ts).2 = 0
  · obtain ⟨e, F⟩ := fine_of h
    rw [ite_chk h, ite_chk h]
    by_cases h1 : at_ < 0 ∨ (c.length : Int) ≤ at_
    · rw [if_pos h1, if_pos h1]; rfl
    · rw [if_neg h1, if_neg h1, if_pos rfl, refnext_ok c fs ts hc at_ k hk F.nc (by omega) (by omega)]; rfl
  · rw [if_pos h, if_pos h, if_neg h]
end
theorem same_l0 (l : List Int) (hl : (l.length : Int) < 9223372036854775807) : ∀ (d j k : Nat), l.length - j = d → d < k → rotalaw08_sameInts.l0 k l l (j : Int) = some true := by
  intro d
  induction d with
  | zero =>
    intro j k hd hk
    obtain ⟨k, rfl⟩ : ∃ m, k = m + 1 := ⟨k - 1, by omega⟩
    simp only [rotalaw08_sameInts.l0]
    rw [if_neg (by omega)]
  | succ d ih =>
    intro j k hd hk
    obtain ⟨k, rfl⟩ : ∃ m, k = m + 1 := ⟨k - 1, by omega⟩
    simp only [rotalaw08_sameInts.l0]
    rw [if_pos (by omega), if_pos (by omega), if_pos (by omega), if_pos trivial, wrap1 (by omega)]
    exact ih (j + 1) k (by omega) (by omega)
theorem same_ok (l : List Int) (hl : (l.length : Int) < 9223372036854775807) (k : Nat) (hk : l.length < k) : rotalaw08_sameInts.f k l l = some true := by
  unfold rotalaw08_sameInts.f
  rw [if_pos rfl]
  exact same_l0 l hl l.length 0 k (by omega) (by omega)
end Go.Proofs.Ytdlikjfffdpmiaa.CProper

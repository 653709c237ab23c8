/- Next of the program, plain. Conditions: the words are uint32. -/
import Derived.Test.YtdlikjfffdpmiaaProperCF
import Derived.Test.YtdlikjfffdpmiaaQProperx30
set_option linter.unusedVariables false
set_option linter.unusedSimpArgs false
namespace Go.Proofs.Ytdlikjfffdpmiaa.CProper
open Go.RowKit Go.Proofs.Ytdlikjfffdpmiaa.QProper Go.Proofs.YtdlikjfffdpmiaaW.PrintWords Go.Proofs.YtdlikjfffdpmiaaW.PrintLast Go.Proofs.YtdlikjfffdpmiaaW.PrintMore

def nextAll (c : List Int) (fs : List S34) (ts : List S58) (at_ : Int) : List Int × Int :=
  if (checkAll (gW c fs ts) c fs ts).2 ≠ 0 then ([], (checkAll (gW c fs ts) c fs ts).2) else if at_ < 0 ∨ (c.length : Int) ≤ at_ then ([], 1) else (nexts (rd c at_) at_, 0)
section
variable (c : List Int) (fs : List S34) (ts : List S58) (hc : ∀ x ∈ c, 0 ≤ x ∧ x < 4294967296) (at_ : Int) (k : Nat) (hk : 20000 ≤ k)
include hc hk
theorem Next_ok : proper_Next.f k c fs ts at_ = some (nextAll c fs ts at_) := by
  unfold proper_Next.f nextAll
  rw [in_ok c fs ts hc at_ k hk]
  simp only [Option.bind_some]
  by_cases h : (checkAll (gW c fs ts) c fs ts).2 = 0
  · obtain ⟨e, F⟩ := fine_of h
    rw [ite_chk h, ite_chk h]
    by_cases h1 : at_ < 0 ∨ (c.length : Int) ≤ at_
    · rw [if_pos h1, if_pos h1]; rfl
    · rw [if_neg h1, if_neg h1, if_pos rfl, next_ok c fs ts hc F.nc at_ (by omega) (by omega) k (by omega)]; rfl
  · rw [if_pos h, if_pos h, if_neg h]
end
theorem nextAll_len (c : List Int) (fs : List S34) (ts : List S58) (at_ : Int) : (nextAll c fs ts at_).1.length ≤ 2 := by
  unfold nextAll
  split
  · simp
  · split
    · simp
    · exact nexts_len _ _
end Go.Proofs.Ytdlikjfffdpmiaa.CProper

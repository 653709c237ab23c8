/- Share as plain numbers: no sum goes round, for a table that may be.
   Conditions: the table's numbers are of their kinds. -/
import Derived.Test.YtiacikmignjdoaaTableAddsN
import Derived.Test.YtiacikmignjdoaaTableAddsSh
set_option linter.unusedVariables false
set_option linter.unusedSimpArgs false
namespace Go.Proofs.Ytiacikmignjdoaa.CTableAdds
open Go.RowKit Go.Proofs.Ytiacikmignjdoaa.QTableAdds Go.Proofs.Ytiacikmignjdoaa.KTableAdds Go.Proofs.YtiacikmignjdoaaW.PrintWords Go.Proofs.YtiacikmignjdoaaW.PrintLast Go.Proofs.Ytiacikmignjdoaa.Kin

/-- The ticks of a slot, its pad left out, if it is the domain's. -/
def netN (d : Int) (s : S48) : Nat := if s.f0 = d then (s.f1.f1 - s.f2).toNat else 0
def lenN (d : Int) (s : S48) : Nat := if s.f0 = d then s.f1.f1.toNat else 0
/-- What a domain has in all. -/
def shareN (d : Int) (ls : List (List S48)) : Nat := (ls.map (sumN (netN d))).sum

theorem sumN_append (w : S48 → Nat) (a b : List S48) : sumN w (a ++ b) = sumN w a + sumN w b := by simp [sumN]
theorem sumN_flatten (w : S48 → Nat) : ∀ ls : List (List S48), sumN w ls.flatten = (ls.map (sumN w)).sum
  | [] => rfl
  | l :: r => by simp [sumN_append, sumN_flatten w r]
theorem sumN_filter (d : Int) (w : S48 → Nat) : ∀ l : List S48, sumN w (l.filter (fun s => s.f0 == d)) = sumN (fun s => if s.f0 = d then w s else 0) l
  | [] => rfl
  | s :: r => by
    have ih := sumN_filter d w r
    by_cases h : s.f0 = d
    · simp [List.filter_cons, h]
      simp only [sumN, List.map_cons, List.sum_cons] at ih ⊢
      simp [ih, h]
    · simp [List.filter_cons, h]
      simp only [sumN, List.map_cons, List.sum_cons] at ih ⊢
      simp [ih, h]

theorem sumW_from : ∀ (l : List S48) (a : Int), (∀ s ∈ l, 0 ≤ s.f2 ∧ s.f2 < s.f1.f1 ∧ s.f1.f1 ≤ 65536) → 0 ≤ a → a + (sumN (fun s => (s.f1.f1 - s.f2).toNat) l : Int) ≤ 18446744073709551615 →
    l.foldl (fun a s => IntKind.u64.wrap (a + IntKind.u64.wrap (s.f1.f1 - s.f2))) a = a + (sumN (fun s => (s.f1.f1 - s.f2).toNat) l : Int)
  | [], a, _, _, _ => by simp [sumN]
  | s :: r, a, h, ha, hb => by
    have hs := h s List.mem_cons_self
    have e : (sumN (fun s => (s.f1.f1 - s.f2).toNat) (s :: r) : Int) = (s.f1.f1 - s.f2) + (sumN (fun s => (s.f1.f1 - s.f2).toNat) r : Int) := by
      simp only [sumN, List.map_cons, List.sum_cons]
      omega
    rw [e] at hb ⊢
    simp only [List.foldl_cons]
    rw [IntWalk.u64_in (s.f1.f1 - s.f2) (by omega), IntWalk.u64_in _ (by omega), sumW_from r _ (fun x hx => h x (List.mem_cons_of_mem _ hx)) (by omega) (by omega)]
    omega

theorem sum_le (F : Int) (w : List S48 → Nat) : ∀ (ls : List (List S48)), (∀ l ∈ ls, (w l : Int) ≤ F) → 0 ≤ F → ((ls.map w).sum : Int) ≤ ls.length * F
  | [], _, _ => by simp
  | l :: r, h, hF => by
    have ih := sum_le F w r (fun x hx => h x (List.mem_cons_of_mem _ hx)) hF
    have h1 := h l List.mem_cons_self
    simp only [List.map_cons, List.sum_cons, List.length_cons]
    have e : ((r.length + 1 : Nat) : Int) * F = r.length * F + F := by rw [show ((r.length + 1 : Nat) : Int) = (r.length : Int) + 1 by omega, Int.add_mul, Int.one_mul]
    rw [e]
    omega

theorem netN_le (d : Int) (s : S48) (h : 0 ≤ s.f2) : netN d s ≤ s.f1.f1.toNat := by unfold netN; split <;> omega

theorem share_le {F : Int} {ls : List (List S48)} (ho : OkT F 16 ls) (hg : ∀ l ∈ ls, ∀ s ∈ l, G48 s) (d : Int) : (shareN d ls : Int) ≤ ls.length * F := by
  have hfr := ho.fr
  refine sum_le F _ ls (fun l hl => ?_) (by omega)
  have h := sumN_le (F := F) (dom := 16) (fun s => if 0 ≤ s.f2 then netN d s else 0) (fun s => by split <;> first | (rename_i h; exact netN_le d s h) | omega) l 0 (by omega) (by omega) (ho.p l hl).2
  have e : sumN (netN d) l = sumN (fun s => if 0 ≤ s.f2 then netN d s else 0) l := sumN_congr (fun s hs => by rw [if_pos (hg l hl s hs).2.2.2.1])
  omega

theorem sumW_eq {F : Int} {ls : List (List S48)} (ho : OkT F 16 ls) (hg : ∀ l ∈ ls, ∀ s ∈ l, G48 s) (d : Int) : sumW (ofDom d ls) = (shareN d ls : Int) := by
  have hfr := ho.fr
  have hn := ho.n
  have hle := share_le ho hg d
  have e : sumN (fun s => (s.f1.f1 - s.f2).toNat) (ofDom d ls) = shareN d ls := by
    unfold ofDom shareN
    rw [sumN_filter, sumN_flatten]
    rfl
  have hm : (ls.length : Int) * F ≤ 64 * 65536 := by
    have h1 : (ls.length : Int) * F ≤ 64 * F := Int.mul_le_mul_of_nonneg_right (by omega) (by omega)
    omega
  unfold sumW
  rw [sumW_from (ofDom d ls) 0 (fun s hs => ?_) (by omega) (by rw [e]; omega), e]
  · omega
  · obtain ⟨hs1, _⟩ := List.mem_filter.1 hs
    obtain ⟨l, hl, hs2⟩ := List.mem_flatten.1 hs1
    have h1 := okProc_each (Int.le_refl 0) (ho.p l hl).2 s hs2
    have h2 := (hg l hl s hs2).2.2.2.1
    omega

theorem share_f (F : Int) (ls : List (List S48)) (hg : ∀ l ∈ ls, ∀ s ∈ l, G48 s) (d : Int) (k : Nat) (hk : 4000 ≤ k) : table_Share.f k F ls d = some (if mayS F ls 0 d = 0 then ((shareN d ls : Int), 0) else (0, mayS F ls 0 d)) := by
  unfold table_Share.f
  rw [may_f F ls hg 0 d k hk]
  simp only [Option.bind_some]
  by_cases c : mayS F ls 0 d = 0
  · obtain ⟨ho, _⟩ := may_ok c
    rw [if_pos c, if_pos c, sumW_eq ho hg d]
  · rw [if_neg c, if_neg c]
end Go.Proofs.Ytiacikmignjdoaa.CTableAdds

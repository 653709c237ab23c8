/- The document's Owner, Left, Ends over a table: by the same slot of the P's list.
   Conditions: the table's numbers are of their kinds. -/
import Derived.Test.YtiacikmignjdoaaTableSuppliesT
import Derived.Test.YtiacikmignjdoaaTableSuppliesR
set_option linter.unusedVariables false
set_option linter.unusedSimpArgs false
namespace Go.Proofs.Ytiacikmignjdoaa.CTableSupplies
open Go.RowKit Go.Proofs.Ytiacikmignjdoaa.QTableSupplies Go.Proofs.YtiacikmignjdoaaW.PrintWords Go.Proofs.YtiacikmignjdoaaW.PrintLast Go.Proofs.Ytiacikmignjdoaa.Kin

theorem looked_f (F : Int) (ls : List (List S48)) (hg : ∀ l ∈ ls, ∀ s ∈ l, G48 s) (n many : Int) (k : Nat) (hk : 140000 ≤ k) : rotaref16_looked.f k F ls n many = some (if (checkS F 16 ls).2.2 = 0 then (if n < 0 ∨ n ≥ many then 1 else 0) else (checkS F 16 ls).2.2) := by
  unfold rotaref16_looked.f
  rw [refCheck_f F 16 ls hg k hk]
  simp only [Option.bind_some]
  by_cases c : (checkS F 16 ls).2.2 = 0
  · rw [if_pos c, if_pos c]
    by_cases c1 : n < 0
    · simp [c1]
    by_cases c2 : n ≥ many
    · simp [c2]
    rw [if_neg c1, if_neg c2, if_neg (by omega)]
  · rw [if_neg c, if_neg c]

theorem looked_p (F : Int) (ls : List (List S48)) (hg : ∀ l ∈ ls, ∀ s ∈ l, G48 s) (p : Int) (k : Nat) (hk : 140000 ≤ k) : rotaref16_looked.f k F ls p (ls.length : Int) = some (mayS F ls p 0) := by
  rw [looked_f F ls hg p _ k hk]
  unfold mayS
  congr 2
  by_cases c : p < 0 ∨ p ≥ (ls.length : Int)
  · rw [if_pos c, if_pos (by omega)]
  · rw [if_neg c, if_neg (by omega)]

def refOut (pl : Int) (l : List S48) : Int × Int × Int × Int × Bool :=
  match slotL pl l with
  | some s => (s.f0, s.f1.f0, s.f1.f1, s.f2, true)
  | none => (0, 0, 0, 0, false)

theorem refSlot_l0 (F pl : Int) (hF : 1 ≤ F ∧ F ≤ 65536) (ls : List (List S48)) (p : Int) (h0 : 0 ≤ p) (h1 : p < ls.length) (hl : (proc ls p).length ≤ 1024) : ∀ (r : List S48) (i : Nat) (e : Int) (k : Nat), (∀ s ∈ r, G48 s) → okProc F 16 e r → (proc ls p).drop i = r → r.length < k →
    rotaref16_slot.l0 k p pl (i : Int) F ls = some (refOut pl r) := by
  intro r
  induction r with
  | nil =>
    intro i e k hg ho hd hk
    obtain ⟨k, rfl⟩ : ∃ m, k = m + 1 := ⟨k - 1, by omega⟩
    have := drop_nil hd
    simp only [rotaref16_slot.l0]
    rw [if_pos h0, if_pos h1, show rd_L4 ls p = proc ls p from rfl, if_neg (show ¬ (i : Int) < ((proc ls p).length : Int) by omega)]
    rfl
  | cons s r ih =>
    intro i e k hg ho hd hk
    obtain ⟨hi, hr, hd'⟩ := rd_drop hd
    simp only [List.length_cons] at hk
    obtain ⟨k, rfl⟩ : ∃ m, k = m + 1 := ⟨k - 1, by omega⟩
    obtain ⟨g0, g1, g2, g3⟩ := hg s List.mem_cons_self
    obtain ⟨o1, o2, o3, o4⟩ := ho
    have ih' := ih (i + 1) _ k (fun x hx => hg x (List.mem_cons_of_mem _ hx)) o4 hd' (by omega)
    simp only [rotaref16_slot.l0]
    rw [if_pos h0, if_pos h1, show rd_L4 ls p = proc ls p from rfl, if_pos (show (i : Int) < ((proc ls p).length : Int) by omega), if_pos (show 0 ≤ (i : Int) by omega), hr, IntWalk.u64_in (s.f1.f0 + s.f1.f1) (by omega), wrap1 (by omega), ih']
    by_cases c1 : pl ≥ s.f1.f0
    · by_cases c2 : pl < s.f1.f0 + s.f1.f1
      · have ha : at_ pl s = true := by simp [at_]; omega
        rw [if_pos c1, if_pos c2]
        simp [refOut, slotL, List.find?_cons, ha]
      · have ha : at_ pl s = false := decide_eq_false (by omega)
        rw [if_pos c1, if_neg c2]
        simp [refOut, slotL, List.find?_cons, ha]
    · have ha : at_ pl s = false := decide_eq_false (by omega)
      rw [if_neg c1]
      simp [refOut, slotL, List.find?_cons, ha]

theorem refSlot_f (t F : Int) (ls : List (List S48)) (ht : 0 ≤ t) (ho : OkT F 16 ls) (hg : ∀ l ∈ ls, ∀ s ∈ l, G48 s) (p : Int) (h0 : 0 ≤ p) (h1 : p < ls.length) (k : Nat) (hk : 1025 ≤ k) : rotaref16_slot.f k F ls t p = some (refOut (t % F) (proc ls p)) := by
  have hm := proc_mem h0 h1
  have hF := ho.fr
  unfold rotaref16_slot.f
  rw [if_neg (by omega), Int.tmod_eq_emod_of_nonneg ht]
  obtain ⟨hl, hp⟩ := ho.p _ hm
  exact refSlot_l0 F (t % F) ho.fr ls p h0 h1 hl (proc ls p) 0 0 k (hg _ hm) hp rfl (by omega)
end Go.Proofs.Ytiacikmignjdoaa.CTableSupplies

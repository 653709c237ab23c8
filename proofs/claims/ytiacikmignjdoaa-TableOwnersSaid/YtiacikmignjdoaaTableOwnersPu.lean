/- TableOwners, of plain numbers and lists: the program's Owner, Left and Ends tell what the document's do. Conditions: none. -/
import Derived.Test.YtiacikmignjdoaaTableOwnersS
import Derived.Test.YtiacikmignjdoaaTableOwnersO
set_option linter.unusedVariables false
set_option linter.unusedSimpArgs false
namespace Go.Proofs.Ytiacikmignjdoaa.STableOwners
open Go.RowKit Go.Proofs.Ytiacikmignjdoaa.PTableOwners Go.Proofs.YtiacikmignjdoaaW.PrintWords Go.Proofs.YtiacikmignjdoaaW.PrintLast Go.Proofs.Ytiacikmignjdoaa.Kin Go.Proofs.Ytiacikmignjdoaa.CTableOwners

theorem good {s : S48} (h : W48 s) : G48 s := ⟨wf_i64 h.1, wf_u64 h.2.1.1, wf_u64 h.2.1.2, (wf_u64 h.2.2).1, (wf_u64 h.2.2).2⟩

theorem awake {k : Nat} (hk : 30 ≤ k) : rotalaw16_awake.f k = some true :=
  at_rounds (g := rotalaw16_awake.f) rotalaw16_awake.mono hk (by decide +kernel)

def endS (F : Int) (ls : List (List S48)) (t p : Int) : Bool := match slotL (t % F) (proc ls p) with | some s => s.f1.f0 + s.f1.f1 - t % F == 1 | none => false

variable {F : Int} {ls : List (List S48)} (hg : ∀ l ∈ ls, ∀ s ∈ l, G48 s) {t p : Int} (ht : 0 ≤ t) {k : Nat} (hk : 140000 ≤ k)
include hg ht hk

theorem ends_f : table_Ends.f k F ls t p = some (if mayS F ls p 0 = 0 then (endS F ls t p, 0) else (false, mayS F ls p 0)) := by
  unfold table_Ends.f
  rw [may_f F ls hg p 0 k (by omega)]
  simp only [Option.bind_some]
  by_cases c : mayS F ls p 0 = 0
  · obtain ⟨ho, h0, h1, _⟩ := may_ok c
    rw [if_pos c, if_pos c, slot_f t F ls ht ho hg p h0 h1 k (by omega)]
    unfold slotOut endS
    cases slotL (t % F) (proc ls p) <;> simp
  · rw [if_neg c, if_neg c]

theorem refOwner_f : rotaref16_Owner.f k F ls t p = some (if mayS F ls p 0 = 0 then (ownS F ls t p, 0) else (0, mayS F ls p 0)) := by
  unfold rotaref16_Owner.f
  rw [looked_p F ls hg p k (by omega)]
  simp only [Option.bind_some]
  by_cases c : mayS F ls p 0 = 0
  · obtain ⟨ho, h0, h1, _⟩ := may_ok c
    rw [if_pos c, if_pos c, refSlot_f t F ls ht ho hg p h0 h1 k (by omega)]
    unfold refOut ownS
    cases slotL (t % F) (proc ls p) <;> simp
  · rw [if_neg c, if_neg c]

theorem refLeft_f : rotaref16_Left.f k F ls t p = some (if mayS F ls p 0 = 0 then (leftS F ls t p, 0) else (0, mayS F ls p 0)) := by
  unfold rotaref16_Left.f
  rw [looked_p F ls hg p k (by omega)]
  simp only [Option.bind_some]
  by_cases c : mayS F ls p 0 = 0
  · obtain ⟨ho, h0, h1, _⟩ := may_ok c
    rw [if_pos c, if_pos c, refSlot_f t F ls ht ho hg p h0 h1 k (by omega)]
    unfold refOut leftS
    have hm := proc_mem h0 h1
    cases hs : slotL (t % F) (proc ls p) with
    | none => simp
    | some s =>
      obtain ⟨_, ⟨g0, g1, g2, g3⟩, o1, _, o2⟩ := find_ok (ho.p _ hm).2 (hg _ hm) hs
      have hF := ho.fr
      simp only [Option.bind_some, if_true]
      rw [if_neg (show ¬ F = 0 by omega), Int.tmod_eq_emod_of_nonneg ht, IntWalk.u64_in (s.f1.f0 + s.f1.f1) (by omega), IntWalk.u64_in (s.f1.f0 + s.f1.f1 - s.f2) (by omega)]
      by_cases c2 : t % F ≥ s.f1.f0 + s.f1.f1 - s.f2
      · rw [if_pos c2]; congr 2; omega
      · rw [if_neg c2, IntWalk.u64_in _ (by omega)]; congr 2; omega
  · rw [if_neg c, if_neg c]

theorem refEnds_f : rotaref16_Ends.f k F ls t p = some (if mayS F ls p 0 = 0 then (endS F ls t p, 0) else (false, mayS F ls p 0)) := by
  unfold rotaref16_Ends.f
  rw [looked_p F ls hg p k (by omega)]
  simp only [Option.bind_some]
  by_cases c : mayS F ls p 0 = 0
  · obtain ⟨ho, h0, h1, _⟩ := may_ok c
    rw [if_pos c, if_pos c, refSlot_f t F ls ht ho hg p h0 h1 k (by omega)]
    unfold refOut endS
    have hm := proc_mem h0 h1
    cases hs : slotL (t % F) (proc ls p) with
    | none => simp
    | some s =>
      obtain ⟨_, ⟨g0, g1, g2, g3⟩, o1, _, o2⟩ := find_ok (ho.p _ hm).2 (hg _ hm) hs
      have hF := ho.fr
      simp only [Option.bind_some, if_true]
      rw [if_neg (show ¬ F = 0 by omega), Int.tmod_eq_emod_of_nonneg ht, IntWalk.u64_in (s.f1.f0 + s.f1.f1) (by omega), IntWalk.u64_in (s.f1.f0 + s.f1.f1 - 1) (by omega)]
      congr 2
      rw [Bool.eq_iff_iff, beq_iff_eq, beq_iff_eq]
      omega
  · rw [if_neg c, if_neg c]
omit hg ht hk

theorem pure : Pure := by
  intro F ls t p d hF hl ht hp hd
  have hg : ∀ l ∈ ls, ∀ s ∈ l, G48 s := fun l hl' s hs => good ((hl.2 l hl').2 s hs)
  have ht' := (wf_u64 ht).1
  refine ⟨200000, ?_⟩
  unfold rotalaw16_TableOwners.f
  rw [owner_f F ls hg t p ht' _ (by omega), refOwner_f hg ht' (by omega), left_f F ls hg t p ht' _ (by omega), refLeft_f hg ht' (by omega), ends_f hg ht' (by omega), refEnds_f hg ht' (by omega), awake (by omega)]
  simp
end Go.Proofs.Ytiacikmignjdoaa.STableOwners

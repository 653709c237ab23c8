/- TableCounts, of plain numbers and lists: going over a frame, a domain owns a P as many ticks as its windows there are long, runs as many as Share tells, and a slot's ticks but its pad are left one by one. Conditions: none. -/
import Derived.Test.YtiacikmignjdoaaTableCountsS
import Derived.Test.YtiacikmignjdoaaTableCountsHs
set_option linter.unusedVariables false
set_option linter.unusedSimpArgs false
set_option linter.unusedSectionVars false
namespace Go.Proofs.Ytiacikmignjdoaa.STableCounts
open Go.RowKit Go.Proofs.Ytiacikmignjdoaa.QTableCounts Go.Proofs.Ytiacikmignjdoaa.KTableCounts Go.Proofs.YtiacikmignjdoaaW.PrintWords Go.Proofs.YtiacikmignjdoaaW.PrintLast Go.Proofs.Ytiacikmignjdoaa.Kin Go.Proofs.Ytiacikmignjdoaa.CTableCounts

theorem good {s : S48} (h : W48 s) : G48 s := ⟨wf_i64 h.1, wf_u64 h.2.1.1, wf_u64 h.2.1.2, (wf_u64 h.2.2).1, (wf_u64 h.2.2).2⟩

theorem awake {k : Nat} (hk : 30 ≤ k) : rotalaw16_awake.f k = some true :=
  at_rounds (g := rotalaw16_awake.f) rotalaw16_awake.mono hk (by decide +kernel)

section
variable {F : Int} {ls : List (List S48)} (ho : OkT F 16 ls) (hg : ∀ l ∈ ls, ∀ s ∈ l, G48 s)
include ho hg

/-- The slots of a P, one by one: what is wanted. -/
theorem counts_l2 (d share runs : Int) (p : Int) (h0 : 0 ≤ p) (h1 : p < ls.length) (owned : Int) : ∀ (r : List S48) (i : Nat) (want : Int) (k : Nat), (proc ls p).drop i = r → r.length < k → 0 ≤ want → want + (sumN (lenN d) r : Int) ≤ 18446744073709551615 →
    rotalaw16_TableCounts.l2 k d share runs p owned want (i : Int) F ls = if owned = want + (sumN (lenN d) r : Int) then rotalaw16_TableCounts.l0 (k - (r.length + 1)) d share runs (wrap64 (p + 1)) F ls else some false := by
  have hm := proc_mem h0 h1
  have hl := (ho.p _ hm).1
  intro r
  induction r with
  | nil =>
    intro i want k hd hk hw hb
    obtain ⟨k, rfl⟩ : ∃ m, k = m + 1 := ⟨k - 1, by omega⟩
    have := drop_nil hd
    simp only [rotalaw16_TableCounts.l2]
    rw [if_pos h0, if_pos h1, show rd_L4 ls p = proc ls p from rfl, if_neg (show ¬ (i : Int) < ((proc ls p).length : Int) by omega)]
    simp [sumN]
  | cons s r ih =>
    intro i want k hd hk hw hb
    obtain ⟨hi, hr, hd'⟩ := rd_drop hd
    simp only [List.length_cons] at hk
    obtain ⟨k, rfl⟩ : ∃ m, k = m + 1 := ⟨k - 1, by omega⟩
    have hs : s ∈ proc ls p := List.mem_of_mem_drop (by rw [hd]; exact List.mem_cons_self)
    have hsn := okProc_each (Int.le_refl 0) (ho.p _ hm).2 s hs
    have e : (sumN (lenN d) (s :: r) : Int) = (lenN d s : Int) + (sumN (lenN d) r : Int) := by simp [sumN]
    rw [e] at hb ⊢
    simp only [rotalaw16_TableCounts.l2]
    rw [if_pos h0, if_pos h1, show rd_L4 ls p = proc ls p from rfl, if_pos (show (i : Int) < ((proc ls p).length : Int) by omega), if_pos (show 0 ≤ (i : Int) by omega), hr, wrap1 (show (i : Int) < 9223372036854775807 by omega)]
    have hk' : k + 1 - ((s :: r).length + 1) = k - (r.length + 1) := by simp
    rw [hk']
    by_cases c : s.f0 = d
    · have hL : (lenN d s : Int) = s.f1.f1 := by unfold lenN; rw [if_pos c]; omega
      rw [hL] at hb ⊢
      rw [if_pos c, IntWalk.u64_in _ (show 0 ≤ want + s.f1.f1 ∧ want + s.f1.f1 ≤ 18446744073709551615 by omega), ih (i + 1) (want + s.f1.f1) k hd' (by omega) (by omega) (by omega)]
      rw [show want + s.f1.f1 + (sumN (lenN d) r : Int) = want + (s.f1.f1 + (sumN (lenN d) r : Int)) by omega]
    · have hL : (lenN d s : Int) = 0 := by unfold lenN; rw [if_neg c]; rfl
      rw [hL] at hb ⊢
      rw [if_neg c, ih (i + 1) want k hd' (by omega) (by omega) (by omega)]
      rw [show want + (0 + (sumN (lenN d) r : Int)) = want + (sumN (lenN d) r : Int) by omega]

theorem left_next {t p : Int} {s : S48} (h0 : 0 ≤ p) (h1 : p < ls.length) (ht : 0 ≤ t) (htF : t < F) (hs : slotL t (proc ls p) = some s) (hl : s.f1.f0 + s.f1.f1 - s.f2 - t > 1) :
    leftS F ls (t + 1) p = s.f1.f0 + s.f1.f1 - s.f2 - t - 1 := by
  have hm := proc_mem h0 h1
  obtain ⟨hs1, ⟨g0, g1, g2, g3⟩, o1, _, o2⟩ := find_ok (ho.p _ hm).2 (hg _ hm) hs
  have hmod : (t + 1) % F = t + 1 := Int.emod_eq_of_lt (by omega) (by omega)
  have hn := slotL_mem (ho.p _ hm).2 hs1 (t := t + 1) (by omega) (by omega)
  unfold leftS
  rw [hmod, hn]
  simp only
  omega

/-- Going over a frame's ticks. -/
theorem counts_l1 (d share : Int) (hd : 0 ≤ d ∧ d < 16) (p : Int) (h0 : 0 ≤ p) (h1 : p < ls.length) (hmay : mayS F ls p 0 = 0) : ∀ (n : Nat) (i runs owned : Int) (k : Nat), i + n = F → 0 ≤ i → 0 ≤ runs → runs + n ≤ 9223372036854775807 → 0 ≤ owned → owned + n ≤ 9223372036854775807 → 5000 + 2 * n < k →
    rotalaw16_TableCounts.l1 k d share runs p owned i F ls = rotalaw16_TableCounts.l2 (k - (2 * n + 1)) d share (runs + (cnt (inSlot (runF d) (proc ls p)) i n : Int)) p (owned + (cnt (inSlot (ownF d) (proc ls p)) i n : Int)) 0 0 F ls := by
  have hm := proc_mem h0 h1
  have hfr := ho.fr
  intro n
  induction n with
  | zero =>
    intro i runs owned k hi hi0 hr0 hr1 hw0 hw1 hk
    obtain ⟨k, rfl⟩ : ∃ m, k = m + 1 := ⟨k - 1, by omega⟩
    simp only [rotalaw16_TableCounts.l1]
    rw [if_neg (show ¬ i < F by omega)]
    simp [cnt]
  | succ n ih =>
    intro i runs owned k hi hi0 hr0 hr1 hw0 hw1 hk
    obtain ⟨k, rfl⟩ : ∃ m, k = m + 2 := ⟨k - 2, by omega⟩
    have hmod : i % F = i := Int.emod_eq_of_lt hi0 (by omega)
    simp only [rotalaw16_TableCounts.l1]
    rw [if_pos (show i < F by omega), owner_f F ls hg i p hi0 _ (by omega), left_f F ls hg i p hi0 _ (by omega), if_pos hmay, if_pos hmay]
    simp only [Option.bind_some, if_true]
    have hk' : k + 2 - (2 * (n + 1) + 1) = k - (2 * n + 1) := by omega
    have hi1 : IntKind.u64.wrap (i + 1) = i + 1 := IntWalk.u64_in _ (by omega)
    simp only [cnt]
    rw [hk']
    cases hs : slotL i (proc ls p) with
    | none =>
      have e1 : ownS F ls i p = -1 := by unfold ownS; rw [hmod, hs]
      have e2 : leftS F ls i p = 0 := by unfold leftS; rw [hmod, hs]
      have e3 : inSlot (runF d) (proc ls p) i = false := by simp [inSlot, hs]
      have e4 : inSlot (ownF d) (proc ls p) i = false := by simp [inSlot, hs]
      rw [e1, e2, e3, e4, if_pos rfl]
      simp only [rotalaw16_TableCounts.j2]
      rw [if_neg (by simp), if_neg (show ¬ (-1 : Int) = d by omega), hi1, ih (i + 1) runs owned k (by omega) (by omega) hr0 (by omega) hw0 (by omega) (by omega)]
      simp
    | some s =>
      obtain ⟨hs1, ⟨g0, g1, g2, g3⟩, o1, o1', o2⟩ := find_ok (ho.p _ hm).2 (hg _ hm) hs
      have e1 : ownS F ls i p = s.f0 := by unfold ownS; rw [hmod, hs]
      have e2 : leftS F ls i p = max (s.f1.f0 + s.f1.f1 - s.f2 - i) 0 := by unfold leftS; rw [hmod, hs]
      have e3 : inSlot (runF d) (proc ls p) i = ((s.f0 == d) && decide (i < s.f1.f0 + s.f1.f1 - s.f2)) := by simp [inSlot, hs, runF]
      have e4 : inSlot (ownF d) (proc ls p) i = (s.f0 == d) := by simp [inSlot, hs, ownF]
      rw [e1, if_neg (show ¬ s.f0 = -1 by omega), e3, e4]
      simp only [rotalaw16_TableCounts.j2]
      rw [if_neg (by simp)]
      by_cases c : s.f0 = d
      · rw [if_pos c, hi1]
        have cb : (s.f0 == d) = true := beq_iff_eq.mpr c
        rw [cb, if_pos rfl]
        by_cases c2 : leftS F ls i p > 0
        · have hb : decide (i < s.f1.f0 + s.f1.f1 - s.f2) = true := decide_eq_true (by omega)
          rw [if_pos c2, left_f F ls hg (i + 1) p (by omega) _ (by omega), if_pos hmay, hb]
          simp only [Option.bind_some, Bool.and_self, if_true]
          have ih' := ih (i + 1) (runs + 1) (owned + 1) k (by omega) (by omega) (by omega) (by omega) (by omega) (by omega) (by omega)
          rw [IntWalk.u64_in (runs + 1) (by omega), IntWalk.u64_in (owned + 1) (by omega), ih']
          have a1 : runs + 1 + (cnt (inSlot (runF d) (proc ls p)) (i + 1) n : Int) = runs + ((1 + cnt (inSlot (runF d) (proc ls p)) (i + 1) n : Nat) : Int) := by omega
          have a2 : owned + 1 + (cnt (inSlot (ownF d) (proc ls p)) (i + 1) n : Int) = owned + ((1 + cnt (inSlot (ownF d) (proc ls p)) (i + 1) n : Nat) : Int) := by omega
          rw [a1, a2]
          by_cases c3 : leftS F ls i p > 1
          · rw [if_pos c3, left_next ho hg h0 h1 hi0 (by omega) hs (by omega), if_pos]
            rw [IntWalk.u64_in _ (by omega)]
            omega
          · rw [if_neg c3]
        · have hb : decide (i < s.f1.f0 + s.f1.f1 - s.f2) = false := decide_eq_false (by omega)
          rw [if_neg c2, IntWalk.u64_in (owned + 1) (by omega), ih (i + 1) runs (owned + 1) k (by omega) (by omega) hr0 (by omega) (by omega) (by omega) (by omega), hb]
          have a2 : owned + 1 + (cnt (inSlot (ownF d) (proc ls p)) (i + 1) n : Int) = owned + ((1 + cnt (inSlot (ownF d) (proc ls p)) (i + 1) n : Nat) : Int) := by omega
          rw [a2]
          simp
      · have cb : (s.f0 == d) = false := beq_eq_false_iff_ne.mpr c
        rw [if_neg c, hi1, ih (i + 1) runs owned k (by omega) (by omega) hr0 (by omega) hw0 (by omega) (by omega), cb]
        simp

theorem runs_eq (d : Int) {l : List S48} (hl : l ∈ ls) : cnt (inSlot (runF d) l) 0 F.toNat = sumN (netN d) l := by
  have h := cnt_slots (F := F) (dom := 16) (runF d) l 0 (by omega) (by have := ho.fr; omega) (ho.p l hl).2
  rw [show F - 0 = F by omega] at h
  rw [h]
  refine sumN_congr (fun s hs => ?_)
  have h1 := okProc_each (Int.le_refl 0) (ho.p l hl).2 s hs
  have h2 := (hg l hl s hs).2.2.2.1
  rw [cnt_run d s (by omega)]
  rfl

theorem owned_eq (d : Int) {l : List S48} (hl : l ∈ ls) : cnt (inSlot (ownF d) l) 0 F.toNat = sumN (lenN d) l := by
  have h := cnt_slots (F := F) (dom := 16) (ownF d) l 0 (by omega) (by have := ho.fr; omega) (ho.p l hl).2
  rw [show F - 0 = F by omega] at h
  rw [h]
  exact sumN_congr (fun s hs => cnt_own d s)

theorem counts_l0 (d : Int) (hd : 0 ≤ d ∧ d < 16) (share : Int) (hc : (checkS F 16 ls).2.2 = 0) : ∀ (r : List (List S48)) (p : Nat) (runs : Int) (k : Nat), ls.drop p = r → 0 ≤ runs → runs + r.length * 65536 ≤ 9223372036854775807 → runs + (shareN d r : Int) = share → 5000 + 200000 * (r.length + 1) < k →
    rotalaw16_TableCounts.l0 k d share runs (p : Int) F ls = some true := by
  have hfr := ho.fr
  have hn := ho.n
  intro r
  induction r with
  | nil =>
    intro p runs k hdp hr0 hr1 hsh hk
    obtain ⟨k, rfl⟩ : ∃ m, k = m + 1 := ⟨k - 1, by omega⟩
    have := drop_nil hdp
    simp only [rotalaw16_TableCounts.l0]
    rw [if_neg (show ¬ (p : Int) < (ls.length : Int) by omega)]
    have : runs = share := by simpa [shareN] using hsh
    simp [this]
  | cons l r ih =>
    intro p runs k hdp hr0 hr1 hsh hk
    obtain ⟨hi, hr, hd'⟩ := rdL_drop hdp
    simp only [List.length_cons] at hk hr1
    obtain ⟨k, rfl⟩ : ∃ m, k = m + 1 := ⟨k - 1, by omega⟩
    have hpl : proc ls (p : Int) = l := hr
    have hmem : l ∈ ls := List.mem_of_mem_drop (by rw [hdp]; exact List.mem_cons_self)
    have hmay : mayS F ls (p : Int) 0 = 0 := by unfold mayS; rw [if_pos hc, if_neg (by omega)]
    have h1' := counts_l1 ho hg d share hd (p : Int) (by omega) (by omega) hmay F.toNat 0 runs 0 k (by omega) (by omega) hr0 (by omega) (by omega) (by omega) (by omega)
    simp only [rotalaw16_TableCounts.l0]
    rw [if_pos (show (p : Int) < (ls.length : Int) by omega), h1', hpl, runs_eq ho hg d hmem, owned_eq ho hg d hmem]
    have hlen := (ho.p l hmem).1
    have hle : (sumN (lenN d) l : Int) ≤ F - 0 := sumN_le (lenN d) (fun s => by unfold lenN; split <;> omega) l 0 (by omega) (by omega) (ho.p l hmem).2
    have hle2 : (sumN (netN d) l : Int) ≤ F := by
      have := cnt_le (inSlot (runF d) l) F.toNat 0
      rw [runs_eq ho hg d hmem] at this
      omega
    have h2' := counts_l2 ho hg d share (runs + (sumN (netN d) l : Int)) (p : Int) (by omega) (by omega) (0 + (sumN (lenN d) l : Int)) l 0 0 (k - (2 * F.toNat + 1)) (by rw [hpl]; rfl) (by omega) (by omega) (by omega)
    rw [show ((0 : Nat) : Int) = 0 from rfl] at h2'
    rw [h2', if_pos rfl, wrap1 (show (p : Int) < 9223372036854775807 by omega)]
    have esh : (shareN d (l :: r) : Int) = (sumN (netN d) l : Int) + (shareN d r : Int) := by simp [shareN]
    have q1 : (0 : Int) ≤ runs + (sumN (netN d) l : Int) := by omega
    have q2 : runs + (sumN (netN d) l : Int) + (r.length : Int) * 65536 ≤ 9223372036854775807 := by clear ih h1' h2'; omega
    have q3 : runs + (sumN (netN d) l : Int) + (shareN d r : Int) = share := by clear ih h1' h2'; omega
    have q4 : 5000 + 200000 * (r.length + 1) < k - (2 * F.toNat + 1) - (l.length + 1) := by
      have e1 : 200000 * (r.length + 1 + 1) = 200000 * (r.length + 1) + 200000 := Nat.mul_succ _ _
      have e2 : F.toNat ≤ 65536 := by omega
      generalize 200000 * (r.length + 1) = z at *
      generalize F.toNat = y at *
      clear ih h1' h2' hsh esh hr1 q1 q2 q3 hle hle2
      omega
    exact ih (p + 1) _ _ hd' q1 q2 q3 q4
end

theorem pure : Pure := by
  intro F ls d hF hl hd
  have hg : ∀ l ∈ ls, ∀ s ∈ l, G48 s := fun l hl' s hs => good ((hl.2 l hl').2 s hs)
  obtain ⟨K, hK⟩ : ∃ K : Nat, 20000000 ≤ K := ⟨20000000, Nat.le_refl _⟩
  refine ⟨K, ?_⟩
  unfold rotalaw16_TableCounts.f
  rw [share_f F ls hg d _ (by omega)]
  simp only [Option.bind_some]
  by_cases c : mayS F ls 0 d = 0
  · obtain ⟨ho, _, _, hd0, hd1⟩ := may_ok c
    have hn := ho.n
    have hc : (checkS F 16 ls).2.2 = 0 := by
      unfold mayS at c
      split at c
      · assumption
      · contradiction
    rw [if_pos c]
    have h := counts_l0 ho hg d ⟨hd0, hd1⟩ (shareN d ls : Int) hc ls 0 0 K List.drop_zero (Int.le_refl 0)
    have h2 := h (by omega) (Int.zero_add _) (by omega)
    exact h2
  · rw [if_neg c, awake (by omega)]
    simp [c]
end Go.Proofs.Ytiacikmignjdoaa.STableCounts

/- TableCounted, of plain numbers and lists: from any tick on, the domain's Ps with ticks left are at least as many as Supply tells. Conditions: none. -/
import Derived.Test.YtiacikmignjdoaaTableCountedS
import Derived.Test.YtiacikmignjdoaaTableCountedSp
import Derived.Test.YtiacikmignjdoaaTableCountedH
set_option linter.unusedVariables false
set_option linter.unusedSimpArgs false
set_option linter.unusedSectionVars false
namespace Go.Proofs.Ytiacikmignjdoaa.STableCounted
open Go.RowKit Go.Proofs.Ytiacikmignjdoaa.QTableCounted Go.Proofs.Ytiacikmignjdoaa.KTableCounted Go.Proofs.YtiacikmignjdoaaW.PrintWords Go.Proofs.YtiacikmignjdoaaW.PrintLast Go.Proofs.YtiacikmignjdoaaW.PrintMore Go.Proofs.Ytiacikmignjdoaa.Kin Go.Proofs.Ytiacikmignjdoaa.CTableCounted

theorem good {s : S48} (h : W48 s) : G48 s := ⟨wf_i64 h.1, wf_u64 h.2.1.1, wf_u64 h.2.1.2, (wf_u64 h.2.2).1, (wf_u64 h.2.2).2⟩

theorem awake {k : Nat} (hk : 30 ≤ k) : rotalaw16_awake.f k = some true :=
  at_rounds (g := rotalaw16_awake.f) rotalaw16_awake.mono hk (by decide +kernel)

theorem rd_dropI {l r : List Int} {s : Int} {i : Nat} (h : l.drop i = s :: r) : i < l.length ∧ rd l (i : Int) = s ∧ l.drop (i + 1) = r := by
  have hi : i < l.length := by
    rcases Nat.lt_or_ge i l.length with h1 | h1
    · exact h1
    · rw [List.drop_eq_nil_of_le h1] at h; cases h
  rw [List.drop_eq_getElem_cons hi] at h
  injection h with h1 h2
  refine ⟨hi, ?_, h2⟩
  simp [rd, List.getD, List.getElem?_eq_getElem hi, h1]

/-- How many Ps of a list have ticks left. -/
def cntLeft (F : Int) (ls : List (List S48)) (t : Int) (xs : List Int) : Nat := (xs.filter (fun q => decide (leftS F ls t q > 0))).length

section
variable {F : Int} {ls : List (List S48)} (ho : OkT F 16 ls) (hc : (checkS F 16 ls).2.2 = 0) (hg : ∀ l ∈ ls, ∀ s ∈ l, G48 s)
include ho hc hg

theorem may_p (q : Int) (h0 : 0 ≤ q) (h1 : q < ls.length) : mayS F ls q 0 = 0 := by
  unfold mayS
  rw [if_pos hc, if_neg (by omega)]

theorem cntLeft_has (t d : Int) : ∀ (r : List (List S48)) (p : Nat), ls.drop p = r → cntLeft F ls t (hasL (t % F) d r (p : Int)) = Gn d r (t % F)
  | [], p, _ => by simp [hasL, cntLeft, Gn]
  | l :: r, p, hd => by
    obtain ⟨hi, hr, hd'⟩ := rdL_drop hd
    have ih := cntLeft_has t d r (p + 1) hd'
    have hpl : proc ls (p : Int) = l := hr
    rw [show ((p + 1 : Nat) : Int) = (p : Int) + 1 by omega] at ih
    have hG : Gn d (l :: r) (t % F) = (if inSlot (runF d) l (t % F) = true then 1 else 0) + Gn d r (t % F) := by
      unfold Gn
      by_cases c : inSlot (runF d) l (t % F) = true
      · rw [if_pos c]; simp [List.filter_cons, c]; omega
      · rw [if_neg c]; simp [List.filter_cons, c]
    have hH : hasL (t % F) d (l :: r) (p : Int) = if hasB (t % F) d l = true then (p : Int) :: hasL (t % F) d r ((p : Int) + 1) else hasL (t % F) d r ((p : Int) + 1) := rfl
    rw [hG, ← ih, hH]
    cases hs : slotL (t % F) l with
    | none =>
      have hin : inSlot (runF d) l (t % F) = false := by simp [inSlot, hs]
      have hb : hasB (t % F) d l = false := by simp [hasB, hs]
      simp [hin, hb]
    | some s =>
      have hin : inSlot (runF d) l (t % F) = (s.f0 == d && decide (t % F < s.f1.f0 + s.f1.f1 - s.f2)) := by simp [inSlot, hs, runF]
      have hb : hasB (t % F) d l = (s.f0 == d) := by simp [hasB, hs]
      have hleft : leftS F ls t (p : Int) = max (s.f1.f0 + s.f1.f1 - s.f2 - t % F) 0 := by unfold leftS; rw [hpl, hs]
      by_cases c : s.f0 = d
      · have cb : (s.f0 == d) = true := beq_iff_eq.mpr c
        rw [cb] at hb hin
        rw [if_pos hb, hin, Bool.true_and]
        by_cases c2 : t % F < s.f1.f0 + s.f1.f1 - s.f2
        · have h1 : decide (leftS F ls t (p : Int) > 0) = true := decide_eq_true (by omega)
          rw [if_pos (decide_eq_true c2)]
          simp only [cntLeft, List.filter_cons, h1, if_true, List.length_cons]
          omega
        · have h1 : decide (leftS F ls t (p : Int) > 0) = false := decide_eq_false (by omega)
          rw [if_neg (by simpa using c2)]
          simp only [cntLeft, List.filter_cons, h1, Bool.false_eq_true, if_false]
          omega
      · have cb : (s.f0 == d) = false := beq_eq_false_iff_ne.mpr c
        rw [cb] at hb hin
        rw [if_neg (by simp [hb]), hin, Bool.false_and, if_neg (by simp)]
        omega

theorem counted_l1 (n s0 t0 tp td : Int) (got : Int) (i : Int) (xs : List Int) (hx : ∀ q ∈ xs, 0 ≤ q ∧ q < ls.length) (hxl : xs.length ≤ 64) (ht : 0 ≤ t0 ∧ t0 ≤ 4611686018427387904) (hi : 0 ≤ i ∧ i ≤ 65536) : ∀ (r : List Int) (j : Nat) (g : Int) (k : Nat), xs.drop j = r → 0 ≤ g → g + r.length ≤ 9223372036854775807 → 5000 + r.length < k →
    rotalaw16_TableCounted.l1 k n s0 g i xs (j : Int) F ls t0 tp td = rotalaw16_TableCounted.l0 (k - (r.length + 1)) n s0 (g + (cntLeft F ls (t0 + i) r : Int)) (IntKind.u64.wrap (i + 1)) F ls t0 tp td := by
  intro r
  induction r with
  | nil =>
    intro j g k hd hg0 hgb hk
    obtain ⟨k, rfl⟩ : ∃ m, k = m + 1 := ⟨k - 1, by omega⟩
    have := drop_nil hd
    simp only [rotalaw16_TableCounted.l1]
    rw [if_neg (show ¬ (j : Int) < (xs.length : Int) by omega)]
    simp [cntLeft]
  | cons q r ih =>
    intro j g k hd hg0 hgb hk
    obtain ⟨hj, hr, hd'⟩ := rd_dropI hd
    simp only [List.length_cons] at hk hgb
    obtain ⟨k, rfl⟩ : ∃ m, k = m + 1 := ⟨k - 1, by omega⟩
    have hq := hx q (List.mem_of_mem_drop (by rw [hd]; exact List.mem_cons_self))
    have hk' : k + 1 - ((q :: r).length + 1) = k - (r.length + 1) := by simp
    simp only [rotalaw16_TableCounted.l1]
    rw [if_pos (show (j : Int) < (xs.length : Int) by omega), if_pos (show 0 ≤ (j : Int) by omega), hr, IntWalk.u64_in (t0 + i) (by omega), left_f F ls hg (t0 + i) q (by omega) k (by omega), if_pos (may_p ho hc hg q hq.1 hq.2), wrap1 (show (j : Int) < 9223372036854775807 by omega), hk']
    simp only [Option.bind_some]
    by_cases c : leftS F ls (t0 + i) q > 0
    · rw [if_pos c, IntWalk.u64_in (g + 1) (by omega), ih (j + 1) (g + 1) k hd' (by omega) (by omega) (by omega)]
      have e : (cntLeft F ls (t0 + i) (q :: r) : Int) = 1 + (cntLeft F ls (t0 + i) r : Int) := by
        simp only [cntLeft, List.filter_cons, decide_eq_true c, if_true, List.length_cons]; omega
      rw [e, show g + 1 + (cntLeft F ls (t0 + i) r : Int) = g + (1 + (cntLeft F ls (t0 + i) r : Int)) by omega]
    · rw [if_neg c, ih (j + 1) g k hd' (by omega) (by omega) (by omega)]
      have e : (cntLeft F ls (t0 + i) (q :: r) : Int) = (cntLeft F ls (t0 + i) r : Int) := by
        simp only [cntLeft, List.filter_cons, decide_eq_false c, Bool.false_eq_true, if_false]
      rw [e]

theorem counted_l0 (N : Nat) (hN : N ≤ 65535) (s0 t0 tp d : Int) (hd : 0 ≤ d ∧ d < 16) (ht : 0 ≤ t0 ∧ t0 ≤ 4611686018427387904) (hs0 : s0 = (supN F d ls N : Int)) : ∀ (c : Nat) (i : Nat) (g : Int) (k : Nat), i + c = N → 0 ≤ g → g + (An F d ls (t0 % F).toNat : Int) = (An F d ls ((t0 % F).toNat + i) : Int) → 6000 + 100 * c < k →
    rotalaw16_TableCounted.l0 k (N : Int) s0 g (i : Int) F ls t0 tp d = some true := by
  have hfr := ho.fr
  have hn := ho.n
  have m0 := Int.emod_nonneg t0 (show F ≠ 0 by omega)
  have m1 := Int.emod_lt_of_pos t0 (show 0 < F by omega)
  intro c
  induction c with
  | zero =>
    intro i g k hi hg0 hgA hk
    obtain ⟨k, rfl⟩ : ∃ m, k = m + 1 := ⟨k - 1, by omega⟩
    obtain rfl : i = N := by omega
    have hle := supN_le F d hfr.1 ls i (t0 % F).toNat
    simp only [rotalaw16_TableCounted.l0]
    rw [IntWalk.u64_in (i : Int) (by omega), if_neg (by omega), if_pos (by omega), awake (by omega)]
    rfl
  | succ c ih =>
    intro i g k hi hg0 hgA hk
    obtain ⟨k, rfl⟩ : ∃ m, k = m + 1 := ⟨k - 1, by omega⟩
    have hmay : mayS F ls 0 d = 0 := by unfold mayS; rw [if_pos hc, if_neg (by omega)]
    simp only [rotalaw16_TableCounted.l0]
    rw [IntWalk.u64_in (N : Int) (by omega), if_pos (show (i : Int) < (N : Int) by omega), IntWalk.u64_in (t0 + (i : Int)) (by omega), has_f F ls hg (t0 + (i : Int)) d (by omega) k (by omega), if_pos hmay]
    simp only [Option.bind_some]
    have hlen : (hasS F ls (t0 + (i : Int)) d).length ≤ 64 := by have := hasL_len ((t0 + (i : Int)) % F) d ls 0; unfold hasS; omega
    have hx : ∀ q ∈ hasS F ls (t0 + (i : Int)) d, 0 ≤ q ∧ q < ls.length := by
      intro q hq
      obtain ⟨z, h1, h2, _⟩ := (hasL_mem _ _ q ls 0).1 hq
      omega
    have hsm := An_small ho hg d ((t0 % F).toNat + i) (by omega)
    have h1 := counted_l1 ho hc hg (N : Int) s0 t0 tp d g (i : Int) _ hx hlen ht ⟨by omega, by omega⟩ (hasS F ls (t0 + (i : Int)) d) 0 g k rfl hg0 (by omega) (by omega)
    rw [show ((0 : Nat) : Int) = 0 from rfl] at h1
    have hcl : cntLeft F ls (t0 + (i : Int)) (hasS F ls (t0 + (i : Int)) d) = Gn d ls ((t0 + (i : Int)) % F) := cntLeft_has ho hc hg (t0 + (i : Int)) d ls 0 rfl
    have hmod : (t0 + (i : Int)) % F = (((t0 % F).toNat + i : Nat) : Int) % F := by
      rw [show (((t0 % F).toNat + i : Nat) : Int) = t0 % F + (i : Int) by omega, Int.emod_add_emod]
    have hA : An F d ls ((t0 % F).toNat + (i + 1)) = An F d ls ((t0 % F).toNat + i) + Gn d ls ((((t0 % F).toNat + i : Nat) : Int) % F) := rfl
    rw [h1, hcl, hmod, IntWalk.u64_in ((i : Int) + 1) (by omega), show (i : Int) + 1 = ((i + 1 : Nat) : Int) by omega]
    exact ih (i + 1) _ _ (by omega) (by omega) (by rw [hA]; omega) (by omega)
end

theorem pure : Pure := by
  intro F ls t p d n hF hl ht hp hd hn
  have hg : ∀ l ∈ ls, ∀ s ∈ l, G48 s := fun l hl' s hs => good ((hl.2 l hl').2 s hs)
  have ht' := wf_u64 ht
  have hn' := wf_u16 hn
  obtain ⟨K, hK⟩ : ∃ K : Nat, 8000000 ≤ K := ⟨8000000, Nat.le_refl _⟩
  refine ⟨K + 1, ?_⟩
  unfold rotalaw16_TableCounted.f
  rw [IntWalk.u64_in n (by omega), supply_f hg d n hn'.1 _ (by omega)]
  simp only [Option.bind_some, rotalaw16_TableCounted.j0]
  by_cases c : mayS F ls 0 d = 0
  · obtain ⟨ho, _, _, hd0, hd1⟩ := may_ok c
    have hc : (checkS F 16 ls).2.2 = 0 := by
      unfold mayS at c
      split at c
      · assumption
      · contradiction
    rw [if_pos c, if_neg (show ¬ n > 281474976710656 by omega), if_pos rfl]
    by_cases c2 : t > 4611686018427387904
    · rw [if_pos (by simpa using c2), awake (by omega)]; rfl
    · rw [if_neg (by simpa using c2)]
      have h := counted_l0 ho hc hg n.toNat (by omega) (supN F d ls n.toNat : Int) t p d ⟨hd0, hd1⟩ ⟨ht'.1, by omega⟩ rfl n.toNat 0 0 K (by omega) (Int.le_refl 0)
      rw [show ((n.toNat : Nat) : Int) = n by omega] at h
      exact h (by simp) (by omega)
  · rw [if_neg c]
    simp only [if_neg c]
    rw [if_pos trivial, awake (by omega)]
    rfl
end Go.Proofs.Ytiacikmignjdoaa.STableCounted

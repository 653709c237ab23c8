/- TableSupplies, of plain numbers and lists: the program's least and the document's are one. Conditions: none. -/
import Derived.Test.YtiacikmignjdoaaTableSuppliesS
import Derived.Test.YtiacikmignjdoaaTableSuppliesSp
import Derived.Test.YtiacikmignjdoaaTableSuppliesO
set_option linter.unusedVariables false
set_option linter.unusedSimpArgs false
set_option linter.unusedSectionVars false
namespace Go.Proofs.Ytiacikmignjdoaa.STableSupplies
open Go.RowKit Go.Proofs.Ytiacikmignjdoaa.QTableSupplies Go.Proofs.Ytiacikmignjdoaa.KTableSupplies Go.Proofs.YtiacikmignjdoaaW.PrintWords Go.Proofs.YtiacikmignjdoaaW.PrintLast Go.Proofs.YtiacikmignjdoaaW.PrintMore Go.Proofs.Ytiacikmignjdoaa.Kin Go.Proofs.Ytiacikmignjdoaa.CTableSupplies

theorem good {s : S48} (h : W48 s) : G48 s := ⟨wf_i64 h.1, wf_u64 h.2.1.1, wf_u64 h.2.1.2, (wf_u64 h.2.2).1, (wf_u64 h.2.2).2⟩

theorem awake {k : Nat} (hk : 30 ≤ k) : rotalaw16_awake.f k = some true :=
  at_rounds (g := rotalaw16_awake.f) rotalaw16_awake.mono hk (by decide +kernel)

section
variable {F : Int} {ls : List (List S48)} (hg : ∀ l ∈ ls, ∀ s ∈ l, G48 s)
include hg

theorem looked_d (d : Int) (k : Nat) (hk : 140000 ≤ k) : rotaref16_looked.f k F ls d 16 = some (mayS F ls 0 d) := by
  rw [looked_f F ls hg d _ k hk]
  unfold mayS
  by_cases c : (checkS F 16 ls).2.2 = 0
  · have hn := (check_ok c).n
    rw [if_pos c, if_pos c]
    congr 1
    by_cases c2 : d < 0 ∨ d ≥ 16
    · rw [if_pos c2, if_pos (by omega)]
    · rw [if_neg c2, if_neg (by omega)]
  · rw [if_neg c, if_neg c]

theorem runs_l0 (ho : OkT F 16 ls) (d pl : Int) (h0 : 0 ≤ pl) (h1 : pl < F) : ∀ (r : List (List S48)) (p : Nat) (a : Int) (k : Nat), ls.drop p = r → 0 ≤ a → a + r.length ≤ 1000000 → 1025 + r.length < k →
    rotaref16_runs.l0 k d pl a (p : Int) F ls = some (a + (Gn d r pl : Int)) := by
  have hn := ho.n
  have hfr := ho.fr
  intro r
  induction r with
  | nil =>
    intro p a k hd ha hb hk
    obtain ⟨k, rfl⟩ : ∃ m, k = m + 1 := ⟨k - 1, by omega⟩
    have := drop_nil hd
    simp only [rotaref16_runs.l0]
    rw [if_neg (show ¬ (p : Int) < (ls.length : Int) by omega)]
    simp [Gn]
  | cons l r ih =>
    intro p a k hd ha hb hk
    obtain ⟨hi, hr, hd'⟩ := rdL_drop hd
    simp only [List.length_cons] at hk hb
    obtain ⟨k, rfl⟩ : ∃ m, k = m + 1 := ⟨k - 1, by omega⟩
    have hmem : l ∈ ls := List.mem_of_mem_drop (by rw [hd]; exact List.mem_cons_self)
    simp only [rotaref16_runs.l0]
    rw [if_pos (show (p : Int) < (ls.length : Int) by omega), refSlot_f pl F ls h0 ho hg (p : Int) (by omega) (by omega) k (by omega)]
    have hpr : proc ls (p : Int) = l := hr
    have hmod : pl % F = pl := Int.emod_eq_of_lt h0 h1
    simp only [Option.bind_some, hpr, hmod]
    rw [wrap1 (show (p : Int) < 9223372036854775807 by omega)]
    have key : (Gn d (l :: r) pl : Int) = (if inSlot (runF d) l pl = true then 1 else 0) + (Gn d r pl : Int) := by
      unfold Gn
      by_cases c : inSlot (runF d) l pl = true
      · rw [if_pos c]; simp [List.filter_cons, c]; omega
      · rw [if_neg c]; simp [List.filter_cons, c]
    rw [key]
    unfold refOut
    cases hs : slotL pl l with
    | none =>
      have hb2 : inSlot (runF d) l pl = false := by simp [inSlot, hs]
      simp only [Bool.false_eq_true, if_false, hb2]
      rw [ih (p + 1) a k hd' ha (by omega) (by omega)]
      simp
    | some s =>
      obtain ⟨_, ⟨g0, g1, g2, g3⟩, o1, _, o2⟩ := find_ok (ho.p l hmem).2 (hg l hmem) hs
      have hin : inSlot (runF d) l pl = (s.f0 == d && decide (pl < s.f1.f0 + s.f1.f1 - s.f2)) := by simp [inSlot, hs, runF]
      simp only [if_true]
      rw [hin]
      by_cases c : s.f0 = d
      · have cb : (s.f0 == d) = true := beq_iff_eq.mpr c
        rw [if_pos c, IntWalk.u64_in (s.f1.f0 + s.f1.f1) (by omega), IntWalk.u64_in _ (by omega), cb, Bool.true_and]
        by_cases c2 : pl < s.f1.f0 + s.f1.f1 - s.f2
        · rw [if_pos c2, IntWalk.u64_in (a + 1) (by omega), ih (p + 1) (a + 1) k hd' (by omega) (by omega) (by omega), if_pos (decide_eq_true c2)]
          congr 1
          omega
        · rw [if_neg c2, ih (p + 1) a k hd' ha (by omega) (by omega), if_neg (by simpa using c2)]
          congr 1
          omega
      · have cb : (s.f0 == d) = false := beq_eq_false_iff_ne.mpr c
        rw [if_neg c, ih (p + 1) a k hd' ha (by omega) (by omega), cb, Bool.false_and, if_neg (by simp)]
        congr 1
        omega

theorem runs_f (ho : OkT F 16 ls) (d pl : Int) (h0 : 0 ≤ pl) (h1 : pl < F) (k : Nat) (hk : 1200 ≤ k) : rotaref16_runs.f k F ls d pl = some (Gn d ls pl : Int) := by
  have hn := ho.n
  unfold rotaref16_runs.f
  have := runs_l0 hg ho d pl h0 h1 ls 0 0 k rfl (by omega) (by omega) (by omega)
  rw [show ((0 : Nat) : Int) = 0 from rfl] at this
  rw [this, Int.zero_add]

def aheadL (F d : Int) (ls : List (List S48)) (n : Nat) : List Int := (List.range (n + 1)).map (fun i => (An F d ls i : Int))
omit hg
theorem aheadL_len (d : Int) (n : Nat) : (aheadL F d ls n).length = n + 1 := by simp [aheadL]
theorem aheadL_snoc (d : Int) (n : Nat) : aheadL F d ls n ++ [(An F d ls (n + 1) : Int)] = aheadL F d ls (n + 1) := by
  simp [aheadL, List.range_succ]
theorem aheadL_rd (d : Int) (n : Nat) (i : Int) (h0 : 0 ≤ i) (h : i ≤ n) : rd (aheadL F d ls n) i = (An F d ls i.toNat : Int) := by
  unfold rd aheadL
  rw [List.getD_eq_getElem?_getD, List.getElem?_map, List.getElem?_range (by omega)]
  rfl

def refMin (A : Nat → Nat) (f r : Nat) : Nat → Nat
  | 0 => A f
  | k + 1 => min (refMin A f r k) (A (k + r) - A k)
theorem refMin_eq (A : Nat → Nat) (f r : Nat) (h0 : A 0 = 0) (hr : A r ≤ A f) : ∀ k, refMin A f r (k + 1) = minD A r (k + 1)
  | 0 => by simp only [refMin, minD]; rw [Nat.zero_add, h0]; omega
  | k + 1 => by
    have ih := refMin_eq A f r h0 hr k
    rw [refMin, minD, ih]
include hg

theorem refSup_l1 (ho : OkT F 16 ls) (d N : Int) (hN : 0 ≤ N ∧ N ≤ 281474976710656) : ∀ (c : Nat) (i : Int) (k : Nat), i + c = F → 0 ≤ i → c < k →
    rotaref16_Supply.l1 k N (aheadL F d ls (2 * F).toNat) (N % F) (refMin (An F d ls) F.toNat (N % F).toNat i.toNat : Int) i F ls = some (IntKind.u64.wrap (IntKind.u64.wrap (N / F * (An F d ls F.toNat : Int)) + (refMin (An F d ls) F.toNat (N % F).toNat F.toNat : Int)), 0) := by
  have hfr := ho.fr
  have m0 := Int.emod_nonneg N (show F ≠ 0 by omega)
  have m1 := Int.emod_lt_of_pos N (show 0 < F by omega)
  have hq0 : 0 ≤ N / F := Int.ediv_nonneg hN.1 (by omega)
  have hq1 : N / F ≤ N := Int.ediv_le_self _ hN.1
  intro c
  induction c with
  | zero =>
    intro i k hi hi0 hk
    obtain ⟨k, rfl⟩ : ∃ m, k = m + 1 := ⟨k - 1, by omega⟩
    simp only [rotaref16_Supply.l1]
    have hiF : i = F := by omega
    rw [if_neg (show ¬ i < F by omega), if_neg (show ¬ F = 0 by omega), if_pos (show 0 ≤ F by omega), if_pos (show F < ((aheadL F d ls (2 * F).toNat).length : Int) by rw [aheadL_len]; omega), aheadL_rd d _ F (by omega) (by omega), Int.tdiv_eq_ediv_of_nonneg hN.1, IntWalk.u64_in (N / F) (by omega), hiF]
  | succ c ih =>
    intro i k hi hi0 hk
    obtain ⟨k, rfl⟩ : ∃ m, k = m + 1 := ⟨k - 1, by omega⟩
    have hl := aheadL_len (F := F) (ls := ls) d (2 * F).toNat
    simp only [rotaref16_Supply.l1]
    rw [if_pos (show i < F by omega), IntWalk.u64_in (i + N % F) (by omega), if_pos (show 0 ≤ i + N % F by omega), if_pos (show i + N % F < ((aheadL F d ls (2 * F).toNat).length : Int) by omega), if_pos hi0, if_pos (show i < ((aheadL F d ls (2 * F).toNat).length : Int) by omega), aheadL_rd d _ (i + N % F) (by omega) (by omega), aheadL_rd d _ i hi0 (by omega), IntWalk.u64_in (i + 1) (by omega)]
    have e1 : (i + N % F).toNat = i.toNat + (N % F).toNat := by omega
    have e2 : (i + 1).toNat = i.toNat + 1 := by omega
    have hm := An_mono F d ls i.toNat (N % F).toNat
    have hsm := An_small ho hg d (i.toNat + (N % F).toNat) (by omega)
    have ih' := ih (i + 1) k (by omega) (by omega) (by omega)
    rw [e2, refMin] at ih'
    rw [e1, IntWalk.u64_in _ (by omega)]
    by_cases c1 : (An F d ls (i.toNat + (N % F).toNat) : Int) - (An F d ls i.toNat : Int) < (refMin (An F d ls) F.toNat (N % F).toNat i.toNat : Int)
    · rw [if_pos c1]
      rw [← ih']
      congr 1
      omega
    · rw [if_neg c1]
      rw [← ih']
      congr 1
      omega

theorem refSup_l0 (ho : OkT F 16 ls) (d N : Int) (hN : 0 ≤ N ∧ N ≤ 281474976710656) : ∀ (c : Nat) (j : Nat) (k : Nat), (j : Int) + c = 2 * F → 70000 + c < k →
    rotaref16_Supply.l0 k d N (aheadL F d ls j) (j : Int) F ls = some (IntKind.u64.wrap (IntKind.u64.wrap (N / F * (An F d ls F.toNat : Int)) + (refMin (An F d ls) F.toNat (N % F).toNat F.toNat : Int)), 0) := by
  have hfr := ho.fr
  intro c
  induction c with
  | zero =>
    intro j k hj hk
    obtain ⟨k, rfl⟩ : ∃ m, k = m + 1 := ⟨k - 1, by omega⟩
    obtain rfl : j = (2 * F).toNat := by omega
    simp only [rotaref16_Supply.l0]
    rw [IntWalk.u64_in (2 * F) (by omega), if_neg (show ¬ (((2 * F).toNat : Nat) : Int) < 2 * F by omega), if_neg (show ¬ F = 0 by omega), if_pos (show 0 ≤ F by omega), if_pos (show F < ((aheadL F d ls (2 * F).toNat).length : Int) by rw [aheadL_len]; omega), aheadL_rd d _ F (by omega) (by omega), Int.tmod_eq_emod_of_nonneg hN.1]
    have := refSup_l1 hg ho d N hN F.toNat 0 k (by omega) (by omega) (by omega)
    exact this
  | succ c ih =>
    intro j k hj hk
    obtain ⟨k, rfl⟩ : ∃ m, k = m + 1 := ⟨k - 1, by omega⟩
    have m0 := Int.emod_nonneg (j : Int) (show F ≠ 0 by omega)
    have m1 := Int.emod_lt_of_pos (j : Int) (show 0 < F by omega)
    have hl := aheadL_len (F := F) (ls := ls) d j
    have hsm := An_small ho hg d (j + 1) (by omega)
    have e : An F d ls (j + 1) = An F d ls j + Gn d ls ((j : Int) % F) := rfl
    simp only [rotaref16_Supply.l0]
    rw [IntWalk.u64_in (2 * F) (by omega), if_pos (show (j : Int) < 2 * F by omega), if_pos (show 0 ≤ (j : Int) by omega), if_pos (show (j : Int) < ((aheadL F d ls j).length : Int) by omega), if_neg (show ¬ F = 0 by omega), Int.tmod_eq_emod_of_nonneg (show 0 ≤ (j : Int) by omega), runs_f hg ho d _ m0 m1 k (by omega)]
    simp only [Option.bind_some]
    rw [if_pos (by omega), aheadL_rd d j (j : Int) (by omega) (by omega), Int.toNat_natCast, IntWalk.u64_in ((An F d ls j : Int) + (Gn d ls ((j : Int) % F) : Int)) (by omega), IntWalk.u64_in ((j : Int) + 1) (by omega)]
    have ih' := ih (j + 1) k (by omega) (by omega)
    rw [← aheadL_snoc] at ih'
    rw [show (An F d ls j : Int) + (Gn d ls ((j : Int) % F) : Int) = (An F d ls (j + 1) : Int) by omega]
    exact ih'

theorem refSupply_f (d N : Int) (hN : 0 ≤ N) (k : Nat) (hk : 300000 ≤ k) : rotaref16_Supply.f k F ls d N = some (if mayS F ls 0 d = 0 then (if N > 281474976710656 then (0, 1) else ((supN F d ls N.toNat : Int), 0)) else (0, mayS F ls 0 d)) := by
  unfold rotaref16_Supply.f
  rw [looked_d hg d k (by omega)]
  simp only [Option.bind_some]
  by_cases c : mayS F ls 0 d = 0
  · obtain ⟨ho, _⟩ := may_ok c
    have hfr := ho.fr
    rw [if_pos c, if_pos c]
    by_cases c2 : N > 281474976710656
    · rw [if_pos c2, if_pos c2]
    · have hl := refSup_l0 hg ho d N ⟨hN, by omega⟩ (2 * F).toNat 0 k (by omega) (by omega)
      rw [if_neg c2, if_neg c2]
      have e0 : aheadL F d ls 0 = [0] := rfl
      rw [e0, show ((0 : Nat) : Int) = 0 from rfl] at hl
      rw [hl]
      have m0 := Int.emod_nonneg N (show F ≠ 0 by omega)
      have m1 := Int.emod_lt_of_pos N (show 0 < F by omega)
      have hmono := An_mono F d ls (N % F).toNat (F.toNat - (N % F).toNat)
      rw [show (N % F).toNat + (F.toNat - (N % F).toNat) = F.toNat by omega] at hmono
      have hrm : refMin (An F d ls) F.toNat (N % F).toNat F.toNat = minD (An F d ls) (N % F).toNat F.toNat := by
        obtain ⟨q, hq⟩ : ∃ q, F.toNat = q + 1 := ⟨F.toNat - 1, by omega⟩
        have := refMin_eq (An F d ls) F.toNat (N % F).toNat rfl hmono q
        rw [← hq] at this
        exact this
      have hv := supplyV_eq ho hg d N ⟨hN, by omega⟩
      have hS : ∀ i : Nat, (i : Int) ≤ 2 * F → (sums F (gives F (ofDom d ls)) (2 * F).toNat).getD i 0 = (An F d ls i : Int) := fun i hi => sums_get ho hg d _ (by omega) i (by omega)
      unfold supplyV at hv
      rw [hS F.toNat (by omega), least_eq ho hg d _ hS (N % F).toNat (by omega) F.toNat (by omega)] at hv
      rw [hrm, hv]
  · rw [if_neg c, if_neg c]
end

theorem pure : Pure := by
  intro F ls d n hF hl hd hn
  have hg : ∀ l ∈ ls, ∀ s ∈ l, G48 s := fun l hl' s hs => good ((hl.2 l hl').2 s hs)
  have hn' := (wf_u64 hn).1
  refine ⟨400000, ?_⟩
  unfold rotalaw16_TableSupplies.f
  rw [supply_f hg d n hn' _ (by omega), refSupply_f hg d n hn' _ (by omega), awake (by omega)]
  simp
end Go.Proofs.Ytiacikmignjdoaa.STableSupplies

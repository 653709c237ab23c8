/- TableAdds, of plain numbers and lists: Supply of frames is Share, so many times; of two stretches it is at least that of both. Conditions: none. -/
import Derived.Test.YtiacikmignjdoaaTableAddsS
import Derived.Test.YtiacikmignjdoaaTableAddsSp
import Derived.Test.YtiacikmignjdoaaTableAddsHs
set_option linter.unusedVariables false
set_option linter.unusedSimpArgs false
set_option linter.unusedSectionVars false
namespace Go.Proofs.Ytiacikmignjdoaa.STableAdds
open Go.RowKit Go.Proofs.Ytiacikmignjdoaa.QTableAdds Go.Proofs.Ytiacikmignjdoaa.KTableAdds Go.Proofs.YtiacikmignjdoaaW.PrintWords Go.Proofs.YtiacikmignjdoaaW.PrintLast Go.Proofs.YtiacikmignjdoaaW.PrintMore Go.Proofs.Ytiacikmignjdoaa.Kin Go.Proofs.Ytiacikmignjdoaa.CTableAdds

theorem good {s : S48} (h : W48 s) : G48 s := ⟨wf_i64 h.1, wf_u64 h.2.1.1, wf_u64 h.2.1.2, (wf_u64 h.2.2).1, (wf_u64 h.2.2).2⟩

theorem awake {k : Nat} (hk : 30 ≤ k) : rotalaw16_awake.f k = some true :=
  at_rounds (g := rotalaw16_awake.f) rotalaw16_awake.mono hk (by decide +kernel)

theorem supN_add (F d : Int) (hF : 1 ≤ F) (ls : List (List S48)) (n m : Nat) : supN F d ls n + supN F d ls m ≤ supN F d ls (n + m) := by
  unfold supN
  refine minD_ge (An F d ls) rfl (n + m) _ F.toNat (fun i _ => ?_)
  have h1 := supN_le F d hF ls n i
  have h2 := supN_le F d hF ls m (i + n)
  unfold supN at h1 h2
  rw [show i + (n + m) = i + n + m by omega]
  omega

theorem minD_zero (A : Nat → Nat) (h0 : A 0 = 0) : ∀ k, minD A 0 k = 0
  | 0 => h0
  | k + 1 => by simp only [minD]; rw [minD_zero A h0 k]; omega

theorem supN_frames (F d : Int) (hF : 1 ≤ F) (ls : List (List S48)) (q : Nat) : supN F d ls (q * F.toNat) = q * An F d ls F.toNat := by
  rw [supN_split F d hF, Nat.mul_mod_left, minD_zero _ rfl, Nat.mul_div_cancel _ (by omega), Nat.add_zero]

section
variable {F : Int} {ls : List (List S48)}
theorem An_cons (d : Int) (l : List S48) (r : List (List S48)) : ∀ n : Nat, (n : Int) ≤ F → An F d (l :: r) n = cnt (inSlot (runF d) l) 0 n + An F d r n
  | 0, _ => rfl
  | n + 1, h => by
    have ih := An_cons d l r n (by omega)
    have hm : (n : Int) % F = (n : Int) := Int.emod_eq_of_lt (by omega) (by omega)
    simp only [An]
    rw [ih, cnt_add _ n 1 0, hm]
    simp only [cnt, Int.zero_add]
    unfold Gn
    by_cases c : inSlot (runF d) l (n : Int) = true
    · rw [if_pos c]; simp [List.filter_cons, c]; omega
    · rw [if_neg c]; simp [List.filter_cons, c]; omega

theorem An_share (d : Int) (hF : 1 ≤ F) : ∀ (r : List (List S48)), (∀ l ∈ r, okProc F 16 0 l ∧ ∀ s ∈ l, 0 ≤ s.f2) → An F d r F.toNat = shareN d r
  | [], _ => by
    have : ∀ n, An F d [] n = 0 := by
      intro n
      induction n with
      | zero => rfl
      | succ n ih => simp [An, ih, Gn]
    rw [this]
    rfl
  | l :: r, h => by
    have ih := An_share d hF r (fun x hx => h x (List.mem_cons_of_mem _ hx))
    have hl := h l List.mem_cons_self
    rw [An_cons d l r F.toNat (by omega), ih]
    have hc := cnt_slots (F := F) (dom := 16) (runF d) l 0 (by omega) (by omega) hl.1
    rw [show F - 0 = F by omega] at hc
    rw [hc]
    have e : sumN (fun s => cnt (runF d s) s.f1.f0 s.f1.f1.toNat) l = sumN (netN d) l := by
      refine sumN_congr (fun s hs => ?_)
      have h1 := okProc_each (Int.le_refl 0) hl.1 s hs
      have h2 := hl.2 s hs
      rw [cnt_run d s (by omega)]
      rfl
    rw [e]
    simp [shareN]
end

theorem pure : Pure := by
  intro F ls d n m hF hl hd hn hm
  have hg : ∀ l ∈ ls, ∀ s ∈ l, G48 s := fun l hl' s hs => good ((hl.2 l hl').2 s hs)
  have hn' := wf_u64 hn
  have hm' := wf_u64 hm
  refine ⟨10000, ?_⟩
  unfold rotalaw16_TableAdds.f
  rw [share_f F ls hg d _ (by omega), supply_f hg d n hn'.1 _ (by omega), awake (by omega)]
  simp only [Option.bind_some]
  by_cases c : mayS F ls 0 d = 0
  · obtain ⟨ho, _⟩ := may_ok c
    have hfr := ho.fr
    simp only [if_pos c, if_true]
    by_cases c2 : n > 1099511627776 ∨ m > 1099511627776
    · rw [if_pos c2]
    · rw [if_neg c2, if_pos ⟨⟨hn'.1, hm'.1⟩, hfr⟩, if_neg (show ¬ n > 281474976710656 by omega)]
      have m0 : 0 ≤ n % 1000 := by omega
      have p0 : 0 ≤ n % 1000 * F := Int.mul_nonneg m0 (by omega)
      have p1 : n % 1000 * F ≤ 65536000 := by
        have h1 : n % 1000 * F ≤ 1000 * F := Int.mul_le_mul_of_nonneg_right (by omega) (by omega)
        omega
      rw [supply_f hg d m hm'.1 _ (by omega), supply_f hg d (n + m) (by omega) _ (by omega), supply_f hg d (n % 1000 * F) p0 _ (by omega)]
      simp only [if_pos c, Option.bind_some]
      rw [if_neg (show ¬ m > 281474976710656 by omega), if_neg (show ¬ n + m > 281474976710656 by omega), if_neg (show ¬ n % 1000 * F > 281474976710656 by omega)]
      have hadd := supN_add F d hfr.1 ls n.toNat m.toNat
      rw [show n.toNat + m.toNat = (n + m).toNat by omega] at hadd
      have hfrm := supN_frames F d hfr.1 ls (n % 1000).toNat
      have hq : (n % 1000).toNat * F.toNat = (n % 1000 * F).toNat := by
        have : (((n % 1000).toNat * F.toNat : Nat) : Int) = n % 1000 * F := by rw [Int.natCast_mul, Int.toNat_of_nonneg m0, Int.toNat_of_nonneg (by omega)]
        omega
      rw [hq, An_share d hfr.1 ls (fun l hl' => ⟨(ho.p l hl').2, fun s hs => (hg l hl' s hs).2.2.2.1⟩)] at hfrm
      have hsl := share_le ho hg d
      have hn2 := ho.n
      have hsl2 : (ls.length : Int) * F ≤ 64 * 65536 := by
        have h1 : (ls.length : Int) * F ≤ 64 * F := Int.mul_le_mul_of_nonneg_right (by omega) (by omega)
        omega
      have hv0 := supplyV_eq ho hg d n ⟨hn'.1, by omega⟩
      have hbig : ∀ x : Nat, x ≤ 2200000000000 → (supN F d ls x : Int) ≤ 2200000000000 * 64 := by
        intro x hx
        have h1 := supN_le F d hfr.1 ls x 0
        have h2 := An_le F d ls (0 + x)
        have h3 : (0 + x) * ls.length ≤ 2200000000000 * 64 := Nat.mul_le_mul (by omega) hn2.2
        have h4 : An F d ls 0 = 0 := rfl
        omega
      have b1 := hbig n.toNat (by omega)
      have b2 := hbig m.toNat (by omega)
      have hpr : 0 ≤ n % 1000 * (shareN d ls : Int) ∧ n % 1000 * (shareN d ls : Int) ≤ 1000 * 4194304 := by
        refine ⟨Int.mul_nonneg m0 (by omega), ?_⟩
        have h1 : n % 1000 * (shareN d ls : Int) ≤ 1000 * (shareN d ls : Int) := Int.mul_le_mul_of_nonneg_right (by omega) (by omega)
        omega
      rw [if_pos]
      refine ⟨by first | trivial | rfl, rfl, rfl, rfl, ?_, ?_⟩
      · rw [IntWalk.u64_in _ (by omega)]
        omega
      · rw [IntWalk.u64_in _ (by omega), hfrm, Int.natCast_mul, Int.toNat_of_nonneg m0]
  · simp only [if_neg c, if_true]
end Go.Proofs.Ytiacikmignjdoaa.STableAdds

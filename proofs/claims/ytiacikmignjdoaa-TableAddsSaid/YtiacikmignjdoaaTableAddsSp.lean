/- Supply as plain numbers: the least, over a frame's beginnings, of what the domain can run in so many ticks.
   Conditions: the table may be; its numbers are of their kinds. -/
import Derived.Test.YtiacikmignjdoaaTableAddsN
import Derived.Test.YtiacikmignjdoaaTableAddsSu
set_option linter.unusedVariables false
set_option linter.unusedSimpArgs false
set_option linter.unusedSectionVars false
namespace Go.Proofs.Ytiacikmignjdoaa.CTableAdds
open Go.RowKit Go.Proofs.Ytiacikmignjdoaa.QTableAdds Go.Proofs.Ytiacikmignjdoaa.KTableAdds Go.Proofs.YtiacikmignjdoaaW.PrintWords Go.Proofs.YtiacikmignjdoaaW.PrintLast Go.Proofs.YtiacikmignjdoaaW.PrintMore Go.Proofs.Ytiacikmignjdoaa.Kin

/-- On how many Ps a domain can run at a place. -/
def Gn (d : Int) (ls : List (List S48)) (t : Int) : Nat := (ls.filter (fun l => inSlot (runF d) l t)).length
/-- .. added up over the ticks ahead of one. -/
def An (F d : Int) (ls : List (List S48)) : Nat → Nat
  | 0 => 0
  | n + 1 => An F d ls n + Gn d ls ((n : Int) % F)
theorem Gn_le (d : Int) (ls : List (List S48)) (t : Int) : Gn d ls t ≤ ls.length := List.length_filter_le _ _
theorem An_le (F d : Int) (ls : List (List S48)) : ∀ n, An F d ls n ≤ n * ls.length
  | 0 => by simp [An]
  | n + 1 => by
    have h1 := An_le F d ls n
    have h2 := Gn_le d ls ((n : Int) % F)
    simp only [An, Nat.succ_mul]
    omega
theorem An_mono (F d : Int) (ls : List (List S48)) (a : Nat) : ∀ b, An F d ls a ≤ An F d ls (a + b)
  | 0 => Nat.le_refl _
  | b + 1 => by
    have h1 := An_mono F d ls a b
    show _ ≤ An F d ls ((a + b) + 1)
    simp only [An]
    omega
/-- One frame later all is the same. -/
theorem An_frame (F d : Int) (hF : 1 ≤ F) (ls : List (List S48)) : ∀ i, An F d ls (i + F.toNat) = An F d ls F.toNat + An F d ls i
  | 0 => by simp [An]
  | i + 1 => by
    have h1 := An_frame F d hF ls i
    rw [show i + 1 + F.toNat = (i + F.toNat) + 1 by omega]
    simp only [An]
    rw [h1, show ((i + F.toNat : Nat) : Int) = (i : Int) + F by omega, Int.add_emod_right]
    omega
theorem An_frames (F d : Int) (hF : 1 ≤ F) (ls : List (List S48)) (i : Nat) : ∀ q, An F d ls (i + q * F.toNat) = q * An F d ls F.toNat + An F d ls i
  | 0 => by simp
  | q + 1 => by
    rw [show i + (q + 1) * F.toNat = (i + q * F.toNat) + F.toNat by rw [Nat.succ_mul]; omega, An_frame F d hF ls, An_frames F d hF ls i q, Nat.succ_mul]
    omega

/-- The least, over the first k beginnings, of a stretch of n ticks. -/
def minD (A : Nat → Nat) (n : Nat) : Nat → Nat
  | 0 => A n
  | k + 1 => min (minD A n k) (A (k + n) - A k)
theorem minD_le (A : Nat → Nat) (n : Nat) : ∀ (k i : Nat), i < k → minD A n k ≤ A (i + n) - A i
  | 0, _, h => by omega
  | k + 1, i, h => by
    simp only [minD]
    rcases Nat.lt_succ_iff_lt_or_eq.1 h with h' | rfl
    · have := minD_le A n k i h'
      omega
    · omega
theorem minD_ge (A : Nat → Nat) (h0 : A 0 = 0) (n : Nat) (b : Nat) : ∀ (k : Nat), (∀ i, i < k + 1 → b ≤ A (i + n) - A i) → b ≤ minD A n k
  | 0, h => by
    have := h 0 (by omega)
    simp only [minD]
    rw [Nat.zero_add, h0] at this
    omega
  | k + 1, h => by
    simp only [minD]
    have h1 := minD_ge A h0 n b k (fun i hi => h i (by omega))
    have h2 := h k (by omega)
    omega

/-- What a domain can count on in n ticks. -/
def supN (F d : Int) (ls : List (List S48)) (n : Nat) : Nat := minD (An F d ls) n F.toNat

theorem supN_le (F d : Int) (hF : 1 ≤ F) (ls : List (List S48)) (n i : Nat) : supN F d ls n + An F d ls i ≤ An F d ls (i + n) := by
  have h1 := minD_le (An F d ls) n F.toNat (i % F.toNat) (Nat.mod_lt _ (by omega))
  have h2 := An_frames F d hF ls (i % F.toNat) (i / F.toNat)
  have h3 := An_frames F d hF ls (i % F.toNat + n) (i / F.toNat)
  have e : i % F.toNat + i / F.toNat * F.toNat = i := by rw [Nat.mul_comm]; exact Nat.mod_add_div _ _
  rw [e] at h2
  rw [show i % F.toNat + n + i / F.toNat * F.toNat = i + n by omega] at h3
  have h4 := An_mono F d ls (i % F.toNat) n
  unfold supN
  omega

theorem supN_split (F d : Int) (hF : 1 ≤ F) (ls : List (List S48)) (n : Nat) : supN F d ls n = n / F.toNat * An F d ls F.toNat + minD (An F d ls) (n % F.toNat) F.toNat := by
  unfold supN
  have key : ∀ k, minD (An F d ls) n k = n / F.toNat * An F d ls F.toNat + minD (An F d ls) (n % F.toNat) k := by
    intro k
    induction k with
    | zero =>
      simp only [minD]
      have h := An_frames F d hF ls (n % F.toNat) (n / F.toNat)
      rw [show n % F.toNat + n / F.toNat * F.toNat = n by rw [Nat.mul_comm]; exact Nat.mod_add_div _ _] at h
      exact h
    | succ k ih =>
      simp only [minD]
      rw [ih]
      have h := An_frames F d hF ls (k + n % F.toNat) (n / F.toNat)
      rw [show k + n % F.toNat + n / F.toNat * F.toNat = k + n by have : n % F.toNat + n / F.toNat * F.toNat = n := (by rw [Nat.mul_comm]; exact Nat.mod_add_div _ _); omega] at h
      have h2 := An_mono F d ls k (n % F.toNat)
      omega
  exact key _

/-! ### The rows of numbers that the program makes -/
theorem bumpB_get (m : List Int) (a : Nat) : ∀ (n t : Nat), t < m.length → (∀ i, i < m.length → 0 ≤ m.getD i 0 ∧ m.getD i 0 ≤ 1000000) → (bumpB m a n).getD t 0 = m.getD t 0 + (if a ≤ t ∧ t < a + n then 1 else 0)
  | 0, t, _, _ => by simp only [bumpB]; rw [if_neg (by omega)]; omega
  | n + 1, t, ht, hm => by
    have ih := bumpB_get m a n
    simp only [bumpB]
    rw [List.getD_eq_getElem?_getD, List.getElem?_set]
    by_cases h : a + n = t
    · subst h
      have h1 := ih (a + n) ht hm
      rw [if_neg (by omega), Int.add_zero] at h1
      have h2 := hm _ ht
      rw [if_pos rfl, if_pos (by rw [bumpB_length]; exact ht), if_pos (by omega)]
      simp only [Option.getD_some]
      rw [h1, IntWalk.u64_in _ (by omega)]
    · rw [if_neg h, ← List.getD_eq_getElem?_getD, ih t ht hm]
      by_cases h2 : a ≤ t ∧ t < a + n
      · rw [if_pos h2, if_pos (by omega)]
      · rw [if_neg h2, if_neg (by omega)]

/-- Is a place one of a slot's ticks but its pad? -/
def net_ (t : Int) (s : S48) : Bool := decide (s.f1.f0 ≤ t ∧ t < s.f1.f0 + s.f1.f1 - s.f2)
def cntL (p : S48 → Bool) (l : List S48) : Nat := (l.filter p).length

theorem gives_from (t : Nat) : ∀ (l : List S48) (m : List Int), t < m.length → (∀ i, i < m.length → 0 ≤ m.getD i 0 ∧ m.getD i 0 + l.length ≤ 1000000) → (∀ s ∈ l, 0 ≤ s.f1.f0 ∧ 0 ≤ s.f2 ∧ s.f2 ≤ s.f1.f1) →
    (l.foldl bumpS m).getD t 0 = m.getD t 0 + (cntL (net_ (t : Int)) l : Int)
  | [], m, _, _, _ => by simp [cntL]
  | s :: r, m, ht, hm, h => by
    have hs := h s List.mem_cons_self
    have hb : ∀ i, i < m.length → (bumpS m s).getD i 0 = m.getD i 0 + (if s.f1.f0.toNat ≤ i ∧ i < s.f1.f0.toNat + (s.f1.f1 - s.f2).toNat then 1 else 0) := fun i hi => bumpB_get m _ _ i hi (fun j hj => by have := hm j hj; omega)
    have hlen : (bumpS m s).length = m.length := bumpB_length _ _ _
    rw [List.foldl_cons, gives_from t r (bumpS m s) (by omega) (fun i hi => by
      rw [hlen] at hi
      have h1 := hm i hi
      rw [hb i hi]
      simp only [List.length_cons] at h1
      split <;> omega) (fun x hx => h x (List.mem_cons_of_mem _ hx)), hb t ht]
    have e : cntL (net_ (t : Int)) (s :: r) = (if s.f1.f0.toNat ≤ t ∧ t < s.f1.f0.toNat + (s.f1.f1 - s.f2).toNat then 1 else 0) + cntL (net_ (t : Int)) r := by
      by_cases c : s.f1.f0.toNat ≤ t ∧ t < s.f1.f0.toNat + (s.f1.f1 - s.f2).toNat
      · have hn : net_ (t : Int) s = true := by simp only [net_]; exact decide_eq_true (by omega)
        rw [if_pos c]
        simp [cntL, List.filter_cons, hn]
        omega
      · have hn : net_ (t : Int) s = false := by simp only [net_]; exact decide_eq_false (by omega)
        rw [if_neg c]
        simp [cntL, List.filter_cons, hn]
    rw [e]
    split <;> simp <;> omega

/-- In one P's list at most one slot holds a place. -/
theorem one_slot {F dom : Int} (d t : Int) : ∀ {l : List S48} {e : Int}, okProc F dom e l → (∀ s ∈ l, 0 ≤ s.f2) → cntL (fun s => s.f0 == d && net_ t s) l = if inSlot (runF d) l t = true then 1 else 0
  | [], _, _, _ => by simp [cntL, inSlot, slotL]
  | s :: r, e, ho, hp => by
    obtain ⟨o1, o2, o3, o4⟩ := ho
    have ih := one_slot d t o4 (fun x hx => hp x (List.mem_cons_of_mem _ hx))
    have hps := hp s List.mem_cons_self
    by_cases c : s.f1.f0 ≤ t ∧ t < s.f1.f0 + s.f1.f1
    · have ha : at_ t s = true := by simp only [at_]; exact decide_eq_true c
      have hr := slotL_below o4 (t := t) (by omega)
      have hr0 : inSlot (runF d) r t = false := by simp [inSlot, hr]
      rw [hr0, if_neg (by simp)] at ih
      have hin : inSlot (runF d) (s :: r) t = runF d s t := by simp [inSlot, slotL, List.find?_cons, ha]
      have hnet : net_ t s = decide (t < s.f1.f0 + s.f1.f1 - s.f2) := by simp only [net_]; rw [decide_eq_decide]; omega
      have hq : (s.f0 == d && net_ t s) = runF d s t := by rw [hnet]; rfl
      rw [hin]
      simp only [cntL, List.filter_cons, hq] at ih ⊢
      split
      · simp only [List.length_cons]; omega
      · exact ih
    · have ha : at_ t s = false := by simp only [at_]; exact decide_eq_false c
      have hin : inSlot (runF d) (s :: r) t = inSlot (runF d) r t := by simp [inSlot, slotL, List.find?_cons, ha]
      have hnet : net_ t s = false := by simp only [net_]; exact decide_eq_false (by omega)
      rw [hin, ← ih]
      simp [cntL, List.filter_cons, hnet]

theorem cntL_flatten (p : S48 → Bool) : ∀ ls : List (List S48), cntL p ls.flatten = (ls.map (cntL p)).sum
  | [] => rfl
  | l :: r => by
    have ih := cntL_flatten p r
    rw [List.flatten_cons, List.map_cons, List.sum_cons, ← ih]
    simp [cntL, List.filter_append]

theorem cntL_Gn {F : Int} (d t : Int) : ∀ (ls : List (List S48)), (∀ l ∈ ls, okProc F 16 0 l ∧ ∀ s ∈ l, 0 ≤ s.f2) → (ls.map (cntL (fun s => s.f0 == d && net_ t s))).sum = Gn d ls t
  | [], _ => rfl
  | l :: r, h => by
    have ih := cntL_Gn d t r (fun x hx => h x (List.mem_cons_of_mem _ hx))
    have hl := h l List.mem_cons_self
    rw [List.map_cons, List.sum_cons, ih, one_slot d t hl.1 hl.2]
    unfold Gn
    by_cases c : inSlot (runF d) l t = true
    · rw [if_pos c]
      simp [List.filter_cons, c]
      omega
    · rw [if_neg c]
      simp [List.filter_cons, c]

section
variable {F : Int} {ls : List (List S48)} (ho : OkT F 16 ls) (hg : ∀ l ∈ ls, ∀ s ∈ l, G48 s)
include ho hg

theorem flat_len : ls.flatten.length ≤ 65536 := by
  have hn := ho.n
  have : ∀ r : List (List S48), (∀ l ∈ r, l.length ≤ 1024) → r.flatten.length ≤ r.length * 1024 := by
    intro r
    induction r with
    | nil => intro _; simp
    | cons l r ih =>
      intro h
      have h1 := ih (fun x hx => h x (List.mem_cons_of_mem _ hx))
      have h2 := h l List.mem_cons_self
      simp only [List.flatten_cons, List.length_append, List.length_cons, Nat.succ_mul]
      omega
  have := this ls (fun l hl => (ho.p l hl).1)
  omega

theorem gives_get (d : Int) (t : Nat) (ht : (t : Int) < F) : (gives F (ofDom d ls)).getD t 0 = (Gn d ls t : Int) := by
  have hfr := ho.fr
  have hfl := flat_len ho hg
  have hof : (ofDom d ls).length ≤ 65536 := Nat.le_trans (List.length_filter_le _ _) hfl
  unfold gives
  rw [gives_from t _ _ (by simp; omega) (fun i hi => by
    have : (List.replicate F.toNat (0 : Int)).getD i 0 = 0 := by simp [List.getD_eq_getElem?_getD, List.getElem?_replicate]; split <;> rfl
    rw [this]
    omega) (fun s hs => ?_)]
  · have z : (List.replicate F.toNat (0 : Int)).getD t 0 = 0 := by simp [List.getD_eq_getElem?_getD, List.getElem?_replicate]; split <;> rfl
    have e : cntL (net_ (t : Int)) (ofDom d ls) = Gn d ls t := by
      rw [← cntL_Gn (F := F) d t ls (fun l hl => ⟨(ho.p l hl).2, fun s hs => (hg l hl s hs).2.2.2.1⟩), ← cntL_flatten]
      simp only [cntL, ofDom, List.filter_filter]
      congr 2
      funext s
      exact Bool.and_comm _ _
    rw [z, e]
    omega
  · obtain ⟨h1, _⟩ := List.mem_filter.1 hs
    obtain ⟨l, hl, hsl⟩ := List.mem_flatten.1 h1
    have h2 := okProc_each (Int.le_refl 0) (ho.p l hl).2 s hsl
    have h3 := (hg l hl s hsl).2.2.2.1
    omega

theorem An_small (d : Int) (n : Nat) (hn : n ≤ 200000) : An F d ls n ≤ 12800000 := by
  have h1 := An_le F d ls n
  have h2 := ho.n
  have h3 : n * ls.length ≤ 200000 * 64 := Nat.mul_le_mul hn h2.2
  omega

theorem sums_get (d : Int) : ∀ (n : Nat), (n : Int) ≤ 2 * F → ∀ i, i ≤ n → (sums F (gives F (ofDom d ls)) n).getD i 0 = (An F d ls i : Int)
  | 0, h, i, hi => by
    have hfr := ho.fr
    obtain rfl : i = 0 := by omega
    simp only [sums, An]
    simp [List.getD_eq_getElem?_getD, List.getElem?_replicate]
    split <;> rfl
  | n + 1, h, i, hi => by
    have hfr := ho.fr
    have ih := sums_get d n (by omega)
    simp only [sums]
    rw [List.getD_eq_getElem?_getD, List.getElem?_set]
    by_cases c : n + 1 = i
    · subst c
      have m0 := Int.emod_nonneg (n : Int) (show F ≠ 0 by omega)
      have m1 := Int.emod_lt_of_pos (n : Int) (show 0 < F by omega)
      rw [if_pos rfl, if_pos (by rw [sums_length]; omega), ih n (Nat.le_refl _), gives_get ho hg d _ (by omega)]
      have h1 := An_small ho hg d (n + 1) (by omega)
      have e : An F d ls (n + 1) = An F d ls n + Gn d ls ((n : Int) % F) := rfl
      simp only [Option.getD_some]
      rw [show (((((n : Int) % F).toNat : Nat)) : Int) = (n : Int) % F by omega, IntWalk.u64_in _ (by omega), e]
      omega
    · rw [if_neg c, ← List.getD_eq_getElem?_getD]
      exact ih i (by omega)

theorem least_eq (d : Int) (S : List Int) (hS : ∀ i : Nat, (i : Int) ≤ 2 * F → S.getD i 0 = (An F d ls i : Int)) (r : Nat) (hr : (r : Int) < F) : ∀ k : Nat, (k : Int) ≤ F → leastB S r k = (minD (An F d ls) r k : Int)
  | 0, _ => by simp only [leastB, minD]; exact hS r (by omega)
  | k + 1, hk => by
    have ih := least_eq d S hS r hr k (by omega)
    simp only [leastB, minD]
    have hm := An_mono F d ls k r
    have hfr := ho.fr
    have hsm := An_small ho hg d (k + r) (by omega)
    rw [ih, hS (k + r) (by omega), hS k (by omega), IntWalk.u64_in _ (by omega)]
    unfold mn
    split <;> omega

theorem supplyV_eq (d n : Int) (hn : 0 ≤ n ∧ n ≤ 281474976710656) : supplyV F n (gives F (ofDom d ls)) = (supN F d ls n.toNat : Int) := by
  have hfr := ho.fr
  have m0 := Int.emod_nonneg n (show F ≠ 0 by omega)
  have m1 := Int.emod_lt_of_pos n (show 0 < F by omega)
  have hq0 : 0 ≤ n / F := Int.ediv_nonneg hn.1 (by omega)
  have hq1 : n / F ≤ n := Int.ediv_le_self _ hn.1
  have hS : ∀ i : Nat, (i : Int) ≤ 2 * F → (sums F (gives F (ofDom d ls)) (2 * F).toNat).getD i 0 = (An F d ls i : Int) := fun i hi => sums_get ho hg d _ (by omega) i (by omega)
  have hsm := An_small ho hg d F.toNat (by omega)
  have hmin := minD_le (An F d ls) (n % F).toNat F.toNat 0 (by omega)
  have hsm2 := An_small ho hg d (0 + (n % F).toNat) (by omega)
  unfold supplyV
  rw [hS F.toNat (by omega), least_eq ho hg d _ hS (n % F).toNat (by omega) F.toNat (by omega)]
  have hprod : 0 ≤ n / F * (An F d ls F.toNat : Int) ∧ n / F * (An F d ls F.toNat : Int) ≤ 281474976710656 * 64 := by
    have hle : (An F d ls F.toNat : Int) ≤ F * 64 := by
      have h1 := An_le F d ls F.toNat
      have h2 := ho.n
      have h3 : F.toNat * ls.length ≤ F.toNat * 64 := Nat.mul_le_mul_left _ h2.2
      omega
    refine ⟨Int.mul_nonneg hq0 (by omega), ?_⟩
    have h4 : n / F * (An F d ls F.toNat : Int) ≤ n / F * (F * 64) := Int.mul_le_mul_of_nonneg_left hle hq0
    have h5 : n / F * (F * 64) = (F * (n / F)) * 64 := by rw [← Int.mul_assoc, Int.mul_comm (n / F) F]
    have h6 : F * (n / F) ≤ n := by have := Int.emod_add_mul_ediv n F; omega
    rw [h5] at h4
    omega
  rw [IntWalk.u64_in (n / F * (An F d ls F.toNat : Int)) (by omega), IntWalk.u64_in _ (by omega), supN_split F d hfr.1 ls]
  have e1 : ((n.toNat / F.toNat : Nat) : Int) = n / F := by
    rw [Int.natCast_ediv, Int.toNat_of_nonneg hn.1, Int.toNat_of_nonneg (by omega)]
  have e2 : n.toNat % F.toNat = (n % F).toNat := by
    have : ((n.toNat % F.toNat : Nat) : Int) = n % F := by rw [Int.natCast_emod, Int.toNat_of_nonneg hn.1, Int.toNat_of_nonneg (by omega)]
    omega
  rw [e2, Int.natCast_add, Int.natCast_mul, e1]

theorem inFrameP_all (d : Int) : (ls.flatten.all fun s => decide (s.f0 = d) → inFrameP F s) = true := by
  rw [List.all_eq_true]
  intro s hs
  obtain ⟨l, hl, hsl⟩ := List.mem_flatten.1 hs
  have h1 := okProc_each (Int.le_refl 0) (ho.p l hl).2 s hsl
  have h2 := (hg l hl s hsl).2.2.2.1
  simp [inFrameP]
  exact .inr ⟨by omega, by omega, by omega, by omega⟩
end

theorem supply_f {F : Int} {ls : List (List S48)} (hg : ∀ l ∈ ls, ∀ s ∈ l, G48 s) (d n : Int) (hn : 0 ≤ n) (k : Nat) (hk : 4000 ≤ k) : table_Supply.f k F ls d n = some (if mayS F ls 0 d = 0 then (if n > 281474976710656 then (0, 1) else ((supN F d ls n.toNat : Int), 0)) else (0, mayS F ls 0 d)) := by
  unfold table_Supply.f
  rw [may_f F ls hg 0 d k hk]
  simp only [Option.bind_some]
  by_cases c : mayS F ls 0 d = 0
  · obtain ⟨ho, _⟩ := may_ok c
    have hfr := ho.fr
    rw [if_pos c, if_pos c]
    by_cases c2 : n > 281474976710656
    · rw [if_pos c2, if_pos c2]
    · rw [if_neg c2, if_neg c2, if_pos ⟨hfr.1, hfr.2, hn, inFrameP_all ho hg d⟩, supplyV_eq ho hg d n ⟨hn, by omega⟩]
  · rw [if_neg c, if_neg c]
end Go.Proofs.Ytiacikmignjdoaa.CTableAdds

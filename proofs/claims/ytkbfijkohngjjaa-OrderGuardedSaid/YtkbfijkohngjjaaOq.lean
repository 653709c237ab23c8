/- What Before answers, in plain words; that the law's own small trace is seen as it should. Conditions: each theorem's own. -/
import Derived.Test.YtkbfijkohngjjaaQOrderx4
set_option linter.unusedVariables false
set_option linter.unusedSimpArgs false
namespace Go.Proofs.Ytkbfijkohngjjaa.Od
open Go.RowKit Go.Proofs.Ytkbfijkohngjjaa.QOrder Go.Proofs.YtkbfijkohngjjaaW.PrintWords Go.Proofs.YtkbfijkohngjjaaW.PrintLast Go.Proofs.YtkbfijkohngjjaaW.PrintMore

theorem div_pow {x : Int} (h : 0 ≤ x) (m : Nat) : x / 2 ^ m = ((x.toNat / 2 ^ m : Nat) : Int) := by
  obtain ⟨n, rfl⟩ := Int.eq_ofNat_of_zero_le h
  rw [Int.toNat_natCast]
  simp
theorem in_eq {s : List Int} (hs : AllW s) {p : Nat} (hp : p ≤ 65536) : order_in.f s (p : Int) = some (inS s p) := by
  have h1 : Int.tdiv (p : Int) 64 = ((p / 64 : Nat) : Int) := rfl
  have h2 : Int.tmod (p : Int) 64 = ((p % 64 : Nat) : Int) := rfl
  have h3 : wrap64 ((p / 64 : Nat) : Int) = ((p / 64 : Nat) : Int) := by rw [wrap64]; omega
  unfold order_in.f inS
  rw [h1, h2, h3]
  by_cases c : p / 64 < s.length
  · rw [if_pos (by omega), if_pos (Int.natCast_nonneg _), if_pos (Int.natCast_nonneg _)]
    congr 1
    have hm : p % 64 < 64 := Nat.mod_lt _ (by decide)
    have hw := hs.get (p / 64)
    have e1 : rd s ((p / 64 : Nat) : Int) = s.getD (p / 64) 0 := by unfold rd; rw [Int.toNat_natCast]
    rw [e1]
    generalize s.getD (p / 64) 0 = x at *
    have e2 : shr .u64 x ((p % 64 : Nat) : Int) = ((x.toNat / 2 ^ (p % 64) : Nat) : Int) := by
      unfold shr
      rw [Int.toNat_natCast, Nat.min_eq_left (show p % 64 ≤ IntKind.u64.bits from Nat.le_of_lt hm)]
      exact div_pow hw.1 _
    rw [e2]
    have h4 : x.toNat / 2 ^ (p % 64) < 18446744073709551616 := Nat.lt_of_le_of_lt (Nat.div_le_self _ _) (by have := hw.1; have := hw.2; omega)
    have e3 := bits_and_u64_nat (x.toNat / 2 ^ (p % 64)) 1 h4 (by decide)
    rw [show ((1 : Nat) : Int) = 1 from rfl] at e3
    rw [e3, Nat.and_one_is_mod]
    unfold bitI
    rw [Nat.testBit_eq_decide_div_mod_eq]
    have : decide (p / 64 < s.length) = true := decide_eq_true c
    rw [this, Bool.true_and]
    by_cases d : x.toNat / 2 ^ (p % 64) % 2 = 1
    · simp [d]
    · have d2 : x.toNat / 2 ^ (p % 64) % 2 = 0 := by omega
      simp [d2]
  · rw [if_neg (by omega)]
    simp [c]
/-- The answer to Before. -/
noncomputable def befB (l : List S36) (caps : List Int) (i j : Nat) : Bool := inS (rowF l (canonA l caps) j) i
theorem befB_iff {l : List S36} {caps : List Int} {i j : Nat} : befB l caps i j = true ↔ Bef l (canonA l caps) i j := (row_in (canon_fwd l caps) j).2.2 i
noncomputable def errF (l : List S36) (caps : List Int) : Int := (arrowsF l caps).2.2
noncomputable def beforeF (l : List S36) (caps : List Int) (i j : Int) : Bool × Int :=
  if 65536 < l.length then (false, 2) else if i < 0 ∨ (l.length : Int) ≤ i ∨ j < 0 ∨ (l.length : Int) ≤ j then (false, 1) else if errF l caps = 0 then (befB l caps i.toNat j.toNat, 0) else (false, errF l caps)
theorem before_eq (k : Nat) (l : List S36) (caps : List Int) (i j : Int) : order_Before.f (k + 1) l caps i j = some (beforeF l caps i j) := by
  unfold order_Before.f beforeF
  by_cases c0 : 65536 < l.length
  · rw [if_pos (by omega), if_pos c0]
  · rw [if_neg (by omega), if_neg c0]
    by_cases c1 : i < 0
    · rw [if_pos c1, if_pos (.inl c1)]; rfl
    · rw [if_neg c1]
      by_cases c2 : i ≥ (l.length : Int)
      · rw [if_pos c2, if_pos (.inr (.inl c2))]; rfl
      · rw [if_neg c2]
        by_cases c3 : j < 0
        · rw [if_pos c3, if_pos (.inr (.inr (.inl c3)))]; rfl
        · rw [if_neg c3]
          by_cases c4 : j ≥ (l.length : Int)
          · rw [decide_eq_true c4, if_pos (.inr (.inr (.inr c4)))]; rfl
          · rw [decide_eq_false c4, if_neg (by omega)]
            unfold order_Before.j0 order_sets.f setsF
            obtain ⟨p, rfl⟩ := Int.eq_ofNat_of_zero_le (show 0 ≤ i by omega)
            obtain ⟨q, rfl⟩ := Int.eq_ofNat_of_zero_le (show 0 ≤ j by omega)
            have hq : q < l.length := by omega
            simp only [Option.bind_some]
            rw [if_neg (by decide)]
            by_cases e : (arrowsF l caps).2.2 = 0
            · have h2 : errF l caps = 0 := e
              obtain ⟨_, hc⟩ := arrowsF_e0 e
              rw [if_pos e, if_pos h2, hc]
              simp only
              rw [if_pos trivial, if_pos (Int.natCast_nonneg _), rowL_len, if_pos (Int.ofNat_lt.2 hq)]
              have e1 : rd_L4 (rowL l (canonA l caps) l.length) (q : Int) = rowF l (canonA l caps) q := by
                unfold rd_L4
                rw [Int.toNat_natCast]
                exact rowL_get hq
              rw [e1, in_eq (row_in (canon_fwd l caps) q).2.1 (by omega)]
              rfl
            · have h2 : ¬ errF l caps = 0 := e
              rw [if_neg e, if_neg h2]
              simp only
              rw [if_neg e]
              rfl
theorem err0 {l : List S36} {caps : List Int} (h1 : l.length ≤ 65536) (h2 : ∀ j, j < l.length → ¬ bad l caps j) : errF l caps = 0 := by
  unfold errF
  rcases arrowsF_cases l caps with h | h
  · rw [h.2.2]
  · rcases h.2.2 with h | ⟨j, h3, h4⟩
    · omega
    · exact absurd h4 (h2 j h3)
/-- What comes ahead stands ahead; one event of a goroutine comes ahead of each later one. -/
theorem befB_lt {l : List S36} {caps : List Int} {i j : Nat} (h : befB l caps i j = true) : i < j := bef_lt (canon_fwd l caps) (befB_iff.1 h)
theorem befB_trans {l : List S36} {caps : List Int} {i j k : Nat} (h1 : befB l caps i j = true) (h2 : befB l caps j k = true) : befB l caps i k = true := befB_iff.2 (bef_trans (befB_iff.1 h1) (befB_iff.1 h2))
theorem bef_own {l : List S36} {o : List S60} {i : Nat} (hn : nob (E l i).f2 = false) : ∀ j, i < j → (E l i).f2 = (E l j).f2 → Bef l o i j := by
  intro j
  induction j using Nat.strongRecOn with
  | ind j ih =>
    intro hij he
    cases hl : lastN (fun k => samG (E l k).f2 (E l j).f2) j with
    | none =>
      have := lastN_none hl i hij
      rw [he] at this
      have h2 : samG (E l j).f2 (E l j).f2 = true := samG_iff.2 rfl
      rw [h2] at this
      cases this
    | some k =>
      obtain ⟨h1, h2, h3⟩ := lastN_some hl
      have hk : (E l k).f2 = (E l j).f2 := samG_iff.1 h2
      have ha : Od.ahead l j = (k : Int) := by
        unfold Od.ahead aheadN
        rw [← he, hn, if_neg (by decide), he, hl]
        rfl
      have hs : k ∈ srcs l o j := by
        unfold srcs
        rw [ha, if_pos (Int.natCast_nonneg _), Int.toNat_natCast]
        exact List.mem_append_left _ (List.mem_singleton.2 rfl)
      by_cases c : i = k
      · subst c; exact .one hs
      · by_cases c2 : i < k
        · exact .more (ih k h1 c2 (he.trans hk.symm)) hs
        · have := h3 i (by omega) hij
          rw [he] at this
          have h4 : samG (E l j).f2 (E l j).f2 = true := samG_iff.2 rfl
          rw [h4] at this
          cases this
def trace4 : List S36 := [⟨0, 0, ⟨1, 1⟩, 29, 0, 0, 0⟩, ⟨0, 0, ⟨1, 1⟩, 21, 3, 0, 0⟩, ⟨0, 0, ⟨2, 1⟩, 20, 3, 0, 0⟩, ⟨0, 0, ⟨2, 1⟩, 28, 0, 0, 0⟩]
theorem trace4_bad : ∀ j, j < trace4.length → ¬ bad trace4 [] j := by
  intro j hj ⟨f, w, h, hf⟩
  have hj4 : j < 4 := hj
  have hk : (E trace4 j).f3 ≠ 16 ∧ (E trace4 j).f3 ≠ 17 ∧ (E trace4 j).f3 ≠ 26 ∧ (E trace4 j).f3 ≠ 6 ∧ (E trace4 j).f3 ≠ 25 := by
    rcases j with _ | _ | _ | _ | j
    · decide
    · decide
    · decide
    · decide
    · omega
  obtain ⟨k1, k2, k3, k4, k5⟩ := hk
  rcases h with h | h | h | h | h
  · have := h.1
    unfold readWrong at this
    simp [k1, k2] at this
  · rcases h with h | h
    · exact k2 h.1
    · exact k1 h.1
  · exact k3 h.1
  · rcases h with h | ⟨i, hi, rfl, _⟩
    · exact k4 h.1
    · omega
  · exact k5 h.1
theorem trace4_yes : befB trace4 [] 0 3 = true := by
  refine befB_iff.2 (bef_trans (bef_own (i := 0) (by decide) 1 (by decide) rfl) (bef_trans (j := 2) (.one ?_) (bef_own (i := 2) (by decide) 3 (by decide) rfl)))
  unfold srcs
  refine List.mem_append_right _ (List.mem_map.2 ⟨⟨1, 2, 5⟩, List.mem_filter.2 ⟨((canon_spec trace4 []).2 _).2 ⟨2, by decide, rfl, by decide, by decide, ?_⟩, by decide⟩, rfl⟩)
  refine .inr (.inr (.inr (.inl (.inr ⟨1, by decide, rfl, .inr (.inl ⟨rfl, .inl rfl, rfl, rfl, rfl⟩)⟩))))
theorem awake_eq (k : Nat) : rotalaw26_awake.f (k + 1) = some true := by
  have h0 : errF trace4 [] = 0 := err0 (by decide) trace4_bad
  have h1 : beforeF trace4 [] 0 3 = (true, 0) := by
    unfold beforeF
    rw [if_neg (by decide), if_neg (by decide), if_pos h0]
    show (befB trace4 [] 0 3, _) = _
    rw [trace4_yes]
  have h2 : beforeF trace4 [] 3 0 = (false, 0) := by
    unfold beforeF
    rw [if_neg (by decide), if_neg (by decide), if_pos h0]
    have : befB trace4 [] 3 0 = false := by
      cases c : befB trace4 [] 3 0 with
      | false => rfl
      | true => have := befB_lt c; omega
    show (befB trace4 [] 3 0, _) = _
    rw [this]
  unfold rotalaw26_awake.f
  simp only [Option.bind_some]
  rw [show ([(⟨0, 0, (⟨1, 1⟩ : S34), 29, 0, 0, 0⟩ : S36), (⟨0, 0, (⟨1, 1⟩ : S34), 21, 3, 0, 0⟩ : S36), (⟨0, 0, (⟨2, 1⟩ : S34), 20, 3, 0, 0⟩ : S36), (⟨0, 0, (⟨2, 1⟩ : S34), 28, 0, 0, 0⟩ : S36)] : List S36) = trace4 from rfl, before_eq, before_eq, h1, h2]
  rfl
end Go.Proofs.Ytkbfijkohngjjaa.Od

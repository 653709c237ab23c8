/- OrderStrict: the pure statement. Conditions: none. -/
import Derived.Test.YtkbfijkohngjjaaOrderStrictS
import Derived.Test.YtkbfijkohngjjaaOq
set_option linter.unusedVariables false
set_option linter.unusedSimpArgs false
namespace Go.Proofs.Ytkbfijkohngjjaa.SOrderStrict
open Go.RowKit Go.Proofs.Ytkbfijkohngjjaa.QOrder Go.Proofs.Ytkbfijkohngjjaa.Od
theorem bef_err {l : List S36} {caps : List Int} {i j : Int} (h : (beforeF l caps i j).1 = true) : (beforeF l caps i j).2 = 0 := by
  unfold beforeF at h ⊢
  by_cases c0 : 65536 < l.length
  · rw [if_pos c0] at h; cases h
  · rw [if_neg c0] at h ⊢
    by_cases c1 : i < 0 ∨ (l.length : Int) ≤ i ∨ j < 0 ∨ (l.length : Int) ≤ j
    · rw [if_pos c1] at h; cases h
    · rw [if_neg c1] at h ⊢
      by_cases c2 : errF l caps = 0
      · rw [if_pos c2]
      · rw [if_neg c2] at h; cases h
theorem bef_ok {l : List S36} {caps : List Int} {i j : Int} (h : (beforeF l caps i j).2 = 0) : ∃ p q : Nat, i = (p : Int) ∧ j = (q : Int) ∧ p < l.length ∧ q < l.length ∧ (beforeF l caps i j).1 = befB l caps p q := by
  unfold beforeF at h ⊢
  by_cases c0 : 65536 < l.length
  · rw [if_pos c0] at h; cases h
  · rw [if_neg c0] at h ⊢
    by_cases c1 : i < 0 ∨ (l.length : Int) ≤ i ∨ j < 0 ∨ (l.length : Int) ≤ j
    · rw [if_pos c1] at h; cases h
    · rw [if_neg c1] at h ⊢
      by_cases c2 : errF l caps = 0
      · rw [if_pos c2]
        exact ⟨i.toNat, j.toNat, by omega, by omega, by omega, by omega, rfl⟩
      · rw [if_neg c2] at h; exact absurd h c2
theorem rd_E (l : List S36) (p : Nat) : rd_T36 l (p : Int) = E l p := by unfold rd_T36 E; rw [Int.toNat_natCast]
theorem err_eq (m : Nat) (l : List S36) (i j k : Int) (a b c : Bool) (e f g : Int) (ha : a = true → e = 0) (hb : b = true → f = 0) (hc : c = true → g = 0) : rotalaw26_OrderStrict.j0 (m + 2) l i j k a e b f c g true = some true := by
  show rotalaw26_OrderStrict.j0 ((m + 1) + 1) l i j k a e b f c g true = some true
  rw [rotalaw26_OrderStrict.j0, if_pos rfl, awake_eq]
  cases a <;> cases b <;> cases c <;> simp_all
theorem ok_eq (m : Nat) (l : List S36) (p q r : Nat) (a b c : Bool) (hp : p < l.length) (hq : q < l.length) (ha : a = true → p < q) (hb : b = true → q < r) (hc : c = true → p < r) (hd : a = true → b = true → c = true)
    (ho : (E l p).f2 = (E l q).f2 → nob (E l p).f2 = false → p < q → a = true) : rotalaw26_OrderStrict.j0 (m + 1) l (p : Int) (q : Int) (r : Int) a 0 b 0 c 0 false = some true := by
  have key : (if 0 ≤ (p : Int) then (if (p : Int) < (l.length : Int) then (if 0 ≤ (q : Int) then (if (q : Int) < (l.length : Int) then (if (((rd_T36 l (p : Int)).f2.f0) == ((rd_T36 l (q : Int)).f2.f0) && (((rd_T36 l (p : Int)).f2.f1) == ((rd_T36 l (q : Int)).f2.f1))) = true then (if (!(((rd_T36 l (p : Int)).f2.f0) == 0) || (!(((rd_T36 l (p : Int)).f2.f1) == 0))) = true then (if (p : Int) < (q : Int) then (some a) else (some true)) else (some true)) else (some true)) else (none)) else (none)) else (none)) else (none)) = some true := by
    rw [if_pos (Int.natCast_nonneg _), if_pos (Int.ofNat_lt.2 hp), if_pos (Int.natCast_nonneg _), if_pos (Int.ofNat_lt.2 hq), rd_E, rd_E]
    by_cases c1 : ((E l p).f2.f0 == (E l q).f2.f0 && (E l p).f2.f1 == (E l q).f2.f1) = true
    · rw [if_pos c1]
      by_cases c2 : (!((E l p).f2.f0 == 0) || !((E l p).f2.f1 == 0)) = true
      · rw [if_pos c2]
        by_cases c3 : (p : Int) < (q : Int)
        · rw [if_pos c3, ho (samG_iff.1 c1) (by unfold nob; cases h1 : ((E l p).f2.f0 == 0) <;> cases h2 : ((E l p).f2.f1 == 0) <;> simp_all) (by omega)]
        · rw [if_neg c3]
      · rw [if_neg c2]
    · rw [if_neg c1]
  rw [rotalaw26_OrderStrict.j0, if_neg (by decide), key]
  clear key
  repeat' split
  all_goals first | rfl | (exfalso; have h1 := ha (by assumption); omega) | (exfalso; have h1 := hb (by assumption); omega) | (exfalso; have h1 := hc (by assumption); omega) | (exfalso; have h1 := hd (by assumption) (by assumption); contradiction) | (simp_all; done)
theorem pure : Pure := fun l caps i j k _ _ _ _ _ => ⟨2, by
  unfold rotalaw26_OrderStrict.f
  rw [before_eq, before_eq, before_eq]
  simp only [Option.bind_some]
  by_cases h1 : (beforeF l caps i j).2 = 0
  · rw [if_pos h1]
    by_cases h2 : (beforeF l caps j k).2 = 0
    · rw [if_pos h2]
      by_cases h3 : (beforeF l caps i k).2 = 0
      · obtain ⟨p, q, rfl, rfl, hp, hq, e1⟩ := bef_ok h1
        obtain ⟨q', r, hq', rfl, hq2, hr, e2⟩ := bef_ok h2
        obtain ⟨p', r', hp', hr', _, _, e3⟩ := bef_ok h3
        obtain rfl : q = q' := by omega
        obtain rfl : p = p' := by omega
        obtain rfl : r = r' := by omega
        rw [h1, h2, h3, e1, e2, e3]
        exact ok_eq 1 l p q r _ _ _ hp hq befB_lt befB_lt befB_lt befB_trans (fun a b c => befB_iff.2 (bef_own b q c a))
      · have : ((beforeF l caps i k).2 != 0) = true := by simpa using h3
        rw [this]
        exact err_eq 0 l i j k _ _ _ _ _ _ bef_err bef_err bef_err
    · rw [if_neg h2]
      exact err_eq 0 l i j k _ _ _ _ _ _ bef_err bef_err bef_err
  · rw [if_neg h1]
    exact err_eq 0 l i j k _ _ _ _ _ _ bef_err bef_err bef_err⟩
end Go.Proofs.Ytkbfijkohngjjaa.SOrderStrict

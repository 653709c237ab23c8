/- OrderGuarded: the pure statement. Conditions: none. -/
import Derived.Test.YtkbfijkohngjjaaOrderGuardedS
import Derived.Test.YtkbfijkohngjjaaRa
set_option linter.unusedVariables false
set_option linter.unusedSimpArgs false
namespace Go.Proofs.Ytkbfijkohngjjaa.SOrderGuarded
open Go.RowKit Go.Proofs.Ytkbfijkohngjjaa.QOrder Go.Proofs.Ytkbfijkohngjjaa.Od Go.Proofs.YtkbfijkohngjjaaW.PrintWords
def isLk (m : Int) (e : S36) : Bool := (e.f3 == 20 && (e.f4 == m && e.f5 == 0)) || (e.f3 == 25 && e.f5 == m)
def isUn (m : Int) (e : S36) : Bool := e.f3 == 21 && (e.f4 == m && e.f5 == 0)
theorem lk_un {m : Int} {e : S36} (h : isLk m e = true) : isUn m e = false := by
  unfold isLk at h
  unfold isUn
  simp only [Bool.or_eq_true, Bool.and_eq_true, beq_iff_eq] at h
  have : e.f3 ≠ 21 := by omega
  simp [this]
/-- Who has the mutex behind an event; none: that may not be. -/
def stepX (m : Int) (e : S36) (who : S34) : Option S34 :=
  if isLk m e = true then (if (nob who && !nob e.f2) = true then some e.f2 else none) else if isUn m e = true then (if samG who e.f2 = true then some ⟨0, 0⟩ else none) else some who
def runX (l : List S36) (m : Int) : Nat → Nat → S34 → Option S34
  | _, 0, who => some who
  | i, cnt + 1, who => (stepX m (E l i) who).bind (runX l m (i + 1) cnt)
theorem rd_E (l : List S36) (p : Nat) : rd_T36 l (p : Int) = E l p := by unfold rd_T36 E; rw [Int.toNat_natCast]
theorem ex_l0 (l : List S36) (m : Int) {i : Nat} (hi : i < l.length) (k : Nat) (a b : Int) : rotalaw26_exclusive.l0 (k + 1) l m (i : Int) a b = rotalaw26_exclusive.j1 k l m (i : Int) (isLk m (E l i)) a b (E l i).f0 (E l i).f1 (E l i).f2.f0 (E l i).f2.f1 (E l i).f3 (E l i).f4 (E l i).f5 (E l i).f6 := by
  rw [rotalaw26_exclusive.l0, if_pos (Int.ofNat_lt.2 hi), if_pos (Int.natCast_nonneg _), rd_E]
  unfold isLk
  by_cases h1 : (E l i).f3 = 20
  · have h4 : ¬ (E l i).f3 = 25 := by omega
    have b1 : ((E l i).f3 == 20) = true := by simp [h1]
    have b4 : ((E l i).f3 == 25) = false := by simp [h4]
    rw [if_pos h1, b1, b4]
    by_cases h2 : (E l i).f4 = m
    · have b2 : ((E l i).f4 == m) = true := by simp [h2]
      rw [if_pos h2, b2]
      by_cases h3 : (E l i).f5 = 0
      · have b3 : ((E l i).f5 == 0) = true := by simp [h3]
        rw [if_pos h3, b3]; rfl
      · have b3 : ((E l i).f5 == 0) = false := by simp [h3]
        rw [if_neg h3, if_neg h4, b3]; rfl
    · have b2 : ((E l i).f4 == m) = false := by simp [h2]
      rw [if_neg h2, if_neg h4, b2]; rfl
  · have b1 : ((E l i).f3 == 20) = false := by simp [h1]
    rw [if_neg h1, b1]
    by_cases h4 : (E l i).f3 = 25
    · have b4 : ((E l i).f3 == 25) = true := by simp [h4]
      rw [if_pos h4, b4]
      simp
    · have b4 : ((E l i).f3 == 25) = false := by simp [h4]
      rw [if_neg h4, b4]; rfl
theorem ex_j2 (l : List S36) (m : Int) (i : Int) (k : Nat) (a b : Int) (e : S36) : rotalaw26_exclusive.j2 (k + 1) l m i a b e.f0 e.f1 e.f2.f0 e.f2.f1 e.f3 e.f4 e.f5 e.f6 = rotalaw26_exclusive.j3 k l m i (isUn m e) a b e.f0 e.f1 e.f2.f0 e.f2.f1 e.f3 e.f4 e.f5 e.f6 := by
  rw [rotalaw26_exclusive.j2]
  unfold isUn
  by_cases h1 : e.f3 = 21
  · have b1 : (e.f3 == 21) = true := by simp [h1]
    rw [if_pos h1, b1]
    by_cases h2 : e.f4 = m
    · have b2 : (e.f4 == m) = true := by simp [h2]
      rw [if_pos h2, b2]; rfl
    · have b2 : (e.f4 == m) = false := by simp [h2]
      rw [if_neg h2, b2]; rfl
  · have b1 : (e.f3 == 21) = false := by simp [h1]
    rw [if_neg h1, b1]; rfl
theorem ex_run (l : List S36) (m : Int) (hl : l.length ≤ 65536) : ∀ (cnt i : Nat) (who : S34), i + cnt = l.length → rotalaw26_exclusive.l0 (4 * cnt + 1) l m (i : Int) who.f0 who.f1 = some (runX l m i cnt who).isSome := by
  intro cnt
  induction cnt with
  | zero =>
    intro i who hi
    rw [show 4 * 0 + 1 = 0 + 1 from rfl, rotalaw26_exclusive.l0, if_neg (by omega)]
    rfl
  | succ cnt ih0 =>
    intro i who hi
    have hil : i < l.length := by omega
    have hw : wrap64 ((i : Int) + 1) = ((i + 1 : Nat) : Int) := by rw [wrap64]; omega
    have ih := fun who => ih0 (i + 1) who (by omega)
    have e1 : ∀ g : S34, (!(g.f0 == 0) || !(g.f1 == 0)) = !(nob g) := fun g => by unfold nob; rw [Bool.not_and]
    have e2 : ∀ g h : S34, (!(g.f0 == h.f0) || !(g.f1 == h.f1)) = !(samG g h) := fun g h => by unfold samG; rw [Bool.not_and]
    have tail : ∀ who : S34, rotalaw26_exclusive.j2 (4 * cnt + 1 + 1 + 1) l m (i : Int) who.f0 who.f1 (E l i).f0 (E l i).f1 (E l i).f2.f0 (E l i).f2.f1 (E l i).f3 (E l i).f4 (E l i).f5 (E l i).f6 = some ((if isUn m (E l i) = true then (if samG who (E l i).f2 = true then some (⟨0, 0⟩ : S34) else none) else some who).bind (runX l m (i + 1) cnt)).isSome := by
      intro who
      rw [ex_j2, rotalaw26_exclusive.j3, hw, e2]
      cases isUn m (E l i)
      · rw [if_neg (by decide), if_neg (by decide), ih, Option.bind_some]
      · rw [if_pos rfl, if_pos rfl]
        cases samG who (E l i).f2
        · rw [if_pos (show (!false) = true from rfl), if_neg (by decide), Option.bind_none]; rfl
        · have := ih ⟨0, 0⟩
          rw [if_neg (by decide), if_pos rfl, Option.bind_some]
          exact this
    rw [show 4 * (cnt + 1) + 1 = (4 * cnt + 1 + 1 + 1 + 1) + 1 from by omega, ex_l0 l m hil, rotalaw26_exclusive.j1, e1]
    unfold runX stepX
    cases hlk : isLk m (E l i)
    · rw [if_neg (by decide), if_neg (by decide)]
      exact tail who
    · rw [if_pos rfl, if_pos rfl]
      have hnb : ((E l i).f2.f0 == 0 && (E l i).f2.f1 == 0) = nob (E l i).f2 := rfl
      rw [hnb]
      have ht := tail (E l i).f2
      rw [lk_un hlk, if_neg (by decide)] at ht
      cases nob who
      · rw [if_pos (show (!false) = true from rfl), Bool.false_and, if_neg (by decide), Option.bind_none]; rfl
      · cases nob (E l i).f2
        · rw [if_neg (by decide), if_neg (by decide), if_pos (show (true && !false) = true from rfl)]; exact ht
        · rw [if_neg (by decide), if_pos rfl, if_neg (by decide), Option.bind_none]; rfl
/-- Who has the mutex at a place. -/
def whoAt (l : List S36) (m : Int) : Nat → Option S34
  | 0 => some ⟨0, 0⟩
  | t + 1 => (whoAt l m t).bind (stepX m (E l t))
theorem who_run (l : List S36) (m : Int) : ∀ (cnt i : Nat), ((whoAt l m i).bind (runX l m i cnt)) = whoAt l m (i + cnt)
  | 0, i => by
    cases h : whoAt l m i with
    | none => simp [h]
    | some g => simp [runX, h]
  | cnt + 1, i => by
    have := who_run l m cnt (i + 1)
    rw [show i + (cnt + 1) = i + 1 + cnt by omega, ← this]
    cases h : whoAt l m i with
    | none => simp [whoAt, h]
    | some g => simp [whoAt, runX, h]
theorem who_all {l : List S36} {m : Int} {n : Nat} (h : (whoAt l m n).isSome = true) : ∀ t, t ≤ n → ∃ g, whoAt l m t = some g := by
  intro t ht
  have : whoAt l m n = (whoAt l m t).bind (runX l m t (n - t)) := by rw [who_run]; congr 1; omega
  cases hg : whoAt l m t with
  | none => rw [this, hg] at h; cases h
  | some g => exact ⟨g, rfl⟩
/-- Has the goroutine of 'at' locked the mutex, as told by the events below i? -/
def hasN (l : List S36) (m : Int) (at_ : Nat) : Nat → Bool
  | 0 => false
  | i + 1 => if samG (E l i).f2 (E l at_).f2 = true then (if isUn m (E l i) = true then false else if isLk m (E l i) = true then true else hasN l m at_ i) else hasN l m at_ i
theorem wi_l0 (l : List S36) (m : Int) {i at_ : Nat} (hi : i < at_) (ha : at_ < l.length) (k : Nat) (h : Bool) : rotalaw26_within.l0 (k + 1) l (at_ : Int) m h (i : Int) = if samG (E l i).f2 (E l at_).f2 = true then rotalaw26_within.j1 k l (at_ : Int) m h (i : Int) (isLk m (E l i)) else rotalaw26_within.l0 k l (at_ : Int) m h (wrap64 ((i : Int) + 1)) := by
  have e2 : ∀ g h : S34, (!(g.f0 == h.f0) || !(g.f1 == h.f1)) = !(samG g h) := fun g h => by unfold samG; rw [Bool.not_and]
  rw [rotalaw26_within.l0, if_pos (Int.ofNat_lt.2 hi), if_pos (Int.natCast_nonneg _), if_pos (by omega), if_pos (Int.natCast_nonneg _), if_pos (by omega), rd_E, rd_E, e2]
  cases samG (E l i).f2 (E l at_).f2
  · rw [if_pos (show (!false) = true from rfl), if_neg (by decide)]
  · rw [if_neg (by decide), if_pos rfl]
    unfold isLk
    by_cases h1 : (E l i).f3 = 20
    · have h4 : ¬ (E l i).f3 = 25 := by omega
      have b1 : ((E l i).f3 == 20) = true := by simp [h1]
      have b4 : ((E l i).f3 == 25) = false := by simp [h4]
      rw [if_pos h1, b1, b4]
      by_cases h2 : (E l i).f4 = m
      · have b2 : ((E l i).f4 == m) = true := by simp [h2]
        rw [if_pos h2, b2]
        by_cases h3 : (E l i).f5 = 0
        · have b3 : ((E l i).f5 == 0) = true := by simp [h3]
          rw [if_pos h3, b3]; rfl
        · have b3 : ((E l i).f5 == 0) = false := by simp [h3]
          rw [if_neg h3, if_neg h4, b3]; rfl
      · have b2 : ((E l i).f4 == m) = false := by simp [h2]
        rw [if_neg h2, if_neg h4, b2]; rfl
    · have b1 : ((E l i).f3 == 20) = false := by simp [h1]
      rw [if_neg h1, b1]
      by_cases h4 : (E l i).f3 = 25
      · have b4 : ((E l i).f3 == 25) = true := by simp [h4]
        rw [if_pos h4, b4]
        simp
      · have b4 : ((E l i).f3 == 25) = false := by simp [h4]
        rw [if_neg h4, b4]; rfl
theorem wi_j1 (l : List S36) (m : Int) {i at_ : Nat} (hi : i < l.length) (k : Nat) (h x : Bool) : rotalaw26_within.j1 (k + 1) l (at_ : Int) m h (i : Int) x = rotalaw26_within.l0 k l (at_ : Int) m (if isUn m (E l i) = true then false else if x = true then true else h) (wrap64 ((i : Int) + 1)) := by
  rw [rotalaw26_within.j1, rd_E]
  unfold isUn
  have g0 : (0 : Int) ≤ (i : Int) := Int.natCast_nonneg _
  have g1 : (i : Int) < (l.length : Int) := Int.ofNat_lt.2 hi
  by_cases h1 : (E l i).f3 = 21
  · have b1 : ((E l i).f3 == 21) = true := by simp [h1]
    by_cases h2 : (E l i).f4 = m
    · have b2 : ((E l i).f4 == m) = true := by simp [h2]
      by_cases h3 : (E l i).f5 = 0
      · have b3 : ((E l i).f5 == 0) = true := by simp [h3]
        rw [b1, b2, b3]
        cases x <;> simp [g0, g1, h1, h2, h3]
      · have b3 : ((E l i).f5 == 0) = false := by simp [h3]
        rw [b1, b2, b3]
        cases x <;> simp [g0, g1, h1, h2, h3]
    · have b2 : ((E l i).f4 == m) = false := by simp [h2]
      rw [b1, b2]
      cases x <;> simp [g0, g1, h1, h2]
  · have b1 : ((E l i).f3 == 21) = false := by simp [h1]
    rw [b1]
    cases x <;> simp [g0, g1, h1]
theorem wi_run (l : List S36) (m : Int) (hl : l.length ≤ 65536) {at_ : Nat} (ha : at_ < l.length) : ∀ (cnt i : Nat), i + cnt = at_ → ∃ K, ∀ k, K ≤ k → rotalaw26_within.l0 k l (at_ : Int) m (hasN l m at_ i) (i : Int) = some (hasN l m at_ at_)
  | 0, i, hi => by
    have : i = at_ := by omega
    subst this
    refine ⟨1, fun k hk => ?_⟩
    obtain ⟨k, rfl⟩ : ∃ j, k = j + 1 := ⟨k - 1, by omega⟩
    rw [rotalaw26_within.l0, if_neg (by omega)]
  | cnt + 1, i, hi => by
    have hil : i < at_ := by omega
    have hw : wrap64 ((i : Int) + 1) = ((i + 1 : Nat) : Int) := by rw [wrap64]; omega
    obtain ⟨K, ih⟩ := wi_run l m hl ha cnt (i + 1) (by omega)
    refine ⟨K + 2, fun k hk => ?_⟩
    obtain ⟨k, rfl⟩ : ∃ j, k = j + 1 + 1 := ⟨k - 2, by omega⟩
    rw [wi_l0 l m hil ha]
    by_cases c : samG (E l i).f2 (E l at_).f2 = true
    · rw [if_pos c, wi_j1 l m (by omega), hw]
      have := ih k (by omega)
      have e : hasN l m at_ (i + 1) = (if isUn m (E l i) = true then false else if isLk m (E l i) = true then true else hasN l m at_ i) := by
        conv => lhs; unfold hasN
        rw [if_pos c]
      rw [e] at this
      exact this
    · rw [if_neg c, hw]
      have := ih (k + 1) (by omega)
      have e : hasN l m at_ (i + 1) = hasN l m at_ i := by
        conv => lhs; unfold hasN
        rw [if_neg c]
      rw [e] at this
      exact this
theorem within_ev (l : List S36) (m : Int) (hl : l.length ≤ 65536) {at_ : Nat} (ha : at_ < l.length) : ∃ K, ∀ k, K ≤ k → rotalaw26_within.f k l (at_ : Int) m = some (hasN l m at_ at_) := wi_run l m hl ha at_ 0 (by omega)
section
variable {l : List S36} {m : Int} {n : Nat}
theorem step_some {e : S36} {g h : S34} (hs : stepX m e g = some h) : (isLk m e = true ∧ nob g = true ∧ nob e.f2 = false ∧ h = e.f2) ∨ (isLk m e = false ∧ isUn m e = true ∧ samG g e.f2 = true ∧ h = ⟨0, 0⟩) ∨ (isLk m e = false ∧ isUn m e = false ∧ h = g) := by
  unfold stepX at hs
  cases h1 : isLk m e
  · rw [h1, if_neg (by decide)] at hs
    cases h2 : isUn m e
    · rw [h2, if_neg (by decide)] at hs
      exact .inr (.inr ⟨rfl, rfl, (Option.some.inj hs).symm⟩)
    · rw [h2, if_pos rfl] at hs
      cases h3 : samG g e.f2
      · rw [h3] at hs; cases hs
      · rw [h3] at hs
        exact .inr (.inl ⟨rfl, rfl, rfl, (Option.some.inj hs).symm⟩)
  · rw [h1, if_pos rfl] at hs
    cases h2 : nob g
    · rw [h2] at hs; cases hs
    · cases h3 : nob e.f2
      · rw [h2, h3] at hs
        exact .inl ⟨rfl, rfl, rfl, (Option.some.inj hs).symm⟩
      · rw [h2, h3] at hs; cases hs
theorem who_step (hx : (whoAt l m n).isSome = true) {t : Nat} (ht : t < n) {g : S34} (hg : whoAt l m t = some g) : ∃ h, whoAt l m (t + 1) = some h ∧ stepX m (E l t) g = some h := by
  obtain ⟨h, hh⟩ := who_all hx (t + 1) ht
  refine ⟨h, hh, ?_⟩
  have : whoAt l m (t + 1) = stepX m (E l t) g := by show (whoAt l m t).bind _ = _; rw [hg]; rfl
  rw [← this]; exact hh
/-- Who has locked it, has it. -/
theorem has_who (hx : (whoAt l m n).isSome = true) {at_ : Nat} (hnb : nob (E l at_).f2 = false) : ∀ i, i ≤ n → hasN l m at_ i = true → whoAt l m i = some (E l at_).f2
  | 0, _, h => by cases h
  | i + 1, hi, h => by
    obtain ⟨g, hg⟩ := who_all hx i (by omega)
    obtain ⟨h2, hh, hs⟩ := who_step hx (by omega) hg
    unfold hasN at h
    by_cases c : samG (E l i).f2 (E l at_).f2 = true
    · rw [if_pos c] at h
      rcases step_some hs with ⟨p1, p2, p3, p4⟩ | ⟨p1, p2, p3, p4⟩ | ⟨p1, p2, p3⟩
      · rw [hh, p4, samG_iff.1 c]
      · rw [p2, if_pos rfl] at h; cases h
      · rw [p1, p2, if_neg (by decide), if_neg (by decide)] at h
        rw [hh, p3, ← hg]
        exact has_who hx hnb i (by omega) h
    · rw [if_neg c] at h
      have hw := has_who hx hnb i (by omega) h
      rw [hg] at hw
      cases hw
      rcases step_some hs with ⟨p1, p2, p3, p4⟩ | ⟨p1, p2, p3, p4⟩ | ⟨p1, p2, p3⟩
      · rw [hnb] at p2; cases p2
      · exact absurd (samG_iff.2 (samG_iff.1 p3).symm) c
      · rw [hh, p3]
/-- From one owner to another one: the first has let go since. -/
theorem lets_go (hx : (whoAt l m n).isSome = true) {g : S34} (hnb : nob g = false) {s : Nat} (hs : whoAt l m s = some g) : ∀ d, s + d ≤ n → whoAt l m (s + d) = some g ∨ ∃ u, s ≤ u ∧ u < s + d ∧ isUn m (E l u) = true ∧ (E l u).f2 = g
  | 0, _ => .inl hs
  | d + 1, hd => by
    rcases lets_go hx hnb hs d (by omega) with h | ⟨u, h1, h2, h3⟩
    · obtain ⟨h2, hh, hst⟩ := who_step hx (show s + d < n by omega) h
      rcases step_some hst with ⟨p1, p2, p3, p4⟩ | ⟨p1, p2, p3, p4⟩ | ⟨p1, p2, p3⟩
      · rw [hnb] at p2; cases p2
      · exact .inr ⟨s + d, by omega, by omega, p2, (samG_iff.1 p3).symm⟩
      · exact .inl (by rw [← Nat.add_assoc, hh, p3])
    · exact .inr ⟨u, h1, by omega, h3⟩
theorem gets_it (hx : (whoAt l m n).isSome = true) {g : S34} (hnb : nob g = false) {s : Nat} (hs : whoAt l m s ≠ some g) : ∀ d, s + d ≤ n → whoAt l m (s + d) ≠ some g ∨ ∃ b, s ≤ b ∧ b < s + d ∧ isLk m (E l b) = true ∧ (E l b).f2 = g
  | 0, _ => .inl hs
  | d + 1, hd => by
    rcases gets_it hx hnb hs d (by omega) with h | ⟨b, h1, h2, h3⟩
    · obtain ⟨q, hq⟩ := who_all hx (s + d) (by omega)
      obtain ⟨h2, hh, hst⟩ := who_step hx (show s + d < n by omega) hq
      by_cases c : h2 = g
      · subst c
        rcases step_some hst with ⟨p1, p2, p3, p4⟩ | ⟨p1, p2, p3, p4⟩ | ⟨p1, p2, p3⟩
        · exact .inr ⟨s + d, by omega, by omega, p1, p4.symm⟩
        · rw [p4] at hnb; exact absurd hnb (by decide)
        · rw [p3] at h; exact absurd hq h
      · exact .inl (by rw [← Nat.add_assoc, hh]; exact fun e => c (Option.some.inj e))
    · exact .inr ⟨b, h1, by omega, h3⟩
end
/-- Two accesses, each made with the mutex locked, do not race. -/
theorem guarded {l : List S36} {caps : List Int} {m : Int} (hx : (whoAt l m l.length).isSome = true) {i j : Nat} (hij : i < j) (hj : j < l.length) (hr : raceB (E l i) (E l j) = true) (hi : hasN l m i i = true) (hj2 : hasN l m j j = true) : befB l caps i j = true := by
  obtain ⟨d1, d2, d3⟩ := race_dif hr
  have w1 := has_who hx d2 i (by omega) hi
  have w2 := has_who hx d3 j (by omega) hj2
  have hne : (E l i).f2 ≠ (E l j).f2 := fun e => by rw [samG_iff.2 e] at d1; cases d1
  obtain ⟨u, u1, u2, u3, u4⟩ : ∃ u, i ≤ u ∧ u < j ∧ isUn m (E l u) = true ∧ (E l u).f2 = (E l i).f2 := by
    rcases lets_go hx d2 w1 (j - i) (by omega) with h | ⟨u, h1, h2, h3⟩
    · rw [show i + (j - i) = j by omega, w2] at h
      exact absurd (Option.some.inj h).symm hne
    · exact ⟨u, h1, by omega, h3⟩
  have hui : u ≠ i := by
    rintro rfl
    unfold isUn at u3
    unfold raceB accB at hr
    simp only [Bool.and_eq_true, Bool.or_eq_true, beq_iff_eq] at u3 hr
    have := hr.1.1.1.1.1.1.1
    omega
  have hw0 : whoAt l m (u + 1) ≠ some (E l j).f2 := by
    obtain ⟨g, hg⟩ := who_all hx u (by omega)
    obtain ⟨h2, hh, hst⟩ := who_step hx (show u < l.length by omega) hg
    rcases step_some hst with ⟨p1, p2, p3, p4⟩ | ⟨p1, p2, p3, p4⟩ | ⟨p1, p2, p3⟩
    · have := lk_un p1
      rw [u3] at this
      cases this
    · rw [hh, p4]
      intro e
      rw [← Option.some.inj e] at d3
      exact absurd d3 (by decide)
    · rw [u3] at p2; cases p2
  obtain ⟨b, b1, b2, b3, b4⟩ : ∃ b, u + 1 ≤ b ∧ b < j ∧ isLk m (E l b) = true ∧ (E l b).f2 = (E l j).f2 := by
    rcases gets_it hx d3 hw0 (j - (u + 1)) (by omega) with h | ⟨b, h1, h2, h3⟩
    · rw [show u + 1 + (j - (u + 1)) = j by omega, w2] at h
      exact absurd rfl h
    · exact ⟨b, h1, by omega, h3⟩
  refine befB_iff.2 (bef_trans (bef_own d2 u (by omega) u4.symm) (bef_trans (j := b) (.one ?_) (bef_own (by rw [b4]; exact d3) j b2 b4)))
  unfold srcs
  refine List.mem_append_right _ (List.mem_map.2 ⟨⟨(u : Int), (b : Int), 5⟩, List.mem_filter.2 ⟨((canon_spec l caps).2 _).2 ⟨b, by omega, rfl, Int.natCast_nonneg _, ?_, ?_⟩, by simp⟩, Int.toNat_natCast _⟩)
  · show (u : Int) < (b : Int); omega
  · refine .inr (.inr (.inr (.inl (.inr ⟨u, by omega, rfl, ?_⟩))))
    unfold isUn at u3
    unfold isLk at b3
    simp only [Bool.and_eq_true, Bool.or_eq_true, beq_iff_eq] at u3 b3
    show leads (E l u) (E l b) 5
    unfold leads
    omega
theorem g_loop {l : List S36} {caps : List Int} {m : Int} (hl : l.length ≤ 65536) (hx : (whoAt l m l.length).isSome = true) {K : Nat} (hK : ∀ at_, at_ < l.length → ∀ k, K ≤ k → rotalaw26_within.f k l (at_ : Int) m = some (hasN l m at_ at_)) {rs : List S50} (hrs : ∀ r ∈ rs, r ∈ raceL l caps) (hlen : rs.length < 9223372036854775807) :
    ∀ (cnt p : Nat), p + cnt = rs.length → rotalaw26_OrderGuarded.l0 (K + 2 + 2 * cnt) l m rs (p : Int) = some true
  | 0, p, hp => by
    rw [show K + 2 + 2 * 0 = K + 1 + 1 from rfl, rotalaw26_OrderGuarded.l0, if_neg (by omega), awake_eq K]
    rfl
  | cnt + 1, p, hp => by
    have hpl : p < rs.length := by omega
    have hw : wrap64 ((p : Int) + 1) = ((p + 1 : Nat) : Int) := by rw [wrap64]; omega
    have ih := g_loop hl hx hK hrs hlen cnt (p + 1) (by omega)
    have e1 : rd_T50 rs (p : Int) = rs[p] := by unfold rd_T50; rw [Int.toNat_natCast, List.getD_eq_getElem?_getD, List.getElem?_eq_getElem hpl]; rfl
    obtain ⟨i, j, hij, hj, hr, h3, h4⟩ := race_mem.1 (hrs _ (List.getElem_mem hpl))
    rw [show K + 2 + 2 * (cnt + 1) = (K + 2 + 2 * cnt + 1) + 1 from by omega, rotalaw26_OrderGuarded.l0, if_pos (Int.ofNat_lt.2 hpl), if_pos (Int.natCast_nonneg _), e1, hr]
    simp only
    have g1 : ¬ ((i : Int) < 0) := by omega
    have g2 : ¬ ((j : Int) ≥ (l.length : Int)) := by omega
    have g3 : decide ((i : Int) ≥ (j : Int)) = false := decide_eq_false (by omega)
    rw [if_neg g1, if_neg g2, g3, rotalaw26_OrderGuarded.j1, if_neg (by decide), if_pos (Int.natCast_nonneg _), if_pos (Int.ofNat_lt.2 hpl), e1, hr]
    simp only
    rw [hK i (by omega) _ (by omega), hK j hj _ (by omega), hw, ih]
    simp only [Option.bind_some]
    by_cases c1 : hasN l m i i = true
    · by_cases c2 : hasN l m j j = true
      · have := guarded (caps := caps) hx hij hj h3 c1 c2
        rw [h4] at this
        cases this
      · rw [if_pos c1, if_neg c2]
    · rw [if_neg c1]
theorem within_all (l : List S36) (m : Int) (hl : l.length ≤ 65536) : ∀ n, n ≤ l.length → ∃ K, ∀ at_, at_ < n → ∀ k, K ≤ k → rotalaw26_within.f k l (at_ : Int) m = some (hasN l m at_ at_)
  | 0, _ => ⟨0, fun a h => absurd h (Nat.not_lt_zero a)⟩
  | n + 1, hn => by
    obtain ⟨K1, h1⟩ := within_all l m hl n (by omega)
    obtain ⟨K2, h2⟩ := within_ev l m hl (show n < l.length by omega)
    refine ⟨K1 + K2, fun a ha k hk => ?_⟩
    by_cases e : a = n
    · subst e; exact h2 k (by omega)
    · exact h1 a (by omega) k (by omega)
theorem raceL_len (l : List S36) (caps : List Int) (hl : l.length ≤ 65536) : (raceL l caps).length < 9223372036854775807 := by
  have := accR_len l (canonA l caps) hl l.length
  unfold raceL
  have h3 : l.length * 65536 ≤ 65536 * 65536 := Nat.mul_le_mul_right _ hl
  omega
theorem pure : Pure := fun l caps m _ _ _ => by
  obtain ⟨K, hK⟩ := races_ev l caps
  by_cases he : errF l caps = 0
  · obtain ⟨hl, _⟩ := arrowsF_e0 (l := l) (caps := caps) he
    obtain ⟨K2, hK2⟩ := within_all l m hl l.length (Nat.le_refl _)
    have hex : rotalaw26_exclusive.f (4 * l.length + 1) l m = some (whoAt l m l.length).isSome := by
      have h1 := ex_run l m hl l.length 0 ⟨0, 0⟩ (by omega)
      have h2 := who_run l m l.length 0
      rw [show whoAt l m 0 = some ⟨0, 0⟩ from rfl, Option.bind_some, Nat.zero_add] at h2
      rw [h2] at h1
      exact h1
    have hex2 : ∀ k, 4 * l.length + 1 ≤ k → rotalaw26_exclusive.f k l m = some (whoAt l m l.length).isSome := fun k hk => at_rounds (rotalaw26_exclusive.mono l m) hk hex
    refine ⟨K + (4 * l.length + 1) + K2 + 2 + 2 * (raceL l caps).length, ?_⟩
    unfold rotalaw26_OrderGuarded.f
    rw [hK _ (by omega), hex2 _ (by omega)]
    unfold racesF
    rw [if_pos he]
    simp only [Option.bind_some]
    rw [if_pos trivial]
    by_cases c : (whoAt l m l.length).isSome = true
    · rw [if_pos c]
      have := g_loop (caps := caps) hl c (K := K + (4 * l.length + 1) + K2) (fun a ha k hk => hK2 a ha k (by omega)) (rs := raceL l caps) (fun r h => h) (raceL_len l caps hl) (raceL l caps).length 0 (by omega)
      exact this
    · rw [if_neg c]
      rw [show K + (4 * l.length + 1) + K2 + 2 + 2 * (raceL l caps).length = (K + (4 * l.length + 1) + K2 + 1 + 2 * (raceL l caps).length) + 1 from by omega, awake_eq]
      rfl
  · refine ⟨K + 1, ?_⟩
    unfold rotalaw26_OrderGuarded.f
    rw [hK _ (by omega)]
    unfold racesF
    rw [if_neg he]
    simp only [Option.bind_some]
    rw [if_neg he, List.length_nil, if_pos (show ((0 : Nat) : Int) = 0 from rfl), awake_eq]
    rfl
end Go.Proofs.Ytkbfijkohngjjaa.SOrderGuarded

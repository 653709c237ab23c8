/- Counting over a frame's ticks: the ticks that lie inside a P's slots, slot by slot.
   Conditions: the slots may be (they rise and do not meet). -/
import Derived.Test.YtiacikmignjdoaaTableAddsT
set_option linter.unusedVariables false
set_option linter.unusedSimpArgs false
namespace Go.Proofs.Ytiacikmignjdoaa.CTableAdds
open Go.RowKit Go.Proofs.Ytiacikmignjdoaa.QTableAdds Go.Proofs.YtiacikmignjdoaaW.PrintWords Go.Proofs.YtiacikmignjdoaaW.PrintLast Go.Proofs.Ytiacikmignjdoaa.Kin

/-- How many of the n numbers from a on have a property. -/
def cnt (p : Int → Bool) : Int → Nat → Nat
  | _, 0 => 0
  | a, n + 1 => (if p a = true then 1 else 0) + cnt p (a + 1) n

theorem cnt_add (p : Int → Bool) : ∀ (m n : Nat) (a : Int), cnt p a (m + n) = cnt p a m + cnt p (a + m) n
  | 0, n, a => by simp [cnt]
  | m + 1, n, a => by
    rw [show m + 1 + n = (m + n) + 1 by omega]
    simp only [cnt]
    rw [cnt_add p m n (a + 1), show a + 1 + (m : Int) = a + ((m + 1 : Nat) : Int) by omega]
    omega
theorem cnt_le (p : Int → Bool) : ∀ (n : Nat) (a : Int), cnt p a n ≤ n
  | 0, _ => Nat.le_refl _
  | n + 1, a => by
    have := cnt_le p n (a + 1)
    simp only [cnt]
    split <;> omega
theorem cnt_congr {p q : Int → Bool} : ∀ (n : Nat) (a : Int), (∀ t, a ≤ t → t < a + n → p t = q t) → cnt p a n = cnt q a n
  | 0, _, _ => rfl
  | n + 1, a, h => by
    simp only [cnt]
    rw [h a (by omega) (by omega), cnt_congr n (a + 1) (fun t h1 h2 => h t (by omega) (by omega))]
theorem cnt_false : ∀ (n : Nat) (a : Int), cnt (fun _ => false) a n = 0
  | 0, _ => rfl
  | n + 1, a => by simp [cnt, cnt_false n]
theorem cnt_true : ∀ (n : Nat) (a : Int), cnt (fun _ => true) a n = n
  | 0, _ => rfl
  | n + 1, a => by simp only [cnt, cnt_true n]; simp; omega

/-- What a place's slot says; false where there is none. -/
def inSlot (f : S48 → Int → Bool) (l : List S48) (t : Int) : Bool := match slotL t l with | some s => f s t | none => false

theorem okProc_low {F dom : Int} : ∀ {l : List S48} {e : Int}, okProc F dom e l → ∀ s ∈ l, e ≤ s.f1.f0
  | [], _, _, s, hs => by simp at hs
  | x :: r, e, ho, s, hs => by
    obtain ⟨o1, o2, o3, o4⟩ := ho
    rcases List.mem_cons.1 hs with rfl | hs
    · exact o3
    · have := okProc_low o4 s hs
      omega

theorem slotL_below {F dom : Int} {l : List S48} {e t : Int} (ho : okProc F dom e l) (h : t < e) : slotL t l = none := by
  unfold slotL
  rw [List.find?_eq_none]
  intro s hs
  have := okProc_low ho s hs
  simp [at_]
  omega

/-- The one slot that a place is inside is the one that is found. -/
theorem slotL_mem {F dom : Int} : ∀ {l : List S48} {e t : Int} {s : S48}, okProc F dom e l → s ∈ l → s.f1.f0 ≤ t → t < s.f1.f0 + s.f1.f1 → slotL t l = some s
  | [], _, _, s, _, hs, _, _ => by simp at hs
  | x :: r, e, t, s, ho, hs, h1, h2 => by
    obtain ⟨o1, o2, o3, o4⟩ := ho
    rcases List.mem_cons.1 hs with rfl | hs
    · have ha : at_ t s = true := by simp [at_]; omega
      simp [slotL, List.find?_cons, ha]
    · have hlow := okProc_low o4 s hs
      have ha : at_ t x = false := decide_eq_false (by omega)
      have ih := slotL_mem o4 hs h1 h2
      simp only [slotL, List.find?_cons, ha]
      exact ih

/-- A weight of each slot, added up. -/
def sumN (w : S48 → Nat) (l : List S48) : Nat := (l.map w).sum

theorem cnt_slots {F dom : Int} (f : S48 → Int → Bool) : ∀ (l : List S48) (e : Int), 0 ≤ e → e ≤ F → okProc F dom e l →
    cnt (inSlot f l) e (F - e).toNat = sumN (fun s => cnt (f s) s.f1.f0 s.f1.f1.toNat) l
  | [], e, _, _, _ => by
    have h : inSlot f [] = fun _ => false := rfl
    rw [h, cnt_false]
    rfl
  | s :: r, e, h0, he, ho => by
    obtain ⟨o1, o2, o3, o4⟩ := ho
    have ih := cnt_slots f r (s.f1.f0 + s.f1.f1) (by omega) (by omega) o4
    rw [show (F - e).toNat = (s.f1.f0 - e).toNat + (s.f1.f1.toNat + (F - (s.f1.f0 + s.f1.f1)).toNat) by omega, cnt_add, cnt_add]
    rw [show e + ((s.f1.f0 - e).toNat : Int) = s.f1.f0 by omega, show s.f1.f0 + (s.f1.f1.toNat : Int) = s.f1.f0 + s.f1.f1 by omega]
    have c1 : cnt (inSlot f (s :: r)) e (s.f1.f0 - e).toNat = 0 := by
      rw [cnt_congr (q := fun _ => false) _ _ (fun t h1 h2 => ?_), cnt_false]
      have ha : at_ t s = false := decide_eq_false (by omega)
      have hr := slotL_below o4 (t := t) (by omega)
      simp only [slotL] at hr
      simp [inSlot, slotL, List.find?_cons, ha, hr]
    have c2 : cnt (inSlot f (s :: r)) s.f1.f0 s.f1.f1.toNat = cnt (f s) s.f1.f0 s.f1.f1.toNat := by
      refine cnt_congr _ _ (fun t h1 h2 => ?_)
      have ha : at_ t s = true := by simp [at_]; omega
      simp [inSlot, slotL, List.find?_cons, ha]
    have c3 : cnt (inSlot f (s :: r)) (s.f1.f0 + s.f1.f1) (F - (s.f1.f0 + s.f1.f1)).toNat = cnt (inSlot f r) (s.f1.f0 + s.f1.f1) (F - (s.f1.f0 + s.f1.f1)).toNat := by
      refine cnt_congr _ _ (fun t h1 h2 => ?_)
      have ha : at_ t s = false := decide_eq_false (by omega)
      simp [inSlot, slotL, List.find?_cons, ha]
    rw [c1, c2, c3, ih]
    simp [sumN]

/-- A slot's ticks that are a domain's; those of them up to its pad. -/
def ownF (d : Int) (s : S48) (_ : Int) : Bool := s.f0 == d
def runF (d : Int) (s : S48) (t : Int) : Bool := (s.f0 == d) && decide (t < s.f1.f0 + s.f1.f1 - s.f2)

theorem cnt_own (d : Int) (s : S48) : cnt (ownF d s) s.f1.f0 s.f1.f1.toNat = if s.f0 = d then s.f1.f1.toNat else 0 := by
  by_cases h : s.f0 = d
  · rw [if_pos h, cnt_congr (q := fun _ => true) _ _ (fun t _ _ => by simp [ownF, h]), cnt_true]
  · rw [if_neg h, cnt_congr (q := fun _ => false) _ _ (fun t _ _ => by simp [ownF, h]), cnt_false]
theorem cnt_run (d : Int) (s : S48) (h2 : 0 ≤ s.f2 ∧ s.f2 ≤ s.f1.f1) : cnt (runF d s) s.f1.f0 s.f1.f1.toNat = if s.f0 = d then (s.f1.f1 - s.f2).toNat else 0 := by
  by_cases h : s.f0 = d
  · rw [if_pos h, show s.f1.f1.toNat = (s.f1.f1 - s.f2).toNat + s.f2.toNat by omega, cnt_add]
    rw [cnt_congr (q := fun _ => true) _ s.f1.f0 (fun t _ _ => by simp [runF, h]; omega), cnt_true, cnt_congr (q := fun _ => false) _ (s.f1.f0 + _) (fun t _ _ => by simp [runF, h]; omega), cnt_false]
    omega
  · rw [if_neg h, cnt_congr (q := fun _ => false) _ _ (fun t _ _ => by simp [runF, h]), cnt_false]

theorem sumN_le {F dom : Int} (w : S48 → Nat) (hw : ∀ s : S48, w s ≤ s.f1.f1.toNat) : ∀ (l : List S48) (e : Int), 0 ≤ e → e ≤ F → okProc F dom e l → (sumN w l : Int) ≤ F - e
  | [], e, _, _, _ => by simp [sumN]; omega
  | s :: r, e, h0, he, ho => by
    obtain ⟨o1, o2, o3, o4⟩ := ho
    have ih := sumN_le w hw r (s.f1.f0 + s.f1.f1) (by omega) (by omega) o4
    have hs := hw s
    simp only [sumN, List.map_cons, List.sum_cons] at ih ⊢
    omega

theorem sumN_congr {w v : S48 → Nat} : ∀ {l : List S48}, (∀ s ∈ l, w s = v s) → sumN w l = sumN v l
  | [], _ => rfl
  | s :: r, h => by
    simp only [sumN, List.map_cons, List.sum_cons]
    rw [h s List.mem_cons_self]
    have := sumN_congr (w := w) (v := v) (l := r) (fun x hx => h x (List.mem_cons_of_mem _ hx))
    simp only [sumN] at this
    rw [this]

/-- A slot of a P that may be: its numbers. -/
theorem okProc_each {F dom : Int} : ∀ {l : List S48} {e : Int}, 0 ≤ e → okProc F dom e l → ∀ s ∈ l, 0 ≤ s.f1.f0 ∧ 1 ≤ s.f1.f1 ∧ s.f1.f0 + s.f1.f1 ≤ F ∧ s.f2 < s.f1.f1 ∧ 0 ≤ s.f0 ∧ s.f0 < dom
  | [], _, _, _, s, hs => by simp at hs
  | x :: r, e, h0, ho, s, hs => by
    obtain ⟨o1, o2, o3, o4⟩ := ho
    rcases List.mem_cons.1 hs with rfl | hs
    · omega
    · exact okProc_each (by omega) o4 s hs
end Go.Proofs.Ytiacikmignjdoaa.CTableAdds

/- Who has a P at a tick, how long still, by the program: the one slot of the P's list that the tick's place is inside.
   Conditions: the table's numbers are of their kinds. -/
import Derived.Test.YtiacikmignjdoaaTableAddsC
set_option linter.unusedVariables false
set_option linter.unusedSimpArgs false
namespace Go.Proofs.Ytiacikmignjdoaa.CTableAdds
open Go.RowKit Go.Proofs.Ytiacikmignjdoaa.QTableAdds Go.Proofs.YtiacikmignjdoaaW.PrintWords Go.Proofs.YtiacikmignjdoaaW.PrintLast Go.Proofs.Ytiacikmignjdoaa.Kin

/-- A P's slots may be, from an end e on. -/
def okProc (F dom : Int) : Int → List S48 → Prop
  | _, [] => True
  | e, s :: r => (1 ≤ s.f1.f1 ∧ s.f1.f0 < F ∧ s.f1.f1 ≤ F - s.f1.f0 ∧ s.f2 < s.f1.f1) ∧ (0 ≤ s.f0 ∧ s.f0 < dom) ∧ e ≤ s.f1.f0 ∧ okProc F dom (s.f1.f0 + s.f1.f1) r

/-- A table may be. -/
structure OkT (F dom : Int) (ls : List (List S48)) : Prop where
  d : 1 ≤ dom ∧ dom ≤ 16
  fr : 1 ≤ F ∧ F ≤ 65536
  n : 1 ≤ ls.length ∧ ls.length ≤ 64
  p : ∀ l ∈ ls, l.length ≤ 1024 ∧ okProc F dom 0 l

theorem bad_zero {F dom e : Int} {s : S48} (h : bad F dom s e = 0) : (1 ≤ s.f1.f1 ∧ s.f1.f0 < F ∧ s.f1.f1 ≤ F - s.f1.f0 ∧ s.f2 < s.f1.f1) ∧ (0 ≤ s.f0 ∧ s.f0 < dom) ∧ e ≤ s.f1.f0 := by
  unfold bad at h
  split at h
  · omega
  · split at h
    · omega
    · split at h <;> omega

theorem scan_ok {F dom : Int} : ∀ {r : List S48} {i e : Int}, (scan F dom r i e).2 = 0 → okProc F dom e r
  | [], _, _, _ => trivial
  | s :: r, i, e, h => by
    by_cases hb : bad F dom s e = 0
    · simp only [scan, hb, if_true] at h
      obtain ⟨h1, h2, h3⟩ := bad_zero hb
      exact ⟨h1, h2, h3, scan_ok h⟩
    · simp only [scan, hb, if_false] at h

theorem wrongS_ok {F dom : Int} {l : List S48} (h : (wrongS F dom l).2 = 0) : l.length ≤ 1024 ∧ okProc F dom 0 l := by
  unfold wrongS at h
  split at h
  · simp at h
  · exact ⟨by omega, scan_ok h⟩

theorem checkL_ok {F dom : Int} : ∀ {r : List (List S48)} {p : Int}, (checkL F dom r p).2.2 = 0 → ∀ l ∈ r, l.length ≤ 1024 ∧ okProc F dom 0 l
  | [], _, _, l, hl => by simp at hl
  | x :: r, p, h, l, hl => by
    by_cases hb : (wrongS F dom x).2 = 0
    · simp only [checkL, hb, if_true] at h
      rcases List.mem_cons.1 hl with rfl | hl
      · exact wrongS_ok hb
      · exact checkL_ok h l hl
    · simp only [checkL, hb, if_false] at h

theorem check_ok {F dom : Int} {ls : List (List S48)} (h : (checkS F dom ls).2.2 = 0) : OkT F dom ls := by
  unfold checkS at h
  split at h
  · simp at h
  · split at h
    · simp at h
    · exact ⟨by omega, by omega, by omega, checkL_ok h⟩

/-- Is a place inside a slot? -/
def at_ (pl : Int) (s : S48) : Bool := decide (s.f1.f0 ≤ pl ∧ pl < s.f1.f0 + s.f1.f1)
def slotL (pl : Int) (l : List S48) : Option S48 := l.find? (at_ pl)
def slotOut (pl : Int) (l : List S48) : Int × Int × Int × Int × Int × Bool :=
  match slotL pl l with
  | some s => (s.f0, s.f1.f0, s.f1.f1, s.f2, s.f1.f0 + s.f1.f1 - pl, true)
  | none => (0, 0, 0, 0, 0, false)

def mayS (F : Int) (ls : List (List S48)) (p d : Int) : Int :=
  if (checkS F 16 ls).2.2 = 0 then (if p < 0 ∨ p ≥ ls.length ∨ d < 0 ∨ d ≥ 16 then 1 else 0) else (checkS F 16 ls).2.2

theorem may_f (F : Int) (ls : List (List S48)) (hg : ∀ l ∈ ls, ∀ s ∈ l, G48 s) (p d : Int) (k : Nat) (hk : 4000 ≤ k) : table_may.f k F ls p d = some (mayS F ls p d) := by
  unfold table_may.f mayS
  rw [check_f F 16 ls hg k hk]
  simp only [Option.bind_some]
  by_cases c : (checkS F 16 ls).2.2 = 0
  · rw [if_pos c, if_pos c]
    by_cases c1 : p < 0
    · simp [c1]
    by_cases c2 : p ≥ ls.length
    · simp [c2]
    by_cases c3 : d < 0
    · simp [c3]
    by_cases c4 : d ≥ 16
    · simp [c4]
    rw [if_neg c1, if_neg c2, if_neg c3, if_neg c4, if_neg (by omega)]
  · rw [if_neg c, if_neg c]

theorem may_ok {F : Int} {ls : List (List S48)} {p d : Int} (h : mayS F ls p d = 0) : OkT F 16 ls ∧ 0 ≤ p ∧ p < ls.length ∧ 0 ≤ d ∧ d < 16 := by
  unfold mayS at h
  split at h
  · rename_i hc
    split at h
    · simp at h
    · exact ⟨check_ok hc, by omega, by omega, by omega, by omega⟩
  · contradiction

theorem tick_Left_f (t F st ln : Int) (ht : 0 ≤ t) (hF : 1 ≤ F ∧ F ≤ 65536) (h0 : 0 ≤ st) (h1 : 1 ≤ ln ∧ st < F ∧ ln ≤ F - st) : tick_Left.f t F st ln = some (if st ≤ t % F ∧ t % F < st + ln then st + ln - t % F else 0, 0) := by
  have hm := Int.emod_nonneg t (show F ≠ 0 by omega)
  have hm2 := Int.emod_lt_of_pos t (show 0 < F by omega)
  unfold tick_Left.f tick_May.f tick_inside.f
  rw [if_neg (show ¬ F = 0 by omega), if_neg (show ¬ ln < 1 by omega), if_neg (show ¬ st ≥ F by omega), IntWalk.u64_in _ (show 0 ≤ F - st ∧ F - st ≤ 18446744073709551615 by omega), if_neg (show ¬ ln > F - st by omega)]
  simp only [Option.bind_some, if_true]
  rw [if_neg (show ¬ F = 0 by omega), if_neg (show ¬ F = 0 by omega), Int.tmod_eq_emod_of_nonneg ht]
  by_cases c1 : t % F ≥ st
  · rw [if_pos c1, IntWalk.u64_in _ (show 0 ≤ t % F - st ∧ t % F - st ≤ 18446744073709551615 by omega)]
    simp only [Option.bind_some, decide_eq_true_eq]
    by_cases c2 : t % F - st < ln
    · rw [if_pos c2, if_pos (show st ≤ t % F ∧ t % F < st + ln by omega), IntWalk.u64_in (st + ln) (by omega), IntWalk.u64_in _ (by omega)]
    · rw [if_neg c2, if_neg (show ¬ (st ≤ t % F ∧ t % F < st + ln) by omega)]
  · rw [if_neg c1, if_neg (show ¬ (st ≤ t % F ∧ t % F < st + ln) by omega)]
    simp

theorem slot_l0 (t F : Int) (ht : 0 ≤ t) (hF : 1 ≤ F ∧ F ≤ 65536) (l : List S48) (hl : l.length ≤ 1024) (ls : List (List S48)) : ∀ (r : List S48) (i : Nat) (e : Int) (k : Nat), (∀ s ∈ r, G48 s) → okProc F 16 e r → l.drop i = r → r.length < k →
    table_slot.l0 k t l (l.length : Int) (i : Int) F ls = some (slotOut (t % F) r) := by
  intro r
  induction r with
  | nil =>
    intro i e k hg ho hd hk
    obtain ⟨k, rfl⟩ : ∃ m, k = m + 1 := ⟨k - 1, by omega⟩
    have := drop_nil hd
    simp only [table_slot.l0]
    rw [if_neg (show ¬ (i : Int) < (l.length : Int) by omega)]
    rfl
  | cons s r ih =>
    intro i e k hg ho hd hk
    obtain ⟨hi, hr, hd'⟩ := rd_drop hd
    simp only [List.length_cons] at hk
    obtain ⟨k, rfl⟩ : ∃ m, k = m + 1 := ⟨k - 1, by omega⟩
    obtain ⟨h0, h1, h2, h3⟩ := hg s List.mem_cons_self
    obtain ⟨o1, o2, o3, o4⟩ := ho
    have ih' := ih (i + 1) _ k (fun x hx => hg x (List.mem_cons_of_mem _ hx)) o4 hd' (by omega)
    simp only [table_slot.l0]
    rw [if_pos (show (i : Int) < (l.length : Int) by omega), if_pos (show 0 ≤ (i : Int) by omega), if_pos (show (i : Int) < (l.length : Int) by omega), hr, tick_Left_f t F _ _ ht hF h1.1 ⟨o1.1, o1.2.1, o1.2.2.1⟩]
    simp only [Option.bind_some]
    by_cases c : s.f1.f0 ≤ t % F ∧ t % F < s.f1.f0 + s.f1.f1
    · have ha : at_ (t % F) s = true := by simpa [at_] using c
      rw [if_pos c, if_pos (show s.f1.f0 + s.f1.f1 - t % F > 0 by omega)]
      simp [slotOut, slotL, List.find?_cons, ha]
    · have ha : at_ (t % F) s = false := by simp only [at_]; exact decide_eq_false c
      rw [if_neg c, if_neg (show ¬ (0 : Int) > 0 by omega), wrap1 (by omega), ih']
      simp [slotOut, slotL, List.find?_cons, ha]

/-- The P's own list. -/
def proc (ls : List (List S48)) (p : Int) : List S48 := rd_L4 ls p
theorem proc_mem {ls : List (List S48)} {p : Int} (h0 : 0 ≤ p) (h1 : p < ls.length) : proc ls p ∈ ls := by
  have hi : p.toNat < ls.length := by omega
  unfold proc rd_L4
  rw [List.getD, List.getElem?_eq_getElem hi]
  exact List.getElem_mem hi

theorem slot_f (t F : Int) (ls : List (List S48)) (ht : 0 ≤ t) (ho : OkT F 16 ls) (hg : ∀ l ∈ ls, ∀ s ∈ l, G48 s) (p : Int) (h0 : 0 ≤ p) (h1 : p < ls.length) (k : Nat) (hk : 1025 ≤ k) : table_slot.f k F ls t p = some (slotOut (t % F) (proc ls p)) := by
  have hm := proc_mem h0 h1
  unfold table_slot.f
  rw [if_pos h0, if_pos h1]
  obtain ⟨hl, hp⟩ := ho.p _ hm
  exact slot_l0 t F ht ho.fr (proc ls p) hl ls (proc ls p) 0 0 k (hg _ hm) hp rfl (by omega)

theorem find_ok {F dom pl : Int} : ∀ {l : List S48} {e : Int} {s : S48}, okProc F dom e l → (∀ s ∈ l, G48 s) → slotL pl l = some s → s ∈ l ∧ G48 s ∧ (1 ≤ s.f1.f1 ∧ s.f1.f0 < F ∧ s.f1.f1 ≤ F - s.f1.f0 ∧ s.f2 < s.f1.f1) ∧ (0 ≤ s.f0 ∧ s.f0 < dom) ∧ s.f1.f0 ≤ pl ∧ pl < s.f1.f0 + s.f1.f1
  | [], _, _, _, _, h => by simp [slotL] at h
  | x :: r, e, s, ho, hg, h => by
    obtain ⟨o1, o2, o3, o4⟩ := ho
    cases ha : at_ pl x with
    | true =>
      simp only [slotL, List.find?_cons, ha, Option.some.injEq] at h
      subst h
      have hc : x.f1.f0 ≤ pl ∧ pl < x.f1.f0 + x.f1.f1 := by simpa [at_] using ha
      exact ⟨List.mem_cons_self, hg x List.mem_cons_self, o1, o2, hc⟩
    | false =>
      simp only [slotL, List.find?_cons, ha] at h
      obtain ⟨m, h'⟩ := find_ok o4 (fun y hy => hg y (List.mem_cons_of_mem _ hy)) h
      exact ⟨List.mem_cons_of_mem _ m, h'⟩

/-- Who has a P at a tick; -1: nobody. -/
def ownS (F : Int) (ls : List (List S48)) (t p : Int) : Int := match slotL (t % F) (proc ls p) with | some s => s.f0 | none => -1
/-- How long still, up to the pad. -/
def leftS (F : Int) (ls : List (List S48)) (t p : Int) : Int := match slotL (t % F) (proc ls p) with | some s => max (s.f1.f0 + s.f1.f1 - s.f2 - t % F) 0 | none => 0

theorem owner_f (F : Int) (ls : List (List S48)) (hg : ∀ l ∈ ls, ∀ s ∈ l, G48 s) (t p : Int) (ht : 0 ≤ t) (k : Nat) (hk : 4000 ≤ k) : table_Owner.f k F ls t p = some (if mayS F ls p 0 = 0 then (ownS F ls t p, 0) else (0, mayS F ls p 0)) := by
  unfold table_Owner.f
  rw [may_f F ls hg p 0 k hk]
  simp only [Option.bind_some]
  by_cases c : mayS F ls p 0 = 0
  · obtain ⟨ho, h0, h1, _⟩ := may_ok c
    rw [if_pos c, if_pos c, slot_f t F ls ht ho hg p h0 h1 k (by omega)]
    unfold slotOut ownS
    cases slotL (t % F) (proc ls p) <;> simp
  · rw [if_neg c, if_neg c]

theorem left_f (F : Int) (ls : List (List S48)) (hg : ∀ l ∈ ls, ∀ s ∈ l, G48 s) (t p : Int) (ht : 0 ≤ t) (k : Nat) (hk : 4000 ≤ k) : table_Left.f k F ls t p = some (if mayS F ls p 0 = 0 then (leftS F ls t p, 0) else (0, mayS F ls p 0)) := by
  unfold table_Left.f
  rw [may_f F ls hg p 0 k hk]
  simp only [Option.bind_some]
  by_cases c : mayS F ls p 0 = 0
  · obtain ⟨ho, h0, h1, _⟩ := may_ok c
    rw [if_pos c, if_pos c, slot_f t F ls ht ho hg p h0 h1 k (by omega)]
    unfold slotOut leftS
    have hm := proc_mem h0 h1
    cases hs : slotL (t % F) (proc ls p) with
    | none => simp [mn, IntWalk.u64_in]
    | some s =>
      obtain ⟨_, ⟨g0, g1, g2, g3⟩, o1, _, o2⟩ := find_ok (ho.p _ hm).2 (hg _ hm) hs
      have hF := ho.fr
      have he : mn (s.f1.f0 + s.f1.f1 - t % F) s.f2 = min (s.f1.f0 + s.f1.f1 - t % F) s.f2 := by unfold mn; omega
      simp only [Option.bind_some, he]
      rw [IntWalk.u64_in _ (by omega)]
      congr 2
      omega
  · rw [if_neg c, if_neg c]
end Go.Proofs.Ytiacikmignjdoaa.CTableAdds

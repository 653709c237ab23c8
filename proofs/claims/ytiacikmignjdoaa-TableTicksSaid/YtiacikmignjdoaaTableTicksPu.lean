/- TableTicks, of plain numbers and lists: the marked ticks are those at which the document finds some P of the domain. Conditions: none. -/
import Derived.Test.YtiacikmignjdoaaTableTicksS
import Derived.Test.YtiacikmignjdoaaTableTicksN
import Derived.Test.YtiacikmignjdoaaTableTicksH
import Derived.Test.YtiacikmignjdoaaTableTicksO
import Derived.Test.YtiacikmignjdoaaTableTicksTi
set_option linter.unusedVariables false
set_option linter.unusedSimpArgs false
set_option linter.unusedSectionVars false
namespace Go.Proofs.Ytiacikmignjdoaa.STableTicks
open Go.RowKit Go.Proofs.Ytiacikmignjdoaa.QTableTicks Go.Proofs.Ytiacikmignjdoaa.KTableTicks Go.Proofs.YtiacikmignjdoaaW.PrintWords Go.Proofs.YtiacikmignjdoaaW.PrintLast Go.Proofs.YtiacikmignjdoaaW.PrintMore Go.Proofs.Ytiacikmignjdoaa.Kin Go.Proofs.Ytiacikmignjdoaa.CTableTicks

theorem good {s : S48} (h : W48 s) : G48 s := ⟨wf_i64 h.1, wf_u64 h.2.1.1, wf_u64 h.2.1.2, (wf_u64 h.2.2).1, (wf_u64 h.2.2).2⟩

theorem awake {k : Nat} (hk : 30 ≤ k) : rotalaw16_awake.f k = some true :=
  at_rounds (g := rotalaw16_awake.f) rotalaw16_awake.mono hk (by decide +kernel)

/-! ### The marks -/
theorem mark_get (m : List Bool) (a : Nat) : ∀ (n t : Nat), t < m.length → (markB m a n).getD t false = (m.getD t false || (decide (a ≤ t) && decide (t < a + n)))
  | 0, t, _ => by simp [markB]; intro h1 h2; omega
  | n + 1, t, ht => by
    have ih := mark_get m a n t ht
    simp only [markB]
    rw [List.getD_eq_getElem?_getD, List.getElem?_set]
    by_cases h : a + n = t
    · rw [if_pos h, if_pos (by rw [markB_length]; exact h ▸ ht)]
      have h1 : decide (a ≤ t) = true := decide_eq_true (by omega)
      have h2 : decide (t < a + (n + 1)) = true := decide_eq_true (by omega)
      simp [h1, h2]
    · rw [if_neg h, ← List.getD_eq_getElem?_getD, ih]
      have h2 : decide (t < a + (n + 1)) = decide (t < a + n) := by rw [decide_eq_decide]; omega
      rw [h2]

theorem marks_from (F : Int) (t : Nat) : ∀ (l : List S48) (m : List Bool), t < m.length → (∀ s ∈ l, 0 ≤ s.f1.f0 ∧ 0 ≤ s.f1.f1) → (l.foldl markS m).getD t false = (m.getD t false || l.any (fun s => at_ (t : Int) s))
  | [], m, _, _ => by simp
  | s :: r, m, ht, h => by
    rw [List.foldl_cons, marks_from F t r (markS m s) (by rw [markS, markB_length]; exact ht) (fun x hx => h x (List.mem_cons_of_mem _ hx)), markS, mark_get m _ _ t ht]
    have hs := h s List.mem_cons_self
    have e : (decide (s.f1.f0.toNat ≤ t) && decide (t < s.f1.f0.toNat + s.f1.f1.toNat)) = at_ (t : Int) s := by
      unfold at_
      rw [← Bool.decide_and, decide_eq_decide]
      omega
    rw [e, List.any_cons, Bool.or_assoc]

theorem cntT_cnt (m : List Bool) : ∀ (n : Nat), n ≤ m.length → cntT (m.take n) = (cnt (fun t => m.getD t.toNat false) 0 n : Int)
  | 0, _ => by simp [cntT, cnt]
  | n + 1, h => by
    rw [cntT_snoc m n (by omega), cntT_cnt m n (by omega), cnt_add _ n 1 0]
    simp only [cnt, show ((0 : Int) + (n : Int)).toNat = n by omega]
    split <;> simp

section
variable {F : Int} {ls : List (List S48)} (hg : ∀ l ∈ ls, ∀ s ∈ l, G48 s)
include hg

theorem looked_d (d : Int) (k : Nat) (hk : 140000 ≤ k) : rotaref16_looked.f k F ls d 16 = some (mayS F ls 0 d) := by
  rw [looked_f F ls hg d _ k hk]
  unfold mayS
  by_cases c : (checkS F 16 ls).2.2 = 0
  · have hn := (check_ok c).n
    rw [if_pos c, if_pos c]
    congr 1
    by_cases c2 : d < 0 ∨ d ≥ 16
    · rw [if_pos c2, if_pos (by omega)]
    · rw [if_neg c2, if_neg (by omega)]
  · rw [if_neg c, if_neg c]

theorem refHas_l0 (ho : OkT F 16 ls) (t d : Int) (ht : 0 ≤ t) : ∀ (r : List (List S48)) (p : Nat) (acc : List Int) (k : Nat), ls.drop p = r → acc.length ≤ p → 1025 + r.length < k →
    rotaref16_has.l0 k t d acc (p : Int) F ls = some (acc ++ hasL (t % F) d r p) := by
  intro r
  have hn := ho.n
  induction r with
  | nil =>
    intro p acc k hd ha hk
    obtain ⟨k, rfl⟩ : ∃ m, k = m + 1 := ⟨k - 1, by omega⟩
    have := drop_nil hd
    simp only [rotaref16_has.l0]
    rw [if_neg (show ¬ (p : Int) < (ls.length : Int) by omega)]
    simp [hasL]
  | cons l r ih =>
    intro p acc k hd ha hk
    obtain ⟨hi, hr, hd'⟩ := rdL_drop hd
    simp only [List.length_cons] at hk
    obtain ⟨k, rfl⟩ : ∃ m, k = m + 1 := ⟨k - 1, by omega⟩
    simp only [rotaref16_has.l0]
    rw [if_pos (show (p : Int) < (ls.length : Int) by omega), refSlot_f t F ls ht ho hg (p : Int) (by omega) (by omega) k (by omega)]
    have hpr : proc ls (p : Int) = l := hr
    simp only [Option.bind_some, hpr]
    rw [wrap1 (show (p : Int) < 9223372036854775807 by omega)]
    have hp1 : ((p + 1 : Nat) : Int) = (p : Int) + 1 := by omega
    unfold refOut
    cases hs : slotL (t % F) l with
    | none =>
      have hb : hasB (t % F) d l = false := by simp [hasB, hs]
      simp only [Bool.false_eq_true, if_false]
      rw [ih (p + 1) acc k hd' (by omega) (by omega)]
      simp [hasL, hb, hp1]
    | some s =>
      simp only [if_true]
      by_cases c : s.f0 = d
      · have hb : hasB (t % F) d l = true := by simp [hasB, hs, c]
        rw [if_pos c, if_pos (by omega), ih (p + 1) (acc ++ [(p : Int)]) k hd' (by simp; omega) (by omega)]
        simp [hasL, hb, hp1]
      · have hb : hasB (t % F) d l = false := by simp [hasB, hs, c]
        rw [if_neg c, ih (p + 1) acc k hd' (by omega) (by omega)]
        simp [hasL, hb, hp1]

theorem refhas_f (ho : OkT F 16 ls) (t d : Int) (ht : 0 ≤ t) (k : Nat) (hk : 2000 ≤ k) : rotaref16_has.f k F ls t d = some (hasL (t % F) d ls 0) := by
  have hn := ho.n
  unfold rotaref16_has.f
  have := refHas_l0 hg ho t d ht ls 0 [] k rfl (by simp) (by omega)
  rw [show ((0 : Nat) : Int) = 0 from rfl] at this
  rw [this]
  simp

/-- A domain has some P at a place just if one of its slots holds that place. -/
theorem hasL_some (pl d : Int) : ∀ (r : List (List S48)) (p : Int), decide (((hasL pl d r p).length : Int) > 0) = r.any (fun l => hasB pl d l)
  | [], p => by simp [hasL]
  | l :: r, p => by
    have ih := hasL_some pl d r (p + 1)
    unfold hasL
    by_cases h : hasB pl d l = true
    · rw [if_pos h]
      simp [h]
      try omega
    · rw [if_neg h, ih]
      simp [h]

theorem marks_has (ho : OkT F 16 ls) (d : Int) (t : Nat) (ht : (t : Int) < F) : (marks F (ofDom d ls)).getD t false = ls.any (fun l => hasB (t : Int) d l) := by
  have hfr := ho.fr
  unfold marks
  rw [marks_from F t _ _ (by simp; omega) (fun s hs => ?_)]
  · rw [show (List.replicate F.toNat false).getD t false = false by simp [List.getD_eq_getElem?_getD, List.getElem?_replicate]; split <;> rfl, Bool.false_or, Bool.eq_iff_iff]
    simp only [List.any_eq_true]
    constructor
    · rintro ⟨s, hs, ha⟩
      obtain ⟨h1, h2⟩ := List.mem_filter.1 hs
      obtain ⟨l, hl, hsl⟩ := List.mem_flatten.1 h1
      refine ⟨l, hl, ?_⟩
      have hc : s.f1.f0 ≤ (t : Int) ∧ (t : Int) < s.f1.f0 + s.f1.f1 := by simpa [at_] using ha
      rw [hasB, slotL_mem (ho.p l hl).2 hsl hc.1 hc.2]
      simpa using h2
    · rintro ⟨l, hl, hb⟩
      unfold hasB at hb
      cases hs : slotL (t : Int) l with
      | none => rw [hs] at hb; simp at hb
      | some s =>
        rw [hs] at hb
        obtain ⟨hs1, _, _, _, o2⟩ := find_ok (ho.p l hl).2 (hg l hl) hs
        refine ⟨s, List.mem_filter.2 ⟨List.mem_flatten.2 ⟨l, hl, hs1⟩, by simpa using hb⟩, ?_⟩
        simpa [at_] using o2
  · obtain ⟨h1, _⟩ := List.mem_filter.1 hs
    obtain ⟨l, hl, hsl⟩ := List.mem_flatten.1 h1
    have := okProc_each (Int.le_refl 0) (ho.p l hl).2 s hsl
    omega

def some_ (d : Int) (ls : List (List S48)) (t : Int) : Bool := ls.any (fun l => hasB t d l)

theorem refTicks_l0 (ho : OkT F 16 ls) (n d : Int) (hn0 : 0 ≤ n) : ∀ (c : Nat) (i all rest : Int) (k : Nat), i + c = F → 0 ≤ i → 0 ≤ all → all + c ≤ 65536 → 0 ≤ rest → rest + c ≤ 65536 → 3000 + c < k →
    rotaref16_Ticks.l0 k n d all rest i F ls = some (IntKind.u64.wrap (IntKind.u64.wrap (IntKind.u64.wrap (Int.tdiv n F) * (all + (cnt (some_ d ls) i c : Int))) + (rest + (cnt (fun t => some_ d ls t && decide (t < n % F)) i c : Int))), 0) := by
  have hfr := ho.fr
  intro c
  induction c with
  | zero =>
    intro i all rest k hi hi0 ha0 ha1 hr0 hr1 hk
    obtain ⟨k, rfl⟩ : ∃ m, k = m + 1 := ⟨k - 1, by omega⟩
    simp only [rotaref16_Ticks.l0]
    rw [if_neg (show ¬ i < F by omega), if_neg (show ¬ F = 0 by omega)]
    simp [cnt]
  | succ c ih =>
    intro i all rest k hi hi0 ha0 ha1 hr0 hr1 hk
    obtain ⟨k, rfl⟩ : ∃ m, k = m + 1 := ⟨k - 1, by omega⟩
    have hmod : i % F = i := Int.emod_eq_of_lt hi0 (by omega)
    have hsm := hasL_some hg i d ls 0
    simp only [rotaref16_Ticks.l0]
    rw [if_pos (show i < F by omega), refhas_f hg ho i d hi0 k (by omega), hmod]
    simp only [Option.bind_some]
    rw [IntWalk.u64_in (i + 1) (by omega)]
    simp only [cnt]
    by_cases c1 : ((hasL i d ls 0).length : Int) > 0
    · have hs : some_ d ls i = true := by rw [some_, ← hsm]; exact decide_eq_true c1
      rw [if_pos c1, if_neg (show ¬ F = 0 by omega), Int.tmod_eq_emod_of_nonneg hn0, IntWalk.u64_in (all + 1) (by omega)]
      simp only [hs]
      by_cases c2 : i < n % F
      · rw [if_pos c2, IntWalk.u64_in (rest + 1) (by omega), ih (i + 1) (all + 1) (rest + 1) k (by omega) (by omega) (by omega) (by omega) (by omega) (by omega) (by omega)]
        have h2 : decide (i < n % F) = true := decide_eq_true c2
        simp only [h2, Bool.and_self, if_true, Int.natCast_add, Int.natCast_one]
        simp only [show ∀ x : Int, all + 1 + x = all + (1 + x) from fun x => by omega, show ∀ x : Int, rest + 1 + x = rest + (1 + x) from fun x => by omega]
      · rw [if_neg c2, ih (i + 1) (all + 1) rest k (by omega) (by omega) (by omega) (by omega) (by omega) (by omega) (by omega)]
        have h2 : decide (i < n % F) = false := decide_eq_false c2
        simp only [h2, Bool.and_false, if_true, Int.natCast_add, Int.natCast_one, Bool.false_eq_true, if_false, Nat.zero_add]
        simp only [show ∀ x : Int, all + 1 + x = all + (1 + x) from fun x => by omega]
    · have hs : some_ d ls i = false := by rw [some_, ← hsm]; exact decide_eq_false c1
      rw [if_neg c1, ih (i + 1) all rest k (by omega) (by omega) ha0 (by omega) hr0 (by omega) (by omega)]
      simp [hs]

theorem inFrame_all (ho : OkT F 16 ls) (d : Int) : (ls.flatten.all fun s => decide (s.f0 = d) → inFrame F s) = true := by
  rw [List.all_eq_true]
  intro s hs
  obtain ⟨l, hl, hsl⟩ := List.mem_flatten.1 hs
  have := okProc_each (Int.le_refl 0) (ho.p l hl).2 s hsl
  simp [inFrame]
  exact .inr ⟨by omega, by omega, by omega⟩

theorem ticks_f (n d : Int) (hn0 : 0 ≤ n) (k : Nat) (hk : 4000 ≤ k) : table_Ticks.f k F ls n d = some (if mayS F ls 0 d = 0 then (IntKind.u64.wrap (IntKind.u64.wrap (IntKind.u64.wrap (n.tdiv F) * (0 + (cnt (some_ d ls) 0 F.toNat : Int))) + (0 + (cnt (fun t => some_ d ls t && decide (t < n % F)) 0 F.toNat : Int))), 0) else (0, mayS F ls 0 d)) := by
  unfold table_Ticks.f
  rw [may_f F ls hg 0 d k hk]
  simp only [Option.bind_some]
  by_cases c : mayS F ls 0 d = 0
  · obtain ⟨ho, _⟩ := may_ok c
    have hfr := ho.fr
    have m0 := Int.emod_nonneg n (show F ≠ 0 by omega)
    have m1 := Int.emod_lt_of_pos n (show 0 < F by omega)
    rw [if_pos c, if_pos c, if_pos ⟨hfr.1, hfr.2, hn0, inFrame_all hg ho d⟩, cntT_cnt _ _ (by rw [marks_length]; exact Nat.le_refl _), cntT_cnt _ _ (by rw [marks_length]; omega)]
    have e1 : cnt (fun t => (marks F (ofDom d ls)).getD t.toNat false) 0 F.toNat = cnt (some_ d ls) 0 F.toNat := by
      refine cnt_congr _ _ (fun t h1 h2 => ?_)
      rw [marks_has hg ho d t.toNat (by omega), some_, show ((t.toNat : Nat) : Int) = t by omega]
    have e2 : cnt (fun t => (marks F (ofDom d ls)).getD t.toNat false) 0 (n % F).toNat = cnt (fun t => some_ d ls t && decide (t < n % F)) 0 F.toNat := by
      rw [show F.toNat = (n % F).toNat + (F.toNat - (n % F).toNat) by omega, cnt_add]
      have e3 : cnt (fun t => some_ d ls t && decide (t < n % F)) (0 + ((n % F).toNat : Int)) (F.toNat - (n % F).toNat) = 0 := by
        rw [cnt_congr (q := fun _ => false) _ _ (fun t h1 h2 => ?_), cnt_false]
        have : decide (t < n % F) = false := decide_eq_false (by omega)
        simp [this]
      rw [e3, Nat.add_zero]
      refine cnt_congr _ _ (fun t h1 h2 => ?_)
      have h3 : decide (t < n % F) = true := decide_eq_true (by omega)
      rw [marks_has hg ho d t.toNat (by omega), h3, Bool.and_true, some_, show ((t.toNat : Nat) : Int) = t by omega]
    rw [e1, e2, Int.zero_add, Int.zero_add]
  · rw [if_neg c, if_neg c]

theorem refTicks_f (n d : Int) (hn0 : 0 ≤ n) (k : Nat) (hk : 140000 ≤ k) : rotaref16_Ticks.f k F ls n d = some (if mayS F ls 0 d = 0 then (IntKind.u64.wrap (IntKind.u64.wrap (IntKind.u64.wrap (n.tdiv F) * (0 + (cnt (some_ d ls) 0 F.toNat : Int))) + (0 + (cnt (fun t => some_ d ls t && decide (t < n % F)) 0 F.toNat : Int))), 0) else (0, mayS F ls 0 d)) := by
  unfold rotaref16_Ticks.f
  rw [looked_d hg d k hk]
  simp only [Option.bind_some]
  by_cases c : mayS F ls 0 d = 0
  · obtain ⟨ho, _⟩ := may_ok c
    have hfr := ho.fr
    rw [if_pos c, if_pos c, refTicks_l0 hg ho n d hn0 F.toNat 0 0 0 k (by omega) (by omega) (by omega) (by omega) (by omega) (by omega) (by omega)]
  · rw [if_neg c, if_neg c]
end

theorem pure : Pure := by
  intro F ls n d hF hl hn hd
  have hg : ∀ l ∈ ls, ∀ s ∈ l, G48 s := fun l hl' s hs => good ((hl.2 l hl').2 s hs)
  have hn' := (wf_u64 hn).1
  refine ⟨200000, ?_⟩
  unfold rotalaw16_TableTicks.f
  rw [ticks_f hg n d hn' _ (by omega), refTicks_f hg n d hn' _ (by omega), awake (by omega)]
  simp
end Go.Proofs.Ytiacikmignjdoaa.STableTicks

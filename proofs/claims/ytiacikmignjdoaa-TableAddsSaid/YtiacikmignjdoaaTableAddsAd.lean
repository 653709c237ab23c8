/- TableAdds as a function of what Share and Supply tell, and the call that comes to it.
   Conditions: the table reads as a list of lists of slots. -/
import Derived.Test.YtiacikmignjdoaaTableAddsAdA
import Derived.Test.YtiacikmignjdoaaTableAddsAdB
set_option linter.unusedVariables false
set_option linter.unusedSimpArgs false
namespace Go.Proofs.Ytiacikmignjdoaa.QTableAdds
open Go.RowKit Go.Proofs.Ytiacikmignjdoaa.Arr Go.Proofs.Ytiacikmignjdoaa.KTableAdds Go.Proofs.YtiacikmignjdoaaW.PrintWords Go.Proofs.YtiacikmignjdoaaW.PrintLast Go.Proofs.YtiacikmignjdoaaW.PrintMore

def rotalaw16_TableAdds.f (k : Nat) (a0_0 : Int) (l0_1 : List (List (S48))) (a1 n m : Int) : Option Bool :=
  (table_Share.f k a0_0 l0_1 a1).bind fun s => (table_Supply.f k a0_0 l0_1 a1 n).bind fun a => (rotalaw16_awake.f k).bind fun aw =>
    if aw = true then
      (if s.2 = 0 then
        (if n > 1099511627776 ∨ m > 1099511627776 then some true
        else if (0 ≤ n ∧ 0 ≤ m) ∧ (1 ≤ a0_0 ∧ a0_0 ≤ 65536) then
          (table_Supply.f k a0_0 l0_1 a1 m).bind fun b => (table_Supply.f k a0_0 l0_1 a1 (n + m)).bind fun c => (table_Supply.f k a0_0 l0_1 a1 (n % 1000 * a0_0)).bind fun d =>
            if a.2 = 0 ∧ b.2 = 0 ∧ c.2 = 0 ∧ d.2 = 0 ∧ IntKind.u64.wrap (a.1 + b.1) ≤ c.1 ∧ d.1 = IntKind.u64.wrap (n % 1000 * s.1) then some true else none
        else none)
      else if a.2 = s.2 then some true else none)
    else none

theorem rotalaw16_TableAdds.calls (k : Nat) (a0_0 : Int) (A0_1 : Option Addr) (c0_1 : Nat) (l0_1 : List (List (S48))) (a1 n m : Int) (r : Bool) (w : World) (hr0_1 : Kd.C (Kd.slice 48 k48) w A0_1 l0_1.length l0_1) (hc0_1 : l0_1.length ≤ c0_1) (h : rotalaw16_TableAdds.f k a0_0 l0_1 a1 n m = some r) :
    Calls Try.prog 11 #[.agg #[.int .u64 a0_0, .slice A0_1 l0_1.length c0_1], .int .i64 a1, .agg #[.int .u64 n, .int .u64 m]] w fun e w' => e = .returned (.bool r) ∧ Below w.heap.size w w' := by
  unfold rotalaw16_TableAdds.f at h
  obtain ⟨⟨sv, e⟩, hS, h⟩ := Option.bind_eq_some_iff.mp h
  obtain ⟨⟨xa, ea⟩, hA, h⟩ := Option.bind_eq_some_iff.mp h
  obtain ⟨aw, hW, h⟩ := Option.bind_eq_some_iff.mp h
  by_cases c : aw = true
  · subst c
    rw [if_pos rfl] at h
    by_cases c1 : e = 0
    · rw [if_pos c1] at h
      by_cases c2 : n > 1099511627776
      · rw [if_pos (.inl c2)] at h
        obtain rfl := Option.some.inj h
        exact adds_n k a0_0 A0_1 c0_1 l0_1 a1 n m w hr0_1 hc0_1 sv e hS hW (beq_iff_eq.mpr c1) (bne_eq_false_iff_eq.mpr c1) c2 xa ea hA
      by_cases c3 : m > 1099511627776
      · rw [if_pos (.inr c3)] at h
        obtain rfl := Option.some.inj h
        exact adds_m k a0_0 A0_1 c0_1 l0_1 a1 n m w hr0_1 hc0_1 sv e hS hW (beq_iff_eq.mpr c1) (bne_eq_false_iff_eq.mpr c1) c2 c3 xa ea hA
      rw [if_neg (by omega)] at h
      by_cases c4 : (0 ≤ n ∧ 0 ≤ m) ∧ (1 ≤ a0_0 ∧ a0_0 ≤ 65536)
      · rw [if_pos c4] at h
        obtain ⟨⟨xb, eb⟩, hB, h⟩ := Option.bind_eq_some_iff.mp h
        obtain ⟨⟨xc, ec⟩, hC, h⟩ := Option.bind_eq_some_iff.mp h
        obtain ⟨⟨xd, ed⟩, hD, h⟩ := Option.bind_eq_some_iff.mp h
        by_cases c5 : ea = 0 ∧ eb = 0 ∧ ec = 0 ∧ ed = 0 ∧ IntKind.u64.wrap (xa + xb) ≤ xc ∧ xd = IntKind.u64.wrap (n % 1000 * sv)
        · rw [if_pos c5] at h
          obtain rfl := Option.some.inj h
          obtain ⟨rfl, rfl, rfl, rfl, h1, h2⟩ := c5
          exact adds_small k a0_0 A0_1 c0_1 l0_1 a1 n m w hr0_1 hc0_1 sv e hS hW c1 ⟨c4.1.1, by omega⟩ ⟨c4.1.2, by omega⟩ c4.2 xa xb xc xd hA hB hC hD h1 h2
        · rw [if_neg c5] at h; cases h
      · rw [if_neg c4] at h; cases h
    · rw [if_neg c1] at h
      by_cases c2 : ea = e
      · rw [if_pos c2] at h
        obtain rfl := Option.some.inj h
        exact adds_err k a0_0 A0_1 c0_1 l0_1 a1 n m w hr0_1 hc0_1 sv e hS hW c1 xa ea hA c2
      · rw [if_neg c2] at h; cases h
  · rw [if_neg c] at h; cases h
end Go.Proofs.Ytiacikmignjdoaa.QTableAdds

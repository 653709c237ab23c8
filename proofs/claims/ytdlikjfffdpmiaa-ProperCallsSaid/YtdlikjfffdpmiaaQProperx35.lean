/- Printed: a function's machine side. Conditions: none. -/
import Derived.Test.YtdlikjfffdpmiaaQProperx0
import Derived.Test.YtdlikjfffdpmiaaQProperx11
namespace Go.Proofs.Ytdlikjfffdpmiaa.QProper
open Go.RowKit Go.Proofs.YtdlikjfffdpmiaaW.PrintWords Go.Proofs.YtdlikjfffdpmiaaW.PrintLast Go.Proofs.YtdlikjfffdpmiaaW.PrintMore
set_option linter.unusedVariables false
set_option linter.unusedSimpArgs false

/-! ### proper_function: function 41 -/
def proper_function.f (k : Nat) (l0_0 : List Int) (l0_1 : List (S34)) (l0_2 : List (S58)) (a1 : Int) : Option (Int) := (proper_Check.f k l0_0 l0_1 l0_2).bind fun bt277 => (if bt277.2 = 0 then (if a1 < 0 then (some 1) else (if a1 ≥ (l0_1.length : Int) then (some 1) else (some 0))) else (some bt277.2))
theorem proper_function.mono : ∀ a0 a1 a2 a3 k, LeO (proper_function.f k a0 a1 a2 a3) (proper_function.f (k + 1) a0 a1 a2 a3) := by
 intro a0 a1 a2 a3 k
 unfold proper_function.f
 repeat' first
   | (with_reducible exact proper_Check.mono _ _ _ _)
   | (with_reducible exact LeO.refl _)
   | (with_reducible exact LeO.none _)
   | (with_reducible refine LeO.ite ?_ ?_)
   | (with_reducible refine LeO.bind ?_ (fun _ => ?_))
   | exact proper_Check.mono _ _ _ _
   | exact LeO.none _
   | refine LeO.ite ?_ ?_
   | refine LeO.bind ?_ (fun _ => ?_)
set_option maxHeartbeats 8000000 in
set_option maxRecDepth 100000 in
theorem proper_function.calls (k : Nat) (A0_0 : Option Addr) (c0_0 : Nat) (l0_0 : List Int) (A0_1 : Option Addr) (c0_1 : Nat) (l0_1 : List (S34)) (A0_2 : Option Addr) (c0_2 : Nat) (l0_2 : List (S58)) (a1 : Int) (r : Int) (w : World) (hr0_0 : Kd.C (Kd.int .u32) w A0_0 l0_0.length l0_0) (hc0_0 : l0_0.length ≤ c0_0) (hr0_1 : Kd.C k34 w A0_1 l0_1.length l0_1) (hc0_1 : l0_1.length ≤ c0_1) (hr0_2 : Kd.C k58 w A0_2 l0_2.length l0_2) (hc0_2 : l0_2.length ≤ c0_2) (h : proper_function.f k l0_0 l0_1 l0_2 a1 = some r) :
  Calls Try.prog 41 #[.agg #[.slice A0_0 l0_0.length c0_0, .slice A0_1 l0_1.length c0_1, .slice A0_2 l0_2.length c0_2], .int .i64 a1] w fun e w' => e = .returned (.int .i64 r) ∧ Below w.heap.size w w' := by
 have hu26 := Try.underlying26
 have HR0_0 := K1 hr0_0
 have HC0_0 := K1 hc0_0
 clear hr0_0 hc0_0
 have HR0_1 := K1 hr0_1
 have HC0_1 := K1 hc0_1
 clear hr0_1 hc0_1
 have HR0_2 := K1 hr0_2
 have HC0_2 := K1 hc0_2
 clear hr0_2 hc0_2
 have HB := K1 (Below.refl w.heap.size w)
 have H : ((proper_Check.f k l0_0 l0_1 l0_2).bind fun bt277 => (if bt277.2 = 0 then (if a1 < 0 then (some 1) else (if a1 ≥ (l0_1.length : Int) then (some 1) else (some 0))) else (some bt277.2))) = some r := h
 clear h
 replace H := Option.bind_eq_some_iff.mp H
 obtain ⟨⟨t277, t278⟩, A30, H⟩ := H
 replace H : (if t278 = 0 then (if a1 < 0 then (some 1) else (if a1 ≥ (l0_1.length : Int) then (some 1) else (some 0))) else (some t278)) = some r := H
 have A3 := K1 A30
 clear A30
 by_cases c4 : t278 = 0
 ·rw [if_pos c4] at H
  have c4b0 : (t278 == 0) = true := beq_iff_eq.mpr c4
  have c4b1 : (t278 != 0) = false := bne_eq_false_iff_eq.mpr c4
  clear c4
  by_cases c5 : a1 < 0
  ·rw [if_pos c5] at H
   have c5b0 : decide (a1 < 0) = true := decide_eq_true c5
   clear c5
   obtain rfl := Option.some.inj H
   go_enter Try.func41, Try.ntmps41
   go_wp2_with (first | ((with_reducible refine gate_dst (N := 2) rfl ?_); (try (refine gate_guard (by rfl) ?_; dsimp only)); refine bev (N := 2) (cs := #[.slice A0_0 l0_0.length c0_0, .slice A0_1 l0_1.length c0_1, .slice A0_2 l0_2.length c0_2]) (t := 26) (h := ?_); intro gb276 hg w6 hbox hb; have BK276 := K1 (hbox); have GW276 := K1 (mG : w.heap.size ≤ gb276); have GE276 := K1 (mG : w.heap.size ≤ gb276); replace HB := K1 (below_step mB hb); clear hb hbox hg; obtain ⟨hcz7_0, hcz7_1, hcz7_2, hfz7_0, hfz7_1, hfz7_2⟩ := cf3 BK276) | ((with_reducible refine gate_callee (f := 12) rfl ?_); refine goesL_ (some 9) rfl rfl Try.func12 (by kernel_rfl) rfl #[.agg #[.slice A0_0 l0_0.length c0_0, .slice A0_1 l0_1.length c0_1, .slice A0_2 l0_2.length c0_2]] rfl mL ?_; (with_reducible refine (proper_Check.calls k _ _ l0_0 _ _ l0_1 _ _ l0_2 t277 t278 _ ?side1 ?side2 ?side3 ?side4 ?side5 ?side6 A3.out).mono ?_); (case side1 => exact mC); (case side2 => exact HC0_0.out); (case side3 => exact mC); (case side4 => exact HC0_1.out); (case side5 => exact mC); (case side6 => exact HC0_2.out); rintro e w8 ⟨rfl, hb⟩; refine ⟨_, rfl, ?_⟩; replace BK276 := K1 (blk_below (mU BK276.out) hb); replace HB := K1 (below_step mB hb); (try clear hb)))
   go_ret
   exact ⟨mE, mB⟩
  ·rw [if_neg c5] at H
   have c5b0 : decide (a1 < 0) = false := decide_eq_false c5
   clear c5
   by_cases c9 : a1 ≥ (l0_1.length : Int)
   ·rw [if_pos c9] at H
    have c9b0 : decide ((l0_1.length : Int) ≤ a1) = true := decide_eq_true c9
    clear c9
    obtain rfl := Option.some.inj H
    go_enter Try.func41, Try.ntmps41
    go_wp2_with (first | ((with_reducible refine gate_dst (N := 2) rfl ?_); (try (refine gate_guard (by rfl) ?_; dsimp only)); refine bev (N := 2) (cs := #[.slice A0_0 l0_0.length c0_0, .slice A0_1 l0_1.length c0_1, .slice A0_2 l0_2.length c0_2]) (t := 26) (h := ?_); intro gb276 hg w10 hbox hb; have BK276 := K1 (hbox); have GW276 := K1 (mG : w.heap.size ≤ gb276); have GE276 := K1 (mG : w.heap.size ≤ gb276); replace HB := K1 (below_step mB hb); clear hb hbox hg; obtain ⟨hcz11_0, hcz11_1, hcz11_2, hfz11_0, hfz11_1, hfz11_2⟩ := cf3 BK276) | ((with_reducible refine gate_callee (f := 12) rfl ?_); refine goesL_ (some 9) rfl rfl Try.func12 (by kernel_rfl) rfl #[.agg #[.slice A0_0 l0_0.length c0_0, .slice A0_1 l0_1.length c0_1, .slice A0_2 l0_2.length c0_2]] rfl mL ?_; (with_reducible refine (proper_Check.calls k _ _ l0_0 _ _ l0_1 _ _ l0_2 t277 t278 _ ?side1 ?side2 ?side3 ?side4 ?side5 ?side6 A3.out).mono ?_); (case side1 => exact mC); (case side2 => exact HC0_0.out); (case side3 => exact mC); (case side4 => exact HC0_1.out); (case side5 => exact mC); (case side6 => exact HC0_2.out); rintro e w12 ⟨rfl, hb⟩; refine ⟨_, rfl, ?_⟩; replace BK276 := K1 (blk_below (mU BK276.out) hb); replace HB := K1 (below_step mB hb); (try clear hb); obtain ⟨hcz13_0, hcz13_1, hcz13_2, hfz13_0, hfz13_1, hfz13_2⟩ := cf3 BK276))
    go_ret
    exact ⟨mE, mB⟩
   ·rw [if_neg c9] at H
    have c9b0 : decide ((l0_1.length : Int) ≤ a1) = false := decide_eq_false c9
    clear c9
    obtain rfl := Option.some.inj H
    go_enter Try.func41, Try.ntmps41
    go_wp2_with (first | ((with_reducible refine gate_dst (N := 2) rfl ?_); (try (refine gate_guard (by rfl) ?_; dsimp only)); refine bev (N := 2) (cs := #[.slice A0_0 l0_0.length c0_0, .slice A0_1 l0_1.length c0_1, .slice A0_2 l0_2.length c0_2]) (t := 26) (h := ?_); intro gb276 hg w14 hbox hb; have BK276 := K1 (hbox); have GW276 := K1 (mG : w.heap.size ≤ gb276); have GE276 := K1 (mG : w.heap.size ≤ gb276); replace HB := K1 (below_step mB hb); clear hb hbox hg; obtain ⟨hcz15_0, hcz15_1, hcz15_2, hfz15_0, hfz15_1, hfz15_2⟩ := cf3 BK276) | ((with_reducible refine gate_callee (f := 12) rfl ?_); refine goesL_ (some 9) rfl rfl Try.func12 (by kernel_rfl) rfl #[.agg #[.slice A0_0 l0_0.length c0_0, .slice A0_1 l0_1.length c0_1, .slice A0_2 l0_2.length c0_2]] rfl mL ?_; (with_reducible refine (proper_Check.calls k _ _ l0_0 _ _ l0_1 _ _ l0_2 t277 t278 _ ?side1 ?side2 ?side3 ?side4 ?side5 ?side6 A3.out).mono ?_); (case side1 => exact mC); (case side2 => exact HC0_0.out); (case side3 => exact mC); (case side4 => exact HC0_1.out); (case side5 => exact mC); (case side6 => exact HC0_2.out); rintro e w16 ⟨rfl, hb⟩; refine ⟨_, rfl, ?_⟩; replace BK276 := K1 (blk_below (mU BK276.out) hb); replace HB := K1 (below_step mB hb); (try clear hb); obtain ⟨hcz17_0, hcz17_1, hcz17_2, hfz17_0, hfz17_1, hfz17_2⟩ := cf3 BK276))
    go_ret
    exact ⟨mE, mB⟩
 ·rw [if_neg c4] at H
  have c4b0 : (t278 == 0) = false := beq_eq_false_iff_ne.mpr c4
  have c4b1 : (t278 != 0) = true := bne_iff_ne.mpr c4
  obtain rfl := Option.some.inj H
  go_enter Try.func41, Try.ntmps41
  go_wp2_with (first | ((with_reducible refine gate_dst (N := 2) rfl ?_); (try (refine gate_guard (by rfl) ?_; dsimp only)); refine bev (N := 2) (cs := #[.slice A0_0 l0_0.length c0_0, .slice A0_1 l0_1.length c0_1, .slice A0_2 l0_2.length c0_2]) (t := 26) (h := ?_); intro gb276 hg w18 hbox hb; have BK276 := K1 (hbox); have GW276 := K1 (mG : w.heap.size ≤ gb276); have GE276 := K1 (mG : w.heap.size ≤ gb276); replace HB := K1 (below_step mB hb); clear hb hbox hg; obtain ⟨hcz19_0, hcz19_1, hcz19_2, hfz19_0, hfz19_1, hfz19_2⟩ := cf3 BK276) | ((with_reducible refine gate_callee (f := 12) rfl ?_); refine goesL_ (some 9) rfl rfl Try.func12 (by kernel_rfl) rfl #[.agg #[.slice A0_0 l0_0.length c0_0, .slice A0_1 l0_1.length c0_1, .slice A0_2 l0_2.length c0_2]] rfl mL ?_; (with_reducible refine (proper_Check.calls k _ _ l0_0 _ _ l0_1 _ _ l0_2 t277 t278 _ ?side1 ?side2 ?side3 ?side4 ?side5 ?side6 A3.out).mono ?_); (case side1 => exact mC); (case side2 => exact HC0_0.out); (case side3 => exact mC); (case side4 => exact HC0_1.out); (case side5 => exact mC); (case side6 => exact HC0_2.out); rintro e w20 ⟨rfl, hb⟩; refine ⟨_, rfl, ?_⟩; replace BK276 := K1 (blk_below (mU BK276.out) hb); replace HB := K1 (below_step mB hb); (try clear hb)))
  go_ret
  exact ⟨mE, mB⟩

end Go.Proofs.Ytdlikjfffdpmiaa.QProper

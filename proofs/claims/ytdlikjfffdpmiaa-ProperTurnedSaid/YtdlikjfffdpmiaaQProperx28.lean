/- Printed: a function's machine side. Conditions: none. -/
import Derived.Test.YtdlikjfffdpmiaaQProperx0
import Derived.Test.YtdlikjfffdpmiaaQProperx18
import Derived.Test.YtdlikjfffdpmiaaQProperx27
namespace Go.Proofs.Ytdlikjfffdpmiaa.QProper
open Go.RowKit Go.Proofs.YtdlikjfffdpmiaaW.PrintWords Go.Proofs.YtdlikjfffdpmiaaW.PrintLast Go.Proofs.YtdlikjfffdpmiaaW.PrintMore
set_option linter.unusedVariables false
set_option linter.unusedSimpArgs false

/-! ### rotaref08_In: function 16 -/
def rotaref08_In.f (k : Nat) (l0_0 : List Int) (l0_1 : List (S34)) (l0_2 : List (S58)) (a1 : Int) : Option (Int × Int) := (rotaref08_looked.f k l0_0 l0_1 l0_2 a1 (l0_0.length : Int)).bind fun t223 => (if t223 = 0 then ((rotaref08_in.f k l0_0 l0_1 l0_2 a1).bind fun t224 => (some (t224, 0))) else (some (0, t223)))
theorem rotaref08_In.mono : ∀ a0 a1 a2 a3 k, LeO (rotaref08_In.f k a0 a1 a2 a3) (rotaref08_In.f (k + 1) a0 a1 a2 a3) := by
 intro a0 a1 a2 a3 k
 unfold rotaref08_In.f
 repeat' first
   | (with_reducible exact rotaref08_in.mono _ _ _ _ _)
   | (with_reducible exact rotaref08_looked.mono _ _ _ _ _ _)
   | (with_reducible exact LeO.refl _)
   | (with_reducible exact LeO.none _)
   | (with_reducible refine LeO.ite ?_ ?_)
   | (with_reducible refine LeO.bind ?_ (fun _ => ?_))
   | exact rotaref08_in.mono _ _ _ _ _
   | exact rotaref08_looked.mono _ _ _ _ _ _
   | exact LeO.none _
   | refine LeO.ite ?_ ?_
   | refine LeO.bind ?_ (fun _ => ?_)
set_option maxHeartbeats 8000000 in
set_option maxRecDepth 100000 in
theorem rotaref08_In.calls (k : Nat) (A0_0 : Option Addr) (c0_0 : Nat) (l0_0 : List Int) (A0_1 : Option Addr) (c0_1 : Nat) (l0_1 : List (S34)) (A0_2 : Option Addr) (c0_2 : Nat) (l0_2 : List (S58)) (a1 : Int) (r1 : Int) (r2 : Int) (w : World) (hr0_0 : Kd.C (Kd.int .u32) w A0_0 l0_0.length l0_0) (hc0_0 : l0_0.length ≤ c0_0) (hr0_1 : Kd.C k34 w A0_1 l0_1.length l0_1) (hc0_1 : l0_1.length ≤ c0_1) (hr0_2 : Kd.C k58 w A0_2 l0_2.length l0_2) (hc0_2 : l0_2.length ≤ c0_2) (h : rotaref08_In.f k l0_0 l0_1 l0_2 a1 = some (r1, r2)) :
  Calls Try.prog 16 #[.agg #[.slice A0_0 l0_0.length c0_0, .slice A0_1 l0_1.length c0_1, .slice A0_2 l0_2.length c0_2], .int .i64 a1] w fun e w' => e = .returned (.tuple #[.int .i64 r1, .int .i64 r2]) ∧ Below w.heap.size w w' := by
 have hu26 := Try.underlying26
 have HR0_0 := K1 hr0_0
 have HC0_0 := K1 hc0_0
 clear hr0_0 hc0_0
 have HR0_1 := K1 hr0_1
 have HC0_1 := K1 hc0_1
 clear hr0_1 hc0_1
 have HR0_2 := K1 hr0_2
 have HC0_2 := K1 hc0_2
 clear hr0_2 hc0_2
 have HB := K1 (Below.refl w.heap.size w)
 have H : ((rotaref08_looked.f k l0_0 l0_1 l0_2 a1 (l0_0.length : Int)).bind fun t223 => (if t223 = 0 then ((rotaref08_in.f k l0_0 l0_1 l0_2 a1).bind fun t224 => (some (t224, 0))) else (some (0, t223)))) = some (r1, r2) := h
 clear h
 replace H := Option.bind_eq_some_iff.mp H
 obtain ⟨t223, A30, H⟩ := H
 replace H : (if t223 = 0 then ((rotaref08_in.f k l0_0 l0_1 l0_2 a1).bind fun t224 => (some (t224, 0))) else (some (0, t223))) = some (r1, r2) := H
 have A3 := K1 A30
 clear A30
 by_cases c4 : t223 = 0
 ·rw [if_pos c4] at H
  have c4b0 : (t223 == 0) = true := beq_iff_eq.mpr c4
  have c4b1 : (t223 != 0) = false := bne_eq_false_iff_eq.mpr c4
  clear c4
  replace H := Option.bind_eq_some_iff.mp H
  obtain ⟨t224, A50, H⟩ := H
  replace H : (some (t224, 0)) = some (r1, r2) := H
  have A5 := K1 A50
  clear A50
  simp only [Option.some.injEq, Prod.mk.injEq] at H
  obtain ⟨rfl, rfl⟩ := H
  go_enter Try.func16, Try.ntmps16
  go_wp2_with (first | ((with_reducible refine gate_dst (N := 2) rfl ?_); refine bev (N := 2) (cs := #[.slice A0_0 l0_0.length c0_0, .slice A0_1 l0_1.length c0_1, .slice A0_2 l0_2.length c0_2]) (t := 26) (h := ?_); intro gb222 hg w6 hbox hb; have BK222 := K1 (hbox); have GW222 := K1 (mG : w.heap.size ≤ gb222); have GE222 := K1 (mG : w.heap.size ≤ gb222); replace HB := K1 (below_step mB hb); clear hb hbox hg; obtain ⟨hcz7_0, hcz7_1, hcz7_2, hfz7_0, hfz7_1, hfz7_2⟩ := cf3 BK222) | ((with_reducible refine gate_callee (f := 37) rfl ?_); refine goesL_ (some 12) rfl rfl Try.func37 (by kernel_rfl) rfl #[.agg #[.slice A0_0 l0_0.length c0_0, .slice A0_1 l0_1.length c0_1, .slice A0_2 l0_2.length c0_2], .int .i64 a1, .int .i64 (l0_0.length : Int)] rfl mL ?_; (with_reducible refine (rotaref08_looked.calls k _ _ l0_0 _ _ l0_1 _ _ l0_2 a1 (l0_0.length : Int) t223 _ ?side1 ?side2 ?side3 ?side4 ?side5 ?side6 A3.out).mono ?_); (case side1 => exact mC); (case side2 => exact HC0_0.out); (case side3 => exact mC); (case side4 => exact HC0_1.out); (case side5 => exact mC); (case side6 => exact HC0_2.out); rintro e w8 ⟨rfl, hb⟩; refine ⟨_, rfl, ?_⟩; replace BK222 := K1 (blk_below (mU BK222.out) hb); replace HB := K1 (below_step mB hb); (try clear hb); obtain ⟨hcz9_0, hcz9_1, hcz9_2, hfz9_0, hfz9_1, hfz9_2⟩ := cf3 BK222) | ((with_reducible refine gate_callee (f := 38) rfl ?_); refine goesL_ (some 18) rfl rfl Try.func38 (by kernel_rfl) rfl #[.agg #[.slice A0_0 l0_0.length c0_0, .slice A0_1 l0_1.length c0_1, .slice A0_2 l0_2.length c0_2], .int .i64 a1] rfl mL ?_; (with_reducible refine (rotaref08_in.calls k _ _ l0_0 _ _ l0_1 _ _ l0_2 a1 t224 _ ?side1 ?side2 ?side3 ?side4 ?side5 ?side6 A5.out).mono ?_); (case side1 => exact mC); (case side2 => exact HC0_0.out); (case side3 => exact mC); (case side4 => exact HC0_1.out); (case side5 => exact mC); (case side6 => exact HC0_2.out); rintro e w10 ⟨rfl, hb⟩; refine ⟨_, rfl, ?_⟩; replace BK222 := K1 (blk_below (mU BK222.out) hb); replace HB := K1 (below_step mB hb); (try clear hb)))
  go_ret2
  exact ⟨mE, mB⟩
 ·rw [if_neg c4] at H
  have c4b0 : (t223 == 0) = false := beq_eq_false_iff_ne.mpr c4
  have c4b1 : (t223 != 0) = true := bne_iff_ne.mpr c4
  simp only [Option.some.injEq, Prod.mk.injEq] at H
  obtain ⟨rfl, rfl⟩ := H
  go_enter Try.func16, Try.ntmps16
  go_wp2_with (first | ((with_reducible refine gate_dst (N := 2) rfl ?_); refine bev (N := 2) (cs := #[.slice A0_0 l0_0.length c0_0, .slice A0_1 l0_1.length c0_1, .slice A0_2 l0_2.length c0_2]) (t := 26) (h := ?_); intro gb222 hg w11 hbox hb; have BK222 := K1 (hbox); have GW222 := K1 (mG : w.heap.size ≤ gb222); have GE222 := K1 (mG : w.heap.size ≤ gb222); replace HB := K1 (below_step mB hb); clear hb hbox hg; obtain ⟨hcz12_0, hcz12_1, hcz12_2, hfz12_0, hfz12_1, hfz12_2⟩ := cf3 BK222) | ((with_reducible refine gate_callee (f := 37) rfl ?_); refine goesL_ (some 12) rfl rfl Try.func37 (by kernel_rfl) rfl #[.agg #[.slice A0_0 l0_0.length c0_0, .slice A0_1 l0_1.length c0_1, .slice A0_2 l0_2.length c0_2], .int .i64 a1, .int .i64 (l0_0.length : Int)] rfl mL ?_; (with_reducible refine (rotaref08_looked.calls k _ _ l0_0 _ _ l0_1 _ _ l0_2 a1 (l0_0.length : Int) t223 _ ?side1 ?side2 ?side3 ?side4 ?side5 ?side6 A3.out).mono ?_); (case side1 => exact mC); (case side2 => exact HC0_0.out); (case side3 => exact mC); (case side4 => exact HC0_1.out); (case side5 => exact mC); (case side6 => exact HC0_2.out); rintro e w13 ⟨rfl, hb⟩; refine ⟨_, rfl, ?_⟩; replace BK222 := K1 (blk_below (mU BK222.out) hb); replace HB := K1 (below_step mB hb); (try clear hb)))
  go_ret2
  exact ⟨mE, mB⟩

end Go.Proofs.Ytdlikjfffdpmiaa.QProper

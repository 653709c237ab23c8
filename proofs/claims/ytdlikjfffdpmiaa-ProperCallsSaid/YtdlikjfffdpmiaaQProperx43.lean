/- Printed: a function's machine side. Conditions: none. -/
import Derived.Test.YtdlikjfffdpmiaaQProperx0
import Derived.Test.YtdlikjfffdpmiaaQProperx27
import Derived.Test.YtdlikjfffdpmiaaQProperx41
import Derived.Test.YtdlikjfffdpmiaaQProperx42
namespace Go.Proofs.Ytdlikjfffdpmiaa.QProper
open Go.RowKit Go.Proofs.YtdlikjfffdpmiaaW.PrintWords Go.Proofs.YtdlikjfffdpmiaaW.PrintLast Go.Proofs.YtdlikjfffdpmiaaW.PrintMore
set_option linter.unusedVariables false
set_option linter.unusedSimpArgs false

/-! ### rotaref08_Reach: function 21 -/
def rotaref08_Reach.f (k : Nat) (l0_0 : List Int) (l0_1 : List (S34)) (l0_2 : List (S58)) (a1 : Int) : Option (List Int × Int) := (rotaref08_looked.f k l0_0 l0_1 l0_2 a1 (l0_1.length : Int)).bind fun t324 => (if t324 = 0 then ((rotaref08_reach.f k l0_0 l0_1 l0_2 a1).bind fun t325 => ((rotaref08_rising.f k t325).bind fun t328 => (some (t328, 0)))) else (some (([] : List Int), t324)))
theorem rotaref08_Reach.mono : ∀ a0 a1 a2 a3 k, LeO (rotaref08_Reach.f k a0 a1 a2 a3) (rotaref08_Reach.f (k + 1) a0 a1 a2 a3) := by
 intro a0 a1 a2 a3 k
 unfold rotaref08_Reach.f
 repeat' first
   | (with_reducible exact rotaref08_looked.mono _ _ _ _ _ _)
   | (with_reducible exact rotaref08_reach.mono _ _ _ _ _)
   | (with_reducible exact rotaref08_rising.mono _ _)
   | (with_reducible exact LeO.refl _)
   | (with_reducible exact LeO.none _)
   | (with_reducible refine LeO.ite ?_ ?_)
   | (with_reducible refine LeO.bind ?_ (fun _ => ?_))
   | exact rotaref08_looked.mono _ _ _ _ _ _
   | exact rotaref08_reach.mono _ _ _ _ _
   | exact rotaref08_rising.mono _ _
   | exact LeO.none _
   | refine LeO.ite ?_ ?_
   | refine LeO.bind ?_ (fun _ => ?_)
set_option maxHeartbeats 8000000 in
set_option maxRecDepth 100000 in
theorem rotaref08_Reach.calls (k : Nat) (A0_0 : Option Addr) (c0_0 : Nat) (l0_0 : List Int) (A0_1 : Option Addr) (c0_1 : Nat) (l0_1 : List (S34)) (A0_2 : Option Addr) (c0_2 : Nat) (l0_2 : List (S58)) (a1 : Int) (r1 : List Int) (r2 : Int) (w : World) (hr0_0 : Kd.C (Kd.int .u32) w A0_0 l0_0.length l0_0) (hc0_0 : l0_0.length ≤ c0_0) (hr0_1 : Kd.C k34 w A0_1 l0_1.length l0_1) (hc0_1 : l0_1.length ≤ c0_1) (hr0_2 : Kd.C k58 w A0_2 l0_2.length l0_2) (hc0_2 : l0_2.length ≤ c0_2) (h : rotaref08_Reach.f k l0_0 l0_1 l0_2 a1 = some (r1, r2)) :
  Calls Try.prog 21 #[.agg #[.slice A0_0 l0_0.length c0_0, .slice A0_1 l0_1.length c0_1, .slice A0_2 l0_2.length c0_2], .int .i64 a1] w fun e w' => ∃ v0_ : Value, e = .returned (.tuple #[v0_, .int .i64 r2]) ∧ Kd.R (Kd.int .i64) 3 w' w.heap.size (fun _ => True) v0_ r1 ∧ Below w.heap.size w w' := by
 have hu26 := Try.underlying26
 have HR0_0 := K1 hr0_0
 have HC0_0 := K1 hc0_0
 clear hr0_0 hc0_0
 have HR0_1 := K1 hr0_1
 have HC0_1 := K1 hc0_1
 clear hr0_1 hc0_1
 have HR0_2 := K1 hr0_2
 have HC0_2 := K1 hc0_2
 clear hr0_2 hc0_2
 have HB := K1 (Below.refl w.heap.size w)
 have H : ((rotaref08_looked.f k l0_0 l0_1 l0_2 a1 (l0_1.length : Int)).bind fun t324 => (if t324 = 0 then ((rotaref08_reach.f k l0_0 l0_1 l0_2 a1).bind fun t325 => ((rotaref08_rising.f k t325).bind fun t328 => (some (t328, 0)))) else (some (([] : List Int), t324)))) = some (r1, r2) := h
 clear h
 replace H := Option.bind_eq_some_iff.mp H
 obtain ⟨t324, A30, H⟩ := H
 replace H : (if t324 = 0 then ((rotaref08_reach.f k l0_0 l0_1 l0_2 a1).bind fun t325 => ((rotaref08_rising.f k t325).bind fun t328 => (some (t328, 0)))) else (some (([] : List Int), t324))) = some (r1, r2) := H
 have A3 := K1 A30
 clear A30
 by_cases c4 : t324 = 0
 ·rw [if_pos c4] at H
  have c4b0 : (t324 == 0) = true := beq_iff_eq.mpr c4
  have c4b1 : (t324 != 0) = false := bne_eq_false_iff_eq.mpr c4
  clear c4
  replace H := Option.bind_eq_some_iff.mp H
  obtain ⟨t325, A50, H⟩ := H
  replace H : ((rotaref08_rising.f k t325).bind fun t328 => (some (t328, 0))) = some (r1, r2) := H
  have A5 := K1 A50
  clear A50
  replace H := Option.bind_eq_some_iff.mp H
  obtain ⟨t328, A60, H⟩ := H
  replace H : (some (t328, 0)) = some (r1, r2) := H
  have A6 := K1 A60
  clear A60
  simp only [Option.some.injEq, Prod.mk.injEq] at H
  obtain ⟨rfl, rfl⟩ := H
  go_enter Try.func21, Try.ntmps21
  go_wp2_with (first | ((with_reducible refine gate_dst (N := 2) rfl ?_); refine bev (N := 2) (cs := #[.slice A0_0 l0_0.length c0_0, .slice A0_1 l0_1.length c0_1, .slice A0_2 l0_2.length c0_2]) (t := 26) (h := ?_); intro gb323 hg w7 hbox hb; have BK323 := K1 (hbox); have GW323 := K1 (mG : w.heap.size ≤ gb323); have GE323 := K1 (mG : w.heap.size ≤ gb323); replace HB := K1 (below_step mB hb); clear hb hbox hg; obtain ⟨hcz8_0, hcz8_1, hcz8_2, hfz8_0, hfz8_1, hfz8_2⟩ := cf3 BK323) | ((with_reducible refine gate_callee (f := 37) rfl ?_); refine goesL_ (some 12) rfl rfl Try.func37 (by kernel_rfl) rfl #[.agg #[.slice A0_0 l0_0.length c0_0, .slice A0_1 l0_1.length c0_1, .slice A0_2 l0_2.length c0_2], .int .i64 a1, .int .i64 (l0_1.length : Int)] rfl mL ?_; (with_reducible refine (rotaref08_looked.calls k _ _ l0_0 _ _ l0_1 _ _ l0_2 a1 (l0_1.length : Int) t324 _ ?side1 ?side2 ?side3 ?side4 ?side5 ?side6 A3.out).mono ?_); (case side1 => exact mC); (case side2 => exact HC0_0.out); (case side3 => exact mC); (case side4 => exact HC0_1.out); (case side5 => exact mC); (case side6 => exact HC0_2.out); rintro e w9 ⟨rfl, hb⟩; refine ⟨_, rfl, ?_⟩; replace BK323 := K1 (blk_below (mU BK323.out) hb); replace HB := K1 (below_step mB hb); (try clear hb); obtain ⟨hcz10_0, hcz10_1, hcz10_2, hfz10_0, hfz10_1, hfz10_2⟩ := cf3 BK323) | ((with_reducible refine gate_callee (f := 44) rfl ?_); refine goesL_ (some 18) rfl rfl Try.func44 (by kernel_rfl) rfl #[.agg #[.slice A0_0 l0_0.length c0_0, .slice A0_1 l0_1.length c0_1, .slice A0_2 l0_2.length c0_2], .int .i64 a1] rfl mL ?_; (with_reducible refine (rotaref08_reach.calls k _ _ l0_0 _ _ l0_1 _ _ l0_2 a1 t325 _ ?side1 ?side2 ?side3 ?side4 ?side5 ?side6 A5.out).mono ?_); (case side1 => exact mC); (case side2 => exact HC0_0.out); (case side3 => exact mC); (case side4 => exact HC0_1.out); (case side5 => exact mC); (case side6 => exact HC0_2.out); rintro e w11 ⟨v326, rfl, ho0, hb⟩; refine ⟨_, rfl, ?_⟩; have HO327 := K1 (Kd.R_lower ho0 (below_size mB)); replace BK323 := K1 (blk_below (mU BK323.out) hb); replace HB := K1 (below_step mB hb); (try clear hb); (try clear ho0); obtain ⟨Ao12, co12, eo12⟩ := Kd.R_slice HO327.out; subst eo12) | ((with_reducible refine gate_callee (f := 43) rfl ?_); refine goesL_ (some 19) rfl rfl Try.func43 (by kernel_rfl) rfl #[.slice Ao12 t325.length co12] rfl mL ?_; (with_reducible refine (rotaref08_rising.calls k _ _ t325 t328 _ ?side1 ?side2 A6.out).mono ?_); (case side1 => exact mW (Kd.R_reads' HO327.out).2.2); (case side2 => exact (Kd.R_reads' HO327.out).2.1); rintro e w13 ⟨v329, rfl, ho0, hb⟩; refine ⟨_, rfl, ?_⟩; have HO330 := K1 (Kd.R_lower ho0 (below_size mB)); replace HO327 := K1 (Kd.R_below (mV HO327.out) hb); replace BK323 := K1 (blk_below (mU BK323.out) hb); replace HB := K1 (below_step mB hb); (try clear hb); (try clear ho0)))
  go_ret2
  exact ⟨_, mE, by (with_reducible repeat (first | apply Kd.R_alloc | apply Kd.R_drewN | apply Kd.R_drew)); exact HO330.out, mB⟩
 ·rw [if_neg c4] at H
  have c4b0 : (t324 == 0) = false := beq_eq_false_iff_ne.mpr c4
  have c4b1 : (t324 != 0) = true := bne_iff_ne.mpr c4
  simp only [Option.some.injEq, Prod.mk.injEq] at H
  obtain ⟨rfl, rfl⟩ := H
  go_enter Try.func21, Try.ntmps21
  go_wp2_with (first | ((with_reducible refine gate_dst (N := 2) rfl ?_); refine bev (N := 2) (cs := #[.slice A0_0 l0_0.length c0_0, .slice A0_1 l0_1.length c0_1, .slice A0_2 l0_2.length c0_2]) (t := 26) (h := ?_); intro gb323 hg w14 hbox hb; have BK323 := K1 (hbox); have GW323 := K1 (mG : w.heap.size ≤ gb323); have GE323 := K1 (mG : w.heap.size ≤ gb323); replace HB := K1 (below_step mB hb); clear hb hbox hg; obtain ⟨hcz15_0, hcz15_1, hcz15_2, hfz15_0, hfz15_1, hfz15_2⟩ := cf3 BK323) | ((with_reducible refine gate_callee (f := 37) rfl ?_); refine goesL_ (some 12) rfl rfl Try.func37 (by kernel_rfl) rfl #[.agg #[.slice A0_0 l0_0.length c0_0, .slice A0_1 l0_1.length c0_1, .slice A0_2 l0_2.length c0_2], .int .i64 a1, .int .i64 (l0_1.length : Int)] rfl mL ?_; (with_reducible refine (rotaref08_looked.calls k _ _ l0_0 _ _ l0_1 _ _ l0_2 a1 (l0_1.length : Int) t324 _ ?side1 ?side2 ?side3 ?side4 ?side5 ?side6 A3.out).mono ?_); (case side1 => exact mC); (case side2 => exact HC0_0.out); (case side3 => exact mC); (case side4 => exact HC0_1.out); (case side5 => exact mC); (case side6 => exact HC0_2.out); rintro e w16 ⟨rfl, hb⟩; refine ⟨_, rfl, ?_⟩; replace BK323 := K1 (blk_below (mU BK323.out) hb); replace HB := K1 (below_step mB hb); (try clear hb)))
  go_ret2
  exact ⟨_, mE, by first | exact Kd.R_nil _ _ _ _ _ | exact Kd.N_nil _ _ _ _ _ | exact Kd.V_nil _ _ _ _ _ | exact Kd.Q_nil _ _ _ _ _ | exact Kd.S_nil _ _ _ _ _, mB⟩

end Go.Proofs.Ytdlikjfffdpmiaa.QProper

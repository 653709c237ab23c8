/- Printed: a function's machine side. Conditions: none. -/
import Derived.Test.YtdlikjfffdpmiaaQProperx0
import Derived.Test.YtdlikjfffdpmiaaQProperx27
import Derived.Test.YtdlikjfffdpmiaaQProperx41
import Derived.Test.YtdlikjfffdpmiaaQProperx51
namespace Go.Proofs.Ytdlikjfffdpmiaa.QProper
open Go.RowKit Go.Proofs.YtdlikjfffdpmiaaW.PrintWords Go.Proofs.YtdlikjfffdpmiaaW.PrintLast Go.Proofs.YtdlikjfffdpmiaaW.PrintMore
set_option linter.unusedVariables false
set_option linter.unusedSimpArgs false

/-! ### rotaref08_Calls: function 24 -/
def rotaref08_Calls.f (k : Nat) (l0_0 : List Int) (l0_1 : List (S34)) (l0_2 : List (S58)) (a1 : Int) (a2 : Bool) : Option (List Int × Int) := (rotaref08_looked.f k l0_0 l0_1 l0_2 a1 (l0_1.length : Int)).bind fun t457 => (if t457 = 0 then ((rotaref08_calls.f k l0_0 l0_1 l0_2 a1 a2).bind fun t458 => ((rotaref08_rising.f k t458).bind fun t461 => (some (t461, 0)))) else (some (([] : List Int), t457)))
theorem rotaref08_Calls.mono : ∀ a0 a1 a2 a3 a4 k, LeO (rotaref08_Calls.f k a0 a1 a2 a3 a4) (rotaref08_Calls.f (k + 1) a0 a1 a2 a3 a4) := by
 intro a0 a1 a2 a3 a4 k
 unfold rotaref08_Calls.f
 repeat' first
   | (with_reducible exact rotaref08_calls.mono _ _ _ _ _ _)
   | (with_reducible exact rotaref08_looked.mono _ _ _ _ _ _)
   | (with_reducible exact rotaref08_rising.mono _ _)
   | (with_reducible exact LeO.refl _)
   | (with_reducible exact LeO.none _)
   | (with_reducible refine LeO.ite ?_ ?_)
   | (with_reducible refine LeO.bind ?_ (fun _ => ?_))
   | exact rotaref08_calls.mono _ _ _ _ _ _
   | exact rotaref08_looked.mono _ _ _ _ _ _
   | exact rotaref08_rising.mono _ _
   | exact LeO.none _
   | refine LeO.ite ?_ ?_
   | refine LeO.bind ?_ (fun _ => ?_)
set_option maxHeartbeats 8000000 in
set_option maxRecDepth 100000 in
theorem rotaref08_Calls.calls (k : Nat) (A0_0 : Option Addr) (c0_0 : Nat) (l0_0 : List Int) (A0_1 : Option Addr) (c0_1 : Nat) (l0_1 : List (S34)) (A0_2 : Option Addr) (c0_2 : Nat) (l0_2 : List (S58)) (a1 : Int) (a2 : Bool) (r1 : List Int) (r2 : Int) (w : World) (hr0_0 : Kd.C (Kd.int .u32) w A0_0 l0_0.length l0_0) (hc0_0 : l0_0.length ≤ c0_0) (hr0_1 : Kd.C k34 w A0_1 l0_1.length l0_1) (hc0_1 : l0_1.length ≤ c0_1) (hr0_2 : Kd.C k58 w A0_2 l0_2.length l0_2) (hc0_2 : l0_2.length ≤ c0_2) (h : rotaref08_Calls.f k l0_0 l0_1 l0_2 a1 a2 = some (r1, r2)) :
  Calls Try.prog 24 #[.agg #[.slice A0_0 l0_0.length c0_0, .slice A0_1 l0_1.length c0_1, .slice A0_2 l0_2.length c0_2], .int .i64 a1, .bool a2] w fun e w' => ∃ v0_ : Value, e = .returned (.tuple #[v0_, .int .i64 r2]) ∧ Kd.R (Kd.int .i64) 3 w' w.heap.size (fun _ => True) v0_ r1 ∧ Below w.heap.size w w' := by
 have hu26 := Try.underlying26
 have HR0_0 := K1 hr0_0
 have HC0_0 := K1 hc0_0
 clear hr0_0 hc0_0
 have HR0_1 := K1 hr0_1
 have HC0_1 := K1 hc0_1
 clear hr0_1 hc0_1
 have HR0_2 := K1 hr0_2
 have HC0_2 := K1 hc0_2
 clear hr0_2 hc0_2
 have HB := K1 (Below.refl w.heap.size w)
 have H : ((rotaref08_looked.f k l0_0 l0_1 l0_2 a1 (l0_1.length : Int)).bind fun t457 => (if t457 = 0 then ((rotaref08_calls.f k l0_0 l0_1 l0_2 a1 a2).bind fun t458 => ((rotaref08_rising.f k t458).bind fun t461 => (some (t461, 0)))) else (some (([] : List Int), t457)))) = some (r1, r2) := h
 clear h
 replace H := Option.bind_eq_some_iff.mp H
 obtain ⟨t457, A40, H⟩ := H
 replace H : (if t457 = 0 then ((rotaref08_calls.f k l0_0 l0_1 l0_2 a1 a2).bind fun t458 => ((rotaref08_rising.f k t458).bind fun t461 => (some (t461, 0)))) else (some (([] : List Int), t457))) = some (r1, r2) := H
 have A4 := K1 A40
 clear A40
 by_cases c5 : t457 = 0
 ·rw [if_pos c5] at H
  have c5b0 : (t457 == 0) = true := beq_iff_eq.mpr c5
  have c5b1 : (t457 != 0) = false := bne_eq_false_iff_eq.mpr c5
  clear c5
  replace H := Option.bind_eq_some_iff.mp H
  obtain ⟨t458, A60, H⟩ := H
  replace H : ((rotaref08_rising.f k t458).bind fun t461 => (some (t461, 0))) = some (r1, r2) := H
  have A6 := K1 A60
  clear A60
  replace H := Option.bind_eq_some_iff.mp H
  obtain ⟨t461, A70, H⟩ := H
  replace H : (some (t461, 0)) = some (r1, r2) := H
  have A7 := K1 A70
  clear A70
  simp only [Option.some.injEq, Prod.mk.injEq] at H
  obtain ⟨rfl, rfl⟩ := H
  go_enter Try.func24, Try.ntmps24
  go_wp2_with (first | ((with_reducible refine gate_dst (N := 3) rfl ?_); refine bev (N := 3) (cs := #[.slice A0_0 l0_0.length c0_0, .slice A0_1 l0_1.length c0_1, .slice A0_2 l0_2.length c0_2]) (t := 26) (h := ?_); intro gb456 hg w8 hbox hb; have BK456 := K1 (hbox); have GW456 := K1 (mG : w.heap.size ≤ gb456); have GE456 := K1 (mG : w.heap.size ≤ gb456); replace HB := K1 (below_step mB hb); clear hb hbox hg; obtain ⟨hcz9_0, hcz9_1, hcz9_2, hfz9_0, hfz9_1, hfz9_2⟩ := cf3 BK456) | ((with_reducible refine gate_callee (f := 37) rfl ?_); refine goesL_ (some 14) rfl rfl Try.func37 (by kernel_rfl) rfl #[.agg #[.slice A0_0 l0_0.length c0_0, .slice A0_1 l0_1.length c0_1, .slice A0_2 l0_2.length c0_2], .int .i64 a1, .int .i64 (l0_1.length : Int)] rfl mL ?_; (with_reducible refine (rotaref08_looked.calls k _ _ l0_0 _ _ l0_1 _ _ l0_2 a1 (l0_1.length : Int) t457 _ ?side1 ?side2 ?side3 ?side4 ?side5 ?side6 A4.out).mono ?_); (case side1 => exact mC); (case side2 => exact HC0_0.out); (case side3 => exact mC); (case side4 => exact HC0_1.out); (case side5 => exact mC); (case side6 => exact HC0_2.out); rintro e w10 ⟨rfl, hb⟩; refine ⟨_, rfl, ?_⟩; replace BK456 := K1 (blk_below (mU BK456.out) hb); replace HB := K1 (below_step mB hb); (try clear hb); obtain ⟨hcz11_0, hcz11_1, hcz11_2, hfz11_0, hfz11_1, hfz11_2⟩ := cf3 BK456) | ((with_reducible refine gate_callee (f := 48) rfl ?_); refine goesL_ (some 21) rfl rfl Try.func48 (by kernel_rfl) rfl #[.agg #[.slice A0_0 l0_0.length c0_0, .slice A0_1 l0_1.length c0_1, .slice A0_2 l0_2.length c0_2], .int .i64 a1, .bool a2] rfl mL ?_; (with_reducible refine (rotaref08_calls.calls k _ _ l0_0 _ _ l0_1 _ _ l0_2 a1 a2 t458 _ ?side1 ?side2 ?side3 ?side4 ?side5 ?side6 A6.out).mono ?_); (case side1 => exact mC); (case side2 => exact HC0_0.out); (case side3 => exact mC); (case side4 => exact HC0_1.out); (case side5 => exact mC); (case side6 => exact HC0_2.out); rintro e w12 ⟨v459, rfl, ho0, hb⟩; refine ⟨_, rfl, ?_⟩; have HO460 := K1 (Kd.R_lower ho0 (below_size mB)); replace BK456 := K1 (blk_below (mU BK456.out) hb); replace HB := K1 (below_step mB hb); (try clear hb); (try clear ho0); obtain ⟨Ao13, co13, eo13⟩ := Kd.R_slice HO460.out; subst eo13) | ((with_reducible refine gate_callee (f := 43) rfl ?_); refine goesL_ (some 22) rfl rfl Try.func43 (by kernel_rfl) rfl #[.slice Ao13 t458.length co13] rfl mL ?_; (with_reducible refine (rotaref08_rising.calls k _ _ t458 t461 _ ?side1 ?side2 A7.out).mono ?_); (case side1 => exact mW (Kd.R_reads' HO460.out).2.2); (case side2 => exact (Kd.R_reads' HO460.out).2.1); rintro e w14 ⟨v462, rfl, ho0, hb⟩; refine ⟨_, rfl, ?_⟩; have HO463 := K1 (Kd.R_lower ho0 (below_size mB)); replace HO460 := K1 (Kd.R_below (mV HO460.out) hb); replace BK456 := K1 (blk_below (mU BK456.out) hb); replace HB := K1 (below_step mB hb); (try clear hb); (try clear ho0)))
  go_ret2
  exact ⟨_, mE, by (with_reducible repeat (first | apply Kd.R_alloc | apply Kd.R_drewN | apply Kd.R_drew)); exact HO463.out, mB⟩
 ·rw [if_neg c5] at H
  have c5b0 : (t457 == 0) = false := beq_eq_false_iff_ne.mpr c5
  have c5b1 : (t457 != 0) = true := bne_iff_ne.mpr c5
  simp only [Option.some.injEq, Prod.mk.injEq] at H
  obtain ⟨rfl, rfl⟩ := H
  go_enter Try.func24, Try.ntmps24
  go_wp2_with (first | ((with_reducible refine gate_dst (N := 3) rfl ?_); refine bev (N := 3) (cs := #[.slice A0_0 l0_0.length c0_0, .slice A0_1 l0_1.length c0_1, .slice A0_2 l0_2.length c0_2]) (t := 26) (h := ?_); intro gb456 hg w15 hbox hb; have BK456 := K1 (hbox); have GW456 := K1 (mG : w.heap.size ≤ gb456); have GE456 := K1 (mG : w.heap.size ≤ gb456); replace HB := K1 (below_step mB hb); clear hb hbox hg; obtain ⟨hcz16_0, hcz16_1, hcz16_2, hfz16_0, hfz16_1, hfz16_2⟩ := cf3 BK456) | ((with_reducible refine gate_callee (f := 37) rfl ?_); refine goesL_ (some 14) rfl rfl Try.func37 (by kernel_rfl) rfl #[.agg #[.slice A0_0 l0_0.length c0_0, .slice A0_1 l0_1.length c0_1, .slice A0_2 l0_2.length c0_2], .int .i64 a1, .int .i64 (l0_1.length : Int)] rfl mL ?_; (with_reducible refine (rotaref08_looked.calls k _ _ l0_0 _ _ l0_1 _ _ l0_2 a1 (l0_1.length : Int) t457 _ ?side1 ?side2 ?side3 ?side4 ?side5 ?side6 A4.out).mono ?_); (case side1 => exact mC); (case side2 => exact HC0_0.out); (case side3 => exact mC); (case side4 => exact HC0_1.out); (case side5 => exact mC); (case side6 => exact HC0_2.out); rintro e w17 ⟨rfl, hb⟩; refine ⟨_, rfl, ?_⟩; replace BK456 := K1 (blk_below (mU BK456.out) hb); replace HB := K1 (below_step mB hb); (try clear hb)))
  go_ret2
  exact ⟨_, mE, by first | exact Kd.R_nil _ _ _ _ _ | exact Kd.N_nil _ _ _ _ _ | exact Kd.V_nil _ _ _ _ _ | exact Kd.Q_nil _ _ _ _ _ | exact Kd.S_nil _ _ _ _ _, mB⟩

end Go.Proofs.Ytdlikjfffdpmiaa.QProper

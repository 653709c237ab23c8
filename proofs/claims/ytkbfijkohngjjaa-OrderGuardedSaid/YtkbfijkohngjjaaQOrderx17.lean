/- Written out by a program of this session over the translation: the machine's side of rota/rotalaw26.OrderBefores,rota/rotalaw26.OrderStrict,rota/rotalaw26.OrderRules,rota/rotalaw26.OrderArrows,rota/rotalaw26.OrderRaces,rota/rotalaw26.OrderGuarded,rota/rotalaw26.OrderAlone,rota/rotalaw26.OrderClocks,rota/rotalaw26.OrderVector,rota/rotalaw26.OrderOwn. Conditions: each theorem's own. -/
import Derived.Test.YtkbfijkohngjjaaQOrderx0
import Derived.Test.YtkbfijkohngjjaaQOrderx1
namespace Go.Proofs.Ytkbfijkohngjjaa.QOrder
open Go.RowKit Go.Proofs.YtkbfijkohngjjaaW.PrintWords Go.Proofs.YtkbfijkohngjjaaW.PrintLast Go.Proofs.YtkbfijkohngjjaaW.PrintMore
attribute [local go_sem] max2_int min2_int max_two min_two max_three min_three max_four min_four   -- for this text's walks alone
set_option linter.unusedVariables false
set_option linter.unusedSimpArgs false

attribute [local go_sem high] eqA34
/-! ### rotalaw26_within: function 27 -/
mutual
noncomputable def rotalaw26_within.l0 : Nat → List (S36) → Int → Int → Bool → Int → Option (Bool)
  | 0, _, _, _, _, _ => none
  | k + 1, x0, x1, x2, x7, x8 => if x8 < x1 then (if 0 ≤ x8 then (if x8 < (x0.length : Int) then (if 0 ≤ x1 then (if x1 < (x0.length : Int) then (if (!(((rd_T36 x0 x8).f2.f0) == ((rd_T36 x0 x1).f2.f0)) || (!(((rd_T36 x0 x8).f2.f1) == ((rd_T36 x0 x1).f2.f1)))) = true then (rotalaw26_within.l0 k x0 x1 x2 x7 (wrap64 (x8 + 1))) else (if ((rd_T36 x0 x8).f3) = 20 then (if ((rd_T36 x0 x8).f4) = x2 then (if ((rd_T36 x0 x8).f5) = 0 then (rotalaw26_within.j1 k x0 x1 x2 x7 x8 true) else (if ((rd_T36 x0 x8).f3) = 25 then (rotalaw26_within.j1 k x0 x1 x2 x7 x8 (((rd_T36 x0 x8).f5) == x2)) else (rotalaw26_within.j1 k x0 x1 x2 x7 x8 false))) else (if ((rd_T36 x0 x8).f3) = 25 then (rotalaw26_within.j1 k x0 x1 x2 x7 x8 (((rd_T36 x0 x8).f5) == x2)) else (rotalaw26_within.j1 k x0 x1 x2 x7 x8 false))) else (if ((rd_T36 x0 x8).f3) = 25 then (rotalaw26_within.j1 k x0 x1 x2 x7 x8 (((rd_T36 x0 x8).f5) == x2)) else (rotalaw26_within.j1 k x0 x1 x2 x7 x8 false)))) else (none)) else (none)) else (none)) else (none)) else (some x7)
noncomputable def rotalaw26_within.j1 : Nat → List (S36) → Int → Int → Bool → Int → Bool → Option (Bool)
  | 0, _, _, _, _, _, _ => none
  | k + 1, x0, x1, x2, x7, x8, x64 => if x64 = true then (if 0 ≤ x8 then (if x8 < (x0.length : Int) then (if ((rd_T36 x0 x8).f3) = 21 then (if ((rd_T36 x0 x8).f4) = x2 then (if ((rd_T36 x0 x8).f5) = 0 then (rotalaw26_within.l0 k x0 x1 x2 false (wrap64 (x8 + 1))) else (rotalaw26_within.l0 k x0 x1 x2 true (wrap64 (x8 + 1)))) else (rotalaw26_within.l0 k x0 x1 x2 true (wrap64 (x8 + 1)))) else (rotalaw26_within.l0 k x0 x1 x2 true (wrap64 (x8 + 1)))) else (none)) else (none)) else (if 0 ≤ x8 then (if x8 < (x0.length : Int) then (if ((rd_T36 x0 x8).f3) = 21 then (if ((rd_T36 x0 x8).f4) = x2 then (if ((rd_T36 x0 x8).f5) = 0 then (rotalaw26_within.l0 k x0 x1 x2 false (wrap64 (x8 + 1))) else (rotalaw26_within.l0 k x0 x1 x2 x7 (wrap64 (x8 + 1)))) else (rotalaw26_within.l0 k x0 x1 x2 x7 (wrap64 (x8 + 1)))) else (rotalaw26_within.l0 k x0 x1 x2 x7 (wrap64 (x8 + 1)))) else (none)) else (none))
end
noncomputable def rotalaw26_within.f (k : Nat) (l0 : List (S36)) (a1 : Int) (a2 : Int) : Option (Bool) := rotalaw26_within.l0 k l0 a1 a2 false 0
theorem rotalaw26_within.mono_l : ∀ k, (∀ y0 y1 y2 y3 y4, LeO (rotalaw26_within.l0 k y0 y1 y2 y3 y4) (rotalaw26_within.l0 (k + 1) y0 y1 y2 y3 y4)) ∧ (∀ y0 y1 y2 y3 y4 y5, LeO (rotalaw26_within.j1 k y0 y1 y2 y3 y4 y5) (rotalaw26_within.j1 (k + 1) y0 y1 y2 y3 y4 y5))
  | 0 => ⟨fun _ _ _ _ _ r h => by simp [rotalaw26_within.l0] at h, fun _ _ _ _ _ _ r h => by simp [rotalaw26_within.j1] at h⟩
  | k + 1 => by
    obtain ⟨ih0, ih1⟩ := rotalaw26_within.mono_l k
    refine ⟨?_, ?_⟩
    · intro y0 y1 y2 y3 y4
      unfold rotalaw26_within.l0
      repeat' first
      | (with_reducible exact ih0 _ _ _ _ _)
      | (with_reducible exact ih1 _ _ _ _ _ _)
      | (with_reducible exact LeO.refl _)
      | (with_reducible exact LeO.none _)
      | (with_reducible refine LeO.ite ?_ ?_)
      | (with_reducible refine LeO.bind ?_ (fun _ => ?_))
      | exact ih0 _ _ _ _ _
      | exact ih1 _ _ _ _ _ _
      | exact LeO.none _
      | refine LeO.ite ?_ ?_
      | refine LeO.bind ?_ (fun _ => ?_)
    · intro y0 y1 y2 y3 y4 y5
      unfold rotalaw26_within.j1
      repeat' first
      | (with_reducible exact ih0 _ _ _ _ _)
      | (with_reducible exact ih1 _ _ _ _ _ _)
      | (with_reducible exact LeO.refl _)
      | (with_reducible exact LeO.none _)
      | (with_reducible refine LeO.ite ?_ ?_)
      | (with_reducible refine LeO.bind ?_ (fun _ => ?_))
      | exact ih0 _ _ _ _ _
      | exact ih1 _ _ _ _ _ _
      | exact LeO.none _
      | refine LeO.ite ?_ ?_
      | refine LeO.bind ?_ (fun _ => ?_)
theorem rotalaw26_within.mono : ∀ a0 a1 a2 k, LeO (rotalaw26_within.f k a0 a1 a2) (rotalaw26_within.f (k + 1) a0 a1 a2) := by
  intro a0 a1 a2 k
  obtain ⟨ih0, ih1⟩ := rotalaw26_within.mono_l k
  unfold rotalaw26_within.f
  repeat' first
      | (with_reducible exact ih0 _ _ _ _ _)
      | (with_reducible exact ih1 _ _ _ _ _ _)
      | (with_reducible exact LeO.refl _)
      | (with_reducible exact LeO.none _)
      | (with_reducible refine LeO.ite ?_ ?_)
      | (with_reducible refine LeO.bind ?_ (fun _ => ?_))
      | exact ih0 _ _ _ _ _
      | exact ih1 _ _ _ _ _ _
      | exact LeO.none _
      | refine LeO.ite ?_ ?_
      | refine LeO.bind ?_ (fun _ => ?_)
set_option maxHeartbeats 8000000 in
set_option maxRecDepth 100000 in
theorem rotalaw26_within.calls (k : Nat) (A0 : Option Addr) (c0 : Nat) (l0 : List (S36)) (a1 : Int) (a2 : Int) (r : Bool) (w : World) (hr0 : Kd.C k36 w A0 l0.length l0) (hc0 : l0.length ≤ c0) (h : rotalaw26_within.f k l0 a1 a2 = some r) :
    Calls Try.prog 27 #[.slice A0 l0.length c0, .int .i64 a1, .int .i64 a2] w fun e w' => e = .returned (.bool r) ∧ Drawn0 w w' := by
  have hu34 := Try.underlying34
  have HR0 := Aside0.mk hr0
  have HC0 := Aside0.mk hc0
  clear hr0 hc0
  have H : (rotalaw26_within.l0 k l0 a1 a2 false 0) = some r := h
  clear h
  have H' := Aside0.mk H
  clear H
  go_enter Try.func27, Try.ntmps27
  go_wp2
  repeat (go_quiet (fail); try go_wp2)
  go_loopg [7, 8] k (fun kq v7 v8 w' => ∃ (x7_1 : Bool) (x8_1 : Int), v7 = .bool x7_1 ∧ v8 = .int .i64 x8_1 ∧ Aside0 (rotalaw26_within.l0 kq l0 a1 a2 x7_1 x8_1 = some r) ∧ Aside0 (kq ≤ k) ∧ Drawn0 w w')
  case atStart => exact ⟨(false), (0), (by first | rfl | (simp; done) | (simp [*]; done)), (by first | rfl | (simp; done) | (simp [*]; done)), H', ⟨Nat.le_refl _⟩, by repeat (first | exact Drawn0.refl _ | apply Drawn0.step)⟩
  case round =>
    clear H'
    try clear c2
    try clear p2
    obtain ⟨x7_1, x8_1, rfl, rfl, HA, HK1, ⟨m1, rfl⟩⟩ := hrel
    cases gk with
    | zero => exact absurd HA.out (by simp [rotalaw26_within.l0])
    | succ k1 =>
      have H := HA.out
      clear HA
      simp only [rotalaw26_within.l0] at H
      by_cases c4 : x8_1 < a1
      · rw [if_pos c4] at H
        have c4b0 : decide (x8_1 < a1) = true := decide_eq_true c4
        clear c4
        by_cases c5 : 0 ≤ x8_1
        · rw [if_pos c5] at H
          have c5b0 : decide (0 ≤ x8_1) = true := decide_eq_true c5
          clear c5
          by_cases c6 : x8_1 < (l0.length : Int)
          · rw [if_pos c6] at H
            have c6b0 : decide (x8_1 < (l0.length : Int)) = true := decide_eq_true c6
            clear c6
            by_cases c7 : 0 ≤ a1
            · rw [if_pos c7] at H
              have c7b0 : decide (0 ≤ a1) = true := decide_eq_true c7
              clear c7
              by_cases c8 : a1 < (l0.length : Int)
              · rw [if_pos c8] at H
                have c8b0 : decide (a1 < (l0.length : Int)) = true := decide_eq_true c8
                clear c8
                by_cases c9 : (!(((rd_T36 l0 x8_1).f2.f0) == ((rd_T36 l0 a1).f2.f0)) || (!(((rd_T36 l0 x8_1).f2.f1) == ((rd_T36 l0 a1).f2.f1)))) = true
                · rw [if_pos c9] at H
                  have c9b0 : (!(((rd_T36 l0 x8_1).f2.f0) == ((rd_T36 l0 a1).f2.f0)) || (!(((rd_T36 l0 x8_1).f2.f1) == ((rd_T36 l0 a1).f2.f1)))) = true := c9
                  clear c9
                  have H' := Aside0.mk H
                  clear H
                  have p334 : 0 ≤ (x8_1 : Int) := of_decide_eq_true (by first | (with_reducible assumption) | assumption)
                  have q334 : x8_1 < (l0.length : Int) := of_decide_eq_true (by first | (with_reducible assumption) | assumption)
                  obtain ⟨ad334, e334, hx334_0, hx334_1, hx334_2, hx334_3, hx334_4, hx334_5, hx334_6, hx334_7⟩ := at_T36 HR0.out x8_1 p334 q334
                  cases e334
                  replace p334 := eq_true p334
                  replace q334 := eq_true q334
                  have p335 : 0 ≤ (a1 : Int) := of_decide_eq_true (by first | (with_reducible assumption) | assumption)
                  have q335 : a1 < (l0.length : Int) := of_decide_eq_true (by first | (with_reducible assumption) | assumption)
                  obtain ⟨ad335, e335, hx335_0, hx335_1, hx335_2, hx335_3, hx335_4, hx335_5, hx335_6, hx335_7⟩ := at_T36 HR0.out a1 p335 q335
                  obtain rfl : ad334 = ad335 := (by injection e335)
                  replace p335 := eq_true p335
                  replace q335 := eq_true q335
                  go_wp2
                  repeat (go_quiet (fail); try go_wp2)
                  go_roundg k1
                  case measure => have := HK1.out; omega
                  case rel => exact ⟨(x7_1), (wrap64 (x8_1 + 1)), (by first | rfl | (simp; done) | (simp [*]; done)), (by first | rfl | (simp; done) | (simp [*]; done)), H', ⟨by have := HK1.out; omega⟩, by repeat (first | exact Drawn0.refl _ | apply Drawn0.step)⟩
                · rw [if_neg c9] at H
                  have c9b0 : (!(((rd_T36 l0 x8_1).f2.f0) == ((rd_T36 l0 a1).f2.f0)) || (!(((rd_T36 l0 x8_1).f2.f1) == ((rd_T36 l0 a1).f2.f1)))) = false := by simpa using c9
                  clear c9
                  have HC10 := Aside0.mk H
                  clear H
                  have p334 : 0 ≤ (x8_1 : Int) := of_decide_eq_true (by first | (with_reducible assumption) | assumption)
                  have q334 : x8_1 < (l0.length : Int) := of_decide_eq_true (by first | (with_reducible assumption) | assumption)
                  obtain ⟨ad334, e334, hx334_0, hx334_1, hx334_2, hx334_3, hx334_4, hx334_5, hx334_6, hx334_7⟩ := at_T36 HR0.out x8_1 p334 q334
                  cases e334
                  replace p334 := eq_true p334
                  replace q334 := eq_true q334
                  have p335 : 0 ≤ (a1 : Int) := of_decide_eq_true (by first | (with_reducible assumption) | assumption)
                  have q335 : a1 < (l0.length : Int) := of_decide_eq_true (by first | (with_reducible assumption) | assumption)
                  obtain ⟨ad335, e335, hx335_0, hx335_1, hx335_2, hx335_3, hx335_4, hx335_5, hx335_6, hx335_7⟩ := at_T36 HR0.out a1 p335 q335
                  obtain rfl : ad334 = ad335 := (by injection e335)
                  replace p335 := eq_true p335
                  replace q335 := eq_true q335
                  go_upto_region 6 with (fail)
                  repeat (go_quiet (fail); go_upto_region 6 with (fail))
                  go_cut [64] (fun v64 wc => ∃ (kq : Nat) (x64_9 : Bool), v64 = .bool x64_9 ∧ Aside0 (rotalaw26_within.j1 kq l0 a1 a2 x7_1 x8_1 x64_9 = some r) ∧ Aside0 (kq ≤ k1) ∧ Drawn0 w wc)
                  case first =>
                    have H := HC10.out
                    clear HC10
                    by_cases c11 : ((rd_T36 l0 x8_1).f3) = 20
                    · rw [if_pos c11] at H
                      have c11b0 : (((rd_T36 l0 x8_1).f3) == 20) = true := beq_iff_eq.mpr c11
                      have c11b1 : (((rd_T36 l0 x8_1).f3) != 20) = false := bne_eq_false_iff_eq.mpr c11
                      clear c11
                      (first | rw [c11b0] | (simp only [i64_w, i32_w]; rw [c11b0]) | skip)
                      by_cases c12 : ((rd_T36 l0 x8_1).f4) = a2
                      · rw [if_pos c12] at H
                        have c12b0 : (((rd_T36 l0 x8_1).f4) == a2) = true := beq_iff_eq.mpr c12
                        have c12b1 : (((rd_T36 l0 x8_1).f4) != a2) = false := bne_eq_false_iff_eq.mpr c12
                        clear c12
                        by_cases c13 : ((rd_T36 l0 x8_1).f5) = 0
                        · rw [if_pos c13] at H
                          have c13b0 : (((rd_T36 l0 x8_1).f5) == 0) = true := beq_iff_eq.mpr c13
                          have c13b1 : (((rd_T36 l0 x8_1).f5) != 0) = false := bne_eq_false_iff_eq.mpr c13
                          clear c13
                          have H' := Aside0.mk H
                          clear H
                          have p336 : 0 ≤ (x8_1 : Int) := of_decide_eq_true (by first | (with_reducible assumption) | assumption)
                          have q336 : x8_1 < (l0.length : Int) := of_decide_eq_true (by first | (with_reducible assumption) | assumption)
                          obtain ⟨ad336, e336, hx336_0, hx336_1, hx336_2, hx336_3, hx336_4, hx336_5, hx336_6, hx336_7⟩ := at_T36 HR0.out x8_1 p336 q336
                          obtain rfl : ad334 = ad336 := (by injection e336)
                          replace p336 := eq_true p336
                          replace q336 := eq_true q336
                          have p337 : 0 ≤ (x8_1 : Int) := of_decide_eq_true (by first | (with_reducible assumption) | assumption)
                          have q337 : x8_1 < (l0.length : Int) := of_decide_eq_true (by first | (with_reducible assumption) | assumption)
                          obtain ⟨ad337, e337, hx337_0, hx337_1, hx337_2, hx337_3, hx337_4, hx337_5, hx337_6, hx337_7⟩ := at_T36 HR0.out x8_1 p337 q337
                          obtain rfl : ad334 = ad337 := (by injection e337)
                          replace p337 := eq_true p337
                          replace q337 := eq_true q337
                          have p338 : 0 ≤ (x8_1 : Int) := of_decide_eq_true (by first | (with_reducible assumption) | assumption)
                          have q338 : x8_1 < (l0.length : Int) := of_decide_eq_true (by first | (with_reducible assumption) | assumption)
                          obtain ⟨ad338, e338, hx338_0, hx338_1, hx338_2, hx338_3, hx338_4, hx338_5, hx338_6, hx338_7⟩ := at_T36 HR0.out x8_1 p338 q338
                          obtain rfl : ad334 = ad338 := (by injection e338)
                          replace p338 := eq_true p338
                          replace q338 := eq_true q338
                          go_wp2
                          repeat (go_quiet (fail); try go_wp2)
                          go_meet
                          case rel => exact ⟨_, (true), (by first | rfl | (simp; done) | (simp [*]; done)), H', ⟨by have := HK1.out; first | omega | exact Nat.le_refl _⟩, by repeat (first | exact Drawn0.refl _ | apply Drawn0.step)⟩
                        · rw [if_neg c13] at H
                          have c13b0 : (((rd_T36 l0 x8_1).f5) == 0) = false := beq_eq_false_iff_ne.mpr c13
                          have c13b1 : (((rd_T36 l0 x8_1).f5) != 0) = true := bne_iff_ne.mpr c13
                          by_cases c14 : ((rd_T36 l0 x8_1).f3) = 25
                          · rw [if_pos c14] at H
                            have c14b0 : (((rd_T36 l0 x8_1).f3) == 25) = true := beq_iff_eq.mpr c14
                            have c14b1 : (((rd_T36 l0 x8_1).f3) != 25) = false := bne_eq_false_iff_eq.mpr c14
                            clear c14
                            have H' := Aside0.mk H
                            clear H
                            have p336 : 0 ≤ (x8_1 : Int) := of_decide_eq_true (by first | (with_reducible assumption) | assumption)
                            have q336 : x8_1 < (l0.length : Int) := of_decide_eq_true (by first | (with_reducible assumption) | assumption)
                            obtain ⟨ad336, e336, hx336_0, hx336_1, hx336_2, hx336_3, hx336_4, hx336_5, hx336_6, hx336_7⟩ := at_T36 HR0.out x8_1 p336 q336
                            obtain rfl : ad334 = ad336 := (by injection e336)
                            replace p336 := eq_true p336
                            replace q336 := eq_true q336
                            have p337 : 0 ≤ (x8_1 : Int) := of_decide_eq_true (by first | (with_reducible assumption) | assumption)
                            have q337 : x8_1 < (l0.length : Int) := of_decide_eq_true (by first | (with_reducible assumption) | assumption)
                            obtain ⟨ad337, e337, hx337_0, hx337_1, hx337_2, hx337_3, hx337_4, hx337_5, hx337_6, hx337_7⟩ := at_T36 HR0.out x8_1 p337 q337
                            obtain rfl : ad334 = ad337 := (by injection e337)
                            replace p337 := eq_true p337
                            replace q337 := eq_true q337
                            have p338 : 0 ≤ (x8_1 : Int) := of_decide_eq_true (by first | (with_reducible assumption) | assumption)
                            have q338 : x8_1 < (l0.length : Int) := of_decide_eq_true (by first | (with_reducible assumption) | assumption)
                            obtain ⟨ad338, e338, hx338_0, hx338_1, hx338_2, hx338_3, hx338_4, hx338_5, hx338_6, hx338_7⟩ := at_T36 HR0.out x8_1 p338 q338
                            obtain rfl : ad334 = ad338 := (by injection e338)
                            replace p338 := eq_true p338
                            replace q338 := eq_true q338
                            have p339 : 0 ≤ (x8_1 : Int) := of_decide_eq_true (by first | (with_reducible assumption) | assumption)
                            have q339 : x8_1 < (l0.length : Int) := of_decide_eq_true (by first | (with_reducible assumption) | assumption)
                            obtain ⟨ad339, e339, hx339_0, hx339_1, hx339_2, hx339_3, hx339_4, hx339_5, hx339_6, hx339_7⟩ := at_T36 HR0.out x8_1 p339 q339
                            obtain rfl : ad334 = ad339 := (by injection e339)
                            replace p339 := eq_true p339
                            replace q339 := eq_true q339
                            have p340 : 0 ≤ (x8_1 : Int) := of_decide_eq_true (by first | (with_reducible assumption) | assumption)
                            have q340 : x8_1 < (l0.length : Int) := of_decide_eq_true (by first | (with_reducible assumption) | assumption)
                            obtain ⟨ad340, e340, hx340_0, hx340_1, hx340_2, hx340_3, hx340_4, hx340_5, hx340_6, hx340_7⟩ := at_T36 HR0.out x8_1 p340 q340
                            obtain rfl : ad334 = ad340 := (by injection e340)
                            replace p340 := eq_true p340
                            replace q340 := eq_true q340
                            go_wp2
                            repeat (go_quiet (fail); try go_wp2)
                            go_meet
                            case rel => exact ⟨_, ((((rd_T36 l0 x8_1).f5) == a2)), (by first | rfl | (simp; done) | (simp [*]; done)), H', ⟨by have := HK1.out; first | omega | exact Nat.le_refl _⟩, by repeat (first | exact Drawn0.refl _ | apply Drawn0.step)⟩
                          · rw [if_neg c14] at H
                            have c14b0 : (((rd_T36 l0 x8_1).f3) == 25) = false := beq_eq_false_iff_ne.mpr c14
                            have c14b1 : (((rd_T36 l0 x8_1).f3) != 25) = true := bne_iff_ne.mpr c14
                            have H' := Aside0.mk H
                            clear H
                            have p336 : 0 ≤ (x8_1 : Int) := of_decide_eq_true (by first | (with_reducible assumption) | assumption)
                            have q336 : x8_1 < (l0.length : Int) := of_decide_eq_true (by first | (with_reducible assumption) | assumption)
                            obtain ⟨ad336, e336, hx336_0, hx336_1, hx336_2, hx336_3, hx336_4, hx336_5, hx336_6, hx336_7⟩ := at_T36 HR0.out x8_1 p336 q336
                            obtain rfl : ad334 = ad336 := (by injection e336)
                            replace p336 := eq_true p336
                            replace q336 := eq_true q336
                            have p337 : 0 ≤ (x8_1 : Int) := of_decide_eq_true (by first | (with_reducible assumption) | assumption)
                            have q337 : x8_1 < (l0.length : Int) := of_decide_eq_true (by first | (with_reducible assumption) | assumption)
                            obtain ⟨ad337, e337, hx337_0, hx337_1, hx337_2, hx337_3, hx337_4, hx337_5, hx337_6, hx337_7⟩ := at_T36 HR0.out x8_1 p337 q337
                            obtain rfl : ad334 = ad337 := (by injection e337)
                            replace p337 := eq_true p337
                            replace q337 := eq_true q337
                            have p338 : 0 ≤ (x8_1 : Int) := of_decide_eq_true (by first | (with_reducible assumption) | assumption)
                            have q338 : x8_1 < (l0.length : Int) := of_decide_eq_true (by first | (with_reducible assumption) | assumption)
                            obtain ⟨ad338, e338, hx338_0, hx338_1, hx338_2, hx338_3, hx338_4, hx338_5, hx338_6, hx338_7⟩ := at_T36 HR0.out x8_1 p338 q338
                            obtain rfl : ad334 = ad338 := (by injection e338)
                            replace p338 := eq_true p338
                            replace q338 := eq_true q338
                            have p339 : 0 ≤ (x8_1 : Int) := of_decide_eq_true (by first | (with_reducible assumption) | assumption)
                            have q339 : x8_1 < (l0.length : Int) := of_decide_eq_true (by first | (with_reducible assumption) | assumption)
                            obtain ⟨ad339, e339, hx339_0, hx339_1, hx339_2, hx339_3, hx339_4, hx339_5, hx339_6, hx339_7⟩ := at_T36 HR0.out x8_1 p339 q339
                            obtain rfl : ad334 = ad339 := (by injection e339)
                            replace p339 := eq_true p339
                            replace q339 := eq_true q339
                            go_wp2
                            repeat (go_quiet (fail); try go_wp2)
                            go_meet
                            case rel => exact ⟨_, (false), (by first | rfl | (simp; done) | (simp [*]; done)), H', ⟨by have := HK1.out; first | omega | exact Nat.le_refl _⟩, by repeat (first | exact Drawn0.refl _ | apply Drawn0.step)⟩
                      · rw [if_neg c12] at H
                        have c12b0 : (((rd_T36 l0 x8_1).f4) == a2) = false := beq_eq_false_iff_ne.mpr c12
                        have c12b1 : (((rd_T36 l0 x8_1).f4) != a2) = true := bne_iff_ne.mpr c12
                        by_cases c15 : ((rd_T36 l0 x8_1).f3) = 25
                        · rw [if_pos c15] at H
                          have c15b0 : (((rd_T36 l0 x8_1).f3) == 25) = true := beq_iff_eq.mpr c15
                          have c15b1 : (((rd_T36 l0 x8_1).f3) != 25) = false := bne_eq_false_iff_eq.mpr c15
                          clear c15
                          have H' := Aside0.mk H
                          clear H
                          have p336 : 0 ≤ (x8_1 : Int) := of_decide_eq_true (by first | (with_reducible assumption) | assumption)
                          have q336 : x8_1 < (l0.length : Int) := of_decide_eq_true (by first | (with_reducible assumption) | assumption)
                          obtain ⟨ad336, e336, hx336_0, hx336_1, hx336_2, hx336_3, hx336_4, hx336_5, hx336_6, hx336_7⟩ := at_T36 HR0.out x8_1 p336 q336
                          obtain rfl : ad334 = ad336 := (by injection e336)
                          replace p336 := eq_true p336
                          replace q336 := eq_true q336
                          have p337 : 0 ≤ (x8_1 : Int) := of_decide_eq_true (by first | (with_reducible assumption) | assumption)
                          have q337 : x8_1 < (l0.length : Int) := of_decide_eq_true (by first | (with_reducible assumption) | assumption)
                          obtain ⟨ad337, e337, hx337_0, hx337_1, hx337_2, hx337_3, hx337_4, hx337_5, hx337_6, hx337_7⟩ := at_T36 HR0.out x8_1 p337 q337
                          obtain rfl : ad334 = ad337 := (by injection e337)
                          replace p337 := eq_true p337
                          replace q337 := eq_true q337
                          have p341 : 0 ≤ (x8_1 : Int) := of_decide_eq_true (by first | (with_reducible assumption) | assumption)
                          have q341 : x8_1 < (l0.length : Int) := of_decide_eq_true (by first | (with_reducible assumption) | assumption)
                          obtain ⟨ad341, e341, hx341_0, hx341_1, hx341_2, hx341_3, hx341_4, hx341_5, hx341_6, hx341_7⟩ := at_T36 HR0.out x8_1 p341 q341
                          obtain rfl : ad334 = ad341 := (by injection e341)
                          replace p341 := eq_true p341
                          replace q341 := eq_true q341
                          have p342 : 0 ≤ (x8_1 : Int) := of_decide_eq_true (by first | (with_reducible assumption) | assumption)
                          have q342 : x8_1 < (l0.length : Int) := of_decide_eq_true (by first | (with_reducible assumption) | assumption)
                          obtain ⟨ad342, e342, hx342_0, hx342_1, hx342_2, hx342_3, hx342_4, hx342_5, hx342_6, hx342_7⟩ := at_T36 HR0.out x8_1 p342 q342
                          obtain rfl : ad334 = ad342 := (by injection e342)
                          replace p342 := eq_true p342
                          replace q342 := eq_true q342
                          go_wp2
                          repeat (go_quiet (fail); try go_wp2)
                          go_meet
                          case rel => exact ⟨_, ((((rd_T36 l0 x8_1).f5) == a2)), (by first | rfl | (simp; done) | (simp [*]; done)), H', ⟨by have := HK1.out; first | omega | exact Nat.le_refl _⟩, by repeat (first | exact Drawn0.refl _ | apply Drawn0.step)⟩
                        · rw [if_neg c15] at H
                          have c15b0 : (((rd_T36 l0 x8_1).f3) == 25) = false := beq_eq_false_iff_ne.mpr c15
                          have c15b1 : (((rd_T36 l0 x8_1).f3) != 25) = true := bne_iff_ne.mpr c15
                          have H' := Aside0.mk H
                          clear H
                          have p336 : 0 ≤ (x8_1 : Int) := of_decide_eq_true (by first | (with_reducible assumption) | assumption)
                          have q336 : x8_1 < (l0.length : Int) := of_decide_eq_true (by first | (with_reducible assumption) | assumption)
                          obtain ⟨ad336, e336, hx336_0, hx336_1, hx336_2, hx336_3, hx336_4, hx336_5, hx336_6, hx336_7⟩ := at_T36 HR0.out x8_1 p336 q336
                          obtain rfl : ad334 = ad336 := (by injection e336)
                          replace p336 := eq_true p336
                          replace q336 := eq_true q336
                          have p337 : 0 ≤ (x8_1 : Int) := of_decide_eq_true (by first | (with_reducible assumption) | assumption)
                          have q337 : x8_1 < (l0.length : Int) := of_decide_eq_true (by first | (with_reducible assumption) | assumption)
                          obtain ⟨ad337, e337, hx337_0, hx337_1, hx337_2, hx337_3, hx337_4, hx337_5, hx337_6, hx337_7⟩ := at_T36 HR0.out x8_1 p337 q337
                          obtain rfl : ad334 = ad337 := (by injection e337)
                          replace p337 := eq_true p337
                          replace q337 := eq_true q337
                          have p341 : 0 ≤ (x8_1 : Int) := of_decide_eq_true (by first | (with_reducible assumption) | assumption)
                          have q341 : x8_1 < (l0.length : Int) := of_decide_eq_true (by first | (with_reducible assumption) | assumption)
                          obtain ⟨ad341, e341, hx341_0, hx341_1, hx341_2, hx341_3, hx341_4, hx341_5, hx341_6, hx341_7⟩ := at_T36 HR0.out x8_1 p341 q341
                          obtain rfl : ad334 = ad341 := (by injection e341)
                          replace p341 := eq_true p341
                          replace q341 := eq_true q341
                          go_wp2
                          repeat (go_quiet (fail); try go_wp2)
                          go_meet
                          case rel => exact ⟨_, (false), (by first | rfl | (simp; done) | (simp [*]; done)), H', ⟨by have := HK1.out; first | omega | exact Nat.le_refl _⟩, by repeat (first | exact Drawn0.refl _ | apply Drawn0.step)⟩
                    · rw [if_neg c11] at H
                      have c11b0 : (((rd_T36 l0 x8_1).f3) == 20) = false := beq_eq_false_iff_ne.mpr c11
                      have c11b1 : (((rd_T36 l0 x8_1).f3) != 20) = true := bne_iff_ne.mpr c11
                      (first | rw [c11b0] | (simp only [i64_w, i32_w]; rw [c11b0]) | skip)
                      by_cases c16 : ((rd_T36 l0 x8_1).f3) = 25
                      · rw [if_pos c16] at H
                        have c16b0 : (((rd_T36 l0 x8_1).f3) == 25) = true := beq_iff_eq.mpr c16
                        have c16b1 : (((rd_T36 l0 x8_1).f3) != 25) = false := bne_eq_false_iff_eq.mpr c16
                        clear c16
                        have H' := Aside0.mk H
                        clear H
                        have p336 : 0 ≤ (x8_1 : Int) := of_decide_eq_true (by first | (with_reducible assumption) | assumption)
                        have q336 : x8_1 < (l0.length : Int) := of_decide_eq_true (by first | (with_reducible assumption) | assumption)
                        obtain ⟨ad336, e336, hx336_0, hx336_1, hx336_2, hx336_3, hx336_4, hx336_5, hx336_6, hx336_7⟩ := at_T36 HR0.out x8_1 p336 q336
                        obtain rfl : ad334 = ad336 := (by injection e336)
                        replace p336 := eq_true p336
                        replace q336 := eq_true q336
                        have p343 : 0 ≤ (x8_1 : Int) := of_decide_eq_true (by first | (with_reducible assumption) | assumption)
                        have q343 : x8_1 < (l0.length : Int) := of_decide_eq_true (by first | (with_reducible assumption) | assumption)
                        obtain ⟨ad343, e343, hx343_0, hx343_1, hx343_2, hx343_3, hx343_4, hx343_5, hx343_6, hx343_7⟩ := at_T36 HR0.out x8_1 p343 q343
                        obtain rfl : ad334 = ad343 := (by injection e343)
                        replace p343 := eq_true p343
                        replace q343 := eq_true q343
                        have p344 : 0 ≤ (x8_1 : Int) := of_decide_eq_true (by first | (with_reducible assumption) | assumption)
                        have q344 : x8_1 < (l0.length : Int) := of_decide_eq_true (by first | (with_reducible assumption) | assumption)
                        obtain ⟨ad344, e344, hx344_0, hx344_1, hx344_2, hx344_3, hx344_4, hx344_5, hx344_6, hx344_7⟩ := at_T36 HR0.out x8_1 p344 q344
                        obtain rfl : ad334 = ad344 := (by injection e344)
                        replace p344 := eq_true p344
                        replace q344 := eq_true q344
                        go_wp2
                        repeat (go_quiet (fail); try go_wp2)
                        go_meet
                        case rel => exact ⟨_, ((((rd_T36 l0 x8_1).f5) == a2)), (by first | rfl | (simp; done) | (simp [*]; done)), H', ⟨by have := HK1.out; first | omega | exact Nat.le_refl _⟩, by repeat (first | exact Drawn0.refl _ | apply Drawn0.step)⟩
                      · rw [if_neg c16] at H
                        have c16b0 : (((rd_T36 l0 x8_1).f3) == 25) = false := beq_eq_false_iff_ne.mpr c16
                        have c16b1 : (((rd_T36 l0 x8_1).f3) != 25) = true := bne_iff_ne.mpr c16
                        have H' := Aside0.mk H
                        clear H
                        have p336 : 0 ≤ (x8_1 : Int) := of_decide_eq_true (by first | (with_reducible assumption) | assumption)
                        have q336 : x8_1 < (l0.length : Int) := of_decide_eq_true (by first | (with_reducible assumption) | assumption)
                        obtain ⟨ad336, e336, hx336_0, hx336_1, hx336_2, hx336_3, hx336_4, hx336_5, hx336_6, hx336_7⟩ := at_T36 HR0.out x8_1 p336 q336
                        obtain rfl : ad334 = ad336 := (by injection e336)
                        replace p336 := eq_true p336
                        replace q336 := eq_true q336
                        have p343 : 0 ≤ (x8_1 : Int) := of_decide_eq_true (by first | (with_reducible assumption) | assumption)
                        have q343 : x8_1 < (l0.length : Int) := of_decide_eq_true (by first | (with_reducible assumption) | assumption)
                        obtain ⟨ad343, e343, hx343_0, hx343_1, hx343_2, hx343_3, hx343_4, hx343_5, hx343_6, hx343_7⟩ := at_T36 HR0.out x8_1 p343 q343
                        obtain rfl : ad334 = ad343 := (by injection e343)
                        replace p343 := eq_true p343
                        replace q343 := eq_true q343
                        go_wp2
                        repeat (go_quiet (fail); try go_wp2)
                        go_meet
                        case rel => exact ⟨_, (false), (by first | rfl | (simp; done) | (simp [*]; done)), H', ⟨by have := HK1.out; first | omega | exact Nat.le_refl _⟩, by repeat (first | exact Drawn0.refl _ | apply Drawn0.step)⟩
                  case rest =>
                    clear HC10
                    try clear c1
                    try clear c2
                    try clear p2
                    try clear p3
                    try clear q3
                    try clear hx3
                    try clear c4
                    try clear c4b0
                    try clear c5
                    try clear c5b0
                    try clear c6
                    try clear c6b0
                    try clear p6
                    try clear c7
                    try clear c7b0
                    try clear c8
                    try clear c8b0
                    try clear c9
                    try clear c9b0
                    try clear c11
                    try clear c11b0
                    try clear c11b1
                    try clear c12
                    try clear c12b0
                    try clear c12b1
                    try clear c13
                    try clear c13b0
                    try clear c13b1
                    try clear c14
                    try clear c14b0
                    try clear c14b1
                    try clear c15
                    try clear c15b0
                    try clear c15b1
                    try clear c16
                    try clear c16b0
                    try clear c16b1
                    try clear hx334_0
                    try clear hx334_1
                    try clear hx334_2
                    try clear hx334_3
                    try clear hx334_4
                    try clear hx334_5
                    try clear hx334_6
                    try clear hx334_7
                    try clear hx335_0
                    try clear hx335_1
                    try clear hx335_2
                    try clear hx335_3
                    try clear hx335_4
                    try clear hx335_5
                    try clear hx335_6
                    try clear hx335_7
                    try clear hx336_0
                    try clear hx336_1
                    try clear hx336_2
                    try clear hx336_3
                    try clear hx336_4
                    try clear hx336_5
                    try clear hx336_6
                    try clear hx336_7
                    try clear hx337_0
                    try clear hx337_1
                    try clear hx337_2
                    try clear hx337_3
                    try clear hx337_4
                    try clear hx337_5
                    try clear hx337_6
                    try clear hx337_7
                    try clear hx338_0
                    try clear hx338_1
                    try clear hx338_2
                    try clear hx338_3
                    try clear hx338_4
                    try clear hx338_5
                    try clear hx338_6
                    try clear hx338_7
                    try clear hx339_0
                    try clear hx339_1
                    try clear hx339_2
                    try clear hx339_3
                    try clear hx339_4
                    try clear hx339_5
                    try clear hx339_6
                    try clear hx339_7
                    try clear hx340_0
                    try clear hx340_1
                    try clear hx340_2
                    try clear hx340_3
                    try clear hx340_4
                    try clear hx340_5
                    try clear hx340_6
                    try clear hx340_7
                    try clear hx341_0
                    try clear hx341_1
                    try clear hx341_2
                    try clear hx341_3
                    try clear hx341_4
                    try clear hx341_5
                    try clear hx341_6
                    try clear hx341_7
                    try clear hx342_0
                    try clear hx342_1
                    try clear hx342_2
                    try clear hx342_3
                    try clear hx342_4
                    try clear hx342_5
                    try clear hx342_6
                    try clear hx342_7
                    try clear hx343_0
                    try clear hx343_1
                    try clear hx343_2
                    try clear hx343_3
                    try clear hx343_4
                    try clear hx343_5
                    try clear hx343_6
                    try clear hx343_7
                    try clear hx344_0
                    try clear hx344_1
                    try clear hx344_2
                    try clear hx344_3
                    try clear hx344_4
                    try clear hx344_5
                    try clear hx344_6
                    try clear hx344_7
                    try clear p2
                    try clear p334
                    try clear p335
                    try clear p336
                    try clear p337
                    try clear p338
                    try clear p339
                    try clear p340
                    try clear p341
                    try clear p342
                    try clear p343
                    try clear p344
                    try clear q334
                    try clear q335
                    try clear q336
                    try clear q337
                    try clear q338
                    try clear q339
                    try clear q340
                    try clear q341
                    try clear q342
                    try clear q343
                    try clear q344
                    obtain ⟨kq, x64_9, rfl, HA, HJ9, ⟨mc9, rfl⟩⟩ := hcut
                    cases kq with
                    | zero => exact absurd HA.out (by simp [rotalaw26_within.j1])
                    | succ kj9 =>
                      have H := HA.out
                      clear HA
                      simp only [rotalaw26_within.j1] at H
                      by_cases c17 : x64_9 = true
                      · subst c17
                        have H1 : (if 0 ≤ x8_1 then (if x8_1 < (l0.length : Int) then (if ((rd_T36 l0 x8_1).f3) = 21 then (if ((rd_T36 l0 x8_1).f4) = a2 then (if ((rd_T36 l0 x8_1).f5) = 0 then (rotalaw26_within.l0 kj9 l0 a1 a2 false (wrap64 (x8_1 + 1))) else (rotalaw26_within.l0 kj9 l0 a1 a2 true (wrap64 (x8_1 + 1)))) else (rotalaw26_within.l0 kj9 l0 a1 a2 true (wrap64 (x8_1 + 1)))) else (rotalaw26_within.l0 kj9 l0 a1 a2 true (wrap64 (x8_1 + 1)))) else (none)) else (none)) = some r := by rw [if_pos rfl] at H; exact H
                        clear H
                        have H := H1
                        clear H1
                        by_cases c18 : 0 ≤ x8_1
                        · rw [if_pos c18] at H
                          have c18b0 : decide (0 ≤ x8_1) = true := decide_eq_true c18
                          clear c18
                          by_cases c19 : x8_1 < (l0.length : Int)
                          · rw [if_pos c19] at H
                            have c19b0 : decide (x8_1 < (l0.length : Int)) = true := decide_eq_true c19
                            clear c19
                            by_cases c20 : ((rd_T36 l0 x8_1).f3) = 21
                            · rw [if_pos c20] at H
                              have c20b0 : (((rd_T36 l0 x8_1).f3) == 21) = true := beq_iff_eq.mpr c20
                              have c20b1 : (((rd_T36 l0 x8_1).f3) != 21) = false := bne_eq_false_iff_eq.mpr c20
                              clear c20
                              by_cases c21 : ((rd_T36 l0 x8_1).f4) = a2
                              · rw [if_pos c21] at H
                                have c21b0 : (((rd_T36 l0 x8_1).f4) == a2) = true := beq_iff_eq.mpr c21
                                have c21b1 : (((rd_T36 l0 x8_1).f4) != a2) = false := bne_eq_false_iff_eq.mpr c21
                                clear c21
                                by_cases c22 : ((rd_T36 l0 x8_1).f5) = 0
                                · rw [if_pos c22] at H
                                  have c22b0 : (((rd_T36 l0 x8_1).f5) == 0) = true := beq_iff_eq.mpr c22
                                  have c22b1 : (((rd_T36 l0 x8_1).f5) != 0) = false := bne_eq_false_iff_eq.mpr c22
                                  clear c22
                                  have H' := Aside0.mk H
                                  clear H
                                  have p345 : 0 ≤ (x8_1 : Int) := of_decide_eq_true (by first | (with_reducible assumption) | assumption)
                                  have q345 : x8_1 < (l0.length : Int) := of_decide_eq_true (by first | (with_reducible assumption) | assumption)
                                  obtain ⟨ad345, e345, hx345_0, hx345_1, hx345_2, hx345_3, hx345_4, hx345_5, hx345_6, hx345_7⟩ := at_T36 HR0.out x8_1 p345 q345
                                  obtain rfl : ad334 = ad345 := (by injection e345)
                                  replace p345 := eq_true p345
                                  replace q345 := eq_true q345
                                  have p346 : 0 ≤ (x8_1 : Int) := of_decide_eq_true (by first | (with_reducible assumption) | assumption)
                                  have q346 : x8_1 < (l0.length : Int) := of_decide_eq_true (by first | (with_reducible assumption) | assumption)
                                  obtain ⟨ad346, e346, hx346_0, hx346_1, hx346_2, hx346_3, hx346_4, hx346_5, hx346_6, hx346_7⟩ := at_T36 HR0.out x8_1 p346 q346
                                  obtain rfl : ad334 = ad346 := (by injection e346)
                                  replace p346 := eq_true p346
                                  replace q346 := eq_true q346
                                  have p347 : 0 ≤ (x8_1 : Int) := of_decide_eq_true (by first | (with_reducible assumption) | assumption)
                                  have q347 : x8_1 < (l0.length : Int) := of_decide_eq_true (by first | (with_reducible assumption) | assumption)
                                  obtain ⟨ad347, e347, hx347_0, hx347_1, hx347_2, hx347_3, hx347_4, hx347_5, hx347_6, hx347_7⟩ := at_T36 HR0.out x8_1 p347 q347
                                  obtain rfl : ad334 = ad347 := (by injection e347)
                                  replace p347 := eq_true p347
                                  replace q347 := eq_true q347
                                  go_wp2
                                  repeat (go_quiet (fail); try go_wp2)
                                  go_roundg kj9
                                  case measure => have := HK1.out; have := HJ9.out; omega
                                  case rel => exact ⟨(false), (wrap64 (x8_1 + 1)), (by first | rfl | (simp; done) | (simp [*]; done)), (by first | rfl | (simp; done) | (simp [*]; done)), H', ⟨by have := HK1.out; have := HJ9.out; omega⟩, by repeat (first | exact Drawn0.refl _ | apply Drawn0.step)⟩
                                · rw [if_neg c22] at H
                                  have c22b0 : (((rd_T36 l0 x8_1).f5) == 0) = false := beq_eq_false_iff_ne.mpr c22
                                  have c22b1 : (((rd_T36 l0 x8_1).f5) != 0) = true := bne_iff_ne.mpr c22
                                  have H' := Aside0.mk H
                                  clear H
                                  have p345 : 0 ≤ (x8_1 : Int) := of_decide_eq_true (by first | (with_reducible assumption) | assumption)
                                  have q345 : x8_1 < (l0.length : Int) := of_decide_eq_true (by first | (with_reducible assumption) | assumption)
                                  obtain ⟨ad345, e345, hx345_0, hx345_1, hx345_2, hx345_3, hx345_4, hx345_5, hx345_6, hx345_7⟩ := at_T36 HR0.out x8_1 p345 q345
                                  obtain rfl : ad334 = ad345 := (by injection e345)
                                  replace p345 := eq_true p345
                                  replace q345 := eq_true q345
                                  have p346 : 0 ≤ (x8_1 : Int) := of_decide_eq_true (by first | (with_reducible assumption) | assumption)
                                  have q346 : x8_1 < (l0.length : Int) := of_decide_eq_true (by first | (with_reducible assumption) | assumption)
                                  obtain ⟨ad346, e346, hx346_0, hx346_1, hx346_2, hx346_3, hx346_4, hx346_5, hx346_6, hx346_7⟩ := at_T36 HR0.out x8_1 p346 q346
                                  obtain rfl : ad334 = ad346 := (by injection e346)
                                  replace p346 := eq_true p346
                                  replace q346 := eq_true q346
                                  have p347 : 0 ≤ (x8_1 : Int) := of_decide_eq_true (by first | (with_reducible assumption) | assumption)
                                  have q347 : x8_1 < (l0.length : Int) := of_decide_eq_true (by first | (with_reducible assumption) | assumption)
                                  obtain ⟨ad347, e347, hx347_0, hx347_1, hx347_2, hx347_3, hx347_4, hx347_5, hx347_6, hx347_7⟩ := at_T36 HR0.out x8_1 p347 q347
                                  obtain rfl : ad334 = ad347 := (by injection e347)
                                  replace p347 := eq_true p347
                                  replace q347 := eq_true q347
                                  go_wp2
                                  repeat (go_quiet (fail); try go_wp2)
                                  go_roundg kj9
                                  case measure => have := HK1.out; have := HJ9.out; omega
                                  case rel => exact ⟨(true), (wrap64 (x8_1 + 1)), (by first | rfl | (simp; done) | (simp [*]; done)), (by first | rfl | (simp; done) | (simp [*]; done)), H', ⟨by have := HK1.out; have := HJ9.out; omega⟩, by repeat (first | exact Drawn0.refl _ | apply Drawn0.step)⟩
                              · rw [if_neg c21] at H
                                have c21b0 : (((rd_T36 l0 x8_1).f4) == a2) = false := beq_eq_false_iff_ne.mpr c21
                                have c21b1 : (((rd_T36 l0 x8_1).f4) != a2) = true := bne_iff_ne.mpr c21
                                have H' := Aside0.mk H
                                clear H
                                have p345 : 0 ≤ (x8_1 : Int) := of_decide_eq_true (by first | (with_reducible assumption) | assumption)
                                have q345 : x8_1 < (l0.length : Int) := of_decide_eq_true (by first | (with_reducible assumption) | assumption)
                                obtain ⟨ad345, e345, hx345_0, hx345_1, hx345_2, hx345_3, hx345_4, hx345_5, hx345_6, hx345_7⟩ := at_T36 HR0.out x8_1 p345 q345
                                obtain rfl : ad334 = ad345 := (by injection e345)
                                replace p345 := eq_true p345
                                replace q345 := eq_true q345
                                have p346 : 0 ≤ (x8_1 : Int) := of_decide_eq_true (by first | (with_reducible assumption) | assumption)
                                have q346 : x8_1 < (l0.length : Int) := of_decide_eq_true (by first | (with_reducible assumption) | assumption)
                                obtain ⟨ad346, e346, hx346_0, hx346_1, hx346_2, hx346_3, hx346_4, hx346_5, hx346_6, hx346_7⟩ := at_T36 HR0.out x8_1 p346 q346
                                obtain rfl : ad334 = ad346 := (by injection e346)
                                replace p346 := eq_true p346
                                replace q346 := eq_true q346
                                go_wp2
                                repeat (go_quiet (fail); try go_wp2)
                                go_roundg kj9
                                case measure => have := HK1.out; have := HJ9.out; omega
                                case rel => exact ⟨(true), (wrap64 (x8_1 + 1)), (by first | rfl | (simp; done) | (simp [*]; done)), (by first | rfl | (simp; done) | (simp [*]; done)), H', ⟨by have := HK1.out; have := HJ9.out; omega⟩, by repeat (first | exact Drawn0.refl _ | apply Drawn0.step)⟩
                            · rw [if_neg c20] at H
                              have c20b0 : (((rd_T36 l0 x8_1).f3) == 21) = false := beq_eq_false_iff_ne.mpr c20
                              have c20b1 : (((rd_T36 l0 x8_1).f3) != 21) = true := bne_iff_ne.mpr c20
                              have H' := Aside0.mk H
                              clear H
                              have p345 : 0 ≤ (x8_1 : Int) := of_decide_eq_true (by first | (with_reducible assumption) | assumption)
                              have q345 : x8_1 < (l0.length : Int) := of_decide_eq_true (by first | (with_reducible assumption) | assumption)
                              obtain ⟨ad345, e345, hx345_0, hx345_1, hx345_2, hx345_3, hx345_4, hx345_5, hx345_6, hx345_7⟩ := at_T36 HR0.out x8_1 p345 q345
                              obtain rfl : ad334 = ad345 := (by injection e345)
                              replace p345 := eq_true p345
                              replace q345 := eq_true q345
                              go_wp2
                              repeat (go_quiet (fail); try go_wp2)
                              go_roundg kj9
                              case measure => have := HK1.out; have := HJ9.out; omega
                              case rel => exact ⟨(true), (wrap64 (x8_1 + 1)), (by first | rfl | (simp; done) | (simp [*]; done)), (by first | rfl | (simp; done) | (simp [*]; done)), H', ⟨by have := HK1.out; have := HJ9.out; omega⟩, by repeat (first | exact Drawn0.refl _ | apply Drawn0.step)⟩
                          · rw [if_neg c19] at H
                            exact absurd H (by simp)
                        · rw [if_neg c18] at H
                          exact absurd H (by simp)
                      · replace c17 := Bool.eq_false_iff.mpr c17
                        subst c17
                        have H1 : (if 0 ≤ x8_1 then (if x8_1 < (l0.length : Int) then (if ((rd_T36 l0 x8_1).f3) = 21 then (if ((rd_T36 l0 x8_1).f4) = a2 then (if ((rd_T36 l0 x8_1).f5) = 0 then (rotalaw26_within.l0 kj9 l0 a1 a2 false (wrap64 (x8_1 + 1))) else (rotalaw26_within.l0 kj9 l0 a1 a2 x7_1 (wrap64 (x8_1 + 1)))) else (rotalaw26_within.l0 kj9 l0 a1 a2 x7_1 (wrap64 (x8_1 + 1)))) else (rotalaw26_within.l0 kj9 l0 a1 a2 x7_1 (wrap64 (x8_1 + 1)))) else (none)) else (none)) = some r := by rw [if_neg (show ¬ (false = true) by decide)] at H; exact H
                        clear H
                        have H := H1
                        clear H1
                        by_cases c23 : 0 ≤ x8_1
                        · rw [if_pos c23] at H
                          have c23b0 : decide (0 ≤ x8_1) = true := decide_eq_true c23
                          clear c23
                          by_cases c24 : x8_1 < (l0.length : Int)
                          · rw [if_pos c24] at H
                            have c24b0 : decide (x8_1 < (l0.length : Int)) = true := decide_eq_true c24
                            clear c24
                            by_cases c25 : ((rd_T36 l0 x8_1).f3) = 21
                            · rw [if_pos c25] at H
                              have c25b0 : (((rd_T36 l0 x8_1).f3) == 21) = true := beq_iff_eq.mpr c25
                              have c25b1 : (((rd_T36 l0 x8_1).f3) != 21) = false := bne_eq_false_iff_eq.mpr c25
                              clear c25
                              by_cases c26 : ((rd_T36 l0 x8_1).f4) = a2
                              · rw [if_pos c26] at H
                                have c26b0 : (((rd_T36 l0 x8_1).f4) == a2) = true := beq_iff_eq.mpr c26
                                have c26b1 : (((rd_T36 l0 x8_1).f4) != a2) = false := bne_eq_false_iff_eq.mpr c26
                                clear c26
                                by_cases c27 : ((rd_T36 l0 x8_1).f5) = 0
                                · rw [if_pos c27] at H
                                  have c27b0 : (((rd_T36 l0 x8_1).f5) == 0) = true := beq_iff_eq.mpr c27
                                  have c27b1 : (((rd_T36 l0 x8_1).f5) != 0) = false := bne_eq_false_iff_eq.mpr c27
                                  clear c27
                                  have H' := Aside0.mk H
                                  clear H
                                  have p348 : 0 ≤ (x8_1 : Int) := of_decide_eq_true (by first | (with_reducible assumption) | assumption)
                                  have q348 : x8_1 < (l0.length : Int) := of_decide_eq_true (by first | (with_reducible assumption) | assumption)
                                  obtain ⟨ad348, e348, hx348_0, hx348_1, hx348_2, hx348_3, hx348_4, hx348_5, hx348_6, hx348_7⟩ := at_T36 HR0.out x8_1 p348 q348
                                  obtain rfl : ad334 = ad348 := (by injection e348)
                                  replace p348 := eq_true p348
                                  replace q348 := eq_true q348
                                  have p349 : 0 ≤ (x8_1 : Int) := of_decide_eq_true (by first | (with_reducible assumption) | assumption)
                                  have q349 : x8_1 < (l0.length : Int) := of_decide_eq_true (by first | (with_reducible assumption) | assumption)
                                  obtain ⟨ad349, e349, hx349_0, hx349_1, hx349_2, hx349_3, hx349_4, hx349_5, hx349_6, hx349_7⟩ := at_T36 HR0.out x8_1 p349 q349
                                  obtain rfl : ad334 = ad349 := (by injection e349)
                                  replace p349 := eq_true p349
                                  replace q349 := eq_true q349
                                  have p350 : 0 ≤ (x8_1 : Int) := of_decide_eq_true (by first | (with_reducible assumption) | assumption)
                                  have q350 : x8_1 < (l0.length : Int) := of_decide_eq_true (by first | (with_reducible assumption) | assumption)
                                  obtain ⟨ad350, e350, hx350_0, hx350_1, hx350_2, hx350_3, hx350_4, hx350_5, hx350_6, hx350_7⟩ := at_T36 HR0.out x8_1 p350 q350
                                  obtain rfl : ad334 = ad350 := (by injection e350)
                                  replace p350 := eq_true p350
                                  replace q350 := eq_true q350
                                  go_wp2
                                  repeat (go_quiet (fail); try go_wp2)
                                  go_roundg kj9
                                  case measure => have := HK1.out; have := HJ9.out; omega
                                  case rel => exact ⟨(false), (wrap64 (x8_1 + 1)), (by first | rfl | (simp; done) | (simp [*]; done)), (by first | rfl | (simp; done) | (simp [*]; done)), H', ⟨by have := HK1.out; have := HJ9.out; omega⟩, by repeat (first | exact Drawn0.refl _ | apply Drawn0.step)⟩
                                · rw [if_neg c27] at H
                                  have c27b0 : (((rd_T36 l0 x8_1).f5) == 0) = false := beq_eq_false_iff_ne.mpr c27
                                  have c27b1 : (((rd_T36 l0 x8_1).f5) != 0) = true := bne_iff_ne.mpr c27
                                  have H' := Aside0.mk H
                                  clear H
                                  have p348 : 0 ≤ (x8_1 : Int) := of_decide_eq_true (by first | (with_reducible assumption) | assumption)
                                  have q348 : x8_1 < (l0.length : Int) := of_decide_eq_true (by first | (with_reducible assumption) | assumption)
                                  obtain ⟨ad348, e348, hx348_0, hx348_1, hx348_2, hx348_3, hx348_4, hx348_5, hx348_6, hx348_7⟩ := at_T36 HR0.out x8_1 p348 q348
                                  obtain rfl : ad334 = ad348 := (by injection e348)
                                  replace p348 := eq_true p348
                                  replace q348 := eq_true q348
                                  have p349 : 0 ≤ (x8_1 : Int) := of_decide_eq_true (by first | (with_reducible assumption) | assumption)
                                  have q349 : x8_1 < (l0.length : Int) := of_decide_eq_true (by first | (with_reducible assumption) | assumption)
                                  obtain ⟨ad349, e349, hx349_0, hx349_1, hx349_2, hx349_3, hx349_4, hx349_5, hx349_6, hx349_7⟩ := at_T36 HR0.out x8_1 p349 q349
                                  obtain rfl : ad334 = ad349 := (by injection e349)
                                  replace p349 := eq_true p349
                                  replace q349 := eq_true q349
                                  have p350 : 0 ≤ (x8_1 : Int) := of_decide_eq_true (by first | (with_reducible assumption) | assumption)
                                  have q350 : x8_1 < (l0.length : Int) := of_decide_eq_true (by first | (with_reducible assumption) | assumption)
                                  obtain ⟨ad350, e350, hx350_0, hx350_1, hx350_2, hx350_3, hx350_4, hx350_5, hx350_6, hx350_7⟩ := at_T36 HR0.out x8_1 p350 q350
                                  obtain rfl : ad334 = ad350 := (by injection e350)
                                  replace p350 := eq_true p350
                                  replace q350 := eq_true q350
                                  go_wp2
                                  repeat (go_quiet (fail); try go_wp2)
                                  go_roundg kj9
                                  case measure => have := HK1.out; have := HJ9.out; omega
                                  case rel => exact ⟨(x7_1), (wrap64 (x8_1 + 1)), (by first | rfl | (simp; done) | (simp [*]; done)), (by first | rfl | (simp; done) | (simp [*]; done)), H', ⟨by have := HK1.out; have := HJ9.out; omega⟩, by repeat (first | exact Drawn0.refl _ | apply Drawn0.step)⟩
                              · rw [if_neg c26] at H
                                have c26b0 : (((rd_T36 l0 x8_1).f4) == a2) = false := beq_eq_false_iff_ne.mpr c26
                                have c26b1 : (((rd_T36 l0 x8_1).f4) != a2) = true := bne_iff_ne.mpr c26
                                have H' := Aside0.mk H
                                clear H
                                have p348 : 0 ≤ (x8_1 : Int) := of_decide_eq_true (by first | (with_reducible assumption) | assumption)
                                have q348 : x8_1 < (l0.length : Int) := of_decide_eq_true (by first | (with_reducible assumption) | assumption)
                                obtain ⟨ad348, e348, hx348_0, hx348_1, hx348_2, hx348_3, hx348_4, hx348_5, hx348_6, hx348_7⟩ := at_T36 HR0.out x8_1 p348 q348
                                obtain rfl : ad334 = ad348 := (by injection e348)
                                replace p348 := eq_true p348
                                replace q348 := eq_true q348
                                have p349 : 0 ≤ (x8_1 : Int) := of_decide_eq_true (by first | (with_reducible assumption) | assumption)
                                have q349 : x8_1 < (l0.length : Int) := of_decide_eq_true (by first | (with_reducible assumption) | assumption)
                                obtain ⟨ad349, e349, hx349_0, hx349_1, hx349_2, hx349_3, hx349_4, hx349_5, hx349_6, hx349_7⟩ := at_T36 HR0.out x8_1 p349 q349
                                obtain rfl : ad334 = ad349 := (by injection e349)
                                replace p349 := eq_true p349
                                replace q349 := eq_true q349
                                go_wp2
                                repeat (go_quiet (fail); try go_wp2)
                                go_roundg kj9
                                case measure => have := HK1.out; have := HJ9.out; omega
                                case rel => exact ⟨(x7_1), (wrap64 (x8_1 + 1)), (by first | rfl | (simp; done) | (simp [*]; done)), (by first | rfl | (simp; done) | (simp [*]; done)), H', ⟨by have := HK1.out; have := HJ9.out; omega⟩, by repeat (first | exact Drawn0.refl _ | apply Drawn0.step)⟩
                            · rw [if_neg c25] at H
                              have c25b0 : (((rd_T36 l0 x8_1).f3) == 21) = false := beq_eq_false_iff_ne.mpr c25
                              have c25b1 : (((rd_T36 l0 x8_1).f3) != 21) = true := bne_iff_ne.mpr c25
                              have H' := Aside0.mk H
                              clear H
                              have p348 : 0 ≤ (x8_1 : Int) := of_decide_eq_true (by first | (with_reducible assumption) | assumption)
                              have q348 : x8_1 < (l0.length : Int) := of_decide_eq_true (by first | (with_reducible assumption) | assumption)
                              obtain ⟨ad348, e348, hx348_0, hx348_1, hx348_2, hx348_3, hx348_4, hx348_5, hx348_6, hx348_7⟩ := at_T36 HR0.out x8_1 p348 q348
                              obtain rfl : ad334 = ad348 := (by injection e348)
                              replace p348 := eq_true p348
                              replace q348 := eq_true q348
                              go_wp2
                              repeat (go_quiet (fail); try go_wp2)
                              go_roundg kj9
                              case measure => have := HK1.out; have := HJ9.out; omega
                              case rel => exact ⟨(x7_1), (wrap64 (x8_1 + 1)), (by first | rfl | (simp; done) | (simp [*]; done)), (by first | rfl | (simp; done) | (simp [*]; done)), H', ⟨by have := HK1.out; have := HJ9.out; omega⟩, by repeat (first | exact Drawn0.refl _ | apply Drawn0.step)⟩
                          · rw [if_neg c24] at H
                            exact absurd H (by simp)
                        · rw [if_neg c23] at H
                          exact absurd H (by simp)
              · rw [if_neg c8] at H
                exact absurd H (by simp)
            · rw [if_neg c7] at H
              exact absurd H (by simp)
          · rw [if_neg c6] at H
            exact absurd H (by simp)
        · rw [if_neg c5] at H
          exact absurd H (by simp)
      · rw [if_neg c4] at H
        have c4b0 : decide (x8_1 < a1) = false := decide_eq_false c4
        clear c4
        obtain rfl := Option.some.inj H
        go_wp2
        repeat (go_quiet (fail); try go_wp2)
        go_ret
        exact ⟨by first | rfl | (simp; done) | (simp [*]; done), by repeat (first | exact Drawn0.refl _ | apply Drawn0.step)⟩

end Go.Proofs.Ytkbfijkohngjjaa.QOrder

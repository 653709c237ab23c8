/- Printed: a function's machine side. Conditions: none. -/
import Derived.Test.YtdlikjfffdpmiaaQProperx0
namespace Go.Proofs.Ytdlikjfffdpmiaa.QProper
open Go.RowKit Go.Proofs.YtdlikjfffdpmiaaW.PrintWords Go.Proofs.YtdlikjfffdpmiaaW.PrintLast Go.Proofs.YtdlikjfffdpmiaaW.PrintMore
set_option linter.unusedVariables false
set_option linter.unusedSimpArgs false

/-! ### rotaref08_in: function 38 -/
def rotaref08_in.l0 : Nat → Int → Int → List Int → List (S34) → List (S58) → Option (Int)
 | 0, _, _, _, _, _ => none
 | k + 1, x1, x5, x170000, x170001, x170002 => if x5 < (x170001.length : Int) then (if 0 ≤ x5 then (if x1 ≥ ((rd_T34 x170001 x5).f0) then (if x1 < ((rd_T34 x170001 x5).f1) then (some x5) else (rotaref08_in.l0 k x1 (wrap64 (x5 + 1)) x170000 x170001 x170002)) else (rotaref08_in.l0 k x1 (wrap64 (x5 + 1)) x170000 x170001 x170002)) else (none)) else (some (-1))
def rotaref08_in.f (k : Nat) (l0_0 : List Int) (l0_1 : List (S34)) (l0_2 : List (S58)) (a1 : Int) : Option (Int) := rotaref08_in.l0 k a1 0 l0_0 l0_1 l0_2
theorem rotaref08_in.mono_l : ∀ k, (∀ y0 y1 y2 y3 y4, LeO (rotaref08_in.l0 k y0 y1 y2 y3 y4) (rotaref08_in.l0 (k + 1) y0 y1 y2 y3 y4))
 | 0 => fun _ _ _ _ _ r h => by simp [rotaref08_in.l0] at h
 | k + 1 => by
  have ih0 := rotaref08_in.mono_l k
  ·intro y0 y1 y2 y3 y4
   unfold rotaref08_in.l0
   repeat' first
   | (with_reducible exact ih0 _ _ _ _ _)
   | (with_reducible exact LeO.refl _)
   | (with_reducible exact LeO.none _)
   | (with_reducible refine LeO.ite ?_ ?_)
   | (with_reducible refine LeO.bind ?_ (fun _ => ?_))
   | exact ih0 _ _ _ _ _
   | exact LeO.none _
   | refine LeO.ite ?_ ?_
   | refine LeO.bind ?_ (fun _ => ?_)
theorem rotaref08_in.mono : ∀ a0 a1 a2 a3 k, LeO (rotaref08_in.f k a0 a1 a2 a3) (rotaref08_in.f (k + 1) a0 a1 a2 a3) := by
 intro a0 a1 a2 a3 k
 have ih0 := rotaref08_in.mono_l k
 unfold rotaref08_in.f
 repeat' first
   | (with_reducible exact ih0 _ _ _ _ _)
   | (with_reducible exact LeO.refl _)
   | (with_reducible exact LeO.none _)
   | (with_reducible refine LeO.ite ?_ ?_)
   | (with_reducible refine LeO.bind ?_ (fun _ => ?_))
   | exact ih0 _ _ _ _ _
   | exact LeO.none _
   | refine LeO.ite ?_ ?_
   | refine LeO.bind ?_ (fun _ => ?_)
set_option maxHeartbeats 8000000 in
set_option maxRecDepth 100000 in
theorem rotaref08_in.calls (k : Nat) (A0_0 : Option Addr) (c0_0 : Nat) (l0_0 : List Int) (A0_1 : Option Addr) (c0_1 : Nat) (l0_1 : List (S34)) (A0_2 : Option Addr) (c0_2 : Nat) (l0_2 : List (S58)) (a1 : Int) (r : Int) (w : World) (hr0_0 : Kd.C (Kd.int .u32) w A0_0 l0_0.length l0_0) (hc0_0 : l0_0.length ≤ c0_0) (hr0_1 : Kd.C k34 w A0_1 l0_1.length l0_1) (hc0_1 : l0_1.length ≤ c0_1) (hr0_2 : Kd.C k58 w A0_2 l0_2.length l0_2) (hc0_2 : l0_2.length ≤ c0_2) (h : rotaref08_in.f k l0_0 l0_1 l0_2 a1 = some r) :
  Calls Try.prog 38 #[.agg #[.slice A0_0 l0_0.length c0_0, .slice A0_1 l0_1.length c0_1, .slice A0_2 l0_2.length c0_2], .int .i64 a1] w fun e w' => e = .returned (.int .i64 r) ∧ Below w.heap.size w w' := by
 have hu26 := Try.underlying26
 have HR0_0 := K1 hr0_0
 have HC0_0 := K1 hc0_0
 clear hr0_0 hc0_0
 have HR0_1 := K1 hr0_1
 have HC0_1 := K1 hc0_1
 clear hr0_1 hc0_1
 have HR0_2 := K1 hr0_2
 have HC0_2 := K1 hc0_2
 clear hr0_2 hc0_2
 have HB := K1 (Below.refl w.heap.size w)
 have H : (rotaref08_in.l0 k a1 0 l0_0 l0_1 l0_2) = some r := h
 clear h
 have H' := K1 H
 clear H
 go_enter Try.func38, Try.ntmps38
 go_wp2_with (first | ((with_reducible refine gate_dst (N := 2) rfl ?_); refine bev (N := 2) (cs := #[.slice A0_0 l0_0.length c0_0, .slice A0_1 l0_1.length c0_1, .slice A0_2 l0_2.length c0_2]) (t := 26) (h := ?_); intro gb169 hg w3 hbox hb; have BK169 := K1 (hbox); have GW169 := K1 (mG : w.heap.size ≤ gb169); have GE169 := K1 (mG : w.heap.size ≤ gb169); replace HB := K1 (below_step mB hb); clear hb hbox hg))
 go_loopg [5] k (fun kq v5 w' => ∃ (x5_1 : Int), v5 = .int .i64 x5_1 ∧ Aside0 (rotaref08_in.l0 kq a1 x5_1 l0_0 l0_1 l0_2 = some r) ∧ Aside0 (kq ≤ k) ∧ Aside0 (w'.heap[gb169]? = some (.cells #[(.slice A0_0 l0_0.length c0_0), (.slice A0_1 l0_1.length c0_1), (.slice A0_2 l0_2.length c0_2)] 26 (0, 0))) ∧ Aside0 (Below w.heap.size w w'))
 case atStart => exact ⟨(0), (mF), H', ⟨Nat.le_refl _⟩, ⟨mU BK169.out⟩, ⟨mB⟩⟩
 case round =>
  clear H'
  obtain ⟨x5_1, rfl, HA, HK1, BK169, HB⟩ := hrel
  cases gk with
  | zero => exact absurd HA.out (by simp [rotaref08_in.l0])
  | succ k1 =>
   have H := HA.out
   clear HA
   simp only [rotaref08_in.l0] at H
   by_cases c4 : x5_1 < (l0_1.length : Int)
   ·rw [if_pos c4] at H
    have c4b0 : decide (x5_1 < (l0_1.length : Int)) = true := decide_eq_true c4
    clear c4
    by_cases c5 : 0 ≤ x5_1
    ·rw [if_pos c5] at H
     have c5b0 : decide (0 ≤ x5_1) = true := decide_eq_true c5
     clear c5
     by_cases c6 : a1 ≥ ((rd_T34 l0_1 x5_1).f0)
     ·rw [if_pos c6] at H
      have c6b0 : decide (((rd_T34 l0_1 x5_1).f0) ≤ a1) = true := decide_eq_true c6
      clear c6
      by_cases c7 : a1 < ((rd_T34 l0_1 x5_1).f1)
      ·rw [if_pos c7] at H
       have c7b0 : decide (a1 < ((rd_T34 l0_1 x5_1).f1)) = true := decide_eq_true c7
       clear c7
       obtain rfl := Option.some.inj H
       obtain ⟨hcz8_0, hcz8_1, hcz8_2, hfz8_0, hfz8_1, hfz8_2⟩ := cf3 BK169
       have p170 : 0 ≤ (x5_1 : Int) := of_decide_eq_true (mA)
       have q170 : x5_1 < (l0_1.length : Int) := of_decide_eq_true (mA)
       obtain ⟨ad170, e170, hx170_0, hx170_1⟩ := at_T34 HR0_1.out x5_1 p170 q170
       cases e170
       replace hx170_0 := (HB.out.cell (World.block_lt_of_cell? w _ hx170_0)).trans hx170_0
       replace hx170_1 := (HB.out.cell (World.block_lt_of_cell? w _ hx170_1)).trans hx170_1
       replace p170 := eq_true p170
       replace q170 := eq_true q170
       have p171 : 0 ≤ (x5_1 : Int) := of_decide_eq_true (mA)
       have q171 : x5_1 < (l0_1.length : Int) := of_decide_eq_true (mA)
       obtain ⟨ad171, e171, hx171_0, hx171_1⟩ := at_T34 HR0_1.out x5_1 p171 q171
       obtain rfl : ad170 = ad171 := (by injection e171)
       replace hx171_0 := (HB.out.cell (World.block_lt_of_cell? w _ hx171_0)).trans hx171_0
       replace hx171_1 := (HB.out.cell (World.block_lt_of_cell? w _ hx171_1)).trans hx171_1
       replace p171 := eq_true p171
       replace q171 := eq_true q171
       go_wp2
       go_ret
       exact ⟨mE, mB⟩
      ·rw [if_neg c7] at H
       have c7b0 : decide (a1 < ((rd_T34 l0_1 x5_1).f1)) = false := decide_eq_false c7
       clear c7
       have H' := K1 H
       clear H
       obtain ⟨hcz9_0, hcz9_1, hcz9_2, hfz9_0, hfz9_1, hfz9_2⟩ := cf3 BK169
       have p170 : 0 ≤ (x5_1 : Int) := of_decide_eq_true (mA)
       have q170 : x5_1 < (l0_1.length : Int) := of_decide_eq_true (mA)
       obtain ⟨ad170, e170, hx170_0, hx170_1⟩ := at_T34 HR0_1.out x5_1 p170 q170
       cases e170
       replace hx170_0 := (HB.out.cell (World.block_lt_of_cell? w _ hx170_0)).trans hx170_0
       replace hx170_1 := (HB.out.cell (World.block_lt_of_cell? w _ hx170_1)).trans hx170_1
       replace p170 := eq_true p170
       replace q170 := eq_true q170
       have p171 : 0 ≤ (x5_1 : Int) := of_decide_eq_true (mA)
       have q171 : x5_1 < (l0_1.length : Int) := of_decide_eq_true (mA)
       obtain ⟨ad171, e171, hx171_0, hx171_1⟩ := at_T34 HR0_1.out x5_1 p171 q171
       obtain rfl : ad170 = ad171 := (by injection e171)
       replace hx171_0 := (HB.out.cell (World.block_lt_of_cell? w _ hx171_0)).trans hx171_0
       replace hx171_1 := (HB.out.cell (World.block_lt_of_cell? w _ hx171_1)).trans hx171_1
       replace p171 := eq_true p171
       replace q171 := eq_true q171
       go_wp2
       go_roundg k1
       case measure => have := HK1.out; omega
       case rel => exact ⟨(wrap64 (x5_1 + 1)), (mF), H', ⟨by have := HK1.out; omega⟩, ⟨mU BK169.out⟩, ⟨mB⟩⟩
     ·rw [if_neg c6] at H
      have c6b0 : decide (((rd_T34 l0_1 x5_1).f0) ≤ a1) = false := decide_eq_false c6
      clear c6
      have H' := K1 H
      clear H
      obtain ⟨hcz10_0, hcz10_1, hcz10_2, hfz10_0, hfz10_1, hfz10_2⟩ := cf3 BK169
      have p170 : 0 ≤ (x5_1 : Int) := of_decide_eq_true (mA)
      have q170 : x5_1 < (l0_1.length : Int) := of_decide_eq_true (mA)
      obtain ⟨ad170, e170, hx170_0, hx170_1⟩ := at_T34 HR0_1.out x5_1 p170 q170
      cases e170
      replace hx170_0 := (HB.out.cell (World.block_lt_of_cell? w _ hx170_0)).trans hx170_0
      replace hx170_1 := (HB.out.cell (World.block_lt_of_cell? w _ hx170_1)).trans hx170_1
      replace p170 := eq_true p170
      replace q170 := eq_true q170
      go_wp2
      go_roundg k1
      case measure => have := HK1.out; omega
      case rel => exact ⟨(wrap64 (x5_1 + 1)), (mF), H', ⟨by have := HK1.out; omega⟩, ⟨mU BK169.out⟩, ⟨mB⟩⟩
    ·rw [if_neg c5] at H
     exact absurd H (by simp)
   ·rw [if_neg c4] at H
    have c4b0 : decide (x5_1 < (l0_1.length : Int)) = false := decide_eq_false c4
    clear c4
    obtain rfl := Option.some.inj H
    obtain ⟨hcz11_0, hcz11_1, hcz11_2, hfz11_0, hfz11_1, hfz11_2⟩ := cf3 BK169
    go_wp2
    go_ret
    exact ⟨mE, mB⟩

end Go.Proofs.Ytdlikjfffdpmiaa.QProper

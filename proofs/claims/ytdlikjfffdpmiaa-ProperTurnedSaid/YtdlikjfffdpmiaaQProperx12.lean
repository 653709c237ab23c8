/- Printed: a function's machine side. Conditions: none. -/
import Derived.Test.YtdlikjfffdpmiaaQProperx0
namespace Go.Proofs.Ytdlikjfffdpmiaa.QProper
open Go.RowKit Go.Proofs.YtdlikjfffdpmiaaW.PrintWords Go.Proofs.YtdlikjfffdpmiaaW.PrintLast Go.Proofs.YtdlikjfffdpmiaaW.PrintMore
set_option linter.unusedVariables false
set_option linter.unusedSimpArgs false

/-! ### rotaref08_parts: function 31 -/
def rotaref08_parts.l0 : Nat → Int → Int → List Int → List (S34) → List (S58) → Option (Int)
 | 0, _, _, _, _, _ => none
 | k + 1, x3, x4, x144000, x144001, x144002 => if x4 < (x144001.length : Int) then (if 0 ≤ x4 then (if ((rd_T34 x144001 x4).f0) = x3 then (if ((rd_T34 x144001 x4).f1) ≤ ((rd_T34 x144001 x4).f0) then (some x4) else (if ((rd_T34 x144001 x4).f1) > (x144000.length : Int) then (some x4) else (rotaref08_parts.l0 k ((rd_T34 x144001 x4).f1) (wrap64 (x4 + 1)) x144000 x144001 x144002))) else (some x4)) else (none)) else (if (x144001.length : Int) = 0 then (some (x144001.length : Int)) else (if x3 = (x144000.length : Int) then (some (-1)) else (some (x144001.length : Int))))
def rotaref08_parts.f (k : Nat) (l0_0 : List Int) (l0_1 : List (S34)) (l0_2 : List (S58)) : Option (Int) := rotaref08_parts.l0 k 0 0 l0_0 l0_1 l0_2
theorem rotaref08_parts.mono_l : ∀ k, (∀ y0 y1 y2 y3 y4, LeO (rotaref08_parts.l0 k y0 y1 y2 y3 y4) (rotaref08_parts.l0 (k + 1) y0 y1 y2 y3 y4))
 | 0 => fun _ _ _ _ _ r h => by simp [rotaref08_parts.l0] at h
 | k + 1 => by
  have ih0 := rotaref08_parts.mono_l k
  ·intro y0 y1 y2 y3 y4
   unfold rotaref08_parts.l0
   repeat' first
   | (with_reducible exact ih0 _ _ _ _ _)
   | (with_reducible exact LeO.refl _)
   | (with_reducible exact LeO.none _)
   | (with_reducible refine LeO.ite ?_ ?_)
   | (with_reducible refine LeO.bind ?_ (fun _ => ?_))
   | exact ih0 _ _ _ _ _
   | exact LeO.none _
   | refine LeO.ite ?_ ?_
   | refine LeO.bind ?_ (fun _ => ?_)
theorem rotaref08_parts.mono : ∀ a0 a1 a2 k, LeO (rotaref08_parts.f k a0 a1 a2) (rotaref08_parts.f (k + 1) a0 a1 a2) := by
 intro a0 a1 a2 k
 have ih0 := rotaref08_parts.mono_l k
 unfold rotaref08_parts.f
 repeat' first
   | (with_reducible exact ih0 _ _ _ _ _)
   | (with_reducible exact LeO.refl _)
   | (with_reducible exact LeO.none _)
   | (with_reducible refine LeO.ite ?_ ?_)
   | (with_reducible refine LeO.bind ?_ (fun _ => ?_))
   | exact ih0 _ _ _ _ _
   | exact LeO.none _
   | refine LeO.ite ?_ ?_
   | refine LeO.bind ?_ (fun _ => ?_)
set_option maxHeartbeats 8000000 in
set_option maxRecDepth 100000 in
theorem rotaref08_parts.calls (k : Nat) (A0_0 : Option Addr) (c0_0 : Nat) (l0_0 : List Int) (A0_1 : Option Addr) (c0_1 : Nat) (l0_1 : List (S34)) (A0_2 : Option Addr) (c0_2 : Nat) (l0_2 : List (S58)) (r : Int) (w : World) (hr0_0 : Kd.C (Kd.int .u32) w A0_0 l0_0.length l0_0) (hc0_0 : l0_0.length ≤ c0_0) (hr0_1 : Kd.C k34 w A0_1 l0_1.length l0_1) (hc0_1 : l0_1.length ≤ c0_1) (hr0_2 : Kd.C k58 w A0_2 l0_2.length l0_2) (hc0_2 : l0_2.length ≤ c0_2) (h : rotaref08_parts.f k l0_0 l0_1 l0_2 = some r) :
  Calls Try.prog 31 #[.agg #[.slice A0_0 l0_0.length c0_0, .slice A0_1 l0_1.length c0_1, .slice A0_2 l0_2.length c0_2]] w fun e w' => e = .returned (.int .i64 r) ∧ Below w.heap.size w w' := by
 have hu26 := Try.underlying26
 have hu34 := Try.underlying34
 have HR0_0 := K1 hr0_0
 have HC0_0 := K1 hc0_0
 clear hr0_0 hc0_0
 have HR0_1 := K1 hr0_1
 have HC0_1 := K1 hc0_1
 clear hr0_1 hc0_1
 have HR0_2 := K1 hr0_2
 have HC0_2 := K1 hc0_2
 clear hr0_2 hc0_2
 have HB := K1 (Below.refl w.heap.size w)
 have H : (rotaref08_parts.l0 k 0 0 l0_0 l0_1 l0_2) = some r := h
 clear h
 have H' := K1 H
 clear H
 go_enter Try.func31, Try.ntmps31
 go_wp2_with (first | ((with_reducible refine gate_dst (N := 1) rfl ?_); (try (refine gate_guard (by rfl) ?_; dsimp only)); refine bev (N := 1) (cs := #[.slice A0_0 l0_0.length c0_0, .slice A0_1 l0_1.length c0_1, .slice A0_2 l0_2.length c0_2]) (t := 26) (h := ?_); intro gb143 hg w2 hbox hb; have BK143 := K1 (hbox); have GW143 := K1 (mG : w.heap.size ≤ gb143); have GE143 := K1 (mG : w.heap.size ≤ gb143); replace HB := K1 (below_step mB hb); clear hb hbox hg))
 go_loopg [3, 4] k (fun kq v3 v4 w' => ∃ (x3_1 : Int) (x4_1 : Int), v3 = .int .i64 x3_1 ∧ v4 = .int .i64 x4_1 ∧ Aside0 (rotaref08_parts.l0 kq x3_1 x4_1 l0_0 l0_1 l0_2 = some r) ∧ Aside0 (kq ≤ k) ∧ Aside0 (w'.heap[gb143]? = some (.cells #[(.slice A0_0 l0_0.length c0_0), (.slice A0_1 l0_1.length c0_1), (.slice A0_2 l0_2.length c0_2)] 26 (0, 0))) ∧ Aside0 (Below w.heap.size w w'))
 case atStart => exact ⟨(0), (0), (mF), (mF), H', ⟨Nat.le_refl _⟩, ⟨mU BK143.out⟩, ⟨mB⟩⟩
 case round =>
  clear H'
  obtain ⟨x3_1, x4_1, rfl, rfl, HA, HK1, BK143, HB⟩ := hrel
  cases gk with
  | zero => exact absurd HA.out (by simp [rotaref08_parts.l0])
  | succ k1 =>
   have H := HA.out
   clear HA
   simp only [rotaref08_parts.l0] at H
   by_cases c3 : x4_1 < (l0_1.length : Int)
   ·rw [if_pos c3] at H
    have c3b0 : decide (x4_1 < (l0_1.length : Int)) = true := decide_eq_true c3
    clear c3
    by_cases c4 : 0 ≤ x4_1
    ·rw [if_pos c4] at H
     have c4b0 : decide (0 ≤ x4_1) = true := decide_eq_true c4
     clear c4
     by_cases c5 : ((rd_T34 l0_1 x4_1).f0) = x3_1
     ·rw [if_pos c5] at H
      have c5b0 : (((rd_T34 l0_1 x4_1).f0) == x3_1) = true := beq_iff_eq.mpr c5
      have c5b1 : (((rd_T34 l0_1 x4_1).f0) != x3_1) = false := bne_eq_false_iff_eq.mpr c5
      clear c5
      by_cases c6 : ((rd_T34 l0_1 x4_1).f1) ≤ ((rd_T34 l0_1 x4_1).f0)
      ·rw [if_pos c6] at H
       have c6b0 : decide (((rd_T34 l0_1 x4_1).f1) ≤ ((rd_T34 l0_1 x4_1).f0)) = true := decide_eq_true c6
       clear c6
       obtain rfl := Option.some.inj H
       obtain ⟨hcz7_0, hcz7_1, hcz7_2, hfz7_0, hfz7_1, hfz7_2⟩ := cf3 BK143
       have p144 : 0 ≤ (x4_1 : Int) := of_decide_eq_true (mA)
       have q144 : x4_1 < (l0_1.length : Int) := of_decide_eq_true (mA)
       obtain ⟨ad144, e144, hx144_0, hx144_1⟩ := at_T34 HR0_1.out x4_1 p144 q144
       cases e144
       replace hx144_0 := (HB.out.cell (World.block_lt_of_cell? w _ hx144_0)).trans hx144_0
       replace hx144_1 := (HB.out.cell (World.block_lt_of_cell? w _ hx144_1)).trans hx144_1
       replace p144 := eq_true p144
       replace q144 := eq_true q144
       go_wp2_with (first | ((with_reducible refine gate_dst (N := 5) rfl ?_); (try (refine gate_guard (by rfl) ?_; dsimp only)); refine bev (N := 5) (cs := #[.int .i64 0, .int .i64 0]) (t := 34) (h := ?_); intro gb145 hg w8 hbox hb; have BK145 := K1 (hbox); have GW145 := K1 (mG : w.heap.size ≤ gb145); have GE145 := K1 (mG : w.heap.size ≤ gb145); have NB143_145 := K1 (nlt hg (mU BK143.out)); have NB145_143 := K1 (ngt hg (mU BK143.out)); replace BK143 := K1 (blk_below (mU BK143.out) hb); replace HB := K1 (below_step mB hb); clear hb hbox hg; have hnb9 := NB145_143.out; have hnc9 := NB143_145.out; obtain ⟨hcz10_0, hcz10_1, hfz10_0, hfz10_1⟩ := cf2 BK145))
       go_ret
       exact ⟨mE, mB⟩
      ·rw [if_neg c6] at H
       have c6b0 : decide (((rd_T34 l0_1 x4_1).f1) ≤ ((rd_T34 l0_1 x4_1).f0)) = false := decide_eq_false c6
       clear c6
       by_cases c11 : ((rd_T34 l0_1 x4_1).f1) > (l0_0.length : Int)
       ·rw [if_pos c11] at H
        have c11b0 : decide ((l0_0.length : Int) < ((rd_T34 l0_1 x4_1).f1)) = true := decide_eq_true c11
        clear c11
        obtain rfl := Option.some.inj H
        obtain ⟨hcz12_0, hcz12_1, hcz12_2, hfz12_0, hfz12_1, hfz12_2⟩ := cf3 BK143
        have p144 : 0 ≤ (x4_1 : Int) := of_decide_eq_true (mA)
        have q144 : x4_1 < (l0_1.length : Int) := of_decide_eq_true (mA)
        obtain ⟨ad144, e144, hx144_0, hx144_1⟩ := at_T34 HR0_1.out x4_1 p144 q144
        cases e144
        replace hx144_0 := (HB.out.cell (World.block_lt_of_cell? w _ hx144_0)).trans hx144_0
        replace hx144_1 := (HB.out.cell (World.block_lt_of_cell? w _ hx144_1)).trans hx144_1
        replace p144 := eq_true p144
        replace q144 := eq_true q144
        go_wp2_with (first | ((with_reducible refine gate_dst (N := 5) rfl ?_); (try (refine gate_guard (by rfl) ?_; dsimp only)); refine bev (N := 5) (cs := #[.int .i64 0, .int .i64 0]) (t := 34) (h := ?_); intro gb145 hg w13 hbox hb; have BK145 := K1 (hbox); have GW145 := K1 (mG : w.heap.size ≤ gb145); have GE145 := K1 (mG : w.heap.size ≤ gb145); have NB143_145 := K1 (nlt hg (mU BK143.out)); have NB145_143 := K1 (ngt hg (mU BK143.out)); replace BK143 := K1 (blk_below (mU BK143.out) hb); replace HB := K1 (below_step mB hb); clear hb hbox hg; have hnb14 := NB145_143.out; have hnc14 := NB143_145.out; obtain ⟨hcz15_0, hcz15_1, hfz15_0, hfz15_1⟩ := cf2 BK145; obtain ⟨hcz16_0, hcz16_1, hcz16_2, hfz16_0, hfz16_1, hfz16_2⟩ := cf3 BK143))
        go_ret
        exact ⟨mE, mB⟩
       ·rw [if_neg c11] at H
        have c11b0 : decide ((l0_0.length : Int) < ((rd_T34 l0_1 x4_1).f1)) = false := decide_eq_false c11
        clear c11
        have H' := K1 H
        clear H
        obtain ⟨hcz17_0, hcz17_1, hcz17_2, hfz17_0, hfz17_1, hfz17_2⟩ := cf3 BK143
        have p144 : 0 ≤ (x4_1 : Int) := of_decide_eq_true (mA)
        have q144 : x4_1 < (l0_1.length : Int) := of_decide_eq_true (mA)
        obtain ⟨ad144, e144, hx144_0, hx144_1⟩ := at_T34 HR0_1.out x4_1 p144 q144
        cases e144
        replace hx144_0 := (HB.out.cell (World.block_lt_of_cell? w _ hx144_0)).trans hx144_0
        replace hx144_1 := (HB.out.cell (World.block_lt_of_cell? w _ hx144_1)).trans hx144_1
        replace p144 := eq_true p144
        replace q144 := eq_true q144
        go_wp2_with (first | ((with_reducible refine gate_dst (N := 5) rfl ?_); (try (refine gate_guard (by rfl) ?_; dsimp only)); refine bev (N := 5) (cs := #[.int .i64 0, .int .i64 0]) (t := 34) (h := ?_); intro gb145 hg w18 hbox hb; have BK145 := K1 (hbox); have GW145 := K1 (mG : w.heap.size ≤ gb145); have GE145 := K1 (mG : w.heap.size ≤ gb145); have NB143_145 := K1 (nlt hg (mU BK143.out)); have NB145_143 := K1 (ngt hg (mU BK143.out)); replace BK143 := K1 (blk_below (mU BK143.out) hb); replace HB := K1 (below_step mB hb); clear hb hbox hg; have hnb19 := NB145_143.out; have hnc19 := NB143_145.out; obtain ⟨hcz20_0, hcz20_1, hfz20_0, hfz20_1⟩ := cf2 BK145; obtain ⟨hcz21_0, hcz21_1, hcz21_2, hfz21_0, hfz21_1, hfz21_2⟩ := cf3 BK143))
        go_roundg k1
        case measure => have := HK1.out; omega
        case rel => exact ⟨((rd_T34 l0_1 x4_1).f1), (wrap64 (x4_1 + 1)), (mF), (mF), H', ⟨by have := HK1.out; omega⟩, ⟨by refine mU ?_; refine blk_far ?_ NB143_145.out _; refine mU ?_; refine blk_far ?_ NB143_145.out _; refine mU ?_; exact BK143.out⟩, ⟨mB⟩⟩
     ·rw [if_neg c5] at H
      have c5b0 : (((rd_T34 l0_1 x4_1).f0) == x3_1) = false := beq_eq_false_iff_ne.mpr c5
      have c5b1 : (((rd_T34 l0_1 x4_1).f0) != x3_1) = true := bne_iff_ne.mpr c5
      obtain rfl := Option.some.inj H
      obtain ⟨hcz22_0, hcz22_1, hcz22_2, hfz22_0, hfz22_1, hfz22_2⟩ := cf3 BK143
      have p144 : 0 ≤ (x4_1 : Int) := of_decide_eq_true (mA)
      have q144 : x4_1 < (l0_1.length : Int) := of_decide_eq_true (mA)
      obtain ⟨ad144, e144, hx144_0, hx144_1⟩ := at_T34 HR0_1.out x4_1 p144 q144
      cases e144
      replace hx144_0 := (HB.out.cell (World.block_lt_of_cell? w _ hx144_0)).trans hx144_0
      replace hx144_1 := (HB.out.cell (World.block_lt_of_cell? w _ hx144_1)).trans hx144_1
      replace p144 := eq_true p144
      replace q144 := eq_true q144
      go_wp2_with (first | ((with_reducible refine gate_dst (N := 5) rfl ?_); (try (refine gate_guard (by rfl) ?_; dsimp only)); refine bev (N := 5) (cs := #[.int .i64 0, .int .i64 0]) (t := 34) (h := ?_); intro gb145 hg w23 hbox hb; have BK145 := K1 (hbox); have GW145 := K1 (mG : w.heap.size ≤ gb145); have GE145 := K1 (mG : w.heap.size ≤ gb145); have NB143_145 := K1 (nlt hg (mU BK143.out)); have NB145_143 := K1 (ngt hg (mU BK143.out)); replace BK143 := K1 (blk_below (mU BK143.out) hb); replace HB := K1 (below_step mB hb); clear hb hbox hg; have hnb24 := NB145_143.out; have hnc24 := NB143_145.out; obtain ⟨hcz25_0, hcz25_1, hfz25_0, hfz25_1⟩ := cf2 BK145))
      go_ret
      exact ⟨mE, mB⟩
    ·rw [if_neg c4] at H
     exact absurd H (by simp)
   ·rw [if_neg c3] at H
    have c3b0 : decide (x4_1 < (l0_1.length : Int)) = false := decide_eq_false c3
    clear c3
    by_cases c26 : (l0_1.length : Int) = 0
    ·rw [if_pos c26] at H
     have c26b0 : ((l0_1.length : Int) == 0) = true := beq_iff_eq.mpr c26
     have c26b1 : ((l0_1.length : Int) != 0) = false := bne_eq_false_iff_eq.mpr c26
     clear c26
     obtain rfl := Option.some.inj H
     obtain ⟨hcz27_0, hcz27_1, hcz27_2, hfz27_0, hfz27_1, hfz27_2⟩ := cf3 BK143
     go_wp2
     go_ret
     exact ⟨mE, mB⟩
    ·rw [if_neg c26] at H
     have c26b0 : ((l0_1.length : Int) == 0) = false := beq_eq_false_iff_ne.mpr c26
     have c26b1 : ((l0_1.length : Int) != 0) = true := bne_iff_ne.mpr c26
     have c26b2 : ¬ (l0_1 = []) := fun h_ => c26 (by rw [h_]; rfl)
     by_cases c28 : x3_1 = (l0_0.length : Int)
     ·rw [if_pos c28] at H
      have c28b0 : (x3_1 == (l0_0.length : Int)) = true := beq_iff_eq.mpr c28
      have c28b1 : (x3_1 != (l0_0.length : Int)) = false := bne_eq_false_iff_eq.mpr c28
      clear c28
      obtain rfl := Option.some.inj H
      obtain ⟨hcz29_0, hcz29_1, hcz29_2, hfz29_0, hfz29_1, hfz29_2⟩ := cf3 BK143
      go_wp2
      go_ret
      exact ⟨mE, mB⟩
     ·rw [if_neg c28] at H
      have c28b0 : (x3_1 == (l0_0.length : Int)) = false := beq_eq_false_iff_ne.mpr c28
      have c28b1 : (x3_1 != (l0_0.length : Int)) = true := bne_iff_ne.mpr c28
      obtain rfl := Option.some.inj H
      obtain ⟨hcz30_0, hcz30_1, hcz30_2, hfz30_0, hfz30_1, hfz30_2⟩ := cf3 BK143
      go_wp2
      go_ret
      exact ⟨mE, mB⟩

end Go.Proofs.Ytdlikjfffdpmiaa.QProper

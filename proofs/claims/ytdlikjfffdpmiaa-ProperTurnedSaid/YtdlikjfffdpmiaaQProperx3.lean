/- Printed: a function's machine side. Conditions: none. -/
import Derived.Test.YtdlikjfffdpmiaaQProperx0
namespace Go.Proofs.Ytdlikjfffdpmiaa.QProper
open Go.RowKit Go.Proofs.YtdlikjfffdpmiaaW.PrintWords Go.Proofs.YtdlikjfffdpmiaaW.PrintLast Go.Proofs.YtdlikjfffdpmiaaW.PrintMore
set_option linter.unusedVariables false
set_option linter.unusedSimpArgs false

/-! ### proper_functions: function 28 -/
def proper_functions.l0 : Nat → Int → List (S34) → Int → Int → List Int → List (S34) → List (S58) → Option (Int × Bool)
 | 0, _, _, _, _, _, _, _ => none
 | k + 1, x4, x8, x9, x10, x102000, x102001, x102002 => if x10 < x9 then (if 0 ≤ x10 then (if x10 < (x8.length : Int) then (if ((rd_T34 x8 x10).f0) = x4 then (if ((rd_T34 x8 x10).f1) ≤ ((rd_T34 x8 x10).f0) then (some (x10, false)) else (if ((rd_T34 x8 x10).f1) > (x102000.length : Int) then (some (x10, false)) else (proper_functions.l0 k ((rd_T34 x8 x10).f1) x8 x9 (wrap64 (x10 + 1)) x102000 x102001 x102002))) else (some (x10, false))) else (none)) else (none)) else (if (x102001.length : Int) > 0 then (some ((x102001.length : Int), (x4 == (x102000.length : Int)))) else (some ((x102001.length : Int), false)))
def proper_functions.f (k : Nat) (l0_0 : List Int) (l0_1 : List (S34)) (l0_2 : List (S58)) : Option (Int × Bool) := proper_functions.l0 k 0 l0_1 (l0_1.length : Int) 0 l0_0 l0_1 l0_2
theorem proper_functions.mono_l : ∀ k, (∀ y0 y1 y2 y3 y4 y5 y6, LeO (proper_functions.l0 k y0 y1 y2 y3 y4 y5 y6) (proper_functions.l0 (k + 1) y0 y1 y2 y3 y4 y5 y6))
 | 0 => fun _ _ _ _ _ _ _ r h => by simp [proper_functions.l0] at h
 | k + 1 => by
  have ih0 := proper_functions.mono_l k
  ·intro y0 y1 y2 y3 y4 y5 y6
   unfold proper_functions.l0
   repeat' first
   | (with_reducible exact ih0 _ _ _ _ _ _ _)
   | (with_reducible exact LeO.refl _)
   | (with_reducible exact LeO.none _)
   | (with_reducible refine LeO.ite ?_ ?_)
   | (with_reducible refine LeO.bind ?_ (fun _ => ?_))
   | exact ih0 _ _ _ _ _ _ _
   | exact LeO.none _
   | refine LeO.ite ?_ ?_
   | refine LeO.bind ?_ (fun _ => ?_)
theorem proper_functions.mono : ∀ a0 a1 a2 k, LeO (proper_functions.f k a0 a1 a2) (proper_functions.f (k + 1) a0 a1 a2) := by
 intro a0 a1 a2 k
 have ih0 := proper_functions.mono_l k
 unfold proper_functions.f
 repeat' first
   | (with_reducible exact ih0 _ _ _ _ _ _ _)
   | (with_reducible exact LeO.refl _)
   | (with_reducible exact LeO.none _)
   | (with_reducible refine LeO.ite ?_ ?_)
   | (with_reducible refine LeO.bind ?_ (fun _ => ?_))
   | exact ih0 _ _ _ _ _ _ _
   | exact LeO.none _
   | refine LeO.ite ?_ ?_
   | refine LeO.bind ?_ (fun _ => ?_)
set_option maxHeartbeats 8000000 in
set_option maxRecDepth 100000 in
theorem proper_functions.calls (k : Nat) (A0_0 : Option Addr) (c0_0 : Nat) (l0_0 : List Int) (A0_1 : Option Addr) (c0_1 : Nat) (l0_1 : List (S34)) (A0_2 : Option Addr) (c0_2 : Nat) (l0_2 : List (S58)) (r1 : Int) (r2 : Bool) (w : World) (hr0_0 : Kd.C (Kd.int .u32) w A0_0 l0_0.length l0_0) (hc0_0 : l0_0.length ≤ c0_0) (hr0_1 : Kd.C k34 w A0_1 l0_1.length l0_1) (hc0_1 : l0_1.length ≤ c0_1) (hr0_2 : Kd.C k58 w A0_2 l0_2.length l0_2) (hc0_2 : l0_2.length ≤ c0_2) (h : proper_functions.f k l0_0 l0_1 l0_2 = some (r1, r2)) :
  Calls Try.prog 28 #[.agg #[.slice A0_0 l0_0.length c0_0, .slice A0_1 l0_1.length c0_1, .slice A0_2 l0_2.length c0_2]] w fun e w' => e = .returned (.tuple #[.int .i64 r1, .bool r2]) ∧ Below w.heap.size w w' := by
 have hu26 := Try.underlying26
 have hu34 := Try.underlying34
 have HR0_0 := K1 hr0_0
 have HC0_0 := K1 hc0_0
 clear hr0_0 hc0_0
 have HR0_1 := K1 hr0_1
 have HC0_1 := K1 hc0_1
 clear hr0_1 hc0_1
 have HR0_2 := K1 hr0_2
 have HC0_2 := K1 hc0_2
 clear hr0_2 hc0_2
 have HB := K1 (Below.refl w.heap.size w)
 have H : (proper_functions.l0 k 0 l0_1 (l0_1.length : Int) 0 l0_0 l0_1 l0_2) = some (r1, r2) := h
 clear h
 have H' := K1 H
 clear H
 go_enter Try.func28, Try.ntmps28
 go_wp2_with (first | ((with_reducible refine gate_dst (N := 1) rfl ?_); (try (refine gate_guard (by rfl) ?_; dsimp only)); refine bev (N := 1) (cs := #[.slice A0_0 l0_0.length c0_0, .slice A0_1 l0_1.length c0_1, .slice A0_2 l0_2.length c0_2]) (t := 26) (h := ?_); intro gb101 hg w2 hbox hb; have BK101 := K1 (hbox); have GW101 := K1 (mG : w.heap.size ≤ gb101); have GE101 := K1 (mG : w.heap.size ≤ gb101); replace HB := K1 (below_step mB hb); clear hb hbox hg; obtain ⟨hcz3_0, hcz3_1, hcz3_2, hfz3_0, hfz3_1, hfz3_2⟩ := cf3 BK101))
 repeat (go_quiet (first | ((with_reducible refine gate_dst (N := 1) rfl ?_); (try (refine gate_guard (by rfl) ?_; dsimp only)); refine bev (N := 1) (cs := #[.slice A0_0 l0_0.length c0_0, .slice A0_1 l0_1.length c0_1, .slice A0_2 l0_2.length c0_2]) (t := 26) (h := ?_); intro gb101 hg w2 hbox hb; have BK101 := K1 (hbox); have GW101 := K1 (mG : w.heap.size ≤ gb101); have GE101 := K1 (mG : w.heap.size ≤ gb101); replace HB := K1 (below_step mB hb); clear hb hbox hg; obtain ⟨hcz3_0, hcz3_1, hcz3_2, hfz3_0, hfz3_1, hfz3_2⟩ := cf3 BK101)); try go_wp2_with (first | ((with_reducible refine gate_dst (N := 1) rfl ?_); (try (refine gate_guard (by rfl) ?_; dsimp only)); refine bev (N := 1) (cs := #[.slice A0_0 l0_0.length c0_0, .slice A0_1 l0_1.length c0_1, .slice A0_2 l0_2.length c0_2]) (t := 26) (h := ?_); intro gb101 hg w2 hbox hb; have BK101 := K1 (hbox); have GW101 := K1 (mG : w.heap.size ≤ gb101); have GE101 := K1 (mG : w.heap.size ≤ gb101); replace HB := K1 (below_step mB hb); clear hb hbox hg; obtain ⟨hcz3_0, hcz3_1, hcz3_2, hfz3_0, hfz3_1, hfz3_2⟩ := cf3 BK101)))
 go_loopg [4, 10] k (fun kq v4 v10 w' => ∃ (x4_1 : Int) (x10_1 : Int), v4 = .int .i64 x4_1 ∧ v10 = .int .i64 x10_1 ∧ Aside0 (proper_functions.l0 kq x4_1 l0_1 (l0_1.length : Int) x10_1 l0_0 l0_1 l0_2 = some (r1, r2)) ∧ Aside0 (kq ≤ k) ∧ Aside0 (w'.heap[gb101]? = some (.cells #[(.slice A0_0 l0_0.length c0_0), (.slice A0_1 l0_1.length c0_1), (.slice A0_2 l0_2.length c0_2)] 26 (0, 0))) ∧ Aside0 (Below w.heap.size w w'))
 case atStart => exact ⟨(0), (0), (mF), (mF), H', ⟨Nat.le_refl _⟩, ⟨mU BK101.out⟩, ⟨mB⟩⟩
 case round =>
  clear H' hcz3_0 hcz3_1 hcz3_2 hfz3_0 hfz3_1 hfz3_2
  obtain ⟨x4_1, x10_1, rfl, rfl, HA, HK1, BK101, HB⟩ := hrel
  cases gk with
  | zero => exact absurd HA.out (by simp [proper_functions.l0])
  | succ k1 =>
   have H := HA.out
   clear HA
   simp only [proper_functions.l0] at H
   by_cases c4 : x10_1 < (l0_1.length : Int)
   ·rw [if_pos c4] at H
    have c4b0 : decide (x10_1 < (l0_1.length : Int)) = true := decide_eq_true c4
    clear c4
    by_cases c5 : 0 ≤ x10_1
    ·rw [if_pos c5] at H
     have c5b0 : decide (0 ≤ x10_1) = true := decide_eq_true c5
     clear c5
     by_cases c6 : x10_1 < (l0_1.length : Int)
     ·rw [if_pos c6] at H
      have c6b0 : decide (x10_1 < (l0_1.length : Int)) = true := decide_eq_true c6
      clear c6
      by_cases c7 : ((rd_T34 l0_1 x10_1).f0) = x4_1
      ·rw [if_pos c7] at H
       have c7b0 : (((rd_T34 l0_1 x10_1).f0) == x4_1) = true := beq_iff_eq.mpr c7
       have c7b1 : (((rd_T34 l0_1 x10_1).f0) != x4_1) = false := bne_eq_false_iff_eq.mpr c7
       clear c7
       by_cases c8 : ((rd_T34 l0_1 x10_1).f1) ≤ ((rd_T34 l0_1 x10_1).f0)
       ·rw [if_pos c8] at H
        have c8b0 : decide (((rd_T34 l0_1 x10_1).f1) ≤ ((rd_T34 l0_1 x10_1).f0)) = true := decide_eq_true c8
        clear c8
        simp only [Option.some.injEq, Prod.mk.injEq] at H
        obtain ⟨rfl, rfl⟩ := H
        have p102 : 0 ≤ (x10_1 : Int) := of_decide_eq_true (mA)
        have q102 : x10_1 < (l0_1.length : Int) := of_decide_eq_true (mA)
        obtain ⟨ad102, e102, hx102_0, hx102_1⟩ := at_T34 HR0_1.out x10_1 p102 q102
        cases e102
        replace hx102_0 := (HB.out.cell (World.block_lt_of_cell? w _ hx102_0)).trans hx102_0
        replace hx102_1 := (HB.out.cell (World.block_lt_of_cell? w _ hx102_1)).trans hx102_1
        replace p102 := eq_true p102
        replace q102 := eq_true q102
        go_wp2_with (first | ((with_reducible refine gate_dst (N := 6) rfl ?_); (try (refine gate_guard (by rfl) ?_; dsimp only)); refine bev (N := 6) (cs := #[.int .i64 0, .int .i64 0]) (t := 34) (h := ?_); intro gb103 hg w9 hbox hb; have BK103 := K1 (hbox); have GW103 := K1 (mG : w.heap.size ≤ gb103); have GE103 := K1 (mG : w.heap.size ≤ gb103); have NB101_103 := K1 (nlt hg (mU BK101.out)); have NB103_101 := K1 (ngt hg (mU BK101.out)); replace BK101 := K1 (blk_below (mU BK101.out) hb); replace HB := K1 (below_step mB hb); clear hb hbox hg; have hnb10 := NB103_101.out; have hnc10 := NB101_103.out; obtain ⟨hcz11_0, hcz11_1, hfz11_0, hfz11_1⟩ := cf2 BK103))
        repeat (go_quiet (first | ((with_reducible refine gate_dst (N := 6) rfl ?_); (try (refine gate_guard (by rfl) ?_; dsimp only)); refine bev (N := 6) (cs := #[.int .i64 0, .int .i64 0]) (t := 34) (h := ?_); intro gb103 hg w9 hbox hb; have BK103 := K1 (hbox); have GW103 := K1 (mG : w.heap.size ≤ gb103); have GE103 := K1 (mG : w.heap.size ≤ gb103); have NB101_103 := K1 (nlt hg (mU BK101.out)); have NB103_101 := K1 (ngt hg (mU BK101.out)); replace BK101 := K1 (blk_below (mU BK101.out) hb); replace HB := K1 (below_step mB hb); clear hb hbox hg; have hnb10 := NB103_101.out; have hnc10 := NB101_103.out; obtain ⟨hcz11_0, hcz11_1, hfz11_0, hfz11_1⟩ := cf2 BK103)); try go_wp2_with (first | ((with_reducible refine gate_dst (N := 6) rfl ?_); (try (refine gate_guard (by rfl) ?_; dsimp only)); refine bev (N := 6) (cs := #[.int .i64 0, .int .i64 0]) (t := 34) (h := ?_); intro gb103 hg w9 hbox hb; have BK103 := K1 (hbox); have GW103 := K1 (mG : w.heap.size ≤ gb103); have GE103 := K1 (mG : w.heap.size ≤ gb103); have NB101_103 := K1 (nlt hg (mU BK101.out)); have NB103_101 := K1 (ngt hg (mU BK101.out)); replace BK101 := K1 (blk_below (mU BK101.out) hb); replace HB := K1 (below_step mB hb); clear hb hbox hg; have hnb10 := NB103_101.out; have hnc10 := NB101_103.out; obtain ⟨hcz11_0, hcz11_1, hfz11_0, hfz11_1⟩ := cf2 BK103)))
        go_ret2
        exact ⟨mE, mB⟩
       ·rw [if_neg c8] at H
        have c8b0 : decide (((rd_T34 l0_1 x10_1).f1) ≤ ((rd_T34 l0_1 x10_1).f0)) = false := decide_eq_false c8
        clear c8
        by_cases c12 : ((rd_T34 l0_1 x10_1).f1) > (l0_0.length : Int)
        ·rw [if_pos c12] at H
         have c12b0 : decide ((l0_0.length : Int) < ((rd_T34 l0_1 x10_1).f1)) = true := decide_eq_true c12
         clear c12
         simp only [Option.some.injEq, Prod.mk.injEq] at H
         obtain ⟨rfl, rfl⟩ := H
         have p102 : 0 ≤ (x10_1 : Int) := of_decide_eq_true (mA)
         have q102 : x10_1 < (l0_1.length : Int) := of_decide_eq_true (mA)
         obtain ⟨ad102, e102, hx102_0, hx102_1⟩ := at_T34 HR0_1.out x10_1 p102 q102
         cases e102
         replace hx102_0 := (HB.out.cell (World.block_lt_of_cell? w _ hx102_0)).trans hx102_0
         replace hx102_1 := (HB.out.cell (World.block_lt_of_cell? w _ hx102_1)).trans hx102_1
         replace p102 := eq_true p102
         replace q102 := eq_true q102
         go_wp2_with (first | ((with_reducible refine gate_dst (N := 6) rfl ?_); (try (refine gate_guard (by rfl) ?_; dsimp only)); refine bev (N := 6) (cs := #[.int .i64 0, .int .i64 0]) (t := 34) (h := ?_); intro gb103 hg w13 hbox hb; have BK103 := K1 (hbox); have GW103 := K1 (mG : w.heap.size ≤ gb103); have GE103 := K1 (mG : w.heap.size ≤ gb103); have NB101_103 := K1 (nlt hg (mU BK101.out)); have NB103_101 := K1 (ngt hg (mU BK101.out)); replace BK101 := K1 (blk_below (mU BK101.out) hb); replace HB := K1 (below_step mB hb); clear hb hbox hg; have hnb14 := NB103_101.out; have hnc14 := NB101_103.out; obtain ⟨hcz15_0, hcz15_1, hfz15_0, hfz15_1⟩ := cf2 BK103; obtain ⟨hcz16_0, hcz16_1, hcz16_2, hfz16_0, hfz16_1, hfz16_2⟩ := cf3 BK101))
         repeat (go_quiet (first | ((with_reducible refine gate_dst (N := 6) rfl ?_); (try (refine gate_guard (by rfl) ?_; dsimp only)); refine bev (N := 6) (cs := #[.int .i64 0, .int .i64 0]) (t := 34) (h := ?_); intro gb103 hg w13 hbox hb; have BK103 := K1 (hbox); have GW103 := K1 (mG : w.heap.size ≤ gb103); have GE103 := K1 (mG : w.heap.size ≤ gb103); have NB101_103 := K1 (nlt hg (mU BK101.out)); have NB103_101 := K1 (ngt hg (mU BK101.out)); replace BK101 := K1 (blk_below (mU BK101.out) hb); replace HB := K1 (below_step mB hb); clear hb hbox hg; have hnb14 := NB103_101.out; have hnc14 := NB101_103.out; obtain ⟨hcz15_0, hcz15_1, hfz15_0, hfz15_1⟩ := cf2 BK103; obtain ⟨hcz16_0, hcz16_1, hcz16_2, hfz16_0, hfz16_1, hfz16_2⟩ := cf3 BK101)); try go_wp2_with (first | ((with_reducible refine gate_dst (N := 6) rfl ?_); (try (refine gate_guard (by rfl) ?_; dsimp only)); refine bev (N := 6) (cs := #[.int .i64 0, .int .i64 0]) (t := 34) (h := ?_); intro gb103 hg w13 hbox hb; have BK103 := K1 (hbox); have GW103 := K1 (mG : w.heap.size ≤ gb103); have GE103 := K1 (mG : w.heap.size ≤ gb103); have NB101_103 := K1 (nlt hg (mU BK101.out)); have NB103_101 := K1 (ngt hg (mU BK101.out)); replace BK101 := K1 (blk_below (mU BK101.out) hb); replace HB := K1 (below_step mB hb); clear hb hbox hg; have hnb14 := NB103_101.out; have hnc14 := NB101_103.out; obtain ⟨hcz15_0, hcz15_1, hfz15_0, hfz15_1⟩ := cf2 BK103; obtain ⟨hcz16_0, hcz16_1, hcz16_2, hfz16_0, hfz16_1, hfz16_2⟩ := cf3 BK101)))
         go_ret2
         exact ⟨mE, mB⟩
        ·rw [if_neg c12] at H
         have c12b0 : decide ((l0_0.length : Int) < ((rd_T34 l0_1 x10_1).f1)) = false := decide_eq_false c12
         clear c12
         have H' := K1 H
         clear H
         have p102 : 0 ≤ (x10_1 : Int) := of_decide_eq_true (mA)
         have q102 : x10_1 < (l0_1.length : Int) := of_decide_eq_true (mA)
         obtain ⟨ad102, e102, hx102_0, hx102_1⟩ := at_T34 HR0_1.out x10_1 p102 q102
         cases e102
         replace hx102_0 := (HB.out.cell (World.block_lt_of_cell? w _ hx102_0)).trans hx102_0
         replace hx102_1 := (HB.out.cell (World.block_lt_of_cell? w _ hx102_1)).trans hx102_1
         replace p102 := eq_true p102
         replace q102 := eq_true q102
         go_wp2_with (first | ((with_reducible refine gate_dst (N := 6) rfl ?_); (try (refine gate_guard (by rfl) ?_; dsimp only)); refine bev (N := 6) (cs := #[.int .i64 0, .int .i64 0]) (t := 34) (h := ?_); intro gb103 hg w17 hbox hb; have BK103 := K1 (hbox); have GW103 := K1 (mG : w.heap.size ≤ gb103); have GE103 := K1 (mG : w.heap.size ≤ gb103); have NB101_103 := K1 (nlt hg (mU BK101.out)); have NB103_101 := K1 (ngt hg (mU BK101.out)); replace BK101 := K1 (blk_below (mU BK101.out) hb); replace HB := K1 (below_step mB hb); clear hb hbox hg; have hnb18 := NB103_101.out; have hnc18 := NB101_103.out; obtain ⟨hcz19_0, hcz19_1, hfz19_0, hfz19_1⟩ := cf2 BK103; obtain ⟨hcz20_0, hcz20_1, hcz20_2, hfz20_0, hfz20_1, hfz20_2⟩ := cf3 BK101))
         repeat (go_quiet (first | ((with_reducible refine gate_dst (N := 6) rfl ?_); (try (refine gate_guard (by rfl) ?_; dsimp only)); refine bev (N := 6) (cs := #[.int .i64 0, .int .i64 0]) (t := 34) (h := ?_); intro gb103 hg w17 hbox hb; have BK103 := K1 (hbox); have GW103 := K1 (mG : w.heap.size ≤ gb103); have GE103 := K1 (mG : w.heap.size ≤ gb103); have NB101_103 := K1 (nlt hg (mU BK101.out)); have NB103_101 := K1 (ngt hg (mU BK101.out)); replace BK101 := K1 (blk_below (mU BK101.out) hb); replace HB := K1 (below_step mB hb); clear hb hbox hg; have hnb18 := NB103_101.out; have hnc18 := NB101_103.out; obtain ⟨hcz19_0, hcz19_1, hfz19_0, hfz19_1⟩ := cf2 BK103; obtain ⟨hcz20_0, hcz20_1, hcz20_2, hfz20_0, hfz20_1, hfz20_2⟩ := cf3 BK101)); try go_wp2_with (first | ((with_reducible refine gate_dst (N := 6) rfl ?_); (try (refine gate_guard (by rfl) ?_; dsimp only)); refine bev (N := 6) (cs := #[.int .i64 0, .int .i64 0]) (t := 34) (h := ?_); intro gb103 hg w17 hbox hb; have BK103 := K1 (hbox); have GW103 := K1 (mG : w.heap.size ≤ gb103); have GE103 := K1 (mG : w.heap.size ≤ gb103); have NB101_103 := K1 (nlt hg (mU BK101.out)); have NB103_101 := K1 (ngt hg (mU BK101.out)); replace BK101 := K1 (blk_below (mU BK101.out) hb); replace HB := K1 (below_step mB hb); clear hb hbox hg; have hnb18 := NB103_101.out; have hnc18 := NB101_103.out; obtain ⟨hcz19_0, hcz19_1, hfz19_0, hfz19_1⟩ := cf2 BK103; obtain ⟨hcz20_0, hcz20_1, hcz20_2, hfz20_0, hfz20_1, hfz20_2⟩ := cf3 BK101)))
         go_roundg k1
         case measure => have := HK1.out; omega
         case rel => exact ⟨((rd_T34 l0_1 x10_1).f1), (wrap64 (x10_1 + 1)), (mF), (mF), H', ⟨by have := HK1.out; omega⟩, ⟨by refine mU ?_; refine blk_far ?_ NB101_103.out _; refine mU ?_; refine blk_far ?_ NB101_103.out _; refine mU ?_; exact BK101.out⟩, ⟨mB⟩⟩
      ·rw [if_neg c7] at H
       have c7b0 : (((rd_T34 l0_1 x10_1).f0) == x4_1) = false := beq_eq_false_iff_ne.mpr c7
       have c7b1 : (((rd_T34 l0_1 x10_1).f0) != x4_1) = true := bne_iff_ne.mpr c7
       simp only [Option.some.injEq, Prod.mk.injEq] at H
       obtain ⟨rfl, rfl⟩ := H
       have p102 : 0 ≤ (x10_1 : Int) := of_decide_eq_true (mA)
       have q102 : x10_1 < (l0_1.length : Int) := of_decide_eq_true (mA)
       obtain ⟨ad102, e102, hx102_0, hx102_1⟩ := at_T34 HR0_1.out x10_1 p102 q102
       cases e102
       replace hx102_0 := (HB.out.cell (World.block_lt_of_cell? w _ hx102_0)).trans hx102_0
       replace hx102_1 := (HB.out.cell (World.block_lt_of_cell? w _ hx102_1)).trans hx102_1
       replace p102 := eq_true p102
       replace q102 := eq_true q102
       go_wp2_with (first | ((with_reducible refine gate_dst (N := 6) rfl ?_); (try (refine gate_guard (by rfl) ?_; dsimp only)); refine bev (N := 6) (cs := #[.int .i64 0, .int .i64 0]) (t := 34) (h := ?_); intro gb103 hg w21 hbox hb; have BK103 := K1 (hbox); have GW103 := K1 (mG : w.heap.size ≤ gb103); have GE103 := K1 (mG : w.heap.size ≤ gb103); have NB101_103 := K1 (nlt hg (mU BK101.out)); have NB103_101 := K1 (ngt hg (mU BK101.out)); replace BK101 := K1 (blk_below (mU BK101.out) hb); replace HB := K1 (below_step mB hb); clear hb hbox hg; have hnb22 := NB103_101.out; have hnc22 := NB101_103.out; obtain ⟨hcz23_0, hcz23_1, hfz23_0, hfz23_1⟩ := cf2 BK103))
       repeat (go_quiet (first | ((with_reducible refine gate_dst (N := 6) rfl ?_); (try (refine gate_guard (by rfl) ?_; dsimp only)); refine bev (N := 6) (cs := #[.int .i64 0, .int .i64 0]) (t := 34) (h := ?_); intro gb103 hg w21 hbox hb; have BK103 := K1 (hbox); have GW103 := K1 (mG : w.heap.size ≤ gb103); have GE103 := K1 (mG : w.heap.size ≤ gb103); have NB101_103 := K1 (nlt hg (mU BK101.out)); have NB103_101 := K1 (ngt hg (mU BK101.out)); replace BK101 := K1 (blk_below (mU BK101.out) hb); replace HB := K1 (below_step mB hb); clear hb hbox hg; have hnb22 := NB103_101.out; have hnc22 := NB101_103.out; obtain ⟨hcz23_0, hcz23_1, hfz23_0, hfz23_1⟩ := cf2 BK103)); try go_wp2_with (first | ((with_reducible refine gate_dst (N := 6) rfl ?_); (try (refine gate_guard (by rfl) ?_; dsimp only)); refine bev (N := 6) (cs := #[.int .i64 0, .int .i64 0]) (t := 34) (h := ?_); intro gb103 hg w21 hbox hb; have BK103 := K1 (hbox); have GW103 := K1 (mG : w.heap.size ≤ gb103); have GE103 := K1 (mG : w.heap.size ≤ gb103); have NB101_103 := K1 (nlt hg (mU BK101.out)); have NB103_101 := K1 (ngt hg (mU BK101.out)); replace BK101 := K1 (blk_below (mU BK101.out) hb); replace HB := K1 (below_step mB hb); clear hb hbox hg; have hnb22 := NB103_101.out; have hnc22 := NB101_103.out; obtain ⟨hcz23_0, hcz23_1, hfz23_0, hfz23_1⟩ := cf2 BK103)))
       go_ret2
       exact ⟨mE, mB⟩
     ·rw [if_neg c6] at H
      exact absurd H (by simp)
    ·rw [if_neg c5] at H
     exact absurd H (by simp)
   ·rw [if_neg c4] at H
    have c4b0 : decide (x10_1 < (l0_1.length : Int)) = false := decide_eq_false c4
    clear c4
    by_cases c24 : (l0_1.length : Int) > 0
    ·rw [if_pos c24] at H
     have c24b0 : decide (0 < (l0_1.length : Int)) = true := decide_eq_true c24
     have c24b1 : decide (0 < l0_1.length) = true := decide_eq_true (by omega)
     clear c24
     simp only [Option.some.injEq, Prod.mk.injEq] at H
     obtain ⟨rfl, rfl⟩ := H
     obtain ⟨hcz25_0, hcz25_1, hcz25_2, hfz25_0, hfz25_1, hfz25_2⟩ := cf3 BK101
     go_wp2
     repeat (go_quiet (fail); try go_wp2)
     go_ret2
     exact ⟨mE, mB⟩
    ·rw [if_neg c24] at H
     have c24b0 : decide (0 < (l0_1.length : Int)) = false := decide_eq_false c24
     have c24b1 : decide (0 < l0_1.length) = false := decide_eq_false (by omega)
     clear c24
     simp only [Option.some.injEq, Prod.mk.injEq] at H
     obtain ⟨rfl, rfl⟩ := H
     obtain ⟨hcz26_0, hcz26_1, hcz26_2, hfz26_0, hfz26_1, hfz26_2⟩ := cf3 BK101
     go_wp2
     repeat (go_quiet (fail); try go_wp2)
     go_ret2
     exact ⟨mE, mB⟩

end Go.Proofs.Ytdlikjfffdpmiaa.QProper

/- Printed: a function's machine side. Conditions: none. -/
import Derived.Test.YtdlikjfffdpmiaaQProperx0
import Derived.Test.YtdlikjfffdpmiaaQProperx100
namespace Go.Proofs.Ytdlikjfffdpmiaa.QProper
open Go.RowKit Go.Proofs.YtdlikjfffdpmiaaW.PrintWords Go.Proofs.YtdlikjfffdpmiaaW.PrintLast Go.Proofs.YtdlikjfffdpmiaaW.PrintMore
set_option linter.unusedVariables false
set_option linter.unusedSimpArgs false

/-! ### rotaref08_table: function 32 -/
def rotaref08_table.l0 : Nat → Int → List (S87) → Bool → Option (Bool)
 | 0, _, _, _ => none
 | k + 1, x3, x147000, x147001 => if x3 < (x147000.length : Int) then (if 0 ≤ x3 then ((rotaref08_register.f ((rd_T87 x147000 x3).f1)).bind fun t149 => (if t149 = true then ((rotaref08_register.f ((rd_T87 x147000 x3).f2)).bind fun t150 => (if t150 = true then ((rotaref08_register.f ((rd_T87 x147000 x3).f3)).bind fun t151 => (if t151 = true then (if (rd_T87 x147000 x3).f0 = true then (if ((rd_T87 x147000 x3).f3) = 0 then (rotaref08_table.l0 k (wrap64 (x3 + 1)) x147000 x147001) else (some false)) else (rotaref08_table.l0 k (wrap64 (x3 + 1)) x147000 x147001)) else (some false))) else (some false))) else (some false))) else (none)) else (some true)
def rotaref08_table.f (k : Nat) (l0_0 : List (S87)) (a0_1 : Bool) : Option (Bool) := if (l0_0.length : Int) > 16 then (some false) else (rotaref08_table.l0 k 0 l0_0 a0_1)
theorem rotaref08_table.mono_l : ∀ k, (∀ y0 y1 y2, LeO (rotaref08_table.l0 k y0 y1 y2) (rotaref08_table.l0 (k + 1) y0 y1 y2))
 | 0 => fun _ _ _ r h => by simp [rotaref08_table.l0] at h
 | k + 1 => by
  have ih0 := rotaref08_table.mono_l k
  ·intro y0 y1 y2
   unfold rotaref08_table.l0
   repeat' first
   | (with_reducible exact ih0 _ _ _)
   | (with_reducible exact LeO.refl _)
   | (with_reducible exact LeO.none _)
   | (with_reducible refine LeO.ite ?_ ?_)
   | (with_reducible refine LeO.bind ?_ (fun _ => ?_))
   | exact ih0 _ _ _
   | exact LeO.none _
   | refine LeO.ite ?_ ?_
   | refine LeO.bind ?_ (fun _ => ?_)
theorem rotaref08_table.mono : ∀ a0 a1 k, LeO (rotaref08_table.f k a0 a1) (rotaref08_table.f (k + 1) a0 a1) := by
 intro a0 a1 k
 have ih0 := rotaref08_table.mono_l k
 unfold rotaref08_table.f
 repeat' first
   | (with_reducible exact ih0 _ _ _)
   | (with_reducible exact LeO.refl _)
   | (with_reducible exact LeO.none _)
   | (with_reducible refine LeO.ite ?_ ?_)
   | (with_reducible refine LeO.bind ?_ (fun _ => ?_))
   | exact ih0 _ _ _
   | exact LeO.none _
   | refine LeO.ite ?_ ?_
   | refine LeO.bind ?_ (fun _ => ?_)
set_option maxHeartbeats 8000000 in
set_option maxRecDepth 100000 in
theorem rotaref08_table.calls (k : Nat) (A0_0 : Option Addr) (c0_0 : Nat) (l0_0 : List (S87)) (a0_1 : Bool) (r : Bool) (w : World) (hr0_0 : Kd.C k87 w A0_0 l0_0.length l0_0) (hc0_0 : l0_0.length ≤ c0_0) (h : rotaref08_table.f k l0_0 a0_1 = some r) :
  Calls Try.prog 32 #[.agg #[.slice A0_0 l0_0.length c0_0, .bool a0_1]] w fun e w' => e = .returned (.bool r) ∧ Below w.heap.size w w' := by
 have hu58 := Try.underlying58
 have hu87 := Try.underlying87
 have HR0_0 := K1 hr0_0
 have HC0_0 := K1 hc0_0
 clear hr0_0 hc0_0
 have HB := K1 (Below.refl w.heap.size w)
 have H : (if (l0_0.length : Int) > 16 then (some false) else (rotaref08_table.l0 k 0 l0_0 a0_1)) = some r := h
 clear h
 by_cases c2 : (l0_0.length : Int) > 16
 ·rw [if_pos c2] at H
  have c2b0 : decide (16 < (l0_0.length : Int)) = true := decide_eq_true c2
  have c2b1 : decide (16 < l0_0.length) = true := decide_eq_true (by omega)
  clear c2
  obtain rfl := Option.some.inj H
  go_enter Try.func32, Try.ntmps32
  go_wp2_with (first | ((with_reducible refine gate_dst (N := 1) rfl ?_); refine bev (N := 1) (cs := #[.slice A0_0 l0_0.length c0_0, .bool a0_1]) (t := 58) (h := ?_); intro gb146 hg w3 hbox hb; have BK146 := K1 (hbox); have GW146 := K1 (mG : w.heap.size ≤ gb146); have GE146 := K1 (mG : w.heap.size ≤ gb146); replace HB := K1 (below_step mB hb); clear hb hbox hg; obtain ⟨hcz4_0, hcz4_1, hfz4_0, hfz4_1⟩ := cf2 BK146))
  go_ret
  exact ⟨mE, mB⟩
 ·rw [if_neg c2] at H
  have c2b0 : decide (16 < (l0_0.length : Int)) = false := decide_eq_false c2
  have c2b1 : decide (16 < l0_0.length) = false := decide_eq_false (by omega)
  clear c2
  have H' := K1 H
  clear H
  go_enter Try.func32, Try.ntmps32
  go_wp2_with (first | ((with_reducible refine gate_dst (N := 1) rfl ?_); refine bev (N := 1) (cs := #[.slice A0_0 l0_0.length c0_0, .bool a0_1]) (t := 58) (h := ?_); intro gb146 hg w5 hbox hb; have BK146 := K1 (hbox); have GW146 := K1 (mG : w.heap.size ≤ gb146); have GE146 := K1 (mG : w.heap.size ≤ gb146); replace HB := K1 (below_step mB hb); clear hb hbox hg; obtain ⟨hcz6_0, hcz6_1, hfz6_0, hfz6_1⟩ := cf2 BK146))
  go_loopg [3] k (fun kq v3 w' => ∃ (x3_1 : Int), v3 = .int .i64 x3_1 ∧ Aside0 (rotaref08_table.l0 kq x3_1 l0_0 a0_1 = some r) ∧ Aside0 (kq ≤ k) ∧ Aside0 (w'.heap[gb146]? = some (.cells #[(.slice A0_0 l0_0.length c0_0), .bool a0_1] 58 (0, 0))) ∧ Aside0 (Below w.heap.size w w'))
  case atStart => exact ⟨(0), (mF), H', ⟨Nat.le_refl _⟩, ⟨mU BK146.out⟩, ⟨mB⟩⟩
  case round =>
   clear H' c2b0 c2b1 hcz6_0 hcz6_1 hfz6_0 hfz6_1
   obtain ⟨x3_1, rfl, HA, HK1, BK146, HB⟩ := hrel
   cases gk with
   | zero => exact absurd HA.out (by simp [rotaref08_table.l0])
   | succ k1 =>
    have H := HA.out
    clear HA
    simp only [rotaref08_table.l0] at H
    by_cases c7 : x3_1 < (l0_0.length : Int)
    ·rw [if_pos c7] at H
     have c7b0 : decide (x3_1 < (l0_0.length : Int)) = true := decide_eq_true c7
     clear c7
     by_cases c8 : 0 ≤ x3_1
     ·rw [if_pos c8] at H
      have c8b0 : decide (0 ≤ x3_1) = true := decide_eq_true c8
      clear c8
      replace H := Option.bind_eq_some_iff.mp H
      obtain ⟨t149, A90, H⟩ := H
      replace H : (if t149 = true then ((rotaref08_register.f ((rd_T87 l0_0 x3_1).f2)).bind fun t150 => (if t150 = true then ((rotaref08_register.f ((rd_T87 l0_0 x3_1).f3)).bind fun t151 => (if t151 = true then (if (rd_T87 l0_0 x3_1).f0 = true then (if ((rd_T87 l0_0 x3_1).f3) = 0 then (rotaref08_table.l0 k1 (wrap64 (x3_1 + 1)) l0_0 a0_1) else (some false)) else (rotaref08_table.l0 k1 (wrap64 (x3_1 + 1)) l0_0 a0_1)) else (some false))) else (some false))) else (some false)) = some r := H
      have A9 := K1 A90
      clear A90
      by_cases c10 : t149 = true
      ·subst c10
       have H1 : ((rotaref08_register.f ((rd_T87 l0_0 x3_1).f2)).bind fun t150 => (if t150 = true then ((rotaref08_register.f ((rd_T87 l0_0 x3_1).f3)).bind fun t151 => (if t151 = true then (if (rd_T87 l0_0 x3_1).f0 = true then (if ((rd_T87 l0_0 x3_1).f3) = 0 then (rotaref08_table.l0 k1 (wrap64 (x3_1 + 1)) l0_0 a0_1) else (some false)) else (rotaref08_table.l0 k1 (wrap64 (x3_1 + 1)) l0_0 a0_1)) else (some false))) else (some false))) = some r := by rw [if_pos rfl] at H; exact H
       clear H
       have H := H1
       clear H1
       replace H := Option.bind_eq_some_iff.mp H
       obtain ⟨t150, A110, H⟩ := H
       replace H : (if t150 = true then ((rotaref08_register.f ((rd_T87 l0_0 x3_1).f3)).bind fun t151 => (if t151 = true then (if (rd_T87 l0_0 x3_1).f0 = true then (if ((rd_T87 l0_0 x3_1).f3) = 0 then (rotaref08_table.l0 k1 (wrap64 (x3_1 + 1)) l0_0 a0_1) else (some false)) else (rotaref08_table.l0 k1 (wrap64 (x3_1 + 1)) l0_0 a0_1)) else (some false))) else (some false)) = some r := H
       have A11 := K1 A110
       clear A110
       by_cases c12 : t150 = true
       ·subst c12
        have H1 : ((rotaref08_register.f ((rd_T87 l0_0 x3_1).f3)).bind fun t151 => (if t151 = true then (if (rd_T87 l0_0 x3_1).f0 = true then (if ((rd_T87 l0_0 x3_1).f3) = 0 then (rotaref08_table.l0 k1 (wrap64 (x3_1 + 1)) l0_0 a0_1) else (some false)) else (rotaref08_table.l0 k1 (wrap64 (x3_1 + 1)) l0_0 a0_1)) else (some false))) = some r := by rw [if_pos rfl] at H; exact H
        clear H
        have H := H1
        clear H1
        replace H := Option.bind_eq_some_iff.mp H
        obtain ⟨t151, A130, H⟩ := H
        replace H : (if t151 = true then (if (rd_T87 l0_0 x3_1).f0 = true then (if ((rd_T87 l0_0 x3_1).f3) = 0 then (rotaref08_table.l0 k1 (wrap64 (x3_1 + 1)) l0_0 a0_1) else (some false)) else (rotaref08_table.l0 k1 (wrap64 (x3_1 + 1)) l0_0 a0_1)) else (some false)) = some r := H
        have A13 := K1 A130
        clear A130
        by_cases c14 : t151 = true
        ·subst c14
         have H1 : (if (rd_T87 l0_0 x3_1).f0 = true then (if ((rd_T87 l0_0 x3_1).f3) = 0 then (rotaref08_table.l0 k1 (wrap64 (x3_1 + 1)) l0_0 a0_1) else (some false)) else (rotaref08_table.l0 k1 (wrap64 (x3_1 + 1)) l0_0 a0_1)) = some r := by rw [if_pos rfl] at H; exact H
         clear H
         have H := H1
         clear H1
         obtain ⟨bq15, hbq15⟩ : ∃ b_ : Bool, b_ = ((rd_T87 l0_0 x3_1).f0) := ⟨_, rfl⟩
         replace H : (if bq15 = true then (if ((rd_T87 l0_0 x3_1).f3) = 0 then (rotaref08_table.l0 k1 (wrap64 (x3_1 + 1)) l0_0 a0_1) else (some false)) else (rotaref08_table.l0 k1 (wrap64 (x3_1 + 1)) l0_0 a0_1)) = some r := by rw [← hbq15] at H; exact H
         have Nbq15 := K1 hbq15
         clear hbq15
         by_cases c16 : bq15 = true
         ·subst c16
          have H1 : (if ((rd_T87 l0_0 x3_1).f3) = 0 then (rotaref08_table.l0 k1 (wrap64 (x3_1 + 1)) l0_0 a0_1) else (some false)) = some r := by rw [if_pos rfl] at H; exact H
          clear H
          have H := H1
          clear H1
          by_cases c17 : ((rd_T87 l0_0 x3_1).f3) = 0
          ·rw [if_pos c17] at H
           have c17b0 : (((rd_T87 l0_0 x3_1).f3) == 0) = true := beq_iff_eq.mpr c17
           have c17b1 : (((rd_T87 l0_0 x3_1).f3) != 0) = false := bne_eq_false_iff_eq.mpr c17
           clear c17
           have H' := K1 H
           clear H
           obtain ⟨hcz18_0, hcz18_1, hfz18_0, hfz18_1⟩ := cf2 BK146
           have p147 : 0 ≤ (x3_1 : Int) := of_decide_eq_true (mA)
           have q147 : x3_1 < (l0_0.length : Int) := of_decide_eq_true (mA)
           obtain ⟨ad147, e147, hx147_0, hx147_1, hx147_2, hx147_3⟩ := at_T87 HR0_0.out x3_1 p147 q147
           (try rw [← Nbq15.out] at hx147_0)
           cases e147
           replace hx147_0 := (HB.out.cell (World.block_lt_of_cell? w _ hx147_0)).trans hx147_0
           replace hx147_1 := (HB.out.cell (World.block_lt_of_cell? w _ hx147_1)).trans hx147_1
           replace hx147_2 := (HB.out.cell (World.block_lt_of_cell? w _ hx147_2)).trans hx147_2
           replace hx147_3 := (HB.out.cell (World.block_lt_of_cell? w _ hx147_3)).trans hx147_3
           replace p147 := eq_true p147
           replace q147 := eq_true q147
           go_wp2_with (first | ((with_reducible refine gate_dst (N := 4) rfl ?_); refine bev (N := 4) (cs := #[.bool false, .int .i64 0, .int .i64 0, .int .i64 0]) (t := 87) (h := ?_); intro gb148 hg w19 hbox hb; have BK148 := K1 (hbox); have GW148 := K1 (mG : w.heap.size ≤ gb148); have GE148 := K1 (mG : w.heap.size ≤ gb148); have NB146_148 := K1 (nlt hg (mU BK146.out)); have NB148_146 := K1 (ngt hg (mU BK146.out)); replace BK146 := K1 (blk_below (mU BK146.out) hb); replace HB := K1 (below_step mB hb); clear hb hbox hg; have hnb20 := NB148_146.out; have hnc20 := NB146_148.out; obtain ⟨hcz21_0, hcz21_1, hcz21_2, hcz21_3, hfz21_0, hfz21_1, hfz21_2, hfz21_3⟩ := cf4 BK148) | ((with_reducible refine gate_callee (f := 62) rfl ?_); refine goesL_ (some 23) rfl rfl Try.func62 (by kernel_rfl) rfl #[.int .i64 ((rd_T87 l0_0 x3_1).f1)] rfl mL ?_; (with_reducible refine (rotaref08_register.calls ((rd_T87 l0_0 x3_1).f1) true _ A9.out).mono ?_); rintro e w' ⟨rfl, ⟨nd, rfl⟩⟩; refine ⟨_, rfl, ?_⟩) | (go_at_call 62; (with_reducible refine (rotaref08_register.calls ((rd_T87 l0_0 x3_1).f2) true _ A11.out).mono ?_); rintro e w' ⟨rfl, ⟨nd, rfl⟩⟩) | (go_at_call 62; (with_reducible refine (rotaref08_register.calls ((rd_T87 l0_0 x3_1).f3) true _ A13.out).mono ?_); rintro e w' ⟨rfl, ⟨nd, rfl⟩⟩))
           go_roundg k1
           case measure => have := HK1.out; omega
           case rel => exact ⟨(wrap64 (x3_1 + 1)), (mF), H', ⟨by have := HK1.out; omega⟩, ⟨by refine mU ?_; refine blk_far ?_ NB146_148.out _; refine mU ?_; refine blk_far ?_ NB146_148.out _; refine mU ?_; refine blk_far ?_ NB146_148.out _; refine mU ?_; refine blk_far ?_ NB146_148.out _; refine mU ?_; exact BK146.out⟩, ⟨mB⟩⟩
          ·rw [if_neg c17] at H
           have c17b0 : (((rd_T87 l0_0 x3_1).f3) == 0) = false := beq_eq_false_iff_ne.mpr c17
           have c17b1 : (((rd_T87 l0_0 x3_1).f3) != 0) = true := bne_iff_ne.mpr c17
           obtain rfl := Option.some.inj H
           obtain ⟨hcz22_0, hcz22_1, hfz22_0, hfz22_1⟩ := cf2 BK146
           have p147 : 0 ≤ (x3_1 : Int) := of_decide_eq_true (mA)
           have q147 : x3_1 < (l0_0.length : Int) := of_decide_eq_true (mA)
           obtain ⟨ad147, e147, hx147_0, hx147_1, hx147_2, hx147_3⟩ := at_T87 HR0_0.out x3_1 p147 q147
           (try rw [← Nbq15.out] at hx147_0)
           cases e147
           replace hx147_0 := (HB.out.cell (World.block_lt_of_cell? w _ hx147_0)).trans hx147_0
           replace hx147_1 := (HB.out.cell (World.block_lt_of_cell? w _ hx147_1)).trans hx147_1
           replace hx147_2 := (HB.out.cell (World.block_lt_of_cell? w _ hx147_2)).trans hx147_2
           replace hx147_3 := (HB.out.cell (World.block_lt_of_cell? w _ hx147_3)).trans hx147_3
           replace p147 := eq_true p147
           replace q147 := eq_true q147
           go_wp2_with (first | ((with_reducible refine gate_dst (N := 4) rfl ?_); refine bev (N := 4) (cs := #[.bool false, .int .i64 0, .int .i64 0, .int .i64 0]) (t := 87) (h := ?_); intro gb148 hg w23 hbox hb; have BK148 := K1 (hbox); have GW148 := K1 (mG : w.heap.size ≤ gb148); have GE148 := K1 (mG : w.heap.size ≤ gb148); have NB146_148 := K1 (nlt hg (mU BK146.out)); have NB148_146 := K1 (ngt hg (mU BK146.out)); replace BK146 := K1 (blk_below (mU BK146.out) hb); replace HB := K1 (below_step mB hb); clear hb hbox hg; have hnb24 := NB148_146.out; have hnc24 := NB146_148.out; obtain ⟨hcz25_0, hcz25_1, hcz25_2, hcz25_3, hfz25_0, hfz25_1, hfz25_2, hfz25_3⟩ := cf4 BK148) | ((with_reducible refine gate_callee (f := 62) rfl ?_); refine goesL_ (some 23) rfl rfl Try.func62 (by kernel_rfl) rfl #[.int .i64 ((rd_T87 l0_0 x3_1).f1)] rfl mL ?_; (with_reducible refine (rotaref08_register.calls ((rd_T87 l0_0 x3_1).f1) true _ A9.out).mono ?_); rintro e w' ⟨rfl, ⟨nd, rfl⟩⟩; refine ⟨_, rfl, ?_⟩) | (go_at_call 62; (with_reducible refine (rotaref08_register.calls ((rd_T87 l0_0 x3_1).f2) true _ A11.out).mono ?_); rintro e w' ⟨rfl, ⟨nd, rfl⟩⟩) | (go_at_call 62; (with_reducible refine (rotaref08_register.calls ((rd_T87 l0_0 x3_1).f3) true _ A13.out).mono ?_); rintro e w' ⟨rfl, ⟨nd, rfl⟩⟩))
           go_ret
           exact ⟨mE, mB⟩
         ·replace c16 := Bool.eq_false_iff.mpr c16
          subst c16
          have H1 : (rotaref08_table.l0 k1 (wrap64 (x3_1 + 1)) l0_0 a0_1) = some r := by rw [if_neg (show ¬ (false = true) by decide)] at H; exact H
          clear H
          have H := H1
          clear H1
          have H' := K1 H
          clear H
          obtain ⟨hcz26_0, hcz26_1, hfz26_0, hfz26_1⟩ := cf2 BK146
          have p147 : 0 ≤ (x3_1 : Int) := of_decide_eq_true (mA)
          have q147 : x3_1 < (l0_0.length : Int) := of_decide_eq_true (mA)
          obtain ⟨ad147, e147, hx147_0, hx147_1, hx147_2, hx147_3⟩ := at_T87 HR0_0.out x3_1 p147 q147
          (try rw [← Nbq15.out] at hx147_0)
          cases e147
          replace hx147_0 := (HB.out.cell (World.block_lt_of_cell? w _ hx147_0)).trans hx147_0
          replace hx147_1 := (HB.out.cell (World.block_lt_of_cell? w _ hx147_1)).trans hx147_1
          replace hx147_2 := (HB.out.cell (World.block_lt_of_cell? w _ hx147_2)).trans hx147_2
          replace hx147_3 := (HB.out.cell (World.block_lt_of_cell? w _ hx147_3)).trans hx147_3
          replace p147 := eq_true p147
          replace q147 := eq_true q147
          go_wp2_with (first | ((with_reducible refine gate_dst (N := 4) rfl ?_); refine bev (N := 4) (cs := #[.bool false, .int .i64 0, .int .i64 0, .int .i64 0]) (t := 87) (h := ?_); intro gb148 hg w27 hbox hb; have BK148 := K1 (hbox); have GW148 := K1 (mG : w.heap.size ≤ gb148); have GE148 := K1 (mG : w.heap.size ≤ gb148); have NB146_148 := K1 (nlt hg (mU BK146.out)); have NB148_146 := K1 (ngt hg (mU BK146.out)); replace BK146 := K1 (blk_below (mU BK146.out) hb); replace HB := K1 (below_step mB hb); clear hb hbox hg; have hnb28 := NB148_146.out; have hnc28 := NB146_148.out; obtain ⟨hcz29_0, hcz29_1, hcz29_2, hcz29_3, hfz29_0, hfz29_1, hfz29_2, hfz29_3⟩ := cf4 BK148) | ((with_reducible refine gate_callee (f := 62) rfl ?_); refine goesL_ (some 23) rfl rfl Try.func62 (by kernel_rfl) rfl #[.int .i64 ((rd_T87 l0_0 x3_1).f1)] rfl mL ?_; (with_reducible refine (rotaref08_register.calls ((rd_T87 l0_0 x3_1).f1) true _ A9.out).mono ?_); rintro e w' ⟨rfl, ⟨nd, rfl⟩⟩; refine ⟨_, rfl, ?_⟩) | (go_at_call 62; (with_reducible refine (rotaref08_register.calls ((rd_T87 l0_0 x3_1).f2) true _ A11.out).mono ?_); rintro e w' ⟨rfl, ⟨nd, rfl⟩⟩) | (go_at_call 62; (with_reducible refine (rotaref08_register.calls ((rd_T87 l0_0 x3_1).f3) true _ A13.out).mono ?_); rintro e w' ⟨rfl, ⟨nd, rfl⟩⟩))
          go_roundg k1
          case measure => have := HK1.out; omega
          case rel => exact ⟨(wrap64 (x3_1 + 1)), (mF), H', ⟨by have := HK1.out; omega⟩, ⟨by refine mU ?_; refine blk_far ?_ NB146_148.out _; refine mU ?_; refine blk_far ?_ NB146_148.out _; refine mU ?_; refine blk_far ?_ NB146_148.out _; refine mU ?_; refine blk_far ?_ NB146_148.out _; refine mU ?_; exact BK146.out⟩, ⟨mB⟩⟩
        ·replace c14 := Bool.eq_false_iff.mpr c14
         subst c14
         have H1 : (some false) = some r := by rw [if_neg (show ¬ (false = true) by decide)] at H; exact H
         clear H
         have H := H1
         clear H1
         obtain rfl := Option.some.inj H
         obtain ⟨hcz30_0, hcz30_1, hfz30_0, hfz30_1⟩ := cf2 BK146
         have p147 : 0 ≤ (x3_1 : Int) := of_decide_eq_true (mA)
         have q147 : x3_1 < (l0_0.length : Int) := of_decide_eq_true (mA)
         obtain ⟨ad147, e147, hx147_0, hx147_1, hx147_2, hx147_3⟩ := at_T87 HR0_0.out x3_1 p147 q147
         cases e147
         replace hx147_0 := (HB.out.cell (World.block_lt_of_cell? w _ hx147_0)).trans hx147_0
         replace hx147_1 := (HB.out.cell (World.block_lt_of_cell? w _ hx147_1)).trans hx147_1
         replace hx147_2 := (HB.out.cell (World.block_lt_of_cell? w _ hx147_2)).trans hx147_2
         replace hx147_3 := (HB.out.cell (World.block_lt_of_cell? w _ hx147_3)).trans hx147_3
         replace p147 := eq_true p147
         replace q147 := eq_true q147
         go_wp2_with (first | ((with_reducible refine gate_dst (N := 4) rfl ?_); refine bev (N := 4) (cs := #[.bool false, .int .i64 0, .int .i64 0, .int .i64 0]) (t := 87) (h := ?_); intro gb148 hg w31 hbox hb; have BK148 := K1 (hbox); have GW148 := K1 (mG : w.heap.size ≤ gb148); have GE148 := K1 (mG : w.heap.size ≤ gb148); have NB146_148 := K1 (nlt hg (mU BK146.out)); have NB148_146 := K1 (ngt hg (mU BK146.out)); replace BK146 := K1 (blk_below (mU BK146.out) hb); replace HB := K1 (below_step mB hb); clear hb hbox hg; have hnb32 := NB148_146.out; have hnc32 := NB146_148.out; obtain ⟨hcz33_0, hcz33_1, hcz33_2, hcz33_3, hfz33_0, hfz33_1, hfz33_2, hfz33_3⟩ := cf4 BK148) | ((with_reducible refine gate_callee (f := 62) rfl ?_); refine goesL_ (some 23) rfl rfl Try.func62 (by kernel_rfl) rfl #[.int .i64 ((rd_T87 l0_0 x3_1).f1)] rfl mL ?_; (with_reducible refine (rotaref08_register.calls ((rd_T87 l0_0 x3_1).f1) true _ A9.out).mono ?_); rintro e w' ⟨rfl, ⟨nd, rfl⟩⟩; refine ⟨_, rfl, ?_⟩) | (go_at_call 62; (with_reducible refine (rotaref08_register.calls ((rd_T87 l0_0 x3_1).f2) true _ A11.out).mono ?_); rintro e w' ⟨rfl, ⟨nd, rfl⟩⟩) | (go_at_call 62; (with_reducible refine (rotaref08_register.calls ((rd_T87 l0_0 x3_1).f3) false _ A13.out).mono ?_); rintro e w' ⟨rfl, ⟨nd, rfl⟩⟩))
         go_ret
         exact ⟨mE, mB⟩
       ·replace c12 := Bool.eq_false_iff.mpr c12
        subst c12
        have H1 : (some false) = some r := by rw [if_neg (show ¬ (false = true) by decide)] at H; exact H
        clear H
        have H := H1
        clear H1
        obtain rfl := Option.some.inj H
        obtain ⟨hcz34_0, hcz34_1, hfz34_0, hfz34_1⟩ := cf2 BK146
        have p147 : 0 ≤ (x3_1 : Int) := of_decide_eq_true (mA)
        have q147 : x3_1 < (l0_0.length : Int) := of_decide_eq_true (mA)
        obtain ⟨ad147, e147, hx147_0, hx147_1, hx147_2, hx147_3⟩ := at_T87 HR0_0.out x3_1 p147 q147
        cases e147
        replace hx147_0 := (HB.out.cell (World.block_lt_of_cell? w _ hx147_0)).trans hx147_0
        replace hx147_1 := (HB.out.cell (World.block_lt_of_cell? w _ hx147_1)).trans hx147_1
        replace hx147_2 := (HB.out.cell (World.block_lt_of_cell? w _ hx147_2)).trans hx147_2
        replace hx147_3 := (HB.out.cell (World.block_lt_of_cell? w _ hx147_3)).trans hx147_3
        replace p147 := eq_true p147
        replace q147 := eq_true q147
        go_wp2_with (first | ((with_reducible refine gate_dst (N := 4) rfl ?_); refine bev (N := 4) (cs := #[.bool false, .int .i64 0, .int .i64 0, .int .i64 0]) (t := 87) (h := ?_); intro gb148 hg w35 hbox hb; have BK148 := K1 (hbox); have GW148 := K1 (mG : w.heap.size ≤ gb148); have GE148 := K1 (mG : w.heap.size ≤ gb148); have NB146_148 := K1 (nlt hg (mU BK146.out)); have NB148_146 := K1 (ngt hg (mU BK146.out)); replace BK146 := K1 (blk_below (mU BK146.out) hb); replace HB := K1 (below_step mB hb); clear hb hbox hg; have hnb36 := NB148_146.out; have hnc36 := NB146_148.out; obtain ⟨hcz37_0, hcz37_1, hcz37_2, hcz37_3, hfz37_0, hfz37_1, hfz37_2, hfz37_3⟩ := cf4 BK148) | ((with_reducible refine gate_callee (f := 62) rfl ?_); refine goesL_ (some 23) rfl rfl Try.func62 (by kernel_rfl) rfl #[.int .i64 ((rd_T87 l0_0 x3_1).f1)] rfl mL ?_; (with_reducible refine (rotaref08_register.calls ((rd_T87 l0_0 x3_1).f1) true _ A9.out).mono ?_); rintro e w' ⟨rfl, ⟨nd, rfl⟩⟩; refine ⟨_, rfl, ?_⟩) | (go_at_call 62; (with_reducible refine (rotaref08_register.calls ((rd_T87 l0_0 x3_1).f2) false _ A11.out).mono ?_); rintro e w' ⟨rfl, ⟨nd, rfl⟩⟩))
        go_ret
        exact ⟨mE, mB⟩
      ·replace c10 := Bool.eq_false_iff.mpr c10
       subst c10
       have H1 : (some false) = some r := by rw [if_neg (show ¬ (false = true) by decide)] at H; exact H
       clear H
       have H := H1
       clear H1
       obtain rfl := Option.some.inj H
       obtain ⟨hcz38_0, hcz38_1, hfz38_0, hfz38_1⟩ := cf2 BK146
       have p147 : 0 ≤ (x3_1 : Int) := of_decide_eq_true (mA)
       have q147 : x3_1 < (l0_0.length : Int) := of_decide_eq_true (mA)
       obtain ⟨ad147, e147, hx147_0, hx147_1, hx147_2, hx147_3⟩ := at_T87 HR0_0.out x3_1 p147 q147
       cases e147
       replace hx147_0 := (HB.out.cell (World.block_lt_of_cell? w _ hx147_0)).trans hx147_0
       replace hx147_1 := (HB.out.cell (World.block_lt_of_cell? w _ hx147_1)).trans hx147_1
       replace hx147_2 := (HB.out.cell (World.block_lt_of_cell? w _ hx147_2)).trans hx147_2
       replace hx147_3 := (HB.out.cell (World.block_lt_of_cell? w _ hx147_3)).trans hx147_3
       replace p147 := eq_true p147
       replace q147 := eq_true q147
       go_wp2_with (first | ((with_reducible refine gate_dst (N := 4) rfl ?_); refine bev (N := 4) (cs := #[.bool false, .int .i64 0, .int .i64 0, .int .i64 0]) (t := 87) (h := ?_); intro gb148 hg w39 hbox hb; have BK148 := K1 (hbox); have GW148 := K1 (mG : w.heap.size ≤ gb148); have GE148 := K1 (mG : w.heap.size ≤ gb148); have NB146_148 := K1 (nlt hg (mU BK146.out)); have NB148_146 := K1 (ngt hg (mU BK146.out)); replace BK146 := K1 (blk_below (mU BK146.out) hb); replace HB := K1 (below_step mB hb); clear hb hbox hg; have hnb40 := NB148_146.out; have hnc40 := NB146_148.out; obtain ⟨hcz41_0, hcz41_1, hcz41_2, hcz41_3, hfz41_0, hfz41_1, hfz41_2, hfz41_3⟩ := cf4 BK148) | ((with_reducible refine gate_callee (f := 62) rfl ?_); refine goesL_ (some 23) rfl rfl Try.func62 (by kernel_rfl) rfl #[.int .i64 ((rd_T87 l0_0 x3_1).f1)] rfl mL ?_; (with_reducible refine (rotaref08_register.calls ((rd_T87 l0_0 x3_1).f1) false _ A9.out).mono ?_); rintro e w' ⟨rfl, ⟨nd, rfl⟩⟩; refine ⟨_, rfl, ?_⟩))
       go_ret
       exact ⟨mE, mB⟩
     ·rw [if_neg c8] at H
      exact absurd H (by simp)
    ·rw [if_neg c7] at H
     have c7b0 : decide (x3_1 < (l0_0.length : Int)) = false := decide_eq_false c7
     clear c7
     obtain rfl := Option.some.inj H
     obtain ⟨hcz42_0, hcz42_1, hfz42_0, hfz42_1⟩ := cf2 BK146
     go_wp2
     go_ret
     exact ⟨mE, mB⟩

end Go.Proofs.Ytdlikjfffdpmiaa.QProper

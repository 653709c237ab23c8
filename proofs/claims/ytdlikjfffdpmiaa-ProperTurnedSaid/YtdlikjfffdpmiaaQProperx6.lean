/- Printed: a function's machine side. Conditions: none. -/
import Derived.Test.YtdlikjfffdpmiaaQProperx0
import Derived.Test.YtdlikjfffdpmiaaQProperx100
namespace Go.Proofs.Ytdlikjfffdpmiaa.QProper
open Go.RowKit Go.Proofs.YtdlikjfffdpmiaaW.PrintWords Go.Proofs.YtdlikjfffdpmiaaW.PrintLast Go.Proofs.YtdlikjfffdpmiaaW.PrintMore
set_option linter.unusedVariables false
set_option linter.unusedSimpArgs false

attribute [local go_sem high] eqA48
/-! ### word_fits: function 72 -/
mutual
def word_fits.j2 : Nat → Int → Int → Int → Int → Int → Int → Int → Int → Int → Int → Int → Option (Bool)
 | 0, _, _, _, _, _, _, _, _, _, _, _ => none
 | k + 1, x1, x105000, x105001, x105002, x105003, x105004, x106000, x106001, x106002, x106003, x106004 => if x1 = 6 then (if (x105000 == x106000 && (x105001 == x106001 && (x105002 == x106002 && (x105003 == x106003 && (x105004 == x106004))))) = true then ((word_register.f x105001).bind fun t109 => (if t109 = true then (if x105004 ≥ (-32768) then (some (decide (x105004 < 32768))) else (some false)) else (some false))) else (some false)) else (if (x105000 == x106000 && (x105001 == x106001 && (x105002 == x106002 && (x105003 == x106003 && (x105004 == x106004))))) = true then ((word_register.f x105001).bind fun t110 => (if t110 = true then (if x105004 ≥ 0 then (some (decide (x105004 < 65536))) else (some false)) else (some false))) else (some false))
def word_fits.j0 : Nat → Int → Int → Bool → Int → Int → Int → Int → Int → Int → Int → Int → Int → Int → Option (Bool)
 | 0, _, _, _, _, _, _, _, _, _, _, _, _, _ => none
 | k + 1, x1, x9, x21, x105000, x105001, x105002, x105003, x105004, x106000, x106001, x106002, x106003, x106004 => if x21 = true then (if x1 < 2 then (if x105002 = 0 then (if x1 < 3 then (word_fits.j1 k (x105003 != 0) x105000 x105001 x105002 x105003 x105004) else (word_fits.j1 k false x105000 x105001 x105002 x105003 x105004)) else (word_fits.j1 k true x105000 x105001 x105002 x105003 x105004)) else (if x1 < 3 then (word_fits.j1 k (x105003 != 0) x105000 x105001 x105002 x105003 x105004) else (word_fits.j1 k false x105000 x105001 x105002 x105003 x105004))) else (if x9 = 4 then (word_fits.j2 k x1 x105000 x105001 x105002 x105003 x105004 x106000 x106001 x106002 x106003 x105004) else (word_fits.j2 k x1 x105000 x105001 x105002 x105003 x105004 x106000 x105001 x106002 x106003 x105004))
def word_fits.j1 : Nat → Bool → Int → Int → Int → Int → Int → Option (Bool)
 | 0, _, _, _, _, _, _ => none
 | k + 1, x40, x105000, x105001, x105002, x105003, x105004 => if x40 = true then (some false) else ((word_register.f x105001).bind fun t106 => (if t106 = true then ((word_register.f x105002).bind fun t107 => (if t107 = true then ((word_register.f x105003).bind fun t108 => (if t108 = true then (some (x105004 == 0)) else (some false))) else (some false))) else (some false)))
end
def word_fits.f (k : Nat) (a0_0 : Int) (a0_1 : Int) (a0_2 : Int) (a0_3 : Int) (a0_4 : Int) (a1 : Int) : Option (Bool) := if a1 = 0 then (some (a0_1 == 0 && (a0_2 == 0 && (a0_3 == 0 && (a0_4 == 0))))) else (if a1 = 1 then (word_fits.j0 k a1 a1 (a1 == 1) a0_0 a0_1 a0_2 a0_3 a0_4 a0_0 0 0 0 0) else (if a1 = 2 then (word_fits.j0 k a1 a1 (a1 == 2) a0_0 a0_1 a0_2 a0_3 a0_4 a0_0 0 0 0 0) else (word_fits.j0 k a1 a1 (a1 == 3) a0_0 a0_1 a0_2 a0_3 a0_4 a0_0 0 0 0 0)))
theorem word_fits.mono_l : ∀ k, (∀ y0 y1 y2 y3 y4 y5 y6 y7 y8 y9 y10, LeO (word_fits.j2 k y0 y1 y2 y3 y4 y5 y6 y7 y8 y9 y10) (word_fits.j2 (k + 1) y0 y1 y2 y3 y4 y5 y6 y7 y8 y9 y10)) ∧ (∀ y0 y1 y2 y3 y4 y5 y6 y7 y8 y9 y10 y11 y12, LeO (word_fits.j0 k y0 y1 y2 y3 y4 y5 y6 y7 y8 y9 y10 y11 y12) (word_fits.j0 (k + 1) y0 y1 y2 y3 y4 y5 y6 y7 y8 y9 y10 y11 y12)) ∧ (∀ y0 y1 y2 y3 y4 y5, LeO (word_fits.j1 k y0 y1 y2 y3 y4 y5) (word_fits.j1 (k + 1) y0 y1 y2 y3 y4 y5))
 | 0 => ⟨fun _ _ _ _ _ _ _ _ _ _ _ r h => by simp [word_fits.j2] at h, fun _ _ _ _ _ _ _ _ _ _ _ _ _ r h => by simp [word_fits.j0] at h, fun _ _ _ _ _ _ r h => by simp [word_fits.j1] at h⟩
 | k + 1 => by
  obtain ⟨ih0, ih1, ih2⟩ := word_fits.mono_l k
  refine ⟨?_, ?_, ?_⟩
  ·intro y0 y1 y2 y3 y4 y5 y6 y7 y8 y9 y10
   unfold word_fits.j2
   repeat' first
   | (with_reducible exact ih0 _ _ _ _ _ _ _ _ _ _ _)
   | (with_reducible exact ih1 _ _ _ _ _ _ _ _ _ _ _ _ _)
   | (with_reducible exact ih2 _ _ _ _ _ _)
   | (with_reducible exact LeO.refl _)
   | (with_reducible exact LeO.none _)
   | (with_reducible refine LeO.ite ?_ ?_)
   | (with_reducible refine LeO.bind ?_ (fun _ => ?_))
   | exact ih0 _ _ _ _ _ _ _ _ _ _ _
   | exact ih1 _ _ _ _ _ _ _ _ _ _ _ _ _
   | exact ih2 _ _ _ _ _ _
   | exact LeO.none _
   | refine LeO.ite ?_ ?_
   | refine LeO.bind ?_ (fun _ => ?_)
  ·intro y0 y1 y2 y3 y4 y5 y6 y7 y8 y9 y10 y11 y12
   unfold word_fits.j0
   repeat' first
   | (with_reducible exact ih0 _ _ _ _ _ _ _ _ _ _ _)
   | (with_reducible exact ih1 _ _ _ _ _ _ _ _ _ _ _ _ _)
   | (with_reducible exact ih2 _ _ _ _ _ _)
   | (with_reducible exact LeO.refl _)
   | (with_reducible exact LeO.none _)
   | (with_reducible refine LeO.ite ?_ ?_)
   | (with_reducible refine LeO.bind ?_ (fun _ => ?_))
   | exact ih0 _ _ _ _ _ _ _ _ _ _ _
   | exact ih1 _ _ _ _ _ _ _ _ _ _ _ _ _
   | exact ih2 _ _ _ _ _ _
   | exact LeO.none _
   | refine LeO.ite ?_ ?_
   | refine LeO.bind ?_ (fun _ => ?_)
  ·intro y0 y1 y2 y3 y4 y5
   unfold word_fits.j1
   repeat' first
   | (with_reducible exact ih0 _ _ _ _ _ _ _ _ _ _ _)
   | (with_reducible exact ih1 _ _ _ _ _ _ _ _ _ _ _ _ _)
   | (with_reducible exact ih2 _ _ _ _ _ _)
   | (with_reducible exact LeO.refl _)
   | (with_reducible exact LeO.none _)
   | (with_reducible refine LeO.ite ?_ ?_)
   | (with_reducible refine LeO.bind ?_ (fun _ => ?_))
   | exact ih0 _ _ _ _ _ _ _ _ _ _ _
   | exact ih1 _ _ _ _ _ _ _ _ _ _ _ _ _
   | exact ih2 _ _ _ _ _ _
   | exact LeO.none _
   | refine LeO.ite ?_ ?_
   | refine LeO.bind ?_ (fun _ => ?_)
theorem word_fits.mono : ∀ a0 a1 a2 a3 a4 a5 k, LeO (word_fits.f k a0 a1 a2 a3 a4 a5) (word_fits.f (k + 1) a0 a1 a2 a3 a4 a5) := by
 intro a0 a1 a2 a3 a4 a5 k
 obtain ⟨ih0, ih1, ih2⟩ := word_fits.mono_l k
 unfold word_fits.f
 repeat' first
   | (with_reducible exact ih0 _ _ _ _ _ _ _ _ _ _ _)
   | (with_reducible exact ih1 _ _ _ _ _ _ _ _ _ _ _ _ _)
   | (with_reducible exact ih2 _ _ _ _ _ _)
   | (with_reducible exact LeO.refl _)
   | (with_reducible exact LeO.none _)
   | (with_reducible refine LeO.ite ?_ ?_)
   | (with_reducible refine LeO.bind ?_ (fun _ => ?_))
   | exact ih0 _ _ _ _ _ _ _ _ _ _ _
   | exact ih1 _ _ _ _ _ _ _ _ _ _ _ _ _
   | exact ih2 _ _ _ _ _ _
   | exact LeO.none _
   | refine LeO.ite ?_ ?_
   | refine LeO.bind ?_ (fun _ => ?_)
def word_fits.T3 : Bool × List (List Nat × List Nat) := (true, [([], []), ([0], [0]), ([], []), ([2], [2]), ([0, 1], []), ([4, 1, 0, 1], [1, 4]), ([0, 1, 2, 3, 4, 5], []), ([6, 3, 5, 0, 1, 2, 3, 4, 5], [3, 6])])
def word_fits.B3 : List Nat := [0, 1, 0, 4, 3, 19, 63, 127]
theorem word_fits.tab3 : rtab .any (opsOf Try.f72 3) = word_fits.T3 := by kernel_rfl
theorem word_fits.bits3 : waitsOk word_fits.T3.2 word_fits.B3 = true := by kernel_rfl
set_option maxHeartbeats 8000000 in
set_option maxRecDepth 100000 in
theorem word_fits.calls (k : Nat) (a0_0 : Int) (a0_1 : Int) (a0_2 : Int) (a0_3 : Int) (a0_4 : Int) (a1 : Int) (r : Bool) (w : World) (h : word_fits.f k a0_0 a0_1 a0_2 a0_3 a0_4 a1 = some r) :
  Calls Try.prog 72 #[.agg #[.int .i64 a0_0, .int .i64 a0_1, .int .i64 a0_2, .int .i64 a0_3, .int .i64 a0_4], .int .i64 a1] w fun e w' => e = .returned (.bool r) ∧ Below w.heap.size w w' := by
 have hu48 := Try.underlying48
 have HB := K1 (Below.refl w.heap.size w)
 have H : (if a1 = 0 then (some (a0_1 == 0 && (a0_2 == 0 && (a0_3 == 0 && (a0_4 == 0))))) else (if a1 = 1 then (word_fits.j0 k a1 a1 (a1 == 1) a0_0 a0_1 a0_2 a0_3 a0_4 a0_0 0 0 0 0) else (if a1 = 2 then (word_fits.j0 k a1 a1 (a1 == 2) a0_0 a0_1 a0_2 a0_3 a0_4 a0_0 0 0 0 0) else (word_fits.j0 k a1 a1 (a1 == 3) a0_0 a0_1 a0_2 a0_3 a0_4 a0_0 0 0 0 0)))) = some r := h
 clear h
 have HC3 := K1 H
 clear H
 go_enter Try.func72, Try.ntmps72
 go_upto_block 0 with (first | ((with_reducible refine gate_dst (N := 2) rfl ?_); refine bev (N := 2) (cs := #[.int .i64 a0_0, .int .i64 a0_1, .int .i64 a0_2, .int .i64 a0_3, .int .i64 a0_4]) (t := 48) (h := ?_); intro gb104 hg w4 hbox hb; have BK104 := K1 (hbox); have GW104 := K1 (mG : w.heap.size ≤ gb104); have GE104 := K1 (mG : w.heap.size ≤ gb104); replace HB := K1 (below_step mB hb); clear hb hbox hg; obtain ⟨hcz5_0, hcz5_1, hcz5_2, hcz5_3, hcz5_4, hfz5_0, hfz5_1, hfz5_2, hfz5_3, hfz5_4⟩ := cf5 BK104) | ((with_reducible refine gate_dst (N := 5) rfl ?_); refine bev (N := 5) (cs := #[.int .i64 0, .int .i64 0, .int .i64 0, .int .i64 0, .int .i64 0]) (t := 48) (h := ?_); intro gb105 hg w6 hbox hb; have BK105 := K1 (hbox); have GW105 := K1 (mG : w.heap.size ≤ gb105); have GE105 := K1 (mG : w.heap.size ≤ gb105); have NB104_105 := K1 (nlt hg (mU BK104.out)); have NB105_104 := K1 (ngt hg (mU BK104.out)); replace BK104 := K1 (blk_below (mU BK104.out) hb); replace HB := K1 (below_step mB hb); clear hb hbox hg; have hnb7 := NB105_104.out; have hnc7 := NB104_105.out; obtain ⟨hcz8_0, hcz8_1, hcz8_2, hcz8_3, hcz8_4, hfz8_0, hfz8_1, hfz8_2, hfz8_3, hfz8_4⟩ := cf5 BK105))
 (try simp only [Act.put, List.setIfInBounds_toArray, List.set_cons_zero, List.set_cons_succ])
 go_cut [] (fun wc => ∃ (kq : Nat) (x106001_2 : Int) (x106004_2 : Int), Aside0 (word_fits.j2 kq a1 a0_0 a0_1 a0_2 a0_3 a0_4 a0_0 x106001_2 0 0 x106004_2 = some r) ∧ Aside0 (kq ≤ k) ∧ Aside0 (wc.heap[gb104]? = some (.cells #[.int .i64 a0_0, .int .i64 a0_1, .int .i64 a0_2, .int .i64 a0_3, .int .i64 a0_4] 48 (0, 0))) ∧ Aside0 (wc.heap[gb105]? = some (.cells #[.int .i64 a0_0, .int .i64 x106001_2, .int .i64 0, .int .i64 0, .int .i64 x106004_2] 48 (0, 0))) ∧ Aside0 (Below w.heap.size w wc))
 case first =>
  have H := HC3.out
  clear HC3
  by_cases c9 : a1 = 0
  ·rw [if_pos c9] at H
   have c9b0 : (a1 == 0) = true := beq_iff_eq.mpr c9
   have c9b1 : (a1 != 0) = false := bne_eq_false_iff_eq.mpr c9
   clear c9
   (first | rw [c9b0] | (simp only [i64_w, i32_w]; rw [c9b0]) | skip)
   obtain rfl := Option.some.inj H
   have hnb10 := NB104_105.out
   have hnc10 := NB105_104.out
   obtain ⟨hcz11_0, hcz11_1, hcz11_2, hcz11_3, hcz11_4, hfz11_0, hfz11_1, hfz11_2, hfz11_3, hfz11_4⟩ := cf5 BK104
   obtain ⟨hcz12_0, hcz12_1, hcz12_2, hcz12_3, hcz12_4, hfz12_0, hfz12_1, hfz12_2, hfz12_3, hfz12_4⟩ := cf5 BK105
   go_wp2
   go_ret
   exact ⟨mE, mB⟩
  ·rw [if_neg c9] at H
   have c9b0 : (a1 == 0) = false := beq_eq_false_iff_ne.mpr c9
   have c9b1 : (a1 != 0) = true := bne_iff_ne.mpr c9
   (first | rw [c9b0] | (simp only [i64_w, i32_w]; rw [c9b0]) | skip)
   have HC13 := K1 H
   clear H
   go_upto_if 21 with (fail)
   go_cut [21] (fun v21 wc => ∃ (kq : Nat) (x21_12 : Bool), v21 = .bool x21_12 ∧ Aside0 (word_fits.j0 kq a1 a1 x21_12 a0_0 a0_1 a0_2 a0_3 a0_4 a0_0 0 0 0 0 = some r) ∧ Aside0 (kq ≤ k) ∧ Aside0 (wc.heap[gb104]? = some (.cells #[.int .i64 a0_0, .int .i64 a0_1, .int .i64 a0_2, .int .i64 a0_3, .int .i64 a0_4] 48 (0, 0))) ∧ Aside0 (wc.heap[gb105]? = some (.cells #[.int .i64 a0_0, .int .i64 0, .int .i64 0, .int .i64 0, .int .i64 0] 48 (0, 0))) ∧ Aside0 (Below w.heap.size w wc))
   case first =>
    have H := HC13.out
    clear HC13
    by_cases c14 : a1 = 1
    ·rw [if_pos c14] at H
     have c14b0 : (a1 == 1) = true := beq_iff_eq.mpr c14
     have c14b1 : (a1 != 1) = false := bne_eq_false_iff_eq.mpr c14
     clear c14
     (first | rw [c14b0] | (simp only [i64_w, i32_w]; rw [c14b0]) | skip)
     have H' := K1 H
     clear H
     go_wp2
     go_meet
     case rel => exact ⟨_, ((a1 == 1)), (mF), H', ⟨by first | omega | exact Nat.le_refl _⟩, ⟨by refine mU ?_; refine blk_far ?_ NB104_105.out _; refine mU ?_; refine blk_far ?_ NB104_105.out _; refine mU ?_; refine blk_far ?_ NB104_105.out _; refine mU ?_; refine blk_far ?_ NB104_105.out _; refine mU ?_; refine blk_far ?_ NB104_105.out _; refine mU ?_; exact BK104.out⟩, ⟨by refine mU ?_; refine blk_put (cs := #[.int .i64 a0_0, .int .i64 0, .int .i64 0, .int .i64 0, .int .i64 0]) ?_ 4 _ rfl; refine mU ?_; refine blk_put (cs := #[.int .i64 a0_0, .int .i64 0, .int .i64 0, .int .i64 0, .int .i64 0]) ?_ 3 _ rfl; refine mU ?_; refine blk_put (cs := #[.int .i64 a0_0, .int .i64 0, .int .i64 0, .int .i64 0, .int .i64 0]) ?_ 2 _ rfl; refine mU ?_; refine blk_put (cs := #[.int .i64 a0_0, .int .i64 0, .int .i64 0, .int .i64 0, .int .i64 0]) ?_ 1 _ rfl; refine mU ?_; refine blk_put (cs := #[.int .i64 0, .int .i64 0, .int .i64 0, .int .i64 0, .int .i64 0]) ?_ 0 _ rfl; refine mU ?_; exact BK105.out⟩, ⟨mB⟩⟩
    ·rw [if_neg c14] at H
     have c14b0 : (a1 == 1) = false := beq_eq_false_iff_ne.mpr c14
     have c14b1 : (a1 != 1) = true := bne_iff_ne.mpr c14
     (first | rw [c14b0] | (simp only [i64_w, i32_w]; rw [c14b0]) | skip)
     by_cases c15 : a1 = 2
     ·rw [if_pos c15] at H
      have c15b0 : (a1 == 2) = true := beq_iff_eq.mpr c15
      have c15b1 : (a1 != 2) = false := bne_eq_false_iff_eq.mpr c15
      clear c15
      have H' := K1 H
      clear H
      go_wp2
      go_meet
      case rel => exact ⟨_, ((a1 == 2)), (mF), H', ⟨by first | omega | exact Nat.le_refl _⟩, ⟨by refine mU ?_; refine blk_far ?_ NB104_105.out _; refine mU ?_; refine blk_far ?_ NB104_105.out _; refine mU ?_; refine blk_far ?_ NB104_105.out _; refine mU ?_; refine blk_far ?_ NB104_105.out _; refine mU ?_; refine blk_far ?_ NB104_105.out _; refine mU ?_; exact BK104.out⟩, ⟨by refine mU ?_; refine blk_put (cs := #[.int .i64 a0_0, .int .i64 0, .int .i64 0, .int .i64 0, .int .i64 0]) ?_ 4 _ rfl; refine mU ?_; refine blk_put (cs := #[.int .i64 a0_0, .int .i64 0, .int .i64 0, .int .i64 0, .int .i64 0]) ?_ 3 _ rfl; refine mU ?_; refine blk_put (cs := #[.int .i64 a0_0, .int .i64 0, .int .i64 0, .int .i64 0, .int .i64 0]) ?_ 2 _ rfl; refine mU ?_; refine blk_put (cs := #[.int .i64 a0_0, .int .i64 0, .int .i64 0, .int .i64 0, .int .i64 0]) ?_ 1 _ rfl; refine mU ?_; refine blk_put (cs := #[.int .i64 0, .int .i64 0, .int .i64 0, .int .i64 0, .int .i64 0]) ?_ 0 _ rfl; refine mU ?_; exact BK105.out⟩, ⟨mB⟩⟩
     ·rw [if_neg c15] at H
      have c15b0 : (a1 == 2) = false := beq_eq_false_iff_ne.mpr c15
      have c15b1 : (a1 != 2) = true := bne_iff_ne.mpr c15
      have H' := K1 H
      clear H
      go_wp2
      go_meet
      case rel => exact ⟨_, ((a1 == 3)), (mF), H', ⟨by first | omega | exact Nat.le_refl _⟩, ⟨by refine mU ?_; refine blk_far ?_ NB104_105.out _; refine mU ?_; refine blk_far ?_ NB104_105.out _; refine mU ?_; refine blk_far ?_ NB104_105.out _; refine mU ?_; refine blk_far ?_ NB104_105.out _; refine mU ?_; refine blk_far ?_ NB104_105.out _; refine mU ?_; exact BK104.out⟩, ⟨by refine mU ?_; refine blk_put (cs := #[.int .i64 a0_0, .int .i64 0, .int .i64 0, .int .i64 0, .int .i64 0]) ?_ 4 _ rfl; refine mU ?_; refine blk_put (cs := #[.int .i64 a0_0, .int .i64 0, .int .i64 0, .int .i64 0, .int .i64 0]) ?_ 3 _ rfl; refine mU ?_; refine blk_put (cs := #[.int .i64 a0_0, .int .i64 0, .int .i64 0, .int .i64 0, .int .i64 0]) ?_ 2 _ rfl; refine mU ?_; refine blk_put (cs := #[.int .i64 a0_0, .int .i64 0, .int .i64 0, .int .i64 0, .int .i64 0]) ?_ 1 _ rfl; refine mU ?_; refine blk_put (cs := #[.int .i64 0, .int .i64 0, .int .i64 0, .int .i64 0, .int .i64 0]) ?_ 0 _ rfl; refine mU ?_; exact BK105.out⟩, ⟨mB⟩⟩
   case rest =>
    clear HC13 c9 c9b0 c9b1 hcz5_0 hcz5_1 hcz5_2 hcz5_3 hcz5_4 hcz8_0 hcz8_1 hcz8_2 hcz8_3 hcz8_4 hfz5_0 hfz5_1 hfz5_2 hfz5_3 hfz5_4 hfz8_0 hfz8_1 hfz8_2 hfz8_3 hfz8_4
    obtain ⟨kq, x21_12, rfl, HA, HJ12, BK104, BK105, HB⟩ := hcut
    cases kq with
    | zero => exact absurd HA.out (by simp [word_fits.j0])
    | succ kj12 =>
     have H := HA.out
     clear HA
     simp only [word_fits.j0] at H
     by_cases c16 : x21_12 = true
     ·subst c16
      have H1 : (if a1 < 2 then (if a0_2 = 0 then (if a1 < 3 then (word_fits.j1 kj12 (a0_3 != 0) a0_0 a0_1 a0_2 a0_3 a0_4) else (word_fits.j1 kj12 false a0_0 a0_1 a0_2 a0_3 a0_4)) else (word_fits.j1 kj12 true a0_0 a0_1 a0_2 a0_3 a0_4)) else (if a1 < 3 then (word_fits.j1 kj12 (a0_3 != 0) a0_0 a0_1 a0_2 a0_3 a0_4) else (word_fits.j1 kj12 false a0_0 a0_1 a0_2 a0_3 a0_4))) = some r := by rw [if_pos rfl] at H; exact H
      clear H
      have H := H1
      clear H1
      have HC17 := K1 H
      clear H
      go_upto_region 9 with (fail)
      go_cut [40] (fun v40 wc => ∃ (kq : Nat) (x40_16 : Bool), v40 = .bool x40_16 ∧ Aside0 (word_fits.j1 kq x40_16 a0_0 a0_1 a0_2 a0_3 a0_4 = some r) ∧ Aside0 (kq ≤ kj12) ∧ Aside0 (wc.heap[gb104]? = some (.cells #[.int .i64 a0_0, .int .i64 a0_1, .int .i64 a0_2, .int .i64 a0_3, .int .i64 a0_4] 48 (0, 0))) ∧ Aside0 (wc.heap[gb105]? = some (.cells #[.int .i64 a0_0, .int .i64 0, .int .i64 0, .int .i64 0, .int .i64 0] 48 (0, 0))) ∧ Aside0 (Below w.heap.size w wc))
      case first =>
       have H := HC17.out
       clear HC17
       by_cases c18 : a1 < 2
       ·rw [if_pos c18] at H
        have c18b0 : decide (a1 < 2) = true := decide_eq_true c18
        clear c18
        (first | rw [c18b0] | (simp only [i64_w, i32_w]; rw [c18b0]) | skip)
        by_cases c19 : a0_2 = 0
        ·rw [if_pos c19] at H
         have c19b0 : (a0_2 == 0) = true := beq_iff_eq.mpr c19
         have c19b1 : (a0_2 != 0) = false := bne_eq_false_iff_eq.mpr c19
         clear c19
         by_cases c20 : a1 < 3
         ·rw [if_pos c20] at H
          have c20b0 : decide (a1 < 3) = true := decide_eq_true c20
          clear c20
          have H' := K1 H
          clear H
          have hnb21 := NB104_105.out
          have hnc21 := NB105_104.out
          obtain ⟨hcz22_0, hcz22_1, hcz22_2, hcz22_3, hcz22_4, hfz22_0, hfz22_1, hfz22_2, hfz22_3, hfz22_4⟩ := cf5 BK104
          go_wp2
          go_meet
          case rel => exact ⟨_, ((a0_3 != 0)), (mF), H', ⟨by have := HJ12.out; first | omega | exact Nat.le_refl _⟩, ⟨mU BK104.out⟩, ⟨mU BK105.out⟩, ⟨mB⟩⟩
         ·rw [if_neg c20] at H
          have c20b0 : decide (a1 < 3) = false := decide_eq_false c20
          clear c20
          have H' := K1 H
          clear H
          have hnb23 := NB104_105.out
          have hnc23 := NB105_104.out
          obtain ⟨hcz24_0, hcz24_1, hcz24_2, hcz24_3, hcz24_4, hfz24_0, hfz24_1, hfz24_2, hfz24_3, hfz24_4⟩ := cf5 BK104
          go_wp2
          go_meet
          case rel => exact ⟨_, (false), (mF), H', ⟨by have := HJ12.out; first | omega | exact Nat.le_refl _⟩, ⟨mU BK104.out⟩, ⟨mU BK105.out⟩, ⟨mB⟩⟩
        ·rw [if_neg c19] at H
         have c19b0 : (a0_2 == 0) = false := beq_eq_false_iff_ne.mpr c19
         have c19b1 : (a0_2 != 0) = true := bne_iff_ne.mpr c19
         have H' := K1 H
         clear H
         have hnb25 := NB104_105.out
         have hnc25 := NB105_104.out
         obtain ⟨hcz26_0, hcz26_1, hcz26_2, hcz26_3, hcz26_4, hfz26_0, hfz26_1, hfz26_2, hfz26_3, hfz26_4⟩ := cf5 BK104
         go_wp2
         go_meet
         case rel => exact ⟨_, (true), (mF), H', ⟨by have := HJ12.out; first | omega | exact Nat.le_refl _⟩, ⟨mU BK104.out⟩, ⟨mU BK105.out⟩, ⟨mB⟩⟩
       ·rw [if_neg c18] at H
        have c18b0 : decide (a1 < 2) = false := decide_eq_false c18
        clear c18
        (first | rw [c18b0] | (simp only [i64_w, i32_w]; rw [c18b0]) | skip)
        by_cases c27 : a1 < 3
        ·rw [if_pos c27] at H
         have c27b0 : decide (a1 < 3) = true := decide_eq_true c27
         clear c27
         have H' := K1 H
         clear H
         have hnb28 := NB104_105.out
         have hnc28 := NB105_104.out
         obtain ⟨hcz29_0, hcz29_1, hcz29_2, hcz29_3, hcz29_4, hfz29_0, hfz29_1, hfz29_2, hfz29_3, hfz29_4⟩ := cf5 BK104
         go_wp2
         go_meet
         case rel => exact ⟨_, ((a0_3 != 0)), (mF), H', ⟨by have := HJ12.out; first | omega | exact Nat.le_refl _⟩, ⟨mU BK104.out⟩, ⟨mU BK105.out⟩, ⟨mB⟩⟩
        ·rw [if_neg c27] at H
         have c27b0 : decide (a1 < 3) = false := decide_eq_false c27
         clear c27
         have H' := K1 H
         clear H
         go_wp2
         go_meet
         case rel => exact ⟨_, (false), (mF), H', ⟨by have := HJ12.out; first | omega | exact Nat.le_refl _⟩, ⟨mU BK104.out⟩, ⟨mU BK105.out⟩, ⟨mB⟩⟩
      case rest =>
       clear HC17
       obtain ⟨kq, x40_16, rfl, HA, HJ16, BK104, BK105, HB⟩ := hcut
       cases kq with
       | zero => exact absurd HA.out (by simp [word_fits.j1])
       | succ kj16 =>
        have H := HA.out
        clear HA
        simp only [word_fits.j1] at H
        by_cases c30 : x40_16 = true
        ·subst c30
         have H1 : (some false) = some r := by rw [if_pos rfl] at H; exact H
         clear H
         have H := H1
         clear H1
         obtain rfl := Option.some.inj H
         go_wp2
         go_ret
         exact ⟨mE, mB⟩
        ·replace c30 := Bool.eq_false_iff.mpr c30
         subst c30
         have H1 : ((word_register.f a0_1).bind fun t106 => (if t106 = true then ((word_register.f a0_2).bind fun t107 => (if t107 = true then ((word_register.f a0_3).bind fun t108 => (if t108 = true then (some (a0_4 == 0)) else (some false))) else (some false))) else (some false))) = some r := by rw [if_neg (show ¬ (false = true) by decide)] at H; exact H
         clear H
         have H := H1
         clear H1
         replace H := Option.bind_eq_some_iff.mp H
         obtain ⟨t106, A310, H⟩ := H
         replace H : (if t106 = true then ((word_register.f a0_2).bind fun t107 => (if t107 = true then ((word_register.f a0_3).bind fun t108 => (if t108 = true then (some (a0_4 == 0)) else (some false))) else (some false))) else (some false)) = some r := H
         have A31 := K1 A310
         clear A310
         by_cases c32 : t106 = true
         ·subst c32
          have H1 : ((word_register.f a0_2).bind fun t107 => (if t107 = true then ((word_register.f a0_3).bind fun t108 => (if t108 = true then (some (a0_4 == 0)) else (some false))) else (some false))) = some r := by rw [if_pos rfl] at H; exact H
          clear H
          have H := H1
          clear H1
          replace H := Option.bind_eq_some_iff.mp H
          obtain ⟨t107, A330, H⟩ := H
          replace H : (if t107 = true then ((word_register.f a0_3).bind fun t108 => (if t108 = true then (some (a0_4 == 0)) else (some false))) else (some false)) = some r := H
          have A33 := K1 A330
          clear A330
          by_cases c34 : t107 = true
          ·subst c34
           have H1 : ((word_register.f a0_3).bind fun t108 => (if t108 = true then (some (a0_4 == 0)) else (some false))) = some r := by rw [if_pos rfl] at H; exact H
           clear H
           have H := H1
           clear H1
           replace H := Option.bind_eq_some_iff.mp H
           obtain ⟨t108, A350, H⟩ := H
           replace H : (if t108 = true then (some (a0_4 == 0)) else (some false)) = some r := H
           have A35 := K1 A350
           clear A350
           by_cases c36 : t108 = true
           ·subst c36
            have H1 : (some (a0_4 == 0)) = some r := by rw [if_pos rfl] at H; exact H
            clear H
            have H := H1
            clear H1
            obtain rfl := Option.some.inj H
            have hnb37 := NB104_105.out
            have hnc37 := NB105_104.out
            obtain ⟨hcz38_0, hcz38_1, hcz38_2, hcz38_3, hcz38_4, hfz38_0, hfz38_1, hfz38_2, hfz38_3, hfz38_4⟩ := cf5 BK104
            go_wp2_with (first | ((with_reducible refine gate_callee (f := 85) rfl ?_); refine goesL_ (some 43) rfl rfl Try.func85 (by kernel_rfl) rfl #[.int .i64 a0_1] rfl mL ?_; (with_reducible refine (word_register.calls a0_1 true _ A31.out).mono ?_); rintro e w' ⟨rfl, ⟨nd, rfl⟩⟩; refine ⟨_, rfl, ?_⟩) | (go_at_call 85; (with_reducible refine (word_register.calls a0_2 true _ A33.out).mono ?_); rintro e w' ⟨rfl, ⟨nd, rfl⟩⟩) | (go_at_call 85; (with_reducible refine (word_register.calls a0_3 true _ A35.out).mono ?_); rintro e w' ⟨rfl, ⟨nd, rfl⟩⟩))
            go_ret
            exact ⟨mE, mB⟩
           ·replace c36 := Bool.eq_false_iff.mpr c36
            subst c36
            have H1 : (some false) = some r := by rw [if_neg (show ¬ (false = true) by decide)] at H; exact H
            clear H
            have H := H1
            clear H1
            obtain rfl := Option.some.inj H
            have hnb39 := NB104_105.out
            have hnc39 := NB105_104.out
            obtain ⟨hcz40_0, hcz40_1, hcz40_2, hcz40_3, hcz40_4, hfz40_0, hfz40_1, hfz40_2, hfz40_3, hfz40_4⟩ := cf5 BK104
            go_wp2_with (first | ((with_reducible refine gate_callee (f := 85) rfl ?_); refine goesL_ (some 43) rfl rfl Try.func85 (by kernel_rfl) rfl #[.int .i64 a0_1] rfl mL ?_; (with_reducible refine (word_register.calls a0_1 true _ A31.out).mono ?_); rintro e w' ⟨rfl, ⟨nd, rfl⟩⟩; refine ⟨_, rfl, ?_⟩) | (go_at_call 85; (with_reducible refine (word_register.calls a0_2 true _ A33.out).mono ?_); rintro e w' ⟨rfl, ⟨nd, rfl⟩⟩) | (go_at_call 85; (with_reducible refine (word_register.calls a0_3 false _ A35.out).mono ?_); rintro e w' ⟨rfl, ⟨nd, rfl⟩⟩))
            go_ret
            exact ⟨mE, mB⟩
          ·replace c34 := Bool.eq_false_iff.mpr c34
           subst c34
           have H1 : (some false) = some r := by rw [if_neg (show ¬ (false = true) by decide)] at H; exact H
           clear H
           have H := H1
           clear H1
           obtain rfl := Option.some.inj H
           have hnb41 := NB104_105.out
           have hnc41 := NB105_104.out
           obtain ⟨hcz42_0, hcz42_1, hcz42_2, hcz42_3, hcz42_4, hfz42_0, hfz42_1, hfz42_2, hfz42_3, hfz42_4⟩ := cf5 BK104
           go_wp2_with (first | ((with_reducible refine gate_callee (f := 85) rfl ?_); refine goesL_ (some 43) rfl rfl Try.func85 (by kernel_rfl) rfl #[.int .i64 a0_1] rfl mL ?_; (with_reducible refine (word_register.calls a0_1 true _ A31.out).mono ?_); rintro e w' ⟨rfl, ⟨nd, rfl⟩⟩; refine ⟨_, rfl, ?_⟩) | (go_at_call 85; (with_reducible refine (word_register.calls a0_2 false _ A33.out).mono ?_); rintro e w' ⟨rfl, ⟨nd, rfl⟩⟩))
           go_ret
           exact ⟨mE, mB⟩
         ·replace c32 := Bool.eq_false_iff.mpr c32
          subst c32
          have H1 : (some false) = some r := by rw [if_neg (show ¬ (false = true) by decide)] at H; exact H
          clear H
          have H := H1
          clear H1
          obtain rfl := Option.some.inj H
          have hnb43 := NB104_105.out
          have hnc43 := NB105_104.out
          obtain ⟨hcz44_0, hcz44_1, hcz44_2, hcz44_3, hcz44_4, hfz44_0, hfz44_1, hfz44_2, hfz44_3, hfz44_4⟩ := cf5 BK104
          go_wp2_with (first | ((with_reducible refine gate_callee (f := 85) rfl ?_); refine goesL_ (some 43) rfl rfl Try.func85 (by kernel_rfl) rfl #[.int .i64 a0_1] rfl mL ?_; (with_reducible refine (word_register.calls a0_1 false _ A31.out).mono ?_); rintro e w' ⟨rfl, ⟨nd, rfl⟩⟩; refine ⟨_, rfl, ?_⟩))
          go_ret
          exact ⟨mE, mB⟩
     ·replace c16 := Bool.eq_false_iff.mpr c16
      subst c16
      have H1 : (if a1 = 4 then (word_fits.j2 kj12 a1 a0_0 a0_1 a0_2 a0_3 a0_4 a0_0 0 0 0 a0_4) else (word_fits.j2 kj12 a1 a0_0 a0_1 a0_2 a0_3 a0_4 a0_0 a0_1 0 0 a0_4)) = some r := by rw [if_neg (show ¬ (false = true) by decide)] at H; exact H
      clear H
      have H := H1
      clear H1
      by_cases c45 : a1 = 4
      ·rw [if_pos c45] at H
       have c45b0 : (a1 == 4) = true := beq_iff_eq.mpr c45
       have c45b1 : (a1 != 4) = false := bne_eq_false_iff_eq.mpr c45
       clear c45
       have H' := K1 H
       clear H
       have hnb46 := NB104_105.out
       have hnc46 := NB105_104.out
       obtain ⟨hcz47_0, hcz47_1, hcz47_2, hcz47_3, hcz47_4, hfz47_0, hfz47_1, hfz47_2, hfz47_3, hfz47_4⟩ := cf5 BK104
       obtain ⟨hcz48_0, hcz48_1, hcz48_2, hcz48_3, hcz48_4, hfz48_0, hfz48_1, hfz48_2, hfz48_3, hfz48_4⟩ := cf5 BK105
       go_wp2
       go_meet
       case rel => exact ⟨_, (0), (a0_4), H', ⟨by have := HJ12.out; first | omega | exact Nat.le_refl _⟩, ⟨by refine mU ?_; refine blk_far ?_ NB104_105.out _; refine mU ?_; exact BK104.out⟩, ⟨by refine mU ?_; refine blk_put (cs := #[.int .i64 a0_0, .int .i64 0, .int .i64 0, .int .i64 0, .int .i64 0]) ?_ 4 _ rfl; refine mU ?_; exact BK105.out⟩, ⟨mB⟩⟩
      ·rw [if_neg c45] at H
       have c45b0 : (a1 == 4) = false := beq_eq_false_iff_ne.mpr c45
       have c45b1 : (a1 != 4) = true := bne_iff_ne.mpr c45
       have H' := K1 H
       clear H
       try go_wp2
       replace BK104 := K1 (bD BK104.out)
       replace BK105 := K1 (bD BK105.out)
       replace HB := K1 (below_drew1 HB.out)
       refine start_ (n := 8) (S := fun w' => w'.cell? ⟨gb104, 0, none⟩ = some (.int .i64 a0_0) ∧ w'.cell? ⟨gb104, 1, none⟩ = some (.int .i64 a0_1) ∧ w'.cell? ⟨gb104, 2, none⟩ = some (.int .i64 a0_2) ∧ w'.cell? ⟨gb104, 3, none⟩ = some (.int .i64 a0_3) ∧ w'.cell? ⟨gb104, 4, none⟩ = some (.int .i64 a0_4)) (ds := []) #[false, false, false, false, false, false, false, false] (by kernel_rfl) rfl rfl ⟨(blk_cell BK104.out 0).trans rfl, (blk_cell BK104.out 1).trans rfl, (blk_cell BK104.out 2).trans rfl, (blk_cell BK104.out 3).trans rfl, (blk_cell BK104.out 4).trans rfl⟩ (fun hHeld => ?_); refine with_tabW word_fits.tab3 word_fits.bits3 (fun HT_ HW_ => ?_)
       generalize wc.drew = w49 at BK104 BK105 HB hHeld ⊢
       refine pure_ (i := 0) (N := some 10) (v := ?_) (a' := ?_) #[true, false, false, false, false, false, false, false] rfl rfl (any_of HT_.out (by kernel_rfl)) (fun _ _ _ h => h) (Or.inl ⟨by rfl, ?_⟩) ?_ ?_
       rotate_left
       ·intro w'
        go_simp
        with_reducible rfl
       rotate_left
       ·simp only [Act.put, List.setIfInBounds_toArray, List.set_cons_zero, List.set_cons_succ, i64_w, i32_w]
        rfl
       refine pure_ (i := 2) (N := some 12) (v := ?_) (a' := ?_) #[true, false, true, false, false, false, false, false] rfl rfl (any_of HT_.out (by kernel_rfl)) (fun _ _ _ h => h) (Or.inl ⟨by rfl, ?_⟩) ?_ ?_
       rotate_left
       ·intro w'
        go_simp
        with_reducible rfl
       rotate_left
       ·simp only [Act.put, List.setIfInBounds_toArray, List.set_cons_zero, List.set_cons_succ, i64_w, i32_w]
        rfl
       refine take_ (i := 1) (N := some 11) (v := ?_) (a' := ?_) #[true, true, true, false, false, false, false, false] rfl rfl (take_ofW HT_.out HW_.out (by kernel_rfl)) (fun _ _ _ h => h) (Or.inl ⟨by rfl, ?_⟩) hHeld ?_ ?_
       rotate_left
       ·rintro w' ⟨s0, s1, s2, s3, s4⟩
        go_simp
        with_reducible rfl
       rotate_left
       ·simp only [Act.put, List.setIfInBounds_toArray, List.set_cons_zero, List.set_cons_succ, i64_w, i32_w]
        rfl
       refine pure_ (i := 4) (N := some 14) (v := ?_) (a' := ?_) #[true, true, true, false, true, false, false, false] rfl rfl (any_of HT_.out (by kernel_rfl)) (fun _ _ _ h => h) (Or.inl ⟨by rfl, ?_⟩) ?_ ?_
       rotate_left
       ·intro w'
        go_simp
        with_reducible rfl
       rotate_left
       ·simp only [Act.put, List.setIfInBounds_toArray, List.set_cons_zero, List.set_cons_succ, i64_w, i32_w]
        rfl
       refine take_ (i := 3) (N := some 13) (v := ?_) (a' := ?_) #[true, true, true, true, true, false, false, false] rfl rfl (take_ofW HT_.out HW_.out (by kernel_rfl)) (fun _ _ _ h => h) (Or.inl ⟨by rfl, ?_⟩) hHeld ?_ ?_
       rotate_left
       ·rintro w' ⟨s0, s1, s2, s3, s4⟩
        go_simp
        with_reducible rfl
       rotate_left
       ·simp only [Act.put, List.setIfInBounds_toArray, List.set_cons_zero, List.set_cons_succ, i64_w, i32_w]
        rfl
       refine one_ (i := 5) (N := none) #[true, true, true, true, true, true, false, false] rfl rfl (one_of HT_.out (by kernel_rfl)) (by decide) (fun K hK => ?_)
       have hs50 : w49.cell? ⟨gb105, 1, none⟩ = some (.int .i64 0) := (blk_cell BK105.out 1).trans rfl
       have hfs50 := blk_frozen BK105.out 1
       have hns50_0 := NB104_105.out
       have hms50_0 := NB105_104.out
       refine skip_ (w1 := ?_) (by rfl) rfl ?_ ?_
       rotate_left
       ·go_simp
        rfl
       refine hK.out _ _ ⟨((cell_far (p := ⟨gb105, _, none⟩) NB104_105.out _).trans (hHeld.1)), ((cell_far (p := ⟨gb105, _, none⟩) NB104_105.out _).trans (hHeld.2.1)), ((cell_far (p := ⟨gb105, _, none⟩) NB104_105.out _).trans (hHeld.2.2.1)), ((cell_far (p := ⟨gb105, _, none⟩) NB104_105.out _).trans (hHeld.2.2.2.1)), ((cell_far (p := ⟨gb105, _, none⟩) NB104_105.out _).trans (hHeld.2.2.2.2))⟩ (fun hHeld => ?_)
       clear hK K
       refine pure_ (i := 6) (N := some 15) (v := ?_) (a' := ?_) #[true, true, true, true, true, true, true, false] rfl rfl (any_of HT_.out (by kernel_rfl)) (fun _ _ _ h => h) (Or.inl ⟨by rfl, ?_⟩) ?_ ?_
       rotate_left
       ·intro w'
        go_simp
        with_reducible rfl
       rotate_left
       ·simp only [Act.put, List.setIfInBounds_toArray, List.set_cons_zero, List.set_cons_succ, i64_w, i32_w]
        rfl
       refine one_ (i := 7) (N := none) #[true, true, true, true, true, true, true, true] rfl rfl (one_of HT_.out (by kernel_rfl)) (by decide) (fun K hK => ?_)
       have hs51 : w49.cell? ⟨gb105, 4, none⟩ = some (.int .i64 0) := (blk_cell BK105.out 4).trans rfl
       have hfs51 := blk_frozen BK105.out 4
       have hns51_0 := NB104_105.out
       have hms51_0 := NB105_104.out
       refine skip_ (w1 := ?_) (by rfl) rfl ?_ ?_
       rotate_left
       ·go_simp
        rfl
       refine hK.out _ _ ⟨((cell_far (p := ⟨gb105, _, none⟩) NB104_105.out _).trans (hHeld.1)), ((cell_far (p := ⟨gb105, _, none⟩) NB104_105.out _).trans (hHeld.2.1)), ((cell_far (p := ⟨gb105, _, none⟩) NB104_105.out _).trans (hHeld.2.2.1)), ((cell_far (p := ⟨gb105, _, none⟩) NB104_105.out _).trans (hHeld.2.2.2.1)), ((cell_far (p := ⟨gb105, _, none⟩) NB104_105.out _).trans (hHeld.2.2.2.2))⟩ (fun hHeld => ?_)
       clear hK K
       refine done_ (done_of HT_.out (by kernel_rfl)) ?_
       try go_wp2
       go_meet
       case rel => exact ⟨_, (a0_1), (a0_4), H', ⟨by have := HJ12.out; first | omega | exact Nat.le_refl _⟩, ⟨by refine mU ?_; refine blk_far ?_ NB104_105.out _; refine mU ?_; refine blk_far ?_ NB104_105.out _; refine mU ?_; exact BK104.out⟩, ⟨by refine mU ?_; refine blk_put (cs := #[.int .i64 a0_0, .int .i64 a0_1, .int .i64 0, .int .i64 0, .int .i64 0]) ?_ 4 _ rfl; refine mU ?_; refine blk_put (cs := #[.int .i64 a0_0, .int .i64 0, .int .i64 0, .int .i64 0, .int .i64 0]) ?_ 1 _ rfl; refine mU ?_; exact BK105.out⟩, ⟨mB⟩⟩
 case rest =>
  clear HC3 hcz5_0 hcz5_1 hcz5_2 hcz5_3 hcz5_4 hcz8_0 hcz8_1 hcz8_2 hcz8_3 hcz8_4 hfz5_0 hfz5_1 hfz5_2 hfz5_3 hfz5_4 hfz8_0 hfz8_1 hfz8_2 hfz8_3 hfz8_4
  obtain ⟨kq, x106001_2, x106004_2, HA, HJ2, BK104, BK105, HB⟩ := hcut
  cases kq with
  | zero => exact absurd HA.out (by simp [word_fits.j2])
  | succ kj2 =>
   have H := HA.out
   clear HA
   simp only [word_fits.j2] at H
   by_cases c52 : a1 = 6
   ·rw [if_pos c52] at H
    have c52b0 : (a1 == 6) = true := beq_iff_eq.mpr c52
    have c52b1 : (a1 != 6) = false := bne_eq_false_iff_eq.mpr c52
    clear c52
    by_cases c53 : (a0_0 == a0_0 && (a0_1 == x106001_2 && (a0_2 == 0 && (a0_3 == 0 && (a0_4 == x106004_2))))) = true
    ·rw [if_pos c53] at H
     have c53b0 : (a0_0 == a0_0 && (a0_1 == x106001_2 && (a0_2 == 0 && (a0_3 == 0 && (a0_4 == x106004_2))))) = true := c53
     have c53b9 : (a0_1 == x106001_2 && (a0_2 == 0 && (a0_3 == 0 && (a0_4 == x106004_2)))) = true := by simpa using c53
     (try (have c53b1 : decide (a0_0 = a0_0 && (a0_1 == x106001_2 && (a0_2 == 0 && (a0_3 == 0 && (a0_4 == x106004_2))))) = true := by simpa using c53))
     (try (have c53b2 : (a0_0 == a0_0 && (a0_1 == x106001_2 && (a0_2 == 0 && (a0_3 == 0 && (a0_4 == x106004_2))))) = true := by simpa using c53))
     clear c53
     replace H := Option.bind_eq_some_iff.mp H
     obtain ⟨t109, A540, H⟩ := H
     replace H : (if t109 = true then (if a0_4 ≥ (-32768) then (some (decide (a0_4 < 32768))) else (some false)) else (some false)) = some r := H
     have A54 := K1 A540
     clear A540
     by_cases c55 : t109 = true
     ·subst c55
      have H1 : (if a0_4 ≥ (-32768) then (some (decide (a0_4 < 32768))) else (some false)) = some r := by rw [if_pos rfl] at H; exact H
      clear H
      have H := H1
      clear H1
      by_cases c56 : a0_4 ≥ (-32768)
      ·rw [if_pos c56] at H
       have c56b0 : decide ((-32768) ≤ a0_4) = true := decide_eq_true c56
       clear c56
       obtain rfl := Option.some.inj H
       have hnb57 := NB104_105.out
       have hnc57 := NB105_104.out
       obtain ⟨hcz58_0, hcz58_1, hcz58_2, hcz58_3, hcz58_4, hfz58_0, hfz58_1, hfz58_2, hfz58_3, hfz58_4⟩ := cf5 BK104
       obtain ⟨hcz59_0, hcz59_1, hcz59_2, hcz59_3, hcz59_4, hfz59_0, hfz59_1, hfz59_2, hfz59_3, hfz59_4⟩ := cf5 BK105
       go_wp2_with (first | (go_at_call 85; (with_reducible refine (word_register.calls a0_1 true _ A54.out).mono ?_); rintro e w' ⟨rfl, ⟨nd, rfl⟩⟩))
       go_ret
       exact ⟨mE, mB⟩
      ·rw [if_neg c56] at H
       have c56b0 : decide ((-32768) ≤ a0_4) = false := decide_eq_false c56
       clear c56
       obtain rfl := Option.some.inj H
       have hnb60 := NB104_105.out
       have hnc60 := NB105_104.out
       obtain ⟨hcz61_0, hcz61_1, hcz61_2, hcz61_3, hcz61_4, hfz61_0, hfz61_1, hfz61_2, hfz61_3, hfz61_4⟩ := cf5 BK104
       obtain ⟨hcz62_0, hcz62_1, hcz62_2, hcz62_3, hcz62_4, hfz62_0, hfz62_1, hfz62_2, hfz62_3, hfz62_4⟩ := cf5 BK105
       go_wp2_with (first | (go_at_call 85; (with_reducible refine (word_register.calls a0_1 true _ A54.out).mono ?_); rintro e w' ⟨rfl, ⟨nd, rfl⟩⟩))
       go_ret
       exact ⟨mE, mB⟩
     ·replace c55 := Bool.eq_false_iff.mpr c55
      subst c55
      have H1 : (some false) = some r := by rw [if_neg (show ¬ (false = true) by decide)] at H; exact H
      clear H
      have H := H1
      clear H1
      obtain rfl := Option.some.inj H
      have hnb63 := NB104_105.out
      have hnc63 := NB105_104.out
      obtain ⟨hcz64_0, hcz64_1, hcz64_2, hcz64_3, hcz64_4, hfz64_0, hfz64_1, hfz64_2, hfz64_3, hfz64_4⟩ := cf5 BK104
      obtain ⟨hcz65_0, hcz65_1, hcz65_2, hcz65_3, hcz65_4, hfz65_0, hfz65_1, hfz65_2, hfz65_3, hfz65_4⟩ := cf5 BK105
      go_wp2_with (first | (go_at_call 85; (with_reducible refine (word_register.calls a0_1 false _ A54.out).mono ?_); rintro e w' ⟨rfl, ⟨nd, rfl⟩⟩))
      go_ret
      exact ⟨mE, mB⟩
    ·rw [if_neg c53] at H
     have c53b0 : (a0_0 == a0_0 && (a0_1 == x106001_2 && (a0_2 == 0 && (a0_3 == 0 && (a0_4 == x106004_2))))) = false := by simpa using c53
     have c53b9 : (a0_1 == x106001_2 && (a0_2 == 0 && (a0_3 == 0 && (a0_4 == x106004_2)))) = false := by simpa using c53
     (try (have c53b1 : decide (a0_0 = a0_0 && (a0_1 == x106001_2 && (a0_2 == 0 && (a0_3 == 0 && (a0_4 == x106004_2))))) = false := by simpa using c53))
     (try (have c53b2 : (a0_0 == a0_0 && (a0_1 == x106001_2 && (a0_2 == 0 && (a0_3 == 0 && (a0_4 == x106004_2))))) = false := by simpa using c53))
     (try (have c53b3 : ¬ (a0_0 = a0_0 && (a0_1 == x106001_2 && (a0_2 == 0 && (a0_3 == 0 && (a0_4 == x106004_2))))) := by simpa using c53))
     clear c53
     obtain rfl := Option.some.inj H
     have hnb66 := NB104_105.out
     have hnc66 := NB105_104.out
     obtain ⟨hcz67_0, hcz67_1, hcz67_2, hcz67_3, hcz67_4, hfz67_0, hfz67_1, hfz67_2, hfz67_3, hfz67_4⟩ := cf5 BK104
     obtain ⟨hcz68_0, hcz68_1, hcz68_2, hcz68_3, hcz68_4, hfz68_0, hfz68_1, hfz68_2, hfz68_3, hfz68_4⟩ := cf5 BK105
     go_wp2
     go_ret
     exact ⟨mE, mB⟩
   ·rw [if_neg c52] at H
    have c52b0 : (a1 == 6) = false := beq_eq_false_iff_ne.mpr c52
    have c52b1 : (a1 != 6) = true := bne_iff_ne.mpr c52
    by_cases c69 : (a0_0 == a0_0 && (a0_1 == x106001_2 && (a0_2 == 0 && (a0_3 == 0 && (a0_4 == x106004_2))))) = true
    ·rw [if_pos c69] at H
     have c69b0 : (a0_0 == a0_0 && (a0_1 == x106001_2 && (a0_2 == 0 && (a0_3 == 0 && (a0_4 == x106004_2))))) = true := c69
     have c69b9 : (a0_1 == x106001_2 && (a0_2 == 0 && (a0_3 == 0 && (a0_4 == x106004_2)))) = true := by simpa using c69
     (try (have c69b1 : decide (a0_0 = a0_0 && (a0_1 == x106001_2 && (a0_2 == 0 && (a0_3 == 0 && (a0_4 == x106004_2))))) = true := by simpa using c69))
     (try (have c69b2 : (a0_0 == a0_0 && (a0_1 == x106001_2 && (a0_2 == 0 && (a0_3 == 0 && (a0_4 == x106004_2))))) = true := by simpa using c69))
     clear c69
     replace H := Option.bind_eq_some_iff.mp H
     obtain ⟨t110, A700, H⟩ := H
     replace H : (if t110 = true then (if a0_4 ≥ 0 then (some (decide (a0_4 < 65536))) else (some false)) else (some false)) = some r := H
     have A70 := K1 A700
     clear A700
     by_cases c71 : t110 = true
     ·subst c71
      have H1 : (if a0_4 ≥ 0 then (some (decide (a0_4 < 65536))) else (some false)) = some r := by rw [if_pos rfl] at H; exact H
      clear H
      have H := H1
      clear H1
      by_cases c72 : a0_4 ≥ 0
      ·rw [if_pos c72] at H
       have c72b0 : decide (0 ≤ a0_4) = true := decide_eq_true c72
       clear c72
       obtain rfl := Option.some.inj H
       have hnb73 := NB104_105.out
       have hnc73 := NB105_104.out
       obtain ⟨hcz74_0, hcz74_1, hcz74_2, hcz74_3, hcz74_4, hfz74_0, hfz74_1, hfz74_2, hfz74_3, hfz74_4⟩ := cf5 BK104
       obtain ⟨hcz75_0, hcz75_1, hcz75_2, hcz75_3, hcz75_4, hfz75_0, hfz75_1, hfz75_2, hfz75_3, hfz75_4⟩ := cf5 BK105
       go_wp2_with (first | (go_at_call 85; (with_reducible refine (word_register.calls a0_1 true _ A70.out).mono ?_); rintro e w' ⟨rfl, ⟨nd, rfl⟩⟩))
       go_ret
       exact ⟨mE, mB⟩
      ·rw [if_neg c72] at H
       have c72b0 : decide (0 ≤ a0_4) = false := decide_eq_false c72
       clear c72
       obtain rfl := Option.some.inj H
       have hnb76 := NB104_105.out
       have hnc76 := NB105_104.out
       obtain ⟨hcz77_0, hcz77_1, hcz77_2, hcz77_3, hcz77_4, hfz77_0, hfz77_1, hfz77_2, hfz77_3, hfz77_4⟩ := cf5 BK104
       obtain ⟨hcz78_0, hcz78_1, hcz78_2, hcz78_3, hcz78_4, hfz78_0, hfz78_1, hfz78_2, hfz78_3, hfz78_4⟩ := cf5 BK105
       go_wp2_with (first | (go_at_call 85; (with_reducible refine (word_register.calls a0_1 true _ A70.out).mono ?_); rintro e w' ⟨rfl, ⟨nd, rfl⟩⟩))
       go_ret
       exact ⟨mE, mB⟩
     ·replace c71 := Bool.eq_false_iff.mpr c71
      subst c71
      have H1 : (some false) = some r := by rw [if_neg (show ¬ (false = true) by decide)] at H; exact H
      clear H
      have H := H1
      clear H1
      obtain rfl := Option.some.inj H
      have hnb79 := NB104_105.out
      have hnc79 := NB105_104.out
      obtain ⟨hcz80_0, hcz80_1, hcz80_2, hcz80_3, hcz80_4, hfz80_0, hfz80_1, hfz80_2, hfz80_3, hfz80_4⟩ := cf5 BK104
      obtain ⟨hcz81_0, hcz81_1, hcz81_2, hcz81_3, hcz81_4, hfz81_0, hfz81_1, hfz81_2, hfz81_3, hfz81_4⟩ := cf5 BK105
      go_wp2_with (first | (go_at_call 85; (with_reducible refine (word_register.calls a0_1 false _ A70.out).mono ?_); rintro e w' ⟨rfl, ⟨nd, rfl⟩⟩))
      go_ret
      exact ⟨mE, mB⟩
    ·rw [if_neg c69] at H
     have c69b0 : (a0_0 == a0_0 && (a0_1 == x106001_2 && (a0_2 == 0 && (a0_3 == 0 && (a0_4 == x106004_2))))) = false := by simpa using c69
     have c69b9 : (a0_1 == x106001_2 && (a0_2 == 0 && (a0_3 == 0 && (a0_4 == x106004_2)))) = false := by simpa using c69
     (try (have c69b1 : decide (a0_0 = a0_0 && (a0_1 == x106001_2 && (a0_2 == 0 && (a0_3 == 0 && (a0_4 == x106004_2))))) = false := by simpa using c69))
     (try (have c69b2 : (a0_0 == a0_0 && (a0_1 == x106001_2 && (a0_2 == 0 && (a0_3 == 0 && (a0_4 == x106004_2))))) = false := by simpa using c69))
     (try (have c69b3 : ¬ (a0_0 = a0_0 && (a0_1 == x106001_2 && (a0_2 == 0 && (a0_3 == 0 && (a0_4 == x106004_2))))) := by simpa using c69))
     clear c69
     obtain rfl := Option.some.inj H
     have hnb82 := NB104_105.out
     have hnc82 := NB105_104.out
     obtain ⟨hcz83_0, hcz83_1, hcz83_2, hcz83_3, hcz83_4, hfz83_0, hfz83_1, hfz83_2, hfz83_3, hfz83_4⟩ := cf5 BK104
     obtain ⟨hcz84_0, hcz84_1, hcz84_2, hcz84_3, hcz84_4, hfz84_0, hfz84_1, hfz84_2, hfz84_3, hfz84_4⟩ := cf5 BK105
     go_wp2
     go_ret
     exact ⟨mE, mB⟩

end Go.Proofs.Ytdlikjfffdpmiaa.QProper

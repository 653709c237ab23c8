/- Printed: a function's machine side. Conditions: none. -/
import Derived.Test.YtdlikjfffdpmiaaQProperx0
import Derived.Test.YtdlikjfffdpmiaaQProperx7
import Derived.Test.YtdlikjfffdpmiaaQProperx100
namespace Go.Proofs.Ytdlikjfffdpmiaa.QProper
open Go.RowKit Go.Proofs.YtdlikjfffdpmiaaW.PrintWords Go.Proofs.YtdlikjfffdpmiaaW.PrintLast Go.Proofs.YtdlikjfffdpmiaaW.PrintMore
set_option linter.unusedVariables false
set_option linter.unusedSimpArgs false

/-! ### proper_wrong: function 30 -/
mutual
def proper_wrong.j0 : Nat → Int → Bool → List Int → List (S34) → List (S58) → Int → Int → Int → Int → Int → Int → Int → Option (Int)
 | 0, _, _, _, _, _, _, _, _, _, _, _, _ => none
 | k + 1, x1, x21, x124000, x124001, x124002, x125000, x125001, x133000, x133001, x133002, x133003, x133004 => if x21 = true then (some 82) else (if x133000 = 20 then (proper_wrong.j1 k x1 (decide (x133004 ≥ (x124001.length : Int))) x124000 x124001 x124002 x125000 x125001 x133000 x133001 x133002 x133003 x133004) else (if x133000 = 22 then (proper_wrong.j1 k x1 (decide (x133004 ≥ (x124001.length : Int))) x124000 x124001 x124002 x125000 x125001 x133000 x133001 x133002 x133003 x133004) else (proper_wrong.j1 k x1 false x124000 x124001 x124002 x125000 x125001 x133000 x133001 x133002 x133003 x133004)))
def proper_wrong.j1 : Nat → Int → Bool → List Int → List (S34) → List (S58) → Int → Int → Int → Int → Int → Int → Int → Option (Int)
 | 0, _, _, _, _, _, _, _, _, _, _, _, _ => none
 | k + 1, x1, x39, x124000, x124001, x124002, x125000, x125001, x133000, x133001, x133002, x133003, x133004 => if x39 = true then (some 81) else (if x133000 = 34 then (proper_wrong.j2 k x1 (decide (x133004 ≥ (x124002.length : Int))) x125000 x125001 x133000 x133001 x133002 x133003 x133004) else (proper_wrong.j2 k x1 false x125000 x125001 x133000 x133001 x133002 x133003 x133004))
def proper_wrong.j2 : Nat → Int → Bool → Int → Int → Int → Int → Int → Int → Int → Option (Int)
 | 0, _, _, _, _, _, _, _, _, _ => none
 | k + 1, x1, x56, x125000, x125001, x133000, x133001, x133002, x133003, x133004 => if x56 = true then (some 83) else (if x1 = (wrap64 (x125001 - 1)) then ((proper_ends.f x133000).bind fun t134 => (if t134 = true then (some 0) else (some 84))) else (some 0))
end
def proper_wrong.f (k : Nat) (l0_0 : List Int) (l0_1 : List (S34)) (l0_2 : List (S58)) (a1 : Int) (a2_0 : Int) (a2_1 : Int) : Option (Int) := if 0 ≤ a1 then (if a1 < (l0_0.length : Int) then ((word_Decode.f k (rd l0_0 a1)).bind fun bt126 => (if bt126.2.2.2.2.2 = 0 then ((proper_jumps.f bt126.1).bind fun t133 => (if t133 = true then (if bt126.2.2.2.2.1 < a2_0 then (proper_wrong.j0 k a1 true l0_0 l0_1 l0_2 a2_0 a2_1 bt126.1 bt126.2.1 bt126.2.2.1 bt126.2.2.2.1 bt126.2.2.2.2.1) else (proper_wrong.j0 k a1 (decide (bt126.2.2.2.2.1 ≥ a2_1)) l0_0 l0_1 l0_2 a2_0 a2_1 bt126.1 bt126.2.1 bt126.2.2.1 bt126.2.2.2.1 bt126.2.2.2.2.1)) else (proper_wrong.j0 k a1 false l0_0 l0_1 l0_2 a2_0 a2_1 bt126.1 bt126.2.1 bt126.2.2.1 bt126.2.2.2.1 bt126.2.2.2.2.1))) else (some 80))) else (none)) else (none)
theorem proper_wrong.mono_l : ∀ k, (∀ y0 y1 y2 y3 y4 y5 y6 y7 y8 y9 y10 y11, LeO (proper_wrong.j0 k y0 y1 y2 y3 y4 y5 y6 y7 y8 y9 y10 y11) (proper_wrong.j0 (k + 1) y0 y1 y2 y3 y4 y5 y6 y7 y8 y9 y10 y11)) ∧ (∀ y0 y1 y2 y3 y4 y5 y6 y7 y8 y9 y10 y11, LeO (proper_wrong.j1 k y0 y1 y2 y3 y4 y5 y6 y7 y8 y9 y10 y11) (proper_wrong.j1 (k + 1) y0 y1 y2 y3 y4 y5 y6 y7 y8 y9 y10 y11)) ∧ (∀ y0 y1 y2 y3 y4 y5 y6 y7 y8, LeO (proper_wrong.j2 k y0 y1 y2 y3 y4 y5 y6 y7 y8) (proper_wrong.j2 (k + 1) y0 y1 y2 y3 y4 y5 y6 y7 y8))
 | 0 => ⟨fun _ _ _ _ _ _ _ _ _ _ _ _ r h => by simp [proper_wrong.j0] at h, fun _ _ _ _ _ _ _ _ _ _ _ _ r h => by simp [proper_wrong.j1] at h, fun _ _ _ _ _ _ _ _ _ r h => by simp [proper_wrong.j2] at h⟩
 | k + 1 => by
  obtain ⟨ih0, ih1, ih2⟩ := proper_wrong.mono_l k
  refine ⟨?_, ?_, ?_⟩
  ·intro y0 y1 y2 y3 y4 y5 y6 y7 y8 y9 y10 y11
   unfold proper_wrong.j0
   repeat' first
   | (with_reducible exact ih0 _ _ _ _ _ _ _ _ _ _ _ _)
   | (with_reducible exact ih1 _ _ _ _ _ _ _ _ _ _ _ _)
   | (with_reducible exact ih2 _ _ _ _ _ _ _ _ _)
   | (with_reducible exact word_Decode.mono _ _)
   | (with_reducible exact LeO.refl _)
   | (with_reducible exact LeO.none _)
   | (with_reducible refine LeO.ite ?_ ?_)
   | (with_reducible refine LeO.bind ?_ (fun _ => ?_))
   | exact ih0 _ _ _ _ _ _ _ _ _ _ _ _
   | exact ih1 _ _ _ _ _ _ _ _ _ _ _ _
   | exact ih2 _ _ _ _ _ _ _ _ _
   | exact word_Decode.mono _ _
   | exact LeO.none _
   | refine LeO.ite ?_ ?_
   | refine LeO.bind ?_ (fun _ => ?_)
  ·intro y0 y1 y2 y3 y4 y5 y6 y7 y8 y9 y10 y11
   unfold proper_wrong.j1
   repeat' first
   | (with_reducible exact ih0 _ _ _ _ _ _ _ _ _ _ _ _)
   | (with_reducible exact ih1 _ _ _ _ _ _ _ _ _ _ _ _)
   | (with_reducible exact ih2 _ _ _ _ _ _ _ _ _)
   | (with_reducible exact word_Decode.mono _ _)
   | (with_reducible exact LeO.refl _)
   | (with_reducible exact LeO.none _)
   | (with_reducible refine LeO.ite ?_ ?_)
   | (with_reducible refine LeO.bind ?_ (fun _ => ?_))
   | exact ih0 _ _ _ _ _ _ _ _ _ _ _ _
   | exact ih1 _ _ _ _ _ _ _ _ _ _ _ _
   | exact ih2 _ _ _ _ _ _ _ _ _
   | exact word_Decode.mono _ _
   | exact LeO.none _
   | refine LeO.ite ?_ ?_
   | refine LeO.bind ?_ (fun _ => ?_)
  ·intro y0 y1 y2 y3 y4 y5 y6 y7 y8
   unfold proper_wrong.j2
   repeat' first
   | (with_reducible exact ih0 _ _ _ _ _ _ _ _ _ _ _ _)
   | (with_reducible exact ih1 _ _ _ _ _ _ _ _ _ _ _ _)
   | (with_reducible exact ih2 _ _ _ _ _ _ _ _ _)
   | (with_reducible exact word_Decode.mono _ _)
   | (with_reducible exact LeO.refl _)
   | (with_reducible exact LeO.none _)
   | (with_reducible refine LeO.ite ?_ ?_)
   | (with_reducible refine LeO.bind ?_ (fun _ => ?_))
   | exact ih0 _ _ _ _ _ _ _ _ _ _ _ _
   | exact ih1 _ _ _ _ _ _ _ _ _ _ _ _
   | exact ih2 _ _ _ _ _ _ _ _ _
   | exact word_Decode.mono _ _
   | exact LeO.none _
   | refine LeO.ite ?_ ?_
   | refine LeO.bind ?_ (fun _ => ?_)
theorem proper_wrong.mono : ∀ a0 a1 a2 a3 a4 a5 k, LeO (proper_wrong.f k a0 a1 a2 a3 a4 a5) (proper_wrong.f (k + 1) a0 a1 a2 a3 a4 a5) := by
 intro a0 a1 a2 a3 a4 a5 k
 obtain ⟨ih0, ih1, ih2⟩ := proper_wrong.mono_l k
 unfold proper_wrong.f
 repeat' first
   | (with_reducible exact ih0 _ _ _ _ _ _ _ _ _ _ _ _)
   | (with_reducible exact ih1 _ _ _ _ _ _ _ _ _ _ _ _)
   | (with_reducible exact ih2 _ _ _ _ _ _ _ _ _)
   | (with_reducible exact word_Decode.mono _ _)
   | (with_reducible exact LeO.refl _)
   | (with_reducible exact LeO.none _)
   | (with_reducible refine LeO.ite ?_ ?_)
   | (with_reducible refine LeO.bind ?_ (fun _ => ?_))
   | exact ih0 _ _ _ _ _ _ _ _ _ _ _ _
   | exact ih1 _ _ _ _ _ _ _ _ _ _ _ _
   | exact ih2 _ _ _ _ _ _ _ _ _
   | exact word_Decode.mono _ _
   | exact LeO.none _
   | refine LeO.ite ?_ ?_
   | refine LeO.bind ?_ (fun _ => ?_)
set_option maxHeartbeats 8000000 in
set_option maxRecDepth 100000 in
theorem proper_wrong.calls (k : Nat) (A0_0 : Option Addr) (c0_0 : Nat) (l0_0 : List Int) (A0_1 : Option Addr) (c0_1 : Nat) (l0_1 : List (S34)) (A0_2 : Option Addr) (c0_2 : Nat) (l0_2 : List (S58)) (a1 : Int) (a2_0 : Int) (a2_1 : Int) (r : Int) (w : World) (hr0_0 : Kd.C (Kd.int .u32) w A0_0 l0_0.length l0_0) (hc0_0 : l0_0.length ≤ c0_0) (hr0_1 : Kd.C k34 w A0_1 l0_1.length l0_1) (hc0_1 : l0_1.length ≤ c0_1) (hr0_2 : Kd.C k58 w A0_2 l0_2.length l0_2) (hc0_2 : l0_2.length ≤ c0_2) (h : proper_wrong.f k l0_0 l0_1 l0_2 a1 a2_0 a2_1 = some r) :
  Calls Try.prog 30 #[.agg #[.slice A0_0 l0_0.length c0_0, .slice A0_1 l0_1.length c0_1, .slice A0_2 l0_2.length c0_2], .int .i64 a1, .agg #[.int .i64 a2_0, .int .i64 a2_1]] w fun e w' => e = .returned (.int .i64 r) ∧ Below w.heap.size w w' := by
 have hu26 := Try.underlying26
 have hu34 := Try.underlying34
 have hu48 := Try.underlying48
 have HR0_0 := K1 hr0_0
 have HC0_0 := K1 hc0_0
 clear hr0_0 hc0_0
 have HR0_1 := K1 hr0_1
 have HC0_1 := K1 hc0_1
 clear hr0_1 hc0_1
 have HR0_2 := K1 hr0_2
 have HC0_2 := K1 hc0_2
 clear hr0_2 hc0_2
 have HB := K1 (Below.refl w.heap.size w)
 have H : (if 0 ≤ a1 then (if a1 < (l0_0.length : Int) then ((word_Decode.f k (rd l0_0 a1)).bind fun bt126 => (if bt126.2.2.2.2.2 = 0 then ((proper_jumps.f bt126.1).bind fun t133 => (if t133 = true then (if bt126.2.2.2.2.1 < a2_0 then (proper_wrong.j0 k a1 true l0_0 l0_1 l0_2 a2_0 a2_1 bt126.1 bt126.2.1 bt126.2.2.1 bt126.2.2.2.1 bt126.2.2.2.2.1) else (proper_wrong.j0 k a1 (decide (bt126.2.2.2.2.1 ≥ a2_1)) l0_0 l0_1 l0_2 a2_0 a2_1 bt126.1 bt126.2.1 bt126.2.2.1 bt126.2.2.2.1 bt126.2.2.2.2.1)) else (proper_wrong.j0 k a1 false l0_0 l0_1 l0_2 a2_0 a2_1 bt126.1 bt126.2.1 bt126.2.2.1 bt126.2.2.2.1 bt126.2.2.2.2.1))) else (some 80))) else (none)) else (none)) = some r := h
 clear h
 by_cases c4 : 0 ≤ a1
 ·rw [if_pos c4] at H
  have c4b0 : decide (0 ≤ a1) = true := decide_eq_true c4
  clear c4
  by_cases c5 : a1 < (l0_0.length : Int)
  ·rw [if_pos c5] at H
   have c5b0 : decide (a1 < (l0_0.length : Int)) = true := decide_eq_true c5
   clear c5
   replace H := Option.bind_eq_some_iff.mp H
   obtain ⟨⟨t126, t127, t128, t129, t130, t131⟩, A60, H⟩ := H
   replace H : (if t131 = 0 then ((proper_jumps.f t126).bind fun t133 => (if t133 = true then (if t130 < a2_0 then (proper_wrong.j0 k a1 true l0_0 l0_1 l0_2 a2_0 a2_1 t126 t127 t128 t129 t130) else (proper_wrong.j0 k a1 (decide (t130 ≥ a2_1)) l0_0 l0_1 l0_2 a2_0 a2_1 t126 t127 t128 t129 t130)) else (proper_wrong.j0 k a1 false l0_0 l0_1 l0_2 a2_0 a2_1 t126 t127 t128 t129 t130))) else (some 80)) = some r := H
   have A6 := K1 A60
   clear A60
   by_cases c7 : t131 = 0
   ·rw [if_pos c7] at H
    have c7b0 : (t131 == 0) = true := beq_iff_eq.mpr c7
    have c7b1 : (t131 != 0) = false := bne_eq_false_iff_eq.mpr c7
    clear c7
    have HC8 := K1 H
    clear H
    go_enter Try.func30, Try.ntmps30
    go_upto_region 4 with (first | ((with_reducible refine gate_dst (N := 3) rfl ?_); (try (refine gate_guard (by rfl) ?_; dsimp only)); refine bev (N := 3) (cs := #[.slice A0_0 l0_0.length c0_0, .slice A0_1 l0_1.length c0_1, .slice A0_2 l0_2.length c0_2]) (t := 26) (h := ?_); intro gb123 hg w9 hbox hb; have BK123 := K1 (hbox); have GW123 := K1 (mG : w.heap.size ≤ gb123); have GE123 := K1 (mG : w.heap.size ≤ gb123); replace HB := K1 (below_step mB hb); clear hb hbox hg) | ((with_reducible refine gate_dst (N := 5) rfl ?_); (try (refine gate_guard (by rfl) ?_; dsimp only)); refine bev (N := 5) (cs := #[.int .i64 a2_0, .int .i64 a2_1]) (t := 34) (h := ?_); intro gb124 hg w10 hbox hb; have BK124 := K1 (hbox); have GW124 := K1 (mG : w.heap.size ≤ gb124); have GE124 := K1 (mG : w.heap.size ≤ gb124); have NB123_124 := K1 (nlt hg (mU BK123.out)); have NB124_123 := K1 (ngt hg (mU BK123.out)); replace BK123 := K1 (blk_below (mU BK123.out) hb); replace HB := K1 (below_step mB hb); clear hb hbox hg; have hnb11 := NB123_124.out; have hnc11 := NB124_123.out; obtain ⟨hcz12_0, hcz12_1, hcz12_2, hfz12_0, hfz12_1, hfz12_2⟩ := cf3 BK123; have p125 : 0 ≤ (a1 : Int) := of_decide_eq_true (mA); have q125 : a1 < (l0_0.length : Int) := of_decide_eq_true (mA); obtain ⟨ad125, e125, hx125_0⟩ := Kd.at_int HR0_0.out a1 p125 q125; cases e125; replace hx125_0 := (HB.out.cell (World.block_lt_of_cell? w _ hx125_0)).trans hx125_0; replace p125 := eq_true p125; replace q125 := eq_true q125) | ((with_reducible refine gate_callee (f := 59) rfl ?_); refine goesL_ (some 15) rfl rfl Try.func59 (by kernel_rfl) rfl #[.int .u32 (rd l0_0 a1)] rfl mL ?_; (with_reducible refine (word_Decode.calls k (rd l0_0 a1) t126 t127 t128 t129 t130 t131 _ A6.out).mono ?_); rintro e w13 ⟨rfl, hb⟩; refine ⟨_, rfl, ?_⟩; replace BK123 := K1 (blk_below (mU BK123.out) hb); replace BK124 := K1 (blk_below (mU BK124.out) hb); replace HB := K1 (below_step mB hb); (try clear hb)) | ((with_reducible refine gate_dst (N := 7) rfl ?_); (try (refine gate_guard (by rfl) ?_; dsimp only)); refine bev (N := 7) (cs := #[.int .i64 0, .int .i64 0, .int .i64 0, .int .i64 0, .int .i64 0]) (t := 48) (h := ?_); intro gb132 hg w14 hbox hb; have BK132 := K1 (hbox); have GW132 := K1 (mG : w.heap.size ≤ gb132); have GE132 := K1 (mG : w.heap.size ≤ gb132); have NB123_132 := K1 (nlt hg (mU BK123.out)); have NB132_123 := K1 (ngt hg (mU BK123.out)); have NB124_132 := K1 (nlt hg (mU BK124.out)); have NB132_124 := K1 (ngt hg (mU BK124.out)); replace BK123 := K1 (blk_below (mU BK123.out) hb); replace BK124 := K1 (blk_below (mU BK124.out) hb); replace HB := K1 (below_step mB hb); clear hb hbox hg; have hnb15 := NB132_123.out; have hnc15 := NB123_132.out; have hnb16 := NB132_124.out; have hnc16 := NB124_132.out; obtain ⟨hcz17_0, hcz17_1, hcz17_2, hcz17_3, hcz17_4, hfz17_0, hfz17_1, hfz17_2, hfz17_3, hfz17_4⟩ := cf5 BK132))
    (try simp only [Act.put, List.setIfInBounds_toArray, List.set_cons_zero, List.set_cons_succ])
    go_cut [21] (fun v21 wc => ∃ (kq : Nat) (x21_7 : Bool), v21 = .bool x21_7 ∧ Aside0 (proper_wrong.j0 kq a1 x21_7 l0_0 l0_1 l0_2 a2_0 a2_1 t126 t127 t128 t129 t130 = some r) ∧ Aside0 (kq ≤ k) ∧ Aside0 (wc.heap[gb123]? = some (.cells #[(.slice (some ad125) l0_0.length c0_0), (.slice A0_1 l0_1.length c0_1), (.slice A0_2 l0_2.length c0_2)] 26 (0, 0))) ∧ Aside0 (wc.heap[gb124]? = some (.cells #[.int .i64 a2_0, .int .i64 a2_1] 34 (0, 0))) ∧ Aside0 (wc.heap[gb132]? = some (.cells #[.int .i64 t126, .int .i64 t127, .int .i64 t128, .int .i64 t129, .int .i64 t130] 48 (0, 0))) ∧ Aside0 (Below w.heap.size w wc))
    case first =>
     have H := HC8.out
     clear HC8
     replace H := Option.bind_eq_some_iff.mp H
     obtain ⟨t133, A180, H⟩ := H
     replace H : (if t133 = true then (if t130 < a2_0 then (proper_wrong.j0 k a1 true l0_0 l0_1 l0_2 a2_0 a2_1 t126 t127 t128 t129 t130) else (proper_wrong.j0 k a1 (decide (t130 ≥ a2_1)) l0_0 l0_1 l0_2 a2_0 a2_1 t126 t127 t128 t129 t130)) else (proper_wrong.j0 k a1 false l0_0 l0_1 l0_2 a2_0 a2_1 t126 t127 t128 t129 t130)) = some r := H
     have A18 := K1 A180
     clear A180
     by_cases c19 : t133 = true
     ·subst c19
      have H1 : (if t130 < a2_0 then (proper_wrong.j0 k a1 true l0_0 l0_1 l0_2 a2_0 a2_1 t126 t127 t128 t129 t130) else (proper_wrong.j0 k a1 (decide (t130 ≥ a2_1)) l0_0 l0_1 l0_2 a2_0 a2_1 t126 t127 t128 t129 t130)) = some r := by rw [if_pos rfl] at H; exact H
      clear H
      have H := H1
      clear H1
      by_cases c20 : t130 < a2_0
      ·rw [if_pos c20] at H
       have c20b0 : decide (t130 < a2_0) = true := decide_eq_true c20
       clear c20
       (first | rw [c20b0] | (simp only [i64_w, i32_w]; rw [c20b0]) | skip)
       have H' := K1 H
       clear H
       have hnb21 := NB132_123.out
       have hnc21 := NB123_132.out
       have hnb22 := NB132_124.out
       have hnc22 := NB124_132.out
       obtain ⟨hcz23_0, hcz23_1, hcz23_2, hcz23_3, hcz23_4, hfz23_0, hfz23_1, hfz23_2, hfz23_3, hfz23_4⟩ := cf5 BK132
       go_wp2_with (first | ((with_reducible refine gate_callee (f := 60) rfl ?_); refine goesL_ (some 24) rfl rfl Try.func60 (by kernel_rfl) rfl #[.int .i64 t126] rfl mL ?_; (with_reducible refine (proper_jumps.calls t126 true _ A18.out).mono ?_); rintro e w' ⟨rfl, ⟨nd, rfl⟩⟩; refine ⟨_, rfl, ?_⟩; have hnb24 := NB124_123.out; have hnc24 := NB123_124.out; obtain ⟨hcz25_0, hcz25_1, hfz25_0, hfz25_1⟩ := cf2 BK124))
       go_meet
       case rel => exact ⟨_, (true), (mF), H', ⟨by first | omega | exact Nat.le_refl _⟩, ⟨by refine mU ?_; refine blk_far ?_ NB123_132.out _; refine mU ?_; refine blk_far ?_ NB123_132.out _; refine mU ?_; refine blk_far ?_ NB123_132.out _; refine mU ?_; refine blk_far ?_ NB123_132.out _; refine mU ?_; refine blk_far ?_ NB123_132.out _; refine mU ?_; exact BK123.out⟩, ⟨by refine mU ?_; refine blk_far ?_ NB124_132.out _; refine mU ?_; refine blk_far ?_ NB124_132.out _; refine mU ?_; refine blk_far ?_ NB124_132.out _; refine mU ?_; refine blk_far ?_ NB124_132.out _; refine mU ?_; refine blk_far ?_ NB124_132.out _; refine mU ?_; exact BK124.out⟩, ⟨by refine mU ?_; refine blk_put (cs := #[.int .i64 t126, .int .i64 t127, .int .i64 t128, .int .i64 t129, .int .i64 0]) ?_ 4 _ rfl; refine mU ?_; refine blk_put (cs := #[.int .i64 t126, .int .i64 t127, .int .i64 t128, .int .i64 0, .int .i64 0]) ?_ 3 _ rfl; refine mU ?_; refine blk_put (cs := #[.int .i64 t126, .int .i64 t127, .int .i64 0, .int .i64 0, .int .i64 0]) ?_ 2 _ rfl; refine mU ?_; refine blk_put (cs := #[.int .i64 t126, .int .i64 0, .int .i64 0, .int .i64 0, .int .i64 0]) ?_ 1 _ rfl; refine mU ?_; refine blk_put (cs := #[.int .i64 0, .int .i64 0, .int .i64 0, .int .i64 0, .int .i64 0]) ?_ 0 _ rfl; refine mU ?_; exact BK132.out⟩, ⟨mB⟩⟩
      ·rw [if_neg c20] at H
       have c20b0 : decide (t130 < a2_0) = false := decide_eq_false c20
       clear c20
       (first | rw [c20b0] | (simp only [i64_w, i32_w]; rw [c20b0]) | skip)
       have H' := K1 H
       clear H
       have hnb26 := NB132_123.out
       have hnc26 := NB123_132.out
       have hnb27 := NB132_124.out
       have hnc27 := NB124_132.out
       obtain ⟨hcz28_0, hcz28_1, hcz28_2, hcz28_3, hcz28_4, hfz28_0, hfz28_1, hfz28_2, hfz28_3, hfz28_4⟩ := cf5 BK132
       go_wp2_with (first | ((with_reducible refine gate_callee (f := 60) rfl ?_); refine goesL_ (some 24) rfl rfl Try.func60 (by kernel_rfl) rfl #[.int .i64 t126] rfl mL ?_; (with_reducible refine (proper_jumps.calls t126 true _ A18.out).mono ?_); rintro e w' ⟨rfl, ⟨nd, rfl⟩⟩; refine ⟨_, rfl, ?_⟩; have hnb29 := NB124_123.out; have hnc29 := NB123_124.out; obtain ⟨hcz30_0, hcz30_1, hfz30_0, hfz30_1⟩ := cf2 BK124))
       go_meet
       case rel => exact ⟨_, (decide (t130 ≥ a2_1)), (mF), H', ⟨by first | omega | exact Nat.le_refl _⟩, ⟨by refine mU ?_; refine blk_far ?_ NB123_132.out _; refine mU ?_; refine blk_far ?_ NB123_132.out _; refine mU ?_; refine blk_far ?_ NB123_132.out _; refine mU ?_; refine blk_far ?_ NB123_132.out _; refine mU ?_; refine blk_far ?_ NB123_132.out _; refine mU ?_; exact BK123.out⟩, ⟨by refine mU ?_; refine blk_far ?_ NB124_132.out _; refine mU ?_; refine blk_far ?_ NB124_132.out _; refine mU ?_; refine blk_far ?_ NB124_132.out _; refine mU ?_; refine blk_far ?_ NB124_132.out _; refine mU ?_; refine blk_far ?_ NB124_132.out _; refine mU ?_; exact BK124.out⟩, ⟨by refine mU ?_; refine blk_put (cs := #[.int .i64 t126, .int .i64 t127, .int .i64 t128, .int .i64 t129, .int .i64 0]) ?_ 4 _ rfl; refine mU ?_; refine blk_put (cs := #[.int .i64 t126, .int .i64 t127, .int .i64 t128, .int .i64 0, .int .i64 0]) ?_ 3 _ rfl; refine mU ?_; refine blk_put (cs := #[.int .i64 t126, .int .i64 t127, .int .i64 0, .int .i64 0, .int .i64 0]) ?_ 2 _ rfl; refine mU ?_; refine blk_put (cs := #[.int .i64 t126, .int .i64 0, .int .i64 0, .int .i64 0, .int .i64 0]) ?_ 1 _ rfl; refine mU ?_; refine blk_put (cs := #[.int .i64 0, .int .i64 0, .int .i64 0, .int .i64 0, .int .i64 0]) ?_ 0 _ rfl; refine mU ?_; exact BK132.out⟩, ⟨mB⟩⟩
     ·replace c19 := Bool.eq_false_iff.mpr c19
      subst c19
      have H1 : (proper_wrong.j0 k a1 false l0_0 l0_1 l0_2 a2_0 a2_1 t126 t127 t128 t129 t130) = some r := by rw [if_neg (show ¬ (false = true) by decide)] at H; exact H
      clear H
      have H := H1
      clear H1
      have H' := K1 H
      clear H
      have hnb31 := NB132_123.out
      have hnc31 := NB123_132.out
      have hnb32 := NB132_124.out
      have hnc32 := NB124_132.out
      obtain ⟨hcz33_0, hcz33_1, hcz33_2, hcz33_3, hcz33_4, hfz33_0, hfz33_1, hfz33_2, hfz33_3, hfz33_4⟩ := cf5 BK132
      go_wp2_with (first | ((with_reducible refine gate_callee (f := 60) rfl ?_); refine goesL_ (some 24) rfl rfl Try.func60 (by kernel_rfl) rfl #[.int .i64 t126] rfl mL ?_; (with_reducible refine (proper_jumps.calls t126 false _ A18.out).mono ?_); rintro e w' ⟨rfl, ⟨nd, rfl⟩⟩; refine ⟨_, rfl, ?_⟩))
      go_meet
      case rel => exact ⟨_, (false), (mF), H', ⟨by first | omega | exact Nat.le_refl _⟩, ⟨by refine mU ?_; refine blk_far ?_ NB123_132.out _; refine mU ?_; refine blk_far ?_ NB123_132.out _; refine mU ?_; refine blk_far ?_ NB123_132.out _; refine mU ?_; refine blk_far ?_ NB123_132.out _; refine mU ?_; refine blk_far ?_ NB123_132.out _; refine mU ?_; exact BK123.out⟩, ⟨by refine mU ?_; refine blk_far ?_ NB124_132.out _; refine mU ?_; refine blk_far ?_ NB124_132.out _; refine mU ?_; refine blk_far ?_ NB124_132.out _; refine mU ?_; refine blk_far ?_ NB124_132.out _; refine mU ?_; refine blk_far ?_ NB124_132.out _; refine mU ?_; exact BK124.out⟩, ⟨by refine mU ?_; refine blk_put (cs := #[.int .i64 t126, .int .i64 t127, .int .i64 t128, .int .i64 t129, .int .i64 0]) ?_ 4 _ rfl; refine mU ?_; refine blk_put (cs := #[.int .i64 t126, .int .i64 t127, .int .i64 t128, .int .i64 0, .int .i64 0]) ?_ 3 _ rfl; refine mU ?_; refine blk_put (cs := #[.int .i64 t126, .int .i64 t127, .int .i64 0, .int .i64 0, .int .i64 0]) ?_ 2 _ rfl; refine mU ?_; refine blk_put (cs := #[.int .i64 t126, .int .i64 0, .int .i64 0, .int .i64 0, .int .i64 0]) ?_ 1 _ rfl; refine mU ?_; refine blk_put (cs := #[.int .i64 0, .int .i64 0, .int .i64 0, .int .i64 0, .int .i64 0]) ?_ 0 _ rfl; refine mU ?_; exact BK132.out⟩, ⟨mB⟩⟩
    case rest =>
     clear HC8 c4b0 c5b0 c7b0 c7b1 hcz12_0 hcz12_1 hcz12_2 hcz17_0 hcz17_1 hcz17_2 hcz17_3 hcz17_4 hfz12_0 hfz12_1 hfz12_2 hfz17_0 hfz17_1 hfz17_2 hfz17_3 hfz17_4 hx125_0 p125 q125
     obtain ⟨kq, x21_7, rfl, HA, HJ7, BK123, BK124, BK132, HB⟩ := hcut
     cases kq with
     | zero => exact absurd HA.out (by simp [proper_wrong.j0])
     | succ kj7 =>
      have H := HA.out
      clear HA
      simp only [proper_wrong.j0] at H
      by_cases c34 : x21_7 = true
      ·subst c34
       have H1 : (some 82) = some r := by rw [if_pos rfl] at H; exact H
       clear H
       have H := H1
       clear H1
       obtain rfl := Option.some.inj H
       go_wp2
       go_ret
       exact ⟨mE, mB⟩
      ·replace c34 := Bool.eq_false_iff.mpr c34
       subst c34
       have H1 : (if t126 = 20 then (proper_wrong.j1 kj7 a1 (decide (t130 ≥ (l0_1.length : Int))) l0_0 l0_1 l0_2 a2_0 a2_1 t126 t127 t128 t129 t130) else (if t126 = 22 then (proper_wrong.j1 kj7 a1 (decide (t130 ≥ (l0_1.length : Int))) l0_0 l0_1 l0_2 a2_0 a2_1 t126 t127 t128 t129 t130) else (proper_wrong.j1 kj7 a1 false l0_0 l0_1 l0_2 a2_0 a2_1 t126 t127 t128 t129 t130))) = some r := by rw [if_neg (show ¬ (false = true) by decide)] at H; exact H
       clear H
       have H := H1
       clear H1
       have HC35 := K1 H
       clear H
       go_upto_region 6 with (fail)
       go_cut [39] (fun v39 wc => ∃ (kq : Nat) (x39_34 : Bool), v39 = .bool x39_34 ∧ Aside0 (proper_wrong.j1 kq a1 x39_34 l0_0 l0_1 l0_2 a2_0 a2_1 t126 t127 t128 t129 t130 = some r) ∧ Aside0 (kq ≤ kj7) ∧ Aside0 (wc.heap[gb123]? = some (.cells #[(.slice (some ad125) l0_0.length c0_0), (.slice A0_1 l0_1.length c0_1), (.slice A0_2 l0_2.length c0_2)] 26 (0, 0))) ∧ Aside0 (wc.heap[gb124]? = some (.cells #[.int .i64 a2_0, .int .i64 a2_1] 34 (0, 0))) ∧ Aside0 (wc.heap[gb132]? = some (.cells #[.int .i64 t126, .int .i64 t127, .int .i64 t128, .int .i64 t129, .int .i64 t130] 48 (0, 0))) ∧ Aside0 (Below w.heap.size w wc))
       case first =>
        have H := HC35.out
        clear HC35
        by_cases c36 : t126 = 20
        ·rw [if_pos c36] at H
         have c36b0 : (t126 == 20) = true := beq_iff_eq.mpr c36
         have c36b1 : (t126 != 20) = false := bne_eq_false_iff_eq.mpr c36
         clear c36
         (first | rw [c36b0] | (simp only [i64_w, i32_w]; rw [c36b0]) | skip)
         have H' := K1 H
         clear H
         have hnb37 := NB132_123.out
         have hnc37 := NB123_132.out
         have hnb38 := NB132_124.out
         have hnc38 := NB124_132.out
         obtain ⟨hcz39_0, hcz39_1, hcz39_2, hcz39_3, hcz39_4, hfz39_0, hfz39_1, hfz39_2, hfz39_3, hfz39_4⟩ := cf5 BK132
         have hnb40 := NB123_124.out
         have hnc40 := NB124_123.out
         obtain ⟨hcz41_0, hcz41_1, hcz41_2, hfz41_0, hfz41_1, hfz41_2⟩ := cf3 BK123
         go_wp2
         go_meet
         case rel => exact ⟨_, (decide (t130 ≥ (l0_1.length : Int))), (mF), H', ⟨by have := HJ7.out; first | omega | exact Nat.le_refl _⟩, ⟨mU BK123.out⟩, ⟨mU BK124.out⟩, ⟨mU BK132.out⟩, ⟨mB⟩⟩
        ·rw [if_neg c36] at H
         have c36b0 : (t126 == 20) = false := beq_eq_false_iff_ne.mpr c36
         have c36b1 : (t126 != 20) = true := bne_iff_ne.mpr c36
         (first | rw [c36b0] | (simp only [i64_w, i32_w]; rw [c36b0]) | skip)
         by_cases c42 : t126 = 22
         ·rw [if_pos c42] at H
          have c42b0 : (t126 == 22) = true := beq_iff_eq.mpr c42
          have c42b1 : (t126 != 22) = false := bne_eq_false_iff_eq.mpr c42
          clear c42
          have H' := K1 H
          clear H
          have hnb43 := NB132_123.out
          have hnc43 := NB123_132.out
          have hnb44 := NB132_124.out
          have hnc44 := NB124_132.out
          obtain ⟨hcz45_0, hcz45_1, hcz45_2, hcz45_3, hcz45_4, hfz45_0, hfz45_1, hfz45_2, hfz45_3, hfz45_4⟩ := cf5 BK132
          have hnb46 := NB123_124.out
          have hnc46 := NB124_123.out
          obtain ⟨hcz47_0, hcz47_1, hcz47_2, hfz47_0, hfz47_1, hfz47_2⟩ := cf3 BK123
          go_wp2
          go_meet
          case rel => exact ⟨_, (decide (t130 ≥ (l0_1.length : Int))), (mF), H', ⟨by have := HJ7.out; first | omega | exact Nat.le_refl _⟩, ⟨mU BK123.out⟩, ⟨mU BK124.out⟩, ⟨mU BK132.out⟩, ⟨mB⟩⟩
         ·rw [if_neg c42] at H
          have c42b0 : (t126 == 22) = false := beq_eq_false_iff_ne.mpr c42
          have c42b1 : (t126 != 22) = true := bne_iff_ne.mpr c42
          have H' := K1 H
          clear H
          have hnb48 := NB132_123.out
          have hnc48 := NB123_132.out
          have hnb49 := NB132_124.out
          have hnc49 := NB124_132.out
          obtain ⟨hcz50_0, hcz50_1, hcz50_2, hcz50_3, hcz50_4, hfz50_0, hfz50_1, hfz50_2, hfz50_3, hfz50_4⟩ := cf5 BK132
          go_wp2
          go_meet
          case rel => exact ⟨_, (false), (mF), H', ⟨by have := HJ7.out; first | omega | exact Nat.le_refl _⟩, ⟨mU BK123.out⟩, ⟨mU BK124.out⟩, ⟨mU BK132.out⟩, ⟨mB⟩⟩
       case rest =>
        clear HC35
        obtain ⟨kq, x39_34, rfl, HA, HJ34, BK123, BK124, BK132, HB⟩ := hcut
        cases kq with
        | zero => exact absurd HA.out (by simp [proper_wrong.j1])
        | succ kj34 =>
         have H := HA.out
         clear HA
         simp only [proper_wrong.j1] at H
         by_cases c51 : x39_34 = true
         ·subst c51
          have H1 : (some 81) = some r := by rw [if_pos rfl] at H; exact H
          clear H
          have H := H1
          clear H1
          obtain rfl := Option.some.inj H
          go_wp2
          go_ret
          exact ⟨mE, mB⟩
         ·replace c51 := Bool.eq_false_iff.mpr c51
          subst c51
          have H1 : (if t126 = 34 then (proper_wrong.j2 kj34 a1 (decide (t130 ≥ (l0_2.length : Int))) a2_0 a2_1 t126 t127 t128 t129 t130) else (proper_wrong.j2 kj34 a1 false a2_0 a2_1 t126 t127 t128 t129 t130)) = some r := by rw [if_neg (show ¬ (false = true) by decide)] at H; exact H
          clear H
          have H := H1
          clear H1
          have HC52 := K1 H
          clear H
          go_upto_region 8 with (fail)
          go_cut [56] (fun v56 wc => ∃ (kq : Nat) (x56_51 : Bool), v56 = .bool x56_51 ∧ Aside0 (proper_wrong.j2 kq a1 x56_51 a2_0 a2_1 t126 t127 t128 t129 t130 = some r) ∧ Aside0 (kq ≤ kj34) ∧ Aside0 (wc.heap[gb123]? = some (.cells #[(.slice (some ad125) l0_0.length c0_0), (.slice A0_1 l0_1.length c0_1), (.slice A0_2 l0_2.length c0_2)] 26 (0, 0))) ∧ Aside0 (wc.heap[gb124]? = some (.cells #[.int .i64 a2_0, .int .i64 a2_1] 34 (0, 0))) ∧ Aside0 (wc.heap[gb132]? = some (.cells #[.int .i64 t126, .int .i64 t127, .int .i64 t128, .int .i64 t129, .int .i64 t130] 48 (0, 0))) ∧ Aside0 (Below w.heap.size w wc))
          case first =>
           have H := HC52.out
           clear HC52
           by_cases c53 : t126 = 34
           ·rw [if_pos c53] at H
            have c53b0 : (t126 == 34) = true := beq_iff_eq.mpr c53
            have c53b1 : (t126 != 34) = false := bne_eq_false_iff_eq.mpr c53
            clear c53
            (first | rw [c53b0] | (simp only [i64_w, i32_w]; rw [c53b0]) | skip)
            have H' := K1 H
            clear H
            have hnb54 := NB132_123.out
            have hnc54 := NB123_132.out
            have hnb55 := NB132_124.out
            have hnc55 := NB124_132.out
            obtain ⟨hcz56_0, hcz56_1, hcz56_2, hcz56_3, hcz56_4, hfz56_0, hfz56_1, hfz56_2, hfz56_3, hfz56_4⟩ := cf5 BK132
            have hnb57 := NB123_124.out
            have hnc57 := NB124_123.out
            obtain ⟨hcz58_0, hcz58_1, hcz58_2, hfz58_0, hfz58_1, hfz58_2⟩ := cf3 BK123
            go_wp2
            go_meet
            case rel => exact ⟨_, (decide (t130 ≥ (l0_2.length : Int))), (mF), H', ⟨by have := HJ7.out; have := HJ34.out; first | omega | exact Nat.le_refl _⟩, ⟨mU BK123.out⟩, ⟨mU BK124.out⟩, ⟨mU BK132.out⟩, ⟨mB⟩⟩
           ·rw [if_neg c53] at H
            have c53b0 : (t126 == 34) = false := beq_eq_false_iff_ne.mpr c53
            have c53b1 : (t126 != 34) = true := bne_iff_ne.mpr c53
            (first | rw [c53b0] | (simp only [i64_w, i32_w]; rw [c53b0]) | skip)
            have H' := K1 H
            clear H
            have hnb59 := NB132_123.out
            have hnc59 := NB123_132.out
            have hnb60 := NB132_124.out
            have hnc60 := NB124_132.out
            obtain ⟨hcz61_0, hcz61_1, hcz61_2, hcz61_3, hcz61_4, hfz61_0, hfz61_1, hfz61_2, hfz61_3, hfz61_4⟩ := cf5 BK132
            go_wp2
            go_meet
            case rel => exact ⟨_, (false), (mF), H', ⟨by have := HJ7.out; have := HJ34.out; first | omega | exact Nat.le_refl _⟩, ⟨mU BK123.out⟩, ⟨mU BK124.out⟩, ⟨mU BK132.out⟩, ⟨mB⟩⟩
          case rest =>
           clear HC52
           obtain ⟨kq, x56_51, rfl, HA, HJ51, BK123, BK124, BK132, HB⟩ := hcut
           cases kq with
           | zero => exact absurd HA.out (by simp [proper_wrong.j2])
           | succ kj51 =>
            have H := HA.out
            clear HA
            simp only [proper_wrong.j2] at H
            by_cases c62 : x56_51 = true
            ·subst c62
             have H1 : (some 83) = some r := by rw [if_pos rfl] at H; exact H
             clear H
             have H := H1
             clear H1
             obtain rfl := Option.some.inj H
             go_wp2
             go_ret
             exact ⟨mE, mB⟩
            ·replace c62 := Bool.eq_false_iff.mpr c62
             subst c62
             have H1 : (if a1 = (wrap64 (a2_1 - 1)) then ((proper_ends.f t126).bind fun t134 => (if t134 = true then (some 0) else (some 84))) else (some 0)) = some r := by rw [if_neg (show ¬ (false = true) by decide)] at H; exact H
             clear H
             have H := H1
             clear H1
             by_cases c63 : a1 = (wrap64 (a2_1 - 1))
             ·rw [if_pos c63] at H
              have c63b0 : (a1 == (wrap64 (a2_1 - 1))) = true := beq_iff_eq.mpr c63
              have c63b1 : (a1 != (wrap64 (a2_1 - 1))) = false := bne_eq_false_iff_eq.mpr c63
              clear c63
              replace H := Option.bind_eq_some_iff.mp H
              obtain ⟨t134, A640, H⟩ := H
              replace H : (if t134 = true then (some 0) else (some 84)) = some r := H
              have A64 := K1 A640
              clear A640
              by_cases c65 : t134 = true
              ·subst c65
               have H1 : (some 0) = some r := by rw [if_pos rfl] at H; exact H
               clear H
               have H := H1
               clear H1
               obtain rfl := Option.some.inj H
               have hnb66 := NB124_123.out
               have hnc66 := NB123_124.out
               have hnb67 := NB124_132.out
               have hnc67 := NB132_124.out
               obtain ⟨hcz68_0, hcz68_1, hfz68_0, hfz68_1⟩ := cf2 BK124
               have hnb69 := NB132_123.out
               have hnc69 := NB123_132.out
               obtain ⟨hcz70_0, hcz70_1, hcz70_2, hcz70_3, hcz70_4, hfz70_0, hfz70_1, hfz70_2, hfz70_3, hfz70_4⟩ := cf5 BK132
               go_wp2_with (first | (go_at_call 61; (with_reducible refine (proper_ends.calls t126 true _ A64.out).mono ?_); rintro e w' ⟨rfl, ⟨nd, rfl⟩⟩))
               go_ret
               exact ⟨mE, mB⟩
              ·replace c65 := Bool.eq_false_iff.mpr c65
               subst c65
               have H1 : (some 84) = some r := by rw [if_neg (show ¬ (false = true) by decide)] at H; exact H
               clear H
               have H := H1
               clear H1
               obtain rfl := Option.some.inj H
               have hnb71 := NB124_123.out
               have hnc71 := NB123_124.out
               have hnb72 := NB124_132.out
               have hnc72 := NB132_124.out
               obtain ⟨hcz73_0, hcz73_1, hfz73_0, hfz73_1⟩ := cf2 BK124
               have hnb74 := NB132_123.out
               have hnc74 := NB123_132.out
               obtain ⟨hcz75_0, hcz75_1, hcz75_2, hcz75_3, hcz75_4, hfz75_0, hfz75_1, hfz75_2, hfz75_3, hfz75_4⟩ := cf5 BK132
               go_wp2_with (first | (go_at_call 61; (with_reducible refine (proper_ends.calls t126 false _ A64.out).mono ?_); rintro e w' ⟨rfl, ⟨nd, rfl⟩⟩))
               go_ret
               exact ⟨mE, mB⟩
             ·rw [if_neg c63] at H
              have c63b0 : (a1 == (wrap64 (a2_1 - 1))) = false := beq_eq_false_iff_ne.mpr c63
              have c63b1 : (a1 != (wrap64 (a2_1 - 1))) = true := bne_iff_ne.mpr c63
              obtain rfl := Option.some.inj H
              have hnb76 := NB124_123.out
              have hnc76 := NB123_124.out
              have hnb77 := NB124_132.out
              have hnc77 := NB132_124.out
              obtain ⟨hcz78_0, hcz78_1, hfz78_0, hfz78_1⟩ := cf2 BK124
              go_wp2
              go_ret
              exact ⟨mE, mB⟩
   ·rw [if_neg c7] at H
    have c7b0 : (t131 == 0) = false := beq_eq_false_iff_ne.mpr c7
    have c7b1 : (t131 != 0) = true := bne_iff_ne.mpr c7
    obtain rfl := Option.some.inj H
    go_enter Try.func30, Try.ntmps30
    go_wp2_with (first | ((with_reducible refine gate_dst (N := 3) rfl ?_); (try (refine gate_guard (by rfl) ?_; dsimp only)); refine bev (N := 3) (cs := #[.slice A0_0 l0_0.length c0_0, .slice A0_1 l0_1.length c0_1, .slice A0_2 l0_2.length c0_2]) (t := 26) (h := ?_); intro gb123 hg w79 hbox hb; have BK123 := K1 (hbox); have GW123 := K1 (mG : w.heap.size ≤ gb123); have GE123 := K1 (mG : w.heap.size ≤ gb123); replace HB := K1 (below_step mB hb); clear hb hbox hg) | ((with_reducible refine gate_dst (N := 5) rfl ?_); (try (refine gate_guard (by rfl) ?_; dsimp only)); refine bev (N := 5) (cs := #[.int .i64 a2_0, .int .i64 a2_1]) (t := 34) (h := ?_); intro gb124 hg w80 hbox hb; have BK124 := K1 (hbox); have GW124 := K1 (mG : w.heap.size ≤ gb124); have GE124 := K1 (mG : w.heap.size ≤ gb124); have NB123_124 := K1 (nlt hg (mU BK123.out)); have NB124_123 := K1 (ngt hg (mU BK123.out)); replace BK123 := K1 (blk_below (mU BK123.out) hb); replace HB := K1 (below_step mB hb); clear hb hbox hg; have hnb81 := NB123_124.out; have hnc81 := NB124_123.out; obtain ⟨hcz82_0, hcz82_1, hcz82_2, hfz82_0, hfz82_1, hfz82_2⟩ := cf3 BK123; have p125 : 0 ≤ (a1 : Int) := of_decide_eq_true (mA); have q125 : a1 < (l0_0.length : Int) := of_decide_eq_true (mA); obtain ⟨ad125, e125, hx125_0⟩ := Kd.at_int HR0_0.out a1 p125 q125; cases e125; replace hx125_0 := (HB.out.cell (World.block_lt_of_cell? w _ hx125_0)).trans hx125_0; replace p125 := eq_true p125; replace q125 := eq_true q125) | ((with_reducible refine gate_callee (f := 59) rfl ?_); refine goesL_ (some 15) rfl rfl Try.func59 (by kernel_rfl) rfl #[.int .u32 (rd l0_0 a1)] rfl mL ?_; (with_reducible refine (word_Decode.calls k (rd l0_0 a1) t126 t127 t128 t129 t130 t131 _ A6.out).mono ?_); rintro e w83 ⟨rfl, hb⟩; refine ⟨_, rfl, ?_⟩; replace BK123 := K1 (blk_below (mU BK123.out) hb); replace BK124 := K1 (blk_below (mU BK124.out) hb); replace HB := K1 (below_step mB hb); (try clear hb)) | ((with_reducible refine gate_dst (N := 7) rfl ?_); (try (refine gate_guard (by rfl) ?_; dsimp only)); refine bev (N := 7) (cs := #[.int .i64 0, .int .i64 0, .int .i64 0, .int .i64 0, .int .i64 0]) (t := 48) (h := ?_); intro gb132 hg w84 hbox hb; have BK132 := K1 (hbox); have GW132 := K1 (mG : w.heap.size ≤ gb132); have GE132 := K1 (mG : w.heap.size ≤ gb132); have NB123_132 := K1 (nlt hg (mU BK123.out)); have NB132_123 := K1 (ngt hg (mU BK123.out)); have NB124_132 := K1 (nlt hg (mU BK124.out)); have NB132_124 := K1 (ngt hg (mU BK124.out)); replace BK123 := K1 (blk_below (mU BK123.out) hb); replace BK124 := K1 (blk_below (mU BK124.out) hb); replace HB := K1 (below_step mB hb); clear hb hbox hg; have hnb85 := NB132_123.out; have hnc85 := NB123_132.out; have hnb86 := NB132_124.out; have hnc86 := NB124_132.out; obtain ⟨hcz87_0, hcz87_1, hcz87_2, hcz87_3, hcz87_4, hfz87_0, hfz87_1, hfz87_2, hfz87_3, hfz87_4⟩ := cf5 BK132))
    go_ret
    exact ⟨mE, mB⟩
  ·rw [if_neg c5] at H
   exact absurd H (by simp)
 ·rw [if_neg c4] at H
  exact absurd H (by simp)

end Go.Proofs.Ytdlikjfffdpmiaa.QProper

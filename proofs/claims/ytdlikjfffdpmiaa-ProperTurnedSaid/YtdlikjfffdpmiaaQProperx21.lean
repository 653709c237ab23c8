/- Printed: a function's machine side. Conditions: none. -/
import Derived.Test.YtdlikjfffdpmiaaQProperx0
import Derived.Test.YtdlikjfffdpmiaaQProperx17
import Derived.Test.YtdlikjfffdpmiaaQProperx18
import Derived.Test.YtdlikjfffdpmiaaQProperx100
namespace Go.Proofs.Ytdlikjfffdpmiaa.QProper
open Go.RowKit Go.Proofs.YtdlikjfffdpmiaaW.PrintWords Go.Proofs.YtdlikjfffdpmiaaW.PrintLast Go.Proofs.YtdlikjfffdpmiaaW.PrintMore
set_option linter.unusedVariables false
set_option linter.unusedSimpArgs false

/-! ### rotaref08_wrong: function 33 -/
mutual
def rotaref08_wrong.j0 : Nat → Int → Int → Bool → List Int → List (S34) → List (S58) → Int → Int → Int → Int → Int → Option (Int)
 | 0, _, _, _, _, _, _, _, _, _, _, _ => none
 | k + 1, x1, x7, x22, x173000, x173001, x173002, x181000, x181001, x181002, x181003, x181004 => if x22 = true then (some 82) else (if x181000 = 20 then (rotaref08_wrong.j1 k x1 x7 (decide (x181004 ≥ (x173001.length : Int))) x173000 x173001 x173002 x181000 x181001 x181002 x181003 x181004) else (if x181000 = 22 then (rotaref08_wrong.j1 k x1 x7 (decide (x181004 ≥ (x173001.length : Int))) x173000 x173001 x173002 x181000 x181001 x181002 x181003 x181004) else (rotaref08_wrong.j1 k x1 x7 false x173000 x173001 x173002 x181000 x181001 x181002 x181003 x181004)))
def rotaref08_wrong.j1 : Nat → Int → Int → Bool → List Int → List (S34) → List (S58) → Int → Int → Int → Int → Int → Option (Int)
 | 0, _, _, _, _, _, _, _, _, _, _, _ => none
 | k + 1, x1, x7, x42, x173000, x173001, x173002, x181000, x181001, x181002, x181003, x181004 => if x42 = true then (some 81) else (if x181000 = 34 then (rotaref08_wrong.j2 k x1 x7 (decide (x181004 ≥ (x173002.length : Int))) x173000 x173001 x173002 x181000 x181001 x181002 x181003 x181004) else (rotaref08_wrong.j2 k x1 x7 false x173000 x173001 x173002 x181000 x181001 x181002 x181003 x181004))
def rotaref08_wrong.j2 : Nat → Int → Int → Bool → List Int → List (S34) → List (S58) → Int → Int → Int → Int → Int → Option (Int)
 | 0, _, _, _, _, _, _, _, _, _, _, _ => none
 | k + 1, x1, x7, x59, x173000, x173001, x173002, x181000, x181001, x181002, x181003, x181004 => if x59 = true then (some 83) else (if 0 ≤ x7 then (if x7 < (x173001.length : Int) then (if x1 = (wrap64 (((rd_T34 x173001 x7).f1) - 1)) then ((rotaref08_ends.f x181000).bind fun t185 => (if t185 = true then (some 0) else (some 84))) else (some 0)) else (none)) else (none))
end
def rotaref08_wrong.f (k : Nat) (l0_0 : List Int) (l0_1 : List (S34)) (l0_2 : List (S58)) (a1 : Int) : Option (Int) := if 0 ≤ a1 then (if a1 < (l0_0.length : Int) then ((rotaref06_Decode.f k (rd l0_0 a1)).bind fun bt174 => (if bt174.2.2.2.2.2 = 0 then ((rotaref08_in.f k l0_0 l0_1 l0_2 a1).bind fun t181 => ((rotaref08_jumps.f bt174.1).bind fun t182 => (if t182 = true then (if bt174.2.2.2.2.1 ≥ (l0_0.length : Int) then (rotaref08_wrong.j0 k a1 t181 true l0_0 l0_1 l0_2 bt174.1 bt174.2.1 bt174.2.2.1 bt174.2.2.2.1 bt174.2.2.2.2.1) else ((rotaref08_in.f k l0_0 l0_1 l0_2 bt174.2.2.2.2.1).bind fun t183 => (rotaref08_wrong.j0 k a1 t181 (t183 != t181) l0_0 l0_1 l0_2 bt174.1 bt174.2.1 bt174.2.2.1 bt174.2.2.2.1 bt174.2.2.2.2.1))) else (rotaref08_wrong.j0 k a1 t181 false l0_0 l0_1 l0_2 bt174.1 bt174.2.1 bt174.2.2.1 bt174.2.2.2.1 bt174.2.2.2.2.1)))) else (some 80))) else (none)) else (none)
theorem rotaref08_wrong.mono_l : ∀ k, (∀ y0 y1 y2 y3 y4 y5 y6 y7 y8 y9 y10, LeO (rotaref08_wrong.j0 k y0 y1 y2 y3 y4 y5 y6 y7 y8 y9 y10) (rotaref08_wrong.j0 (k + 1) y0 y1 y2 y3 y4 y5 y6 y7 y8 y9 y10)) ∧ (∀ y0 y1 y2 y3 y4 y5 y6 y7 y8 y9 y10, LeO (rotaref08_wrong.j1 k y0 y1 y2 y3 y4 y5 y6 y7 y8 y9 y10) (rotaref08_wrong.j1 (k + 1) y0 y1 y2 y3 y4 y5 y6 y7 y8 y9 y10)) ∧ (∀ y0 y1 y2 y3 y4 y5 y6 y7 y8 y9 y10, LeO (rotaref08_wrong.j2 k y0 y1 y2 y3 y4 y5 y6 y7 y8 y9 y10) (rotaref08_wrong.j2 (k + 1) y0 y1 y2 y3 y4 y5 y6 y7 y8 y9 y10))
 | 0 => ⟨fun _ _ _ _ _ _ _ _ _ _ _ r h => by simp [rotaref08_wrong.j0] at h, fun _ _ _ _ _ _ _ _ _ _ _ r h => by simp [rotaref08_wrong.j1] at h, fun _ _ _ _ _ _ _ _ _ _ _ r h => by simp [rotaref08_wrong.j2] at h⟩
 | k + 1 => by
  obtain ⟨ih0, ih1, ih2⟩ := rotaref08_wrong.mono_l k
  refine ⟨?_, ?_, ?_⟩
  ·intro y0 y1 y2 y3 y4 y5 y6 y7 y8 y9 y10
   unfold rotaref08_wrong.j0
   repeat' first
   | (with_reducible exact ih0 _ _ _ _ _ _ _ _ _ _ _)
   | (with_reducible exact ih1 _ _ _ _ _ _ _ _ _ _ _)
   | (with_reducible exact ih2 _ _ _ _ _ _ _ _ _ _ _)
   | (with_reducible exact rotaref06_Decode.mono _ _)
   | (with_reducible exact rotaref08_in.mono _ _ _ _ _)
   | (with_reducible exact LeO.refl _)
   | (with_reducible exact LeO.none _)
   | (with_reducible refine LeO.ite ?_ ?_)
   | (with_reducible refine LeO.bind ?_ (fun _ => ?_))
   | exact ih0 _ _ _ _ _ _ _ _ _ _ _
   | exact ih1 _ _ _ _ _ _ _ _ _ _ _
   | exact ih2 _ _ _ _ _ _ _ _ _ _ _
   | exact rotaref06_Decode.mono _ _
   | exact rotaref08_in.mono _ _ _ _ _
   | exact LeO.none _
   | refine LeO.ite ?_ ?_
   | refine LeO.bind ?_ (fun _ => ?_)
  ·intro y0 y1 y2 y3 y4 y5 y6 y7 y8 y9 y10
   unfold rotaref08_wrong.j1
   repeat' first
   | (with_reducible exact ih0 _ _ _ _ _ _ _ _ _ _ _)
   | (with_reducible exact ih1 _ _ _ _ _ _ _ _ _ _ _)
   | (with_reducible exact ih2 _ _ _ _ _ _ _ _ _ _ _)
   | (with_reducible exact rotaref06_Decode.mono _ _)
   | (with_reducible exact rotaref08_in.mono _ _ _ _ _)
   | (with_reducible exact LeO.refl _)
   | (with_reducible exact LeO.none _)
   | (with_reducible refine LeO.ite ?_ ?_)
   | (with_reducible refine LeO.bind ?_ (fun _ => ?_))
   | exact ih0 _ _ _ _ _ _ _ _ _ _ _
   | exact ih1 _ _ _ _ _ _ _ _ _ _ _
   | exact ih2 _ _ _ _ _ _ _ _ _ _ _
   | exact rotaref06_Decode.mono _ _
   | exact rotaref08_in.mono _ _ _ _ _
   | exact LeO.none _
   | refine LeO.ite ?_ ?_
   | refine LeO.bind ?_ (fun _ => ?_)
  ·intro y0 y1 y2 y3 y4 y5 y6 y7 y8 y9 y10
   unfold rotaref08_wrong.j2
   repeat' first
   | (with_reducible exact ih0 _ _ _ _ _ _ _ _ _ _ _)
   | (with_reducible exact ih1 _ _ _ _ _ _ _ _ _ _ _)
   | (with_reducible exact ih2 _ _ _ _ _ _ _ _ _ _ _)
   | (with_reducible exact rotaref06_Decode.mono _ _)
   | (with_reducible exact rotaref08_in.mono _ _ _ _ _)
   | (with_reducible exact LeO.refl _)
   | (with_reducible exact LeO.none _)
   | (with_reducible refine LeO.ite ?_ ?_)
   | (with_reducible refine LeO.bind ?_ (fun _ => ?_))
   | exact ih0 _ _ _ _ _ _ _ _ _ _ _
   | exact ih1 _ _ _ _ _ _ _ _ _ _ _
   | exact ih2 _ _ _ _ _ _ _ _ _ _ _
   | exact rotaref06_Decode.mono _ _
   | exact rotaref08_in.mono _ _ _ _ _
   | exact LeO.none _
   | refine LeO.ite ?_ ?_
   | refine LeO.bind ?_ (fun _ => ?_)
theorem rotaref08_wrong.mono : ∀ a0 a1 a2 a3 k, LeO (rotaref08_wrong.f k a0 a1 a2 a3) (rotaref08_wrong.f (k + 1) a0 a1 a2 a3) := by
 intro a0 a1 a2 a3 k
 obtain ⟨ih0, ih1, ih2⟩ := rotaref08_wrong.mono_l k
 unfold rotaref08_wrong.f
 repeat' first
   | (with_reducible exact ih0 _ _ _ _ _ _ _ _ _ _ _)
   | (with_reducible exact ih1 _ _ _ _ _ _ _ _ _ _ _)
   | (with_reducible exact ih2 _ _ _ _ _ _ _ _ _ _ _)
   | (with_reducible exact rotaref06_Decode.mono _ _)
   | (with_reducible exact rotaref08_in.mono _ _ _ _ _)
   | (with_reducible exact LeO.refl _)
   | (with_reducible exact LeO.none _)
   | (with_reducible refine LeO.ite ?_ ?_)
   | (with_reducible refine LeO.bind ?_ (fun _ => ?_))
   | exact ih0 _ _ _ _ _ _ _ _ _ _ _
   | exact ih1 _ _ _ _ _ _ _ _ _ _ _
   | exact ih2 _ _ _ _ _ _ _ _ _ _ _
   | exact rotaref06_Decode.mono _ _
   | exact rotaref08_in.mono _ _ _ _ _
   | exact LeO.none _
   | refine LeO.ite ?_ ?_
   | refine LeO.bind ?_ (fun _ => ?_)
set_option maxHeartbeats 8000000 in
set_option maxRecDepth 100000 in
theorem rotaref08_wrong.calls (k : Nat) (A0_0 : Option Addr) (c0_0 : Nat) (l0_0 : List Int) (A0_1 : Option Addr) (c0_1 : Nat) (l0_1 : List (S34)) (A0_2 : Option Addr) (c0_2 : Nat) (l0_2 : List (S58)) (a1 : Int) (r : Int) (w : World) (hr0_0 : Kd.C (Kd.int .u32) w A0_0 l0_0.length l0_0) (hc0_0 : l0_0.length ≤ c0_0) (hr0_1 : Kd.C k34 w A0_1 l0_1.length l0_1) (hc0_1 : l0_1.length ≤ c0_1) (hr0_2 : Kd.C k58 w A0_2 l0_2.length l0_2) (hc0_2 : l0_2.length ≤ c0_2) (h : rotaref08_wrong.f k l0_0 l0_1 l0_2 a1 = some r) :
  Calls Try.prog 33 #[.agg #[.slice A0_0 l0_0.length c0_0, .slice A0_1 l0_1.length c0_1, .slice A0_2 l0_2.length c0_2], .int .i64 a1] w fun e w' => e = .returned (.int .i64 r) ∧ Below w.heap.size w w' := by
 have hu26 := Try.underlying26
 have hu48 := Try.underlying48
 have HR0_0 := K1 hr0_0
 have HC0_0 := K1 hc0_0
 clear hr0_0 hc0_0
 have HR0_1 := K1 hr0_1
 have HC0_1 := K1 hc0_1
 clear hr0_1 hc0_1
 have HR0_2 := K1 hr0_2
 have HC0_2 := K1 hc0_2
 clear hr0_2 hc0_2
 have HB := K1 (Below.refl w.heap.size w)
 have H : (if 0 ≤ a1 then (if a1 < (l0_0.length : Int) then ((rotaref06_Decode.f k (rd l0_0 a1)).bind fun bt174 => (if bt174.2.2.2.2.2 = 0 then ((rotaref08_in.f k l0_0 l0_1 l0_2 a1).bind fun t181 => ((rotaref08_jumps.f bt174.1).bind fun t182 => (if t182 = true then (if bt174.2.2.2.2.1 ≥ (l0_0.length : Int) then (rotaref08_wrong.j0 k a1 t181 true l0_0 l0_1 l0_2 bt174.1 bt174.2.1 bt174.2.2.1 bt174.2.2.2.1 bt174.2.2.2.2.1) else ((rotaref08_in.f k l0_0 l0_1 l0_2 bt174.2.2.2.2.1).bind fun t183 => (rotaref08_wrong.j0 k a1 t181 (t183 != t181) l0_0 l0_1 l0_2 bt174.1 bt174.2.1 bt174.2.2.1 bt174.2.2.2.1 bt174.2.2.2.2.1))) else (rotaref08_wrong.j0 k a1 t181 false l0_0 l0_1 l0_2 bt174.1 bt174.2.1 bt174.2.2.1 bt174.2.2.2.1 bt174.2.2.2.2.1)))) else (some 80))) else (none)) else (none)) = some r := h
 clear h
 by_cases c3 : 0 ≤ a1
 ·rw [if_pos c3] at H
  have c3b0 : decide (0 ≤ a1) = true := decide_eq_true c3
  clear c3
  by_cases c4 : a1 < (l0_0.length : Int)
  ·rw [if_pos c4] at H
   have c4b0 : decide (a1 < (l0_0.length : Int)) = true := decide_eq_true c4
   clear c4
   replace H := Option.bind_eq_some_iff.mp H
   obtain ⟨⟨t174, t175, t176, t177, t178, t179⟩, A50, H⟩ := H
   replace H : (if t179 = 0 then ((rotaref08_in.f k l0_0 l0_1 l0_2 a1).bind fun t181 => ((rotaref08_jumps.f t174).bind fun t182 => (if t182 = true then (if t178 ≥ (l0_0.length : Int) then (rotaref08_wrong.j0 k a1 t181 true l0_0 l0_1 l0_2 t174 t175 t176 t177 t178) else ((rotaref08_in.f k l0_0 l0_1 l0_2 t178).bind fun t183 => (rotaref08_wrong.j0 k a1 t181 (t183 != t181) l0_0 l0_1 l0_2 t174 t175 t176 t177 t178))) else (rotaref08_wrong.j0 k a1 t181 false l0_0 l0_1 l0_2 t174 t175 t176 t177 t178)))) else (some 80)) = some r := H
   have A5 := K1 A50
   clear A50
   by_cases c6 : t179 = 0
   ·rw [if_pos c6] at H
    have c6b0 : (t179 == 0) = true := beq_iff_eq.mpr c6
    have c6b1 : (t179 != 0) = false := bne_eq_false_iff_eq.mpr c6
    clear c6
    replace H := Option.bind_eq_some_iff.mp H
    obtain ⟨t181, A70, H⟩ := H
    replace H : ((rotaref08_jumps.f t174).bind fun t182 => (if t182 = true then (if t178 ≥ (l0_0.length : Int) then (rotaref08_wrong.j0 k a1 t181 true l0_0 l0_1 l0_2 t174 t175 t176 t177 t178) else ((rotaref08_in.f k l0_0 l0_1 l0_2 t178).bind fun t183 => (rotaref08_wrong.j0 k a1 t181 (t183 != t181) l0_0 l0_1 l0_2 t174 t175 t176 t177 t178))) else (rotaref08_wrong.j0 k a1 t181 false l0_0 l0_1 l0_2 t174 t175 t176 t177 t178))) = some r := H
    have A7 := K1 A70
    clear A70
    have HC8 := K1 H
    clear H
    go_enter Try.func33, Try.ntmps33
    go_upto_region 5 with (first | ((with_reducible refine gate_dst (N := 2) rfl ?_); (try (refine gate_guard (by rfl) ?_; dsimp only)); refine bev (N := 2) (cs := #[.slice A0_0 l0_0.length c0_0, .slice A0_1 l0_1.length c0_1, .slice A0_2 l0_2.length c0_2]) (t := 26) (h := ?_); intro gb172 hg w9 hbox hb; have BK172 := K1 (hbox); have GW172 := K1 (mG : w.heap.size ≤ gb172); have GE172 := K1 (mG : w.heap.size ≤ gb172); replace HB := K1 (below_step mB hb); clear hb hbox hg; obtain ⟨hcz10_0, hcz10_1, hcz10_2, hfz10_0, hfz10_1, hfz10_2⟩ := cf3 BK172; have p173 : 0 ≤ (a1 : Int) := of_decide_eq_true (mA); have q173 : a1 < (l0_0.length : Int) := of_decide_eq_true (mA); obtain ⟨ad173, e173, hx173_0⟩ := Kd.at_int HR0_0.out a1 p173 q173; cases e173; replace hx173_0 := (HB.out.cell (World.block_lt_of_cell? w _ hx173_0)).trans hx173_0; replace p173 := eq_true p173; replace q173 := eq_true q173) | ((with_reducible refine gate_callee (f := 27) rfl ?_); refine goesL_ (some 14) rfl rfl Try.func27 (by kernel_rfl) rfl #[.int .u32 (rd l0_0 a1)] rfl mL ?_; (with_reducible refine (rotaref06_Decode.calls k (rd l0_0 a1) t174 t175 t176 t177 t178 t179 _ A5.out).mono ?_); rintro e w11 ⟨rfl, hb⟩; refine ⟨_, rfl, ?_⟩; replace BK172 := K1 (blk_below (mU BK172.out) hb); replace HB := K1 (below_step mB hb); (try clear hb)) | ((with_reducible refine gate_dst (N := 5) rfl ?_); (try (refine gate_guard (by rfl) ?_; dsimp only)); refine bev (N := 5) (cs := #[.int .i64 0, .int .i64 0, .int .i64 0, .int .i64 0, .int .i64 0]) (t := 48) (h := ?_); intro gb180 hg w12 hbox hb; have BK180 := K1 (hbox); have GW180 := K1 (mG : w.heap.size ≤ gb180); have GE180 := K1 (mG : w.heap.size ≤ gb180); have NB172_180 := K1 (nlt hg (mU BK172.out)); have NB180_172 := K1 (ngt hg (mU BK172.out)); replace BK172 := K1 (blk_below (mU BK172.out) hb); replace HB := K1 (below_step mB hb); clear hb hbox hg; have hnb13 := NB180_172.out; have hnc13 := NB172_180.out; obtain ⟨hcz14_0, hcz14_1, hcz14_2, hcz14_3, hcz14_4, hfz14_0, hfz14_1, hfz14_2, hfz14_3, hfz14_4⟩ := cf5 BK180; obtain ⟨hcz15_0, hcz15_1, hcz15_2, hfz15_0, hfz15_1, hfz15_2⟩ := cf3 BK172) | ((with_reducible refine gate_callee (f := 38) rfl ?_); refine goesL_ (some 21) rfl rfl Try.func38 (by kernel_rfl) rfl #[.agg #[.slice (some ad173) l0_0.length c0_0, .slice A0_1 l0_1.length c0_1, .slice A0_2 l0_2.length c0_2], .int .i64 a1] rfl mL ?_; (with_reducible refine (rotaref08_in.calls k _ _ l0_0 _ _ l0_1 _ _ l0_2 a1 t181 _ ?side1 ?side2 ?side3 ?side4 ?side5 ?side6 A7.out).mono ?_); (case side1 => exact Kd.C_below HR0_0.out mB); (case side2 => exact HC0_0.out); (case side3 => exact Kd.C_below HR0_1.out mB); (case side4 => exact HC0_1.out); (case side5 => exact Kd.C_below HR0_2.out mB); (case side6 => exact HC0_2.out); rintro e w16 ⟨rfl, hb⟩; refine ⟨_, rfl, ?_⟩; replace BK172 := K1 (blk_below (g := gb172) (o := .cells #[.slice (some ad173) l0_0.length c0_0, .slice A0_1 l0_1.length c0_1, .slice A0_2 l0_2.length c0_2] 26 (0, 0)) (by refine mU ?_; refine blk_far ?_ NB172_180.out _; refine mU ?_; refine blk_far ?_ NB172_180.out _; refine mU ?_; refine blk_far ?_ NB172_180.out _; refine mU ?_; refine blk_far ?_ NB172_180.out _; refine mU ?_; refine blk_far ?_ NB172_180.out _; refine mU ?_; exact BK172.out) hb); replace BK180 := K1 (blk_below (g := gb180) (o := .cells #[.int .i64 t174, .int .i64 t175, .int .i64 t176, .int .i64 t177, .int .i64 t178] 48 (0, 0)) (by refine mU ?_; refine blk_put (cs := #[.int .i64 t174, .int .i64 t175, .int .i64 t176, .int .i64 t177, .int .i64 0]) ?_ 4 _ rfl; refine mU ?_; refine blk_put (cs := #[.int .i64 t174, .int .i64 t175, .int .i64 t176, .int .i64 0, .int .i64 0]) ?_ 3 _ rfl; refine mU ?_; refine blk_put (cs := #[.int .i64 t174, .int .i64 t175, .int .i64 0, .int .i64 0, .int .i64 0]) ?_ 2 _ rfl; refine mU ?_; refine blk_put (cs := #[.int .i64 t174, .int .i64 0, .int .i64 0, .int .i64 0, .int .i64 0]) ?_ 1 _ rfl; refine mU ?_; refine blk_put (cs := #[.int .i64 0, .int .i64 0, .int .i64 0, .int .i64 0, .int .i64 0]) ?_ 0 _ rfl; refine mU ?_; exact BK180.out) hb); replace HB := K1 (below_step mB hb); (try clear hb)))
    (try simp only [Act.put, List.setIfInBounds_toArray, List.set_cons_zero, List.set_cons_succ])
    go_cut [22] (fun v22 wc => ∃ (kq : Nat) (x22_7 : Bool), v22 = .bool x22_7 ∧ Aside0 (rotaref08_wrong.j0 kq a1 t181 x22_7 l0_0 l0_1 l0_2 t174 t175 t176 t177 t178 = some r) ∧ Aside0 (kq ≤ k) ∧ Aside0 (wc.heap[gb172]? = some (.cells #[(.slice (some ad173) l0_0.length c0_0), (.slice A0_1 l0_1.length c0_1), (.slice A0_2 l0_2.length c0_2)] 26 (0, 0))) ∧ Aside0 (wc.heap[gb180]? = some (.cells #[.int .i64 t174, .int .i64 t175, .int .i64 t176, .int .i64 t177, .int .i64 t178] 48 (0, 0))) ∧ Aside0 (Below w.heap.size w wc))
    case first =>
     have H := HC8.out
     clear HC8
     replace H := Option.bind_eq_some_iff.mp H
     obtain ⟨t182, A170, H⟩ := H
     replace H : (if t182 = true then (if t178 ≥ (l0_0.length : Int) then (rotaref08_wrong.j0 k a1 t181 true l0_0 l0_1 l0_2 t174 t175 t176 t177 t178) else ((rotaref08_in.f k l0_0 l0_1 l0_2 t178).bind fun t183 => (rotaref08_wrong.j0 k a1 t181 (t183 != t181) l0_0 l0_1 l0_2 t174 t175 t176 t177 t178))) else (rotaref08_wrong.j0 k a1 t181 false l0_0 l0_1 l0_2 t174 t175 t176 t177 t178)) = some r := H
     have A17 := K1 A170
     clear A170
     by_cases c18 : t182 = true
     ·subst c18
      have H1 : (if t178 ≥ (l0_0.length : Int) then (rotaref08_wrong.j0 k a1 t181 true l0_0 l0_1 l0_2 t174 t175 t176 t177 t178) else ((rotaref08_in.f k l0_0 l0_1 l0_2 t178).bind fun t183 => (rotaref08_wrong.j0 k a1 t181 (t183 != t181) l0_0 l0_1 l0_2 t174 t175 t176 t177 t178))) = some r := by rw [if_pos rfl] at H; exact H
      clear H
      have H := H1
      clear H1
      by_cases c19 : t178 ≥ (l0_0.length : Int)
      ·rw [if_pos c19] at H
       have c19b0 : decide ((l0_0.length : Int) ≤ t178) = true := decide_eq_true c19
       clear c19
       (first | rw [c19b0] | (simp only [i64_w, i32_w]; rw [c19b0]) | skip)
       have H' := K1 H
       clear H
       have hnb20 := NB180_172.out
       have hnc20 := NB172_180.out
       obtain ⟨hcz21_0, hcz21_1, hcz21_2, hcz21_3, hcz21_4, hfz21_0, hfz21_1, hfz21_2, hfz21_3, hfz21_4⟩ := cf5 BK180
       go_wp2_with (first | ((with_reducible refine gate_callee (f := 63) rfl ?_); refine goesL_ (some 25) rfl rfl Try.func63 (by kernel_rfl) rfl #[.int .i64 t174] rfl mL ?_; (with_reducible refine (rotaref08_jumps.calls t174 true _ A17.out).mono ?_); rintro e w' ⟨rfl, ⟨nd, rfl⟩⟩; refine ⟨_, rfl, ?_⟩; obtain ⟨hcz22_0, hcz22_1, hcz22_2, hfz22_0, hfz22_1, hfz22_2⟩ := cf3 BK172))
       go_meet
       case rel => exact ⟨_, (true), (mF), H', ⟨by first | omega | exact Nat.le_refl _⟩, ⟨mU BK172.out⟩, ⟨mU BK180.out⟩, ⟨mB⟩⟩
      ·rw [if_neg c19] at H
       have c19b0 : decide ((l0_0.length : Int) ≤ t178) = false := decide_eq_false c19
       clear c19
       (first | rw [c19b0] | (simp only [i64_w, i32_w]; rw [c19b0]) | skip)
       replace H := Option.bind_eq_some_iff.mp H
       obtain ⟨t183, A230, H⟩ := H
       replace H : (rotaref08_wrong.j0 k a1 t181 (t183 != t181) l0_0 l0_1 l0_2 t174 t175 t176 t177 t178) = some r := H
       have A23 := K1 A230
       clear A230
       have H' := K1 H
       clear H
       have hnb24 := NB180_172.out
       have hnc24 := NB172_180.out
       obtain ⟨hcz25_0, hcz25_1, hcz25_2, hcz25_3, hcz25_4, hfz25_0, hfz25_1, hfz25_2, hfz25_3, hfz25_4⟩ := cf5 BK180
       go_wp2_with (first | ((with_reducible refine gate_callee (f := 63) rfl ?_); refine goesL_ (some 25) rfl rfl Try.func63 (by kernel_rfl) rfl #[.int .i64 t174] rfl mL ?_; (with_reducible refine (rotaref08_jumps.calls t174 true _ A17.out).mono ?_); rintro e w' ⟨rfl, ⟨nd, rfl⟩⟩; refine ⟨_, rfl, ?_⟩; obtain ⟨hcz26_0, hcz26_1, hcz26_2, hfz26_0, hfz26_1, hfz26_2⟩ := cf3 BK172) | (go_at_call 38; (with_reducible refine (rotaref08_in.calls k _ _ l0_0 _ _ l0_1 _ _ l0_2 t178 t183 _ ?side1 ?side2 ?side3 ?side4 ?side5 ?side6 A23.out).mono ?_); (case side1 => repeat (first | exact (Kd.C_below HR0_0.out mB) | (with_reducible refine Kd.C_alloc ?_ _) | (with_reducible refine Kd.C_drewN ?_ _) | (with_reducible refine Kd.C_drew ?_))); (case side2 => exact HC0_0.out); (case side3 => repeat (first | exact (Kd.C_below HR0_1.out mB) | (with_reducible refine Kd.C_alloc ?_ _) | (with_reducible refine Kd.C_drewN ?_ _) | (with_reducible refine Kd.C_drew ?_))); (case side4 => exact HC0_1.out); (case side5 => repeat (first | exact (Kd.C_below HR0_2.out mB) | (with_reducible refine Kd.C_alloc ?_ _) | (with_reducible refine Kd.C_drewN ?_ _) | (with_reducible refine Kd.C_drew ?_))); (case side6 => exact HC0_2.out); rintro e w27 ⟨rfl, hb⟩; replace BK172 := K1 (blk_below (mU BK172.out) hb); replace BK180 := K1 (blk_below (mU BK180.out) hb); replace HB := K1 (below_step mB hb); (try clear hb)))
       go_meet
       case rel => exact ⟨_, ((t183 != t181)), (mF), H', ⟨by first | omega | exact Nat.le_refl _⟩, ⟨mU BK172.out⟩, ⟨mU BK180.out⟩, ⟨mB⟩⟩
     ·replace c18 := Bool.eq_false_iff.mpr c18
      subst c18
      have H1 : (rotaref08_wrong.j0 k a1 t181 false l0_0 l0_1 l0_2 t174 t175 t176 t177 t178) = some r := by rw [if_neg (show ¬ (false = true) by decide)] at H; exact H
      clear H
      have H := H1
      clear H1
      have H' := K1 H
      clear H
      have hnb28 := NB180_172.out
      have hnc28 := NB172_180.out
      obtain ⟨hcz29_0, hcz29_1, hcz29_2, hcz29_3, hcz29_4, hfz29_0, hfz29_1, hfz29_2, hfz29_3, hfz29_4⟩ := cf5 BK180
      go_wp2_with (first | ((with_reducible refine gate_callee (f := 63) rfl ?_); refine goesL_ (some 25) rfl rfl Try.func63 (by kernel_rfl) rfl #[.int .i64 t174] rfl mL ?_; (with_reducible refine (rotaref08_jumps.calls t174 false _ A17.out).mono ?_); rintro e w' ⟨rfl, ⟨nd, rfl⟩⟩; refine ⟨_, rfl, ?_⟩))
      go_meet
      case rel => exact ⟨_, (false), (mF), H', ⟨by first | omega | exact Nat.le_refl _⟩, ⟨mU BK172.out⟩, ⟨mU BK180.out⟩, ⟨mB⟩⟩
    case rest =>
     clear HC8 c3b0 c4b0 c6b0 c6b1 hcz10_0 hcz10_1 hcz10_2 hcz14_0 hcz14_1 hcz14_2 hcz14_3 hcz14_4 hcz15_0 hcz15_1 hcz15_2 hfz10_0 hfz10_1 hfz10_2 hfz14_0 hfz14_1 hfz14_2 hfz14_3 hfz14_4 hfz15_0 hfz15_1 hfz15_2 hx173_0 p173 q173
     obtain ⟨kq, x22_7, rfl, HA, HJ7, BK172, BK180, HB⟩ := hcut
     cases kq with
     | zero => exact absurd HA.out (by simp [rotaref08_wrong.j0])
     | succ kj7 =>
      have H := HA.out
      clear HA
      simp only [rotaref08_wrong.j0] at H
      by_cases c30 : x22_7 = true
      ·subst c30
       have H1 : (some 82) = some r := by rw [if_pos rfl] at H; exact H
       clear H
       have H := H1
       clear H1
       obtain rfl := Option.some.inj H
       go_wp2
       go_ret
       exact ⟨mE, mB⟩
      ·replace c30 := Bool.eq_false_iff.mpr c30
       subst c30
       have H1 : (if t174 = 20 then (rotaref08_wrong.j1 kj7 a1 t181 (decide (t178 ≥ (l0_1.length : Int))) l0_0 l0_1 l0_2 t174 t175 t176 t177 t178) else (if t174 = 22 then (rotaref08_wrong.j1 kj7 a1 t181 (decide (t178 ≥ (l0_1.length : Int))) l0_0 l0_1 l0_2 t174 t175 t176 t177 t178) else (rotaref08_wrong.j1 kj7 a1 t181 false l0_0 l0_1 l0_2 t174 t175 t176 t177 t178))) = some r := by rw [if_neg (show ¬ (false = true) by decide)] at H; exact H
       clear H
       have H := H1
       clear H1
       have HC31 := K1 H
       clear H
       go_upto_region 7 with (fail)
       go_cut [42] (fun v42 wc => ∃ (kq : Nat) (x42_30 : Bool), v42 = .bool x42_30 ∧ Aside0 (rotaref08_wrong.j1 kq a1 t181 x42_30 l0_0 l0_1 l0_2 t174 t175 t176 t177 t178 = some r) ∧ Aside0 (kq ≤ kj7) ∧ Aside0 (wc.heap[gb172]? = some (.cells #[(.slice (some ad173) l0_0.length c0_0), (.slice A0_1 l0_1.length c0_1), (.slice A0_2 l0_2.length c0_2)] 26 (0, 0))) ∧ Aside0 (wc.heap[gb180]? = some (.cells #[.int .i64 t174, .int .i64 t175, .int .i64 t176, .int .i64 t177, .int .i64 t178] 48 (0, 0))) ∧ Aside0 (Below w.heap.size w wc))
       case first =>
        have H := HC31.out
        clear HC31
        by_cases c32 : t174 = 20
        ·rw [if_pos c32] at H
         have c32b0 : (t174 == 20) = true := beq_iff_eq.mpr c32
         have c32b1 : (t174 != 20) = false := bne_eq_false_iff_eq.mpr c32
         clear c32
         (first | rw [c32b0] | (simp only [i64_w, i32_w]; rw [c32b0]) | skip)
         have H' := K1 H
         clear H
         have hnb33 := NB180_172.out
         have hnc33 := NB172_180.out
         obtain ⟨hcz34_0, hcz34_1, hcz34_2, hcz34_3, hcz34_4, hfz34_0, hfz34_1, hfz34_2, hfz34_3, hfz34_4⟩ := cf5 BK180
         obtain ⟨hcz35_0, hcz35_1, hcz35_2, hfz35_0, hfz35_1, hfz35_2⟩ := cf3 BK172
         go_wp2
         go_meet
         case rel => exact ⟨_, (decide (t178 ≥ (l0_1.length : Int))), (mF), H', ⟨by have := HJ7.out; first | omega | exact Nat.le_refl _⟩, ⟨mU BK172.out⟩, ⟨mU BK180.out⟩, ⟨mB⟩⟩
        ·rw [if_neg c32] at H
         have c32b0 : (t174 == 20) = false := beq_eq_false_iff_ne.mpr c32
         have c32b1 : (t174 != 20) = true := bne_iff_ne.mpr c32
         (first | rw [c32b0] | (simp only [i64_w, i32_w]; rw [c32b0]) | skip)
         by_cases c36 : t174 = 22
         ·rw [if_pos c36] at H
          have c36b0 : (t174 == 22) = true := beq_iff_eq.mpr c36
          have c36b1 : (t174 != 22) = false := bne_eq_false_iff_eq.mpr c36
          clear c36
          have H' := K1 H
          clear H
          have hnb37 := NB180_172.out
          have hnc37 := NB172_180.out
          obtain ⟨hcz38_0, hcz38_1, hcz38_2, hcz38_3, hcz38_4, hfz38_0, hfz38_1, hfz38_2, hfz38_3, hfz38_4⟩ := cf5 BK180
          obtain ⟨hcz39_0, hcz39_1, hcz39_2, hfz39_0, hfz39_1, hfz39_2⟩ := cf3 BK172
          go_wp2
          go_meet
          case rel => exact ⟨_, (decide (t178 ≥ (l0_1.length : Int))), (mF), H', ⟨by have := HJ7.out; first | omega | exact Nat.le_refl _⟩, ⟨mU BK172.out⟩, ⟨mU BK180.out⟩, ⟨mB⟩⟩
         ·rw [if_neg c36] at H
          have c36b0 : (t174 == 22) = false := beq_eq_false_iff_ne.mpr c36
          have c36b1 : (t174 != 22) = true := bne_iff_ne.mpr c36
          have H' := K1 H
          clear H
          have hnb40 := NB180_172.out
          have hnc40 := NB172_180.out
          obtain ⟨hcz41_0, hcz41_1, hcz41_2, hcz41_3, hcz41_4, hfz41_0, hfz41_1, hfz41_2, hfz41_3, hfz41_4⟩ := cf5 BK180
          go_wp2
          go_meet
          case rel => exact ⟨_, (false), (mF), H', ⟨by have := HJ7.out; first | omega | exact Nat.le_refl _⟩, ⟨mU BK172.out⟩, ⟨mU BK180.out⟩, ⟨mB⟩⟩
       case rest =>
        clear HC31
        obtain ⟨kq, x42_30, rfl, HA, HJ30, BK172, BK180, HB⟩ := hcut
        cases kq with
        | zero => exact absurd HA.out (by simp [rotaref08_wrong.j1])
        | succ kj30 =>
         have H := HA.out
         clear HA
         simp only [rotaref08_wrong.j1] at H
         by_cases c42 : x42_30 = true
         ·subst c42
          have H1 : (some 81) = some r := by rw [if_pos rfl] at H; exact H
          clear H
          have H := H1
          clear H1
          obtain rfl := Option.some.inj H
          go_wp2
          go_ret
          exact ⟨mE, mB⟩
         ·replace c42 := Bool.eq_false_iff.mpr c42
          subst c42
          have H1 : (if t174 = 34 then (rotaref08_wrong.j2 kj30 a1 t181 (decide (t178 ≥ (l0_2.length : Int))) l0_0 l0_1 l0_2 t174 t175 t176 t177 t178) else (rotaref08_wrong.j2 kj30 a1 t181 false l0_0 l0_1 l0_2 t174 t175 t176 t177 t178)) = some r := by rw [if_neg (show ¬ (false = true) by decide)] at H; exact H
          clear H
          have H := H1
          clear H1
          have HC43 := K1 H
          clear H
          go_upto_region 9 with (fail)
          go_cut [59] (fun v59 wc => ∃ (kq : Nat) (x59_42 : Bool), v59 = .bool x59_42 ∧ Aside0 (rotaref08_wrong.j2 kq a1 t181 x59_42 l0_0 l0_1 l0_2 t174 t175 t176 t177 t178 = some r) ∧ Aside0 (kq ≤ kj30) ∧ Aside0 (wc.heap[gb172]? = some (.cells #[(.slice (some ad173) l0_0.length c0_0), (.slice A0_1 l0_1.length c0_1), (.slice A0_2 l0_2.length c0_2)] 26 (0, 0))) ∧ Aside0 (wc.heap[gb180]? = some (.cells #[.int .i64 t174, .int .i64 t175, .int .i64 t176, .int .i64 t177, .int .i64 t178] 48 (0, 0))) ∧ Aside0 (Below w.heap.size w wc))
          case first =>
           have H := HC43.out
           clear HC43
           by_cases c44 : t174 = 34
           ·rw [if_pos c44] at H
            have c44b0 : (t174 == 34) = true := beq_iff_eq.mpr c44
            have c44b1 : (t174 != 34) = false := bne_eq_false_iff_eq.mpr c44
            clear c44
            (first | rw [c44b0] | (simp only [i64_w, i32_w]; rw [c44b0]) | skip)
            have H' := K1 H
            clear H
            have hnb45 := NB180_172.out
            have hnc45 := NB172_180.out
            obtain ⟨hcz46_0, hcz46_1, hcz46_2, hcz46_3, hcz46_4, hfz46_0, hfz46_1, hfz46_2, hfz46_3, hfz46_4⟩ := cf5 BK180
            obtain ⟨hcz47_0, hcz47_1, hcz47_2, hfz47_0, hfz47_1, hfz47_2⟩ := cf3 BK172
            go_wp2
            go_meet
            case rel => exact ⟨_, (decide (t178 ≥ (l0_2.length : Int))), (mF), H', ⟨by have := HJ7.out; have := HJ30.out; first | omega | exact Nat.le_refl _⟩, ⟨mU BK172.out⟩, ⟨mU BK180.out⟩, ⟨mB⟩⟩
           ·rw [if_neg c44] at H
            have c44b0 : (t174 == 34) = false := beq_eq_false_iff_ne.mpr c44
            have c44b1 : (t174 != 34) = true := bne_iff_ne.mpr c44
            (first | rw [c44b0] | (simp only [i64_w, i32_w]; rw [c44b0]) | skip)
            have H' := K1 H
            clear H
            have hnb48 := NB180_172.out
            have hnc48 := NB172_180.out
            obtain ⟨hcz49_0, hcz49_1, hcz49_2, hcz49_3, hcz49_4, hfz49_0, hfz49_1, hfz49_2, hfz49_3, hfz49_4⟩ := cf5 BK180
            go_wp2
            go_meet
            case rel => exact ⟨_, (false), (mF), H', ⟨by have := HJ7.out; have := HJ30.out; first | omega | exact Nat.le_refl _⟩, ⟨mU BK172.out⟩, ⟨mU BK180.out⟩, ⟨mB⟩⟩
          case rest =>
           clear HC43
           obtain ⟨kq, x59_42, rfl, HA, HJ42, BK172, BK180, HB⟩ := hcut
           cases kq with
           | zero => exact absurd HA.out (by simp [rotaref08_wrong.j2])
           | succ kj42 =>
            have H := HA.out
            clear HA
            simp only [rotaref08_wrong.j2] at H
            by_cases c50 : x59_42 = true
            ·subst c50
             have H1 : (some 83) = some r := by rw [if_pos rfl] at H; exact H
             clear H
             have H := H1
             clear H1
             obtain rfl := Option.some.inj H
             go_wp2
             go_ret
             exact ⟨mE, mB⟩
            ·replace c50 := Bool.eq_false_iff.mpr c50
             subst c50
             have H1 : (if 0 ≤ t181 then (if t181 < (l0_1.length : Int) then (if a1 = (wrap64 (((rd_T34 l0_1 t181).f1) - 1)) then ((rotaref08_ends.f t174).bind fun t185 => (if t185 = true then (some 0) else (some 84))) else (some 0)) else (none)) else (none)) = some r := by rw [if_neg (show ¬ (false = true) by decide)] at H; exact H
             clear H
             have H := H1
             clear H1
             by_cases c51 : 0 ≤ t181
             ·rw [if_pos c51] at H
              have c51b0 : decide (0 ≤ t181) = true := decide_eq_true c51
              clear c51
              by_cases c52 : t181 < (l0_1.length : Int)
              ·rw [if_pos c52] at H
               have c52b0 : decide (t181 < (l0_1.length : Int)) = true := decide_eq_true c52
               clear c52
               by_cases c53 : a1 = (wrap64 (((rd_T34 l0_1 t181).f1) - 1))
               ·rw [if_pos c53] at H
                have c53b0 : (a1 == (wrap64 (((rd_T34 l0_1 t181).f1) - 1))) = true := beq_iff_eq.mpr c53
                have c53b1 : (a1 != (wrap64 (((rd_T34 l0_1 t181).f1) - 1))) = false := bne_eq_false_iff_eq.mpr c53
                clear c53
                replace H := Option.bind_eq_some_iff.mp H
                obtain ⟨t185, A540, H⟩ := H
                replace H : (if t185 = true then (some 0) else (some 84)) = some r := H
                have A54 := K1 A540
                clear A540
                by_cases c55 : t185 = true
                ·subst c55
                 have H1 : (some 0) = some r := by rw [if_pos rfl] at H; exact H
                 clear H
                 have H := H1
                 clear H1
                 obtain rfl := Option.some.inj H
                 have hnb56 := NB172_180.out
                 have hnc56 := NB180_172.out
                 obtain ⟨hcz57_0, hcz57_1, hcz57_2, hfz57_0, hfz57_1, hfz57_2⟩ := cf3 BK172
                 have p184 : 0 ≤ (t181 : Int) := of_decide_eq_true (mA)
                 have q184 : t181 < (l0_1.length : Int) := of_decide_eq_true (mA)
                 obtain ⟨ad184, e184, hx184_0, hx184_1⟩ := at_T34 HR0_1.out t181 p184 q184
                 cases e184
                 replace hx184_0 := (HB.out.cell (World.block_lt_of_cell? w _ hx184_0)).trans hx184_0
                 replace hx184_1 := (HB.out.cell (World.block_lt_of_cell? w _ hx184_1)).trans hx184_1
                 replace p184 := eq_true p184
                 replace q184 := eq_true q184
                 obtain ⟨hcz58_0, hcz58_1, hcz58_2, hcz58_3, hcz58_4, hfz58_0, hfz58_1, hfz58_2, hfz58_3, hfz58_4⟩ := cf5 BK180
                 go_wp2_with (first | (go_at_call 64; (with_reducible refine (rotaref08_ends.calls t174 true _ A54.out).mono ?_); rintro e w' ⟨rfl, ⟨nd, rfl⟩⟩))
                 go_ret
                 exact ⟨mE, mB⟩
                ·replace c55 := Bool.eq_false_iff.mpr c55
                 subst c55
                 have H1 : (some 84) = some r := by rw [if_neg (show ¬ (false = true) by decide)] at H; exact H
                 clear H
                 have H := H1
                 clear H1
                 obtain rfl := Option.some.inj H
                 have hnb59 := NB172_180.out
                 have hnc59 := NB180_172.out
                 obtain ⟨hcz60_0, hcz60_1, hcz60_2, hfz60_0, hfz60_1, hfz60_2⟩ := cf3 BK172
                 have p184 : 0 ≤ (t181 : Int) := of_decide_eq_true (mA)
                 have q184 : t181 < (l0_1.length : Int) := of_decide_eq_true (mA)
                 obtain ⟨ad184, e184, hx184_0, hx184_1⟩ := at_T34 HR0_1.out t181 p184 q184
                 cases e184
                 replace hx184_0 := (HB.out.cell (World.block_lt_of_cell? w _ hx184_0)).trans hx184_0
                 replace hx184_1 := (HB.out.cell (World.block_lt_of_cell? w _ hx184_1)).trans hx184_1
                 replace p184 := eq_true p184
                 replace q184 := eq_true q184
                 obtain ⟨hcz61_0, hcz61_1, hcz61_2, hcz61_3, hcz61_4, hfz61_0, hfz61_1, hfz61_2, hfz61_3, hfz61_4⟩ := cf5 BK180
                 go_wp2_with (first | (go_at_call 64; (with_reducible refine (rotaref08_ends.calls t174 false _ A54.out).mono ?_); rintro e w' ⟨rfl, ⟨nd, rfl⟩⟩))
                 go_ret
                 exact ⟨mE, mB⟩
               ·rw [if_neg c53] at H
                have c53b0 : (a1 == (wrap64 (((rd_T34 l0_1 t181).f1) - 1))) = false := beq_eq_false_iff_ne.mpr c53
                have c53b1 : (a1 != (wrap64 (((rd_T34 l0_1 t181).f1) - 1))) = true := bne_iff_ne.mpr c53
                obtain rfl := Option.some.inj H
                have hnb62 := NB172_180.out
                have hnc62 := NB180_172.out
                obtain ⟨hcz63_0, hcz63_1, hcz63_2, hfz63_0, hfz63_1, hfz63_2⟩ := cf3 BK172
                have p184 : 0 ≤ (t181 : Int) := of_decide_eq_true (mA)
                have q184 : t181 < (l0_1.length : Int) := of_decide_eq_true (mA)
                obtain ⟨ad184, e184, hx184_0, hx184_1⟩ := at_T34 HR0_1.out t181 p184 q184
                cases e184
                replace hx184_0 := (HB.out.cell (World.block_lt_of_cell? w _ hx184_0)).trans hx184_0
                replace hx184_1 := (HB.out.cell (World.block_lt_of_cell? w _ hx184_1)).trans hx184_1
                replace p184 := eq_true p184
                replace q184 := eq_true q184
                go_wp2
                go_ret
                exact ⟨mE, mB⟩
              ·rw [if_neg c52] at H
               exact absurd H (by simp)
             ·rw [if_neg c51] at H
              exact absurd H (by simp)
   ·rw [if_neg c6] at H
    have c6b0 : (t179 == 0) = false := beq_eq_false_iff_ne.mpr c6
    have c6b1 : (t179 != 0) = true := bne_iff_ne.mpr c6
    obtain rfl := Option.some.inj H
    go_enter Try.func33, Try.ntmps33
    go_wp2_with (first | ((with_reducible refine gate_dst (N := 2) rfl ?_); (try (refine gate_guard (by rfl) ?_; dsimp only)); refine bev (N := 2) (cs := #[.slice A0_0 l0_0.length c0_0, .slice A0_1 l0_1.length c0_1, .slice A0_2 l0_2.length c0_2]) (t := 26) (h := ?_); intro gb172 hg w64 hbox hb; have BK172 := K1 (hbox); have GW172 := K1 (mG : w.heap.size ≤ gb172); have GE172 := K1 (mG : w.heap.size ≤ gb172); replace HB := K1 (below_step mB hb); clear hb hbox hg; obtain ⟨hcz65_0, hcz65_1, hcz65_2, hfz65_0, hfz65_1, hfz65_2⟩ := cf3 BK172; have p173 : 0 ≤ (a1 : Int) := of_decide_eq_true (mA); have q173 : a1 < (l0_0.length : Int) := of_decide_eq_true (mA); obtain ⟨ad173, e173, hx173_0⟩ := Kd.at_int HR0_0.out a1 p173 q173; cases e173; replace hx173_0 := (HB.out.cell (World.block_lt_of_cell? w _ hx173_0)).trans hx173_0; replace p173 := eq_true p173; replace q173 := eq_true q173) | ((with_reducible refine gate_callee (f := 27) rfl ?_); refine goesL_ (some 14) rfl rfl Try.func27 (by kernel_rfl) rfl #[.int .u32 (rd l0_0 a1)] rfl mL ?_; (with_reducible refine (rotaref06_Decode.calls k (rd l0_0 a1) t174 t175 t176 t177 t178 t179 _ A5.out).mono ?_); rintro e w66 ⟨rfl, hb⟩; refine ⟨_, rfl, ?_⟩; replace BK172 := K1 (blk_below (mU BK172.out) hb); replace HB := K1 (below_step mB hb); (try clear hb)) | ((with_reducible refine gate_dst (N := 5) rfl ?_); (try (refine gate_guard (by rfl) ?_; dsimp only)); refine bev (N := 5) (cs := #[.int .i64 0, .int .i64 0, .int .i64 0, .int .i64 0, .int .i64 0]) (t := 48) (h := ?_); intro gb180 hg w67 hbox hb; have BK180 := K1 (hbox); have GW180 := K1 (mG : w.heap.size ≤ gb180); have GE180 := K1 (mG : w.heap.size ≤ gb180); have NB172_180 := K1 (nlt hg (mU BK172.out)); have NB180_172 := K1 (ngt hg (mU BK172.out)); replace BK172 := K1 (blk_below (mU BK172.out) hb); replace HB := K1 (below_step mB hb); clear hb hbox hg; have hnb68 := NB180_172.out; have hnc68 := NB172_180.out; obtain ⟨hcz69_0, hcz69_1, hcz69_2, hcz69_3, hcz69_4, hfz69_0, hfz69_1, hfz69_2, hfz69_3, hfz69_4⟩ := cf5 BK180))
    go_ret
    exact ⟨mE, mB⟩
  ·rw [if_neg c4] at H
   exact absurd H (by simp)
 ·rw [if_neg c3] at H
  exact absurd H (by simp)

end Go.Proofs.Ytdlikjfffdpmiaa.QProper

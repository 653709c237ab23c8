/- Printed: a function's machine side. Conditions: none. -/
import Derived.Test.YtdlikjfffdpmiaaQProperx0
import Derived.Test.YtdlikjfffdpmiaaQProperx17
import Derived.Test.YtdlikjfffdpmiaaQProperx24
import Derived.Test.YtdlikjfffdpmiaaQProperx40
import Derived.Test.YtdlikjfffdpmiaaQProperx100
import Derived.Test.YtdlikjfffdpmiaaQProperx49
import Derived.Test.YtdlikjfffdpmiaaProperDM
namespace Go.Proofs.Ytdlikjfffdpmiaa.QProper
open Go.RowKit Go.Proofs.YtdlikjfffdpmiaaW.PrintWords Go.Proofs.YtdlikjfffdpmiaaW.PrintLast Go.Proofs.YtdlikjfffdpmiaaW.PrintMore
set_option linter.unusedVariables false
set_option linter.unusedSimpArgs false

/-! ### rotalaw08_ProperDeep: function 11 -/
mutual
def rotalaw08_ProperDeep.j0 : Nat → Int → List Int → Int → List Int → Bool → List Int → List (S34) → List (S58) → Option (Bool)
 | 0, _, _, _, _, _, _, _, _ => none
 | k + 1, x1, x2, x7, x9, x46, x532000, x532001, x532002 => if x46 = true then (some false) else (rotalaw08_ProperDeep.l0 k x2 x7 x9 x1 0 x532000 x532001 x532002)
def rotalaw08_ProperDeep.l0 : Nat → List Int → Int → List Int → Int → Int → List Int → List (S34) → List (S58) → Option (Bool)
 | 0, _, _, _, _, _, _, _, _ => none
 | k + 1, x2, x7, x9, x11, x12, x532000, x532001, x532002 => if x12 < (x2.length : Int) then ((proper_Reach.f k x532000 x532001 x532002 x11).bind fun bt539 => (rotalaw08_ProperDeep.l1 k x2 x7 x9 x12 bt539.1 ([] : List Int) 0 x532000 x532001 x532002)) else (some true)
def rotalaw08_ProperDeep.l1 : Nat → List Int → Int → List Int → Int → List Int → List Int → Int → List Int → List (S34) → List (S58) → Option (Bool)
 | 0, _, _, _, _, _, _, _, _, _, _ => none
 | k + 1, x2, x7, x9, x12, x13, x15, x16, x532000, x532001, x532002 => if x16 < (x13.length : Int) then (if 0 ≤ x16 then (if 0 ≤ (rd x13 x16) then (if (rd x13 x16) < (x532000.length : Int) then ((rotaref06_Decode.f k (rd x532000 (rd x13 x16))).bind fun bt545 => (if bt545.1 = 20 then (if x15.length < 17592186044416 then (rotalaw08_ProperDeep.l1 k x2 x7 x9 x12 x13 (x15 ++ [bt545.2.2.2.2.1]) (wrap64 (x16 + 1)) x532000 x532001 x532002) else (none)) else (rotalaw08_ProperDeep.l1 k x2 x7 x9 x12 x13 x15 (wrap64 (x16 + 1)) x532000 x532001 x532002))) else (none)) else (none)) else (none)) else (if (x15.length : Int) = 0 then (some true) else (if x7 ≥ 0 then (rotalaw08_ProperDeep.j3 k x2 x7 x9 x12 x15 (decide (x12 ≥ x7)) x532000 x532001 x532002) else (rotalaw08_ProperDeep.j3 k x2 x7 x9 x12 x15 false x532000 x532001 x532002)))
def rotalaw08_ProperDeep.j3 : Nat → List Int → Int → List Int → Int → List Int → Bool → List Int → List (S34) → List (S58) → Option (Bool)
 | 0, _, _, _, _, _, _, _, _, _ => none
 | k + 1, x2, x7, x9, x12, x15, x95, x532000, x532001, x532002 => if x95 = true then (some false) else (if 0 ≤ x12 then (if x12 < (x2.length : Int) then (if (x15.length : Int) = 0 then (none) else (if 0 ≤ (Int.tmod (wrap64 (rd x2 x12)) (x15.length : Int)) then (if (Int.tmod (wrap64 (rd x2 x12)) (x15.length : Int)) < (x15.length : Int) then ((rotalaw08_has.f k x9 (rd x15 (Int.tmod (wrap64 (rd x2 x12)) (x15.length : Int)))).bind fun t557 => (if t557 = true then (rotalaw08_ProperDeep.l0 k x2 x7 x9 (rd x15 (Int.tmod (wrap64 (rd x2 x12)) (x15.length : Int))) (wrap64 (x12 + 1)) x532000 x532001 x532002) else (some false))) else (none)) else (none))) else (none)) else (none))
end
def rotalaw08_ProperDeep.f (k : Nat) (l0_0 : List Int) (l0_1 : List (S34)) (l0_2 : List (S58)) (a1 : Int) (l2 : List Int) : Option (Bool) := (proper_Depth.f k l0_0 l0_1 l0_2 a1).bind fun bt532 => (if bt532.2 = 0 then ((proper_Calls.f k l0_0 l0_1 l0_2 a1 false).bind fun bt535 => (if bt532.1 ≥ (bt535.1.length : Int) then (rotalaw08_ProperDeep.j0 k a1 l2 bt532.1 bt535.1 true l0_0 l0_1 l0_2) else (rotalaw08_ProperDeep.j0 k a1 l2 bt532.1 bt535.1 (decide (bt532.1 < (-1))) l0_0 l0_1 l0_2))) else (if bt532.1 = 0 then ((rotalaw08_awake.f k).bind fun t534 => (some t534)) else (some false)))
theorem rotalaw08_ProperDeep.mono_l : ∀ k, (∀ y0 y1 y2 y3 y4 y5 y6 y7, LeO (rotalaw08_ProperDeep.j0 k y0 y1 y2 y3 y4 y5 y6 y7) (rotalaw08_ProperDeep.j0 (k + 1) y0 y1 y2 y3 y4 y5 y6 y7)) ∧ (∀ y0 y1 y2 y3 y4 y5 y6 y7, LeO (rotalaw08_ProperDeep.l0 k y0 y1 y2 y3 y4 y5 y6 y7) (rotalaw08_ProperDeep.l0 (k + 1) y0 y1 y2 y3 y4 y5 y6 y7)) ∧ (∀ y0 y1 y2 y3 y4 y5 y6 y7 y8 y9, LeO (rotalaw08_ProperDeep.l1 k y0 y1 y2 y3 y4 y5 y6 y7 y8 y9) (rotalaw08_ProperDeep.l1 (k + 1) y0 y1 y2 y3 y4 y5 y6 y7 y8 y9)) ∧ (∀ y0 y1 y2 y3 y4 y5 y6 y7 y8, LeO (rotalaw08_ProperDeep.j3 k y0 y1 y2 y3 y4 y5 y6 y7 y8) (rotalaw08_ProperDeep.j3 (k + 1) y0 y1 y2 y3 y4 y5 y6 y7 y8))
 | 0 => ⟨fun _ _ _ _ _ _ _ _ r h => by simp [rotalaw08_ProperDeep.j0] at h, fun _ _ _ _ _ _ _ _ r h => by simp [rotalaw08_ProperDeep.l0] at h, fun _ _ _ _ _ _ _ _ _ _ r h => by simp [rotalaw08_ProperDeep.l1] at h, fun _ _ _ _ _ _ _ _ _ r h => by simp [rotalaw08_ProperDeep.j3] at h⟩
 | k + 1 => by
  obtain ⟨ih0, ih1, ih2, ih3⟩ := rotalaw08_ProperDeep.mono_l k
  refine ⟨?_, ?_, ?_, ?_⟩
  ·intro y0 y1 y2 y3 y4 y5 y6 y7
   unfold rotalaw08_ProperDeep.j0
   repeat' first
   | (with_reducible exact ih0 _ _ _ _ _ _ _ _)
   | (with_reducible exact ih1 _ _ _ _ _ _ _ _)
   | (with_reducible exact ih2 _ _ _ _ _ _ _ _ _ _)
   | (with_reducible exact ih3 _ _ _ _ _ _ _ _ _)
   | (with_reducible exact proper_Calls.mono _ _ _ _ _ _)
   | (with_reducible exact proper_Depth.mono _ _ _ _ _)
   | (with_reducible exact proper_Reach.mono _ _ _ _ _)
   | (with_reducible exact rotalaw08_awake.mono _)
   | (with_reducible exact rotalaw08_has.mono _ _ _)
   | (with_reducible exact rotaref06_Decode.mono _ _)
   | (with_reducible exact LeO.refl _)
   | (with_reducible exact LeO.none _)
   | (with_reducible refine LeO.ite ?_ ?_)
   | (with_reducible refine LeO.bind ?_ (fun _ => ?_))
   | exact ih0 _ _ _ _ _ _ _ _
   | exact ih1 _ _ _ _ _ _ _ _
   | exact ih2 _ _ _ _ _ _ _ _ _ _
   | exact ih3 _ _ _ _ _ _ _ _ _
   | exact proper_Calls.mono _ _ _ _ _ _
   | exact proper_Depth.mono _ _ _ _ _
   | exact proper_Reach.mono _ _ _ _ _
   | exact rotalaw08_awake.mono _
   | exact rotalaw08_has.mono _ _ _
   | exact rotaref06_Decode.mono _ _
   | exact LeO.none _
   | refine LeO.ite ?_ ?_
   | refine LeO.bind ?_ (fun _ => ?_)
  ·intro y0 y1 y2 y3 y4 y5 y6 y7
   unfold rotalaw08_ProperDeep.l0
   repeat' first
   | (with_reducible exact ih0 _ _ _ _ _ _ _ _)
   | (with_reducible exact ih1 _ _ _ _ _ _ _ _)
   | (with_reducible exact ih2 _ _ _ _ _ _ _ _ _ _)
   | (with_reducible exact ih3 _ _ _ _ _ _ _ _ _)
   | (with_reducible exact proper_Calls.mono _ _ _ _ _ _)
   | (with_reducible exact proper_Depth.mono _ _ _ _ _)
   | (with_reducible exact proper_Reach.mono _ _ _ _ _)
   | (with_reducible exact rotalaw08_awake.mono _)
   | (with_reducible exact rotalaw08_has.mono _ _ _)
   | (with_reducible exact rotaref06_Decode.mono _ _)
   | (with_reducible exact LeO.refl _)
   | (with_reducible exact LeO.none _)
   | (with_reducible refine LeO.ite ?_ ?_)
   | (with_reducible refine LeO.bind ?_ (fun _ => ?_))
   | exact ih0 _ _ _ _ _ _ _ _
   | exact ih1 _ _ _ _ _ _ _ _
   | exact ih2 _ _ _ _ _ _ _ _ _ _
   | exact ih3 _ _ _ _ _ _ _ _ _
   | exact proper_Calls.mono _ _ _ _ _ _
   | exact proper_Depth.mono _ _ _ _ _
   | exact proper_Reach.mono _ _ _ _ _
   | exact rotalaw08_awake.mono _
   | exact rotalaw08_has.mono _ _ _
   | exact rotaref06_Decode.mono _ _
   | exact LeO.none _
   | refine LeO.ite ?_ ?_
   | refine LeO.bind ?_ (fun _ => ?_)
  ·intro y0 y1 y2 y3 y4 y5 y6 y7 y8 y9
   unfold rotalaw08_ProperDeep.l1
   repeat' first
   | (with_reducible exact ih0 _ _ _ _ _ _ _ _)
   | (with_reducible exact ih1 _ _ _ _ _ _ _ _)
   | (with_reducible exact ih2 _ _ _ _ _ _ _ _ _ _)
   | (with_reducible exact ih3 _ _ _ _ _ _ _ _ _)
   | (with_reducible exact proper_Calls.mono _ _ _ _ _ _)
   | (with_reducible exact proper_Depth.mono _ _ _ _ _)
   | (with_reducible exact proper_Reach.mono _ _ _ _ _)
   | (with_reducible exact rotalaw08_awake.mono _)
   | (with_reducible exact rotalaw08_has.mono _ _ _)
   | (with_reducible exact rotaref06_Decode.mono _ _)
   | (with_reducible exact LeO.refl _)
   | (with_reducible exact LeO.none _)
   | (with_reducible refine LeO.ite ?_ ?_)
   | (with_reducible refine LeO.bind ?_ (fun _ => ?_))
   | exact ih0 _ _ _ _ _ _ _ _
   | exact ih1 _ _ _ _ _ _ _ _
   | exact ih2 _ _ _ _ _ _ _ _ _ _
   | exact ih3 _ _ _ _ _ _ _ _ _
   | exact proper_Calls.mono _ _ _ _ _ _
   | exact proper_Depth.mono _ _ _ _ _
   | exact proper_Reach.mono _ _ _ _ _
   | exact rotalaw08_awake.mono _
   | exact rotalaw08_has.mono _ _ _
   | exact rotaref06_Decode.mono _ _
   | exact LeO.none _
   | refine LeO.ite ?_ ?_
   | refine LeO.bind ?_ (fun _ => ?_)
  ·intro y0 y1 y2 y3 y4 y5 y6 y7 y8
   unfold rotalaw08_ProperDeep.j3
   repeat' first
   | (with_reducible exact ih0 _ _ _ _ _ _ _ _)
   | (with_reducible exact ih1 _ _ _ _ _ _ _ _)
   | (with_reducible exact ih2 _ _ _ _ _ _ _ _ _ _)
   | (with_reducible exact ih3 _ _ _ _ _ _ _ _ _)
   | (with_reducible exact proper_Calls.mono _ _ _ _ _ _)
   | (with_reducible exact proper_Depth.mono _ _ _ _ _)
   | (with_reducible exact proper_Reach.mono _ _ _ _ _)
   | (with_reducible exact rotalaw08_awake.mono _)
   | (with_reducible exact rotalaw08_has.mono _ _ _)
   | (with_reducible exact rotaref06_Decode.mono _ _)
   | (with_reducible exact LeO.refl _)
   | (with_reducible exact LeO.none _)
   | (with_reducible refine LeO.ite ?_ ?_)
   | (with_reducible refine LeO.bind ?_ (fun _ => ?_))
   | exact ih0 _ _ _ _ _ _ _ _
   | exact ih1 _ _ _ _ _ _ _ _
   | exact ih2 _ _ _ _ _ _ _ _ _ _
   | exact ih3 _ _ _ _ _ _ _ _ _
   | exact proper_Calls.mono _ _ _ _ _ _
   | exact proper_Depth.mono _ _ _ _ _
   | exact proper_Reach.mono _ _ _ _ _
   | exact rotalaw08_awake.mono _
   | exact rotalaw08_has.mono _ _ _
   | exact rotaref06_Decode.mono _ _
   | exact LeO.none _
   | refine LeO.ite ?_ ?_
   | refine LeO.bind ?_ (fun _ => ?_)
theorem rotalaw08_ProperDeep.mono : ∀ a0 a1 a2 a3 a4 k, LeO (rotalaw08_ProperDeep.f k a0 a1 a2 a3 a4) (rotalaw08_ProperDeep.f (k + 1) a0 a1 a2 a3 a4) := by
 intro a0 a1 a2 a3 a4 k
 obtain ⟨ih0, ih1, ih2, ih3⟩ := rotalaw08_ProperDeep.mono_l k
 unfold rotalaw08_ProperDeep.f
 repeat' first
   | (with_reducible exact ih0 _ _ _ _ _ _ _ _)
   | (with_reducible exact ih1 _ _ _ _ _ _ _ _)
   | (with_reducible exact ih2 _ _ _ _ _ _ _ _ _ _)
   | (with_reducible exact ih3 _ _ _ _ _ _ _ _ _)
   | (with_reducible exact proper_Calls.mono _ _ _ _ _ _)
   | (with_reducible exact proper_Depth.mono _ _ _ _ _)
   | (with_reducible exact proper_Reach.mono _ _ _ _ _)
   | (with_reducible exact rotalaw08_awake.mono _)
   | (with_reducible exact rotalaw08_has.mono _ _ _)
   | (with_reducible exact rotaref06_Decode.mono _ _)
   | (with_reducible exact LeO.refl _)
   | (with_reducible exact LeO.none _)
   | (with_reducible refine LeO.ite ?_ ?_)
   | (with_reducible refine LeO.bind ?_ (fun _ => ?_))
   | exact ih0 _ _ _ _ _ _ _ _
   | exact ih1 _ _ _ _ _ _ _ _
   | exact ih2 _ _ _ _ _ _ _ _ _ _
   | exact ih3 _ _ _ _ _ _ _ _ _
   | exact proper_Calls.mono _ _ _ _ _ _
   | exact proper_Depth.mono _ _ _ _ _
   | exact proper_Reach.mono _ _ _ _ _
   | exact rotalaw08_awake.mono _
   | exact rotalaw08_has.mono _ _ _
   | exact rotaref06_Decode.mono _ _
   | exact LeO.none _
   | refine LeO.ite ?_ ?_
   | refine LeO.bind ?_ (fun _ => ?_)
def rotalaw08_ProperDeep.T16 : Bool × List (List Nat × List Nat) := (true, [([], []), ([0], [0]), ([], []), ([], []), ([2, 3], [2, 3]), ([4], [4]), ([1, 5], [1, 5]), ([6], [6]), ([7], [7]), ([8], [8]), ([9], [9]), ([9], [9]), ([], []), ([12, 10, 8, 0, 1, 2, 3, 4, 5, 6, 7, 8, 9, 10, 12], [10, 12]), ([11, 13, 0, 1, 2, 3, 4, 5, 6, 7, 8, 9, 10, 11, 12, 13], [11])])
def rotalaw08_ProperDeep.B16 : List Nat := [0, 1, 0, 0, 12, 28, 63, 127, 255, 511, 1023, 1023, 0, 6143, 16383]
theorem rotalaw08_ProperDeep.tab16 : rtab .any (opsOf Try.f11 16) = rotalaw08_ProperDeep.T16 := by kernel_rfl
theorem rotalaw08_ProperDeep.bits16 : waitsOk rotalaw08_ProperDeep.T16.2 rotalaw08_ProperDeep.B16 = true := by kernel_rfl
set_option maxHeartbeats 8000000 in
set_option maxRecDepth 100000 in
theorem rotalaw08_ProperDeep.calls (k : Nat) (A0_0 : Option Addr) (c0_0 : Nat) (l0_0 : List Int) (A0_1 : Option Addr) (c0_1 : Nat) (l0_1 : List (S34)) (A0_2 : Option Addr) (c0_2 : Nat) (l0_2 : List (S58)) (a1 : Int) (A2 : Option Addr) (c2 : Nat) (l2 : List Int) (r : Bool) (w : World) (hr0_0 : Kd.C (Kd.int .u32) w A0_0 l0_0.length l0_0) (hc0_0 : l0_0.length ≤ c0_0) (hr0_1 : Kd.C k34 w A0_1 l0_1.length l0_1) (hc0_1 : l0_1.length ≤ c0_1) (hr0_2 : Kd.C k58 w A0_2 l0_2.length l0_2) (hc0_2 : l0_2.length ≤ c0_2) (hr2 : Kd.C (Kd.int .u8) w A2 l2.length l2) (hc2 : l2.length ≤ c2) (h : rotalaw08_ProperDeep.f k l0_0 l0_1 l0_2 a1 l2 = some r) :
  Calls Try.prog 11 #[.agg #[.slice A0_0 l0_0.length c0_0, .slice A0_1 l0_1.length c0_1, .slice A0_2 l0_2.length c0_2], .int .i64 a1, .slice A2 l2.length c2] w fun e w' => e = .returned (.bool r) ∧ Below w.heap.size w w' := by
 have hu26 := Try.underlying26
 have hu48 := Try.underlying48
 have HR0_0 := K1 hr0_0
 have HC0_0 := K1 hc0_0
 clear hr0_0 hc0_0
 have HR0_1 := K1 hr0_1
 have HC0_1 := K1 hc0_1
 clear hr0_1 hc0_1
 have HR0_2 := K1 hr0_2
 have HC0_2 := K1 hc0_2
 clear hr0_2 hc0_2
 have HR2 := K1 hr2
 have HC2 := K1 hc2
 clear hr2 hc2
 have HB := K1 (Below.refl w.heap.size w)
 have H : ((proper_Depth.f k l0_0 l0_1 l0_2 a1).bind fun bt532 => (if bt532.2 = 0 then ((proper_Calls.f k l0_0 l0_1 l0_2 a1 false).bind fun bt535 => (if bt532.1 ≥ (bt535.1.length : Int) then (rotalaw08_ProperDeep.j0 k a1 l2 bt532.1 bt535.1 true l0_0 l0_1 l0_2) else (rotalaw08_ProperDeep.j0 k a1 l2 bt532.1 bt535.1 (decide (bt532.1 < (-1))) l0_0 l0_1 l0_2))) else (if bt532.1 = 0 then ((rotalaw08_awake.f k).bind fun t534 => (some t534)) else (some false)))) = some r := h
 clear h
 replace H := Option.bind_eq_some_iff.mp H
 obtain ⟨⟨t532, t533⟩, A40, H⟩ := H
 replace H : (if t533 = 0 then ((proper_Calls.f k l0_0 l0_1 l0_2 a1 false).bind fun bt535 => (if t532 ≥ (bt535.1.length : Int) then (rotalaw08_ProperDeep.j0 k a1 l2 t532 bt535.1 true l0_0 l0_1 l0_2) else (rotalaw08_ProperDeep.j0 k a1 l2 t532 bt535.1 (decide (t532 < (-1))) l0_0 l0_1 l0_2))) else (if t532 = 0 then ((rotalaw08_awake.f k).bind fun t534 => (some t534)) else (some false))) = some r := H
 have A4 := K1 A40
 clear A40
 by_cases c5 : t533 = 0
 ·rw [if_pos c5] at H
  have c5b0 : (t533 == 0) = true := beq_iff_eq.mpr c5
  have c5b1 : (t533 != 0) = false := bne_eq_false_iff_eq.mpr c5
  clear c5
  replace H := Option.bind_eq_some_iff.mp H
  obtain ⟨⟨t535, t538⟩, A60, H⟩ := H
  replace H : (if t532 ≥ (t535.length : Int) then (rotalaw08_ProperDeep.j0 k a1 l2 t532 t535 true l0_0 l0_1 l0_2) else (rotalaw08_ProperDeep.j0 k a1 l2 t532 t535 (decide (t532 < (-1))) l0_0 l0_1 l0_2)) = some r := H
  have A6 := K1 A60
  clear A60
  have HC7 := K1 H
  clear H
  go_enter Try.func11, Try.ntmps11
  go_upto_region 5 with (first | ((with_reducible refine gate_dst (N := 3) rfl ?_); refine box_event ?hg (N := 3) ?hd (cs := #[.slice A0_0 l0_0.length c0_0, .slice A0_1 l0_1.length c0_1, .slice A0_2 l0_2.length c0_2]) (t := 26) ?hr ?_; (case hd => rfl); (case hg => rfl); (case hr => first | (go_simp; done) | (go_simp; rfl)); intro gb531 hg w8 hbox hb; have n0_ := K1 (below_step mB hb); have n1_ := K1 (hbox); have n2_ := K1 (mG : w.heap.size ≤ gb531); have n3_ := K1 (mG : w.heap.size ≤ gb531); clear HB; have HB := n0_; have BK531 := n1_; have GW531 := n2_; have GE531 := n3_; clear n0_ n1_ n2_ n3_; clear hb hbox hg; obtain ⟨hcz9_0, hcz9_1, hcz9_2, hfz9_0, hfz9_1, hfz9_2⟩ := cf3 BK531) | ((with_reducible refine gate_callee (f := 25) rfl ?_); refine goesL_ (some 23) rfl rfl Try.func25 (by kernel_rfl) rfl #[.agg #[.slice A0_0 l0_0.length c0_0, .slice A0_1 l0_1.length c0_1, .slice A0_2 l0_2.length c0_2], .int .i64 a1] rfl mL ?_; (with_reducible refine (proper_Depth.calls k _ _ l0_0 _ _ l0_1 _ _ l0_2 a1 t532 t533 _ ?side1 ?side2 ?side3 ?side4 ?side5 ?side6 A4.out).mono ?_); (case side1 => exact mC); (case side2 => exact HC0_0.out); (case side3 => exact mC); (case side4 => exact HC0_1.out); (case side5 => exact mC); (case side6 => exact HC0_2.out); rintro e w10 ⟨rfl, hb⟩; refine ⟨_, rfl, ?_⟩; have n0_ := K1 (blk_below (mU BK531.out) hb); have n1_ := K1 (below_step mB hb); clear BK531; clear HB; have BK531 := n0_; have HB := n1_; clear n0_ n1_; (try clear hb); obtain ⟨hcz11_0, hcz11_1, hcz11_2, hfz11_0, hfz11_1, hfz11_2⟩ := cf3 BK531) | ((with_reducible refine gate_callee (f := 23) rfl ?_); refine goesL_ (some 36) rfl rfl Try.func23 (by kernel_rfl) rfl #[.agg #[.slice A0_0 l0_0.length c0_0, .slice A0_1 l0_1.length c0_1, .slice A0_2 l0_2.length c0_2], .int .i64 a1, .bool false] rfl mL ?_; (with_reducible refine (proper_Calls.calls k _ _ l0_0 _ _ l0_1 _ _ l0_2 a1 false t535 t538 _ ?side1 ?side2 ?side3 ?side4 ?side5 ?side6 A6.out).mono ?_); (case side1 => exact mC); (case side2 => exact HC0_0.out); (case side3 => exact mC); (case side4 => exact HC0_1.out); (case side5 => exact mC); (case side6 => exact HC0_2.out); rintro e w12 ⟨v536, rfl, ho0, hb⟩; refine ⟨_, rfl, ?_⟩; have n0_ := K1 (Kd.R_lower ho0 (below_size mB)); have n1_ := K1 (blk_below (mU BK531.out) hb); have n2_ := K1 (below_step mB hb); clear BK531; clear HB; have HO537 := n0_; have BK531 := n1_; have HB := n2_; clear n0_ n1_ n2_; (try clear hb); (try clear ho0)))
  (try simp only [Act.put, List.setIfInBounds_toArray, List.set_cons_zero, List.set_cons_succ])
  go_cut [46] (fun v46 wc => ∃ (kq : Nat) (x46_6 : Bool), v46 = .bool x46_6 ∧ Aside0 (rotalaw08_ProperDeep.j0 kq a1 l2 t532 t535 x46_6 l0_0 l0_1 l0_2 = some r) ∧ Aside0 (kq ≤ k) ∧ Aside0 (Kd.R (Kd.int .i64) 3 wc w.heap.size (fun _ => True) v536 t535) ∧ Aside0 (wc.heap[gb531]? = some (.cells #[(.slice A0_0 l0_0.length c0_0), (.slice A0_1 l0_1.length c0_1), (.slice A0_2 l0_2.length c0_2)] 26 (0, 0))) ∧ Aside0 (Below w.heap.size w wc))
  case first =>
   have H := HC7.out
   clear HC7
   by_cases c13 : t532 ≥ (t535.length : Int)
   ·rw [if_pos c13] at H
    have c13b0 : decide ((t535.length : Int) ≤ t532) = true := decide_eq_true c13
    clear c13
    (first | rw [c13b0] | (simp only [i64_w, i32_w]; rw [c13b0]) | skip)
    have H' := K1 H
    clear H
    obtain ⟨Ao14, co14, eo14⟩ := Kd.R_slice HO537.out
    subst eo14
    go_wp2
    go_meet
    case rel => exact ⟨_, (true), (mF), H', ⟨by first | omega | exact Nat.le_refl _⟩, ⟨mV HO537.out⟩, ⟨mU BK531.out⟩, ⟨mB⟩⟩
   ·rw [if_neg c13] at H
    have c13b0 : decide ((t535.length : Int) ≤ t532) = false := decide_eq_false c13
    clear c13
    (first | rw [c13b0] | (simp only [i64_w, i32_w]; rw [c13b0]) | skip)
    have H' := K1 H
    clear H
    obtain ⟨Ao15, co15, eo15⟩ := Kd.R_slice HO537.out
    subst eo15
    go_wp2
    go_meet
    case rel => exact ⟨_, (decide (t532 < (-1))), (mF), H', ⟨by first | omega | exact Nat.le_refl _⟩, ⟨mV HO537.out⟩, ⟨mU BK531.out⟩, ⟨mB⟩⟩
  case rest =>
   clear HC7 c5b0 c5b1 hcz11_0 hcz11_1 hcz11_2 hcz9_0 hcz9_1 hcz9_2 hfz11_0 hfz11_1 hfz11_2 hfz9_0 hfz9_1 hfz9_2
   obtain ⟨kq, x46_6, rfl, HA, HJ6, HO_9, BK531, HB⟩ := hcut
   cases kq with
   | zero => exact absurd HA.out (by simp [rotalaw08_ProperDeep.j0])
   | succ kj6 =>
    have H := HA.out
    clear HA
    simp only [rotalaw08_ProperDeep.j0] at H
    by_cases c16 : x46_6 = true
    ·subst c16
     have H1 : (some false) = some r := by rw [if_pos rfl] at H; exact H
     clear H
     have H := H1
     clear H1
     obtain rfl := Option.some.inj H
     go_wp2
     go_ret
     exact ⟨mE, mB⟩
    ·replace c16 := Bool.eq_false_iff.mpr c16
     subst c16
     have H1 : (rotalaw08_ProperDeep.l0 kj6 l2 t532 t535 a1 0 l0_0 l0_1 l0_2) = some r := by rw [if_neg (show ¬ (false = true) by decide)] at H; exact H
     clear H
     have H := H1
     clear H1
     have H' := K1 H
     clear H
     go_wp2
     go_loopg [11, 12] kj6 (fun kq v11 v12 w' => ∃ (x11_2 : Int) (x12_2 : Int), v11 = .int .i64 x11_2 ∧ v12 = .int .i64 x12_2 ∧ Aside0 (rotalaw08_ProperDeep.l0 kq l2 t532 t535 x11_2 x12_2 l0_0 l0_1 l0_2 = some r) ∧ Aside0 (kq ≤ kj6) ∧ Aside0 (Kd.R (Kd.int .i64) 3 w' w.heap.size (fun _ => True) v536 t535) ∧ Aside0 (w'.heap[gb531]? = some (.cells #[(.slice A0_0 l0_0.length c0_0), (.slice A0_1 l0_1.length c0_1), (.slice A0_2 l0_2.length c0_2)] 26 (0, 0))) ∧ Aside0 (Below w.heap.size w w'))
     case atStart => exact ⟨(a1), (0), (mF), (mF), H', ⟨Nat.le_refl _⟩, ⟨mV HO_9.out⟩, ⟨mU BK531.out⟩, ⟨mB⟩⟩
     case round =>
      clear H'
      obtain ⟨x11_2, x12_2, rfl, rfl, HA, HK2, HO_9, BK531, HB⟩ := hrel
      cases gk with
      | zero => exact absurd HA.out (by simp [rotalaw08_ProperDeep.l0])
      | succ k2 =>
       have H := HA.out
       clear HA
       simp only [rotalaw08_ProperDeep.l0] at H
       by_cases c17 : x12_2 < (l2.length : Int)
       ·rw [if_pos c17] at H
        have c17b0 : decide (x12_2 < (l2.length : Int)) = true := decide_eq_true c17
        clear c17
        replace H := Option.bind_eq_some_iff.mp H
        obtain ⟨⟨t539, t542⟩, A180, H⟩ := H
        replace H : (rotalaw08_ProperDeep.l1 k2 l2 t532 t535 x12_2 t539 ([] : List Int) 0 l0_0 l0_1 l0_2) = some r := H
        have A18 := K1 A180
        clear A180
        have H' := K1 H
        clear H
        obtain ⟨hcz19_0, hcz19_1, hcz19_2, hfz19_0, hfz19_1, hfz19_2⟩ := cf3 BK531
        go_wp2_with (first | ((with_reducible refine gate_callee (f := 20) rfl ?_); refine goesL_ (some 57) rfl rfl Try.func20 (by kernel_rfl) rfl #[.agg #[.slice A0_0 l0_0.length c0_0, .slice A0_1 l0_1.length c0_1, .slice A0_2 l0_2.length c0_2], .int .i64 x11_2] rfl mL ?_; (with_reducible refine (proper_Reach.calls k2 _ _ l0_0 _ _ l0_1 _ _ l0_2 x11_2 t539 t542 _ ?side1 ?side2 ?side3 ?side4 ?side5 ?side6 A18.out).mono ?_); (case side1 => exact mC); (case side2 => exact HC0_0.out); (case side3 => exact mC); (case side4 => exact HC0_1.out); (case side5 => exact mC); (case side6 => exact HC0_2.out); rintro e w20 ⟨v540, rfl, ho0, hb⟩; refine ⟨_, rfl, ?_⟩; have n0_ := K1 (Kd.R_elder' (mV HO_9.out) (Kd.R_base ho0) hb); have n1_ := K1 (Kd.R_lower (Kd.R_new' ho0 (Kd.R_lt (mV HO_9.out))) (below_size mB)); have n2_ := K1 (blk_below (mU BK531.out) hb); have n3_ := K1 (below_step mB hb); clear HO_9; clear BK531; clear HB; have HO_9 := n0_; have HO541 := n1_; have BK531 := n2_; have HB := n3_; clear n0_ n1_ n2_ n3_; (try clear hb); (try clear ho0)))
        go_loopg [15, 16] k2 (fun kq v15 v16 w' => ∃ (x15_3 : List Int) (x16_3 : Int), v16 = .int .i64 x16_3 ∧ Aside0 (rotalaw08_ProperDeep.l1 kq l2 t532 t535 x12_2 t539 x15_3 x16_3 l0_0 l0_1 l0_2 = some r) ∧ Aside0 (kq ≤ k2) ∧ Aside0 (Kd.R (Kd.int .i64) 3 w' w.heap.size (fun k_ => some k_ ≠ (v540 : Value).ownBlock ∧ some k_ ≠ (v15 : Value).ownBlock) v536 t535) ∧ Aside0 (Kd.R (Kd.int .i64) 3 w' w.heap.size (fun k_ => some k_ ≠ (v536 : Value).ownBlock ∧ some k_ ≠ (v15 : Value).ownBlock) v540 t539) ∧ Aside0 (Kd.R (Kd.int .i64) 3 w' w.heap.size (fun k_ => some k_ ≠ (v536 : Value).ownBlock ∧ some k_ ≠ (v540 : Value).ownBlock) v15 x15_3) ∧ Aside0 (w'.heap[gb531]? = some (.cells #[(.slice A0_0 l0_0.length c0_0), (.slice A0_1 l0_1.length c0_1), (.slice A0_2 l0_2.length c0_2)] 26 (0, 0))) ∧ Aside0 (Below w.heap.size w w'))
        case atStart => exact ⟨(([] : List Int)), (0), (mF), H', ⟨Nat.le_refl _⟩, ⟨by (with_reducible repeat (first | apply Kd.R_alloc | apply Kd.R_drewN | apply Kd.R_drew)); exact Kd.R_mono HO_9.out (fun _ hk => ⟨hk.2, (by simp [Value.ownBlock])⟩)⟩, ⟨by (with_reducible repeat (first | apply Kd.R_alloc | apply Kd.R_drewN | apply Kd.R_drew)); exact Kd.R_mono HO541.out (fun _ hk => ⟨hk.2, (by simp [Value.ownBlock])⟩)⟩, ⟨by first | exact Kd.R_nil _ _ _ _ _ | exact Kd.N_nil _ _ _ _ _ | exact Kd.V_nil _ _ _ _ _ | exact Kd.Q_nil _ _ _ _ _ | exact Kd.S_nil _ _ _ _ _⟩, ⟨mU BK531.out⟩, ⟨mB⟩⟩
        case round =>
         clear H' c17b0 hcz19_0 hcz19_1 hcz19_2 hfz19_0 hfz19_1 hfz19_2
         obtain ⟨x15_3, x16_3, rfl, HA, HK3, HO_9, HO_13, HO_15, BK531, HB⟩ := hrel
         cases gk with
         | zero => exact absurd HA.out (by simp [rotalaw08_ProperDeep.l1])
         | succ k3 =>
          have H := HA.out
          clear HA
          simp only [rotalaw08_ProperDeep.l1] at H
          by_cases c21 : x16_3 < (t539.length : Int)
          ·rw [if_pos c21] at H
           have c21b0 : decide (x16_3 < (t539.length : Int)) = true := decide_eq_true c21
           clear c21
           by_cases c22 : 0 ≤ x16_3
           ·rw [if_pos c22] at H
            have c22b0 : decide (0 ≤ x16_3) = true := decide_eq_true c22
            clear c22
            by_cases c23 : 0 ≤ (rd t539 x16_3)
            ·rw [if_pos c23] at H
             have c23b0 : decide (0 ≤ (rd t539 x16_3)) = true := decide_eq_true c23
             clear c23
             by_cases c24 : (rd t539 x16_3) < (l0_0.length : Int)
             ·rw [if_pos c24] at H
              have c24b0 : decide ((rd t539 x16_3) < (l0_0.length : Int)) = true := decide_eq_true c24
              clear c24
              replace H := Option.bind_eq_some_iff.mp H
              obtain ⟨⟨t545, t546, t547, t548, t549, t550⟩, A250, H⟩ := H
              replace H : (if t545 = 20 then (if x15_3.length < 17592186044416 then (rotalaw08_ProperDeep.l1 k3 l2 t532 t535 x12_2 t539 (x15_3 ++ [t549]) (wrap64 (x16_3 + 1)) l0_0 l0_1 l0_2) else (none)) else (rotalaw08_ProperDeep.l1 k3 l2 t532 t535 x12_2 t539 x15_3 (wrap64 (x16_3 + 1)) l0_0 l0_1 l0_2)) = some r := H
              have A25 := K1 A250
              clear A250
              by_cases c26 : t545 = 20
              ·rw [if_pos c26] at H
               have c26b0 : (t545 == 20) = true := beq_iff_eq.mpr c26
               have c26b1 : (t545 != 20) = false := bne_eq_false_iff_eq.mpr c26
               clear c26
               by_cases c27 : x15_3.length < 17592186044416
               ·rw [if_pos c27] at H
                have LMc27 := K1 c27
                clear c27
                obtain ⟨y552, hy552⟩ : ∃ y_ : List Int, y_ = (x15_3 ++ [t549]) := ⟨_, rfl⟩
                replace H : (rotalaw08_ProperDeep.l1 k3 l2 t532 t535 x12_2 t539 y552 (wrap64 (x16_3 + 1)) l0_0 l0_1 l0_2) = some r := by first | (rw [hy552]; with_reducible exact H) | (have H2_ := (Option.bind_some _ _).symm.trans H; rw [hy552]; with_reducible exact H2_) | (have H2_ := (Option.bind_some _ _).symm.trans H; with_reducible exact H2_) | with_reducible exact H | (rw [hy552]; exact H) | exact H
                have Ny552 := K1 hy552
                clear hy552
                have H' := K1 H
                clear H
                obtain ⟨Ao28, co28, eo28⟩ := Kd.R_slice HO_13.out
                subst eo28
                try go_wp2
                have n0_ := K1 (Kd.R_drew HO_9.out)
                have n1_ := K1 (Kd.R_drew HO_13.out)
                have n2_ := K1 (Kd.R_drew HO_15.out)
                have n3_ := K1 (bD BK531.out)
                have n4_ := K1 (below_drew1 HB.out)
                clear HO_9 HO_13 HO_15 BK531 HB
                have HO_9 := n0_
                have HO_13 := n1_
                have HO_15 := n2_
                have BK531 := n3_
                have HB := n4_
                clear n0_ n1_ n2_ n3_ n4_
                have p543 : 0 ≤ (x16_3 : Int) := of_decide_eq_true (mA)
                have q543 : x16_3 < (t539.length : Int) := of_decide_eq_true (mA)
                obtain ⟨ad543, e543, hx543_0⟩ := Kd.at_int (Kd.R_reads' HO_13.out).2.2 x16_3 p543 q543
                cases e543
                replace p543 := eq_true p543
                replace q543 := eq_true q543
                have p544 : 0 ≤ ((rd t539 x16_3) : Int) := of_decide_eq_true (mA)
                have q544 : (rd t539 x16_3) < (l0_0.length : Int) := of_decide_eq_true (mA)
                obtain ⟨ad544, e544, hx544_0⟩ := Kd.at_int HR0_0.out (rd t539 x16_3) p544 q544
                have hw544_0 := hx544_0
                cases e544
                replace hx544_0 := (HB.out.cell (World.block_lt_of_cell? w _ hx544_0)).trans hx544_0
                replace p544 := eq_true p544
                replace q544 := eq_true q544
                refine start_ (n := 15) (S := fun w' => w'.cell? ⟨gb531, 0, none⟩ = some (.slice (some ad544) l0_0.length c0_0) ∧ w'.cell? ⟨gb531, 1, none⟩ = some (.slice A0_1 l0_1.length c0_1) ∧ w'.cell? ⟨gb531, 2, none⟩ = some (.slice A0_2 l0_2.length c0_2) ∧ w'.cell? (ad543.add (x16_3).toNat) = some (.int .i64 (rd t539 x16_3)) ∧ w'.cell? (ad544.add ((rd t539 x16_3)).toNat) = some (.int .u32 (rd l0_0 (rd t539 x16_3)))) (ds := []) #[false, false, false, false, false, false, false, false, false, false, false, false, false, false, false] (by kernel_rfl) rfl rfl ⟨(blk_cell BK531.out 0).trans rfl, (blk_cell BK531.out 1).trans rfl, (blk_cell BK531.out 2).trans rfl, hx543_0, ((HB.out.cell (World.block_lt_of_cell? w _ hw544_0)).trans hw544_0)⟩ (fun hHeld => ?_); refine with_tabW rotalaw08_ProperDeep.tab16 rotalaw08_ProperDeep.bits16 (fun HT_ HW_ => ?_)
                generalize wr.drew = w29 at HO_9 HO_13 HO_15 BK531 HB hx543_0 hx544_0 hHeld ⊢
                refine pure_ (i := 0) (N := some 67) (v := ?_) (a' := ?_) #[true, false, false, false, false, false, false, false, false, false, false, false, false, false, false] rfl rfl (any_of HT_.out (by kernel_rfl)) (fun _ _ _ h => h) (Or.inl ⟨by rfl, ?_⟩) ?_ ?_
                rotate_left
                ·intro w'
                 go_simp
                 with_reducible rfl
                rotate_left
                ·simp only [Act.put, List.setIfInBounds_toArray, List.set_cons_zero, List.set_cons_succ, i64_w, i32_w]
                 rfl
                refine pure_ (i := 2) (N := some 69) (v := ?_) (a' := ?_) #[true, false, true, false, false, false, false, false, false, false, false, false, false, false, false] rfl rfl (any_of HT_.out (by kernel_rfl)) (fun _ _ _ h => h) (Or.inl ⟨by rfl, ?_⟩) ?_ ?_
                rotate_left
                ·intro w'
                 go_simp
                 with_reducible rfl
                rotate_left
                ·simp only [Act.put, List.setIfInBounds_toArray, List.set_cons_zero, List.set_cons_succ, i64_w, i32_w]
                 rfl
                refine pure_ (i := 3) (N := some 70) (v := ?_) (a' := ?_) #[true, false, true, true, false, false, false, false, false, false, false, false, false, false, false] rfl rfl (any_of HT_.out (by kernel_rfl)) (fun _ _ _ h => h) (Or.inl ⟨by rfl, ?_⟩) ?_ ?_
                rotate_left
                ·intro w'
                 go_simp
                 with_reducible rfl
                rotate_left
                ·simp only [Act.put, List.setIfInBounds_toArray, List.set_cons_zero, List.set_cons_succ, i64_w, i32_w]
                 rfl
                refine pure_ (i := 4) (N := some 71) (v := ?_) (a' := ?_) #[true, false, true, true, true, false, false, false, false, false, false, false, false, false, false] rfl rfl (any_of HT_.out (by kernel_rfl)) (fun _ _ _ h => h) (Or.inl ⟨by rfl, ?_⟩) ?_ ?_
                rotate_left
                ·intro w'
                 go_simp
                 with_reducible rfl
                rotate_left
                ·simp only [Act.put, List.setIfInBounds_toArray, List.set_cons_zero, List.set_cons_succ, i64_w, i32_w]
                 rfl
                refine take_ (i := 1) (N := some 68) (v := ?_) (a' := ?_) #[true, true, true, true, true, false, false, false, false, false, false, false, false, false, false] rfl rfl (take_ofW HT_.out HW_.out (by kernel_rfl)) (fun _ _ _ h => h) (Or.inl ⟨by rfl, ?_⟩) hHeld ?_ ?_
                rotate_left
                ·rintro w' ⟨s0, s1, s2, s3, s4⟩
                 go_simp
                 with_reducible rfl
                rotate_left
                ·simp only [Act.put, List.setIfInBounds_toArray, List.set_cons_zero, List.set_cons_succ, i64_w, i32_w]
                 rfl
                refine take_ (i := 5) (N := some 72) (v := ?_) (a' := ?_) #[true, true, true, true, true, true, false, false, false, false, false, false, false, false, false] rfl rfl (take_ofW HT_.out HW_.out (by kernel_rfl)) (fun _ _ _ h => h) (Or.inl ⟨by rfl, ?_⟩) hHeld ?_ ?_
                rotate_left
                ·rintro w' ⟨s0, s1, s2, s3, s4⟩
                 go_simp
                 with_reducible rfl
                rotate_left
                ·simp only [Act.put, List.setIfInBounds_toArray, List.set_cons_zero, List.set_cons_succ, i64_w, i32_w]
                 rfl
                refine pure_ (i := 6) (N := some 73) (v := ?_) (a' := ?_) #[true, true, true, true, true, true, true, false, false, false, false, false, false, false, false] rfl rfl (any_of HT_.out (by kernel_rfl)) (fun _ _ _ h => h) (Or.inl ⟨by rfl, ?_⟩) ?_ ?_
                rotate_left
                ·intro w'
                 go_simp
                 with_reducible rfl
                rotate_left
                ·simp only [Act.put, List.setIfInBounds_toArray, List.set_cons_zero, List.set_cons_succ, i64_w, i32_w]
                 rfl
                refine take_ (i := 7) (N := some 74) (v := ?_) (a' := ?_) #[true, true, true, true, true, true, true, true, false, false, false, false, false, false, false] rfl rfl (take_ofW HT_.out HW_.out (by kernel_rfl)) (fun _ _ _ h => h) (Or.inl ⟨by rfl, ?_⟩) hHeld ?_ ?_
                rotate_left
                ·rintro w' ⟨s0, s1, s2, s3, s4⟩
                 go_simp
                 with_reducible rfl
                rotate_left
                ·simp only [Act.put, List.setIfInBounds_toArray, List.set_cons_zero, List.set_cons_succ, i64_w, i32_w]
                 rfl
                refine join_ (σ := Nat) 2 #[true, true, true, true, true, true, true, true, true, true, true, true, true, false, false] (fun s_ => [(75, .tuple #[.agg #[.int .i64 t545, .int .i64 t546, .int .i64 t547, .int .i64 t548, .int .i64 t549], .int .i64 t550]), (17, .pointer (some ⟨s_, 0, none⟩)), (66, .tuple #[.agg #[.int .i64 t545, .int .i64 t546, .int .i64 t547, .int .i64 t548, .int .i64 t549], .int .i64 t550]), (76, .agg #[.int .i64 t545, .int .i64 t546, .int .i64 t547, .int .i64 t548, .int .i64 t549]), (77, .int .i64 t550)]) (fun s_ w' => (w'.cell? ⟨gb531, 0, none⟩ = some (.slice (some ad544) l0_0.length c0_0) ∧ w'.cell? ⟨gb531, 1, none⟩ = some (.slice A0_1 l0_1.length c0_1) ∧ w'.cell? ⟨gb531, 2, none⟩ = some (.slice A0_2 l0_2.length c0_2) ∧ w'.cell? (ad543.add (x16_3).toNat) = some (.int .i64 (rd t539 x16_3)) ∧ w'.cell? (ad544.add ((rd t539 x16_3)).toNat) = some (.int .u32 (rd l0_0 (rd t539 x16_3)))) ∧ (Kd.R (Kd.int .i64) 3 w' w.heap.size (fun k_ => some k_ ≠ (u15 : Value).ownBlock ∧ some k_ ≠ (v536 : Value).ownBlock) (.slice (some ad543) t539.length co28) t539) ∧ (Kd.R (Kd.int .i64) 3 w' w.heap.size (fun k_ => some k_ ≠ (.slice (some ad543) t539.length co28 : Value).ownBlock ∧ some k_ ≠ (v536 : Value).ownBlock) u15 x15_3) ∧ (Kd.R (Kd.int .i64) 3 w' w.heap.size (fun k_ => some k_ ≠ (.slice (some ad543) t539.length co28 : Value).ownBlock ∧ some k_ ≠ (u15 : Value).ownBlock) v536 t535) ∧ (w'.heap[gb531]? = some (.cells #[.slice (some ad544) l0_0.length c0_0, .slice A0_1 l0_1.length c0_1, .slice A0_2 l0_2.length c0_2] 26 (0, 0))) ∧ (w'.heap[s_]? = some (.cells #[.int .i64 0, .int .i64 0, .int .i64 0, .int .i64 0, .int .i64 0] 48 (0, 0))) ∧ (w.heap.size ≤ s_) ∧ (w.heap.size ≤ s_) ∧ (gb531 ≠ s_) ∧ (s_ ≠ gb531) ∧ (Below w.heap.size w w')) ?_ ?_
                rotate_left
                ·intro hCont
                 refine two_ (i := 8) (j := 12) (Ni := some 75) (Nj := some 17) #[true, true, true, true, true, true, true, true, true, false, false, false, false, false, false] #[true, true, true, true, true, true, true, true, false, false, false, false, true, false, false] rfl rfl rfl rfl (two_of HT_.out (by kernel_rfl)) (by decide) (by decide) (fun K hK => ?_) (fun K hK => ?_)
                 ·skip
                  refine goes_ Try.func27 (by kernel_rfl) rfl #[.int .u32 (rd l0_0 (rd t539 x16_3))] (by rfl) rfl rfl mL ?_
                  with_reducible refine (rotaref06_Decode.calls k3 (rd l0_0 (rd t539 x16_3)) t545 t546 t547 t548 t549 t550 _ A25.out).mono ?_
                  rintro e w30 ⟨rfl, hb⟩
                  have HS3_ := (hb.cell (World.block_lt_of_cell? _ _ (hHeld.2.2.2.1))).trans (hHeld.2.2.2.1)
                  refine ⟨_, rfl, ?_⟩
                  have n0_ := K1 (Kd.R_below (mV HO_9.out) hb)
                  have n1_ := K1 (Kd.R_below (mV HO_13.out) hb)
                  have n2_ := K1 (Kd.R_below (mV HO_15.out) hb)
                  have n3_ := K1 (blk_below (mU BK531.out) hb)
                  have n4_ := K1 (below_step mB hb)
                  clear HO_9 HO_13 HO_15 BK531 HB
                  have HO_9 := n0_
                  have HO_13 := n1_
                  have HO_15 := n2_
                  have BK531 := n3_
                  have HB := n4_
                  clear n0_ n1_ n2_ n3_ n4_
                  (try clear hb)
                  refine hK.out _ _ ⟨(blk_cell BK531.out 0).trans rfl, (blk_cell BK531.out 1).trans rfl, (blk_cell BK531.out 2).trans rfl, HS3_, ((HB.out.cell (World.block_lt_of_cell? w _ hw544_0)).trans hw544_0)⟩ (fun hHeld => ?_)
                  clear hK K
                  refine norm_ (a' := ?_) ?_ ?_
                  rotate_left
                  ·show Act.put _ (some 75) _ = _
                   simp only [Act.put, List.setIfInBounds_toArray, List.set_cons_zero, List.set_cons_succ, i64_w, i32_w]
                   rfl
                  refine pure_ (i := 9) (N := some 66) (v := ?_) (a' := ?_) #[true, true, true, true, true, true, true, true, true, true, false, false, false, false, false] rfl rfl (any_of HT_.out (by kernel_rfl)) (fun _ _ _ h => h) (Or.inl ⟨by rfl, ?_⟩) ?_ ?_
                  rotate_left
                  ·intro w'
                   go_simp
                   with_reducible rfl
                  rotate_left
                  ·simp only [Act.put, List.setIfInBounds_toArray, List.set_cons_zero, List.set_cons_succ, i64_w, i32_w]
                   rfl
                  refine pure_ (i := 10) (N := some 76) (v := ?_) (a' := ?_) #[true, true, true, true, true, true, true, true, true, true, true, false, false, false, false] rfl rfl (any_of HT_.out (by kernel_rfl)) (fun _ _ _ h => h) (Or.inl ⟨by rfl, ?_⟩) ?_ ?_
                  rotate_left
                  ·intro w'
                   go_simp
                   with_reducible rfl
                  rotate_left
                  ·simp only [Act.put, List.setIfInBounds_toArray, List.set_cons_zero, List.set_cons_succ, i64_w, i32_w]
                   rfl
                  refine pure_ (i := 11) (N := some 77) (v := ?_) (a' := ?_) #[true, true, true, true, true, true, true, true, true, true, true, true, false, false, false] rfl rfl (any_of HT_.out (by kernel_rfl)) (fun _ _ _ h => h) (Or.inl ⟨by rfl, ?_⟩) ?_ ?_
                  rotate_left
                  ·intro w'
                   go_simp
                   with_reducible rfl
                  rotate_left
                  ·simp only [Act.put, List.setIfInBounds_toArray, List.set_cons_zero, List.set_cons_succ, i64_w, i32_w]
                   rfl
                  refine one_ (i := 12) (N := some 17) #[true, true, true, true, true, true, true, true, true, true, true, true, true, false, false] rfl rfl (one_of HT_.out (by kernel_rfl)) (by decide) (fun K hK => ?_)
                  refine box_step ?hg (N := 17) ?hd (cs := #[.int .i64 0, .int .i64 0, .int .i64 0, .int .i64 0, .int .i64 0]) (t := 48) ?hr ?_; (case hd => rfl); (case hg => rfl); (case hr => first | (go_simp; done) | (go_simp; rfl))
                  intro gb551 hg w31 hbox hb
                  have HS3_ := (hb.cell (World.block_lt_of_cell? _ _ (hHeld.2.2.2.1))).trans (hHeld.2.2.2.1)
                  have n0_ := K1 (Kd.R_below (mV HO_9.out) hb)
                  have n1_ := K1 (Kd.R_below (mV HO_13.out) hb)
                  have n2_ := K1 (Kd.R_below (mV HO_15.out) hb)
                  have n3_ := K1 (blk_below (mU BK531.out) hb)
                  have n4_ := K1 (below_step mB hb)
                  have n5_ := K1 (hbox)
                  have n6_ := K1 (mG : w.heap.size ≤ gb551)
                  have n7_ := K1 (mG : w.heap.size ≤ gb551)
                  have n8_ := K1 ((by rw [hg]; exact Nat.ne_of_lt (blk_lt (mU BK531.out)) : gb531 ≠ gb551))
                  have n9_ := K1 ((by rw [hg]; exact Nat.ne_of_gt (blk_lt (mU BK531.out)) : gb551 ≠ gb531))
                  clear HO_9 HO_13 HO_15 BK531 HB
                  have HO_9 := n0_
                  have HO_13 := n1_
                  have HO_15 := n2_
                  have BK531 := n3_
                  have HB := n4_
                  have BK551 := n5_
                  have GW551 := n6_
                  have GE551 := n7_
                  have NB531_551 := n8_
                  have NB551_531 := n9_
                  clear n0_ n1_ n2_ n3_ n4_ n5_ n6_ n7_ n8_ n9_ hb hbox hg
                  refine hK.out _ _ ⟨(blk_cell BK531.out 0).trans rfl, (blk_cell BK531.out 1).trans rfl, (blk_cell BK531.out 2).trans rfl, HS3_, ((HB.out.cell (World.block_lt_of_cell? w _ hw544_0)).trans hw544_0)⟩ (fun hHeld => ?_)
                  clear hK K
                  refine norm_ (a' := ?_) ?_ ?_
                  rotate_left
                  ·show Act.put _ (some 17) _ = _
                   simp only [Act.put, List.setIfInBounds_toArray, List.set_cons_zero, List.set_cons_succ, i64_w, i32_w]
                   rfl
                  exact norm_ (by simp only [putAll, Act.put, List.setIfInBounds_toArray, List.set_cons_zero, List.set_cons_succ]) (hCont (gb551) _ ⟨hHeld, (by (with_reducible repeat (first | apply Kd.R_alloc | apply Kd.R_drewN | apply Kd.R_drew)); exact Kd.R_mono HO_13.out (fun _ hk => ⟨hk.2, hk.1⟩)), (by (with_reducible repeat (first | apply Kd.R_alloc | apply Kd.R_drewN | apply Kd.R_drew)); exact Kd.R_mono HO_15.out (fun _ hk => ⟨hk.2, hk.1⟩)), (mV HO_9.out), (mU BK531.out), (mU BK551.out), GW551.out, GE551.out, NB531_551.out, NB551_531.out, mB⟩)
                 ·skip
                  refine box_step ?hg (N := 17) ?hd (cs := #[.int .i64 0, .int .i64 0, .int .i64 0, .int .i64 0, .int .i64 0]) (t := 48) ?hr ?_; (case hd => rfl); (case hg => rfl); (case hr => first | (go_simp; done) | (go_simp; rfl))
                  intro gb551 hg w30 hbox hb
                  have HS3_ := (hb.cell (World.block_lt_of_cell? _ _ (hHeld.2.2.2.1))).trans (hHeld.2.2.2.1)
                  have n0_ := K1 (Kd.R_below (mV HO_9.out) hb)
                  have n1_ := K1 (Kd.R_below (mV HO_13.out) hb)
                  have n2_ := K1 (Kd.R_below (mV HO_15.out) hb)
                  have n3_ := K1 (blk_below (mU BK531.out) hb)
                  have n4_ := K1 (below_step mB hb)
                  have n5_ := K1 (hbox)
                  have n6_ := K1 (mG : w.heap.size ≤ gb551)
                  have n7_ := K1 (mG : w.heap.size ≤ gb551)
                  have n8_ := K1 ((by rw [hg]; exact Nat.ne_of_lt (blk_lt (mU BK531.out)) : gb531 ≠ gb551))
                  have n9_ := K1 ((by rw [hg]; exact Nat.ne_of_gt (blk_lt (mU BK531.out)) : gb551 ≠ gb531))
                  clear HO_9 HO_13 HO_15 BK531 HB
                  have HO_9 := n0_
                  have HO_13 := n1_
                  have HO_15 := n2_
                  have BK531 := n3_
                  have HB := n4_
                  have BK551 := n5_
                  have GW551 := n6_
                  have GE551 := n7_
                  have NB531_551 := n8_
                  have NB551_531 := n9_
                  clear n0_ n1_ n2_ n3_ n4_ n5_ n6_ n7_ n8_ n9_ hb hbox hg
                  refine hK.out _ _ ⟨(blk_cell BK531.out 0).trans rfl, (blk_cell BK531.out 1).trans rfl, (blk_cell BK531.out 2).trans rfl, HS3_, ((HB.out.cell (World.block_lt_of_cell? w _ hw544_0)).trans hw544_0)⟩ (fun hHeld => ?_)
                  clear hK K
                  refine norm_ (a' := ?_) ?_ ?_
                  rotate_left
                  ·show Act.put _ (some 17) _ = _
                   simp only [Act.put, List.setIfInBounds_toArray, List.set_cons_zero, List.set_cons_succ, i64_w, i32_w]
                   rfl
                  refine one_ (i := 8) (N := some 75) #[true, true, true, true, true, true, true, true, true, false, false, false, true, false, false] rfl rfl (one_of HT_.out (by kernel_rfl)) (by decide) (fun K hK => ?_)
                  refine goes_ Try.func27 (by kernel_rfl) rfl #[.int .u32 (rd l0_0 (rd t539 x16_3))] (by rfl) rfl rfl mL ?_
                  with_reducible refine (rotaref06_Decode.calls k3 (rd l0_0 (rd t539 x16_3)) t545 t546 t547 t548 t549 t550 _ A25.out).mono ?_
                  rintro e w31 ⟨rfl, hb⟩
                  have HS3_ := (hb.cell (World.block_lt_of_cell? _ _ (hHeld.2.2.2.1))).trans (hHeld.2.2.2.1)
                  refine ⟨_, rfl, ?_⟩
                  have n0_ := K1 (Kd.R_below (mV HO_9.out) hb)
                  have n1_ := K1 (Kd.R_below (mV HO_13.out) hb)
                  have n2_ := K1 (Kd.R_below (mV HO_15.out) hb)
                  have n3_ := K1 (blk_below (mU BK531.out) hb)
                  have n4_ := K1 (blk_below (mU BK551.out) hb)
                  have n5_ := K1 (below_step mB hb)
                  clear HO_9 HO_13 HO_15 BK531 BK551 HB
                  have HO_9 := n0_
                  have HO_13 := n1_
                  have HO_15 := n2_
                  have BK531 := n3_
                  have BK551 := n4_
                  have HB := n5_
                  clear n0_ n1_ n2_ n3_ n4_ n5_
                  (try clear hb)
                  refine hK.out _ _ ⟨(blk_cell BK531.out 0).trans rfl, (blk_cell BK531.out 1).trans rfl, (blk_cell BK531.out 2).trans rfl, HS3_, ((HB.out.cell (World.block_lt_of_cell? w _ hw544_0)).trans hw544_0)⟩ (fun hHeld => ?_)
                  clear hK K
                  refine norm_ (a' := ?_) ?_ ?_
                  rotate_left
                  ·show Act.put _ (some 75) _ = _
                   simp only [Act.put, List.setIfInBounds_toArray, List.set_cons_zero, List.set_cons_succ, i64_w, i32_w]
                   rfl
                  refine pure_ (i := 9) (N := some 66) (v := ?_) (a' := ?_) #[true, true, true, true, true, true, true, true, true, true, false, false, true, false, false] rfl rfl (any_of HT_.out (by kernel_rfl)) (fun _ _ _ h => h) (Or.inl ⟨by rfl, ?_⟩) ?_ ?_
                  rotate_left
                  ·intro w'
                   go_simp
                   with_reducible rfl
                  rotate_left
                  ·simp only [Act.put, List.setIfInBounds_toArray, List.set_cons_zero, List.set_cons_succ, i64_w, i32_w]
                   rfl
                  refine pure_ (i := 10) (N := some 76) (v := ?_) (a' := ?_) #[true, true, true, true, true, true, true, true, true, true, true, false, true, false, false] rfl rfl (any_of HT_.out (by kernel_rfl)) (fun _ _ _ h => h) (Or.inl ⟨by rfl, ?_⟩) ?_ ?_
                  rotate_left
                  ·intro w'
                   go_simp
                   with_reducible rfl
                  rotate_left
                  ·simp only [Act.put, List.setIfInBounds_toArray, List.set_cons_zero, List.set_cons_succ, i64_w, i32_w]
                   rfl
                  refine pure_ (i := 11) (N := some 77) (v := ?_) (a' := ?_) #[true, true, true, true, true, true, true, true, true, true, true, true, true, false, false] rfl rfl (any_of HT_.out (by kernel_rfl)) (fun _ _ _ h => h) (Or.inl ⟨by rfl, ?_⟩) ?_ ?_
                  rotate_left
                  ·intro w'
                   go_simp
                   with_reducible rfl
                  rotate_left
                  ·simp only [Act.put, List.setIfInBounds_toArray, List.set_cons_zero, List.set_cons_succ, i64_w, i32_w]
                   rfl
                  exact norm_ (by simp only [putAll, Act.put, List.setIfInBounds_toArray, List.set_cons_zero, List.set_cons_succ]) (hCont (gb551) _ ⟨hHeld, (by (with_reducible repeat (first | apply Kd.R_alloc | apply Kd.R_drewN | apply Kd.R_drew)); exact Kd.R_mono HO_13.out (fun _ hk => ⟨hk.2, hk.1⟩)), (by (with_reducible repeat (first | apply Kd.R_alloc | apply Kd.R_drewN | apply Kd.R_drew)); exact Kd.R_mono HO_15.out (fun _ hk => ⟨hk.2, hk.1⟩)), (mV HO_9.out), (mU BK531.out), (mU BK551.out), GW551.out, GE551.out, NB531_551.out, NB551_531.out, mB⟩)
                rintro gb551 w32 ⟨hS_, h0_, h1_, h2_, h3_, h4_, h5_, h6_, h7_, h8_, h9_⟩
                have n0_ : Aside0 (Kd.R (Kd.int .i64) 3 w32 w.heap.size (fun k_ => some k_ ≠ (u15 : Value).ownBlock ∧ some k_ ≠ (v536 : Value).ownBlock) (.slice (some ad543) t539.length co28) t539) := ⟨h0_⟩
                have n1_ : Aside0 (Kd.R (Kd.int .i64) 3 w32 w.heap.size (fun k_ => some k_ ≠ (.slice (some ad543) t539.length co28 : Value).ownBlock ∧ some k_ ≠ (v536 : Value).ownBlock) u15 x15_3) := ⟨h1_⟩
                have n2_ : Aside0 (Kd.R (Kd.int .i64) 3 w32 w.heap.size (fun k_ => some k_ ≠ (.slice (some ad543) t539.length co28 : Value).ownBlock ∧ some k_ ≠ (u15 : Value).ownBlock) v536 t535) := ⟨h2_⟩
                have n3_ : Aside0 (w32.heap[gb531]? = some (.cells #[.slice (some ad544) l0_0.length c0_0, .slice A0_1 l0_1.length c0_1, .slice A0_2 l0_2.length c0_2] 26 (0, 0))) := ⟨h3_⟩
                have n4_ : Aside0 (w32.heap[gb551]? = some (.cells #[.int .i64 0, .int .i64 0, .int .i64 0, .int .i64 0, .int .i64 0] 48 (0, 0))) := ⟨h4_⟩
                have n5_ : Aside0 (w.heap.size ≤ gb551) := ⟨h5_⟩
                have n6_ : Aside0 (w.heap.size ≤ gb551) := ⟨h6_⟩
                have n7_ : Aside0 (gb531 ≠ gb551) := ⟨h7_⟩
                have n8_ : Aside0 (gb551 ≠ gb531) := ⟨h8_⟩
                have n9_ : Aside0 (Below w.heap.size w w32) := ⟨h9_⟩
                clear HO_9 HO_13 HO_15 BK531 HB h0_ h1_ h2_ h3_ h4_ h5_ h6_ h7_ h8_ h9_
                have HO_13 := n0_
                have HO_15 := n1_
                have HO_9 := n2_
                have BK531 := n3_
                have BK551 := n4_
                have GW551 := n5_
                have GE551 := n6_
                have NB531_551 := n7_
                have NB551_531 := n8_
                have HB := n9_
                clear n0_ n1_ n2_ n3_ n4_ n5_ n6_ n7_ n8_ n9_
                have hHeld : w32.cell? ⟨gb531, 0, none⟩ = some (.slice (some ad544) l0_0.length c0_0) ∧ w32.cell? ⟨gb531, 1, none⟩ = some (.slice A0_1 l0_1.length c0_1) ∧ w32.cell? ⟨gb531, 2, none⟩ = some (.slice A0_2 l0_2.length c0_2) ∧ w32.cell? (ad543.add (x16_3).toNat) = some (.int .i64 (rd t539 x16_3)) ∧ w32.cell? (ad544.add ((rd t539 x16_3)).toNat) = some (.int .u32 (rd l0_0 (rd t539 x16_3))) := hS_
                refine norm_ (a' := ?_) ?_ ?_
                rotate_left
                ·simp only [putAll, Act.put, List.setIfInBounds_toArray, List.set_cons_zero, List.set_cons_succ]
                 rfl
                refine one_ (i := 13) (N := none) #[true, true, true, true, true, true, true, true, true, true, true, true, true, true, false] rfl rfl (one_of HT_.out (by kernel_rfl)) (by decide) (fun K hK => ?_)
                have hs33 : w32.cell? ⟨gb551, 0, none⟩ = some (.int .i64 0) := (blk_cell BK551.out 0).trans rfl
                have hfs33 := blk_frozen BK551.out 0
                have hns33_0 := NB531_551.out
                have hms33_0 := NB551_531.out
                have hs34 : w32.cell? ⟨gb551, 1, none⟩ = some (.int .i64 0) := (blk_cell BK551.out 1).trans rfl
                have hfs34 := blk_frozen BK551.out 1
                have hns34_0 := NB531_551.out
                have hms34_0 := NB551_531.out
                have hs35 : w32.cell? ⟨gb551, 2, none⟩ = some (.int .i64 0) := (blk_cell BK551.out 2).trans rfl
                have hfs35 := blk_frozen BK551.out 2
                have hns35_0 := NB531_551.out
                have hms35_0 := NB551_531.out
                have hs36 : w32.cell? ⟨gb551, 3, none⟩ = some (.int .i64 0) := (blk_cell BK551.out 3).trans rfl
                have hfs36 := blk_frozen BK551.out 3
                have hns36_0 := NB531_551.out
                have hms36_0 := NB551_531.out
                have hs37 : w32.cell? ⟨gb551, 4, none⟩ = some (.int .i64 0) := (blk_cell BK551.out 4).trans rfl
                have hfs37 := blk_frozen BK551.out 4
                have hns37_0 := NB531_551.out
                have hms37_0 := NB551_531.out
                refine skip_ (w1 := ?_) (by rfl) rfl ?_ ?_
                rotate_left
                ·go_simp
                 rfl
                refine hK.out _ _ ⟨((cell_far (p := ⟨gb551, _, none⟩) NB531_551.out _).trans (((cell_far (p := ⟨gb551, _, none⟩) NB531_551.out _).trans (((cell_far (p := ⟨gb551, _, none⟩) NB531_551.out _).trans (((cell_far (p := ⟨gb551, _, none⟩) NB531_551.out _).trans (((cell_far (p := ⟨gb551, _, none⟩) NB531_551.out _).trans (hHeld.1)))))))))), ((cell_far (p := ⟨gb551, _, none⟩) NB531_551.out _).trans (((cell_far (p := ⟨gb551, _, none⟩) NB531_551.out _).trans (((cell_far (p := ⟨gb551, _, none⟩) NB531_551.out _).trans (((cell_far (p := ⟨gb551, _, none⟩) NB531_551.out _).trans (((cell_far (p := ⟨gb551, _, none⟩) NB531_551.out _).trans (hHeld.2.1)))))))))), ((cell_far (p := ⟨gb551, _, none⟩) NB531_551.out _).trans (((cell_far (p := ⟨gb551, _, none⟩) NB531_551.out _).trans (((cell_far (p := ⟨gb551, _, none⟩) NB531_551.out _).trans (((cell_far (p := ⟨gb551, _, none⟩) NB531_551.out _).trans (((cell_far (p := ⟨gb551, _, none⟩) NB531_551.out _).trans (hHeld.2.2.1)))))))))), ((cell_far (p := ⟨gb551, _, none⟩) (by first | exact Kd.own_blk (Kd.R_ne HO_13.out BK551.out (by decide)) | (rw [add_block]; exact Kd.own_blk (Kd.R_ne HO_13.out BK551.out (by decide))) | (show (Addr.add _ _).block ≠ _; rw [add_block]; exact Kd.own_blk (Kd.R_ne HO_13.out BK551.out (by decide))) | (dsimp only; exact Kd.own_blk (Kd.R_ne HO_13.out BK551.out (by decide)))) _).trans (((cell_far (p := ⟨gb551, _, none⟩) (by first | exact Kd.own_blk (Kd.R_ne HO_13.out BK551.out (by decide)) | (rw [add_block]; exact Kd.own_blk (Kd.R_ne HO_13.out BK551.out (by decide))) | (show (Addr.add _ _).block ≠ _; rw [add_block]; exact Kd.own_blk (Kd.R_ne HO_13.out BK551.out (by decide))) | (dsimp only; exact Kd.own_blk (Kd.R_ne HO_13.out BK551.out (by decide)))) _).trans (((cell_far (p := ⟨gb551, _, none⟩) (by first | exact Kd.own_blk (Kd.R_ne HO_13.out BK551.out (by decide)) | (rw [add_block]; exact Kd.own_blk (Kd.R_ne HO_13.out BK551.out (by decide))) | (show (Addr.add _ _).block ≠ _; rw [add_block]; exact Kd.own_blk (Kd.R_ne HO_13.out BK551.out (by decide))) | (dsimp only; exact Kd.own_blk (Kd.R_ne HO_13.out BK551.out (by decide)))) _).trans (((cell_far (p := ⟨gb551, _, none⟩) (by first | exact Kd.own_blk (Kd.R_ne HO_13.out BK551.out (by decide)) | (rw [add_block]; exact Kd.own_blk (Kd.R_ne HO_13.out BK551.out (by decide))) | (show (Addr.add _ _).block ≠ _; rw [add_block]; exact Kd.own_blk (Kd.R_ne HO_13.out BK551.out (by decide))) | (dsimp only; exact Kd.own_blk (Kd.R_ne HO_13.out BK551.out (by decide)))) _).trans (((cell_far (p := ⟨gb551, _, none⟩) (by first | exact Kd.own_blk (Kd.R_ne HO_13.out BK551.out (by decide)) | (rw [add_block]; exact Kd.own_blk (Kd.R_ne HO_13.out BK551.out (by decide))) | (show (Addr.add _ _).block ≠ _; rw [add_block]; exact Kd.own_blk (Kd.R_ne HO_13.out BK551.out (by decide))) | (dsimp only; exact Kd.own_blk (Kd.R_ne HO_13.out BK551.out (by decide)))) _).trans (hHeld.2.2.2.1)))))))))), ((cell_far (p := ⟨gb551, _, none⟩) (by first | exact Nat.ne_of_lt (Nat.lt_of_lt_of_le (by have := World.block_lt_of_cell? _ _ hw544_0; first | rwa [add_block] at this | exact this) GW551.out) | (rw [add_block]; exact Nat.ne_of_lt (Nat.lt_of_lt_of_le (by have := World.block_lt_of_cell? _ _ hw544_0; first | rwa [add_block] at this | exact this) GW551.out)) | (show (Addr.add _ _).block ≠ _; rw [add_block]; exact Nat.ne_of_lt (Nat.lt_of_lt_of_le (by have := World.block_lt_of_cell? _ _ hw544_0; first | rwa [add_block] at this | exact this) GW551.out)) | (dsimp only; exact Nat.ne_of_lt (Nat.lt_of_lt_of_le (by have := World.block_lt_of_cell? _ _ hw544_0; first | rwa [add_block] at this | exact this) GW551.out))) _).trans (((cell_far (p := ⟨gb551, _, none⟩) (by first | exact Nat.ne_of_lt (Nat.lt_of_lt_of_le (by have := World.block_lt_of_cell? _ _ hw544_0; first | rwa [add_block] at this | exact this) GW551.out) | (rw [add_block]; exact Nat.ne_of_lt (Nat.lt_of_lt_of_le (by have := World.block_lt_of_cell? _ _ hw544_0; first | rwa [add_block] at this | exact this) GW551.out)) | (show (Addr.add _ _).block ≠ _; rw [add_block]; exact Nat.ne_of_lt (Nat.lt_of_lt_of_le (by have := World.block_lt_of_cell? _ _ hw544_0; first | rwa [add_block] at this | exact this) GW551.out)) | (dsimp only; exact Nat.ne_of_lt (Nat.lt_of_lt_of_le (by have := World.block_lt_of_cell? _ _ hw544_0; first | rwa [add_block] at this | exact this) GW551.out))) _).trans (((cell_far (p := ⟨gb551, _, none⟩) (by first | exact Nat.ne_of_lt (Nat.lt_of_lt_of_le (by have := World.block_lt_of_cell? _ _ hw544_0; first | rwa [add_block] at this | exact this) GW551.out) | (rw [add_block]; exact Nat.ne_of_lt (Nat.lt_of_lt_of_le (by have := World.block_lt_of_cell? _ _ hw544_0; first | rwa [add_block] at this | exact this) GW551.out)) | (show (Addr.add _ _).block ≠ _; rw [add_block]; exact Nat.ne_of_lt (Nat.lt_of_lt_of_le (by have := World.block_lt_of_cell? _ _ hw544_0; first | rwa [add_block] at this | exact this) GW551.out)) | (dsimp only; exact Nat.ne_of_lt (Nat.lt_of_lt_of_le (by have := World.block_lt_of_cell? _ _ hw544_0; first | rwa [add_block] at this | exact this) GW551.out))) _).trans (((cell_far (p := ⟨gb551, _, none⟩) (by first | exact Nat.ne_of_lt (Nat.lt_of_lt_of_le (by have := World.block_lt_of_cell? _ _ hw544_0; first | rwa [add_block] at this | exact this) GW551.out) | (rw [add_block]; exact Nat.ne_of_lt (Nat.lt_of_lt_of_le (by have := World.block_lt_of_cell? _ _ hw544_0; first | rwa [add_block] at this | exact this) GW551.out)) | (show (Addr.add _ _).block ≠ _; rw [add_block]; exact Nat.ne_of_lt (Nat.lt_of_lt_of_le (by have := World.block_lt_of_cell? _ _ hw544_0; first | rwa [add_block] at this | exact this) GW551.out)) | (dsimp only; exact Nat.ne_of_lt (Nat.lt_of_lt_of_le (by have := World.block_lt_of_cell? _ _ hw544_0; first | rwa [add_block] at this | exact this) GW551.out))) _).trans (((cell_far (p := ⟨gb551, _, none⟩) (by first | exact Nat.ne_of_lt (Nat.lt_of_lt_of_le (by have := World.block_lt_of_cell? _ _ hw544_0; first | rwa [add_block] at this | exact this) GW551.out) | (rw [add_block]; exact Nat.ne_of_lt (Nat.lt_of_lt_of_le (by have := World.block_lt_of_cell? _ _ hw544_0; first | rwa [add_block] at this | exact this) GW551.out)) | (show (Addr.add _ _).block ≠ _; rw [add_block]; exact Nat.ne_of_lt (Nat.lt_of_lt_of_le (by have := World.block_lt_of_cell? _ _ hw544_0; first | rwa [add_block] at this | exact this) GW551.out)) | (dsimp only; exact Nat.ne_of_lt (Nat.lt_of_lt_of_le (by have := World.block_lt_of_cell? _ _ hw544_0; first | rwa [add_block] at this | exact this) GW551.out))) _).trans (hHeld.2.2.2.2))))))))))⟩ (fun hHeld => ?_)
                clear hK K
                refine pure_ (i := 14) (N := some 18) (v := ?_) (a' := ?_) #[true, true, true, true, true, true, true, true, true, true, true, true, true, true, true] rfl rfl (any_of HT_.out (by kernel_rfl)) (fun _ _ _ h => h) (Or.inl ⟨by rfl, ?_⟩) ?_ ?_
                rotate_left
                ·intro w'
                 go_simp
                 with_reducible rfl
                rotate_left
                ·simp only [Act.put, List.setIfInBounds_toArray, List.set_cons_zero, List.set_cons_succ, i64_w, i32_w]
                 rfl
                refine done_ (done_of HT_.out (by kernel_rfl)) ?_
                have hnb38 := NB551_531.out
                have hnc38 := NB531_551.out
                obtain ⟨hcz39_0, hcz39_1, hcz39_2, hcz39_3, hcz39_4, hfz39_0, hfz39_1, hfz39_2, hfz39_3, hfz39_4⟩ := cf5 BK551
                try go_wp2_with (first | ((with_reducible refine gate_builtin (b := .append) (xs := #[.tmp 81, .tmp 84]) rfl ?_); at_builtin; refine Kd.R_append (Kd.int .i64) (w0 := w) w.heap.size rfl (.tmp 81) (.tmp 84) 37 3 (.int .i64 0) 8 rfl Try.underlying37 info3 rfl (by decide) (by omega) u15 x15_3 t549 [.int .i64 t549] (fun k_ => some k_ ≠ (v536 : Value).ownBlock ∧ some k_ ≠ (.slice (some ad543) t539.length co28 : Value).ownBlock) (fun _ => False) rfl (by first | (go_simp; done) | (go_simp; rfl)) ?aP (fun _ hk => hk.elim) ?aF ?aO ?aB ?aS ?aL ?_; (case aP => exact rfl); (case aB => exact mB); (case aF => exact (fun k_ hk => ⟨Kd.fresh' (Kd.R_lt (by (with_reducible repeat (first | apply Kd.R_alloc | apply Kd.R_drewN | apply Kd.R_drew)); exact (Kd.R_mono (Kd.R_far (p := ⟨gb551, 4, none⟩) (Kd.R_far (p := ⟨gb551, 3, none⟩) (Kd.R_far (p := ⟨gb551, 2, none⟩) (Kd.R_far (p := ⟨gb551, 1, none⟩) (Kd.R_far (p := ⟨gb551, 0, none⟩) (Kd.R_types HO_9.out BK551.out (by decide)) (fun _ hk => hk.2) (.int .i64 t545)) (fun _ hk => hk.2) (.int .i64 t546)) (fun _ hk => hk.2) (.int .i64 t547)) (fun _ hk => hk.2) (.int .i64 t548)) (fun _ hk => hk.2) (.int .i64 t549)) (fun _ h_ => h_.1)))) k_ hk, Kd.fresh' (Kd.R_lt (by (with_reducible repeat (first | apply Kd.R_alloc | apply Kd.R_drewN | apply Kd.R_drew)); exact (Kd.R_mono (Kd.R_far (p := ⟨gb551, 4, none⟩) (Kd.R_far (p := ⟨gb551, 3, none⟩) (Kd.R_far (p := ⟨gb551, 2, none⟩) (Kd.R_far (p := ⟨gb551, 1, none⟩) (Kd.R_far (p := ⟨gb551, 0, none⟩) (Kd.R_types HO_13.out BK551.out (by decide)) (fun _ hk => hk.2) (.int .i64 t545)) (fun _ hk => hk.2) (.int .i64 t546)) (fun _ hk => hk.2) (.int .i64 t547)) (fun _ hk => hk.2) (.int .i64 t548)) (fun _ hk => hk.2) (.int .i64 t549)) (fun _ h_ => h_.1)))) k_ hk⟩)); (case aO => exact (by (with_reducible repeat (first | apply Kd.R_alloc | apply Kd.R_drewN | apply Kd.R_drew)); exact Kd.R_mono (Kd.R_far (p := ⟨gb551, 4, none⟩) (Kd.R_far (p := ⟨gb551, 3, none⟩) (Kd.R_far (p := ⟨gb551, 2, none⟩) (Kd.R_far (p := ⟨gb551, 1, none⟩) (Kd.R_far (p := ⟨gb551, 0, none⟩) (Kd.R_types HO_15.out BK551.out (by decide)) (fun _ hk => hk.2) (.int .i64 t545)) (fun _ hk => hk.2) (.int .i64 t546)) (fun _ hk => hk.2) (.int .i64 t547)) (fun _ hk => hk.2) (.int .i64 t548)) (fun _ hk => hk.2) (.int .i64 t549)) (fun _ hk => ⟨hk.1.2, hk.1.1⟩))); (case aS => exact (below_size mB)); (case aL => have := LMc27.out; omega); intro v553 w40 ho hb hg hat; rw [← Ny552.out] at ho; have n0_ := K1 (Kd.R_after (ok := (fun k_ => some k_ ≠ (.slice (some ad543) t539.length co28 : Value).ownBlock)) (by (with_reducible repeat (first | apply Kd.R_alloc | apply Kd.R_drewN | apply Kd.R_drew)); exact Kd.R_mono (Kd.R_far (p := ⟨gb551, 4, none⟩) (Kd.R_far (p := ⟨gb551, 3, none⟩) (Kd.R_far (p := ⟨gb551, 2, none⟩) (Kd.R_far (p := ⟨gb551, 1, none⟩) (Kd.R_far (p := ⟨gb551, 0, none⟩) (Kd.R_types HO_9.out BK551.out (by decide)) (fun _ hk => hk.2) (.int .i64 t545)) (fun _ hk => hk.2) (.int .i64 t546)) (fun _ hk => hk.2) (.int .i64 t547)) (fun _ hk => hk.2) (.int .i64 t548)) (fun _ hk => hk.2) (.int .i64 t549)) (fun _ hk => ⟨hk.1.1, hk.1.2⟩)) hg hat); have n1_ := K1 (Kd.R_after (ok := (fun k_ => some k_ ≠ (v536 : Value).ownBlock)) (by (with_reducible repeat (first | apply Kd.R_alloc | apply Kd.R_drewN | apply Kd.R_drew)); exact Kd.R_mono (Kd.R_far (p := ⟨gb551, 4, none⟩) (Kd.R_far (p := ⟨gb551, 3, none⟩) (Kd.R_far (p := ⟨gb551, 2, none⟩) (Kd.R_far (p := ⟨gb551, 1, none⟩) (Kd.R_far (p := ⟨gb551, 0, none⟩) (Kd.R_types HO_13.out BK551.out (by decide)) (fun _ hk => hk.2) (.int .i64 t545)) (fun _ hk => hk.2) (.int .i64 t546)) (fun _ hk => hk.2) (.int .i64 t547)) (fun _ hk => hk.2) (.int .i64 t548)) (fun _ hk => hk.2) (.int .i64 t549)) (fun _ hk => ⟨hk.1.2, hk.1.1⟩)) hg hat); have n2_ := K1 (blk_grown (g := gb531) (o := .cells #[.slice (some ad544) l0_0.length c0_0, .slice A0_1 l0_1.length c0_1, .slice A0_2 l0_2.length c0_2] 26 (0, 0)) (by refine mU ?_; refine blk_far ?_ NB531_551.out _; refine mU ?_; refine blk_far ?_ NB531_551.out _; refine mU ?_; refine blk_far ?_ NB531_551.out _; refine mU ?_; refine blk_far ?_ NB531_551.out _; refine mU ?_; refine blk_far ?_ NB531_551.out _; refine mU ?_; exact BK531.out) hg (Kd.R_ne HO_15.out BK531.out (by decide))); have n3_ := K1 (blk_grown (g := gb551) (o := .cells #[.int .i64 t545, .int .i64 t546, .int .i64 t547, .int .i64 t548, .int .i64 t549] 48 (0, 0)) (by refine mU ?_; refine blk_put (cs := #[.int .i64 t545, .int .i64 t546, .int .i64 t547, .int .i64 t548, .int .i64 0]) ?_ 4 _ rfl; refine mU ?_; refine blk_put (cs := #[.int .i64 t545, .int .i64 t546, .int .i64 t547, .int .i64 0, .int .i64 0]) ?_ 3 _ rfl; refine mU ?_; refine blk_put (cs := #[.int .i64 t545, .int .i64 t546, .int .i64 0, .int .i64 0, .int .i64 0]) ?_ 2 _ rfl; refine mU ?_; refine blk_put (cs := #[.int .i64 t545, .int .i64 0, .int .i64 0, .int .i64 0, .int .i64 0]) ?_ 1 _ rfl; refine mU ?_; refine blk_put (cs := #[.int .i64 0, .int .i64 0, .int .i64 0, .int .i64 0, .int .i64 0]) ?_ 0 _ rfl; refine mU ?_; exact BK551.out) hg (Kd.R_ne HO_15.out BK551.out (by decide))); have n4_ := K1 (hb); have n5_ := K1 (ho); clear HO_9; clear HO_13; clear BK531; clear BK551; clear HB; clear HO_15; have HO_9 := n0_; have HO_13 := n1_; have BK531 := n2_; have BK551 := n3_; have HB := n4_; have HO554 := n5_; clear n0_ n1_ n2_ n3_ n4_ n5_; clear ho hb hg hat))
                go_roundg k3
                case measure => have := HJ6.out; have := HK2.out; have := HK3.out; omega
                case rel => exact ⟨(y552), (wrap64 (x16_3 + 1)), (mF), H', ⟨by have := HJ6.out; have := HK2.out; have := HK3.out; omega⟩, ⟨mV HO_9.out⟩, ⟨mV HO_13.out⟩, ⟨mV HO554.out⟩, ⟨mU BK531.out⟩, ⟨mB⟩⟩
               ·rw [if_neg c27] at H
                exact absurd H (by simp)
              ·rw [if_neg c26] at H
               have c26b0 : (t545 == 20) = false := beq_eq_false_iff_ne.mpr c26
               have c26b1 : (t545 != 20) = true := bne_iff_ne.mpr c26
               have H' := K1 H
               clear H
               obtain ⟨Ao41, co41, eo41⟩ := Kd.R_slice HO_13.out
               subst eo41
               try go_wp2
               have n0_ := K1 (Kd.R_drew HO_9.out)
               have n1_ := K1 (Kd.R_drew HO_13.out)
               have n2_ := K1 (Kd.R_drew HO_15.out)
               have n3_ := K1 (bD BK531.out)
               have n4_ := K1 (below_drew1 HB.out)
               clear HO_9 HO_13 HO_15 BK531 HB
               have HO_9 := n0_
               have HO_13 := n1_
               have HO_15 := n2_
               have BK531 := n3_
               have HB := n4_
               clear n0_ n1_ n2_ n3_ n4_
               have p543 : 0 ≤ (x16_3 : Int) := of_decide_eq_true (mA)
               have q543 : x16_3 < (t539.length : Int) := of_decide_eq_true (mA)
               obtain ⟨ad543, e543, hx543_0⟩ := Kd.at_int (Kd.R_reads' HO_13.out).2.2 x16_3 p543 q543
               cases e543
               replace p543 := eq_true p543
               replace q543 := eq_true q543
               have p544 : 0 ≤ ((rd t539 x16_3) : Int) := of_decide_eq_true (mA)
               have q544 : (rd t539 x16_3) < (l0_0.length : Int) := of_decide_eq_true (mA)
               obtain ⟨ad544, e544, hx544_0⟩ := Kd.at_int HR0_0.out (rd t539 x16_3) p544 q544
               have hw544_0 := hx544_0
               cases e544
               replace hx544_0 := (HB.out.cell (World.block_lt_of_cell? w _ hx544_0)).trans hx544_0
               replace p544 := eq_true p544
               replace q544 := eq_true q544
               refine start_ (n := 15) (S := fun w' => w'.cell? ⟨gb531, 0, none⟩ = some (.slice (some ad544) l0_0.length c0_0) ∧ w'.cell? ⟨gb531, 1, none⟩ = some (.slice A0_1 l0_1.length c0_1) ∧ w'.cell? ⟨gb531, 2, none⟩ = some (.slice A0_2 l0_2.length c0_2) ∧ w'.cell? (ad543.add (x16_3).toNat) = some (.int .i64 (rd t539 x16_3)) ∧ w'.cell? (ad544.add ((rd t539 x16_3)).toNat) = some (.int .u32 (rd l0_0 (rd t539 x16_3)))) (ds := []) #[false, false, false, false, false, false, false, false, false, false, false, false, false, false, false] (by kernel_rfl) rfl rfl ⟨(blk_cell BK531.out 0).trans rfl, (blk_cell BK531.out 1).trans rfl, (blk_cell BK531.out 2).trans rfl, hx543_0, ((HB.out.cell (World.block_lt_of_cell? w _ hw544_0)).trans hw544_0)⟩ (fun hHeld => ?_); refine with_tabW rotalaw08_ProperDeep.tab16 rotalaw08_ProperDeep.bits16 (fun HT_ HW_ => ?_)
               generalize wr.drew = w42 at HO_9 HO_13 HO_15 BK531 HB hx543_0 hx544_0 hHeld ⊢
               refine pure_ (i := 0) (N := some 67) (v := ?_) (a' := ?_) #[true, false, false, false, false, false, false, false, false, false, false, false, false, false, false] rfl rfl (any_of HT_.out (by kernel_rfl)) (fun _ _ _ h => h) (Or.inl ⟨by rfl, ?_⟩) ?_ ?_
               rotate_left
               ·intro w'
                go_simp
                with_reducible rfl
               rotate_left
               ·simp only [Act.put, List.setIfInBounds_toArray, List.set_cons_zero, List.set_cons_succ, i64_w, i32_w]
                rfl
               refine pure_ (i := 2) (N := some 69) (v := ?_) (a' := ?_) #[true, false, true, false, false, false, false, false, false, false, false, false, false, false, false] rfl rfl (any_of HT_.out (by kernel_rfl)) (fun _ _ _ h => h) (Or.inl ⟨by rfl, ?_⟩) ?_ ?_
               rotate_left
               ·intro w'
                go_simp
                with_reducible rfl
               rotate_left
               ·simp only [Act.put, List.setIfInBounds_toArray, List.set_cons_zero, List.set_cons_succ, i64_w, i32_w]
                rfl
               refine pure_ (i := 3) (N := some 70) (v := ?_) (a' := ?_) #[true, false, true, true, false, false, false, false, false, false, false, false, false, false, false] rfl rfl (any_of HT_.out (by kernel_rfl)) (fun _ _ _ h => h) (Or.inl ⟨by rfl, ?_⟩) ?_ ?_
               rotate_left
               ·intro w'
                go_simp
                with_reducible rfl
               rotate_left
               ·simp only [Act.put, List.setIfInBounds_toArray, List.set_cons_zero, List.set_cons_succ, i64_w, i32_w]
                rfl
               refine pure_ (i := 4) (N := some 71) (v := ?_) (a' := ?_) #[true, false, true, true, true, false, false, false, false, false, false, false, false, false, false] rfl rfl (any_of HT_.out (by kernel_rfl)) (fun _ _ _ h => h) (Or.inl ⟨by rfl, ?_⟩) ?_ ?_
               rotate_left
               ·intro w'
                go_simp
                with_reducible rfl
               rotate_left
               ·simp only [Act.put, List.setIfInBounds_toArray, List.set_cons_zero, List.set_cons_succ, i64_w, i32_w]
                rfl
               refine take_ (i := 1) (N := some 68) (v := ?_) (a' := ?_) #[true, true, true, true, true, false, false, false, false, false, false, false, false, false, false] rfl rfl (take_ofW HT_.out HW_.out (by kernel_rfl)) (fun _ _ _ h => h) (Or.inl ⟨by rfl, ?_⟩) hHeld ?_ ?_
               rotate_left
               ·rintro w' ⟨s0, s1, s2, s3, s4⟩
                go_simp
                with_reducible rfl
               rotate_left
               ·simp only [Act.put, List.setIfInBounds_toArray, List.set_cons_zero, List.set_cons_succ, i64_w, i32_w]
                rfl
               refine take_ (i := 5) (N := some 72) (v := ?_) (a' := ?_) #[true, true, true, true, true, true, false, false, false, false, false, false, false, false, false] rfl rfl (take_ofW HT_.out HW_.out (by kernel_rfl)) (fun _ _ _ h => h) (Or.inl ⟨by rfl, ?_⟩) hHeld ?_ ?_
               rotate_left
               ·rintro w' ⟨s0, s1, s2, s3, s4⟩
                go_simp
                with_reducible rfl
               rotate_left
               ·simp only [Act.put, List.setIfInBounds_toArray, List.set_cons_zero, List.set_cons_succ, i64_w, i32_w]
                rfl
               refine pure_ (i := 6) (N := some 73) (v := ?_) (a' := ?_) #[true, true, true, true, true, true, true, false, false, false, false, false, false, false, false] rfl rfl (any_of HT_.out (by kernel_rfl)) (fun _ _ _ h => h) (Or.inl ⟨by rfl, ?_⟩) ?_ ?_
               rotate_left
               ·intro w'
                go_simp
                with_reducible rfl
               rotate_left
               ·simp only [Act.put, List.setIfInBounds_toArray, List.set_cons_zero, List.set_cons_succ, i64_w, i32_w]
                rfl
               refine take_ (i := 7) (N := some 74) (v := ?_) (a' := ?_) #[true, true, true, true, true, true, true, true, false, false, false, false, false, false, false] rfl rfl (take_ofW HT_.out HW_.out (by kernel_rfl)) (fun _ _ _ h => h) (Or.inl ⟨by rfl, ?_⟩) hHeld ?_ ?_
               rotate_left
               ·rintro w' ⟨s0, s1, s2, s3, s4⟩
                go_simp
                with_reducible rfl
               rotate_left
               ·simp only [Act.put, List.setIfInBounds_toArray, List.set_cons_zero, List.set_cons_succ, i64_w, i32_w]
                rfl
               refine join_ (σ := Nat) 2 #[true, true, true, true, true, true, true, true, true, true, true, true, true, false, false] (fun s_ => [(75, .tuple #[.agg #[.int .i64 t545, .int .i64 t546, .int .i64 t547, .int .i64 t548, .int .i64 t549], .int .i64 t550]), (17, .pointer (some ⟨s_, 0, none⟩)), (66, .tuple #[.agg #[.int .i64 t545, .int .i64 t546, .int .i64 t547, .int .i64 t548, .int .i64 t549], .int .i64 t550]), (76, .agg #[.int .i64 t545, .int .i64 t546, .int .i64 t547, .int .i64 t548, .int .i64 t549]), (77, .int .i64 t550)]) (fun s_ w' => (w'.cell? ⟨gb531, 0, none⟩ = some (.slice (some ad544) l0_0.length c0_0) ∧ w'.cell? ⟨gb531, 1, none⟩ = some (.slice A0_1 l0_1.length c0_1) ∧ w'.cell? ⟨gb531, 2, none⟩ = some (.slice A0_2 l0_2.length c0_2) ∧ w'.cell? (ad543.add (x16_3).toNat) = some (.int .i64 (rd t539 x16_3)) ∧ w'.cell? (ad544.add ((rd t539 x16_3)).toNat) = some (.int .u32 (rd l0_0 (rd t539 x16_3)))) ∧ (Kd.R (Kd.int .i64) 3 w' w.heap.size (fun k_ => some k_ ≠ (u15 : Value).ownBlock ∧ some k_ ≠ (v536 : Value).ownBlock) (.slice (some ad543) t539.length co41) t539) ∧ (Kd.R (Kd.int .i64) 3 w' w.heap.size (fun k_ => some k_ ≠ (.slice (some ad543) t539.length co41 : Value).ownBlock ∧ some k_ ≠ (v536 : Value).ownBlock) u15 x15_3) ∧ (Kd.R (Kd.int .i64) 3 w' w.heap.size (fun k_ => some k_ ≠ (.slice (some ad543) t539.length co41 : Value).ownBlock ∧ some k_ ≠ (u15 : Value).ownBlock) v536 t535) ∧ (w'.heap[gb531]? = some (.cells #[.slice (some ad544) l0_0.length c0_0, .slice A0_1 l0_1.length c0_1, .slice A0_2 l0_2.length c0_2] 26 (0, 0))) ∧ (w'.heap[s_]? = some (.cells #[.int .i64 0, .int .i64 0, .int .i64 0, .int .i64 0, .int .i64 0] 48 (0, 0))) ∧ (w.heap.size ≤ s_) ∧ (w.heap.size ≤ s_) ∧ (gb531 ≠ s_) ∧ (s_ ≠ gb531) ∧ (Below w.heap.size w w')) ?_ ?_
               rotate_left
               ·intro hCont
                refine two_ (i := 8) (j := 12) (Ni := some 75) (Nj := some 17) #[true, true, true, true, true, true, true, true, true, false, false, false, false, false, false] #[true, true, true, true, true, true, true, true, false, false, false, false, true, false, false] rfl rfl rfl rfl (two_of HT_.out (by kernel_rfl)) (by decide) (by decide) (fun K hK => ?_) (fun K hK => ?_)
                ·skip
                 refine goes_ Try.func27 (by kernel_rfl) rfl #[.int .u32 (rd l0_0 (rd t539 x16_3))] (by rfl) rfl rfl mL ?_
                 with_reducible refine (rotaref06_Decode.calls k3 (rd l0_0 (rd t539 x16_3)) t545 t546 t547 t548 t549 t550 _ A25.out).mono ?_
                 rintro e w43 ⟨rfl, hb⟩
                 have HS3_ := (hb.cell (World.block_lt_of_cell? _ _ (hHeld.2.2.2.1))).trans (hHeld.2.2.2.1)
                 refine ⟨_, rfl, ?_⟩
                 have n0_ := K1 (Kd.R_below (mV HO_9.out) hb)
                 have n1_ := K1 (Kd.R_below (mV HO_13.out) hb)
                 have n2_ := K1 (Kd.R_below (mV HO_15.out) hb)
                 have n3_ := K1 (blk_below (mU BK531.out) hb)
                 have n4_ := K1 (below_step mB hb)
                 clear HO_9 HO_13 HO_15 BK531 HB
                 have HO_9 := n0_
                 have HO_13 := n1_
                 have HO_15 := n2_
                 have BK531 := n3_
                 have HB := n4_
                 clear n0_ n1_ n2_ n3_ n4_
                 (try clear hb)
                 refine hK.out _ _ ⟨(blk_cell BK531.out 0).trans rfl, (blk_cell BK531.out 1).trans rfl, (blk_cell BK531.out 2).trans rfl, HS3_, ((HB.out.cell (World.block_lt_of_cell? w _ hw544_0)).trans hw544_0)⟩ (fun hHeld => ?_)
                 clear hK K
                 refine norm_ (a' := ?_) ?_ ?_
                 rotate_left
                 ·show Act.put _ (some 75) _ = _
                  simp only [Act.put, List.setIfInBounds_toArray, List.set_cons_zero, List.set_cons_succ, i64_w, i32_w]
                  rfl
                 refine pure_ (i := 9) (N := some 66) (v := ?_) (a' := ?_) #[true, true, true, true, true, true, true, true, true, true, false, false, false, false, false] rfl rfl (any_of HT_.out (by kernel_rfl)) (fun _ _ _ h => h) (Or.inl ⟨by rfl, ?_⟩) ?_ ?_
                 rotate_left
                 ·intro w'
                  go_simp
                  with_reducible rfl
                 rotate_left
                 ·simp only [Act.put, List.setIfInBounds_toArray, List.set_cons_zero, List.set_cons_succ, i64_w, i32_w]
                  rfl
                 refine pure_ (i := 10) (N := some 76) (v := ?_) (a' := ?_) #[true, true, true, true, true, true, true, true, true, true, true, false, false, false, false] rfl rfl (any_of HT_.out (by kernel_rfl)) (fun _ _ _ h => h) (Or.inl ⟨by rfl, ?_⟩) ?_ ?_
                 rotate_left
                 ·intro w'
                  go_simp
                  with_reducible rfl
                 rotate_left
                 ·simp only [Act.put, List.setIfInBounds_toArray, List.set_cons_zero, List.set_cons_succ, i64_w, i32_w]
                  rfl
                 refine pure_ (i := 11) (N := some 77) (v := ?_) (a' := ?_) #[true, true, true, true, true, true, true, true, true, true, true, true, false, false, false] rfl rfl (any_of HT_.out (by kernel_rfl)) (fun _ _ _ h => h) (Or.inl ⟨by rfl, ?_⟩) ?_ ?_
                 rotate_left
                 ·intro w'
                  go_simp
                  with_reducible rfl
                 rotate_left
                 ·simp only [Act.put, List.setIfInBounds_toArray, List.set_cons_zero, List.set_cons_succ, i64_w, i32_w]
                  rfl
                 refine one_ (i := 12) (N := some 17) #[true, true, true, true, true, true, true, true, true, true, true, true, true, false, false] rfl rfl (one_of HT_.out (by kernel_rfl)) (by decide) (fun K hK => ?_)
                 refine box_step ?hg (N := 17) ?hd (cs := #[.int .i64 0, .int .i64 0, .int .i64 0, .int .i64 0, .int .i64 0]) (t := 48) ?hr ?_; (case hd => rfl); (case hg => rfl); (case hr => first | (go_simp; done) | (go_simp; rfl))
                 intro gb551 hg w44 hbox hb
                 have HS3_ := (hb.cell (World.block_lt_of_cell? _ _ (hHeld.2.2.2.1))).trans (hHeld.2.2.2.1)
                 have n0_ := K1 (Kd.R_below (mV HO_9.out) hb)
                 have n1_ := K1 (Kd.R_below (mV HO_13.out) hb)
                 have n2_ := K1 (Kd.R_below (mV HO_15.out) hb)
                 have n3_ := K1 (blk_below (mU BK531.out) hb)
                 have n4_ := K1 (below_step mB hb)
                 have n5_ := K1 (hbox)
                 have n6_ := K1 (mG : w.heap.size ≤ gb551)
                 have n7_ := K1 (mG : w.heap.size ≤ gb551)
                 have n8_ := K1 ((by rw [hg]; exact Nat.ne_of_lt (blk_lt (mU BK531.out)) : gb531 ≠ gb551))
                 have n9_ := K1 ((by rw [hg]; exact Nat.ne_of_gt (blk_lt (mU BK531.out)) : gb551 ≠ gb531))
                 clear HO_9 HO_13 HO_15 BK531 HB
                 have HO_9 := n0_
                 have HO_13 := n1_
                 have HO_15 := n2_
                 have BK531 := n3_
                 have HB := n4_
                 have BK551 := n5_
                 have GW551 := n6_
                 have GE551 := n7_
                 have NB531_551 := n8_
                 have NB551_531 := n9_
                 clear n0_ n1_ n2_ n3_ n4_ n5_ n6_ n7_ n8_ n9_ hb hbox hg
                 refine hK.out _ _ ⟨(blk_cell BK531.out 0).trans rfl, (blk_cell BK531.out 1).trans rfl, (blk_cell BK531.out 2).trans rfl, HS3_, ((HB.out.cell (World.block_lt_of_cell? w _ hw544_0)).trans hw544_0)⟩ (fun hHeld => ?_)
                 clear hK K
                 refine norm_ (a' := ?_) ?_ ?_
                 rotate_left
                 ·show Act.put _ (some 17) _ = _
                  simp only [Act.put, List.setIfInBounds_toArray, List.set_cons_zero, List.set_cons_succ, i64_w, i32_w]
                  rfl
                 exact norm_ (by simp only [putAll, Act.put, List.setIfInBounds_toArray, List.set_cons_zero, List.set_cons_succ]) (hCont (gb551) _ ⟨hHeld, (by (with_reducible repeat (first | apply Kd.R_alloc | apply Kd.R_drewN | apply Kd.R_drew)); exact Kd.R_mono HO_13.out (fun _ hk => ⟨hk.2, hk.1⟩)), (by (with_reducible repeat (first | apply Kd.R_alloc | apply Kd.R_drewN | apply Kd.R_drew)); exact Kd.R_mono HO_15.out (fun _ hk => ⟨hk.2, hk.1⟩)), (mV HO_9.out), (mU BK531.out), (mU BK551.out), GW551.out, GE551.out, NB531_551.out, NB551_531.out, mB⟩)
                ·skip
                 refine box_step ?hg (N := 17) ?hd (cs := #[.int .i64 0, .int .i64 0, .int .i64 0, .int .i64 0, .int .i64 0]) (t := 48) ?hr ?_; (case hd => rfl); (case hg => rfl); (case hr => first | (go_simp; done) | (go_simp; rfl))
                 intro gb551 hg w43 hbox hb
                 have HS3_ := (hb.cell (World.block_lt_of_cell? _ _ (hHeld.2.2.2.1))).trans (hHeld.2.2.2.1)
                 have n0_ := K1 (Kd.R_below (mV HO_9.out) hb)
                 have n1_ := K1 (Kd.R_below (mV HO_13.out) hb)
                 have n2_ := K1 (Kd.R_below (mV HO_15.out) hb)
                 have n3_ := K1 (blk_below (mU BK531.out) hb)
                 have n4_ := K1 (below_step mB hb)
                 have n5_ := K1 (hbox)
                 have n6_ := K1 (mG : w.heap.size ≤ gb551)
                 have n7_ := K1 (mG : w.heap.size ≤ gb551)
                 have n8_ := K1 ((by rw [hg]; exact Nat.ne_of_lt (blk_lt (mU BK531.out)) : gb531 ≠ gb551))
                 have n9_ := K1 ((by rw [hg]; exact Nat.ne_of_gt (blk_lt (mU BK531.out)) : gb551 ≠ gb531))
                 clear HO_9 HO_13 HO_15 BK531 HB
                 have HO_9 := n0_
                 have HO_13 := n1_
                 have HO_15 := n2_
                 have BK531 := n3_
                 have HB := n4_
                 have BK551 := n5_
                 have GW551 := n6_
                 have GE551 := n7_
                 have NB531_551 := n8_
                 have NB551_531 := n9_
                 clear n0_ n1_ n2_ n3_ n4_ n5_ n6_ n7_ n8_ n9_ hb hbox hg
                 refine hK.out _ _ ⟨(blk_cell BK531.out 0).trans rfl, (blk_cell BK531.out 1).trans rfl, (blk_cell BK531.out 2).trans rfl, HS3_, ((HB.out.cell (World.block_lt_of_cell? w _ hw544_0)).trans hw544_0)⟩ (fun hHeld => ?_)
                 clear hK K
                 refine norm_ (a' := ?_) ?_ ?_
                 rotate_left
                 ·show Act.put _ (some 17) _ = _
                  simp only [Act.put, List.setIfInBounds_toArray, List.set_cons_zero, List.set_cons_succ, i64_w, i32_w]
                  rfl
                 refine one_ (i := 8) (N := some 75) #[true, true, true, true, true, true, true, true, true, false, false, false, true, false, false] rfl rfl (one_of HT_.out (by kernel_rfl)) (by decide) (fun K hK => ?_)
                 refine goes_ Try.func27 (by kernel_rfl) rfl #[.int .u32 (rd l0_0 (rd t539 x16_3))] (by rfl) rfl rfl mL ?_
                 with_reducible refine (rotaref06_Decode.calls k3 (rd l0_0 (rd t539 x16_3)) t545 t546 t547 t548 t549 t550 _ A25.out).mono ?_
                 rintro e w44 ⟨rfl, hb⟩
                 have HS3_ := (hb.cell (World.block_lt_of_cell? _ _ (hHeld.2.2.2.1))).trans (hHeld.2.2.2.1)
                 refine ⟨_, rfl, ?_⟩
                 have n0_ := K1 (Kd.R_below (mV HO_9.out) hb)
                 have n1_ := K1 (Kd.R_below (mV HO_13.out) hb)
                 have n2_ := K1 (Kd.R_below (mV HO_15.out) hb)
                 have n3_ := K1 (blk_below (mU BK531.out) hb)
                 have n4_ := K1 (blk_below (mU BK551.out) hb)
                 have n5_ := K1 (below_step mB hb)
                 clear HO_9 HO_13 HO_15 BK531 BK551 HB
                 have HO_9 := n0_
                 have HO_13 := n1_
                 have HO_15 := n2_
                 have BK531 := n3_
                 have BK551 := n4_
                 have HB := n5_
                 clear n0_ n1_ n2_ n3_ n4_ n5_
                 (try clear hb)
                 refine hK.out _ _ ⟨(blk_cell BK531.out 0).trans rfl, (blk_cell BK531.out 1).trans rfl, (blk_cell BK531.out 2).trans rfl, HS3_, ((HB.out.cell (World.block_lt_of_cell? w _ hw544_0)).trans hw544_0)⟩ (fun hHeld => ?_)
                 clear hK K
                 refine norm_ (a' := ?_) ?_ ?_
                 rotate_left
                 ·show Act.put _ (some 75) _ = _
                  simp only [Act.put, List.setIfInBounds_toArray, List.set_cons_zero, List.set_cons_succ, i64_w, i32_w]
                  rfl
                 refine pure_ (i := 9) (N := some 66) (v := ?_) (a' := ?_) #[true, true, true, true, true, true, true, true, true, true, false, false, true, false, false] rfl rfl (any_of HT_.out (by kernel_rfl)) (fun _ _ _ h => h) (Or.inl ⟨by rfl, ?_⟩) ?_ ?_
                 rotate_left
                 ·intro w'
                  go_simp
                  with_reducible rfl
                 rotate_left
                 ·simp only [Act.put, List.setIfInBounds_toArray, List.set_cons_zero, List.set_cons_succ, i64_w, i32_w]
                  rfl
                 refine pure_ (i := 10) (N := some 76) (v := ?_) (a' := ?_) #[true, true, true, true, true, true, true, true, true, true, true, false, true, false, false] rfl rfl (any_of HT_.out (by kernel_rfl)) (fun _ _ _ h => h) (Or.inl ⟨by rfl, ?_⟩) ?_ ?_
                 rotate_left
                 ·intro w'
                  go_simp
                  with_reducible rfl
                 rotate_left
                 ·simp only [Act.put, List.setIfInBounds_toArray, List.set_cons_zero, List.set_cons_succ, i64_w, i32_w]
                  rfl
                 refine pure_ (i := 11) (N := some 77) (v := ?_) (a' := ?_) #[true, true, true, true, true, true, true, true, true, true, true, true, true, false, false] rfl rfl (any_of HT_.out (by kernel_rfl)) (fun _ _ _ h => h) (Or.inl ⟨by rfl, ?_⟩) ?_ ?_
                 rotate_left
                 ·intro w'
                  go_simp
                  with_reducible rfl
                 rotate_left
                 ·simp only [Act.put, List.setIfInBounds_toArray, List.set_cons_zero, List.set_cons_succ, i64_w, i32_w]
                  rfl
                 exact norm_ (by simp only [putAll, Act.put, List.setIfInBounds_toArray, List.set_cons_zero, List.set_cons_succ]) (hCont (gb551) _ ⟨hHeld, (by (with_reducible repeat (first | apply Kd.R_alloc | apply Kd.R_drewN | apply Kd.R_drew)); exact Kd.R_mono HO_13.out (fun _ hk => ⟨hk.2, hk.1⟩)), (by (with_reducible repeat (first | apply Kd.R_alloc | apply Kd.R_drewN | apply Kd.R_drew)); exact Kd.R_mono HO_15.out (fun _ hk => ⟨hk.2, hk.1⟩)), (mV HO_9.out), (mU BK531.out), (mU BK551.out), GW551.out, GE551.out, NB531_551.out, NB551_531.out, mB⟩)
               rintro gb551 w45 ⟨hS_, h0_, h1_, h2_, h3_, h4_, h5_, h6_, h7_, h8_, h9_⟩
               have n0_ : Aside0 (Kd.R (Kd.int .i64) 3 w45 w.heap.size (fun k_ => some k_ ≠ (u15 : Value).ownBlock ∧ some k_ ≠ (v536 : Value).ownBlock) (.slice (some ad543) t539.length co41) t539) := ⟨h0_⟩
               have n1_ : Aside0 (Kd.R (Kd.int .i64) 3 w45 w.heap.size (fun k_ => some k_ ≠ (.slice (some ad543) t539.length co41 : Value).ownBlock ∧ some k_ ≠ (v536 : Value).ownBlock) u15 x15_3) := ⟨h1_⟩
               have n2_ : Aside0 (Kd.R (Kd.int .i64) 3 w45 w.heap.size (fun k_ => some k_ ≠ (.slice (some ad543) t539.length co41 : Value).ownBlock ∧ some k_ ≠ (u15 : Value).ownBlock) v536 t535) := ⟨h2_⟩
               have n3_ : Aside0 (w45.heap[gb531]? = some (.cells #[.slice (some ad544) l0_0.length c0_0, .slice A0_1 l0_1.length c0_1, .slice A0_2 l0_2.length c0_2] 26 (0, 0))) := ⟨h3_⟩
               have n4_ : Aside0 (w45.heap[gb551]? = some (.cells #[.int .i64 0, .int .i64 0, .int .i64 0, .int .i64 0, .int .i64 0] 48 (0, 0))) := ⟨h4_⟩
               have n5_ : Aside0 (w.heap.size ≤ gb551) := ⟨h5_⟩
               have n6_ : Aside0 (w.heap.size ≤ gb551) := ⟨h6_⟩
               have n7_ : Aside0 (gb531 ≠ gb551) := ⟨h7_⟩
               have n8_ : Aside0 (gb551 ≠ gb531) := ⟨h8_⟩
               have n9_ : Aside0 (Below w.heap.size w w45) := ⟨h9_⟩
               clear HO_9 HO_13 HO_15 BK531 HB h0_ h1_ h2_ h3_ h4_ h5_ h6_ h7_ h8_ h9_
               have HO_13 := n0_
               have HO_15 := n1_
               have HO_9 := n2_
               have BK531 := n3_
               have BK551 := n4_
               have GW551 := n5_
               have GE551 := n6_
               have NB531_551 := n7_
               have NB551_531 := n8_
               have HB := n9_
               clear n0_ n1_ n2_ n3_ n4_ n5_ n6_ n7_ n8_ n9_
               have hHeld : w45.cell? ⟨gb531, 0, none⟩ = some (.slice (some ad544) l0_0.length c0_0) ∧ w45.cell? ⟨gb531, 1, none⟩ = some (.slice A0_1 l0_1.length c0_1) ∧ w45.cell? ⟨gb531, 2, none⟩ = some (.slice A0_2 l0_2.length c0_2) ∧ w45.cell? (ad543.add (x16_3).toNat) = some (.int .i64 (rd t539 x16_3)) ∧ w45.cell? (ad544.add ((rd t539 x16_3)).toNat) = some (.int .u32 (rd l0_0 (rd t539 x16_3))) := hS_
               refine norm_ (a' := ?_) ?_ ?_
               rotate_left
               ·simp only [putAll, Act.put, List.setIfInBounds_toArray, List.set_cons_zero, List.set_cons_succ]
                rfl
               refine one_ (i := 13) (N := none) #[true, true, true, true, true, true, true, true, true, true, true, true, true, true, false] rfl rfl (one_of HT_.out (by kernel_rfl)) (by decide) (fun K hK => ?_)
               have hs46 : w45.cell? ⟨gb551, 0, none⟩ = some (.int .i64 0) := (blk_cell BK551.out 0).trans rfl
               have hfs46 := blk_frozen BK551.out 0
               have hns46_0 := NB531_551.out
               have hms46_0 := NB551_531.out
               have hs47 : w45.cell? ⟨gb551, 1, none⟩ = some (.int .i64 0) := (blk_cell BK551.out 1).trans rfl
               have hfs47 := blk_frozen BK551.out 1
               have hns47_0 := NB531_551.out
               have hms47_0 := NB551_531.out
               have hs48 : w45.cell? ⟨gb551, 2, none⟩ = some (.int .i64 0) := (blk_cell BK551.out 2).trans rfl
               have hfs48 := blk_frozen BK551.out 2
               have hns48_0 := NB531_551.out
               have hms48_0 := NB551_531.out
               have hs49 : w45.cell? ⟨gb551, 3, none⟩ = some (.int .i64 0) := (blk_cell BK551.out 3).trans rfl
               have hfs49 := blk_frozen BK551.out 3
               have hns49_0 := NB531_551.out
               have hms49_0 := NB551_531.out
               have hs50 : w45.cell? ⟨gb551, 4, none⟩ = some (.int .i64 0) := (blk_cell BK551.out 4).trans rfl
               have hfs50 := blk_frozen BK551.out 4
               have hns50_0 := NB531_551.out
               have hms50_0 := NB551_531.out
               refine skip_ (w1 := ?_) (by rfl) rfl ?_ ?_
               rotate_left
               ·go_simp
                rfl
               refine hK.out _ _ ⟨((cell_far (p := ⟨gb551, _, none⟩) NB531_551.out _).trans (((cell_far (p := ⟨gb551, _, none⟩) NB531_551.out _).trans (((cell_far (p := ⟨gb551, _, none⟩) NB531_551.out _).trans (((cell_far (p := ⟨gb551, _, none⟩) NB531_551.out _).trans (((cell_far (p := ⟨gb551, _, none⟩) NB531_551.out _).trans (hHeld.1)))))))))), ((cell_far (p := ⟨gb551, _, none⟩) NB531_551.out _).trans (((cell_far (p := ⟨gb551, _, none⟩) NB531_551.out _).trans (((cell_far (p := ⟨gb551, _, none⟩) NB531_551.out _).trans (((cell_far (p := ⟨gb551, _, none⟩) NB531_551.out _).trans (((cell_far (p := ⟨gb551, _, none⟩) NB531_551.out _).trans (hHeld.2.1)))))))))), ((cell_far (p := ⟨gb551, _, none⟩) NB531_551.out _).trans (((cell_far (p := ⟨gb551, _, none⟩) NB531_551.out _).trans (((cell_far (p := ⟨gb551, _, none⟩) NB531_551.out _).trans (((cell_far (p := ⟨gb551, _, none⟩) NB531_551.out _).trans (((cell_far (p := ⟨gb551, _, none⟩) NB531_551.out _).trans (hHeld.2.2.1)))))))))), ((cell_far (p := ⟨gb551, _, none⟩) (by first | exact Kd.own_blk (Kd.R_ne HO_13.out BK551.out (by decide)) | (rw [add_block]; exact Kd.own_blk (Kd.R_ne HO_13.out BK551.out (by decide))) | (show (Addr.add _ _).block ≠ _; rw [add_block]; exact Kd.own_blk (Kd.R_ne HO_13.out BK551.out (by decide))) | (dsimp only; exact Kd.own_blk (Kd.R_ne HO_13.out BK551.out (by decide)))) _).trans (((cell_far (p := ⟨gb551, _, none⟩) (by first | exact Kd.own_blk (Kd.R_ne HO_13.out BK551.out (by decide)) | (rw [add_block]; exact Kd.own_blk (Kd.R_ne HO_13.out BK551.out (by decide))) | (show (Addr.add _ _).block ≠ _; rw [add_block]; exact Kd.own_blk (Kd.R_ne HO_13.out BK551.out (by decide))) | (dsimp only; exact Kd.own_blk (Kd.R_ne HO_13.out BK551.out (by decide)))) _).trans (((cell_far (p := ⟨gb551, _, none⟩) (by first | exact Kd.own_blk (Kd.R_ne HO_13.out BK551.out (by decide)) | (rw [add_block]; exact Kd.own_blk (Kd.R_ne HO_13.out BK551.out (by decide))) | (show (Addr.add _ _).block ≠ _; rw [add_block]; exact Kd.own_blk (Kd.R_ne HO_13.out BK551.out (by decide))) | (dsimp only; exact Kd.own_blk (Kd.R_ne HO_13.out BK551.out (by decide)))) _).trans (((cell_far (p := ⟨gb551, _, none⟩) (by first | exact Kd.own_blk (Kd.R_ne HO_13.out BK551.out (by decide)) | (rw [add_block]; exact Kd.own_blk (Kd.R_ne HO_13.out BK551.out (by decide))) | (show (Addr.add _ _).block ≠ _; rw [add_block]; exact Kd.own_blk (Kd.R_ne HO_13.out BK551.out (by decide))) | (dsimp only; exact Kd.own_blk (Kd.R_ne HO_13.out BK551.out (by decide)))) _).trans (((cell_far (p := ⟨gb551, _, none⟩) (by first | exact Kd.own_blk (Kd.R_ne HO_13.out BK551.out (by decide)) | (rw [add_block]; exact Kd.own_blk (Kd.R_ne HO_13.out BK551.out (by decide))) | (show (Addr.add _ _).block ≠ _; rw [add_block]; exact Kd.own_blk (Kd.R_ne HO_13.out BK551.out (by decide))) | (dsimp only; exact Kd.own_blk (Kd.R_ne HO_13.out BK551.out (by decide)))) _).trans (hHeld.2.2.2.1)))))))))), ((cell_far (p := ⟨gb551, _, none⟩) (by first | exact Nat.ne_of_lt (Nat.lt_of_lt_of_le (by have := World.block_lt_of_cell? _ _ hw544_0; first | rwa [add_block] at this | exact this) GW551.out) | (rw [add_block]; exact Nat.ne_of_lt (Nat.lt_of_lt_of_le (by have := World.block_lt_of_cell? _ _ hw544_0; first | rwa [add_block] at this | exact this) GW551.out)) | (show (Addr.add _ _).block ≠ _; rw [add_block]; exact Nat.ne_of_lt (Nat.lt_of_lt_of_le (by have := World.block_lt_of_cell? _ _ hw544_0; first | rwa [add_block] at this | exact this) GW551.out)) | (dsimp only; exact Nat.ne_of_lt (Nat.lt_of_lt_of_le (by have := World.block_lt_of_cell? _ _ hw544_0; first | rwa [add_block] at this | exact this) GW551.out))) _).trans (((cell_far (p := ⟨gb551, _, none⟩) (by first | exact Nat.ne_of_lt (Nat.lt_of_lt_of_le (by have := World.block_lt_of_cell? _ _ hw544_0; first | rwa [add_block] at this | exact this) GW551.out) | (rw [add_block]; exact Nat.ne_of_lt (Nat.lt_of_lt_of_le (by have := World.block_lt_of_cell? _ _ hw544_0; first | rwa [add_block] at this | exact this) GW551.out)) | (show (Addr.add _ _).block ≠ _; rw [add_block]; exact Nat.ne_of_lt (Nat.lt_of_lt_of_le (by have := World.block_lt_of_cell? _ _ hw544_0; first | rwa [add_block] at this | exact this) GW551.out)) | (dsimp only; exact Nat.ne_of_lt (Nat.lt_of_lt_of_le (by have := World.block_lt_of_cell? _ _ hw544_0; first | rwa [add_block] at this | exact this) GW551.out))) _).trans (((cell_far (p := ⟨gb551, _, none⟩) (by first | exact Nat.ne_of_lt (Nat.lt_of_lt_of_le (by have := World.block_lt_of_cell? _ _ hw544_0; first | rwa [add_block] at this | exact this) GW551.out) | (rw [add_block]; exact Nat.ne_of_lt (Nat.lt_of_lt_of_le (by have := World.block_lt_of_cell? _ _ hw544_0; first | rwa [add_block] at this | exact this) GW551.out)) | (show (Addr.add _ _).block ≠ _; rw [add_block]; exact Nat.ne_of_lt (Nat.lt_of_lt_of_le (by have := World.block_lt_of_cell? _ _ hw544_0; first | rwa [add_block] at this | exact this) GW551.out)) | (dsimp only; exact Nat.ne_of_lt (Nat.lt_of_lt_of_le (by have := World.block_lt_of_cell? _ _ hw544_0; first | rwa [add_block] at this | exact this) GW551.out))) _).trans (((cell_far (p := ⟨gb551, _, none⟩) (by first | exact Nat.ne_of_lt (Nat.lt_of_lt_of_le (by have := World.block_lt_of_cell? _ _ hw544_0; first | rwa [add_block] at this | exact this) GW551.out) | (rw [add_block]; exact Nat.ne_of_lt (Nat.lt_of_lt_of_le (by have := World.block_lt_of_cell? _ _ hw544_0; first | rwa [add_block] at this | exact this) GW551.out)) | (show (Addr.add _ _).block ≠ _; rw [add_block]; exact Nat.ne_of_lt (Nat.lt_of_lt_of_le (by have := World.block_lt_of_cell? _ _ hw544_0; first | rwa [add_block] at this | exact this) GW551.out)) | (dsimp only; exact Nat.ne_of_lt (Nat.lt_of_lt_of_le (by have := World.block_lt_of_cell? _ _ hw544_0; first | rwa [add_block] at this | exact this) GW551.out))) _).trans (((cell_far (p := ⟨gb551, _, none⟩) (by first | exact Nat.ne_of_lt (Nat.lt_of_lt_of_le (by have := World.block_lt_of_cell? _ _ hw544_0; first | rwa [add_block] at this | exact this) GW551.out) | (rw [add_block]; exact Nat.ne_of_lt (Nat.lt_of_lt_of_le (by have := World.block_lt_of_cell? _ _ hw544_0; first | rwa [add_block] at this | exact this) GW551.out)) | (show (Addr.add _ _).block ≠ _; rw [add_block]; exact Nat.ne_of_lt (Nat.lt_of_lt_of_le (by have := World.block_lt_of_cell? _ _ hw544_0; first | rwa [add_block] at this | exact this) GW551.out)) | (dsimp only; exact Nat.ne_of_lt (Nat.lt_of_lt_of_le (by have := World.block_lt_of_cell? _ _ hw544_0; first | rwa [add_block] at this | exact this) GW551.out))) _).trans (hHeld.2.2.2.2))))))))))⟩ (fun hHeld => ?_)
               clear hK K
               refine pure_ (i := 14) (N := some 18) (v := ?_) (a' := ?_) #[true, true, true, true, true, true, true, true, true, true, true, true, true, true, true] rfl rfl (any_of HT_.out (by kernel_rfl)) (fun _ _ _ h => h) (Or.inl ⟨by rfl, ?_⟩) ?_ ?_
               rotate_left
               ·intro w'
                go_simp
                with_reducible rfl
               rotate_left
               ·simp only [Act.put, List.setIfInBounds_toArray, List.set_cons_zero, List.set_cons_succ, i64_w, i32_w]
                rfl
               refine done_ (done_of HT_.out (by kernel_rfl)) ?_
               have hnb51 := NB551_531.out
               have hnc51 := NB531_551.out
               obtain ⟨hcz52_0, hcz52_1, hcz52_2, hcz52_3, hcz52_4, hfz52_0, hfz52_1, hfz52_2, hfz52_3, hfz52_4⟩ := cf5 BK551
               try go_wp2
               go_roundg k3
               case measure => have := HJ6.out; have := HK2.out; have := HK3.out; omega
               case rel => exact ⟨(x15_3), (wrap64 (x16_3 + 1)), (mF), H', ⟨by have := HJ6.out; have := HK2.out; have := HK3.out; omega⟩, ⟨by (with_reducible repeat (first | apply Kd.R_alloc | apply Kd.R_drewN | apply Kd.R_drew)); exact Kd.R_mono (Kd.R_far (p := ⟨gb551, 4, none⟩) (Kd.R_far (p := ⟨gb551, 3, none⟩) (Kd.R_far (p := ⟨gb551, 2, none⟩) (Kd.R_far (p := ⟨gb551, 1, none⟩) (Kd.R_far (p := ⟨gb551, 0, none⟩) (Kd.R_types HO_9.out BK551.out (by decide)) (fun _ hk => hk.2) (.int .i64 t545)) (fun _ hk => hk.2) (.int .i64 t546)) (fun _ hk => hk.2) (.int .i64 t547)) (fun _ hk => hk.2) (.int .i64 t548)) (fun _ hk => hk.2) (.int .i64 t549)) (fun _ hk => ⟨hk.1.1, hk.1.2⟩)⟩, ⟨by (with_reducible repeat (first | apply Kd.R_alloc | apply Kd.R_drewN | apply Kd.R_drew)); exact Kd.R_mono (Kd.R_far (p := ⟨gb551, 4, none⟩) (Kd.R_far (p := ⟨gb551, 3, none⟩) (Kd.R_far (p := ⟨gb551, 2, none⟩) (Kd.R_far (p := ⟨gb551, 1, none⟩) (Kd.R_far (p := ⟨gb551, 0, none⟩) (Kd.R_types HO_13.out BK551.out (by decide)) (fun _ hk => hk.2) (.int .i64 t545)) (fun _ hk => hk.2) (.int .i64 t546)) (fun _ hk => hk.2) (.int .i64 t547)) (fun _ hk => hk.2) (.int .i64 t548)) (fun _ hk => hk.2) (.int .i64 t549)) (fun _ hk => ⟨hk.1.2, hk.1.1⟩)⟩, ⟨by (with_reducible repeat (first | apply Kd.R_alloc | apply Kd.R_drewN | apply Kd.R_drew)); exact Kd.R_mono (Kd.R_far (p := ⟨gb551, 4, none⟩) (Kd.R_far (p := ⟨gb551, 3, none⟩) (Kd.R_far (p := ⟨gb551, 2, none⟩) (Kd.R_far (p := ⟨gb551, 1, none⟩) (Kd.R_far (p := ⟨gb551, 0, none⟩) (Kd.R_types HO_15.out BK551.out (by decide)) (fun _ hk => hk.2) (.int .i64 t545)) (fun _ hk => hk.2) (.int .i64 t546)) (fun _ hk => hk.2) (.int .i64 t547)) (fun _ hk => hk.2) (.int .i64 t548)) (fun _ hk => hk.2) (.int .i64 t549)) (fun _ hk => ⟨hk.1.2, hk.1.1⟩)⟩, ⟨by refine mU ?_; refine blk_far ?_ NB531_551.out _; refine mU ?_; refine blk_far ?_ NB531_551.out _; refine mU ?_; refine blk_far ?_ NB531_551.out _; refine mU ?_; refine blk_far ?_ NB531_551.out _; refine mU ?_; refine blk_far ?_ NB531_551.out _; refine mU ?_; exact BK531.out⟩, ⟨mB⟩⟩
             ·rw [if_neg c24] at H
              exact absurd H (by simp)
            ·rw [if_neg c23] at H
             exact absurd H (by simp)
           ·rw [if_neg c22] at H
            exact absurd H (by simp)
          ·rw [if_neg c21] at H
           have c21b0 : decide (x16_3 < (t539.length : Int)) = false := decide_eq_false c21
           clear c21
           by_cases c53 : (x15_3.length : Int) = 0
           ·rw [if_pos c53] at H
            have c53b0 : ((x15_3.length : Int) == 0) = true := beq_iff_eq.mpr c53
            have c53b1 : ((x15_3.length : Int) != 0) = false := bne_eq_false_iff_eq.mpr c53
            clear c53
            obtain rfl := Option.some.inj H
            obtain ⟨Ao54, co54, eo54⟩ := Kd.R_slice HO_13.out
            subst eo54
            obtain ⟨Ao55, co55, eo55⟩ := Kd.R_slice HO_15.out
            subst eo55
            go_wp2
            go_ret
            exact ⟨mE, mB⟩
           ·rw [if_neg c53] at H
            have c53b0 : ((x15_3.length : Int) == 0) = false := beq_eq_false_iff_ne.mpr c53
            have c53b1 : ((x15_3.length : Int) != 0) = true := bne_iff_ne.mpr c53
            have c53b2 : ¬ (x15_3 = []) := fun h_ => c53 (by rw [h_]; rfl)
            have HC56 := K1 H
            clear H
            obtain ⟨Ao57, co57, eo57⟩ := Kd.R_slice HO_13.out
            subst eo57
            obtain ⟨Ao58, co58, eo58⟩ := Kd.R_slice HO_15.out
            subst eo58
            go_upto_region 21 with (fail)
            go_cut [95] (fun v95 wc => ∃ (kq : Nat) (x95_55 : Bool), v95 = .bool x95_55 ∧ Aside0 (rotalaw08_ProperDeep.j3 kq l2 t532 t535 x12_2 x15_3 x95_55 l0_0 l0_1 l0_2 = some r) ∧ Aside0 (kq ≤ k3) ∧ Aside0 (Kd.R (Kd.int .i64) 3 wc w.heap.size (fun k_ => some k_ ≠ ((.slice Ao58 x15_3.length co58) : Value).ownBlock) v536 t535) ∧ Aside0 (Kd.R (Kd.int .i64) 3 wc w.heap.size (fun k_ => some k_ ≠ (v536 : Value).ownBlock) (.slice Ao58 x15_3.length co58) x15_3) ∧ Aside0 (wc.heap[gb531]? = some (.cells #[(.slice A0_0 l0_0.length c0_0), (.slice A0_1 l0_1.length c0_1), (.slice A0_2 l0_2.length c0_2)] 26 (0, 0))) ∧ Aside0 (Below w.heap.size w wc))
            case first =>
             have H := HC56.out
             clear HC56
             by_cases c59 : t532 ≥ 0
             ·rw [if_pos c59] at H
              have c59b0 : decide (0 ≤ t532) = true := decide_eq_true c59
              clear c59
              (first | rw [c59b0] | (simp only [i64_w, i32_w]; rw [c59b0]) | skip)
              have H' := K1 H
              clear H
              go_wp2
              go_meet
              case rel => exact ⟨_, (decide (x12_2 ≥ t532)), (mF), H', ⟨by have := HJ6.out; have := HK2.out; have := HK3.out; first | omega | exact Nat.le_refl _⟩, ⟨by (with_reducible repeat (first | apply Kd.R_alloc | apply Kd.R_drewN | apply Kd.R_drew)); exact Kd.R_mono HO_9.out (fun _ hk => hk.2)⟩, ⟨by (with_reducible repeat (first | apply Kd.R_alloc | apply Kd.R_drewN | apply Kd.R_drew)); exact Kd.R_mono HO_15.out (fun _ hk => hk.1)⟩, ⟨mU BK531.out⟩, ⟨mB⟩⟩
             ·rw [if_neg c59] at H
              have c59b0 : decide (0 ≤ t532) = false := decide_eq_false c59
              clear c59
              (first | rw [c59b0] | (simp only [i64_w, i32_w]; rw [c59b0]) | skip)
              have H' := K1 H
              clear H
              go_wp2
              go_meet
              case rel => exact ⟨_, (false), (mF), H', ⟨by have := HJ6.out; have := HK2.out; have := HK3.out; first | omega | exact Nat.le_refl _⟩, ⟨by (with_reducible repeat (first | apply Kd.R_alloc | apply Kd.R_drewN | apply Kd.R_drew)); exact Kd.R_mono HO_9.out (fun _ hk => hk.2)⟩, ⟨by (with_reducible repeat (first | apply Kd.R_alloc | apply Kd.R_drewN | apply Kd.R_drew)); exact Kd.R_mono HO_15.out (fun _ hk => hk.1)⟩, ⟨mU BK531.out⟩, ⟨mB⟩⟩
            case rest =>
             clear HC56 c21b0 c53 c53b0 c53b1 c53b2
             obtain ⟨kq, x95_55, rfl, HA, HJ55, HO_9, HO_15, BK531, HB⟩ := hcut
             cases kq with
             | zero => exact absurd HA.out (by simp [rotalaw08_ProperDeep.j3])
             | succ kj55 =>
              have H := HA.out
              clear HA
              simp only [rotalaw08_ProperDeep.j3] at H
              by_cases c60 : x95_55 = true
              ·subst c60
               have H1 : (some false) = some r := by rw [if_pos rfl] at H; exact H
               clear H
               have H := H1
               clear H1
               obtain rfl := Option.some.inj H
               go_wp2
               go_ret
               exact ⟨mE, mB⟩
              ·replace c60 := Bool.eq_false_iff.mpr c60
               subst c60
               have H1 : (if 0 ≤ x12_2 then (if x12_2 < (l2.length : Int) then (if (x15_3.length : Int) = 0 then (none) else (if 0 ≤ (Int.tmod (wrap64 (rd l2 x12_2)) (x15_3.length : Int)) then (if (Int.tmod (wrap64 (rd l2 x12_2)) (x15_3.length : Int)) < (x15_3.length : Int) then ((rotalaw08_has.f kj55 t535 (rd x15_3 (Int.tmod (wrap64 (rd l2 x12_2)) (x15_3.length : Int)))).bind fun t557 => (if t557 = true then (rotalaw08_ProperDeep.l0 kj55 l2 t532 t535 (rd x15_3 (Int.tmod (wrap64 (rd l2 x12_2)) (x15_3.length : Int))) (wrap64 (x12_2 + 1)) l0_0 l0_1 l0_2) else (some false))) else (none)) else (none))) else (none)) else (none)) = some r := by rw [if_neg (show ¬ (false = true) by decide)] at H; exact H
               clear H
               have H := H1
               clear H1
               by_cases c61 : 0 ≤ x12_2
               ·rw [if_pos c61] at H
                have c61b0 : decide (0 ≤ x12_2) = true := decide_eq_true c61
                clear c61
                by_cases c62 : x12_2 < (l2.length : Int)
                ·rw [if_pos c62] at H
                 have c62b0 : decide (x12_2 < (l2.length : Int)) = true := decide_eq_true c62
                 clear c62
                 by_cases c63 : (x15_3.length : Int) = 0
                 ·rw [if_pos c63] at H
                  exact absurd H (by simp)
                 ·rw [if_neg c63] at H
                  have c63b0 : ((x15_3.length : Int) == 0) = false := beq_eq_false_iff_ne.mpr c63
                  have c63b1 : ((x15_3.length : Int) != 0) = true := bne_iff_ne.mpr c63
                  have c63b2 : ¬ (x15_3 = []) := fun h_ => c63 (by rw [h_]; rfl)
                  obtain ⟨ji64, hji64⟩ : ∃ j_ : Int, (Int.tmod (wrap64 (rd l2 x12_2)) (x15_3.length : Int)) = j_ := ⟨_, rfl⟩
                  replace H : (if 0 ≤ (ji64) then (if (ji64) < (x15_3.length : Int) then ((rotalaw08_has.f kj55 t535 (rd x15_3 (ji64))).bind fun t557 => (if t557 = true then (rotalaw08_ProperDeep.l0 kj55 l2 t532 t535 (rd x15_3 (ji64)) (wrap64 (x12_2 + 1)) l0_0 l0_1 l0_2) else (some false))) else (none)) else (none)) = some r := by first | (rw [hji64] at H; exact H) | (simp only [hji64] at H ⊢; exact H)
                  by_cases c65 : 0 ≤ (ji64)
                  ·rw [if_pos c65] at H
                   have c65b0 : decide (0 ≤ (ji64)) = true := decide_eq_true c65
                   clear c65
                   by_cases c66 : (ji64) < (x15_3.length : Int)
                   ·rw [if_pos c66] at H
                    have c66b0 : decide ((ji64) < (x15_3.length : Int)) = true := decide_eq_true c66
                    clear c66
                    replace H := Option.bind_eq_some_iff.mp H
                    obtain ⟨t557, A670, H⟩ := H
                    replace H : (if t557 = true then (rotalaw08_ProperDeep.l0 kj55 l2 t532 t535 (rd x15_3 (ji64)) (wrap64 (x12_2 + 1)) l0_0 l0_1 l0_2) else (some false)) = some r := H
                    have A67 := K1 A670
                    clear A670
                    by_cases c68 : t557 = true
                    ·subst c68
                     have H1 : (rotalaw08_ProperDeep.l0 kj55 l2 t532 t535 (rd x15_3 (ji64)) (wrap64 (x12_2 + 1)) l0_0 l0_1 l0_2) = some r := by rw [if_pos rfl] at H; exact H
                     clear H
                     have H := H1
                     clear H1
                     have H' := K1 H
                     clear H
                     have p555 : 0 ≤ (x12_2 : Int) := of_decide_eq_true (mA)
                     have q555 : x12_2 < (l2.length : Int) := of_decide_eq_true (mA)
                     obtain ⟨ad555, e555, hx555_0⟩ := Kd.at_int HR2.out x12_2 p555 q555
                     cases e555
                     replace hx555_0 := (HB.out.cell (World.block_lt_of_cell? w _ hx555_0)).trans hx555_0
                     replace p555 := eq_true p555
                     replace q555 := eq_true q555
                     have p556 : 0 ≤ ((ji64) : Int) := of_decide_eq_true (mA)
                     have q556 : (ji64) < (x15_3.length : Int) := of_decide_eq_true (mA)
                     obtain ⟨ad556, e556, hx556_0⟩ := Kd.at_int (Kd.R_reads' HO_15.out).2.2 (ji64) p556 q556
                     cases e556
                     replace p556 := eq_true p556
                     replace q556 := eq_true q556
                     obtain ⟨Ao69, co69, eo69⟩ := Kd.R_slice HO_9.out
                     subst eo69
                     go_wp2_with (first | ((with_reducible refine gate_callee (f := 22) rfl ?_); refine goesL_ (some 109) rfl rfl Try.func22 (by kernel_rfl) rfl #[.slice Ao69 t535.length co69, .int .i64 (rd x15_3 (ji64))] rfl (by (try simp only [List.map_toArray, List.map_cons, List.map_nil]); first | done | (simp only [hji64]; rfl) | rfl | (simp only [List.length_drop, List.length_take]; rfl)) ?_; (with_reducible refine (rotalaw08_has.calls kj55 _ _ t535 (rd x15_3 (ji64)) true _ ?side1 ?side2 A67.out).mono ?_); (case side1 => exact mW (Kd.R_reads' HO_9.out).2.2); (case side2 => exact (Kd.R_reads' HO_9.out).2.1); rintro e w' ⟨rfl, ⟨nd, rfl⟩⟩; refine ⟨_, rfl, ?_⟩))
                     go_roundg kj55
                     case measure => have := HJ6.out; have := HK2.out; have := HK3.out; have := HJ55.out; omega
                     case rel => exact ⟨(rd x15_3 (ji64)), (wrap64 (x12_2 + 1)), (by first | rfl | (simp; done) | (simp only [← hji64] <;> (first | rfl | simp)) | (simp [*]; done)), (mF), H', ⟨by have := HJ6.out; have := HK2.out; have := HK3.out; have := HJ55.out; omega⟩, ⟨by (with_reducible repeat (first | apply Kd.R_alloc | apply Kd.R_drewN | apply Kd.R_drew)); exact Kd.R_mono HO_9.out (fun _ hk => trivial)⟩, ⟨mU BK531.out⟩, ⟨mB⟩⟩
                    ·replace c68 := Bool.eq_false_iff.mpr c68
                     subst c68
                     have H1 : (some false) = some r := by rw [if_neg (show ¬ (false = true) by decide)] at H; exact H
                     clear H
                     have H := H1
                     clear H1
                     obtain rfl := Option.some.inj H
                     have p555 : 0 ≤ (x12_2 : Int) := of_decide_eq_true (mA)
                     have q555 : x12_2 < (l2.length : Int) := of_decide_eq_true (mA)
                     obtain ⟨ad555, e555, hx555_0⟩ := Kd.at_int HR2.out x12_2 p555 q555
                     cases e555
                     replace hx555_0 := (HB.out.cell (World.block_lt_of_cell? w _ hx555_0)).trans hx555_0
                     replace p555 := eq_true p555
                     replace q555 := eq_true q555
                     have p556 : 0 ≤ ((ji64) : Int) := of_decide_eq_true (mA)
                     have q556 : (ji64) < (x15_3.length : Int) := of_decide_eq_true (mA)
                     obtain ⟨ad556, e556, hx556_0⟩ := Kd.at_int (Kd.R_reads' HO_15.out).2.2 (ji64) p556 q556
                     cases e556
                     replace p556 := eq_true p556
                     replace q556 := eq_true q556
                     obtain ⟨Ao70, co70, eo70⟩ := Kd.R_slice HO_9.out
                     subst eo70
                     go_wp2_with (first | ((with_reducible refine gate_callee (f := 22) rfl ?_); refine goesL_ (some 109) rfl rfl Try.func22 (by kernel_rfl) rfl #[.slice Ao70 t535.length co70, .int .i64 (rd x15_3 (ji64))] rfl (by (try simp only [List.map_toArray, List.map_cons, List.map_nil]); first | done | (simp only [hji64]; rfl) | rfl | (simp only [List.length_drop, List.length_take]; rfl)) ?_; (with_reducible refine (rotalaw08_has.calls kj55 _ _ t535 (rd x15_3 (ji64)) false _ ?side1 ?side2 A67.out).mono ?_); (case side1 => exact mW (Kd.R_reads' HO_9.out).2.2); (case side2 => exact (Kd.R_reads' HO_9.out).2.1); rintro e w' ⟨rfl, ⟨nd, rfl⟩⟩; refine ⟨_, rfl, ?_⟩))
                     go_ret
                     exact ⟨by first | rfl | (simp [errW_none, errW_some] <;> rfl) | (simp only [← hji64]; first | rfl | (simp [errW_none, errW_some] <;> rfl)) | (simp [*, errW_none, errW_some] <;> rfl), mB⟩
                   ·rw [if_neg c66] at H
                    exact absurd H (by simp)
                  ·rw [if_neg c65] at H
                   exact absurd H (by simp)
                ·rw [if_neg c62] at H
                 exact absurd H (by simp)
               ·rw [if_neg c61] at H
                exact absurd H (by simp)
       ·rw [if_neg c17] at H
        have c17b0 : decide (x12_2 < (l2.length : Int)) = false := decide_eq_false c17
        clear c17
        obtain rfl := Option.some.inj H
        go_wp2
        go_ret
        exact ⟨mE, mB⟩
 ·rw [if_neg c5] at H
  have c5b0 : (t533 == 0) = false := beq_eq_false_iff_ne.mpr c5
  have c5b1 : (t533 != 0) = true := bne_iff_ne.mpr c5
  by_cases c71 : t532 = 0
  ·rw [if_pos c71] at H
   have c71b0 : (t532 == 0) = true := beq_iff_eq.mpr c71
   have c71b1 : (t532 != 0) = false := bne_eq_false_iff_eq.mpr c71
   clear c71
   replace H := Option.bind_eq_some_iff.mp H
   obtain ⟨t534, A720, H⟩ := H
   replace H : (some t534) = some r := H
   have A72 := K1 A720
   clear A720
   obtain rfl := Option.some.inj H
   go_enter Try.func11, Try.ntmps11
   go_wp2_with (first | ((with_reducible refine gate_dst (N := 3) rfl ?_); refine box_event ?hg (N := 3) ?hd (cs := #[.slice A0_0 l0_0.length c0_0, .slice A0_1 l0_1.length c0_1, .slice A0_2 l0_2.length c0_2]) (t := 26) ?hr ?_; (case hd => rfl); (case hg => rfl); (case hr => first | (go_simp; done) | (go_simp; rfl)); intro gb531 hg w73 hbox hb; have n0_ := K1 (below_step mB hb); have n1_ := K1 (hbox); have n2_ := K1 (mG : w.heap.size ≤ gb531); have n3_ := K1 (mG : w.heap.size ≤ gb531); clear HB; have HB := n0_; have BK531 := n1_; have GW531 := n2_; have GE531 := n3_; clear n0_ n1_ n2_ n3_; clear hb hbox hg; obtain ⟨hcz74_0, hcz74_1, hcz74_2, hfz74_0, hfz74_1, hfz74_2⟩ := cf3 BK531) | ((with_reducible refine gate_callee (f := 25) rfl ?_); refine goesL_ (some 23) rfl rfl Try.func25 (by kernel_rfl) rfl #[.agg #[.slice A0_0 l0_0.length c0_0, .slice A0_1 l0_1.length c0_1, .slice A0_2 l0_2.length c0_2], .int .i64 a1] rfl mL ?_; (with_reducible refine (proper_Depth.calls k _ _ l0_0 _ _ l0_1 _ _ l0_2 a1 t532 t533 _ ?side1 ?side2 ?side3 ?side4 ?side5 ?side6 A4.out).mono ?_); (case side1 => exact mC); (case side2 => exact HC0_0.out); (case side3 => exact mC); (case side4 => exact HC0_1.out); (case side5 => exact mC); (case side6 => exact HC0_2.out); rintro e w75 ⟨rfl, hb⟩; refine ⟨_, rfl, ?_⟩; have n0_ := K1 (blk_below (mU BK531.out) hb); have n1_ := K1 (below_step mB hb); clear BK531; clear HB; have BK531 := n0_; have HB := n1_; clear n0_ n1_; (try clear hb)) | (go_at_call 14; (with_reducible refine (rotalaw08_awake.calls k  t534 _ A72.out).mono ?_); rintro e w76 ⟨rfl, hb⟩; have n0_ := K1 (blk_below (mU BK531.out) hb); have n1_ := K1 (below_step mB hb); clear BK531; clear HB; have BK531 := n0_; have HB := n1_; clear n0_ n1_; (try clear hb)))
   go_ret
   exact ⟨mE, mB⟩
  ·rw [if_neg c71] at H
   have c71b0 : (t532 == 0) = false := beq_eq_false_iff_ne.mpr c71
   have c71b1 : (t532 != 0) = true := bne_iff_ne.mpr c71
   obtain rfl := Option.some.inj H
   go_enter Try.func11, Try.ntmps11
   go_wp2_with (first | ((with_reducible refine gate_dst (N := 3) rfl ?_); refine box_event ?hg (N := 3) ?hd (cs := #[.slice A0_0 l0_0.length c0_0, .slice A0_1 l0_1.length c0_1, .slice A0_2 l0_2.length c0_2]) (t := 26) ?hr ?_; (case hd => rfl); (case hg => rfl); (case hr => first | (go_simp; done) | (go_simp; rfl)); intro gb531 hg w77 hbox hb; have n0_ := K1 (below_step mB hb); have n1_ := K1 (hbox); have n2_ := K1 (mG : w.heap.size ≤ gb531); have n3_ := K1 (mG : w.heap.size ≤ gb531); clear HB; have HB := n0_; have BK531 := n1_; have GW531 := n2_; have GE531 := n3_; clear n0_ n1_ n2_ n3_; clear hb hbox hg; obtain ⟨hcz78_0, hcz78_1, hcz78_2, hfz78_0, hfz78_1, hfz78_2⟩ := cf3 BK531) | ((with_reducible refine gate_callee (f := 25) rfl ?_); refine goesL_ (some 23) rfl rfl Try.func25 (by kernel_rfl) rfl #[.agg #[.slice A0_0 l0_0.length c0_0, .slice A0_1 l0_1.length c0_1, .slice A0_2 l0_2.length c0_2], .int .i64 a1] rfl mL ?_; (with_reducible refine (proper_Depth.calls k _ _ l0_0 _ _ l0_1 _ _ l0_2 a1 t532 t533 _ ?side1 ?side2 ?side3 ?side4 ?side5 ?side6 A4.out).mono ?_); (case side1 => exact mC); (case side2 => exact HC0_0.out); (case side3 => exact mC); (case side4 => exact HC0_1.out); (case side5 => exact mC); (case side6 => exact HC0_2.out); rintro e w79 ⟨rfl, hb⟩; refine ⟨_, rfl, ?_⟩; have n0_ := K1 (blk_below (mU BK531.out) hb); have n1_ := K1 (below_step mB hb); clear BK531; clear HB; have BK531 := n0_; have HB := n1_; clear n0_ n1_; (try clear hb)))
   go_ret
   exact ⟨mE, mB⟩

end Go.Proofs.Ytdlikjfffdpmiaa.QProper

/- Printed: a function's machine side. Conditions: none. -/
import Derived.Test.YtdlikjfffdpmiaaQProperx0
import Derived.Test.YtdlikjfffdpmiaaQProperx35
import Derived.Test.YtdlikjfffdpmiaaQProperx37
import Derived.Test.YtdlikjfffdpmiaaQProperx48
import Derived.Test.YtdlikjfffdpmiaaProperSo
namespace Go.Proofs.Ytdlikjfffdpmiaa.QProper
open Go.RowKit Go.Proofs.YtdlikjfffdpmiaaW.PrintWords Go.Proofs.YtdlikjfffdpmiaaW.PrintLast Go.Proofs.YtdlikjfffdpmiaaW.PrintMore
set_option linter.unusedVariables false
set_option linter.unusedSimpArgs false

/-! ### proper_Calls: function 23 -/
mutual
def proper_Calls.l0 : Nat → Bool → List Int → Int → List Int → List (S34) → List (S58) → Option (List Int × Int)
 | 0, _, _, _, _, _, _ => none
 | k + 1, x2, x9, x10, x401000, x401001, x401002 => if x10 < (x9.length : Int) then (if 0 ≤ x10 then ((proper_named.f k x401000 x401001 x401002 (rd x9 x10) x2).bind fun t407 => (proper_Calls.l1 k x2 x9 x10 t407 (t407.length : Int) 0 x401000 x401001 x401002)) else (none)) else ((slices_Sort_int.f x9).bind fun t405 => (some (t405, 0)))
def proper_Calls.l1 : Nat → Bool → List Int → Int → List Int → Int → Int → List Int → List (S34) → List (S58) → Option (List Int × Int)
 | 0, _, _, _, _, _, _, _, _, _ => none
 | k + 1, x2, x9, x10, x33, x34, x35, x401000, x401001, x401002 => if x35 < x34 then (if 0 ≤ x35 then (if x35 < (x33.length : Int) then ((slices_Contains_int_int.f k x9 (rd x33 x35)).bind fun t411 => (if t411 = true then (proper_Calls.l1 k x2 x9 x10 x33 x34 (wrap64 (x35 + 1)) x401000 x401001 x401002) else (if x9.length < 17592186044416 then (proper_Calls.l1 k x2 (x9 ++ [rd x33 x35]) x10 x33 x34 (wrap64 (x35 + 1)) x401000 x401001 x401002) else (none)))) else (none)) else (none)) else (proper_Calls.l0 k x2 x9 (wrap64 (x10 + 1)) x401000 x401001 x401002)
end
def proper_Calls.f (k : Nat) (l0_0 : List Int) (l0_1 : List (S34)) (l0_2 : List (S58)) (a1 : Int) (a2 : Bool) : Option (List Int × Int) := (proper_function.f k l0_0 l0_1 l0_2 a1).bind fun t401 => (if t401 = 0 then (proper_Calls.l0 k a2 (([a1] : List Int)) 0 l0_0 l0_1 l0_2) else (some (([] : List Int), t401)))
theorem proper_Calls.mono_l : ∀ k, (∀ y0 y1 y2 y3 y4 y5, LeO (proper_Calls.l0 k y0 y1 y2 y3 y4 y5) (proper_Calls.l0 (k + 1) y0 y1 y2 y3 y4 y5)) ∧ (∀ y0 y1 y2 y3 y4 y5 y6 y7 y8, LeO (proper_Calls.l1 k y0 y1 y2 y3 y4 y5 y6 y7 y8) (proper_Calls.l1 (k + 1) y0 y1 y2 y3 y4 y5 y6 y7 y8))
 | 0 => ⟨fun _ _ _ _ _ _ r h => by simp [proper_Calls.l0] at h, fun _ _ _ _ _ _ _ _ _ r h => by simp [proper_Calls.l1] at h⟩
 | k + 1 => by
  obtain ⟨ih0, ih1⟩ := proper_Calls.mono_l k
  refine ⟨?_, ?_⟩
  ·intro y0 y1 y2 y3 y4 y5
   unfold proper_Calls.l0
   repeat' first
   | (with_reducible exact ih0 _ _ _ _ _ _)
   | (with_reducible exact ih1 _ _ _ _ _ _ _ _ _)
   | (with_reducible exact proper_function.mono _ _ _ _ _)
   | (with_reducible exact proper_named.mono _ _ _ _ _ _)
   | (with_reducible exact slices_Contains_int_int.mono _ _ _)
   | (with_reducible exact LeO.refl _)
   | (with_reducible exact LeO.none _)
   | (with_reducible refine LeO.ite ?_ ?_)
   | (with_reducible refine LeO.bind ?_ (fun _ => ?_))
   | exact ih0 _ _ _ _ _ _
   | exact ih1 _ _ _ _ _ _ _ _ _
   | exact proper_function.mono _ _ _ _ _
   | exact proper_named.mono _ _ _ _ _ _
   | exact slices_Contains_int_int.mono _ _ _
   | exact LeO.none _
   | refine LeO.ite ?_ ?_
   | refine LeO.bind ?_ (fun _ => ?_)
  ·intro y0 y1 y2 y3 y4 y5 y6 y7 y8
   unfold proper_Calls.l1
   repeat' first
   | (with_reducible exact ih0 _ _ _ _ _ _)
   | (with_reducible exact ih1 _ _ _ _ _ _ _ _ _)
   | (with_reducible exact proper_function.mono _ _ _ _ _)
   | (with_reducible exact proper_named.mono _ _ _ _ _ _)
   | (with_reducible exact slices_Contains_int_int.mono _ _ _)
   | (with_reducible exact LeO.refl _)
   | (with_reducible exact LeO.none _)
   | (with_reducible refine LeO.ite ?_ ?_)
   | (with_reducible refine LeO.bind ?_ (fun _ => ?_))
   | exact ih0 _ _ _ _ _ _
   | exact ih1 _ _ _ _ _ _ _ _ _
   | exact proper_function.mono _ _ _ _ _
   | exact proper_named.mono _ _ _ _ _ _
   | exact slices_Contains_int_int.mono _ _ _
   | exact LeO.none _
   | refine LeO.ite ?_ ?_
   | refine LeO.bind ?_ (fun _ => ?_)
theorem proper_Calls.mono : ∀ a0 a1 a2 a3 a4 k, LeO (proper_Calls.f k a0 a1 a2 a3 a4) (proper_Calls.f (k + 1) a0 a1 a2 a3 a4) := by
 intro a0 a1 a2 a3 a4 k
 obtain ⟨ih0, ih1⟩ := proper_Calls.mono_l k
 unfold proper_Calls.f
 repeat' first
   | (with_reducible exact ih0 _ _ _ _ _ _)
   | (with_reducible exact ih1 _ _ _ _ _ _ _ _ _)
   | (with_reducible exact proper_function.mono _ _ _ _ _)
   | (with_reducible exact proper_named.mono _ _ _ _ _ _)
   | (with_reducible exact slices_Contains_int_int.mono _ _ _)
   | (with_reducible exact LeO.refl _)
   | (with_reducible exact LeO.none _)
   | (with_reducible refine LeO.ite ?_ ?_)
   | (with_reducible refine LeO.bind ?_ (fun _ => ?_))
   | exact ih0 _ _ _ _ _ _
   | exact ih1 _ _ _ _ _ _ _ _ _
   | exact proper_function.mono _ _ _ _ _
   | exact proper_named.mono _ _ _ _ _ _
   | exact slices_Contains_int_int.mono _ _ _
   | exact LeO.none _
   | refine LeO.ite ?_ ?_
   | refine LeO.bind ?_ (fun _ => ?_)
def proper_Calls.T8 : Bool × List (List Nat × List Nat) := (true, [([], []), ([], []), ([], []), ([1, 2], [1, 2]), ([3], [3]), ([], []), ([0, 4, 5], [0, 4, 5]), ([6], [6]), ([], [])])
def proper_Calls.B8 : List Nat := [0, 0, 0, 6, 14, 0, 63, 127, 0]
theorem proper_Calls.tab8 : rtab .any (opsOf Try.f23 8) = proper_Calls.T8 := by kernel_rfl
theorem proper_Calls.bits8 : waitsOk proper_Calls.T8.2 proper_Calls.B8 = true := by kernel_rfl
set_option maxHeartbeats 8000000 in
set_option maxRecDepth 100000 in
theorem proper_Calls.calls (k : Nat) (A0_0 : Option Addr) (c0_0 : Nat) (l0_0 : List Int) (A0_1 : Option Addr) (c0_1 : Nat) (l0_1 : List (S34)) (A0_2 : Option Addr) (c0_2 : Nat) (l0_2 : List (S58)) (a1 : Int) (a2 : Bool) (r1 : List Int) (r2 : Int) (w : World) (hr0_0 : Kd.C (Kd.int .u32) w A0_0 l0_0.length l0_0) (hc0_0 : l0_0.length ≤ c0_0) (hr0_1 : Kd.C k34 w A0_1 l0_1.length l0_1) (hc0_1 : l0_1.length ≤ c0_1) (hr0_2 : Kd.C k58 w A0_2 l0_2.length l0_2) (hc0_2 : l0_2.length ≤ c0_2) (h : proper_Calls.f k l0_0 l0_1 l0_2 a1 a2 = some (r1, r2)) :
  Calls Try.prog 23 #[.agg #[.slice A0_0 l0_0.length c0_0, .slice A0_1 l0_1.length c0_1, .slice A0_2 l0_2.length c0_2], .int .i64 a1, .bool a2] w fun e w' => ∃ v0_ : Value, e = .returned (.tuple #[v0_, .int .i64 r2]) ∧ Kd.R (Kd.int .i64) 3 w' w.heap.size (fun _ => True) v0_ r1 ∧ Below w.heap.size w w' := by
 have hu26 := Try.underlying26
 have HR0_0 := K1 hr0_0
 have HC0_0 := K1 hc0_0
 clear hr0_0 hc0_0
 have HR0_1 := K1 hr0_1
 have HC0_1 := K1 hc0_1
 clear hr0_1 hc0_1
 have HR0_2 := K1 hr0_2
 have HC0_2 := K1 hc0_2
 clear hr0_2 hc0_2
 have HB := K1 (Below.refl w.heap.size w)
 have H : ((proper_function.f k l0_0 l0_1 l0_2 a1).bind fun t401 => (if t401 = 0 then (proper_Calls.l0 k a2 (([a1] : List Int)) 0 l0_0 l0_1 l0_2) else (some (([] : List Int), t401)))) = some (r1, r2) := h
 clear h
 replace H := Option.bind_eq_some_iff.mp H
 obtain ⟨t401, A40, H⟩ := H
 replace H : (if t401 = 0 then (proper_Calls.l0 k a2 (([a1] : List Int)) 0 l0_0 l0_1 l0_2) else (some (([] : List Int), t401))) = some (r1, r2) := H
 have A4 := K1 A40
 clear A40
 by_cases c5 : t401 = 0
 ·rw [if_pos c5] at H
  have c5b0 : (t401 == 0) = true := beq_iff_eq.mpr c5
  have c5b1 : (t401 != 0) = false := bne_eq_false_iff_eq.mpr c5
  clear c5
  obtain ⟨y402, hy402⟩ : ∃ y_ : List Int, y_ = (([a1] : List Int)) := ⟨_, rfl⟩
  replace H : (proper_Calls.l0 k a2 y402 0 l0_0 l0_1 l0_2) = some (r1, r2) := by first | (rw [hy402]; with_reducible exact H) | (have H2_ := (Option.bind_some _ _).symm.trans H; rw [hy402]; with_reducible exact H2_) | (have H2_ := (Option.bind_some _ _).symm.trans H; with_reducible exact H2_) | with_reducible exact H | (rw [hy402]; exact H) | exact H
  have Ny402 := K1 hy402
  clear hy402
  have H' := K1 H
  clear H
  go_enter Try.func23, Try.ntmps23
  go_wp2_with (first | ((with_reducible refine gate_dst (N := 3) rfl ?_); refine bev (N := 3) (cs := #[.slice A0_0 l0_0.length c0_0, .slice A0_1 l0_1.length c0_1, .slice A0_2 l0_2.length c0_2]) (t := 26) (h := ?_); intro gb400 hg w6 hbox hb; have BK400 := K1 (hbox); have GW400 := K1 (mG : w.heap.size ≤ gb400); have GE400 := K1 (mG : w.heap.size ≤ gb400); replace HB := K1 (below_step mB hb); clear hb hbox hg; obtain ⟨hcz7_0, hcz7_1, hcz7_2, hfz7_0, hfz7_1, hfz7_2⟩ := cf3 BK400) | ((with_reducible refine gate_callee (f := 41) rfl ?_); refine goesL_ (some 15) rfl rfl Try.func41 (by kernel_rfl) rfl #[.agg #[.slice A0_0 l0_0.length c0_0, .slice A0_1 l0_1.length c0_1, .slice A0_2 l0_2.length c0_2], .int .i64 a1] rfl mL ?_; (with_reducible refine (proper_function.calls k _ _ l0_0 _ _ l0_1 _ _ l0_2 a1 t401 _ ?side1 ?side2 ?side3 ?side4 ?side5 ?side6 A4.out).mono ?_); (case side1 => exact mC); (case side2 => exact HC0_0.out); (case side3 => exact mC); (case side4 => exact HC0_1.out); (case side5 => exact mC); (case side6 => exact HC0_2.out); rintro e w8 ⟨rfl, hb⟩; refine ⟨_, rfl, ?_⟩; replace BK400 := K1 (blk_below (mU BK400.out) hb); replace HB := K1 (below_step mB hb); (try clear hb)) | ((with_reducible refine gate_dst (N := 20) rfl ?_); refine Kd.R_lit (Kd.int .i64) _ 3 ?hg (N := 20) ?hd (xs := ([a1] : List Int)) (inner := [.int .i64 a1]) (ok := fun _ => True) (okp := fun _ => True) ?hr ?hp (fun _ hk => hk) trivial (Below.refl _ _) (Nat.le_refl _) (by simp) ?_; (case hd => rfl); (case hg => rfl); (case hr => first | (go_simp; done) | (go_simp; rfl)); (case hp => exact (Reps.one (show Kd.M (Kd.int .i64) _ _ _ a1 [.int .i64 a1] from rfl) (Reps.none _ _))); intro v403 w9 ho10 hb hg_ hnew_; clear hg_ hnew_; (first | rw [← Ny402.out] at ho10 | (simp only [Int.reduceToNat] at ho10; rw [← Ny402.out] at ho10)); have HO404 := K1 (Kd.R_lower ho10 (below_size mB)); replace BK400 := K1 (blk_below (mU BK400.out) hb); replace HB := K1 (below_step mB hb); clear hb ho10))
  go_loopg [9, 10] k (fun kq v9 v10 w' => ∃ (x9_1 : List Int) (x10_1 : Int), v10 = .int .i64 x10_1 ∧ Aside0 (proper_Calls.l0 kq a2 x9_1 x10_1 l0_0 l0_1 l0_2 = some (r1, r2)) ∧ Aside0 (kq ≤ k) ∧ Aside0 (Kd.R (Kd.int .i64) 3 w' w.heap.size (fun _ => True) v9 x9_1) ∧ Aside0 (w'.heap[gb400]? = some (.cells #[(.slice A0_0 l0_0.length c0_0), (.slice A0_1 l0_1.length c0_1), (.slice A0_2 l0_2.length c0_2)] 26 (0, 0))) ∧ Aside0 (Below w.heap.size w w'))
  case atStart => exact ⟨(y402), (0), (mF), H', ⟨Nat.le_refl _⟩, ⟨mV HO404.out⟩, ⟨mU BK400.out⟩, ⟨mB⟩⟩
  case round =>
   clear H' c5b0 c5b1 hcz7_0 hcz7_1 hcz7_2 hfz7_0 hfz7_1 hfz7_2
   obtain ⟨x9_1, x10_1, rfl, HA, HK1, HO_9, BK400, HB⟩ := hrel
   cases gk with
   | zero => exact absurd HA.out (by simp [proper_Calls.l0])
   | succ k1 =>
    have H := HA.out
    clear HA
    simp only [proper_Calls.l0] at H
    by_cases c11 : x10_1 < (x9_1.length : Int)
    ·rw [if_pos c11] at H
     have c11b0 : decide (x10_1 < (x9_1.length : Int)) = true := decide_eq_true c11
     clear c11
     by_cases c12 : 0 ≤ x10_1
     ·rw [if_pos c12] at H
      have c12b0 : decide (0 ≤ x10_1) = true := decide_eq_true c12
      clear c12
      replace H := Option.bind_eq_some_iff.mp H
      obtain ⟨t407, A130, H⟩ := H
      replace H : (proper_Calls.l1 k1 a2 x9_1 x10_1 t407 (t407.length : Int) 0 l0_0 l0_1 l0_2) = some (r1, r2) := H
      have A13 := K1 A130
      clear A130
      have H' := K1 H
      clear H
      obtain ⟨Ao14, co14, eo14⟩ := Kd.R_slice HO_9.out
      subst eo14
      try go_wp2
      replace HO_9 := K1 (Kd.R_drew HO_9.out)
      replace BK400 := K1 (bD BK400.out)
      replace HB := K1 (below_drew1 HB.out)
      have p406 : 0 ≤ (x10_1 : Int) := of_decide_eq_true (mA)
      have q406 : x10_1 < (x9_1.length : Int) := of_decide_eq_true (mA)
      obtain ⟨ad406, e406, hx406_0⟩ := Kd.at_int (Kd.R_reads' HO_9.out).2.2 x10_1 p406 q406
      cases e406
      replace p406 := eq_true p406
      replace q406 := eq_true q406
      refine start_ (n := 9) (S := fun w' => w'.cell? ⟨gb400, 0, none⟩ = some (.slice A0_0 l0_0.length c0_0) ∧ w'.cell? ⟨gb400, 1, none⟩ = some (.slice A0_1 l0_1.length c0_1) ∧ w'.cell? ⟨gb400, 2, none⟩ = some (.slice A0_2 l0_2.length c0_2) ∧ w'.cell? (ad406.add (x10_1).toNat) = some (.int .i64 (rd x9_1 x10_1))) (ds := []) #[false, false, false, false, false, false, false, false, false] (by kernel_rfl) rfl rfl ⟨(blk_cell BK400.out 0).trans rfl, (blk_cell BK400.out 1).trans rfl, (blk_cell BK400.out 2).trans rfl, hx406_0⟩ (fun hHeld => ?_); refine with_tabW proper_Calls.tab8 proper_Calls.bits8 (fun HT_ HW_ => ?_)
      generalize wr.drew = w15 at HO_9 BK400 HB hx406_0 hHeld ⊢
      refine pure_ (i := 1) (N := some 28) (v := ?_) (a' := ?_) #[false, true, false, false, false, false, false, false, false] rfl rfl (any_of HT_.out (by kernel_rfl)) (fun _ _ _ h => h) (Or.inl ⟨by rfl, ?_⟩) ?_ ?_
      rotate_left
      ·intro w'
       go_simp
       with_reducible rfl
      rotate_left
      ·simp only [Act.put, List.setIfInBounds_toArray, List.set_cons_zero, List.set_cons_succ, i64_w, i32_w]
       rfl
      refine pure_ (i := 2) (N := some 29) (v := ?_) (a' := ?_) #[false, true, true, false, false, false, false, false, false] rfl rfl (any_of HT_.out (by kernel_rfl)) (fun _ _ _ h => h) (Or.inl ⟨by rfl, ?_⟩) ?_ ?_
      rotate_left
      ·intro w'
       go_simp
       with_reducible rfl
      rotate_left
      ·simp only [Act.put, List.setIfInBounds_toArray, List.set_cons_zero, List.set_cons_succ, i64_w, i32_w]
       rfl
      refine pure_ (i := 3) (N := some 30) (v := ?_) (a' := ?_) #[false, true, true, true, false, false, false, false, false] rfl rfl (any_of HT_.out (by kernel_rfl)) (fun _ _ _ h => h) (Or.inl ⟨by rfl, ?_⟩) ?_ ?_
      rotate_left
      ·intro w'
       go_simp
       with_reducible rfl
      rotate_left
      ·simp only [Act.put, List.setIfInBounds_toArray, List.set_cons_zero, List.set_cons_succ, i64_w, i32_w]
       rfl
      refine pure_ (i := 5) (N := some 32) (v := ?_) (a' := ?_) #[false, true, true, true, false, true, false, false, false] rfl rfl (any_of HT_.out (by kernel_rfl)) (fun _ _ _ h => h) (Or.inl ⟨by rfl, ?_⟩) ?_ ?_
      rotate_left
      ·intro w'
       go_simp
       with_reducible rfl
      rotate_left
      ·simp only [Act.put, List.setIfInBounds_toArray, List.set_cons_zero, List.set_cons_succ, i64_w, i32_w]
       rfl
      refine pure_ (i := 8) (N := some 35) (v := ?_) (a' := ?_) #[false, true, true, true, false, true, false, false, true] rfl rfl (any_of HT_.out (by kernel_rfl)) (fun _ _ _ h => h) (Or.inl ⟨by rfl, ?_⟩) ?_ ?_
      rotate_left
      ·intro w'
       go_simp
       with_reducible rfl
      rotate_left
      ·simp only [Act.put, List.setIfInBounds_toArray, List.set_cons_zero, List.set_cons_succ, i64_w, i32_w]
       rfl
      refine take_ (i := 0) (N := some 27) (v := ?_) (a' := ?_) #[true, true, true, true, false, true, false, false, true] rfl rfl (take_ofW HT_.out HW_.out (by kernel_rfl)) (fun _ _ _ h => h) (Or.inl ⟨by rfl, ?_⟩) hHeld ?_ ?_
      rotate_left
      ·rintro w' ⟨s0, s1, s2, s3⟩
       go_simp
       with_reducible rfl
      rotate_left
      ·simp only [Act.put, List.setIfInBounds_toArray, List.set_cons_zero, List.set_cons_succ, i64_w, i32_w]
       rfl
      refine take_ (i := 4) (N := some 31) (v := ?_) (a' := ?_) #[true, true, true, true, true, true, false, false, true] rfl rfl (take_ofW HT_.out HW_.out (by kernel_rfl)) (fun _ _ _ h => h) (Or.inl ⟨by rfl, ?_⟩) hHeld ?_ ?_
      rotate_left
      ·rintro w' ⟨s0, s1, s2, s3⟩
       go_simp
       with_reducible rfl
      rotate_left
      ·simp only [Act.put, List.setIfInBounds_toArray, List.set_cons_zero, List.set_cons_succ, i64_w, i32_w]
       rfl
      refine one_ (i := 6) (N := some 33) #[true, true, true, true, true, true, true, false, true] rfl rfl (one_of HT_.out (by kernel_rfl)) (by decide) (fun K hK => ?_)
      refine goes_ Try.func45 (by kernel_rfl) rfl #[.agg #[.slice A0_0 l0_0.length c0_0, .slice A0_1 l0_1.length c0_1, .slice A0_2 l0_2.length c0_2], .int .i64 (rd x9_1 x10_1), .bool a2] (by rfl) rfl rfl mL ?_
      with_reducible refine (proper_named.calls k1 _ _ l0_0 _ _ l0_1 _ _ l0_2 (rd x9_1 x10_1) a2 t407 _ ?side1 ?side2 ?side3 ?side4 ?side5 ?side6 A13.out).mono ?_
      (case side1 => exact mC)
      (case side2 => exact HC0_0.out)
      (case side3 => exact mC)
      (case side4 => exact HC0_1.out)
      (case side5 => exact mC)
      (case side6 => exact HC0_2.out)
      rintro e w16 ⟨v408, rfl, ho0, hb⟩
      have HS3_ := (hb.cell (World.block_lt_of_cell? _ _ (hHeld.2.2.2))).trans (hHeld.2.2.2)
      refine ⟨_, rfl, ?_⟩
      have HO409 := K1 (Kd.R_lower (Kd.R_new' ho0 (Kd.R_lt (mV HO_9.out))) (below_size mB))
      replace HO_9 := K1 (Kd.R_elder' (mV HO_9.out) (Kd.R_base ho0) hb)
      replace BK400 := K1 (blk_below (mU BK400.out) hb)
      replace HB := K1 (below_step mB hb)
      (try clear hb)
      (try clear ho0)
      obtain ⟨Ao17, co17, eo17⟩ := Kd.R_slice HO409.out
      (first | subst eo17 | (injection eo17 with f1_ f2_ f3_; have f4_ := f1_.symm; have f5_ := f3_.symm; clear f1_ f2_ f3_; subst f4_; subst f5_))
      refine hK.out _ _ ⟨(blk_cell BK400.out 0).trans rfl, (blk_cell BK400.out 1).trans rfl, (blk_cell BK400.out 2).trans rfl, HS3_⟩ (fun hHeld => ?_)
      clear hK K
      refine norm_ (a' := ?_) ?_ ?_
      rotate_left
      ·show Act.put _ (some 33) _ = _
       simp only [Act.put, List.setIfInBounds_toArray, List.set_cons_zero, List.set_cons_succ, i64_w, i32_w]
       rfl
      refine pure_ (i := 7) (N := some 34) (v := ?_) (a' := ?_) #[true, true, true, true, true, true, true, true, true] rfl rfl (any_of HT_.out (by kernel_rfl)) (fun _ _ _ h => h) (Or.inl ⟨by rfl, ?_⟩) ?_ ?_
      rotate_left
      ·intro w'
       go_simp
       with_reducible rfl
      rotate_left
      ·simp only [Act.put, List.setIfInBounds_toArray, List.set_cons_zero, List.set_cons_succ, i64_w, i32_w]
       rfl
      refine done_ (done_of HT_.out (by kernel_rfl)) ?_
      try go_wp2
      go_loopg [9, 35] k1 (fun kq v9 v35 w' => ∃ (x9_2 : List Int) (x35_2 : Int), v35 = .int .i64 x35_2 ∧ Aside0 (proper_Calls.l1 kq a2 x9_2 x10_1 t407 (t407.length : Int) x35_2 l0_0 l0_1 l0_2 = some (r1, r2)) ∧ Aside0 (kq ≤ k1) ∧ Aside0 (Kd.R (Kd.int .i64) 3 w' w.heap.size (fun k_ => some k_ ≠ ((.slice Ao17 t407.length co17) : Value).ownBlock) v9 x9_2) ∧ Aside0 (Kd.R (Kd.int .i64) 3 w' w.heap.size (fun k_ => some k_ ≠ (v9 : Value).ownBlock) (.slice Ao17 t407.length co17) t407) ∧ Aside0 (w'.heap[gb400]? = some (.cells #[(.slice A0_0 l0_0.length c0_0), (.slice A0_1 l0_1.length c0_1), (.slice A0_2 l0_2.length c0_2)] 26 (0, 0))) ∧ Aside0 (Below w.heap.size w w'))
      case atStart => exact ⟨(x9_1), (0), (mF), H', ⟨Nat.le_refl _⟩, ⟨by (with_reducible repeat (first | apply Kd.R_alloc | apply Kd.R_drewN | apply Kd.R_drew)); exact Kd.R_mono HO_9.out (fun _ hk => hk.2)⟩, ⟨by (with_reducible repeat (first | apply Kd.R_alloc | apply Kd.R_drewN | apply Kd.R_drew)); exact Kd.R_mono HO409.out (fun _ hk => hk.2)⟩, ⟨mU BK400.out⟩, ⟨mB⟩⟩
      case round =>
       clear H' c11b0 c12b0 hx406_0 p406 q406
       obtain ⟨x9_2, x35_2, rfl, HA, HK2, HO_9, HO_33, BK400, HB⟩ := hrel
       cases gk with
       | zero => exact absurd HA.out (by simp [proper_Calls.l1])
       | succ k2 =>
        have H := HA.out
        clear HA
        simp only [proper_Calls.l1] at H
        by_cases c18 : x35_2 < (t407.length : Int)
        ·rw [if_pos c18] at H
         have c18b0 : decide (x35_2 < (t407.length : Int)) = true := decide_eq_true c18
         clear c18
         by_cases c19 : 0 ≤ x35_2
         ·rw [if_pos c19] at H
          have c19b0 : decide (0 ≤ x35_2) = true := decide_eq_true c19
          clear c19
          by_cases c20 : x35_2 < (t407.length : Int)
          ·rw [if_pos c20] at H
           have c20b0 : decide (x35_2 < (t407.length : Int)) = true := decide_eq_true c20
           clear c20
           replace H := Option.bind_eq_some_iff.mp H
           obtain ⟨t411, A210, H⟩ := H
           replace H : (if t411 = true then (proper_Calls.l1 k2 a2 x9_2 x10_1 t407 (t407.length : Int) (wrap64 (x35_2 + 1)) l0_0 l0_1 l0_2) else (if x9_2.length < 17592186044416 then (proper_Calls.l1 k2 a2 (x9_2 ++ [rd t407 x35_2]) x10_1 t407 (t407.length : Int) (wrap64 (x35_2 + 1)) l0_0 l0_1 l0_2) else (none))) = some (r1, r2) := H
           have A21 := K1 A210
           clear A210
           by_cases c22 : t411 = true
           ·subst c22
            have H1 : (proper_Calls.l1 k2 a2 x9_2 x10_1 t407 (t407.length : Int) (wrap64 (x35_2 + 1)) l0_0 l0_1 l0_2) = some (r1, r2) := by rw [if_pos rfl] at H; exact H
            clear H
            have H := H1
            clear H1
            have H' := K1 H
            clear H
            have p410 : 0 ≤ (x35_2 : Int) := of_decide_eq_true (mA)
            have q410 : x35_2 < (t407.length : Int) := of_decide_eq_true (mA)
            obtain ⟨ad410, e410, hx410_0⟩ := Kd.at_int (Kd.R_reads' HO_33.out).2.2 x35_2 p410 q410
            cases e410
            replace p410 := eq_true p410
            replace q410 := eq_true q410
            obtain ⟨Ao23, co23, eo23⟩ := Kd.R_slice HO_9.out
            subst eo23
            go_wp2_with (first | ((with_reducible refine gate_callee (f := 46) rfl ?_); refine goesL_ (some 41) rfl rfl Try.func46 (by kernel_rfl) rfl #[.slice Ao23 x9_2.length co23, .int .i64 (rd t407 x35_2)] rfl mL ?_; (with_reducible refine (slices_Contains_int_int.calls k2 _ _ x9_2 (rd t407 x35_2) true _ ?side1 ?side2 A21.out).mono ?_); (case side1 => exact mW (Kd.R_reads' HO_9.out).2.2); (case side2 => exact (Kd.R_reads' HO_9.out).2.1); rintro e w' ⟨rfl, ⟨nd, rfl⟩⟩; refine ⟨_, rfl, ?_⟩))
            go_roundg k2
            case measure => have := HK1.out; have := HK2.out; omega
            case rel => exact ⟨(x9_2), (wrap64 (x35_2 + 1)), (mF), H', ⟨by have := HK1.out; have := HK2.out; omega⟩, ⟨mV HO_9.out⟩, ⟨mV HO_33.out⟩, ⟨mU BK400.out⟩, ⟨mB⟩⟩
           ·replace c22 := Bool.eq_false_iff.mpr c22
            subst c22
            have H1 : (if x9_2.length < 17592186044416 then (proper_Calls.l1 k2 a2 (x9_2 ++ [rd t407 x35_2]) x10_1 t407 (t407.length : Int) (wrap64 (x35_2 + 1)) l0_0 l0_1 l0_2) else (none)) = some (r1, r2) := by rw [if_neg (show ¬ (false = true) by decide)] at H; exact H
            clear H
            have H := H1
            clear H1
            by_cases c24 : x9_2.length < 17592186044416
            ·rw [if_pos c24] at H
             have LMc24 := K1 c24
             clear c24
             obtain ⟨y412, hy412⟩ : ∃ y_ : List Int, y_ = (x9_2 ++ [rd t407 x35_2]) := ⟨_, rfl⟩
             replace H : (proper_Calls.l1 k2 a2 y412 x10_1 t407 (t407.length : Int) (wrap64 (x35_2 + 1)) l0_0 l0_1 l0_2) = some (r1, r2) := by first | (rw [hy412]; with_reducible exact H) | (have H2_ := (Option.bind_some _ _).symm.trans H; rw [hy412]; with_reducible exact H2_) | (have H2_ := (Option.bind_some _ _).symm.trans H; with_reducible exact H2_) | with_reducible exact H | (rw [hy412]; exact H) | exact H
             have Ny412 := K1 hy412
             clear hy412
             have H' := K1 H
             clear H
             have p410 : 0 ≤ (x35_2 : Int) := of_decide_eq_true (mA)
             have q410 : x35_2 < (t407.length : Int) := of_decide_eq_true (mA)
             obtain ⟨ad410, e410, hx410_0⟩ := Kd.at_int (Kd.R_reads' HO_33.out).2.2 x35_2 p410 q410
             cases e410
             replace p410 := eq_true p410
             replace q410 := eq_true q410
             obtain ⟨Ao25, co25, eo25⟩ := Kd.R_slice HO_9.out
             subst eo25
             go_wp2_with (first | ((with_reducible refine gate_callee (f := 46) rfl ?_); refine goesL_ (some 41) rfl rfl Try.func46 (by kernel_rfl) rfl #[.slice Ao25 x9_2.length co25, .int .i64 (rd t407 x35_2)] rfl mL ?_; (with_reducible refine (slices_Contains_int_int.calls k2 _ _ x9_2 (rd t407 x35_2) false _ ?side1 ?side2 A21.out).mono ?_); (case side1 => exact mW (Kd.R_reads' HO_9.out).2.2); (case side2 => exact (Kd.R_reads' HO_9.out).2.1); rintro e w' ⟨rfl, ⟨nd, rfl⟩⟩; refine ⟨_, rfl, ?_⟩) | ((with_reducible refine gate_builtin (b := .append) (xs := #[.tmp 43, .tmp 45]) rfl ?_); at_builtin; refine Kd.R_append (Kd.int .i64) (w0 := w) w.heap.size rfl (.tmp 43) (.tmp 45) 37 3 (.int .i64 0) 8 rfl Try.underlying37 info3 rfl (by decide) (by omega) (.slice Ao25 x9_2.length co25) x9_2 (rd t407 x35_2) [.int .i64 (rd t407 x35_2)] (fun k_ => some k_ ≠ (.slice (some ad410) t407.length co17 : Value).ownBlock) (fun _ => False) rfl rfl ?aP (fun _ hk => hk.elim) ?aF ?aO ?aB ?aS ?aL ?_; (case aP => exact rfl); (case aB => exact mB); (case aF => exact (fun k_ hk => Kd.fresh' (Kd.R_lt (mV HO_33.out)) k_ hk)); (case aO => exact (mV HO_9.out)); (case aS => exact (below_size mB)); (case aL => have := LMc24.out; omega); intro v413 w26 ho hb hg hat; rw [← Ny412.out] at ho; have HO414 := K1 (ho); replace HO_33 := K1 (Kd.R_after (ok := (fun _ => True)) (by (with_reducible repeat (first | apply Kd.R_alloc | apply Kd.R_drewN | apply Kd.R_drew)); exact Kd.R_mono HO_33.out (fun _ hk => ⟨trivial, hk⟩)) hg hat); replace BK400 := K1 (blk_grown (mU BK400.out) hg (Kd.R_ne HO_9.out BK400.out (by decide))); replace HB := K1 (hb); clear HO_9; clear ho hb hg hat))
             go_roundg k2
             case measure => have := HK1.out; have := HK2.out; omega
             case rel => exact ⟨(y412), (wrap64 (x35_2 + 1)), (mF), H', ⟨by have := HK1.out; have := HK2.out; omega⟩, ⟨mV HO414.out⟩, ⟨by (with_reducible repeat (first | apply Kd.R_alloc | apply Kd.R_drewN | apply Kd.R_drew)); exact Kd.R_mono HO_33.out (fun _ hk => hk.2)⟩, ⟨mU BK400.out⟩, ⟨mB⟩⟩
            ·rw [if_neg c24] at H
             exact absurd H (by simp)
          ·rw [if_neg c20] at H
           exact absurd H (by simp)
         ·rw [if_neg c19] at H
          exact absurd H (by simp)
        ·rw [if_neg c18] at H
         have c18b0 : decide (x35_2 < (t407.length : Int)) = false := decide_eq_false c18
         clear c18
         have H' := K1 H
         clear H
         go_wp2
         go_roundg k2
         case measure => have := HK1.out; have := HK2.out; omega
         case rel => exact ⟨(x9_2), (wrap64 (x10_1 + 1)), (mF), H', ⟨by have := HK1.out; have := HK2.out; omega⟩, ⟨by (with_reducible repeat (first | apply Kd.R_alloc | apply Kd.R_drewN | apply Kd.R_drew)); exact Kd.R_mono HO_9.out (fun _ hk => trivial)⟩, ⟨mU BK400.out⟩, ⟨mB⟩⟩
     ·rw [if_neg c12] at H
      exact absurd H (by simp)
    ·rw [if_neg c11] at H
     have c11b0 : decide (x10_1 < (x9_1.length : Int)) = false := decide_eq_false c11
     clear c11
     replace H := Option.bind_eq_some_iff.mp H
     obtain ⟨t405, A270, H⟩ := H
     replace H : (some (t405, 0)) = some (r1, r2) := H
     have A27 := K1 A270
     clear A270
     simp only [Option.some.injEq, Prod.mk.injEq] at H
     obtain ⟨rfl, rfl⟩ := H
     obtain ⟨Ao28, co28, eo28⟩ := Kd.R_slice HO_9.out
     subst eo28
     go_wp2_with (first | ((with_reducible refine gate_callee (f := 47) rfl ?_); refine goesL_ (some 49) rfl rfl Try.func47 (by kernel_rfl) rfl #[.slice Ao28 x9_1.length co28] rfl mL ?_; (with_reducible refine (slices_Sort_int.calls (fun k_ => some k_ = (.slice Ao28 x9_1.length co28 : Value).ownBlock) (.slice Ao28 x9_1.length co28) x9_1 t405 w _ ?side1 ?side2 A27.out).mono ?_); (case side1 => exact mB); (case side2 => exact Kd.R_tight rfl HO_9.out); rintro e w29 ⟨rfl, hy0, hb, hkp⟩; refine ⟨_, rfl, ?_⟩; have n0_ := K1 (Kd.R_reok rfl hy0 (fun k_ e_ => HO_9.out.1 k_ e_)); have n1_ := K1 (blk_kept (by (with_reducible repeat (first | refine bN ?_ _ | refine bD ?_ | refine bA ?_ _)); exact BK400.out) hkp (fun hs_ => (fun e_ => (Kd.R_ne HO_9.out BK400.out (by decide)) e_) hs_)); have n2_ := K1 (hb); clear HO_9; clear BK400; clear HB; have HO_9 := n0_; have BK400 := n1_; have HB := n2_; clear n0_ n1_ n2_; (try clear hb); (try clear hkp); (try clear hy0)))
     go_ret2
     exact ⟨_, mE, by (with_reducible repeat (first | apply Kd.R_alloc | apply Kd.R_drewN | apply Kd.R_drew)); exact HO_9.out, mB⟩
 ·rw [if_neg c5] at H
  have c5b0 : (t401 == 0) = false := beq_eq_false_iff_ne.mpr c5
  have c5b1 : (t401 != 0) = true := bne_iff_ne.mpr c5
  simp only [Option.some.injEq, Prod.mk.injEq] at H
  obtain ⟨rfl, rfl⟩ := H
  go_enter Try.func23, Try.ntmps23
  go_wp2_with (first | ((with_reducible refine gate_dst (N := 3) rfl ?_); refine bev (N := 3) (cs := #[.slice A0_0 l0_0.length c0_0, .slice A0_1 l0_1.length c0_1, .slice A0_2 l0_2.length c0_2]) (t := 26) (h := ?_); intro gb400 hg w30 hbox hb; have BK400 := K1 (hbox); have GW400 := K1 (mG : w.heap.size ≤ gb400); have GE400 := K1 (mG : w.heap.size ≤ gb400); replace HB := K1 (below_step mB hb); clear hb hbox hg; obtain ⟨hcz31_0, hcz31_1, hcz31_2, hfz31_0, hfz31_1, hfz31_2⟩ := cf3 BK400) | ((with_reducible refine gate_callee (f := 41) rfl ?_); refine goesL_ (some 15) rfl rfl Try.func41 (by kernel_rfl) rfl #[.agg #[.slice A0_0 l0_0.length c0_0, .slice A0_1 l0_1.length c0_1, .slice A0_2 l0_2.length c0_2], .int .i64 a1] rfl mL ?_; (with_reducible refine (proper_function.calls k _ _ l0_0 _ _ l0_1 _ _ l0_2 a1 t401 _ ?side1 ?side2 ?side3 ?side4 ?side5 ?side6 A4.out).mono ?_); (case side1 => exact mC); (case side2 => exact HC0_0.out); (case side3 => exact mC); (case side4 => exact HC0_1.out); (case side5 => exact mC); (case side6 => exact HC0_2.out); rintro e w32 ⟨rfl, hb⟩; refine ⟨_, rfl, ?_⟩; replace BK400 := K1 (blk_below (mU BK400.out) hb); replace HB := K1 (below_step mB hb); (try clear hb)))
  go_ret2
  exact ⟨_, mE, by first | exact Kd.R_nil _ _ _ _ _ | exact Kd.N_nil _ _ _ _ _ | exact Kd.V_nil _ _ _ _ _ | exact Kd.Q_nil _ _ _ _ _ | exact Kd.S_nil _ _ _ _ _, mB⟩

end Go.Proofs.Ytdlikjfffdpmiaa.QProper

/- Printed: a function's machine side. Conditions: none. -/
import Derived.Test.YtdlikjfffdpmiaaQProperx0
import Derived.Test.YtdlikjfffdpmiaaQProperx37
import Derived.Test.YtdlikjfffdpmiaaProperNx
import Derived.Test.YtdlikjfffdpmiaaProperSo
namespace Go.Proofs.Ytdlikjfffdpmiaa.QProper
open Go.RowKit Go.Proofs.YtdlikjfffdpmiaaW.PrintWords Go.Proofs.YtdlikjfffdpmiaaW.PrintLast Go.Proofs.YtdlikjfffdpmiaaW.PrintMore
set_option linter.unusedVariables false
set_option linter.unusedSimpArgs false

/-! ### proper_reach: function 42 -/
mutual
def proper_reach.l0 : Nat → List Int → Int → List Int → List (S34) → List (S58) → Option (List Int)
 | 0, _, _, _, _, _ => none
 | k + 1, x5, x6, x282000, x282001, x282002 => if x6 < (x5.length : Int) then (if 0 ≤ x6 then ((proper_next.f k x282000 x282001 x282002 (rd x5 x6)).bind fun t288 => (proper_reach.l1 k x5 x6 t288 (t288.length : Int) 0 x282000 x282001 x282002)) else (none)) else ((slices_Sort_int.f x5).bind fun t286 => (some t286))
def proper_reach.l1 : Nat → List Int → Int → List Int → Int → Int → List Int → List (S34) → List (S58) → Option (List Int)
 | 0, _, _, _, _, _, _, _, _ => none
 | k + 1, x5, x6, x27, x28, x29, x282000, x282001, x282002 => if x29 < x28 then (if 0 ≤ x29 then (if x29 < (x27.length : Int) then ((slices_Contains_int_int.f k x5 (rd x27 x29)).bind fun t292 => (if t292 = true then (proper_reach.l1 k x5 x6 x27 x28 (wrap64 (x29 + 1)) x282000 x282001 x282002) else (if x5.length < 17592186044416 then (proper_reach.l1 k (x5 ++ [rd x27 x29]) x6 x27 x28 (wrap64 (x29 + 1)) x282000 x282001 x282002) else (none)))) else (none)) else (none)) else (proper_reach.l0 k x5 (wrap64 (x6 + 1)) x282000 x282001 x282002)
end
def proper_reach.f (k : Nat) (l0_0 : List Int) (l0_1 : List (S34)) (l0_2 : List (S58)) (a1 : Int) : Option (List Int) := if 0 ≤ a1 then (if a1 < (l0_1.length : Int) then (proper_reach.l0 k (([(rd_T34 l0_1 a1).f0] : List Int)) 0 l0_0 l0_1 l0_2) else (none)) else (none)
theorem proper_reach.mono_l : ∀ k, (∀ y0 y1 y2 y3 y4, LeO (proper_reach.l0 k y0 y1 y2 y3 y4) (proper_reach.l0 (k + 1) y0 y1 y2 y3 y4)) ∧ (∀ y0 y1 y2 y3 y4 y5 y6 y7, LeO (proper_reach.l1 k y0 y1 y2 y3 y4 y5 y6 y7) (proper_reach.l1 (k + 1) y0 y1 y2 y3 y4 y5 y6 y7))
 | 0 => ⟨fun _ _ _ _ _ r h => by simp [proper_reach.l0] at h, fun _ _ _ _ _ _ _ _ r h => by simp [proper_reach.l1] at h⟩
 | k + 1 => by
  obtain ⟨ih0, ih1⟩ := proper_reach.mono_l k
  refine ⟨?_, ?_⟩
  ·intro y0 y1 y2 y3 y4
   unfold proper_reach.l0
   repeat' first
   | (with_reducible exact ih0 _ _ _ _ _)
   | (with_reducible exact ih1 _ _ _ _ _ _ _ _)
   | (with_reducible exact proper_next.mono _ _ _ _ _)
   | (with_reducible exact slices_Contains_int_int.mono _ _ _)
   | (with_reducible exact LeO.refl _)
   | (with_reducible exact LeO.none _)
   | (with_reducible refine LeO.ite ?_ ?_)
   | (with_reducible refine LeO.bind ?_ (fun _ => ?_))
   | exact ih0 _ _ _ _ _
   | exact ih1 _ _ _ _ _ _ _ _
   | exact proper_next.mono _ _ _ _ _
   | exact slices_Contains_int_int.mono _ _ _
   | exact LeO.none _
   | refine LeO.ite ?_ ?_
   | refine LeO.bind ?_ (fun _ => ?_)
  ·intro y0 y1 y2 y3 y4 y5 y6 y7
   unfold proper_reach.l1
   repeat' first
   | (with_reducible exact ih0 _ _ _ _ _)
   | (with_reducible exact ih1 _ _ _ _ _ _ _ _)
   | (with_reducible exact proper_next.mono _ _ _ _ _)
   | (with_reducible exact slices_Contains_int_int.mono _ _ _)
   | (with_reducible exact LeO.refl _)
   | (with_reducible exact LeO.none _)
   | (with_reducible refine LeO.ite ?_ ?_)
   | (with_reducible refine LeO.bind ?_ (fun _ => ?_))
   | exact ih0 _ _ _ _ _
   | exact ih1 _ _ _ _ _ _ _ _
   | exact proper_next.mono _ _ _ _ _
   | exact slices_Contains_int_int.mono _ _ _
   | exact LeO.none _
   | refine LeO.ite ?_ ?_
   | refine LeO.bind ?_ (fun _ => ?_)
theorem proper_reach.mono : ∀ a0 a1 a2 a3 k, LeO (proper_reach.f k a0 a1 a2 a3) (proper_reach.f (k + 1) a0 a1 a2 a3) := by
 intro a0 a1 a2 a3 k
 obtain ⟨ih0, ih1⟩ := proper_reach.mono_l k
 unfold proper_reach.f
 repeat' first
   | (with_reducible exact ih0 _ _ _ _ _)
   | (with_reducible exact ih1 _ _ _ _ _ _ _ _)
   | (with_reducible exact proper_next.mono _ _ _ _ _)
   | (with_reducible exact slices_Contains_int_int.mono _ _ _)
   | (with_reducible exact LeO.refl _)
   | (with_reducible exact LeO.none _)
   | (with_reducible refine LeO.ite ?_ ?_)
   | (with_reducible refine LeO.bind ?_ (fun _ => ?_))
   | exact ih0 _ _ _ _ _
   | exact ih1 _ _ _ _ _ _ _ _
   | exact proper_next.mono _ _ _ _ _
   | exact slices_Contains_int_int.mono _ _ _
   | exact LeO.none _
   | refine LeO.ite ?_ ?_
   | refine LeO.bind ?_ (fun _ => ?_)
def proper_reach.T5 : Bool × List (List Nat × List Nat) := (true, [([], []), ([], []), ([], []), ([1, 2], [1, 2]), ([3], [3]), ([0, 4], [0, 4]), ([5], [5]), ([], [])])
def proper_reach.B5 : List Nat := [0, 0, 0, 6, 14, 31, 63, 0]
theorem proper_reach.tab5 : rtab .any (opsOf Try.f42 5) = proper_reach.T5 := by kernel_rfl
theorem proper_reach.bits5 : waitsOk proper_reach.T5.2 proper_reach.B5 = true := by kernel_rfl
set_option maxHeartbeats 8000000 in
set_option maxRecDepth 100000 in
theorem proper_reach.calls (k : Nat) (A0_0 : Option Addr) (c0_0 : Nat) (l0_0 : List Int) (A0_1 : Option Addr) (c0_1 : Nat) (l0_1 : List (S34)) (A0_2 : Option Addr) (c0_2 : Nat) (l0_2 : List (S58)) (a1 : Int) (r : List Int) (w : World) (hr0_0 : Kd.C (Kd.int .u32) w A0_0 l0_0.length l0_0) (hc0_0 : l0_0.length ≤ c0_0) (hr0_1 : Kd.C k34 w A0_1 l0_1.length l0_1) (hc0_1 : l0_1.length ≤ c0_1) (hr0_2 : Kd.C k58 w A0_2 l0_2.length l0_2) (hc0_2 : l0_2.length ≤ c0_2) (h : proper_reach.f k l0_0 l0_1 l0_2 a1 = some r) :
  Calls Try.prog 42 #[.agg #[.slice A0_0 l0_0.length c0_0, .slice A0_1 l0_1.length c0_1, .slice A0_2 l0_2.length c0_2], .int .i64 a1] w fun e w' => ∃ v0_ : Value, e = .returned (v0_) ∧ Kd.R (Kd.int .i64) 3 w' w.heap.size (fun _ => True) v0_ r ∧ Below w.heap.size w w' := by
 have hu26 := Try.underlying26
 have HR0_0 := K1 hr0_0
 have HC0_0 := K1 hc0_0
 clear hr0_0 hc0_0
 have HR0_1 := K1 hr0_1
 have HC0_1 := K1 hc0_1
 clear hr0_1 hc0_1
 have HR0_2 := K1 hr0_2
 have HC0_2 := K1 hc0_2
 clear hr0_2 hc0_2
 have HB := K1 (Below.refl w.heap.size w)
 have H : (if 0 ≤ a1 then (if a1 < (l0_1.length : Int) then (proper_reach.l0 k (([(rd_T34 l0_1 a1).f0] : List Int)) 0 l0_0 l0_1 l0_2) else (none)) else (none)) = some r := h
 clear h
 by_cases c3 : 0 ≤ a1
 ·rw [if_pos c3] at H
  have c3b0 : decide (0 ≤ a1) = true := decide_eq_true c3
  clear c3
  by_cases c4 : a1 < (l0_1.length : Int)
  ·rw [if_pos c4] at H
   have c4b0 : decide (a1 < (l0_1.length : Int)) = true := decide_eq_true c4
   clear c4
   obtain ⟨y283, hy283⟩ : ∃ y_ : List Int, y_ = (([(rd_T34 l0_1 a1).f0] : List Int)) := ⟨_, rfl⟩
   replace H : (proper_reach.l0 k y283 0 l0_0 l0_1 l0_2) = some r := by first | (rw [hy283]; with_reducible exact H) | (have H2_ := (Option.bind_some _ _).symm.trans H; rw [hy283]; with_reducible exact H2_) | (have H2_ := (Option.bind_some _ _).symm.trans H; with_reducible exact H2_) | with_reducible exact H | (rw [hy283]; exact H) | exact H
   have Ny283 := K1 hy283
   clear hy283
   have H' := K1 H
   clear H
   go_enter Try.func42, Try.ntmps42
   go_wp2_with (first | ((with_reducible refine gate_dst (N := 2) rfl ?_); refine bev (N := 2) (cs := #[.slice A0_0 l0_0.length c0_0, .slice A0_1 l0_1.length c0_1, .slice A0_2 l0_2.length c0_2]) (t := 26) (h := ?_); intro gb281 hg w5 hbox hb; have BK281 := K1 (hbox); have GW281 := K1 (mG : w.heap.size ≤ gb281); have GE281 := K1 (mG : w.heap.size ≤ gb281); replace HB := K1 (below_step mB hb); clear hb hbox hg; obtain ⟨hcz6_0, hcz6_1, hcz6_2, hfz6_0, hfz6_1, hfz6_2⟩ := cf3 BK281; have p282 : 0 ≤ (a1 : Int) := of_decide_eq_true (mA); have q282 : a1 < (l0_1.length : Int) := of_decide_eq_true (mA); obtain ⟨ad282, e282, hx282_0, hx282_1⟩ := at_T34 HR0_1.out a1 p282 q282; cases e282; replace hx282_0 := (HB.out.cell (World.block_lt_of_cell? w _ hx282_0)).trans hx282_0; replace hx282_1 := (HB.out.cell (World.block_lt_of_cell? w _ hx282_1)).trans hx282_1; replace p282 := eq_true p282; replace q282 := eq_true q282) | ((with_reducible refine gate_dst (N := 15) rfl ?_); refine Kd.R_lit (Kd.int .i64) _ 3 ?hg (N := 15) ?hd (xs := ([(rd_T34 l0_1 a1).f0] : List Int)) (inner := [.int .i64 ((rd_T34 l0_1 a1).f0)]) (ok := fun _ => True) (okp := fun _ => True) ?hr ?hp (fun _ hk => hk) trivial (Below.refl _ _) (Nat.le_refl _) (by simp) ?_; (case hd => rfl); (case hg => rfl); (case hr => first | (go_simp; done) | (go_simp; rfl)); (case hp => exact (Reps.one (show Kd.M (Kd.int .i64) _ _ _ ((rd_T34 l0_1 a1).f0) [.int .i64 ((rd_T34 l0_1 a1).f0)] from rfl) (Reps.none _ _))); intro v284 w7 ho8 hb hg_ hnew_; clear hg_ hnew_; (first | rw [← Ny283.out] at ho8 | (simp only [Int.reduceToNat] at ho8; rw [← Ny283.out] at ho8)); have HO285 := K1 (Kd.R_lower ho8 (below_size mB)); replace BK281 := K1 (blk_below (mU BK281.out) hb); replace HB := K1 (below_step mB hb); clear hb ho8))
   go_loopg [5, 6] k (fun kq v5 v6 w' => ∃ (x5_1 : List Int) (x6_1 : Int), v6 = .int .i64 x6_1 ∧ Aside0 (proper_reach.l0 kq x5_1 x6_1 l0_0 l0_1 l0_2 = some r) ∧ Aside0 (kq ≤ k) ∧ Aside0 (Kd.R (Kd.int .i64) 3 w' w.heap.size (fun _ => True) v5 x5_1) ∧ Aside0 (w'.heap[gb281]? = some (.cells #[(.slice A0_0 l0_0.length c0_0), (.slice (some ad282) l0_1.length c0_1), (.slice A0_2 l0_2.length c0_2)] 26 (0, 0))) ∧ Aside0 (Below w.heap.size w w'))
   case atStart => exact ⟨(y283), (0), (mF), H', ⟨Nat.le_refl _⟩, ⟨mV HO285.out⟩, ⟨mU BK281.out⟩, ⟨mB⟩⟩
   case round =>
    clear H' c3b0 c4b0 hcz6_0 hcz6_1 hcz6_2 hfz6_0 hfz6_1 hfz6_2 hx282_0 hx282_1 p282 q282
    obtain ⟨x5_1, x6_1, rfl, HA, HK1, HO_5, BK281, HB⟩ := hrel
    cases gk with
    | zero => exact absurd HA.out (by simp [proper_reach.l0])
    | succ k1 =>
     have H := HA.out
     clear HA
     simp only [proper_reach.l0] at H
     by_cases c9 : x6_1 < (x5_1.length : Int)
     ·rw [if_pos c9] at H
      have c9b0 : decide (x6_1 < (x5_1.length : Int)) = true := decide_eq_true c9
      clear c9
      by_cases c10 : 0 ≤ x6_1
      ·rw [if_pos c10] at H
       have c10b0 : decide (0 ≤ x6_1) = true := decide_eq_true c10
       clear c10
       replace H := Option.bind_eq_some_iff.mp H
       obtain ⟨t288, A110, H⟩ := H
       replace H : (proper_reach.l1 k1 x5_1 x6_1 t288 (t288.length : Int) 0 l0_0 l0_1 l0_2) = some r := H
       have A11 := K1 A110
       clear A110
       have H' := K1 H
       clear H
       obtain ⟨Ao12, co12, eo12⟩ := Kd.R_slice HO_5.out
       subst eo12
       try go_wp2
       replace HO_5 := K1 (Kd.R_drew HO_5.out)
       replace BK281 := K1 (bD BK281.out)
       replace HB := K1 (below_drew1 HB.out)
       have p287 : 0 ≤ (x6_1 : Int) := of_decide_eq_true (mA)
       have q287 : x6_1 < (x5_1.length : Int) := of_decide_eq_true (mA)
       obtain ⟨ad287, e287, hx287_0⟩ := Kd.at_int (Kd.R_reads' HO_5.out).2.2 x6_1 p287 q287
       cases e287
       replace p287 := eq_true p287
       replace q287 := eq_true q287
       refine start_ (n := 8) (S := fun w' => w'.cell? ⟨gb281, 0, none⟩ = some (.slice A0_0 l0_0.length c0_0) ∧ w'.cell? ⟨gb281, 1, none⟩ = some (.slice (some ad282) l0_1.length c0_1) ∧ w'.cell? ⟨gb281, 2, none⟩ = some (.slice A0_2 l0_2.length c0_2) ∧ w'.cell? (ad287.add (x6_1).toNat) = some (.int .i64 (rd x5_1 x6_1))) (ds := []) #[false, false, false, false, false, false, false, false] (by kernel_rfl) rfl rfl ⟨(blk_cell BK281.out 0).trans rfl, (blk_cell BK281.out 1).trans rfl, (blk_cell BK281.out 2).trans rfl, hx287_0⟩ (fun hHeld => ?_); refine with_tabW proper_reach.tab5 proper_reach.bits5 (fun HT_ HW_ => ?_)
       generalize wr.drew = w13 at HO_5 BK281 HB hx287_0 hHeld ⊢
       refine pure_ (i := 1) (N := some 23) (v := ?_) (a' := ?_) #[false, true, false, false, false, false, false, false] rfl rfl (any_of HT_.out (by kernel_rfl)) (fun _ _ _ h => h) (Or.inl ⟨by rfl, ?_⟩) ?_ ?_
       rotate_left
       ·intro w'
        go_simp
        with_reducible rfl
       rotate_left
       ·simp only [Act.put, List.setIfInBounds_toArray, List.set_cons_zero, List.set_cons_succ, i64_w, i32_w]
        rfl
       refine pure_ (i := 2) (N := some 24) (v := ?_) (a' := ?_) #[false, true, true, false, false, false, false, false] rfl rfl (any_of HT_.out (by kernel_rfl)) (fun _ _ _ h => h) (Or.inl ⟨by rfl, ?_⟩) ?_ ?_
       rotate_left
       ·intro w'
        go_simp
        with_reducible rfl
       rotate_left
       ·simp only [Act.put, List.setIfInBounds_toArray, List.set_cons_zero, List.set_cons_succ, i64_w, i32_w]
        rfl
       refine pure_ (i := 3) (N := some 25) (v := ?_) (a' := ?_) #[false, true, true, true, false, false, false, false] rfl rfl (any_of HT_.out (by kernel_rfl)) (fun _ _ _ h => h) (Or.inl ⟨by rfl, ?_⟩) ?_ ?_
       rotate_left
       ·intro w'
        go_simp
        with_reducible rfl
       rotate_left
       ·simp only [Act.put, List.setIfInBounds_toArray, List.set_cons_zero, List.set_cons_succ, i64_w, i32_w]
        rfl
       refine pure_ (i := 7) (N := some 29) (v := ?_) (a' := ?_) #[false, true, true, true, false, false, false, true] rfl rfl (any_of HT_.out (by kernel_rfl)) (fun _ _ _ h => h) (Or.inl ⟨by rfl, ?_⟩) ?_ ?_
       rotate_left
       ·intro w'
        go_simp
        with_reducible rfl
       rotate_left
       ·simp only [Act.put, List.setIfInBounds_toArray, List.set_cons_zero, List.set_cons_succ, i64_w, i32_w]
        rfl
       refine take_ (i := 0) (N := some 22) (v := ?_) (a' := ?_) #[true, true, true, true, false, false, false, true] rfl rfl (take_ofW HT_.out HW_.out (by kernel_rfl)) (fun _ _ _ h => h) (Or.inl ⟨by rfl, ?_⟩) hHeld ?_ ?_
       rotate_left
       ·rintro w' ⟨s0, s1, s2, s3⟩
        go_simp
        with_reducible rfl
       rotate_left
       ·simp only [Act.put, List.setIfInBounds_toArray, List.set_cons_zero, List.set_cons_succ, i64_w, i32_w]
        rfl
       refine take_ (i := 4) (N := some 26) (v := ?_) (a' := ?_) #[true, true, true, true, true, false, false, true] rfl rfl (take_ofW HT_.out HW_.out (by kernel_rfl)) (fun _ _ _ h => h) (Or.inl ⟨by rfl, ?_⟩) hHeld ?_ ?_
       rotate_left
       ·rintro w' ⟨s0, s1, s2, s3⟩
        go_simp
        with_reducible rfl
       rotate_left
       ·simp only [Act.put, List.setIfInBounds_toArray, List.set_cons_zero, List.set_cons_succ, i64_w, i32_w]
        rfl
       refine one_ (i := 5) (N := some 27) #[true, true, true, true, true, true, false, true] rfl rfl (one_of HT_.out (by kernel_rfl)) (by decide) (fun K hK => ?_)
       refine goes_ Try.func39 (by kernel_rfl) rfl #[.agg #[.slice A0_0 l0_0.length c0_0, .slice (some ad282) l0_1.length c0_1, .slice A0_2 l0_2.length c0_2], .int .i64 (rd x5_1 x6_1)] (by rfl) rfl rfl mL ?_
       with_reducible refine (proper_next.calls k1 _ _ l0_0 _ _ l0_1 _ _ l0_2 (rd x5_1 x6_1) t288 _ ?side1 ?side2 ?side3 ?side4 ?side5 ?side6 A11.out).mono ?_
       (case side1 => exact mC)
       (case side2 => exact HC0_0.out)
       (case side3 => exact mC)
       (case side4 => exact HC0_1.out)
       (case side5 => exact mC)
       (case side6 => exact HC0_2.out)
       rintro e w14 ⟨v289, rfl, ho0, hb⟩
       have HS3_ := (hb.cell (World.block_lt_of_cell? _ _ (hHeld.2.2.2))).trans (hHeld.2.2.2)
       refine ⟨_, rfl, ?_⟩
       have HO290 := K1 (Kd.R_lower (Kd.R_new' ho0 (Kd.R_lt (mV HO_5.out))) (below_size mB))
       replace HO_5 := K1 (Kd.R_elder' (mV HO_5.out) (Kd.R_base ho0) hb)
       replace BK281 := K1 (blk_below (mU BK281.out) hb)
       replace HB := K1 (below_step mB hb)
       (try clear hb)
       (try clear ho0)
       obtain ⟨Ao15, co15, eo15⟩ := Kd.R_slice HO290.out
       (first | subst eo15 | (injection eo15 with f1_ f2_ f3_; have f4_ := f1_.symm; have f5_ := f3_.symm; clear f1_ f2_ f3_; subst f4_; subst f5_))
       refine hK.out _ _ ⟨(blk_cell BK281.out 0).trans rfl, (blk_cell BK281.out 1).trans rfl, (blk_cell BK281.out 2).trans rfl, HS3_⟩ (fun hHeld => ?_)
       clear hK K
       refine norm_ (a' := ?_) ?_ ?_
       rotate_left
       ·show Act.put _ (some 27) _ = _
        simp only [Act.put, List.setIfInBounds_toArray, List.set_cons_zero, List.set_cons_succ, i64_w, i32_w]
        rfl
       refine pure_ (i := 6) (N := some 28) (v := ?_) (a' := ?_) #[true, true, true, true, true, true, true, true] rfl rfl (any_of HT_.out (by kernel_rfl)) (fun _ _ _ h => h) (Or.inl ⟨by rfl, ?_⟩) ?_ ?_
       rotate_left
       ·intro w'
        go_simp
        with_reducible rfl
       rotate_left
       ·simp only [Act.put, List.setIfInBounds_toArray, List.set_cons_zero, List.set_cons_succ, i64_w, i32_w]
        rfl
       refine done_ (done_of HT_.out (by kernel_rfl)) ?_
       try go_wp2
       go_loopg [5, 29] k1 (fun kq v5 v29 w' => ∃ (x5_2 : List Int) (x29_2 : Int), v29 = .int .i64 x29_2 ∧ Aside0 (proper_reach.l1 kq x5_2 x6_1 t288 (t288.length : Int) x29_2 l0_0 l0_1 l0_2 = some r) ∧ Aside0 (kq ≤ k1) ∧ Aside0 (Kd.R (Kd.int .i64) 3 w' w.heap.size (fun k_ => some k_ ≠ ((.slice Ao15 t288.length co15) : Value).ownBlock) v5 x5_2) ∧ Aside0 (Kd.R (Kd.int .i64) 3 w' w.heap.size (fun k_ => some k_ ≠ (v5 : Value).ownBlock) (.slice Ao15 t288.length co15) t288) ∧ Aside0 (w'.heap[gb281]? = some (.cells #[(.slice A0_0 l0_0.length c0_0), (.slice (some ad282) l0_1.length c0_1), (.slice A0_2 l0_2.length c0_2)] 26 (0, 0))) ∧ Aside0 (Below w.heap.size w w'))
       case atStart => exact ⟨(x5_1), (0), (mF), H', ⟨Nat.le_refl _⟩, ⟨by (with_reducible repeat (first | apply Kd.R_alloc | apply Kd.R_drewN | apply Kd.R_drew)); exact Kd.R_mono HO_5.out (fun _ hk => hk.2)⟩, ⟨by (with_reducible repeat (first | apply Kd.R_alloc | apply Kd.R_drewN | apply Kd.R_drew)); exact Kd.R_mono HO290.out (fun _ hk => hk.2)⟩, ⟨mU BK281.out⟩, ⟨mB⟩⟩
       case round =>
        clear H' c9b0 c10b0 hx287_0 p287 q287
        obtain ⟨x5_2, x29_2, rfl, HA, HK2, HO_5, HO_27, BK281, HB⟩ := hrel
        cases gk with
        | zero => exact absurd HA.out (by simp [proper_reach.l1])
        | succ k2 =>
         have H := HA.out
         clear HA
         simp only [proper_reach.l1] at H
         by_cases c16 : x29_2 < (t288.length : Int)
         ·rw [if_pos c16] at H
          have c16b0 : decide (x29_2 < (t288.length : Int)) = true := decide_eq_true c16
          clear c16
          by_cases c17 : 0 ≤ x29_2
          ·rw [if_pos c17] at H
           have c17b0 : decide (0 ≤ x29_2) = true := decide_eq_true c17
           clear c17
           by_cases c18 : x29_2 < (t288.length : Int)
           ·rw [if_pos c18] at H
            have c18b0 : decide (x29_2 < (t288.length : Int)) = true := decide_eq_true c18
            clear c18
            replace H := Option.bind_eq_some_iff.mp H
            obtain ⟨t292, A190, H⟩ := H
            replace H : (if t292 = true then (proper_reach.l1 k2 x5_2 x6_1 t288 (t288.length : Int) (wrap64 (x29_2 + 1)) l0_0 l0_1 l0_2) else (if x5_2.length < 17592186044416 then (proper_reach.l1 k2 (x5_2 ++ [rd t288 x29_2]) x6_1 t288 (t288.length : Int) (wrap64 (x29_2 + 1)) l0_0 l0_1 l0_2) else (none))) = some r := H
            have A19 := K1 A190
            clear A190
            by_cases c20 : t292 = true
            ·subst c20
             have H1 : (proper_reach.l1 k2 x5_2 x6_1 t288 (t288.length : Int) (wrap64 (x29_2 + 1)) l0_0 l0_1 l0_2) = some r := by rw [if_pos rfl] at H; exact H
             clear H
             have H := H1
             clear H1
             have H' := K1 H
             clear H
             have p291 : 0 ≤ (x29_2 : Int) := of_decide_eq_true (mA)
             have q291 : x29_2 < (t288.length : Int) := of_decide_eq_true (mA)
             obtain ⟨ad291, e291, hx291_0⟩ := Kd.at_int (Kd.R_reads' HO_27.out).2.2 x29_2 p291 q291
             cases e291
             replace p291 := eq_true p291
             replace q291 := eq_true q291
             obtain ⟨Ao21, co21, eo21⟩ := Kd.R_slice HO_5.out
             subst eo21
             go_wp2_with (first | ((with_reducible refine gate_callee (f := 46) rfl ?_); refine goesL_ (some 35) rfl rfl Try.func46 (by kernel_rfl) rfl #[.slice Ao21 x5_2.length co21, .int .i64 (rd t288 x29_2)] rfl mL ?_; (with_reducible refine (slices_Contains_int_int.calls k2 _ _ x5_2 (rd t288 x29_2) true _ ?side1 ?side2 A19.out).mono ?_); (case side1 => exact mW (Kd.R_reads' HO_5.out).2.2); (case side2 => exact (Kd.R_reads' HO_5.out).2.1); rintro e w' ⟨rfl, ⟨nd, rfl⟩⟩; refine ⟨_, rfl, ?_⟩))
             go_roundg k2
             case measure => have := HK1.out; have := HK2.out; omega
             case rel => exact ⟨(x5_2), (wrap64 (x29_2 + 1)), (mF), H', ⟨by have := HK1.out; have := HK2.out; omega⟩, ⟨mV HO_5.out⟩, ⟨mV HO_27.out⟩, ⟨mU BK281.out⟩, ⟨mB⟩⟩
            ·replace c20 := Bool.eq_false_iff.mpr c20
             subst c20
             have H1 : (if x5_2.length < 17592186044416 then (proper_reach.l1 k2 (x5_2 ++ [rd t288 x29_2]) x6_1 t288 (t288.length : Int) (wrap64 (x29_2 + 1)) l0_0 l0_1 l0_2) else (none)) = some r := by rw [if_neg (show ¬ (false = true) by decide)] at H; exact H
             clear H
             have H := H1
             clear H1
             by_cases c22 : x5_2.length < 17592186044416
             ·rw [if_pos c22] at H
              have LMc22 := K1 c22
              clear c22
              obtain ⟨y293, hy293⟩ : ∃ y_ : List Int, y_ = (x5_2 ++ [rd t288 x29_2]) := ⟨_, rfl⟩
              replace H : (proper_reach.l1 k2 y293 x6_1 t288 (t288.length : Int) (wrap64 (x29_2 + 1)) l0_0 l0_1 l0_2) = some r := by first | (rw [hy293]; with_reducible exact H) | (have H2_ := (Option.bind_some _ _).symm.trans H; rw [hy293]; with_reducible exact H2_) | (have H2_ := (Option.bind_some _ _).symm.trans H; with_reducible exact H2_) | with_reducible exact H | (rw [hy293]; exact H) | exact H
              have Ny293 := K1 hy293
              clear hy293
              have H' := K1 H
              clear H
              have p291 : 0 ≤ (x29_2 : Int) := of_decide_eq_true (mA)
              have q291 : x29_2 < (t288.length : Int) := of_decide_eq_true (mA)
              obtain ⟨ad291, e291, hx291_0⟩ := Kd.at_int (Kd.R_reads' HO_27.out).2.2 x29_2 p291 q291
              cases e291
              replace p291 := eq_true p291
              replace q291 := eq_true q291
              obtain ⟨Ao23, co23, eo23⟩ := Kd.R_slice HO_5.out
              subst eo23
              go_wp2_with (first | ((with_reducible refine gate_callee (f := 46) rfl ?_); refine goesL_ (some 35) rfl rfl Try.func46 (by kernel_rfl) rfl #[.slice Ao23 x5_2.length co23, .int .i64 (rd t288 x29_2)] rfl mL ?_; (with_reducible refine (slices_Contains_int_int.calls k2 _ _ x5_2 (rd t288 x29_2) false _ ?side1 ?side2 A19.out).mono ?_); (case side1 => exact mW (Kd.R_reads' HO_5.out).2.2); (case side2 => exact (Kd.R_reads' HO_5.out).2.1); rintro e w' ⟨rfl, ⟨nd, rfl⟩⟩; refine ⟨_, rfl, ?_⟩) | ((with_reducible refine gate_builtin (b := .append) (xs := #[.tmp 37, .tmp 39]) rfl ?_); at_builtin; refine Kd.R_append (Kd.int .i64) (w0 := w) w.heap.size rfl (.tmp 37) (.tmp 39) 37 3 (.int .i64 0) 8 rfl Try.underlying37 info3 rfl (by decide) (by omega) (.slice Ao23 x5_2.length co23) x5_2 (rd t288 x29_2) [.int .i64 (rd t288 x29_2)] (fun k_ => some k_ ≠ (.slice (some ad291) t288.length co15 : Value).ownBlock) (fun _ => False) rfl rfl ?aP (fun _ hk => hk.elim) ?aF ?aO ?aB ?aS ?aL ?_; (case aP => exact rfl); (case aB => exact mB); (case aF => exact (fun k_ hk => Kd.fresh' (Kd.R_lt (mV HO_27.out)) k_ hk)); (case aO => exact (mV HO_5.out)); (case aS => exact (below_size mB)); (case aL => have := LMc22.out; omega); intro v294 w24 ho hb hg hat; rw [← Ny293.out] at ho; have HO295 := K1 (ho); replace HO_27 := K1 (Kd.R_after (ok := (fun _ => True)) (by (with_reducible repeat (first | apply Kd.R_alloc | apply Kd.R_drewN | apply Kd.R_drew)); exact Kd.R_mono HO_27.out (fun _ hk => ⟨trivial, hk⟩)) hg hat); replace BK281 := K1 (blk_grown (mU BK281.out) hg (Kd.R_ne HO_5.out BK281.out (by decide))); replace HB := K1 (hb); clear HO_5; clear ho hb hg hat))
              go_roundg k2
              case measure => have := HK1.out; have := HK2.out; omega
              case rel => exact ⟨(y293), (wrap64 (x29_2 + 1)), (mF), H', ⟨by have := HK1.out; have := HK2.out; omega⟩, ⟨mV HO295.out⟩, ⟨by (with_reducible repeat (first | apply Kd.R_alloc | apply Kd.R_drewN | apply Kd.R_drew)); exact Kd.R_mono HO_27.out (fun _ hk => hk.2)⟩, ⟨mU BK281.out⟩, ⟨mB⟩⟩
             ·rw [if_neg c22] at H
              exact absurd H (by simp)
           ·rw [if_neg c18] at H
            exact absurd H (by simp)
          ·rw [if_neg c17] at H
           exact absurd H (by simp)
         ·rw [if_neg c16] at H
          have c16b0 : decide (x29_2 < (t288.length : Int)) = false := decide_eq_false c16
          clear c16
          have H' := K1 H
          clear H
          go_wp2
          go_roundg k2
          case measure => have := HK1.out; have := HK2.out; omega
          case rel => exact ⟨(x5_2), (wrap64 (x6_1 + 1)), (mF), H', ⟨by have := HK1.out; have := HK2.out; omega⟩, ⟨by (with_reducible repeat (first | apply Kd.R_alloc | apply Kd.R_drewN | apply Kd.R_drew)); exact Kd.R_mono HO_5.out (fun _ hk => trivial)⟩, ⟨mU BK281.out⟩, ⟨mB⟩⟩
      ·rw [if_neg c10] at H
       exact absurd H (by simp)
     ·rw [if_neg c9] at H
      have c9b0 : decide (x6_1 < (x5_1.length : Int)) = false := decide_eq_false c9
      clear c9
      replace H := Option.bind_eq_some_iff.mp H
      obtain ⟨t286, A250, H⟩ := H
      replace H : (some t286) = some r := H
      have A25 := K1 A250
      clear A250
      obtain rfl := Option.some.inj H
      obtain ⟨Ao26, co26, eo26⟩ := Kd.R_slice HO_5.out
      subst eo26
      go_wp2_with (first | ((with_reducible refine gate_callee (f := 47) rfl ?_); refine goesL_ (some 43) rfl rfl Try.func47 (by kernel_rfl) rfl #[.slice Ao26 x5_1.length co26] rfl mL ?_; (with_reducible refine (slices_Sort_int.calls (fun k_ => some k_ = (.slice Ao26 x5_1.length co26 : Value).ownBlock) (.slice Ao26 x5_1.length co26) x5_1 t286 w _ ?side1 ?side2 A25.out).mono ?_); (case side1 => exact mB); (case side2 => exact Kd.R_tight rfl HO_5.out); rintro e w27 ⟨rfl, hy0, hb, hkp⟩; refine ⟨_, rfl, ?_⟩; have n0_ := K1 (Kd.R_reok rfl hy0 (fun k_ e_ => HO_5.out.1 k_ e_)); have n1_ := K1 (blk_kept (by (with_reducible repeat (first | refine bN ?_ _ | refine bD ?_ | refine bA ?_ _)); exact BK281.out) hkp (fun hs_ => (fun e_ => (Kd.R_ne HO_5.out BK281.out (by decide)) e_) hs_)); have n2_ := K1 (hb); clear HO_5; clear BK281; clear HB; have HO_5 := n0_; have BK281 := n1_; have HB := n2_; clear n0_ n1_ n2_; (try clear hb); (try clear hkp); (try clear hy0)))
      go_ret
      exact ⟨_, mE, by (with_reducible repeat (first | apply Kd.R_alloc | apply Kd.R_drewN | apply Kd.R_drew)); exact HO_5.out, mB⟩
  ·rw [if_neg c4] at H
   exact absurd H (by simp)
 ·rw [if_neg c3] at H
  exact absurd H (by simp)

end Go.Proofs.Ytdlikjfffdpmiaa.QProper

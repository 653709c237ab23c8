/- Printed: a function's machine side. Conditions: none. -/
import Derived.Test.YtdlikjfffdpmiaaQProperx0
import Derived.Test.YtdlikjfffdpmiaaQProperx3
import Derived.Test.YtdlikjfffdpmiaaQProperx10
import Derived.Test.YtdlikjfffdpmiaaProperTb
namespace Go.Proofs.Ytdlikjfffdpmiaa.QProper
open Go.RowKit Go.Proofs.YtdlikjfffdpmiaaW.PrintWords Go.Proofs.YtdlikjfffdpmiaaW.PrintLast Go.Proofs.YtdlikjfffdpmiaaW.PrintMore
set_option linter.unusedVariables false
set_option linter.unusedSimpArgs false

/-! ### proper_Check: function 12 -/
mutual
def proper_Check.j0 : Nat → Bool → List Int → List (S34) → List (S58) → Option (Int × Int)
 | 0, _, _, _, _ => none
 | k + 1, x27, x136000, x136001, x136002 => if x27 = true then (some (0, 2)) else ((proper_functions.f k x136000 x136001 x136002).bind fun bt136 => (if bt136.2 = true then ((proper_tables.f x136000 x136001 x136002).bind fun bt138 => (if bt138.2 = true then (proper_Check.l0 k x136001 (x136001.length : Int) 0 x136000 x136001 x136002) else (some (bt138.1, 83)))) else (some (bt136.1, 81))))
def proper_Check.l0 : Nat → List (S34) → Int → Int → List Int → List (S34) → List (S58) → Option (Int × Int)
 | 0, _, _, _, _, _, _ => none
 | k + 1, x45, x46, x47, x136000, x136001, x136002 => if x47 < x46 then (if 0 ≤ x47 then (if x47 < (x45.length : Int) then (proper_Check.l1 k ((rd_T34 x45 x47).f0) x45 x46 x47 x136000 x136001 x136002 ((rd_T34 x45 x47).f0) ((rd_T34 x45 x47).f1)) else (none)) else (none)) else (some (0, 0))
def proper_Check.l1 : Nat → Int → List (S34) → Int → Int → List Int → List (S34) → List (S58) → Int → Int → Option (Int × Int)
 | 0, _, _, _, _, _, _, _, _, _ => none
 | k + 1, x10, x45, x46, x47, x136000, x136001, x136002, x142000, x142001 => if x10 < x142001 then ((proper_wrong.f k x136000 x136001 x136002 x10 x142000 x142001).bind fun t142 => (if t142 = 0 then (proper_Check.l1 k (wrap64 (x10 + 1)) x45 x46 x47 x136000 x136001 x136002 x142000 x142001) else (some (x10, t142)))) else (proper_Check.l0 k x45 x46 (wrap64 (x47 + 1)) x136000 x136001 x136002)
end
def proper_Check.f (k : Nat) (l0_0 : List Int) (l0_1 : List (S34)) (l0_2 : List (S58)) : Option (Int × Int) := if (l0_0.length : Int) > 4096 then (proper_Check.j0 k true l0_0 l0_1 l0_2) else (if (l0_1.length : Int) > 256 then (proper_Check.j0 k true l0_0 l0_1 l0_2) else (proper_Check.j0 k (decide ((l0_2.length : Int) > 256)) l0_0 l0_1 l0_2))
theorem proper_Check.mono_l : ∀ k, (∀ y0 y1 y2 y3, LeO (proper_Check.j0 k y0 y1 y2 y3) (proper_Check.j0 (k + 1) y0 y1 y2 y3)) ∧ (∀ y0 y1 y2 y3 y4 y5, LeO (proper_Check.l0 k y0 y1 y2 y3 y4 y5) (proper_Check.l0 (k + 1) y0 y1 y2 y3 y4 y5)) ∧ (∀ y0 y1 y2 y3 y4 y5 y6 y7 y8, LeO (proper_Check.l1 k y0 y1 y2 y3 y4 y5 y6 y7 y8) (proper_Check.l1 (k + 1) y0 y1 y2 y3 y4 y5 y6 y7 y8))
 | 0 => ⟨fun _ _ _ _ r h => by simp [proper_Check.j0] at h, fun _ _ _ _ _ _ r h => by simp [proper_Check.l0] at h, fun _ _ _ _ _ _ _ _ _ r h => by simp [proper_Check.l1] at h⟩
 | k + 1 => by
  obtain ⟨ih0, ih1, ih2⟩ := proper_Check.mono_l k
  refine ⟨?_, ?_, ?_⟩
  ·intro y0 y1 y2 y3
   unfold proper_Check.j0
   repeat' first
   | (with_reducible exact ih0 _ _ _ _)
   | (with_reducible exact ih1 _ _ _ _ _ _)
   | (with_reducible exact ih2 _ _ _ _ _ _ _ _ _)
   | (with_reducible exact proper_functions.mono _ _ _ _)
   | (with_reducible exact proper_wrong.mono _ _ _ _ _ _ _)
   | (with_reducible exact LeO.refl _)
   | (with_reducible exact LeO.none _)
   | (with_reducible refine LeO.ite ?_ ?_)
   | (with_reducible refine LeO.bind ?_ (fun _ => ?_))
   | exact ih0 _ _ _ _
   | exact ih1 _ _ _ _ _ _
   | exact ih2 _ _ _ _ _ _ _ _ _
   | exact proper_functions.mono _ _ _ _
   | exact proper_wrong.mono _ _ _ _ _ _ _
   | exact LeO.none _
   | refine LeO.ite ?_ ?_
   | refine LeO.bind ?_ (fun _ => ?_)
  ·intro y0 y1 y2 y3 y4 y5
   unfold proper_Check.l0
   repeat' first
   | (with_reducible exact ih0 _ _ _ _)
   | (with_reducible exact ih1 _ _ _ _ _ _)
   | (with_reducible exact ih2 _ _ _ _ _ _ _ _ _)
   | (with_reducible exact proper_functions.mono _ _ _ _)
   | (with_reducible exact proper_wrong.mono _ _ _ _ _ _ _)
   | (with_reducible exact LeO.refl _)
   | (with_reducible exact LeO.none _)
   | (with_reducible refine LeO.ite ?_ ?_)
   | (with_reducible refine LeO.bind ?_ (fun _ => ?_))
   | exact ih0 _ _ _ _
   | exact ih1 _ _ _ _ _ _
   | exact ih2 _ _ _ _ _ _ _ _ _
   | exact proper_functions.mono _ _ _ _
   | exact proper_wrong.mono _ _ _ _ _ _ _
   | exact LeO.none _
   | refine LeO.ite ?_ ?_
   | refine LeO.bind ?_ (fun _ => ?_)
  ·intro y0 y1 y2 y3 y4 y5 y6 y7 y8
   unfold proper_Check.l1
   repeat' first
   | (with_reducible exact ih0 _ _ _ _)
   | (with_reducible exact ih1 _ _ _ _ _ _)
   | (with_reducible exact ih2 _ _ _ _ _ _ _ _ _)
   | (with_reducible exact proper_functions.mono _ _ _ _)
   | (with_reducible exact proper_wrong.mono _ _ _ _ _ _ _)
   | (with_reducible exact LeO.refl _)
   | (with_reducible exact LeO.none _)
   | (with_reducible refine LeO.ite ?_ ?_)
   | (with_reducible refine LeO.bind ?_ (fun _ => ?_))
   | exact ih0 _ _ _ _
   | exact ih1 _ _ _ _ _ _
   | exact ih2 _ _ _ _ _ _ _ _ _
   | exact proper_functions.mono _ _ _ _
   | exact proper_wrong.mono _ _ _ _ _ _ _
   | exact LeO.none _
   | refine LeO.ite ?_ ?_
   | refine LeO.bind ?_ (fun _ => ?_)
theorem proper_Check.mono : ∀ a0 a1 a2 k, LeO (proper_Check.f k a0 a1 a2) (proper_Check.f (k + 1) a0 a1 a2) := by
 intro a0 a1 a2 k
 obtain ⟨ih0, ih1, ih2⟩ := proper_Check.mono_l k
 unfold proper_Check.f
 repeat' first
   | (with_reducible exact ih0 _ _ _ _)
   | (with_reducible exact ih1 _ _ _ _ _ _)
   | (with_reducible exact ih2 _ _ _ _ _ _ _ _ _)
   | (with_reducible exact proper_functions.mono _ _ _ _)
   | (with_reducible exact proper_wrong.mono _ _ _ _ _ _ _)
   | (with_reducible exact LeO.refl _)
   | (with_reducible exact LeO.none _)
   | (with_reducible refine LeO.ite ?_ ?_)
   | (with_reducible refine LeO.bind ?_ (fun _ => ?_))
   | exact ih0 _ _ _ _
   | exact ih1 _ _ _ _ _ _
   | exact ih2 _ _ _ _ _ _ _ _ _
   | exact proper_functions.mono _ _ _ _
   | exact proper_wrong.mono _ _ _ _ _ _ _
   | exact LeO.none _
   | refine LeO.ite ?_ ?_
   | refine LeO.bind ?_ (fun _ => ?_)
set_option maxHeartbeats 8000000 in
set_option maxRecDepth 100000 in
theorem proper_Check.calls (k : Nat) (A0_0 : Option Addr) (c0_0 : Nat) (l0_0 : List Int) (A0_1 : Option Addr) (c0_1 : Nat) (l0_1 : List (S34)) (A0_2 : Option Addr) (c0_2 : Nat) (l0_2 : List (S58)) (r1 : Int) (r2 : Int) (w : World) (hr0_0 : Kd.C (Kd.int .u32) w A0_0 l0_0.length l0_0) (hc0_0 : l0_0.length ≤ c0_0) (hr0_1 : Kd.C k34 w A0_1 l0_1.length l0_1) (hc0_1 : l0_1.length ≤ c0_1) (hr0_2 : Kd.C k58 w A0_2 l0_2.length l0_2) (hc0_2 : l0_2.length ≤ c0_2) (h : proper_Check.f k l0_0 l0_1 l0_2 = some (r1, r2)) :
  Calls Try.prog 12 #[.agg #[.slice A0_0 l0_0.length c0_0, .slice A0_1 l0_1.length c0_1, .slice A0_2 l0_2.length c0_2]] w fun e w' => e = .returned (.tuple #[.int .i64 r1, .int .i64 r2]) ∧ Below w.heap.size w w' := by
 have hu26 := Try.underlying26
 have hu34 := Try.underlying34
 have HR0_0 := K1 hr0_0
 have HC0_0 := K1 hc0_0
 clear hr0_0 hc0_0
 have HR0_1 := K1 hr0_1
 have HC0_1 := K1 hc0_1
 clear hr0_1 hc0_1
 have HR0_2 := K1 hr0_2
 have HC0_2 := K1 hc0_2
 clear hr0_2 hc0_2
 have HB := K1 (Below.refl w.heap.size w)
 have H : (if (l0_0.length : Int) > 4096 then (proper_Check.j0 k true l0_0 l0_1 l0_2) else (if (l0_1.length : Int) > 256 then (proper_Check.j0 k true l0_0 l0_1 l0_2) else (proper_Check.j0 k (decide ((l0_2.length : Int) > 256)) l0_0 l0_1 l0_2))) = some (r1, r2) := h
 clear h
 have HC2 := K1 H
 clear H
 go_enter Try.func12, Try.ntmps12
 go_upto_region 1 with (first | ((with_reducible refine gate_dst (N := 1) rfl ?_); (try (refine gate_guard (by rfl) ?_; dsimp only)); refine bev (N := 1) (cs := #[.slice A0_0 l0_0.length c0_0, .slice A0_1 l0_1.length c0_1, .slice A0_2 l0_2.length c0_2]) (t := 26) (h := ?_); intro gb135 hg w3 hbox hb; have BK135 := K1 (hbox); have GW135 := K1 (mG : w.heap.size ≤ gb135); have GE135 := K1 (mG : w.heap.size ≤ gb135); replace HB := K1 (below_step mB hb); clear hb hbox hg))
 (try simp only [Act.put, List.setIfInBounds_toArray, List.set_cons_zero, List.set_cons_succ])
 go_cut [27] (fun v27 wc => ∃ (kq : Nat) (x27_1 : Bool), v27 = .bool x27_1 ∧ Aside0 (proper_Check.j0 kq x27_1 l0_0 l0_1 l0_2 = some (r1, r2)) ∧ Aside0 (kq ≤ k) ∧ Aside0 (wc.heap[gb135]? = some (.cells #[(.slice A0_0 l0_0.length c0_0), (.slice A0_1 l0_1.length c0_1), (.slice A0_2 l0_2.length c0_2)] 26 (0, 0))) ∧ Aside0 (Below w.heap.size w wc))
 case first =>
  have H := HC2.out
  clear HC2
  by_cases c4 : (l0_0.length : Int) > 4096
  ·rw [if_pos c4] at H
   have c4b0 : decide (4096 < (l0_0.length : Int)) = true := decide_eq_true c4
   have c4b1 : decide (4096 < l0_0.length) = true := decide_eq_true (by omega)
   clear c4
   (first | rw [c4b0] | (simp only [i64_w, i32_w]; rw [c4b0]) | skip)
   have H' := K1 H
   clear H
   obtain ⟨hcz5_0, hcz5_1, hcz5_2, hfz5_0, hfz5_1, hfz5_2⟩ := cf3 BK135
   go_wp2
   go_meet
   case rel => exact ⟨_, (true), (mF), H', ⟨by first | omega | exact Nat.le_refl _⟩, ⟨mU BK135.out⟩, ⟨mB⟩⟩
  ·rw [if_neg c4] at H
   have c4b0 : decide (4096 < (l0_0.length : Int)) = false := decide_eq_false c4
   have c4b1 : decide (4096 < l0_0.length) = false := decide_eq_false (by omega)
   clear c4
   (first | rw [c4b0] | (simp only [i64_w, i32_w]; rw [c4b0]) | skip)
   by_cases c6 : (l0_1.length : Int) > 256
   ·rw [if_pos c6] at H
    have c6b0 : decide (256 < (l0_1.length : Int)) = true := decide_eq_true c6
    have c6b1 : decide (256 < l0_1.length) = true := decide_eq_true (by omega)
    clear c6
    have H' := K1 H
    clear H
    obtain ⟨hcz7_0, hcz7_1, hcz7_2, hfz7_0, hfz7_1, hfz7_2⟩ := cf3 BK135
    go_wp2
    go_meet
    case rel => exact ⟨_, (true), (mF), H', ⟨by first | omega | exact Nat.le_refl _⟩, ⟨mU BK135.out⟩, ⟨mB⟩⟩
   ·rw [if_neg c6] at H
    have c6b0 : decide (256 < (l0_1.length : Int)) = false := decide_eq_false c6
    have c6b1 : decide (256 < l0_1.length) = false := decide_eq_false (by omega)
    clear c6
    have H' := K1 H
    clear H
    obtain ⟨hcz8_0, hcz8_1, hcz8_2, hfz8_0, hfz8_1, hfz8_2⟩ := cf3 BK135
    go_wp2
    go_meet
    case rel => exact ⟨_, (decide ((l0_2.length : Int) > 256)), (mF), H', ⟨by first | omega | exact Nat.le_refl _⟩, ⟨mU BK135.out⟩, ⟨mB⟩⟩
 case rest =>
  clear HC2
  obtain ⟨kq, x27_1, rfl, HA, HJ1, BK135, HB⟩ := hcut
  cases kq with
  | zero => exact absurd HA.out (by simp [proper_Check.j0])
  | succ kj1 =>
   have H := HA.out
   clear HA
   simp only [proper_Check.j0] at H
   by_cases c9 : x27_1 = true
   ·subst c9
    have H1 : (some (0, 2)) = some (r1, r2) := by rw [if_pos rfl] at H; exact H
    clear H
    have H := H1
    clear H1
    simp only [Option.some.injEq, Prod.mk.injEq] at H
    obtain ⟨rfl, rfl⟩ := H
    go_wp2
    go_ret2
    exact ⟨mE, mB⟩
   ·replace c9 := Bool.eq_false_iff.mpr c9
    subst c9
    have H1 : ((proper_functions.f kj1 l0_0 l0_1 l0_2).bind fun bt136 => (if bt136.2 = true then ((proper_tables.f l0_0 l0_1 l0_2).bind fun bt138 => (if bt138.2 = true then (proper_Check.l0 kj1 l0_1 (l0_1.length : Int) 0 l0_0 l0_1 l0_2) else (some (bt138.1, 83)))) else (some (bt136.1, 81)))) = some (r1, r2) := by rw [if_neg (show ¬ (false = true) by decide)] at H; exact H
    clear H
    have H := H1
    clear H1
    replace H := Option.bind_eq_some_iff.mp H
    obtain ⟨⟨t136, t137⟩, A100, H⟩ := H
    replace H : (if t137 = true then ((proper_tables.f l0_0 l0_1 l0_2).bind fun bt138 => (if bt138.2 = true then (proper_Check.l0 kj1 l0_1 (l0_1.length : Int) 0 l0_0 l0_1 l0_2) else (some (bt138.1, 83)))) else (some (t136, 81))) = some (r1, r2) := H
    have A10 := K1 A100
    clear A100
    by_cases c11 : t137 = true
    ·subst c11
     have H1 : ((proper_tables.f l0_0 l0_1 l0_2).bind fun bt138 => (if bt138.2 = true then (proper_Check.l0 kj1 l0_1 (l0_1.length : Int) 0 l0_0 l0_1 l0_2) else (some (bt138.1, 83)))) = some (r1, r2) := by rw [if_pos rfl] at H; exact H
     clear H
     have H := H1
     clear H1
     replace H := Option.bind_eq_some_iff.mp H
     obtain ⟨⟨t138, t139⟩, A120, H⟩ := H
     replace H : (if t139 = true then (proper_Check.l0 kj1 l0_1 (l0_1.length : Int) 0 l0_0 l0_1 l0_2) else (some (t138, 83))) = some (r1, r2) := H
     have A12 := K1 A120
     clear A120
     by_cases c13 : t139 = true
     ·subst c13
      have H1 : (proper_Check.l0 kj1 l0_1 (l0_1.length : Int) 0 l0_0 l0_1 l0_2) = some (r1, r2) := by rw [if_pos rfl] at H; exact H
      clear H
      have H := H1
      clear H1
      have H' := K1 H
      clear H
      obtain ⟨hcz14_0, hcz14_1, hcz14_2, hfz14_0, hfz14_1, hfz14_2⟩ := cf3 BK135
      go_wp2_with (first | ((with_reducible refine gate_callee (f := 28) rfl ?_); refine goesL_ (some 30) rfl rfl Try.func28 (by kernel_rfl) rfl #[.agg #[.slice A0_0 l0_0.length c0_0, .slice A0_1 l0_1.length c0_1, .slice A0_2 l0_2.length c0_2]] rfl mL ?_; (with_reducible refine (proper_functions.calls kj1 _ _ l0_0 _ _ l0_1 _ _ l0_2 t136 true _ ?side1 ?side2 ?side3 ?side4 ?side5 ?side6 A10.out).mono ?_); (case side1 => exact mC); (case side2 => exact HC0_0.out); (case side3 => exact mC); (case side4 => exact HC0_1.out); (case side5 => exact mC); (case side6 => exact HC0_2.out); rintro e w15 ⟨rfl, hb⟩; refine ⟨_, rfl, ?_⟩; replace BK135 := K1 (blk_below (mU BK135.out) hb); replace HB := K1 (below_step mB hb); (try clear hb); obtain ⟨hcz16_0, hcz16_1, hcz16_2, hfz16_0, hfz16_1, hfz16_2⟩ := cf3 BK135) | ((with_reducible refine gate_callee (f := 29) rfl ?_); refine goesL_ (some 38) rfl rfl Try.func29 (by kernel_rfl) rfl #[.agg #[.slice A0_0 l0_0.length c0_0, .slice A0_1 l0_1.length c0_1, .slice A0_2 l0_2.length c0_2]] rfl mL ?_; (with_reducible refine (proper_tables.calls _ _ l0_0 _ _ l0_1 _ _ l0_2 t138 true _ ?side1 ?side2 ?side3 ?side4 ?side5 ?side6 A12.out).mono ?_); (case side1 => exact mC); (case side2 => exact HC0_0.out); (case side3 => exact mC); (case side4 => exact HC0_1.out); (case side5 => exact mC); (case side6 => exact HC0_2.out); rintro e w17 ⟨rfl, hb⟩; refine ⟨_, rfl, ?_⟩; replace BK135 := K1 (blk_below (mU BK135.out) hb); replace HB := K1 (below_step mB hb); (try clear hb); obtain ⟨hcz18_0, hcz18_1, hcz18_2, hfz18_0, hfz18_1, hfz18_2⟩ := cf3 BK135))
      go_loopg [47] kj1 (fun kq v47 w' => ∃ (x47_2 : Int), v47 = .int .i64 x47_2 ∧ Aside0 (proper_Check.l0 kq l0_1 (l0_1.length : Int) x47_2 l0_0 l0_1 l0_2 = some (r1, r2)) ∧ Aside0 (kq ≤ kj1) ∧ Aside0 (w'.heap[gb135]? = some (.cells #[(.slice A0_0 l0_0.length c0_0), (.slice A0_1 l0_1.length c0_1), (.slice A0_2 l0_2.length c0_2)] 26 (0, 0))) ∧ Aside0 (Below w.heap.size w w'))
      case atStart => exact ⟨(0), (mF), H', ⟨Nat.le_refl _⟩, ⟨mU BK135.out⟩, ⟨mB⟩⟩
      case round =>
       clear H' hcz14_0 hcz14_1 hcz14_2 hcz16_0 hcz16_1 hcz16_2 hcz18_0 hcz18_1 hcz18_2 hfz14_0 hfz14_1 hfz14_2 hfz16_0 hfz16_1 hfz16_2 hfz18_0 hfz18_1 hfz18_2
       obtain ⟨x47_2, rfl, HA, HK2, BK135, HB⟩ := hrel
       cases gk with
       | zero => exact absurd HA.out (by simp [proper_Check.l0])
       | succ k2 =>
        have H := HA.out
        clear HA
        simp only [proper_Check.l0] at H
        by_cases c19 : x47_2 < (l0_1.length : Int)
        ·rw [if_pos c19] at H
         have c19b0 : decide (x47_2 < (l0_1.length : Int)) = true := decide_eq_true c19
         clear c19
         by_cases c20 : 0 ≤ x47_2
         ·rw [if_pos c20] at H
          have c20b0 : decide (0 ≤ x47_2) = true := decide_eq_true c20
          clear c20
          by_cases c21 : x47_2 < (l0_1.length : Int)
          ·rw [if_pos c21] at H
           have c21b0 : decide (x47_2 < (l0_1.length : Int)) = true := decide_eq_true c21
           clear c21
           have H' := K1 H
           clear H
           have p140 : 0 ≤ (x47_2 : Int) := of_decide_eq_true (mA)
           have q140 : x47_2 < (l0_1.length : Int) := of_decide_eq_true (mA)
           obtain ⟨ad140, e140, hx140_0, hx140_1⟩ := at_T34 HR0_1.out x47_2 p140 q140
           cases e140
           replace hx140_0 := (HB.out.cell (World.block_lt_of_cell? w _ hx140_0)).trans hx140_0
           replace hx140_1 := (HB.out.cell (World.block_lt_of_cell? w _ hx140_1)).trans hx140_1
           replace p140 := eq_true p140
           replace q140 := eq_true q140
           go_wp2_with (first | ((with_reducible refine gate_dst (N := 9) rfl ?_); (try (refine gate_guard (by rfl) ?_; dsimp only)); refine bev (N := 9) (cs := #[.int .i64 0, .int .i64 0]) (t := 34) (h := ?_); intro gb141 hg w22 hbox hb; have BK141 := K1 (hbox); have GW141 := K1 (mG : w.heap.size ≤ gb141); have GE141 := K1 (mG : w.heap.size ≤ gb141); have NB135_141 := K1 (nlt hg (mU BK135.out)); have NB141_135 := K1 (ngt hg (mU BK135.out)); replace BK135 := K1 (blk_below (mU BK135.out) hb); replace HB := K1 (below_step mB hb); clear hb hbox hg; have hnb23 := NB141_135.out; have hnc23 := NB135_141.out; obtain ⟨hcz24_0, hcz24_1, hfz24_0, hfz24_1⟩ := cf2 BK141))
           go_loopg [10] k2 (fun kq v10 w' => ∃ (x10_3 : Int), v10 = .int .i64 x10_3 ∧ Aside0 (proper_Check.l1 kq x10_3 l0_1 (l0_1.length : Int) x47_2 l0_0 l0_1 l0_2 ((rd_T34 l0_1 x47_2).f0) ((rd_T34 l0_1 x47_2).f1) = some (r1, r2)) ∧ Aside0 (kq ≤ k2) ∧ Aside0 (w'.heap[gb135]? = some (.cells #[(.slice A0_0 l0_0.length c0_0), (.slice (some ad140) l0_1.length c0_1), (.slice A0_2 l0_2.length c0_2)] 26 (0, 0))) ∧ Aside0 (w'.heap[gb141]? = some (.cells #[.int .i64 ((rd_T34 l0_1 x47_2).f0), .int .i64 ((rd_T34 l0_1 x47_2).f1)] 34 (0, 0))) ∧ Aside0 (Below w.heap.size w w'))
           case atStart => exact ⟨((rd_T34 l0_1 x47_2).f0), (mF), H', ⟨Nat.le_refl _⟩, ⟨by refine mU ?_; refine blk_far ?_ NB135_141.out _; refine mU ?_; refine blk_far ?_ NB135_141.out _; refine mU ?_; exact BK135.out⟩, ⟨by refine mU ?_; refine blk_put (cs := #[.int .i64 ((rd_T34 l0_1 x47_2).f0), .int .i64 0]) ?_ 1 _ rfl; refine mU ?_; refine blk_put (cs := #[.int .i64 0, .int .i64 0]) ?_ 0 _ rfl; refine mU ?_; exact BK141.out⟩, ⟨mB⟩⟩
           case round =>
            clear H' c19b0 c20b0 c21b0 hcz24_0 hcz24_1 hfz24_0 hfz24_1 hx140_0 hx140_1 p140 q140
            obtain ⟨x10_3, rfl, HA, HK3, BK135, BK141, HB⟩ := hrel
            cases gk with
            | zero => exact absurd HA.out (by simp [proper_Check.l1])
            | succ k3 =>
             have H := HA.out
             clear HA
             simp only [proper_Check.l1] at H
             by_cases c25 : x10_3 < ((rd_T34 l0_1 x47_2).f1)
             ·rw [if_pos c25] at H
              have c25b0 : decide (x10_3 < ((rd_T34 l0_1 x47_2).f1)) = true := decide_eq_true c25
              clear c25
              replace H := Option.bind_eq_some_iff.mp H
              obtain ⟨t142, A260, H⟩ := H
              replace H : (if t142 = 0 then (proper_Check.l1 k3 (wrap64 (x10_3 + 1)) l0_1 (l0_1.length : Int) x47_2 l0_0 l0_1 l0_2 ((rd_T34 l0_1 x47_2).f0) ((rd_T34 l0_1 x47_2).f1)) else (some (x10_3, t142))) = some (r1, r2) := H
              have A26 := K1 A260
              clear A260
              by_cases c27 : t142 = 0
              ·rw [if_pos c27] at H
               have c27b0 : (t142 == 0) = true := beq_iff_eq.mpr c27
               have c27b1 : (t142 != 0) = false := bne_eq_false_iff_eq.mpr c27
               clear c27
               have H' := K1 H
               clear H
               have hnb28 := NB141_135.out
               have hnc28 := NB135_141.out
               obtain ⟨hcz29_0, hcz29_1, hfz29_0, hfz29_1⟩ := cf2 BK141
               obtain ⟨hcz30_0, hcz30_1, hcz30_2, hfz30_0, hfz30_1, hfz30_2⟩ := cf3 BK135
               go_wp2_with (first | ((with_reducible refine gate_callee (f := 30) rfl ?_); refine goesL_ (some 62) rfl rfl Try.func30 (by kernel_rfl) rfl #[.agg #[.slice A0_0 l0_0.length c0_0, .slice (some ad140) l0_1.length c0_1, .slice A0_2 l0_2.length c0_2], .int .i64 x10_3, .agg #[.int .i64 ((rd_T34 l0_1 x47_2).f0), .int .i64 ((rd_T34 l0_1 x47_2).f1)]] rfl mL ?_; (with_reducible refine (proper_wrong.calls k3 _ _ l0_0 _ _ l0_1 _ _ l0_2 x10_3 ((rd_T34 l0_1 x47_2).f0) ((rd_T34 l0_1 x47_2).f1) t142 _ ?side1 ?side2 ?side3 ?side4 ?side5 ?side6 A26.out).mono ?_); (case side1 => exact mC); (case side2 => exact HC0_0.out); (case side3 => exact mC); (case side4 => exact HC0_1.out); (case side5 => exact mC); (case side6 => exact HC0_2.out); rintro e w31 ⟨rfl, hb⟩; refine ⟨_, rfl, ?_⟩; replace BK135 := K1 (blk_below (mU BK135.out) hb); replace BK141 := K1 (blk_below (mU BK141.out) hb); replace HB := K1 (below_step mB hb); (try clear hb)))
               go_roundg k3
               case measure => have := HJ1.out; have := HK2.out; have := HK3.out; omega
               case rel => exact ⟨(wrap64 (x10_3 + 1)), (mF), H', ⟨by have := HJ1.out; have := HK2.out; have := HK3.out; omega⟩, ⟨mU BK135.out⟩, ⟨mU BK141.out⟩, ⟨mB⟩⟩
              ·rw [if_neg c27] at H
               have c27b0 : (t142 == 0) = false := beq_eq_false_iff_ne.mpr c27
               have c27b1 : (t142 != 0) = true := bne_iff_ne.mpr c27
               simp only [Option.some.injEq, Prod.mk.injEq] at H
               obtain ⟨rfl, rfl⟩ := H
               have hnb32 := NB141_135.out
               have hnc32 := NB135_141.out
               obtain ⟨hcz33_0, hcz33_1, hfz33_0, hfz33_1⟩ := cf2 BK141
               obtain ⟨hcz34_0, hcz34_1, hcz34_2, hfz34_0, hfz34_1, hfz34_2⟩ := cf3 BK135
               go_wp2_with (first | ((with_reducible refine gate_callee (f := 30) rfl ?_); refine goesL_ (some 62) rfl rfl Try.func30 (by kernel_rfl) rfl #[.agg #[.slice A0_0 l0_0.length c0_0, .slice (some ad140) l0_1.length c0_1, .slice A0_2 l0_2.length c0_2], .int .i64 x10_3, .agg #[.int .i64 ((rd_T34 l0_1 x47_2).f0), .int .i64 ((rd_T34 l0_1 x47_2).f1)]] rfl mL ?_; (with_reducible refine (proper_wrong.calls k3 _ _ l0_0 _ _ l0_1 _ _ l0_2 x10_3 ((rd_T34 l0_1 x47_2).f0) ((rd_T34 l0_1 x47_2).f1) t142 _ ?side1 ?side2 ?side3 ?side4 ?side5 ?side6 A26.out).mono ?_); (case side1 => exact mC); (case side2 => exact HC0_0.out); (case side3 => exact mC); (case side4 => exact HC0_1.out); (case side5 => exact mC); (case side6 => exact HC0_2.out); rintro e w35 ⟨rfl, hb⟩; refine ⟨_, rfl, ?_⟩; replace BK135 := K1 (blk_below (mU BK135.out) hb); replace BK141 := K1 (blk_below (mU BK141.out) hb); replace HB := K1 (below_step mB hb); (try clear hb)))
               go_ret2
               exact ⟨mE, mB⟩
             ·rw [if_neg c25] at H
              have c25b0 : decide (x10_3 < ((rd_T34 l0_1 x47_2).f1)) = false := decide_eq_false c25
              clear c25
              have H' := K1 H
              clear H
              have hnb36 := NB141_135.out
              have hnc36 := NB135_141.out
              obtain ⟨hcz37_0, hcz37_1, hfz37_0, hfz37_1⟩ := cf2 BK141
              go_wp2
              go_roundg k3
              case measure => have := HJ1.out; have := HK2.out; have := HK3.out; omega
              case rel => exact ⟨(wrap64 (x47_2 + 1)), (mF), H', ⟨by have := HJ1.out; have := HK2.out; have := HK3.out; omega⟩, ⟨mU BK135.out⟩, ⟨mB⟩⟩
          ·rw [if_neg c21] at H
           exact absurd H (by simp)
         ·rw [if_neg c20] at H
          exact absurd H (by simp)
        ·rw [if_neg c19] at H
         have c19b0 : decide (x47_2 < (l0_1.length : Int)) = false := decide_eq_false c19
         clear c19
         simp only [Option.some.injEq, Prod.mk.injEq] at H
         obtain ⟨rfl, rfl⟩ := H
         go_wp2
         go_ret2
         exact ⟨mE, mB⟩
     ·replace c13 := Bool.eq_false_iff.mpr c13
      subst c13
      have H1 : (some (t138, 83)) = some (r1, r2) := by rw [if_neg (show ¬ (false = true) by decide)] at H; exact H
      clear H
      have H := H1
      clear H1
      simp only [Option.some.injEq, Prod.mk.injEq] at H
      obtain ⟨rfl, rfl⟩ := H
      obtain ⟨hcz38_0, hcz38_1, hcz38_2, hfz38_0, hfz38_1, hfz38_2⟩ := cf3 BK135
      go_wp2_with (first | ((with_reducible refine gate_callee (f := 28) rfl ?_); refine goesL_ (some 30) rfl rfl Try.func28 (by kernel_rfl) rfl #[.agg #[.slice A0_0 l0_0.length c0_0, .slice A0_1 l0_1.length c0_1, .slice A0_2 l0_2.length c0_2]] rfl mL ?_; (with_reducible refine (proper_functions.calls kj1 _ _ l0_0 _ _ l0_1 _ _ l0_2 t136 true _ ?side1 ?side2 ?side3 ?side4 ?side5 ?side6 A10.out).mono ?_); (case side1 => exact mC); (case side2 => exact HC0_0.out); (case side3 => exact mC); (case side4 => exact HC0_1.out); (case side5 => exact mC); (case side6 => exact HC0_2.out); rintro e w39 ⟨rfl, hb⟩; refine ⟨_, rfl, ?_⟩; replace BK135 := K1 (blk_below (mU BK135.out) hb); replace HB := K1 (below_step mB hb); (try clear hb); obtain ⟨hcz40_0, hcz40_1, hcz40_2, hfz40_0, hfz40_1, hfz40_2⟩ := cf3 BK135) | ((with_reducible refine gate_callee (f := 29) rfl ?_); refine goesL_ (some 38) rfl rfl Try.func29 (by kernel_rfl) rfl #[.agg #[.slice A0_0 l0_0.length c0_0, .slice A0_1 l0_1.length c0_1, .slice A0_2 l0_2.length c0_2]] rfl mL ?_; (with_reducible refine (proper_tables.calls _ _ l0_0 _ _ l0_1 _ _ l0_2 t138 false _ ?side1 ?side2 ?side3 ?side4 ?side5 ?side6 A12.out).mono ?_); (case side1 => exact mC); (case side2 => exact HC0_0.out); (case side3 => exact mC); (case side4 => exact HC0_1.out); (case side5 => exact mC); (case side6 => exact HC0_2.out); rintro e w41 ⟨rfl, hb⟩; refine ⟨_, rfl, ?_⟩; replace BK135 := K1 (blk_below (mU BK135.out) hb); replace HB := K1 (below_step mB hb); (try clear hb)))
      go_ret2
      exact ⟨mE, mB⟩
    ·replace c11 := Bool.eq_false_iff.mpr c11
     subst c11
     have H1 : (some (t136, 81)) = some (r1, r2) := by rw [if_neg (show ¬ (false = true) by decide)] at H; exact H
     clear H
     have H := H1
     clear H1
     simp only [Option.some.injEq, Prod.mk.injEq] at H
     obtain ⟨rfl, rfl⟩ := H
     obtain ⟨hcz42_0, hcz42_1, hcz42_2, hfz42_0, hfz42_1, hfz42_2⟩ := cf3 BK135
     go_wp2_with (first | ((with_reducible refine gate_callee (f := 28) rfl ?_); refine goesL_ (some 30) rfl rfl Try.func28 (by kernel_rfl) rfl #[.agg #[.slice A0_0 l0_0.length c0_0, .slice A0_1 l0_1.length c0_1, .slice A0_2 l0_2.length c0_2]] rfl mL ?_; (with_reducible refine (proper_functions.calls kj1 _ _ l0_0 _ _ l0_1 _ _ l0_2 t136 false _ ?side1 ?side2 ?side3 ?side4 ?side5 ?side6 A10.out).mono ?_); (case side1 => exact mC); (case side2 => exact HC0_0.out); (case side3 => exact mC); (case side4 => exact HC0_1.out); (case side5 => exact mC); (case side6 => exact HC0_2.out); rintro e w43 ⟨rfl, hb⟩; refine ⟨_, rfl, ?_⟩; replace BK135 := K1 (blk_below (mU BK135.out) hb); replace HB := K1 (below_step mB hb); (try clear hb)))
     go_ret2
     exact ⟨mE, mB⟩

end Go.Proofs.Ytdlikjfffdpmiaa.QProper

/- Printed: a function's machine side. Conditions: none. -/
import Derived.Test.YtdlikjfffdpmiaaQProperx0
import Derived.Test.YtdlikjfffdpmiaaQProperx12
import Derived.Test.YtdlikjfffdpmiaaQProperx14
import Derived.Test.YtdlikjfffdpmiaaQProperx21
namespace Go.Proofs.Ytdlikjfffdpmiaa.QProper
open Go.RowKit Go.Proofs.YtdlikjfffdpmiaaW.PrintWords Go.Proofs.YtdlikjfffdpmiaaW.PrintLast Go.Proofs.YtdlikjfffdpmiaaW.PrintMore
set_option linter.unusedVariables false
set_option linter.unusedSimpArgs false

/-! ### rotaref08_Check: function 13 -/
mutual
def rotaref08_Check.j0 : Nat → Bool → List Int → List (S34) → List (S58) → Option (Int × Int)
 | 0, _, _, _, _ => none
 | k + 1, x24, x187000, x187001, x187002 => if x24 = true then (some (0, 2)) else ((rotaref08_parts.f k x187000 x187001 x187002).bind fun t187 => (if t187 ≥ 0 then (some (t187, 81)) else (rotaref08_Check.l0 k 0 x187000 x187001 x187002)))
def rotaref08_Check.l0 : Nat → Int → List Int → List (S34) → List (S58) → Option (Int × Int)
 | 0, _, _, _, _ => none
 | k + 1, x5, x187000, x187001, x187002 => if x5 < (x187002.length : Int) then (if 0 ≤ x5 then ((rotaref08_table.f k ((rd_T58 x187002 x5).f0) ((rd_T58 x187002 x5).f1)).bind fun t189 => (if t189 = true then (rotaref08_Check.l0 k (wrap64 (x5 + 1)) x187000 x187001 x187002) else (some (x5, 83)))) else (none)) else (rotaref08_Check.l1 k 0 x187000 x187001 x187002)
def rotaref08_Check.l1 : Nat → Int → List Int → List (S34) → List (S58) → Option (Int × Int)
 | 0, _, _, _, _ => none
 | k + 1, x7, x187000, x187001, x187002 => if x7 < (x187000.length : Int) then ((rotaref08_wrong.f k x187000 x187001 x187002 x7).bind fun t190 => (if t190 = 0 then (rotaref08_Check.l1 k (wrap64 (x7 + 1)) x187000 x187001 x187002) else (some (x7, t190)))) else (some (0, 0))
end
def rotaref08_Check.f (k : Nat) (l0_0 : List Int) (l0_1 : List (S34)) (l0_2 : List (S58)) : Option (Int × Int) := if (l0_0.length : Int) > 4096 then (rotaref08_Check.j0 k true l0_0 l0_1 l0_2) else (if (l0_1.length : Int) > 256 then (rotaref08_Check.j0 k true l0_0 l0_1 l0_2) else (rotaref08_Check.j0 k (decide ((l0_2.length : Int) > 256)) l0_0 l0_1 l0_2))
theorem rotaref08_Check.mono_l : ∀ k, (∀ y0 y1 y2 y3, LeO (rotaref08_Check.j0 k y0 y1 y2 y3) (rotaref08_Check.j0 (k + 1) y0 y1 y2 y3)) ∧ (∀ y0 y1 y2 y3, LeO (rotaref08_Check.l0 k y0 y1 y2 y3) (rotaref08_Check.l0 (k + 1) y0 y1 y2 y3)) ∧ (∀ y0 y1 y2 y3, LeO (rotaref08_Check.l1 k y0 y1 y2 y3) (rotaref08_Check.l1 (k + 1) y0 y1 y2 y3))
 | 0 => ⟨fun _ _ _ _ r h => by simp [rotaref08_Check.j0] at h, fun _ _ _ _ r h => by simp [rotaref08_Check.l0] at h, fun _ _ _ _ r h => by simp [rotaref08_Check.l1] at h⟩
 | k + 1 => by
  obtain ⟨ih0, ih1, ih2⟩ := rotaref08_Check.mono_l k
  refine ⟨?_, ?_, ?_⟩
  ·intro y0 y1 y2 y3
   unfold rotaref08_Check.j0
   repeat' first
   | (with_reducible exact ih0 _ _ _ _)
   | (with_reducible exact ih1 _ _ _ _)
   | (with_reducible exact ih2 _ _ _ _)
   | (with_reducible exact rotaref08_parts.mono _ _ _ _)
   | (with_reducible exact rotaref08_table.mono _ _ _)
   | (with_reducible exact rotaref08_wrong.mono _ _ _ _ _)
   | (with_reducible exact LeO.refl _)
   | (with_reducible exact LeO.none _)
   | (with_reducible refine LeO.ite ?_ ?_)
   | (with_reducible refine LeO.bind ?_ (fun _ => ?_))
   | exact ih0 _ _ _ _
   | exact ih1 _ _ _ _
   | exact ih2 _ _ _ _
   | exact rotaref08_parts.mono _ _ _ _
   | exact rotaref08_table.mono _ _ _
   | exact rotaref08_wrong.mono _ _ _ _ _
   | exact LeO.none _
   | refine LeO.ite ?_ ?_
   | refine LeO.bind ?_ (fun _ => ?_)
  ·intro y0 y1 y2 y3
   unfold rotaref08_Check.l0
   repeat' first
   | (with_reducible exact ih0 _ _ _ _)
   | (with_reducible exact ih1 _ _ _ _)
   | (with_reducible exact ih2 _ _ _ _)
   | (with_reducible exact rotaref08_parts.mono _ _ _ _)
   | (with_reducible exact rotaref08_table.mono _ _ _)
   | (with_reducible exact rotaref08_wrong.mono _ _ _ _ _)
   | (with_reducible exact LeO.refl _)
   | (with_reducible exact LeO.none _)
   | (with_reducible refine LeO.ite ?_ ?_)
   | (with_reducible refine LeO.bind ?_ (fun _ => ?_))
   | exact ih0 _ _ _ _
   | exact ih1 _ _ _ _
   | exact ih2 _ _ _ _
   | exact rotaref08_parts.mono _ _ _ _
   | exact rotaref08_table.mono _ _ _
   | exact rotaref08_wrong.mono _ _ _ _ _
   | exact LeO.none _
   | refine LeO.ite ?_ ?_
   | refine LeO.bind ?_ (fun _ => ?_)
  ·intro y0 y1 y2 y3
   unfold rotaref08_Check.l1
   repeat' first
   | (with_reducible exact ih0 _ _ _ _)
   | (with_reducible exact ih1 _ _ _ _)
   | (with_reducible exact ih2 _ _ _ _)
   | (with_reducible exact rotaref08_parts.mono _ _ _ _)
   | (with_reducible exact rotaref08_table.mono _ _ _)
   | (with_reducible exact rotaref08_wrong.mono _ _ _ _ _)
   | (with_reducible exact LeO.refl _)
   | (with_reducible exact LeO.none _)
   | (with_reducible refine LeO.ite ?_ ?_)
   | (with_reducible refine LeO.bind ?_ (fun _ => ?_))
   | exact ih0 _ _ _ _
   | exact ih1 _ _ _ _
   | exact ih2 _ _ _ _
   | exact rotaref08_parts.mono _ _ _ _
   | exact rotaref08_table.mono _ _ _
   | exact rotaref08_wrong.mono _ _ _ _ _
   | exact LeO.none _
   | refine LeO.ite ?_ ?_
   | refine LeO.bind ?_ (fun _ => ?_)
theorem rotaref08_Check.mono : ∀ a0 a1 a2 k, LeO (rotaref08_Check.f k a0 a1 a2) (rotaref08_Check.f (k + 1) a0 a1 a2) := by
 intro a0 a1 a2 k
 obtain ⟨ih0, ih1, ih2⟩ := rotaref08_Check.mono_l k
 unfold rotaref08_Check.f
 repeat' first
   | (with_reducible exact ih0 _ _ _ _)
   | (with_reducible exact ih1 _ _ _ _)
   | (with_reducible exact ih2 _ _ _ _)
   | (with_reducible exact rotaref08_parts.mono _ _ _ _)
   | (with_reducible exact rotaref08_table.mono _ _ _)
   | (with_reducible exact rotaref08_wrong.mono _ _ _ _ _)
   | (with_reducible exact LeO.refl _)
   | (with_reducible exact LeO.none _)
   | (with_reducible refine LeO.ite ?_ ?_)
   | (with_reducible refine LeO.bind ?_ (fun _ => ?_))
   | exact ih0 _ _ _ _
   | exact ih1 _ _ _ _
   | exact ih2 _ _ _ _
   | exact rotaref08_parts.mono _ _ _ _
   | exact rotaref08_table.mono _ _ _
   | exact rotaref08_wrong.mono _ _ _ _ _
   | exact LeO.none _
   | refine LeO.ite ?_ ?_
   | refine LeO.bind ?_ (fun _ => ?_)
set_option maxHeartbeats 8000000 in
set_option maxRecDepth 100000 in
theorem rotaref08_Check.calls (k : Nat) (A0_0 : Option Addr) (c0_0 : Nat) (l0_0 : List Int) (A0_1 : Option Addr) (c0_1 : Nat) (l0_1 : List (S34)) (A0_2 : Option Addr) (c0_2 : Nat) (l0_2 : List (S58)) (r1 : Int) (r2 : Int) (w : World) (hr0_0 : Kd.C (Kd.int .u32) w A0_0 l0_0.length l0_0) (hc0_0 : l0_0.length ≤ c0_0) (hr0_1 : Kd.C k34 w A0_1 l0_1.length l0_1) (hc0_1 : l0_1.length ≤ c0_1) (hr0_2 : Kd.C k58 w A0_2 l0_2.length l0_2) (hc0_2 : l0_2.length ≤ c0_2) (h : rotaref08_Check.f k l0_0 l0_1 l0_2 = some (r1, r2)) :
  Calls Try.prog 13 #[.agg #[.slice A0_0 l0_0.length c0_0, .slice A0_1 l0_1.length c0_1, .slice A0_2 l0_2.length c0_2]] w fun e w' => e = .returned (.tuple #[.int .i64 r1, .int .i64 r2]) ∧ Below w.heap.size w w' := by
 have hu26 := Try.underlying26
 have hu58 := Try.underlying58
 have HR0_0 := K1 hr0_0
 have HC0_0 := K1 hc0_0
 clear hr0_0 hc0_0
 have HR0_1 := K1 hr0_1
 have HC0_1 := K1 hc0_1
 clear hr0_1 hc0_1
 have HR0_2 := K1 hr0_2
 have HC0_2 := K1 hc0_2
 clear hr0_2 hc0_2
 have HB := K1 (Below.refl w.heap.size w)
 have H : (if (l0_0.length : Int) > 4096 then (rotaref08_Check.j0 k true l0_0 l0_1 l0_2) else (if (l0_1.length : Int) > 256 then (rotaref08_Check.j0 k true l0_0 l0_1 l0_2) else (rotaref08_Check.j0 k (decide ((l0_2.length : Int) > 256)) l0_0 l0_1 l0_2))) = some (r1, r2) := h
 clear h
 have HC2 := K1 H
 clear H
 go_enter Try.func13, Try.ntmps13
 go_upto_region 1 with (first | ((with_reducible refine gate_dst (N := 1) rfl ?_); (try (refine gate_guard (by rfl) ?_; dsimp only)); refine bev (N := 1) (cs := #[.slice A0_0 l0_0.length c0_0, .slice A0_1 l0_1.length c0_1, .slice A0_2 l0_2.length c0_2]) (t := 26) (h := ?_); intro gb186 hg w3 hbox hb; have BK186 := K1 (hbox); have GW186 := K1 (mG : w.heap.size ≤ gb186); have GE186 := K1 (mG : w.heap.size ≤ gb186); replace HB := K1 (below_step mB hb); clear hb hbox hg))
 (try simp only [Act.put, List.setIfInBounds_toArray, List.set_cons_zero, List.set_cons_succ])
 go_cut [24] (fun v24 wc => ∃ (kq : Nat) (x24_1 : Bool), v24 = .bool x24_1 ∧ Aside0 (rotaref08_Check.j0 kq x24_1 l0_0 l0_1 l0_2 = some (r1, r2)) ∧ Aside0 (kq ≤ k) ∧ Aside0 (wc.heap[gb186]? = some (.cells #[(.slice A0_0 l0_0.length c0_0), (.slice A0_1 l0_1.length c0_1), (.slice A0_2 l0_2.length c0_2)] 26 (0, 0))) ∧ Aside0 (Below w.heap.size w wc))
 case first =>
  have H := HC2.out
  clear HC2
  by_cases c4 : (l0_0.length : Int) > 4096
  ·rw [if_pos c4] at H
   have c4b0 : decide (4096 < (l0_0.length : Int)) = true := decide_eq_true c4
   have c4b1 : decide (4096 < l0_0.length) = true := decide_eq_true (by omega)
   clear c4
   (first | rw [c4b0] | (simp only [i64_w, i32_w]; rw [c4b0]) | skip)
   have H' := K1 H
   clear H
   obtain ⟨hcz5_0, hcz5_1, hcz5_2, hfz5_0, hfz5_1, hfz5_2⟩ := cf3 BK186
   go_wp2
   go_meet
   case rel => exact ⟨_, (true), (mF), H', ⟨by first | omega | exact Nat.le_refl _⟩, ⟨mU BK186.out⟩, ⟨mB⟩⟩
  ·rw [if_neg c4] at H
   have c4b0 : decide (4096 < (l0_0.length : Int)) = false := decide_eq_false c4
   have c4b1 : decide (4096 < l0_0.length) = false := decide_eq_false (by omega)
   clear c4
   (first | rw [c4b0] | (simp only [i64_w, i32_w]; rw [c4b0]) | skip)
   by_cases c6 : (l0_1.length : Int) > 256
   ·rw [if_pos c6] at H
    have c6b0 : decide (256 < (l0_1.length : Int)) = true := decide_eq_true c6
    have c6b1 : decide (256 < l0_1.length) = true := decide_eq_true (by omega)
    clear c6
    have H' := K1 H
    clear H
    obtain ⟨hcz7_0, hcz7_1, hcz7_2, hfz7_0, hfz7_1, hfz7_2⟩ := cf3 BK186
    go_wp2
    go_meet
    case rel => exact ⟨_, (true), (mF), H', ⟨by first | omega | exact Nat.le_refl _⟩, ⟨mU BK186.out⟩, ⟨mB⟩⟩
   ·rw [if_neg c6] at H
    have c6b0 : decide (256 < (l0_1.length : Int)) = false := decide_eq_false c6
    have c6b1 : decide (256 < l0_1.length) = false := decide_eq_false (by omega)
    clear c6
    have H' := K1 H
    clear H
    obtain ⟨hcz8_0, hcz8_1, hcz8_2, hfz8_0, hfz8_1, hfz8_2⟩ := cf3 BK186
    go_wp2
    go_meet
    case rel => exact ⟨_, (decide ((l0_2.length : Int) > 256)), (mF), H', ⟨by first | omega | exact Nat.le_refl _⟩, ⟨mU BK186.out⟩, ⟨mB⟩⟩
 case rest =>
  clear HC2
  obtain ⟨kq, x24_1, rfl, HA, HJ1, BK186, HB⟩ := hcut
  cases kq with
  | zero => exact absurd HA.out (by simp [rotaref08_Check.j0])
  | succ kj1 =>
   have H := HA.out
   clear HA
   simp only [rotaref08_Check.j0] at H
   by_cases c9 : x24_1 = true
   ·subst c9
    have H1 : (some (0, 2)) = some (r1, r2) := by rw [if_pos rfl] at H; exact H
    clear H
    have H := H1
    clear H1
    simp only [Option.some.injEq, Prod.mk.injEq] at H
    obtain ⟨rfl, rfl⟩ := H
    go_wp2
    go_ret2
    exact ⟨mE, mB⟩
   ·replace c9 := Bool.eq_false_iff.mpr c9
    subst c9
    have H1 : ((rotaref08_parts.f kj1 l0_0 l0_1 l0_2).bind fun t187 => (if t187 ≥ 0 then (some (t187, 81)) else (rotaref08_Check.l0 kj1 0 l0_0 l0_1 l0_2))) = some (r1, r2) := by rw [if_neg (show ¬ (false = true) by decide)] at H; exact H
    clear H
    have H := H1
    clear H1
    replace H := Option.bind_eq_some_iff.mp H
    obtain ⟨t187, A100, H⟩ := H
    replace H : (if t187 ≥ 0 then (some (t187, 81)) else (rotaref08_Check.l0 kj1 0 l0_0 l0_1 l0_2)) = some (r1, r2) := H
    have A10 := K1 A100
    clear A100
    by_cases c11 : t187 ≥ 0
    ·rw [if_pos c11] at H
     have c11b0 : decide (0 ≤ t187) = true := decide_eq_true c11
     clear c11
     simp only [Option.some.injEq, Prod.mk.injEq] at H
     obtain ⟨rfl, rfl⟩ := H
     obtain ⟨hcz12_0, hcz12_1, hcz12_2, hfz12_0, hfz12_1, hfz12_2⟩ := cf3 BK186
     go_wp2_with (first | ((with_reducible refine gate_callee (f := 31) rfl ?_); refine goesL_ (some 26) rfl rfl Try.func31 (by kernel_rfl) rfl #[.agg #[.slice A0_0 l0_0.length c0_0, .slice A0_1 l0_1.length c0_1, .slice A0_2 l0_2.length c0_2]] rfl mL ?_; (with_reducible refine (rotaref08_parts.calls kj1 _ _ l0_0 _ _ l0_1 _ _ l0_2 t187 _ ?side1 ?side2 ?side3 ?side4 ?side5 ?side6 A10.out).mono ?_); (case side1 => exact mC); (case side2 => exact HC0_0.out); (case side3 => exact mC); (case side4 => exact HC0_1.out); (case side5 => exact mC); (case side6 => exact HC0_2.out); rintro e w13 ⟨rfl, hb⟩; refine ⟨_, rfl, ?_⟩; replace BK186 := K1 (blk_below (mU BK186.out) hb); replace HB := K1 (below_step mB hb); (try clear hb)))
     go_ret2
     exact ⟨mE, mB⟩
    ·rw [if_neg c11] at H
     have c11b0 : decide (0 ≤ t187) = false := decide_eq_false c11
     clear c11
     have H' := K1 H
     clear H
     obtain ⟨hcz14_0, hcz14_1, hcz14_2, hfz14_0, hfz14_1, hfz14_2⟩ := cf3 BK186
     go_wp2_with (first | ((with_reducible refine gate_callee (f := 31) rfl ?_); refine goesL_ (some 26) rfl rfl Try.func31 (by kernel_rfl) rfl #[.agg #[.slice A0_0 l0_0.length c0_0, .slice A0_1 l0_1.length c0_1, .slice A0_2 l0_2.length c0_2]] rfl mL ?_; (with_reducible refine (rotaref08_parts.calls kj1 _ _ l0_0 _ _ l0_1 _ _ l0_2 t187 _ ?side1 ?side2 ?side3 ?side4 ?side5 ?side6 A10.out).mono ?_); (case side1 => exact mC); (case side2 => exact HC0_0.out); (case side3 => exact mC); (case side4 => exact HC0_1.out); (case side5 => exact mC); (case side6 => exact HC0_2.out); rintro e w15 ⟨rfl, hb⟩; refine ⟨_, rfl, ?_⟩; replace BK186 := K1 (blk_below (mU BK186.out) hb); replace HB := K1 (below_step mB hb); (try clear hb)))
     go_loopg [5] kj1 (fun kq v5 w' => ∃ (x5_2 : Int), v5 = .int .i64 x5_2 ∧ Aside0 (rotaref08_Check.l0 kq x5_2 l0_0 l0_1 l0_2 = some (r1, r2)) ∧ Aside0 (kq ≤ kj1) ∧ Aside0 (w'.heap[gb186]? = some (.cells #[(.slice A0_0 l0_0.length c0_0), (.slice A0_1 l0_1.length c0_1), (.slice A0_2 l0_2.length c0_2)] 26 (0, 0))) ∧ Aside0 (Below w.heap.size w w'))
     case atStart => exact ⟨(0), (mF), H', ⟨Nat.le_refl _⟩, ⟨mU BK186.out⟩, ⟨mB⟩⟩
     case round =>
      clear H' c11b0 hcz14_0 hcz14_1 hcz14_2 hfz14_0 hfz14_1 hfz14_2
      obtain ⟨x5_2, rfl, HA, HK2, BK186, HB⟩ := hrel
      cases gk with
      | zero => exact absurd HA.out (by simp [rotaref08_Check.l0])
      | succ k2 =>
       have H := HA.out
       clear HA
       simp only [rotaref08_Check.l0] at H
       by_cases c16 : x5_2 < (l0_2.length : Int)
       ·rw [if_pos c16] at H
        have c16b0 : decide (x5_2 < (l0_2.length : Int)) = true := decide_eq_true c16
        clear c16
        by_cases c17 : 0 ≤ x5_2
        ·rw [if_pos c17] at H
         have c17b0 : decide (0 ≤ x5_2) = true := decide_eq_true c17
         clear c17
         replace H := Option.bind_eq_some_iff.mp H
         obtain ⟨t189, A180, H⟩ := H
         replace H : (if t189 = true then (rotaref08_Check.l0 k2 (wrap64 (x5_2 + 1)) l0_0 l0_1 l0_2) else (some (x5_2, 83))) = some (r1, r2) := H
         have A18 := K1 A180
         clear A180
         by_cases c19 : t189 = true
         ·subst c19
          have H1 : (rotaref08_Check.l0 k2 (wrap64 (x5_2 + 1)) l0_0 l0_1 l0_2) = some (r1, r2) := by rw [if_pos rfl] at H; exact H
          clear H
          have H := H1
          clear H1
          have H' := K1 H
          clear H
          obtain ⟨hcz20_0, hcz20_1, hcz20_2, hfz20_0, hfz20_1, hfz20_2⟩ := cf3 BK186
          have p188 : 0 ≤ (x5_2 : Int) := of_decide_eq_true (mA)
          have q188 : x5_2 < (l0_2.length : Int) := of_decide_eq_true (mA)
          obtain ⟨ad188, A188_0, c188_0, e188, hx188_0, hx188_1, hl188_0, hi188_0⟩ := at_T58 HR0_2.out x5_2 p188 q188
          cases e188
          replace hx188_0 := (HB.out.cell (World.block_lt_of_cell? w _ hx188_0)).trans hx188_0
          replace hx188_1 := (HB.out.cell (World.block_lt_of_cell? w _ hx188_1)).trans hx188_1
          have HR188_0 := K1 hi188_0
          have HC188_0 := K1 hl188_0
          clear hi188_0 hl188_0
          replace p188 := eq_true p188
          replace q188 := eq_true q188
          go_wp2_with (first | ((with_reducible refine gate_callee (f := 32) rfl ?_); refine goesL_ (some 42) rfl rfl Try.func32 (by kernel_rfl) rfl #[.agg #[.slice A188_0 ((rd_T58 l0_2 x5_2).f0).length c188_0, .bool ((rd_T58 l0_2 x5_2).f1)]] rfl mL ?_; (with_reducible refine (rotaref08_table.calls k2 _ _ ((rd_T58 l0_2 x5_2).f0) ((rd_T58 l0_2 x5_2).f1) true _ ?side1 ?side2 A18.out).mono ?_); (case side1 => exact mC); (case side2 => exact HC188_0.out); rintro e w21 ⟨rfl, hb⟩; refine ⟨_, rfl, ?_⟩; replace BK186 := K1 (blk_below (mU BK186.out) hb); replace HB := K1 (below_step mB hb); (try clear hb)))
          go_roundg k2
          case measure => have := HJ1.out; have := HK2.out; omega
          case rel => exact ⟨(wrap64 (x5_2 + 1)), (mF), H', ⟨by have := HJ1.out; have := HK2.out; omega⟩, ⟨mU BK186.out⟩, ⟨mB⟩⟩
         ·replace c19 := Bool.eq_false_iff.mpr c19
          subst c19
          have H1 : (some (x5_2, 83)) = some (r1, r2) := by rw [if_neg (show ¬ (false = true) by decide)] at H; exact H
          clear H
          have H := H1
          clear H1
          simp only [Option.some.injEq, Prod.mk.injEq] at H
          obtain ⟨rfl, rfl⟩ := H
          obtain ⟨hcz22_0, hcz22_1, hcz22_2, hfz22_0, hfz22_1, hfz22_2⟩ := cf3 BK186
          have p188 : 0 ≤ (x5_2 : Int) := of_decide_eq_true (mA)
          have q188 : x5_2 < (l0_2.length : Int) := of_decide_eq_true (mA)
          obtain ⟨ad188, A188_0, c188_0, e188, hx188_0, hx188_1, hl188_0, hi188_0⟩ := at_T58 HR0_2.out x5_2 p188 q188
          cases e188
          replace hx188_0 := (HB.out.cell (World.block_lt_of_cell? w _ hx188_0)).trans hx188_0
          replace hx188_1 := (HB.out.cell (World.block_lt_of_cell? w _ hx188_1)).trans hx188_1
          have HR188_0 := K1 hi188_0
          have HC188_0 := K1 hl188_0
          clear hi188_0 hl188_0
          replace p188 := eq_true p188
          replace q188 := eq_true q188
          go_wp2_with (first | ((with_reducible refine gate_callee (f := 32) rfl ?_); refine goesL_ (some 42) rfl rfl Try.func32 (by kernel_rfl) rfl #[.agg #[.slice A188_0 ((rd_T58 l0_2 x5_2).f0).length c188_0, .bool ((rd_T58 l0_2 x5_2).f1)]] rfl mL ?_; (with_reducible refine (rotaref08_table.calls k2 _ _ ((rd_T58 l0_2 x5_2).f0) ((rd_T58 l0_2 x5_2).f1) false _ ?side1 ?side2 A18.out).mono ?_); (case side1 => exact mC); (case side2 => exact HC188_0.out); rintro e w23 ⟨rfl, hb⟩; refine ⟨_, rfl, ?_⟩; replace BK186 := K1 (blk_below (mU BK186.out) hb); replace HB := K1 (below_step mB hb); (try clear hb)))
          go_ret2
          exact ⟨mE, mB⟩
        ·rw [if_neg c17] at H
         exact absurd H (by simp)
       ·rw [if_neg c16] at H
        have c16b0 : decide (x5_2 < (l0_2.length : Int)) = false := decide_eq_false c16
        clear c16
        have H' := K1 H
        clear H
        obtain ⟨hcz24_0, hcz24_1, hcz24_2, hfz24_0, hfz24_1, hfz24_2⟩ := cf3 BK186
        go_wp2
        go_loopg [7] k2 (fun kq v7 w' => ∃ (x7_3 : Int), v7 = .int .i64 x7_3 ∧ Aside0 (rotaref08_Check.l1 kq x7_3 l0_0 l0_1 l0_2 = some (r1, r2)) ∧ Aside0 (kq ≤ k2) ∧ Aside0 (w'.heap[gb186]? = some (.cells #[(.slice A0_0 l0_0.length c0_0), (.slice A0_1 l0_1.length c0_1), (.slice A0_2 l0_2.length c0_2)] 26 (0, 0))) ∧ Aside0 (Below w.heap.size w w'))
        case atStart => exact ⟨(0), (mF), H', ⟨Nat.le_refl _⟩, ⟨mU BK186.out⟩, ⟨mB⟩⟩
        case round =>
         clear H' c16b0 hcz24_0 hcz24_1 hcz24_2 hfz24_0 hfz24_1 hfz24_2
         obtain ⟨x7_3, rfl, HA, HK3, BK186, HB⟩ := hrel
         cases gk with
         | zero => exact absurd HA.out (by simp [rotaref08_Check.l1])
         | succ k3 =>
          have H := HA.out
          clear HA
          simp only [rotaref08_Check.l1] at H
          by_cases c25 : x7_3 < (l0_0.length : Int)
          ·rw [if_pos c25] at H
           have c25b0 : decide (x7_3 < (l0_0.length : Int)) = true := decide_eq_true c25
           clear c25
           replace H := Option.bind_eq_some_iff.mp H
           obtain ⟨t190, A260, H⟩ := H
           replace H : (if t190 = 0 then (rotaref08_Check.l1 k3 (wrap64 (x7_3 + 1)) l0_0 l0_1 l0_2) else (some (x7_3, t190))) = some (r1, r2) := H
           have A26 := K1 A260
           clear A260
           by_cases c27 : t190 = 0
           ·rw [if_pos c27] at H
            have c27b0 : (t190 == 0) = true := beq_iff_eq.mpr c27
            have c27b1 : (t190 != 0) = false := bne_eq_false_iff_eq.mpr c27
            clear c27
            have H' := K1 H
            clear H
            obtain ⟨hcz28_0, hcz28_1, hcz28_2, hfz28_0, hfz28_1, hfz28_2⟩ := cf3 BK186
            go_wp2_with (first | ((with_reducible refine gate_callee (f := 33) rfl ?_); refine goesL_ (some 55) rfl rfl Try.func33 (by kernel_rfl) rfl #[.agg #[.slice A0_0 l0_0.length c0_0, .slice A0_1 l0_1.length c0_1, .slice A0_2 l0_2.length c0_2], .int .i64 x7_3] rfl mL ?_; (with_reducible refine (rotaref08_wrong.calls k3 _ _ l0_0 _ _ l0_1 _ _ l0_2 x7_3 t190 _ ?side1 ?side2 ?side3 ?side4 ?side5 ?side6 A26.out).mono ?_); (case side1 => exact mC); (case side2 => exact HC0_0.out); (case side3 => exact mC); (case side4 => exact HC0_1.out); (case side5 => exact mC); (case side6 => exact HC0_2.out); rintro e w29 ⟨rfl, hb⟩; refine ⟨_, rfl, ?_⟩; replace BK186 := K1 (blk_below (mU BK186.out) hb); replace HB := K1 (below_step mB hb); (try clear hb)))
            go_roundg k3
            case measure => have := HJ1.out; have := HK2.out; have := HK3.out; omega
            case rel => exact ⟨(wrap64 (x7_3 + 1)), (mF), H', ⟨by have := HJ1.out; have := HK2.out; have := HK3.out; omega⟩, ⟨mU BK186.out⟩, ⟨mB⟩⟩
           ·rw [if_neg c27] at H
            have c27b0 : (t190 == 0) = false := beq_eq_false_iff_ne.mpr c27
            have c27b1 : (t190 != 0) = true := bne_iff_ne.mpr c27
            simp only [Option.some.injEq, Prod.mk.injEq] at H
            obtain ⟨rfl, rfl⟩ := H
            obtain ⟨hcz30_0, hcz30_1, hcz30_2, hfz30_0, hfz30_1, hfz30_2⟩ := cf3 BK186
            go_wp2_with (first | ((with_reducible refine gate_callee (f := 33) rfl ?_); refine goesL_ (some 55) rfl rfl Try.func33 (by kernel_rfl) rfl #[.agg #[.slice A0_0 l0_0.length c0_0, .slice A0_1 l0_1.length c0_1, .slice A0_2 l0_2.length c0_2], .int .i64 x7_3] rfl mL ?_; (with_reducible refine (rotaref08_wrong.calls k3 _ _ l0_0 _ _ l0_1 _ _ l0_2 x7_3 t190 _ ?side1 ?side2 ?side3 ?side4 ?side5 ?side6 A26.out).mono ?_); (case side1 => exact mC); (case side2 => exact HC0_0.out); (case side3 => exact mC); (case side4 => exact HC0_1.out); (case side5 => exact mC); (case side6 => exact HC0_2.out); rintro e w31 ⟨rfl, hb⟩; refine ⟨_, rfl, ?_⟩; replace BK186 := K1 (blk_below (mU BK186.out) hb); replace HB := K1 (below_step mB hb); (try clear hb)))
            go_ret2
            exact ⟨mE, mB⟩
          ·rw [if_neg c25] at H
           have c25b0 : decide (x7_3 < (l0_0.length : Int)) = false := decide_eq_false c25
           clear c25
           simp only [Option.some.injEq, Prod.mk.injEq] at H
           obtain ⟨rfl, rfl⟩ := H
           obtain ⟨hcz32_0, hcz32_1, hcz32_2, hfz32_0, hfz32_1, hfz32_2⟩ := cf3 BK186
           go_wp2
           go_ret2
           exact ⟨mE, mB⟩

end Go.Proofs.Ytdlikjfffdpmiaa.QProper

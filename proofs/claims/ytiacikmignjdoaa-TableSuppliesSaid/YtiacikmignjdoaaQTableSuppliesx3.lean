/- Written out by a program of this session over the translation: the machine's side of rota/rotalaw16.TableSupplies. Conditions: each theorem's own. -/
import Derived.Test.YtiacikmignjdoaaQTableSuppliesx0
import Derived.Test.YtiacikmignjdoaaQTableSuppliesx2
namespace Go.Proofs.Ytiacikmignjdoaa.QTableSupplies
open Go.RowKit Go.Proofs.YtiacikmignjdoaaW.PrintWords Go.Proofs.YtiacikmignjdoaaW.PrintLast Go.Proofs.YtiacikmignjdoaaW.PrintMore
attribute [local go_sem] max2_int min2_int max_two min_two max_three min_three max_four min_four   -- for this text's walks alone
set_option linter.unusedVariables false
set_option linter.unusedSimpArgs false

/-! ### rotaref16_Check: function 16 -/
mutual
def rotaref16_Check.j0 : Nat → Int → Bool → Int → List (List (S48)) → Option (Int × Int × Int)
  | 0, _, _, _, _ => none
  | k + 1, x1, x17, x164000, x164001 => if x17 = true then (some (0, 0, 1)) else (if x164000 < 1 then (rotaref16_Check.j1 k x1 true x164000 x164001) else (if x164000 > 65536 then (rotaref16_Check.j1 k x1 true x164000 x164001) else (if (x164001.length : Int) < 1 then (rotaref16_Check.j1 k x1 true x164000 x164001) else (rotaref16_Check.j1 k x1 (decide ((x164001.length : Int) > 64)) x164000 x164001))))
def rotaref16_Check.j1 : Nat → Int → Bool → Int → List (List (S48)) → Option (Int × Int × Int)
  | 0, _, _, _, _ => none
  | k + 1, x1, x37, x164000, x164001 => if x37 = true then (some (0, 0, 160)) else (rotaref16_Check.l0 k x1 0 x164000 x164001)
def rotaref16_Check.l0 : Nat → Int → Int → Int → List (List (S48)) → Option (Int × Int × Int)
  | 0, _, _, _, _ => none
  | k + 1, x1, x7, x164000, x164001 => if x7 < (x164001.length : Int) then (if 0 ≤ x7 then (if ((rd_L4 x164001 x7).length : Int) > 1024 then (some (x7, 0, 2)) else (rotaref16_Check.l1 k x1 x7 0 0 x164000 x164001)) else (none)) else (some (0, 0, 0))
def rotaref16_Check.l1 : Nat → Int → Int → Int → Int → Int → List (List (S48)) → Option (Int × Int × Int)
  | 0, _, _, _, _, _, _ => none
  | k + 1, x1, x7, x8, x9, x164000, x164001 => if 0 ≤ x7 then (if x7 < (x164001.length : Int) then (if x9 < ((rd_L4 x164001 x7).length : Int) then (if 0 ≤ x9 then ((rotaref16_window.f ((rd_T48 (rd_L4 x164001 x7) x9).f0) ((rd_T48 (rd_L4 x164001 x7) x9).f1.f0) ((rd_T48 (rd_L4 x164001 x7) x9).f1.f1) ((rd_T48 (rd_L4 x164001 x7) x9).f2) x164000).bind fun t169 => (if t169 = true then (if ((rd_T48 (rd_L4 x164001 x7) x9).f0) < 0 then (rotaref16_Check.j4 k x1 x7 x8 x9 true x164000 x164001 ((rd_T48 (rd_L4 x164001 x7) x9).f0) ((rd_T48 (rd_L4 x164001 x7) x9).f1.f0) ((rd_T48 (rd_L4 x164001 x7) x9).f1.f1) ((rd_T48 (rd_L4 x164001 x7) x9).f2)) else (rotaref16_Check.j4 k x1 x7 x8 x9 (decide (((rd_T48 (rd_L4 x164001 x7) x9).f0) ≥ x1)) x164000 x164001 ((rd_T48 (rd_L4 x164001 x7) x9).f0) ((rd_T48 (rd_L4 x164001 x7) x9).f1.f0) ((rd_T48 (rd_L4 x164001 x7) x9).f1.f1) ((rd_T48 (rd_L4 x164001 x7) x9).f2))) else (some (x7, x9, 161)))) else (none)) else (rotaref16_Check.l0 k x1 (wrap64 (x7 + 1)) x164000 x164001)) else (none)) else (none)
def rotaref16_Check.j4 : Nat → Int → Int → Int → Int → Bool → Int → List (List (S48)) → Int → Int → Int → Int → Option (Int × Int × Int)
  | 0, _, _, _, _, _, _, _, _, _, _, _ => none
  | k + 1, x1, x7, x8, x9, x80, x164000, x164001, x169000, x169001, x169002, x169003 => if x80 = true then (some (x7, x9, 162)) else (if x169001 < x8 then (some (x7, x9, 163)) else (rotaref16_Check.l1 k x1 x7 (IntKind.u64.wrap (x169001 + x169002)) (wrap64 (x9 + 1)) x164000 x164001))
end
def rotaref16_Check.f (k : Nat) (a0_0 : Int) (l0_1 : List (List (S48))) (a1 : Int) : Option (Int × Int × Int) := if a1 < 1 then (rotaref16_Check.j0 k a1 true a0_0 l0_1) else (rotaref16_Check.j0 k a1 (decide (a1 > 16)) a0_0 l0_1)
theorem rotaref16_Check.mono_l : ∀ k, (∀ y0 y1 y2 y3, LeO (rotaref16_Check.j0 k y0 y1 y2 y3) (rotaref16_Check.j0 (k + 1) y0 y1 y2 y3)) ∧ (∀ y0 y1 y2 y3, LeO (rotaref16_Check.j1 k y0 y1 y2 y3) (rotaref16_Check.j1 (k + 1) y0 y1 y2 y3)) ∧ (∀ y0 y1 y2 y3, LeO (rotaref16_Check.l0 k y0 y1 y2 y3) (rotaref16_Check.l0 (k + 1) y0 y1 y2 y3)) ∧ (∀ y0 y1 y2 y3 y4 y5, LeO (rotaref16_Check.l1 k y0 y1 y2 y3 y4 y5) (rotaref16_Check.l1 (k + 1) y0 y1 y2 y3 y4 y5)) ∧ (∀ y0 y1 y2 y3 y4 y5 y6 y7 y8 y9 y10, LeO (rotaref16_Check.j4 k y0 y1 y2 y3 y4 y5 y6 y7 y8 y9 y10) (rotaref16_Check.j4 (k + 1) y0 y1 y2 y3 y4 y5 y6 y7 y8 y9 y10))
  | 0 => ⟨fun _ _ _ _ r h => by simp [rotaref16_Check.j0] at h, fun _ _ _ _ r h => by simp [rotaref16_Check.j1] at h, fun _ _ _ _ r h => by simp [rotaref16_Check.l0] at h, fun _ _ _ _ _ _ r h => by simp [rotaref16_Check.l1] at h, fun _ _ _ _ _ _ _ _ _ _ _ r h => by simp [rotaref16_Check.j4] at h⟩
  | k + 1 => by
    obtain ⟨ih0, ih1, ih2, ih3, ih4⟩ := rotaref16_Check.mono_l k
    refine ⟨?_, ?_, ?_, ?_, ?_⟩
    · intro y0 y1 y2 y3
      unfold rotaref16_Check.j0
      repeat' first
      | (with_reducible exact ih0 _ _ _ _)
      | (with_reducible exact ih1 _ _ _ _)
      | (with_reducible exact ih2 _ _ _ _)
      | (with_reducible exact ih3 _ _ _ _ _ _)
      | (with_reducible exact ih4 _ _ _ _ _ _ _ _ _ _ _)
      | (with_reducible exact LeO.refl _)
      | (with_reducible exact LeO.none _)
      | (with_reducible refine LeO.ite ?_ ?_)
      | (with_reducible refine LeO.bind ?_ (fun _ => ?_))
      | exact ih0 _ _ _ _
      | exact ih1 _ _ _ _
      | exact ih2 _ _ _ _
      | exact ih3 _ _ _ _ _ _
      | exact ih4 _ _ _ _ _ _ _ _ _ _ _
      | exact LeO.none _
      | refine LeO.ite ?_ ?_
      | refine LeO.bind ?_ (fun _ => ?_)
    · intro y0 y1 y2 y3
      unfold rotaref16_Check.j1
      repeat' first
      | (with_reducible exact ih0 _ _ _ _)
      | (with_reducible exact ih1 _ _ _ _)
      | (with_reducible exact ih2 _ _ _ _)
      | (with_reducible exact ih3 _ _ _ _ _ _)
      | (with_reducible exact ih4 _ _ _ _ _ _ _ _ _ _ _)
      | (with_reducible exact LeO.refl _)
      | (with_reducible exact LeO.none _)
      | (with_reducible refine LeO.ite ?_ ?_)
      | (with_reducible refine LeO.bind ?_ (fun _ => ?_))
      | exact ih0 _ _ _ _
      | exact ih1 _ _ _ _
      | exact ih2 _ _ _ _
      | exact ih3 _ _ _ _ _ _
      | exact ih4 _ _ _ _ _ _ _ _ _ _ _
      | exact LeO.none _
      | refine LeO.ite ?_ ?_
      | refine LeO.bind ?_ (fun _ => ?_)
    · intro y0 y1 y2 y3
      unfold rotaref16_Check.l0
      repeat' first
      | (with_reducible exact ih0 _ _ _ _)
      | (with_reducible exact ih1 _ _ _ _)
      | (with_reducible exact ih2 _ _ _ _)
      | (with_reducible exact ih3 _ _ _ _ _ _)
      | (with_reducible exact ih4 _ _ _ _ _ _ _ _ _ _ _)
      | (with_reducible exact LeO.refl _)
      | (with_reducible exact LeO.none _)
      | (with_reducible refine LeO.ite ?_ ?_)
      | (with_reducible refine LeO.bind ?_ (fun _ => ?_))
      | exact ih0 _ _ _ _
      | exact ih1 _ _ _ _
      | exact ih2 _ _ _ _
      | exact ih3 _ _ _ _ _ _
      | exact ih4 _ _ _ _ _ _ _ _ _ _ _
      | exact LeO.none _
      | refine LeO.ite ?_ ?_
      | refine LeO.bind ?_ (fun _ => ?_)
    · intro y0 y1 y2 y3 y4 y5
      unfold rotaref16_Check.l1
      repeat' first
      | (with_reducible exact ih0 _ _ _ _)
      | (with_reducible exact ih1 _ _ _ _)
      | (with_reducible exact ih2 _ _ _ _)
      | (with_reducible exact ih3 _ _ _ _ _ _)
      | (with_reducible exact ih4 _ _ _ _ _ _ _ _ _ _ _)
      | (with_reducible exact LeO.refl _)
      | (with_reducible exact LeO.none _)
      | (with_reducible refine LeO.ite ?_ ?_)
      | (with_reducible refine LeO.bind ?_ (fun _ => ?_))
      | exact ih0 _ _ _ _
      | exact ih1 _ _ _ _
      | exact ih2 _ _ _ _
      | exact ih3 _ _ _ _ _ _
      | exact ih4 _ _ _ _ _ _ _ _ _ _ _
      | exact LeO.none _
      | refine LeO.ite ?_ ?_
      | refine LeO.bind ?_ (fun _ => ?_)
    · intro y0 y1 y2 y3 y4 y5 y6 y7 y8 y9 y10
      unfold rotaref16_Check.j4
      repeat' first
      | (with_reducible exact ih0 _ _ _ _)
      | (with_reducible exact ih1 _ _ _ _)
      | (with_reducible exact ih2 _ _ _ _)
      | (with_reducible exact ih3 _ _ _ _ _ _)
      | (with_reducible exact ih4 _ _ _ _ _ _ _ _ _ _ _)
      | (with_reducible exact LeO.refl _)
      | (with_reducible exact LeO.none _)
      | (with_reducible refine LeO.ite ?_ ?_)
      | (with_reducible refine LeO.bind ?_ (fun _ => ?_))
      | exact ih0 _ _ _ _
      | exact ih1 _ _ _ _
      | exact ih2 _ _ _ _
      | exact ih3 _ _ _ _ _ _
      | exact ih4 _ _ _ _ _ _ _ _ _ _ _
      | exact LeO.none _
      | refine LeO.ite ?_ ?_
      | refine LeO.bind ?_ (fun _ => ?_)
theorem rotaref16_Check.mono : ∀ a0 a1 a2 k, LeO (rotaref16_Check.f k a0 a1 a2) (rotaref16_Check.f (k + 1) a0 a1 a2) := by
  intro a0 a1 a2 k
  obtain ⟨ih0, ih1, ih2, ih3, ih4⟩ := rotaref16_Check.mono_l k
  unfold rotaref16_Check.f
  repeat' first
      | (with_reducible exact ih0 _ _ _ _)
      | (with_reducible exact ih1 _ _ _ _)
      | (with_reducible exact ih2 _ _ _ _)
      | (with_reducible exact ih3 _ _ _ _ _ _)
      | (with_reducible exact ih4 _ _ _ _ _ _ _ _ _ _ _)
      | (with_reducible exact LeO.refl _)
      | (with_reducible exact LeO.none _)
      | (with_reducible refine LeO.ite ?_ ?_)
      | (with_reducible refine LeO.bind ?_ (fun _ => ?_))
      | exact ih0 _ _ _ _
      | exact ih1 _ _ _ _
      | exact ih2 _ _ _ _
      | exact ih3 _ _ _ _ _ _
      | exact ih4 _ _ _ _ _ _ _ _ _ _ _
      | exact LeO.none _
      | refine LeO.ite ?_ ?_
      | refine LeO.bind ?_ (fun _ => ?_)
set_option maxHeartbeats 8000000 in
set_option maxRecDepth 100000 in
theorem rotaref16_Check.calls (k : Nat) (a0_0 : Int) (A0_1 : Option Addr) (c0_1 : Nat) (l0_1 : List (List (S48))) (a1 : Int) (r1 : Int) (r2 : Int) (r3 : Int) (w : World) (hr0_1 : Kd.C (Kd.slice 48 k48) w A0_1 l0_1.length l0_1) (hc0_1 : l0_1.length ≤ c0_1) (h : rotaref16_Check.f k a0_0 l0_1 a1 = some (r1, r2, r3)) :
    Calls Try.prog 16 #[.agg #[.int .u64 a0_0, .slice A0_1 l0_1.length c0_1], .int .i64 a1] w fun e w' => e = .returned (.tuple #[.int .i64 r1, .int .i64 r2, .int .i64 r3]) ∧ Below w.heap.size w w' := by
  have hu25 := Try.underlying25
  have hu48 := Try.underlying48
  have HR0_1 := Aside0.mk hr0_1
  have HC0_1 := Aside0.mk hc0_1
  clear hr0_1 hc0_1
  have HB := Aside0.mk (Below.refl w.heap.size w)
  have H : (if a1 < 1 then (rotaref16_Check.j0 k a1 true a0_0 l0_1) else (rotaref16_Check.j0 k a1 (decide (a1 > 16)) a0_0 l0_1)) = some (r1, r2, r3) := h
  clear h
  have HC3 := Aside0.mk H
  clear H
  go_enter Try.func16, Try.ntmps16
  go_upto_region 1 with (first | ((with_reducible refine gate_dst (N := 2) rfl ?_); (try (refine gate_guard (by rfl) ?_; dsimp only)); refine box_event ?hg (N := 2) ?hd (cs := #[.int .u64 a0_0, .slice A0_1 l0_1.length c0_1]) (t := 25) ?hr ?_; (case hd => rfl); (case hg => rfl); (case hr => first | (go_simp; done) | (go_simp; rfl)); intro gb163 hg w4 hbox hb; have n0_ := Aside0.mk (below_step (by repeat (first | (with_reducible first | exact HB.out | apply below_alloc | apply pw_below_drewN | apply below_drew1) | exact HB.out)) hb); have n1_ := Aside0.mk (hbox); have n2_ := Aside0.mk ((by rw [hg]; exact (below_size (by repeat (first | (with_reducible first | exact HB.out | apply below_alloc | apply pw_below_drewN | apply below_drew1) | exact HB.out))) : w.heap.size ≤ gb163)); have n3_ := Aside0.mk ((by rw [hg]; exact (below_size (by repeat (first | (with_reducible first | exact HB.out | apply below_alloc | apply pw_below_drewN | apply below_drew1) | exact HB.out))) : w.heap.size ≤ gb163)); clear HB; have HB := n0_; have BK163 := n1_; have GW163 := n2_; have GE163 := n3_; clear n0_ n1_ n2_ n3_; clear hb hbox hg))
  (try simp only [Act.put, List.setIfInBounds_toArray, List.set_cons_zero, List.set_cons_succ])
  go_cut [17] (fun v17 wc => ∃ (kq : Nat) (x17_2 : Bool), v17 = .bool x17_2 ∧ Aside0 (rotaref16_Check.j0 kq a1 x17_2 a0_0 l0_1 = some (r1, r2, r3)) ∧ Aside0 (kq ≤ k) ∧ Aside0 (wc.heap[gb163]? = some (.cells #[.int .u64 a0_0, (.slice A0_1 l0_1.length c0_1)] 25 (0, 0))) ∧ Aside0 (Below w.heap.size w wc))
  case first =>
    have H := HC3.out
    clear HC3
    by_cases c5 : a1 < 1
    · rw [if_pos c5] at H
      have c5b0 : decide (a1 < 1) = true := decide_eq_true c5
      clear c5
      (first | rw [c5b0] | (simp only [i64_w, i32_w]; rw [c5b0]) | skip)
      have H' := Aside0.mk H
      clear H
      go_wp2
      go_meet
      case rel => exact ⟨_, (true), (by first | rfl | (simp; done) | (simp [*]; done)), H', ⟨by first | omega | exact Nat.le_refl _⟩, ⟨by (with_reducible repeat (first | refine blk_drewN ?_ _ | refine blk_drew ?_ | refine blk_alloc ?_ _)); exact BK163.out⟩, ⟨by repeat (first | (with_reducible first | exact HB.out | apply below_alloc | apply pw_below_drewN | apply below_drew1 | refine below_set ?_ GE163.out) | exact HB.out)⟩⟩
    · rw [if_neg c5] at H
      have c5b0 : decide (a1 < 1) = false := decide_eq_false c5
      clear c5
      (first | rw [c5b0] | (simp only [i64_w, i32_w]; rw [c5b0]) | skip)
      have H' := Aside0.mk H
      clear H
      go_wp2
      go_meet
      case rel => exact ⟨_, (decide (a1 > 16)), (by first | rfl | (simp; done) | (simp [*]; done)), H', ⟨by first | omega | exact Nat.le_refl _⟩, ⟨by (with_reducible repeat (first | refine blk_drewN ?_ _ | refine blk_drew ?_ | refine blk_alloc ?_ _)); exact BK163.out⟩, ⟨by repeat (first | (with_reducible first | exact HB.out | apply below_alloc | apply pw_below_drewN | apply below_drew1 | refine below_set ?_ GE163.out) | exact HB.out)⟩⟩
  case rest =>
    clear HC3
    try clear c1
    try clear p2
    try clear c5
    try clear c5b0
    obtain ⟨kq, x17_2, rfl, HA, HJ2, BK163, HB⟩ := hcut
    cases kq with
    | zero => exact absurd HA.out (by simp [rotaref16_Check.j0])
    | succ kj2 =>
      have H := HA.out
      clear HA
      simp only [rotaref16_Check.j0] at H
      by_cases c6 : x17_2 = true
      · subst c6
        have H1 : (some (0, 0, 1)) = some (r1, r2, r3) := by rw [if_pos rfl] at H; exact H
        clear H
        have H := H1
        clear H1
        simp only [Option.some.injEq, Prod.mk.injEq] at H
        obtain ⟨rfl, rfl, rfl⟩ := H
        go_wp2
        go_ret3
        exact ⟨by first | rfl | (simp [errW_none, errW_some] <;> rfl) | (simp [*, errW_none, errW_some] <;> rfl), by repeat (first | (with_reducible first | exact HB.out | apply below_alloc | apply pw_below_drewN | apply below_drew1 | refine below_set ?_ GE163.out) | exact HB.out)⟩
      · replace c6 := Bool.eq_false_iff.mpr c6
        subst c6
        have H1 : (if a0_0 < 1 then (rotaref16_Check.j1 kj2 a1 true a0_0 l0_1) else (if a0_0 > 65536 then (rotaref16_Check.j1 kj2 a1 true a0_0 l0_1) else (if (l0_1.length : Int) < 1 then (rotaref16_Check.j1 kj2 a1 true a0_0 l0_1) else (rotaref16_Check.j1 kj2 a1 (decide ((l0_1.length : Int) > 64)) a0_0 l0_1)))) = some (r1, r2, r3) := by rw [if_neg (show ¬ (false = true) by decide)] at H; exact H
        clear H
        have H := H1
        clear H1
        have HC7 := Aside0.mk H
        clear H
        go_upto_region 3 with (fail)
        go_cut [37] (fun v37 wc => ∃ (kq : Nat) (x37_6 : Bool), v37 = .bool x37_6 ∧ Aside0 (rotaref16_Check.j1 kq a1 x37_6 a0_0 l0_1 = some (r1, r2, r3)) ∧ Aside0 (kq ≤ kj2) ∧ Aside0 (wc.heap[gb163]? = some (.cells #[.int .u64 a0_0, (.slice A0_1 l0_1.length c0_1)] 25 (0, 0))) ∧ Aside0 (Below w.heap.size w wc))
        case first =>
          have H := HC7.out
          clear HC7
          by_cases c8 : a0_0 < 1
          · rw [if_pos c8] at H
            have c8b0 : decide (a0_0 < 1) = true := decide_eq_true c8
            clear c8
            (first | rw [c8b0] | (simp only [i64_w, i32_w]; rw [c8b0]) | skip)
            have H' := Aside0.mk H
            clear H
            have hcz9_0 : wc.cell? ⟨gb163, 0, none⟩ = some (.int .u64 a0_0) := (blk_cell BK163.out 0).trans rfl
            have hcz9_1 : wc.cell? ⟨gb163, 1, none⟩ = some (.slice A0_1 l0_1.length c0_1) := (blk_cell BK163.out 1).trans rfl
            have hfz9_0 := blk_frozen BK163.out 0
            have hfz9_1 := blk_frozen BK163.out 1
            go_wp2
            go_meet
            case rel => exact ⟨_, (true), (by first | rfl | (simp; done) | (simp [*]; done)), H', ⟨by have := HJ2.out; first | omega | exact Nat.le_refl _⟩, ⟨by (with_reducible repeat (first | refine blk_drewN ?_ _ | refine blk_drew ?_ | refine blk_alloc ?_ _)); exact BK163.out⟩, ⟨by repeat (first | (with_reducible first | exact HB.out | apply below_alloc | apply pw_below_drewN | apply below_drew1 | refine below_set ?_ GE163.out) | exact HB.out)⟩⟩
          · rw [if_neg c8] at H
            have c8b0 : decide (a0_0 < 1) = false := decide_eq_false c8
            clear c8
            (first | rw [c8b0] | (simp only [i64_w, i32_w]; rw [c8b0]) | skip)
            by_cases c10 : a0_0 > 65536
            · rw [if_pos c10] at H
              have c10b0 : decide (65536 < a0_0) = true := decide_eq_true c10
              clear c10
              have H' := Aside0.mk H
              clear H
              have hcz11_0 : wc.cell? ⟨gb163, 0, none⟩ = some (.int .u64 a0_0) := (blk_cell BK163.out 0).trans rfl
              have hcz11_1 : wc.cell? ⟨gb163, 1, none⟩ = some (.slice A0_1 l0_1.length c0_1) := (blk_cell BK163.out 1).trans rfl
              have hfz11_0 := blk_frozen BK163.out 0
              have hfz11_1 := blk_frozen BK163.out 1
              go_wp2
              go_meet
              case rel => exact ⟨_, (true), (by first | rfl | (simp; done) | (simp [*]; done)), H', ⟨by have := HJ2.out; first | omega | exact Nat.le_refl _⟩, ⟨by (with_reducible repeat (first | refine blk_drewN ?_ _ | refine blk_drew ?_ | refine blk_alloc ?_ _)); exact BK163.out⟩, ⟨by repeat (first | (with_reducible first | exact HB.out | apply below_alloc | apply pw_below_drewN | apply below_drew1 | refine below_set ?_ GE163.out) | exact HB.out)⟩⟩
            · rw [if_neg c10] at H
              have c10b0 : decide (65536 < a0_0) = false := decide_eq_false c10
              clear c10
              by_cases c12 : (l0_1.length : Int) < 1
              · rw [if_pos c12] at H
                have c12b0 : decide ((l0_1.length : Int) < 1) = true := decide_eq_true c12
                have c12b1 : decide (l0_1.length < 1) = true := decide_eq_true (by omega)
                clear c12
                have H' := Aside0.mk H
                clear H
                have hcz13_0 : wc.cell? ⟨gb163, 0, none⟩ = some (.int .u64 a0_0) := (blk_cell BK163.out 0).trans rfl
                have hcz13_1 : wc.cell? ⟨gb163, 1, none⟩ = some (.slice A0_1 l0_1.length c0_1) := (blk_cell BK163.out 1).trans rfl
                have hfz13_0 := blk_frozen BK163.out 0
                have hfz13_1 := blk_frozen BK163.out 1
                go_wp2
                go_meet
                case rel => exact ⟨_, (true), (by first | rfl | (simp; done) | (simp [*]; done)), H', ⟨by have := HJ2.out; first | omega | exact Nat.le_refl _⟩, ⟨by (with_reducible repeat (first | refine blk_drewN ?_ _ | refine blk_drew ?_ | refine blk_alloc ?_ _)); exact BK163.out⟩, ⟨by repeat (first | (with_reducible first | exact HB.out | apply below_alloc | apply pw_below_drewN | apply below_drew1 | refine below_set ?_ GE163.out) | exact HB.out)⟩⟩
              · rw [if_neg c12] at H
                have c12b0 : decide ((l0_1.length : Int) < 1) = false := decide_eq_false c12
                have c12b1 : decide (l0_1.length < 1) = false := decide_eq_false (by omega)
                clear c12
                have H' := Aside0.mk H
                clear H
                have hcz14_0 : wc.cell? ⟨gb163, 0, none⟩ = some (.int .u64 a0_0) := (blk_cell BK163.out 0).trans rfl
                have hcz14_1 : wc.cell? ⟨gb163, 1, none⟩ = some (.slice A0_1 l0_1.length c0_1) := (blk_cell BK163.out 1).trans rfl
                have hfz14_0 := blk_frozen BK163.out 0
                have hfz14_1 := blk_frozen BK163.out 1
                go_wp2
                go_meet
                case rel => exact ⟨_, (decide ((l0_1.length : Int) > 64)), (by first | rfl | (simp; done) | (simp [*]; done)), H', ⟨by have := HJ2.out; first | omega | exact Nat.le_refl _⟩, ⟨by (with_reducible repeat (first | refine blk_drewN ?_ _ | refine blk_drew ?_ | refine blk_alloc ?_ _)); exact BK163.out⟩, ⟨by repeat (first | (with_reducible first | exact HB.out | apply below_alloc | apply pw_below_drewN | apply below_drew1 | refine below_set ?_ GE163.out) | exact HB.out)⟩⟩
        case rest =>
          clear HC7
          try clear c1
          try clear p2
          try clear c5
          try clear c5b0
          try clear c6
          try clear c8
          try clear c8b0
          try clear c10
          try clear c10b0
          try clear c12
          try clear c12b0
          try clear c12b1
          try clear hcz11_0
          try clear hcz11_1
          try clear hcz13_0
          try clear hcz13_1
          try clear hcz14_0
          try clear hcz14_1
          try clear hcz9_0
          try clear hcz9_1
          try clear hfz11_0
          try clear hfz11_1
          try clear hfz13_0
          try clear hfz13_1
          try clear hfz14_0
          try clear hfz14_1
          try clear hfz9_0
          try clear hfz9_1
          try clear p2
          obtain ⟨kq, x37_6, rfl, HA, HJ6, BK163, HB⟩ := hcut
          cases kq with
          | zero => exact absurd HA.out (by simp [rotaref16_Check.j1])
          | succ kj6 =>
            have H := HA.out
            clear HA
            simp only [rotaref16_Check.j1] at H
            by_cases c15 : x37_6 = true
            · subst c15
              have H1 : (some (0, 0, 160)) = some (r1, r2, r3) := by rw [if_pos rfl] at H; exact H
              clear H
              have H := H1
              clear H1
              simp only [Option.some.injEq, Prod.mk.injEq] at H
              obtain ⟨rfl, rfl, rfl⟩ := H
              go_wp2
              go_ret3
              exact ⟨by first | rfl | (simp [errW_none, errW_some] <;> rfl) | (simp [*, errW_none, errW_some] <;> rfl), by repeat (first | (with_reducible first | exact HB.out | apply below_alloc | apply pw_below_drewN | apply below_drew1 | refine below_set ?_ GE163.out) | exact HB.out)⟩
            · replace c15 := Bool.eq_false_iff.mpr c15
              subst c15
              have H1 : (rotaref16_Check.l0 kj6 a1 0 a0_0 l0_1) = some (r1, r2, r3) := by rw [if_neg (show ¬ (false = true) by decide)] at H; exact H
              clear H
              have H := H1
              clear H1
              have H' := Aside0.mk H
              clear H
              go_wp2
              go_loopg [7] kj6 (fun kq v7 w' => ∃ (x7_3 : Int), v7 = .int .i64 x7_3 ∧ Aside0 (rotaref16_Check.l0 kq a1 x7_3 a0_0 l0_1 = some (r1, r2, r3)) ∧ Aside0 (kq ≤ kj6) ∧ Aside0 (w'.heap[gb163]? = some (.cells #[.int .u64 a0_0, (.slice A0_1 l0_1.length c0_1)] 25 (0, 0))) ∧ Aside0 (Below w.heap.size w w'))
              case atStart => exact ⟨(0), (by first | rfl | (simp; done) | (simp [*]; done)), H', ⟨Nat.le_refl _⟩, ⟨by (with_reducible repeat (first | refine blk_drewN ?_ _ | refine blk_drew ?_ | refine blk_alloc ?_ _)); exact BK163.out⟩, ⟨by repeat (first | (with_reducible first | exact HB.out | apply below_alloc | apply pw_below_drewN | apply below_drew1 | refine below_set ?_ GE163.out) | exact HB.out)⟩⟩
              case round =>
                clear H'
                try clear c1
                try clear p2
                try clear c5
                try clear c5b0
                try clear c6
                try clear c8
                try clear c8b0
                try clear c10
                try clear c10b0
                try clear c12
                try clear c12b0
                try clear c12b1
                try clear c15
                try clear hcz11_0
                try clear hcz11_1
                try clear hcz13_0
                try clear hcz13_1
                try clear hcz14_0
                try clear hcz14_1
                try clear hcz9_0
                try clear hcz9_1
                try clear hfz11_0
                try clear hfz11_1
                try clear hfz13_0
                try clear hfz13_1
                try clear hfz14_0
                try clear hfz14_1
                try clear hfz9_0
                try clear hfz9_1
                try clear p2
                obtain ⟨x7_3, rfl, HA, HK3, BK163, HB⟩ := hrel
                cases gk with
                | zero => exact absurd HA.out (by simp [rotaref16_Check.l0])
                | succ k3 =>
                  have H := HA.out
                  clear HA
                  simp only [rotaref16_Check.l0] at H
                  by_cases c16 : x7_3 < (l0_1.length : Int)
                  · rw [if_pos c16] at H
                    have c16b0 : decide (x7_3 < (l0_1.length : Int)) = true := decide_eq_true c16
                    clear c16
                    by_cases c17 : 0 ≤ x7_3
                    · rw [if_pos c17] at H
                      have c17b0 : decide (0 ≤ x7_3) = true := decide_eq_true c17
                      clear c17
                      by_cases c18 : ((rd_L4 l0_1 x7_3).length : Int) > 1024
                      · rw [if_pos c18] at H
                        have c18b0 : decide (1024 < ((rd_L4 l0_1 x7_3).length : Int)) = true := decide_eq_true c18
                        have c18b1 : decide (1024 < (rd_L4 l0_1 x7_3).length) = true := decide_eq_true (by omega)
                        clear c18
                        simp only [Option.some.injEq, Prod.mk.injEq] at H
                        obtain ⟨rfl, rfl, rfl⟩ := H
                        have hcz19_0 : wr.cell? ⟨gb163, 0, none⟩ = some (.int .u64 a0_0) := (blk_cell BK163.out 0).trans rfl
                        have hcz19_1 : wr.cell? ⟨gb163, 1, none⟩ = some (.slice A0_1 l0_1.length c0_1) := (blk_cell BK163.out 1).trans rfl
                        have hfz19_0 := blk_frozen BK163.out 0
                        have hfz19_1 := blk_frozen BK163.out 1
                        have p164 : 0 ≤ (x7_3 : Int) := of_decide_eq_true (by first | (with_reducible assumption) | assumption)
                        have q164 : x7_3 < (l0_1.length : Int) := of_decide_eq_true (by first | (with_reducible assumption) | assumption)
                        obtain ⟨ad164, A164_0, c164_0, e164, hx164_0, hl164_0, hi164_0⟩ := at_L4 HR0_1.out x7_3 p164 q164
                        cases e164
                        replace hx164_0 := (HB.out.cell (World.block_lt_of_cell? w _ hx164_0)).trans hx164_0
                        have HR164_0 := Aside0.mk hi164_0
                        have HC164_0 := Aside0.mk hl164_0
                        clear hi164_0 hl164_0
                        replace p164 := eq_true p164
                        replace q164 := eq_true q164
                        go_wp2
                        go_ret3
                        exact ⟨by first | rfl | (simp [errW_none, errW_some] <;> rfl) | (simp [*, errW_none, errW_some] <;> rfl), by repeat (first | (with_reducible first | exact HB.out | apply below_alloc | apply pw_below_drewN | apply below_drew1 | refine below_set ?_ GE163.out) | exact HB.out)⟩
                      · rw [if_neg c18] at H
                        have c18b0 : decide (1024 < ((rd_L4 l0_1 x7_3).length : Int)) = false := decide_eq_false c18
                        have c18b1 : decide (1024 < (rd_L4 l0_1 x7_3).length) = false := decide_eq_false (by omega)
                        clear c18
                        have H' := Aside0.mk H
                        clear H
                        have hcz20_0 : wr.cell? ⟨gb163, 0, none⟩ = some (.int .u64 a0_0) := (blk_cell BK163.out 0).trans rfl
                        have hcz20_1 : wr.cell? ⟨gb163, 1, none⟩ = some (.slice A0_1 l0_1.length c0_1) := (blk_cell BK163.out 1).trans rfl
                        have hfz20_0 := blk_frozen BK163.out 0
                        have hfz20_1 := blk_frozen BK163.out 1
                        have p164 : 0 ≤ (x7_3 : Int) := of_decide_eq_true (by first | (with_reducible assumption) | assumption)
                        have q164 : x7_3 < (l0_1.length : Int) := of_decide_eq_true (by first | (with_reducible assumption) | assumption)
                        obtain ⟨ad164, A164_0, c164_0, e164, hx164_0, hl164_0, hi164_0⟩ := at_L4 HR0_1.out x7_3 p164 q164
                        cases e164
                        replace hx164_0 := (HB.out.cell (World.block_lt_of_cell? w _ hx164_0)).trans hx164_0
                        have HR164_0 := Aside0.mk hi164_0
                        have HC164_0 := Aside0.mk hl164_0
                        clear hi164_0 hl164_0
                        replace p164 := eq_true p164
                        replace q164 := eq_true q164
                        go_wp2
                        go_loopg [8, 9] k3 (fun kq v8 v9 w' => ∃ (x8_4 : Int) (x9_4 : Int), v8 = .int .u64 x8_4 ∧ v9 = .int .i64 x9_4 ∧ Aside0 (rotaref16_Check.l1 kq a1 x7_3 x8_4 x9_4 a0_0 l0_1 = some (r1, r2, r3)) ∧ Aside0 (kq ≤ k3) ∧ Aside0 (w'.heap[gb163]? = some (.cells #[.int .u64 a0_0, (.slice (some ad164) l0_1.length c0_1)] 25 (0, 0))) ∧ Aside0 (Below w.heap.size w w'))
                        case atStart => exact ⟨(0), (0), (by first | rfl | (simp; done) | (simp [*]; done)), (by first | rfl | (simp; done) | (simp [*]; done)), H', ⟨Nat.le_refl _⟩, ⟨by (with_reducible repeat (first | refine blk_drewN ?_ _ | refine blk_drew ?_ | refine blk_alloc ?_ _)); exact BK163.out⟩, ⟨by repeat (first | (with_reducible first | exact HB.out | apply below_alloc | apply pw_below_drewN | apply below_drew1 | refine below_set ?_ GE163.out) | exact HB.out)⟩⟩
                        case round =>
                          clear H'
                          try clear c1
                          try clear p1
                          try clear q1
                          try clear hx1
                          try clear p2
                          try clear c5
                          try clear c5b0
                          try clear c6
                          try clear c8
                          try clear c8b0
                          try clear c10
                          try clear c10b0
                          try clear c12
                          try clear c12b0
                          try clear c12b1
                          try clear c15
                          try clear c16
                          try clear c16b0
                          try clear p16
                          try clear q16
                          try clear hx16
                          try clear c17
                          try clear c17b0
                          try clear c18
                          try clear c18b0
                          try clear c18b1
                          try clear hcz11_0
                          try clear hcz11_1
                          try clear hcz13_0
                          try clear hcz13_1
                          try clear hcz14_0
                          try clear hcz14_1
                          try clear hcz19_0
                          try clear hcz19_1
                          try clear hcz20_0
                          try clear hcz20_1
                          try clear hcz9_0
                          try clear hcz9_1
                          try clear hfz11_0
                          try clear hfz11_1
                          try clear hfz13_0
                          try clear hfz13_1
                          try clear hfz14_0
                          try clear hfz14_1
                          try clear hfz19_0
                          try clear hfz19_1
                          try clear hfz20_0
                          try clear hfz20_1
                          try clear hfz9_0
                          try clear hfz9_1
                          try clear hx164_0
                          try clear p164
                          try clear p2
                          try clear q164
                          obtain ⟨x8_4, x9_4, rfl, rfl, HA, HK4, BK163, HB⟩ := hrel
                          cases gk with
                          | zero => exact absurd HA.out (by simp [rotaref16_Check.l1])
                          | succ k4 =>
                            have H := HA.out
                            clear HA
                            simp only [rotaref16_Check.l1] at H
                            by_cases c21 : 0 ≤ x7_3
                            · rw [if_pos c21] at H
                              have c21b0 : decide (0 ≤ x7_3) = true := decide_eq_true c21
                              clear c21
                              by_cases c22 : x7_3 < (l0_1.length : Int)
                              · rw [if_pos c22] at H
                                have c22b0 : decide (x7_3 < (l0_1.length : Int)) = true := decide_eq_true c22
                                clear c22
                                by_cases c23 : x9_4 < ((rd_L4 l0_1 x7_3).length : Int)
                                · rw [if_pos c23] at H
                                  have c23b0 : decide (x9_4 < ((rd_L4 l0_1 x7_3).length : Int)) = true := decide_eq_true c23
                                  clear c23
                                  by_cases c24 : 0 ≤ x9_4
                                  · rw [if_pos c24] at H
                                    have c24b0 : decide (0 ≤ x9_4) = true := decide_eq_true c24
                                    clear c24
                                    replace H := Option.bind_eq_some_iff.mp H
                                    obtain ⟨t169, A250, H⟩ := H
                                    replace H : (if t169 = true then (if ((rd_T48 (rd_L4 l0_1 x7_3) x9_4).f0) < 0 then (rotaref16_Check.j4 k4 a1 x7_3 x8_4 x9_4 true a0_0 l0_1 ((rd_T48 (rd_L4 l0_1 x7_3) x9_4).f0) ((rd_T48 (rd_L4 l0_1 x7_3) x9_4).f1.f0) ((rd_T48 (rd_L4 l0_1 x7_3) x9_4).f1.f1) ((rd_T48 (rd_L4 l0_1 x7_3) x9_4).f2)) else (rotaref16_Check.j4 k4 a1 x7_3 x8_4 x9_4 (decide (((rd_T48 (rd_L4 l0_1 x7_3) x9_4).f0) ≥ a1)) a0_0 l0_1 ((rd_T48 (rd_L4 l0_1 x7_3) x9_4).f0) ((rd_T48 (rd_L4 l0_1 x7_3) x9_4).f1.f0) ((rd_T48 (rd_L4 l0_1 x7_3) x9_4).f1.f1) ((rd_T48 (rd_L4 l0_1 x7_3) x9_4).f2))) else (some (x7_3, x9_4, 161))) = some (r1, r2, r3) := H
                                    have A25 := Aside0.mk A250
                                    clear A250
                                    by_cases c26 : t169 = true
                                    · subst c26
                                      have H1 : (if ((rd_T48 (rd_L4 l0_1 x7_3) x9_4).f0) < 0 then (rotaref16_Check.j4 k4 a1 x7_3 x8_4 x9_4 true a0_0 l0_1 ((rd_T48 (rd_L4 l0_1 x7_3) x9_4).f0) ((rd_T48 (rd_L4 l0_1 x7_3) x9_4).f1.f0) ((rd_T48 (rd_L4 l0_1 x7_3) x9_4).f1.f1) ((rd_T48 (rd_L4 l0_1 x7_3) x9_4).f2)) else (rotaref16_Check.j4 k4 a1 x7_3 x8_4 x9_4 (decide (((rd_T48 (rd_L4 l0_1 x7_3) x9_4).f0) ≥ a1)) a0_0 l0_1 ((rd_T48 (rd_L4 l0_1 x7_3) x9_4).f0) ((rd_T48 (rd_L4 l0_1 x7_3) x9_4).f1.f0) ((rd_T48 (rd_L4 l0_1 x7_3) x9_4).f1.f1) ((rd_T48 (rd_L4 l0_1 x7_3) x9_4).f2))) = some (r1, r2, r3) := by rw [if_pos rfl] at H; exact H
                                      clear H
                                      have H := H1
                                      clear H1
                                      have HC27 := Aside0.mk H
                                      clear H
                                      have hcz28_0 : wr.cell? ⟨gb163, 0, none⟩ = some (.int .u64 a0_0) := (blk_cell BK163.out 0).trans rfl
                                      have hcz28_1 : wr.cell? ⟨gb163, 1, none⟩ = some (.slice (some ad164) l0_1.length c0_1) := (blk_cell BK163.out 1).trans rfl
                                      have hfz28_0 := blk_frozen BK163.out 0
                                      have hfz28_1 := blk_frozen BK163.out 1
                                      have p165 : 0 ≤ (x7_3 : Int) := of_decide_eq_true (by first | (with_reducible assumption) | assumption)
                                      have q165 : x7_3 < (l0_1.length : Int) := of_decide_eq_true (by first | (with_reducible assumption) | assumption)
                                      obtain ⟨ad165, A165_0, c165_0, e165, hx165_0, hl165_0, hi165_0⟩ := at_L4 HR0_1.out x7_3 p165 q165
                                      obtain rfl : ad164 = ad165 := (by injection e165)
                                      replace hx165_0 := (HB.out.cell (World.block_lt_of_cell? w _ hx165_0)).trans hx165_0
                                      have HR165_0 := Aside0.mk hi165_0
                                      have HC165_0 := Aside0.mk hl165_0
                                      clear hi165_0 hl165_0
                                      replace p165 := eq_true p165
                                      replace q165 := eq_true q165
                                      have p166 : 0 ≤ (x7_3 : Int) := of_decide_eq_true (by first | (with_reducible assumption) | assumption)
                                      have q166 : x7_3 < (l0_1.length : Int) := of_decide_eq_true (by first | (with_reducible assumption) | assumption)
                                      obtain ⟨ad166, A166_0, c166_0, e166, hx166_0, hl166_0, hi166_0⟩ := at_L4 HR0_1.out x7_3 p166 q166
                                      obtain rfl : ad164 = ad166 := (by injection e166)
                                      replace hx166_0 := (HB.out.cell (World.block_lt_of_cell? w _ hx166_0)).trans hx166_0
                                      have HR166_0 := Aside0.mk hi166_0
                                      have HC166_0 := Aside0.mk hl166_0
                                      clear hi166_0 hl166_0
                                      replace p166 := eq_true p166
                                      replace q166 := eq_true q166
                                      have ea_ := Option.some.inj (hx165_0.symm.trans hx166_0)
                                      injection ea_ with ea_ en_ ec_
                                      subst ea_
                                      subst ec_
                                      clear en_
                                      have p167 : 0 ≤ (x9_4 : Int) := of_decide_eq_true (by first | (with_reducible assumption) | assumption)
                                      have q167 : x9_4 < ((rd_L4 l0_1 x7_3).length : Int) := of_decide_eq_true (by first | (with_reducible assumption) | assumption)
                                      obtain ⟨ad167, e167, hx167_0, hx167_1, hx167_2, hx167_3⟩ := at_T48 HR166_0.out x9_4 p167 q167
                                      cases e167
                                      replace hx167_0 := (HB.out.cell (World.block_lt_of_cell? w _ hx167_0)).trans hx167_0
                                      replace hx167_1 := (HB.out.cell (World.block_lt_of_cell? w _ hx167_1)).trans hx167_1
                                      replace hx167_2 := (HB.out.cell (World.block_lt_of_cell? w _ hx167_2)).trans hx167_2
                                      replace hx167_3 := (HB.out.cell (World.block_lt_of_cell? w _ hx167_3)).trans hx167_3
                                      replace p167 := eq_true p167
                                      replace q167 := eq_true q167
                                      go_upto_region 18 with (first | ((with_reducible refine gate_dst (N := 10) rfl ?_); (try (refine gate_guard (by rfl) ?_; dsimp only)); refine box_event ?hg (N := 10) ?hd (cs := #[.int .i64 0, .int .u64 0, .int .u64 0, .int .u64 0]) (t := 48) ?hr ?_; (case hd => rfl); (case hg => rfl); (case hr => first | (go_simp; done) | (go_simp; rfl)); intro gb168 hg w29 hbox hb; have n0_ := Aside0.mk (blk_below (g := gb163) (o := .cells #[.int .u64 a0_0, .slice (some ad164) l0_1.length c0_1] 25 (0, 0)) (by (with_reducible repeat (first | refine blk_drewN ?_ _ | refine blk_drew ?_ | refine blk_alloc ?_ _)); exact BK163.out) hb); have n1_ := Aside0.mk (below_step (by repeat (first | (with_reducible first | exact HB.out | apply below_alloc | apply pw_below_drewN | apply below_drew1 | refine below_set ?_ GE163.out) | exact HB.out)) hb); have n2_ := Aside0.mk (hbox); have n3_ := Aside0.mk ((by rw [hg]; exact (below_size (by repeat (first | (with_reducible first | exact HB.out | apply below_alloc | apply pw_below_drewN | apply below_drew1 | refine below_set ?_ GE163.out) | exact HB.out))) : w.heap.size ≤ gb168)); have n4_ := Aside0.mk ((by rw [hg]; exact (below_size (by repeat (first | (with_reducible first | exact HB.out | apply below_alloc | apply pw_below_drewN | apply below_drew1 | refine below_set ?_ GE163.out) | exact HB.out))) : w.heap.size ≤ gb168)); have n5_ := Aside0.mk ((by rw [hg]; exact Nat.ne_of_lt (blk_lt (g := gb163) (o := .cells #[.int .u64 a0_0, .slice (some ad164) l0_1.length c0_1] 25 (0, 0)) (by (with_reducible repeat (first | refine blk_drewN ?_ _ | refine blk_drew ?_ | refine blk_alloc ?_ _)); exact BK163.out)) : gb163 ≠ gb168)); have n6_ := Aside0.mk ((by rw [hg]; exact Nat.ne_of_gt (blk_lt (g := gb163) (o := .cells #[.int .u64 a0_0, .slice (some ad164) l0_1.length c0_1] 25 (0, 0)) (by (with_reducible repeat (first | refine blk_drewN ?_ _ | refine blk_drew ?_ | refine blk_alloc ?_ _)); exact BK163.out)) : gb168 ≠ gb163)); clear BK163; clear HB; have BK163 := n0_; have HB := n1_; have BK168 := n2_; have GW168 := n3_; have GE168 := n4_; have NB163_168 := n5_; have NB168_163 := n6_; clear n0_ n1_ n2_ n3_ n4_ n5_ n6_; clear hb hbox hg; have hnb30 := NB168_163.out; have hnc30 := NB163_168.out; have hcz31_0 : w29.cell? ⟨gb168, 0, none⟩ = some (.int .i64 0) := (blk_cell BK168.out 0).trans rfl; have hcz31_1 : w29.cell? ⟨gb168, 1, none⟩ = some (.int .u64 0) := (blk_cell BK168.out 1).trans rfl; have hcz31_2 : w29.cell? ⟨gb168, 2, none⟩ = some (.int .u64 0) := (blk_cell BK168.out 2).trans rfl; have hcz31_3 : w29.cell? ⟨gb168, 3, none⟩ = some (.int .u64 0) := (blk_cell BK168.out 3).trans rfl; have hfz31_0 := blk_frozen BK168.out 0; have hfz31_1 := blk_frozen BK168.out 1; have hfz31_2 := blk_frozen BK168.out 2; have hfz31_3 := blk_frozen BK168.out 3; have hcz32_0 : w29.cell? ⟨gb163, 0, none⟩ = some (.int .u64 a0_0) := (blk_cell BK163.out 0).trans rfl; have hcz32_1 : w29.cell? ⟨gb163, 1, none⟩ = some (.slice (some ad164) l0_1.length c0_1) := (blk_cell BK163.out 1).trans rfl; have hfz32_0 := blk_frozen BK163.out 0; have hfz32_1 := blk_frozen BK163.out 1) | ((with_reducible refine gate_callee (f := 38) rfl ?_); refine goesL_ (some 74) rfl rfl Try.func38 (by kernel_rfl) rfl #[.agg #[.int .i64 ((rd_T48 (rd_L4 l0_1 x7_3) x9_4).f0), .int .u64 ((rd_T48 (rd_L4 l0_1 x7_3) x9_4).f1.f0), .int .u64 ((rd_T48 (rd_L4 l0_1 x7_3) x9_4).f1.f1), .int .u64 ((rd_T48 (rd_L4 l0_1 x7_3) x9_4).f2)], .int .u64 a0_0] rfl (by (try simp only [List.map_toArray, List.map_cons, List.map_nil]); first | done | rfl | (simp only [List.length_drop, List.length_take]; rfl)) ?_; (with_reducible refine (rotaref16_window.calls ((rd_T48 (rd_L4 l0_1 x7_3) x9_4).f0) ((rd_T48 (rd_L4 l0_1 x7_3) x9_4).f1.f0) ((rd_T48 (rd_L4 l0_1 x7_3) x9_4).f1.f1) ((rd_T48 (rd_L4 l0_1 x7_3) x9_4).f2) a0_0 true _ A25.out).mono ?_); rintro e w33 ⟨rfl, hb⟩; refine ⟨_, rfl, ?_⟩; have n0_ := Aside0.mk (blk_below (g := gb163) (o := .cells #[.int .u64 a0_0, .slice (some ad164) l0_1.length c0_1] 25 (0, 0)) (by (with_reducible repeat (first | refine blk_drewN ?_ _ | refine blk_drew ?_ | refine blk_alloc ?_ _)); refine blk_far ?_ NB163_168.out _; (with_reducible repeat (first | refine blk_drewN ?_ _ | refine blk_drew ?_ | refine blk_alloc ?_ _)); refine blk_far ?_ NB163_168.out _; (with_reducible repeat (first | refine blk_drewN ?_ _ | refine blk_drew ?_ | refine blk_alloc ?_ _)); refine blk_far ?_ NB163_168.out _; (with_reducible repeat (first | refine blk_drewN ?_ _ | refine blk_drew ?_ | refine blk_alloc ?_ _)); refine blk_far ?_ NB163_168.out _; (with_reducible repeat (first | refine blk_drewN ?_ _ | refine blk_drew ?_ | refine blk_alloc ?_ _)); exact BK163.out) hb); have n1_ := Aside0.mk (blk_below (g := gb168) (o := .cells #[.int .i64 ((rd_T48 (rd_L4 l0_1 x7_3) x9_4).f0), .int .u64 ((rd_T48 (rd_L4 l0_1 x7_3) x9_4).f1.f0), .int .u64 ((rd_T48 (rd_L4 l0_1 x7_3) x9_4).f1.f1), .int .u64 ((rd_T48 (rd_L4 l0_1 x7_3) x9_4).f2)] 48 (0, 0)) (by (with_reducible repeat (first | refine blk_drewN ?_ _ | refine blk_drew ?_ | refine blk_alloc ?_ _)); refine blk_put (cs := #[.int .i64 ((rd_T48 (rd_L4 l0_1 x7_3) x9_4).f0), .int .u64 ((rd_T48 (rd_L4 l0_1 x7_3) x9_4).f1.f0), .int .u64 ((rd_T48 (rd_L4 l0_1 x7_3) x9_4).f1.f1), .int .u64 0]) ?_ 3 _ rfl; (with_reducible repeat (first | refine blk_drewN ?_ _ | refine blk_drew ?_ | refine blk_alloc ?_ _)); refine blk_put (cs := #[.int .i64 ((rd_T48 (rd_L4 l0_1 x7_3) x9_4).f0), .int .u64 ((rd_T48 (rd_L4 l0_1 x7_3) x9_4).f1.f0), .int .u64 0, .int .u64 0]) ?_ 2 _ rfl; (with_reducible repeat (first | refine blk_drewN ?_ _ | refine blk_drew ?_ | refine blk_alloc ?_ _)); refine blk_put (cs := #[.int .i64 ((rd_T48 (rd_L4 l0_1 x7_3) x9_4).f0), .int .u64 0, .int .u64 0, .int .u64 0]) ?_ 1 _ rfl; (with_reducible repeat (first | refine blk_drewN ?_ _ | refine blk_drew ?_ | refine blk_alloc ?_ _)); refine blk_put (cs := #[.int .i64 0, .int .u64 0, .int .u64 0, .int .u64 0]) ?_ 0 _ rfl; (with_reducible repeat (first | refine blk_drewN ?_ _ | refine blk_drew ?_ | refine blk_alloc ?_ _)); exact BK168.out) hb); have n2_ := Aside0.mk (below_step (by repeat (first | (with_reducible first | exact HB.out | apply below_alloc | apply pw_below_drewN | apply below_drew1 | refine below_set ?_ GE163.out | refine below_set ?_ GE168.out) | exact HB.out)) hb); clear BK163; clear BK168; clear HB; have BK163 := n0_; have BK168 := n1_; have HB := n2_; clear n0_ n1_ n2_; (try clear hb); (try clear hb2); (try clear hk); (try clear hi)))
                                      (try simp only [Act.put, List.setIfInBounds_toArray, List.set_cons_zero, List.set_cons_succ])
                                      go_cut [80] (fun v80 wc => ∃ (kq : Nat) (x80_26 : Bool), v80 = .bool x80_26 ∧ Aside0 (rotaref16_Check.j4 kq a1 x7_3 x8_4 x9_4 x80_26 a0_0 l0_1 ((rd_T48 (rd_L4 l0_1 x7_3) x9_4).f0) ((rd_T48 (rd_L4 l0_1 x7_3) x9_4).f1.f0) ((rd_T48 (rd_L4 l0_1 x7_3) x9_4).f1.f1) ((rd_T48 (rd_L4 l0_1 x7_3) x9_4).f2) = some (r1, r2, r3)) ∧ Aside0 (kq ≤ k4) ∧ Aside0 (wc.heap[gb163]? = some (.cells #[.int .u64 a0_0, (.slice (some ad164) l0_1.length c0_1)] 25 (0, 0))) ∧ Aside0 (wc.heap[gb168]? = some (.cells #[.int .i64 ((rd_T48 (rd_L4 l0_1 x7_3) x9_4).f0), .int .u64 ((rd_T48 (rd_L4 l0_1 x7_3) x9_4).f1.f0), .int .u64 ((rd_T48 (rd_L4 l0_1 x7_3) x9_4).f1.f1), .int .u64 ((rd_T48 (rd_L4 l0_1 x7_3) x9_4).f2)] 48 (0, 0))) ∧ Aside0 (Below w.heap.size w wc))
                                      case first =>
                                        have H := HC27.out
                                        clear HC27
                                        by_cases c34 : ((rd_T48 (rd_L4 l0_1 x7_3) x9_4).f0) < 0
                                        · rw [if_pos c34] at H
                                          have c34b0 : decide (((rd_T48 (rd_L4 l0_1 x7_3) x9_4).f0) < 0) = true := decide_eq_true c34
                                          clear c34
                                          (first | rw [c34b0] | (simp only [i64_w, i32_w]; rw [c34b0]) | skip)
                                          have H' := Aside0.mk H
                                          clear H
                                          have hnb35 := NB168_163.out
                                          have hnc35 := NB163_168.out
                                          have hcz36_0 : w33.cell? ⟨gb168, 0, none⟩ = some (.int .i64 ((rd_T48 (rd_L4 l0_1 x7_3) x9_4).f0)) := (blk_cell BK168.out 0).trans rfl
                                          have hcz36_1 : w33.cell? ⟨gb168, 1, none⟩ = some (.int .u64 ((rd_T48 (rd_L4 l0_1 x7_3) x9_4).f1.f0)) := (blk_cell BK168.out 1).trans rfl
                                          have hcz36_2 : w33.cell? ⟨gb168, 2, none⟩ = some (.int .u64 ((rd_T48 (rd_L4 l0_1 x7_3) x9_4).f1.f1)) := (blk_cell BK168.out 2).trans rfl
                                          have hcz36_3 : w33.cell? ⟨gb168, 3, none⟩ = some (.int .u64 ((rd_T48 (rd_L4 l0_1 x7_3) x9_4).f2)) := (blk_cell BK168.out 3).trans rfl
                                          have hfz36_0 := blk_frozen BK168.out 0
                                          have hfz36_1 := blk_frozen BK168.out 1
                                          have hfz36_2 := blk_frozen BK168.out 2
                                          have hfz36_3 := blk_frozen BK168.out 3
                                          go_wp2
                                          go_meet
                                          case rel => exact ⟨_, (true), (by first | rfl | (simp; done) | (simp [*]; done)), H', ⟨by have := HJ2.out; have := HJ6.out; have := HK3.out; have := HK4.out; first | omega | exact Nat.le_refl _⟩, ⟨by (with_reducible repeat (first | refine blk_drewN ?_ _ | refine blk_drew ?_ | refine blk_alloc ?_ _)); exact BK163.out⟩, ⟨by (with_reducible repeat (first | refine blk_drewN ?_ _ | refine blk_drew ?_ | refine blk_alloc ?_ _)); exact BK168.out⟩, ⟨by repeat (first | (with_reducible first | exact HB.out | apply below_alloc | apply pw_below_drewN | apply below_drew1 | refine below_set ?_ GE163.out | refine below_set ?_ GE168.out) | exact HB.out)⟩⟩
                                        · rw [if_neg c34] at H
                                          have c34b0 : decide (((rd_T48 (rd_L4 l0_1 x7_3) x9_4).f0) < 0) = false := decide_eq_false c34
                                          clear c34
                                          (first | rw [c34b0] | (simp only [i64_w, i32_w]; rw [c34b0]) | skip)
                                          have H' := Aside0.mk H
                                          clear H
                                          have hnb37 := NB168_163.out
                                          have hnc37 := NB163_168.out
                                          have hcz38_0 : w33.cell? ⟨gb168, 0, none⟩ = some (.int .i64 ((rd_T48 (rd_L4 l0_1 x7_3) x9_4).f0)) := (blk_cell BK168.out 0).trans rfl
                                          have hcz38_1 : w33.cell? ⟨gb168, 1, none⟩ = some (.int .u64 ((rd_T48 (rd_L4 l0_1 x7_3) x9_4).f1.f0)) := (blk_cell BK168.out 1).trans rfl
                                          have hcz38_2 : w33.cell? ⟨gb168, 2, none⟩ = some (.int .u64 ((rd_T48 (rd_L4 l0_1 x7_3) x9_4).f1.f1)) := (blk_cell BK168.out 2).trans rfl
                                          have hcz38_3 : w33.cell? ⟨gb168, 3, none⟩ = some (.int .u64 ((rd_T48 (rd_L4 l0_1 x7_3) x9_4).f2)) := (blk_cell BK168.out 3).trans rfl
                                          have hfz38_0 := blk_frozen BK168.out 0
                                          have hfz38_1 := blk_frozen BK168.out 1
                                          have hfz38_2 := blk_frozen BK168.out 2
                                          have hfz38_3 := blk_frozen BK168.out 3
                                          go_wp2
                                          go_meet
                                          case rel => exact ⟨_, (decide (((rd_T48 (rd_L4 l0_1 x7_3) x9_4).f0) ≥ a1)), (by first | rfl | (simp; done) | (simp [*]; done)), H', ⟨by have := HJ2.out; have := HJ6.out; have := HK3.out; have := HK4.out; first | omega | exact Nat.le_refl _⟩, ⟨by (with_reducible repeat (first | refine blk_drewN ?_ _ | refine blk_drew ?_ | refine blk_alloc ?_ _)); exact BK163.out⟩, ⟨by (with_reducible repeat (first | refine blk_drewN ?_ _ | refine blk_drew ?_ | refine blk_alloc ?_ _)); exact BK168.out⟩, ⟨by repeat (first | (with_reducible first | exact HB.out | apply below_alloc | apply pw_below_drewN | apply below_drew1 | refine below_set ?_ GE163.out | refine below_set ?_ GE168.out) | exact HB.out)⟩⟩
                                      case rest =>
                                        clear HC27
                                        try clear c1
                                        try clear p1
                                        try clear q1
                                        try clear hx1
                                        try clear c2
                                        try clear p2
                                        try clear c3
                                        try clear c5
                                        try clear c5b0
                                        try clear c6
                                        try clear c8
                                        try clear c8b0
                                        try clear c10
                                        try clear c10b0
                                        try clear c12
                                        try clear c12b0
                                        try clear c12b1
                                        try clear c15
                                        try clear c16
                                        try clear c16b0
                                        try clear p16
                                        try clear q16
                                        try clear hx16
                                        try clear c17
                                        try clear c17b0
                                        try clear c18
                                        try clear c18b0
                                        try clear c18b1
                                        try clear c21
                                        try clear c21b0
                                        try clear c22
                                        try clear c22b0
                                        try clear c23
                                        try clear c23b0
                                        try clear c24
                                        try clear c24b0
                                        try clear c26
                                        try clear c30
                                        try clear c34
                                        try clear c34b0
                                        try clear c35
                                        try clear c37
                                        try clear c38
                                        try clear hcz11_0
                                        try clear hcz11_1
                                        try clear hcz13_0
                                        try clear hcz13_1
                                        try clear hcz14_0
                                        try clear hcz14_1
                                        try clear hcz19_0
                                        try clear hcz19_1
                                        try clear hcz20_0
                                        try clear hcz20_1
                                        try clear hcz28_0
                                        try clear hcz28_1
                                        try clear hcz31_0
                                        try clear hcz31_1
                                        try clear hcz31_2
                                        try clear hcz31_3
                                        try clear hcz32_0
                                        try clear hcz32_1
                                        try clear hcz36_0
                                        try clear hcz36_1
                                        try clear hcz36_2
                                        try clear hcz36_3
                                        try clear hcz38_0
                                        try clear hcz38_1
                                        try clear hcz38_2
                                        try clear hcz38_3
                                        try clear hcz9_0
                                        try clear hcz9_1
                                        try clear hfz11_0
                                        try clear hfz11_1
                                        try clear hfz13_0
                                        try clear hfz13_1
                                        try clear hfz14_0
                                        try clear hfz14_1
                                        try clear hfz19_0
                                        try clear hfz19_1
                                        try clear hfz20_0
                                        try clear hfz20_1
                                        try clear hfz28_0
                                        try clear hfz28_1
                                        try clear hfz31_0
                                        try clear hfz31_1
                                        try clear hfz31_2
                                        try clear hfz31_3
                                        try clear hfz32_0
                                        try clear hfz32_1
                                        try clear hfz36_0
                                        try clear hfz36_1
                                        try clear hfz36_2
                                        try clear hfz36_3
                                        try clear hfz38_0
                                        try clear hfz38_1
                                        try clear hfz38_2
                                        try clear hfz38_3
                                        try clear hfz9_0
                                        try clear hfz9_1
                                        try clear hx164_0
                                        try clear hx165_0
                                        try clear hx166_0
                                        try clear hx167_0
                                        try clear hx167_1
                                        try clear hx167_2
                                        try clear hx167_3
                                        try clear p1
                                        try clear p16
                                        try clear p164
                                        try clear p165
                                        try clear p166
                                        try clear p167
                                        try clear p2
                                        try clear q1
                                        try clear q16
                                        try clear q164
                                        try clear q165
                                        try clear q166
                                        try clear q167
                                        obtain ⟨kq, x80_26, rfl, HA, HJ26, BK163, BK168, HB⟩ := hcut
                                        cases kq with
                                        | zero => exact absurd HA.out (by simp [rotaref16_Check.j4])
                                        | succ kj26 =>
                                          have H := HA.out
                                          clear HA
                                          simp only [rotaref16_Check.j4] at H
                                          by_cases c39 : x80_26 = true
                                          · subst c39
                                            have H1 : (some (x7_3, x9_4, 162)) = some (r1, r2, r3) := by rw [if_pos rfl] at H; exact H
                                            clear H
                                            have H := H1
                                            clear H1
                                            simp only [Option.some.injEq, Prod.mk.injEq] at H
                                            obtain ⟨rfl, rfl, rfl⟩ := H
                                            go_wp2
                                            go_ret3
                                            exact ⟨by first | rfl | (simp [errW_none, errW_some] <;> rfl) | (simp [*, errW_none, errW_some] <;> rfl), by repeat (first | (with_reducible first | exact HB.out | apply below_alloc | apply pw_below_drewN | apply below_drew1 | refine below_set ?_ GE163.out | refine below_set ?_ GE168.out) | exact HB.out)⟩
                                          · replace c39 := Bool.eq_false_iff.mpr c39
                                            subst c39
                                            have H1 : (if ((rd_T48 (rd_L4 l0_1 x7_3) x9_4).f1.f0) < x8_4 then (some (x7_3, x9_4, 163)) else (rotaref16_Check.l1 kj26 a1 x7_3 (IntKind.u64.wrap (((rd_T48 (rd_L4 l0_1 x7_3) x9_4).f1.f0) + ((rd_T48 (rd_L4 l0_1 x7_3) x9_4).f1.f1))) (wrap64 (x9_4 + 1)) a0_0 l0_1)) = some (r1, r2, r3) := by rw [if_neg (show ¬ (false = true) by decide)] at H; exact H
                                            clear H
                                            have H := H1
                                            clear H1
                                            by_cases c40 : ((rd_T48 (rd_L4 l0_1 x7_3) x9_4).f1.f0) < x8_4
                                            · rw [if_pos c40] at H
                                              have c40b0 : decide (((rd_T48 (rd_L4 l0_1 x7_3) x9_4).f1.f0) < x8_4) = true := decide_eq_true c40
                                              clear c40
                                              simp only [Option.some.injEq, Prod.mk.injEq] at H
                                              obtain ⟨rfl, rfl, rfl⟩ := H
                                              have hnb41 := NB168_163.out
                                              have hnc41 := NB163_168.out
                                              have hcz42_0 : wc.cell? ⟨gb168, 0, none⟩ = some (.int .i64 ((rd_T48 (rd_L4 l0_1 x7_3) x9_4).f0)) := (blk_cell BK168.out 0).trans rfl
                                              have hcz42_1 : wc.cell? ⟨gb168, 1, none⟩ = some (.int .u64 ((rd_T48 (rd_L4 l0_1 x7_3) x9_4).f1.f0)) := (blk_cell BK168.out 1).trans rfl
                                              have hcz42_2 : wc.cell? ⟨gb168, 2, none⟩ = some (.int .u64 ((rd_T48 (rd_L4 l0_1 x7_3) x9_4).f1.f1)) := (blk_cell BK168.out 2).trans rfl
                                              have hcz42_3 : wc.cell? ⟨gb168, 3, none⟩ = some (.int .u64 ((rd_T48 (rd_L4 l0_1 x7_3) x9_4).f2)) := (blk_cell BK168.out 3).trans rfl
                                              have hfz42_0 := blk_frozen BK168.out 0
                                              have hfz42_1 := blk_frozen BK168.out 1
                                              have hfz42_2 := blk_frozen BK168.out 2
                                              have hfz42_3 := blk_frozen BK168.out 3
                                              go_wp2
                                              go_ret3
                                              exact ⟨by first | rfl | (simp [errW_none, errW_some] <;> rfl) | (simp [*, errW_none, errW_some] <;> rfl), by repeat (first | (with_reducible first | exact HB.out | apply below_alloc | apply pw_below_drewN | apply below_drew1 | refine below_set ?_ GE163.out | refine below_set ?_ GE168.out) | exact HB.out)⟩
                                            · rw [if_neg c40] at H
                                              have c40b0 : decide (((rd_T48 (rd_L4 l0_1 x7_3) x9_4).f1.f0) < x8_4) = false := decide_eq_false c40
                                              clear c40
                                              have H' := Aside0.mk H
                                              clear H
                                              have hnb43 := NB168_163.out
                                              have hnc43 := NB163_168.out
                                              have hcz44_0 : wc.cell? ⟨gb168, 0, none⟩ = some (.int .i64 ((rd_T48 (rd_L4 l0_1 x7_3) x9_4).f0)) := (blk_cell BK168.out 0).trans rfl
                                              have hcz44_1 : wc.cell? ⟨gb168, 1, none⟩ = some (.int .u64 ((rd_T48 (rd_L4 l0_1 x7_3) x9_4).f1.f0)) := (blk_cell BK168.out 1).trans rfl
                                              have hcz44_2 : wc.cell? ⟨gb168, 2, none⟩ = some (.int .u64 ((rd_T48 (rd_L4 l0_1 x7_3) x9_4).f1.f1)) := (blk_cell BK168.out 2).trans rfl
                                              have hcz44_3 : wc.cell? ⟨gb168, 3, none⟩ = some (.int .u64 ((rd_T48 (rd_L4 l0_1 x7_3) x9_4).f2)) := (blk_cell BK168.out 3).trans rfl
                                              have hfz44_0 := blk_frozen BK168.out 0
                                              have hfz44_1 := blk_frozen BK168.out 1
                                              have hfz44_2 := blk_frozen BK168.out 2
                                              have hfz44_3 := blk_frozen BK168.out 3
                                              go_wp2
                                              go_roundg kj26
                                              case measure => have := HJ2.out; have := HJ6.out; have := HK3.out; have := HK4.out; have := HJ26.out; omega
                                              case rel => exact ⟨(IntKind.u64.wrap (((rd_T48 (rd_L4 l0_1 x7_3) x9_4).f1.f0) + ((rd_T48 (rd_L4 l0_1 x7_3) x9_4).f1.f1))), (wrap64 (x9_4 + 1)), (by first | rfl | (simp; done) | (simp [*]; done)), (by first | rfl | (simp; done) | (simp [*]; done)), H', ⟨by have := HJ2.out; have := HJ6.out; have := HK3.out; have := HK4.out; have := HJ26.out; omega⟩, ⟨by (with_reducible repeat (first | refine blk_drewN ?_ _ | refine blk_drew ?_ | refine blk_alloc ?_ _)); exact BK163.out⟩, ⟨by repeat (first | (with_reducible first | exact HB.out | apply below_alloc | apply pw_below_drewN | apply below_drew1 | refine below_set ?_ GE163.out | refine below_set ?_ GE168.out) | exact HB.out)⟩⟩
                                    · replace c26 := Bool.eq_false_iff.mpr c26
                                      subst c26
                                      have H1 : (some (x7_3, x9_4, 161)) = some (r1, r2, r3) := by rw [if_neg (show ¬ (false = true) by decide)] at H; exact H
                                      clear H
                                      have H := H1
                                      clear H1
                                      simp only [Option.some.injEq, Prod.mk.injEq] at H
                                      obtain ⟨rfl, rfl, rfl⟩ := H
                                      have hcz45_0 : wr.cell? ⟨gb163, 0, none⟩ = some (.int .u64 a0_0) := (blk_cell BK163.out 0).trans rfl
                                      have hcz45_1 : wr.cell? ⟨gb163, 1, none⟩ = some (.slice (some ad164) l0_1.length c0_1) := (blk_cell BK163.out 1).trans rfl
                                      have hfz45_0 := blk_frozen BK163.out 0
                                      have hfz45_1 := blk_frozen BK163.out 1
                                      have p165 : 0 ≤ (x7_3 : Int) := of_decide_eq_true (by first | (with_reducible assumption) | assumption)
                                      have q165 : x7_3 < (l0_1.length : Int) := of_decide_eq_true (by first | (with_reducible assumption) | assumption)
                                      obtain ⟨ad165, A165_0, c165_0, e165, hx165_0, hl165_0, hi165_0⟩ := at_L4 HR0_1.out x7_3 p165 q165
                                      obtain rfl : ad164 = ad165 := (by injection e165)
                                      replace hx165_0 := (HB.out.cell (World.block_lt_of_cell? w _ hx165_0)).trans hx165_0
                                      have HR165_0 := Aside0.mk hi165_0
                                      have HC165_0 := Aside0.mk hl165_0
                                      clear hi165_0 hl165_0
                                      replace p165 := eq_true p165
                                      replace q165 := eq_true q165
                                      have p166 : 0 ≤ (x7_3 : Int) := of_decide_eq_true (by first | (with_reducible assumption) | assumption)
                                      have q166 : x7_3 < (l0_1.length : Int) := of_decide_eq_true (by first | (with_reducible assumption) | assumption)
                                      obtain ⟨ad166, A166_0, c166_0, e166, hx166_0, hl166_0, hi166_0⟩ := at_L4 HR0_1.out x7_3 p166 q166
                                      obtain rfl : ad164 = ad166 := (by injection e166)
                                      replace hx166_0 := (HB.out.cell (World.block_lt_of_cell? w _ hx166_0)).trans hx166_0
                                      have HR166_0 := Aside0.mk hi166_0
                                      have HC166_0 := Aside0.mk hl166_0
                                      clear hi166_0 hl166_0
                                      replace p166 := eq_true p166
                                      replace q166 := eq_true q166
                                      have ea_ := Option.some.inj (hx165_0.symm.trans hx166_0)
                                      injection ea_ with ea_ en_ ec_
                                      subst ea_
                                      subst ec_
                                      clear en_
                                      have p167 : 0 ≤ (x9_4 : Int) := of_decide_eq_true (by first | (with_reducible assumption) | assumption)
                                      have q167 : x9_4 < ((rd_L4 l0_1 x7_3).length : Int) := of_decide_eq_true (by first | (with_reducible assumption) | assumption)
                                      obtain ⟨ad167, e167, hx167_0, hx167_1, hx167_2, hx167_3⟩ := at_T48 HR166_0.out x9_4 p167 q167
                                      cases e167
                                      replace hx167_0 := (HB.out.cell (World.block_lt_of_cell? w _ hx167_0)).trans hx167_0
                                      replace hx167_1 := (HB.out.cell (World.block_lt_of_cell? w _ hx167_1)).trans hx167_1
                                      replace hx167_2 := (HB.out.cell (World.block_lt_of_cell? w _ hx167_2)).trans hx167_2
                                      replace hx167_3 := (HB.out.cell (World.block_lt_of_cell? w _ hx167_3)).trans hx167_3
                                      replace p167 := eq_true p167
                                      replace q167 := eq_true q167
                                      go_wp2_with (first | ((with_reducible refine gate_dst (N := 10) rfl ?_); (try (refine gate_guard (by rfl) ?_; dsimp only)); refine box_event ?hg (N := 10) ?hd (cs := #[.int .i64 0, .int .u64 0, .int .u64 0, .int .u64 0]) (t := 48) ?hr ?_; (case hd => rfl); (case hg => rfl); (case hr => first | (go_simp; done) | (go_simp; rfl)); intro gb168 hg w46 hbox hb; have n0_ := Aside0.mk (blk_below (g := gb163) (o := .cells #[.int .u64 a0_0, .slice (some ad164) l0_1.length c0_1] 25 (0, 0)) (by (with_reducible repeat (first | refine blk_drewN ?_ _ | refine blk_drew ?_ | refine blk_alloc ?_ _)); exact BK163.out) hb); have n1_ := Aside0.mk (below_step (by repeat (first | (with_reducible first | exact HB.out | apply below_alloc | apply pw_below_drewN | apply below_drew1 | refine below_set ?_ GE163.out) | exact HB.out)) hb); have n2_ := Aside0.mk (hbox); have n3_ := Aside0.mk ((by rw [hg]; exact (below_size (by repeat (first | (with_reducible first | exact HB.out | apply below_alloc | apply pw_below_drewN | apply below_drew1 | refine below_set ?_ GE163.out) | exact HB.out))) : w.heap.size ≤ gb168)); have n4_ := Aside0.mk ((by rw [hg]; exact (below_size (by repeat (first | (with_reducible first | exact HB.out | apply below_alloc | apply pw_below_drewN | apply below_drew1 | refine below_set ?_ GE163.out) | exact HB.out))) : w.heap.size ≤ gb168)); have n5_ := Aside0.mk ((by rw [hg]; exact Nat.ne_of_lt (blk_lt (g := gb163) (o := .cells #[.int .u64 a0_0, .slice (some ad164) l0_1.length c0_1] 25 (0, 0)) (by (with_reducible repeat (first | refine blk_drewN ?_ _ | refine blk_drew ?_ | refine blk_alloc ?_ _)); exact BK163.out)) : gb163 ≠ gb168)); have n6_ := Aside0.mk ((by rw [hg]; exact Nat.ne_of_gt (blk_lt (g := gb163) (o := .cells #[.int .u64 a0_0, .slice (some ad164) l0_1.length c0_1] 25 (0, 0)) (by (with_reducible repeat (first | refine blk_drewN ?_ _ | refine blk_drew ?_ | refine blk_alloc ?_ _)); exact BK163.out)) : gb168 ≠ gb163)); clear BK163; clear HB; have BK163 := n0_; have HB := n1_; have BK168 := n2_; have GW168 := n3_; have GE168 := n4_; have NB163_168 := n5_; have NB168_163 := n6_; clear n0_ n1_ n2_ n3_ n4_ n5_ n6_; clear hb hbox hg; have hnb47 := NB168_163.out; have hnc47 := NB163_168.out; have hcz48_0 : w46.cell? ⟨gb168, 0, none⟩ = some (.int .i64 0) := (blk_cell BK168.out 0).trans rfl; have hcz48_1 : w46.cell? ⟨gb168, 1, none⟩ = some (.int .u64 0) := (blk_cell BK168.out 1).trans rfl; have hcz48_2 : w46.cell? ⟨gb168, 2, none⟩ = some (.int .u64 0) := (blk_cell BK168.out 2).trans rfl; have hcz48_3 : w46.cell? ⟨gb168, 3, none⟩ = some (.int .u64 0) := (blk_cell BK168.out 3).trans rfl; have hfz48_0 := blk_frozen BK168.out 0; have hfz48_1 := blk_frozen BK168.out 1; have hfz48_2 := blk_frozen BK168.out 2; have hfz48_3 := blk_frozen BK168.out 3; have hcz49_0 : w46.cell? ⟨gb163, 0, none⟩ = some (.int .u64 a0_0) := (blk_cell BK163.out 0).trans rfl; have hcz49_1 : w46.cell? ⟨gb163, 1, none⟩ = some (.slice (some ad164) l0_1.length c0_1) := (blk_cell BK163.out 1).trans rfl; have hfz49_0 := blk_frozen BK163.out 0; have hfz49_1 := blk_frozen BK163.out 1) | ((with_reducible refine gate_callee (f := 38) rfl ?_); refine goesL_ (some 74) rfl rfl Try.func38 (by kernel_rfl) rfl #[.agg #[.int .i64 ((rd_T48 (rd_L4 l0_1 x7_3) x9_4).f0), .int .u64 ((rd_T48 (rd_L4 l0_1 x7_3) x9_4).f1.f0), .int .u64 ((rd_T48 (rd_L4 l0_1 x7_3) x9_4).f1.f1), .int .u64 ((rd_T48 (rd_L4 l0_1 x7_3) x9_4).f2)], .int .u64 a0_0] rfl (by (try simp only [List.map_toArray, List.map_cons, List.map_nil]); first | done | rfl | (simp only [List.length_drop, List.length_take]; rfl)) ?_; (with_reducible refine (rotaref16_window.calls ((rd_T48 (rd_L4 l0_1 x7_3) x9_4).f0) ((rd_T48 (rd_L4 l0_1 x7_3) x9_4).f1.f0) ((rd_T48 (rd_L4 l0_1 x7_3) x9_4).f1.f1) ((rd_T48 (rd_L4 l0_1 x7_3) x9_4).f2) a0_0 false _ A25.out).mono ?_); rintro e w50 ⟨rfl, hb⟩; refine ⟨_, rfl, ?_⟩; have n0_ := Aside0.mk (blk_below (g := gb163) (o := .cells #[.int .u64 a0_0, .slice (some ad164) l0_1.length c0_1] 25 (0, 0)) (by (with_reducible repeat (first | refine blk_drewN ?_ _ | refine blk_drew ?_ | refine blk_alloc ?_ _)); refine blk_far ?_ NB163_168.out _; (with_reducible repeat (first | refine blk_drewN ?_ _ | refine blk_drew ?_ | refine blk_alloc ?_ _)); refine blk_far ?_ NB163_168.out _; (with_reducible repeat (first | refine blk_drewN ?_ _ | refine blk_drew ?_ | refine blk_alloc ?_ _)); refine blk_far ?_ NB163_168.out _; (with_reducible repeat (first | refine blk_drewN ?_ _ | refine blk_drew ?_ | refine blk_alloc ?_ _)); refine blk_far ?_ NB163_168.out _; (with_reducible repeat (first | refine blk_drewN ?_ _ | refine blk_drew ?_ | refine blk_alloc ?_ _)); exact BK163.out) hb); have n1_ := Aside0.mk (blk_below (g := gb168) (o := .cells #[.int .i64 ((rd_T48 (rd_L4 l0_1 x7_3) x9_4).f0), .int .u64 ((rd_T48 (rd_L4 l0_1 x7_3) x9_4).f1.f0), .int .u64 ((rd_T48 (rd_L4 l0_1 x7_3) x9_4).f1.f1), .int .u64 ((rd_T48 (rd_L4 l0_1 x7_3) x9_4).f2)] 48 (0, 0)) (by (with_reducible repeat (first | refine blk_drewN ?_ _ | refine blk_drew ?_ | refine blk_alloc ?_ _)); refine blk_put (cs := #[.int .i64 ((rd_T48 (rd_L4 l0_1 x7_3) x9_4).f0), .int .u64 ((rd_T48 (rd_L4 l0_1 x7_3) x9_4).f1.f0), .int .u64 ((rd_T48 (rd_L4 l0_1 x7_3) x9_4).f1.f1), .int .u64 0]) ?_ 3 _ rfl; (with_reducible repeat (first | refine blk_drewN ?_ _ | refine blk_drew ?_ | refine blk_alloc ?_ _)); refine blk_put (cs := #[.int .i64 ((rd_T48 (rd_L4 l0_1 x7_3) x9_4).f0), .int .u64 ((rd_T48 (rd_L4 l0_1 x7_3) x9_4).f1.f0), .int .u64 0, .int .u64 0]) ?_ 2 _ rfl; (with_reducible repeat (first | refine blk_drewN ?_ _ | refine blk_drew ?_ | refine blk_alloc ?_ _)); refine blk_put (cs := #[.int .i64 ((rd_T48 (rd_L4 l0_1 x7_3) x9_4).f0), .int .u64 0, .int .u64 0, .int .u64 0]) ?_ 1 _ rfl; (with_reducible repeat (first | refine blk_drewN ?_ _ | refine blk_drew ?_ | refine blk_alloc ?_ _)); refine blk_put (cs := #[.int .i64 0, .int .u64 0, .int .u64 0, .int .u64 0]) ?_ 0 _ rfl; (with_reducible repeat (first | refine blk_drewN ?_ _ | refine blk_drew ?_ | refine blk_alloc ?_ _)); exact BK168.out) hb); have n2_ := Aside0.mk (below_step (by repeat (first | (with_reducible first | exact HB.out | apply below_alloc | apply pw_below_drewN | apply below_drew1 | refine below_set ?_ GE163.out | refine below_set ?_ GE168.out) | exact HB.out)) hb); clear BK163; clear BK168; clear HB; have BK163 := n0_; have BK168 := n1_; have HB := n2_; clear n0_ n1_ n2_; (try clear hb); (try clear hb2); (try clear hk); (try clear hi)))
                                      go_ret3
                                      exact ⟨by first | rfl | (simp [errW_none, errW_some] <;> rfl) | (simp [*, errW_none, errW_some] <;> rfl), by repeat (first | (with_reducible first | exact HB.out | apply below_alloc | apply pw_below_drewN | apply below_drew1 | refine below_set ?_ GE163.out | refine below_set ?_ GE168.out) | exact HB.out)⟩
                                  · rw [if_neg c24] at H
                                    exact absurd H (by simp)
                                · rw [if_neg c23] at H
                                  have c23b0 : decide (x9_4 < ((rd_L4 l0_1 x7_3).length : Int)) = false := decide_eq_false c23
                                  clear c23
                                  have H' := Aside0.mk H
                                  clear H
                                  have hcz51_0 : wr.cell? ⟨gb163, 0, none⟩ = some (.int .u64 a0_0) := (blk_cell BK163.out 0).trans rfl
                                  have hcz51_1 : wr.cell? ⟨gb163, 1, none⟩ = some (.slice (some ad164) l0_1.length c0_1) := (blk_cell BK163.out 1).trans rfl
                                  have hfz51_0 := blk_frozen BK163.out 0
                                  have hfz51_1 := blk_frozen BK163.out 1
                                  have p165 : 0 ≤ (x7_3 : Int) := of_decide_eq_true (by first | (with_reducible assumption) | assumption)
                                  have q165 : x7_3 < (l0_1.length : Int) := of_decide_eq_true (by first | (with_reducible assumption) | assumption)
                                  obtain ⟨ad165, A165_0, c165_0, e165, hx165_0, hl165_0, hi165_0⟩ := at_L4 HR0_1.out x7_3 p165 q165
                                  obtain rfl : ad164 = ad165 := (by injection e165)
                                  replace hx165_0 := (HB.out.cell (World.block_lt_of_cell? w _ hx165_0)).trans hx165_0
                                  have HR165_0 := Aside0.mk hi165_0
                                  have HC165_0 := Aside0.mk hl165_0
                                  clear hi165_0 hl165_0
                                  replace p165 := eq_true p165
                                  replace q165 := eq_true q165
                                  go_wp2
                                  go_roundg k4
                                  case measure => have := HJ2.out; have := HJ6.out; have := HK3.out; have := HK4.out; omega
                                  case rel => exact ⟨(wrap64 (x7_3 + 1)), (by first | rfl | (simp; done) | (simp [*]; done)), H', ⟨by have := HJ2.out; have := HJ6.out; have := HK3.out; have := HK4.out; omega⟩, ⟨by (with_reducible repeat (first | refine blk_drewN ?_ _ | refine blk_drew ?_ | refine blk_alloc ?_ _)); exact BK163.out⟩, ⟨by repeat (first | (with_reducible first | exact HB.out | apply below_alloc | apply pw_below_drewN | apply below_drew1 | refine below_set ?_ GE163.out) | exact HB.out)⟩⟩
                              · rw [if_neg c22] at H
                                exact absurd H (by simp)
                            · rw [if_neg c21] at H
                              exact absurd H (by simp)
                    · rw [if_neg c17] at H
                      exact absurd H (by simp)
                  · rw [if_neg c16] at H
                    have c16b0 : decide (x7_3 < (l0_1.length : Int)) = false := decide_eq_false c16
                    clear c16
                    simp only [Option.some.injEq, Prod.mk.injEq] at H
                    obtain ⟨rfl, rfl, rfl⟩ := H
                    have hcz52_0 : wr.cell? ⟨gb163, 0, none⟩ = some (.int .u64 a0_0) := (blk_cell BK163.out 0).trans rfl
                    have hcz52_1 : wr.cell? ⟨gb163, 1, none⟩ = some (.slice A0_1 l0_1.length c0_1) := (blk_cell BK163.out 1).trans rfl
                    have hfz52_0 := blk_frozen BK163.out 0
                    have hfz52_1 := blk_frozen BK163.out 1
                    go_wp2
                    go_ret3
                    exact ⟨by first | rfl | (simp [errW_none, errW_some] <;> rfl) | (simp [*, errW_none, errW_some] <;> rfl), by repeat (first | (with_reducible first | exact HB.out | apply below_alloc | apply pw_below_drewN | apply below_drew1 | refine below_set ?_ GE163.out) | exact HB.out)⟩

end Go.Proofs.Ytiacikmignjdoaa.QTableSupplies

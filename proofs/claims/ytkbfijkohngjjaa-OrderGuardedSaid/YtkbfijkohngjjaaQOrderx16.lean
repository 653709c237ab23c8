/- Written out by a program of this session over the translation: the machine's side of rota/rotalaw26.OrderBefores,rota/rotalaw26.OrderStrict,rota/rotalaw26.OrderRules,rota/rotalaw26.OrderArrows,rota/rotalaw26.OrderRaces,rota/rotalaw26.OrderGuarded,rota/rotalaw26.OrderAlone,rota/rotalaw26.OrderClocks,rota/rotalaw26.OrderVector,rota/rotalaw26.OrderOwn. Conditions: each theorem's own. -/
import Derived.Test.YtkbfijkohngjjaaQOrderx0
import Derived.Test.YtkbfijkohngjjaaQOrderx1
namespace Go.Proofs.Ytkbfijkohngjjaa.QOrder
open Go.RowKit Go.Proofs.YtkbfijkohngjjaaW.PrintWords Go.Proofs.YtkbfijkohngjjaaW.PrintLast Go.Proofs.YtkbfijkohngjjaaW.PrintMore
attribute [local go_sem] max2_int min2_int max_two min_two max_three min_three max_four min_four   -- for this text's walks alone
set_option linter.unusedVariables false
set_option linter.unusedSimpArgs false

attribute [local go_sem high] eqA34
/-! ### rotalaw26_exclusive: function 26 -/
mutual
noncomputable def rotalaw26_exclusive.l0 : Nat → List (S36) → Int → Int → Int → Int → Option (Bool)
  | 0, _, _, _, _, _ => none
  | k + 1, x0, x1, x6, x332000, x332001 => if x6 < (x0.length : Int) then (if 0 ≤ x6 then (if ((rd_T36 x0 x6).f3) = 20 then (if ((rd_T36 x0 x6).f4) = x1 then (if ((rd_T36 x0 x6).f5) = 0 then (rotalaw26_exclusive.j1 k x0 x1 x6 true x332000 x332001 ((rd_T36 x0 x6).f0) ((rd_T36 x0 x6).f1) ((rd_T36 x0 x6).f2.f0) ((rd_T36 x0 x6).f2.f1) ((rd_T36 x0 x6).f3) ((rd_T36 x0 x6).f4) ((rd_T36 x0 x6).f5) ((rd_T36 x0 x6).f6)) else (if ((rd_T36 x0 x6).f3) = 25 then (rotalaw26_exclusive.j1 k x0 x1 x6 (((rd_T36 x0 x6).f5) == x1) x332000 x332001 ((rd_T36 x0 x6).f0) ((rd_T36 x0 x6).f1) ((rd_T36 x0 x6).f2.f0) ((rd_T36 x0 x6).f2.f1) ((rd_T36 x0 x6).f3) ((rd_T36 x0 x6).f4) ((rd_T36 x0 x6).f5) ((rd_T36 x0 x6).f6)) else (rotalaw26_exclusive.j1 k x0 x1 x6 false x332000 x332001 ((rd_T36 x0 x6).f0) ((rd_T36 x0 x6).f1) ((rd_T36 x0 x6).f2.f0) ((rd_T36 x0 x6).f2.f1) ((rd_T36 x0 x6).f3) ((rd_T36 x0 x6).f4) ((rd_T36 x0 x6).f5) ((rd_T36 x0 x6).f6)))) else (if ((rd_T36 x0 x6).f3) = 25 then (rotalaw26_exclusive.j1 k x0 x1 x6 (((rd_T36 x0 x6).f5) == x1) x332000 x332001 ((rd_T36 x0 x6).f0) ((rd_T36 x0 x6).f1) ((rd_T36 x0 x6).f2.f0) ((rd_T36 x0 x6).f2.f1) ((rd_T36 x0 x6).f3) ((rd_T36 x0 x6).f4) ((rd_T36 x0 x6).f5) ((rd_T36 x0 x6).f6)) else (rotalaw26_exclusive.j1 k x0 x1 x6 false x332000 x332001 ((rd_T36 x0 x6).f0) ((rd_T36 x0 x6).f1) ((rd_T36 x0 x6).f2.f0) ((rd_T36 x0 x6).f2.f1) ((rd_T36 x0 x6).f3) ((rd_T36 x0 x6).f4) ((rd_T36 x0 x6).f5) ((rd_T36 x0 x6).f6)))) else (if ((rd_T36 x0 x6).f3) = 25 then (rotalaw26_exclusive.j1 k x0 x1 x6 (((rd_T36 x0 x6).f5) == x1) x332000 x332001 ((rd_T36 x0 x6).f0) ((rd_T36 x0 x6).f1) ((rd_T36 x0 x6).f2.f0) ((rd_T36 x0 x6).f2.f1) ((rd_T36 x0 x6).f3) ((rd_T36 x0 x6).f4) ((rd_T36 x0 x6).f5) ((rd_T36 x0 x6).f6)) else (rotalaw26_exclusive.j1 k x0 x1 x6 false x332000 x332001 ((rd_T36 x0 x6).f0) ((rd_T36 x0 x6).f1) ((rd_T36 x0 x6).f2.f0) ((rd_T36 x0 x6).f2.f1) ((rd_T36 x0 x6).f3) ((rd_T36 x0 x6).f4) ((rd_T36 x0 x6).f5) ((rd_T36 x0 x6).f6)))) else (none)) else (some true)
noncomputable def rotalaw26_exclusive.j1 : Nat → List (S36) → Int → Int → Bool → Int → Int → Int → Int → Int → Int → Int → Int → Int → Int → Option (Bool)
  | 0, _, _, _, _, _, _, _, _, _, _, _, _, _, _ => none
  | k + 1, x0, x1, x6, x43, x332000, x332001, x334000, x334001, x334002, x334003, x334004, x334005, x334006, x334007 => if x43 = true then (if (!(x332000 == 0) || (!(x332001 == 0))) = true then (some false) else (if (x334002 == 0 && (x334003 == 0)) = true then (some false) else (rotalaw26_exclusive.j2 k x0 x1 x6 x334002 x334003 x334000 x334001 x334002 x334003 x334004 x334005 x334006 x334007))) else (rotalaw26_exclusive.j2 k x0 x1 x6 x332000 x332001 x334000 x334001 x334002 x334003 x334004 x334005 x334006 x334007)
noncomputable def rotalaw26_exclusive.j2 : Nat → List (S36) → Int → Int → Int → Int → Int → Int → Int → Int → Int → Int → Int → Int → Option (Bool)
  | 0, _, _, _, _, _, _, _, _, _, _, _, _, _ => none
  | k + 1, x0, x1, x6, x332000, x332001, x334000, x334001, x334002, x334003, x334004, x334005, x334006, x334007 => if x334004 = 21 then (if x334005 = x1 then (rotalaw26_exclusive.j3 k x0 x1 x6 (x334006 == 0) x332000 x332001 x334000 x334001 x334002 x334003 x334004 x334005 x334006 x334007) else (rotalaw26_exclusive.j3 k x0 x1 x6 false x332000 x332001 x334000 x334001 x334002 x334003 x334004 x334005 x334006 x334007)) else (rotalaw26_exclusive.j3 k x0 x1 x6 false x332000 x332001 x334000 x334001 x334002 x334003 x334004 x334005 x334006 x334007)
noncomputable def rotalaw26_exclusive.j3 : Nat → List (S36) → Int → Int → Bool → Int → Int → Int → Int → Int → Int → Int → Int → Int → Int → Option (Bool)
  | 0, _, _, _, _, _, _, _, _, _, _, _, _, _, _ => none
  | k + 1, x0, x1, x6, x68, x332000, x332001, x334000, x334001, x334002, x334003, x334004, x334005, x334006, x334007 => if x68 = true then (if (!(x332000 == x334002) || (!(x332001 == x334003))) = true then (some false) else (rotalaw26_exclusive.l0 k x0 x1 (wrap64 (x6 + 1)) 0 0)) else (rotalaw26_exclusive.l0 k x0 x1 (wrap64 (x6 + 1)) x332000 x332001)
end
noncomputable def rotalaw26_exclusive.f (k : Nat) (l0 : List (S36)) (a1 : Int) : Option (Bool) := rotalaw26_exclusive.l0 k l0 a1 0 0 0
theorem rotalaw26_exclusive.mono_l : ∀ k, (∀ y0 y1 y2 y3 y4, LeO (rotalaw26_exclusive.l0 k y0 y1 y2 y3 y4) (rotalaw26_exclusive.l0 (k + 1) y0 y1 y2 y3 y4)) ∧ (∀ y0 y1 y2 y3 y4 y5 y6 y7 y8 y9 y10 y11 y12 y13, LeO (rotalaw26_exclusive.j1 k y0 y1 y2 y3 y4 y5 y6 y7 y8 y9 y10 y11 y12 y13) (rotalaw26_exclusive.j1 (k + 1) y0 y1 y2 y3 y4 y5 y6 y7 y8 y9 y10 y11 y12 y13)) ∧ (∀ y0 y1 y2 y3 y4 y5 y6 y7 y8 y9 y10 y11 y12, LeO (rotalaw26_exclusive.j2 k y0 y1 y2 y3 y4 y5 y6 y7 y8 y9 y10 y11 y12) (rotalaw26_exclusive.j2 (k + 1) y0 y1 y2 y3 y4 y5 y6 y7 y8 y9 y10 y11 y12)) ∧ (∀ y0 y1 y2 y3 y4 y5 y6 y7 y8 y9 y10 y11 y12 y13, LeO (rotalaw26_exclusive.j3 k y0 y1 y2 y3 y4 y5 y6 y7 y8 y9 y10 y11 y12 y13) (rotalaw26_exclusive.j3 (k + 1) y0 y1 y2 y3 y4 y5 y6 y7 y8 y9 y10 y11 y12 y13))
  | 0 => ⟨fun _ _ _ _ _ r h => by simp [rotalaw26_exclusive.l0] at h, fun _ _ _ _ _ _ _ _ _ _ _ _ _ _ r h => by simp [rotalaw26_exclusive.j1] at h, fun _ _ _ _ _ _ _ _ _ _ _ _ _ r h => by simp [rotalaw26_exclusive.j2] at h, fun _ _ _ _ _ _ _ _ _ _ _ _ _ _ r h => by simp [rotalaw26_exclusive.j3] at h⟩
  | k + 1 => by
    obtain ⟨ih0, ih1, ih2, ih3⟩ := rotalaw26_exclusive.mono_l k
    refine ⟨?_, ?_, ?_, ?_⟩
    · intro y0 y1 y2 y3 y4
      unfold rotalaw26_exclusive.l0
      repeat' first
      | (with_reducible exact ih0 _ _ _ _ _)
      | (with_reducible exact ih1 _ _ _ _ _ _ _ _ _ _ _ _ _ _)
      | (with_reducible exact ih2 _ _ _ _ _ _ _ _ _ _ _ _ _)
      | (with_reducible exact ih3 _ _ _ _ _ _ _ _ _ _ _ _ _ _)
      | (with_reducible exact LeO.refl _)
      | (with_reducible exact LeO.none _)
      | (with_reducible refine LeO.ite ?_ ?_)
      | (with_reducible refine LeO.bind ?_ (fun _ => ?_))
      | exact ih0 _ _ _ _ _
      | exact ih1 _ _ _ _ _ _ _ _ _ _ _ _ _ _
      | exact ih2 _ _ _ _ _ _ _ _ _ _ _ _ _
      | exact ih3 _ _ _ _ _ _ _ _ _ _ _ _ _ _
      | exact LeO.none _
      | refine LeO.ite ?_ ?_
      | refine LeO.bind ?_ (fun _ => ?_)
    · intro y0 y1 y2 y3 y4 y5 y6 y7 y8 y9 y10 y11 y12 y13
      unfold rotalaw26_exclusive.j1
      repeat' first
      | (with_reducible exact ih0 _ _ _ _ _)
      | (with_reducible exact ih1 _ _ _ _ _ _ _ _ _ _ _ _ _ _)
      | (with_reducible exact ih2 _ _ _ _ _ _ _ _ _ _ _ _ _)
      | (with_reducible exact ih3 _ _ _ _ _ _ _ _ _ _ _ _ _ _)
      | (with_reducible exact LeO.refl _)
      | (with_reducible exact LeO.none _)
      | (with_reducible refine LeO.ite ?_ ?_)
      | (with_reducible refine LeO.bind ?_ (fun _ => ?_))
      | exact ih0 _ _ _ _ _
      | exact ih1 _ _ _ _ _ _ _ _ _ _ _ _ _ _
      | exact ih2 _ _ _ _ _ _ _ _ _ _ _ _ _
      | exact ih3 _ _ _ _ _ _ _ _ _ _ _ _ _ _
      | exact LeO.none _
      | refine LeO.ite ?_ ?_
      | refine LeO.bind ?_ (fun _ => ?_)
    · intro y0 y1 y2 y3 y4 y5 y6 y7 y8 y9 y10 y11 y12
      unfold rotalaw26_exclusive.j2
      repeat' first
      | (with_reducible exact ih0 _ _ _ _ _)
      | (with_reducible exact ih1 _ _ _ _ _ _ _ _ _ _ _ _ _ _)
      | (with_reducible exact ih2 _ _ _ _ _ _ _ _ _ _ _ _ _)
      | (with_reducible exact ih3 _ _ _ _ _ _ _ _ _ _ _ _ _ _)
      | (with_reducible exact LeO.refl _)
      | (with_reducible exact LeO.none _)
      | (with_reducible refine LeO.ite ?_ ?_)
      | (with_reducible refine LeO.bind ?_ (fun _ => ?_))
      | exact ih0 _ _ _ _ _
      | exact ih1 _ _ _ _ _ _ _ _ _ _ _ _ _ _
      | exact ih2 _ _ _ _ _ _ _ _ _ _ _ _ _
      | exact ih3 _ _ _ _ _ _ _ _ _ _ _ _ _ _
      | exact LeO.none _
      | refine LeO.ite ?_ ?_
      | refine LeO.bind ?_ (fun _ => ?_)
    · intro y0 y1 y2 y3 y4 y5 y6 y7 y8 y9 y10 y11 y12 y13
      unfold rotalaw26_exclusive.j3
      repeat' first
      | (with_reducible exact ih0 _ _ _ _ _)
      | (with_reducible exact ih1 _ _ _ _ _ _ _ _ _ _ _ _ _ _)
      | (with_reducible exact ih2 _ _ _ _ _ _ _ _ _ _ _ _ _)
      | (with_reducible exact ih3 _ _ _ _ _ _ _ _ _ _ _ _ _ _)
      | (with_reducible exact LeO.refl _)
      | (with_reducible exact LeO.none _)
      | (with_reducible refine LeO.ite ?_ ?_)
      | (with_reducible refine LeO.bind ?_ (fun _ => ?_))
      | exact ih0 _ _ _ _ _
      | exact ih1 _ _ _ _ _ _ _ _ _ _ _ _ _ _
      | exact ih2 _ _ _ _ _ _ _ _ _ _ _ _ _
      | exact ih3 _ _ _ _ _ _ _ _ _ _ _ _ _ _
      | exact LeO.none _
      | refine LeO.ite ?_ ?_
      | refine LeO.bind ?_ (fun _ => ?_)
theorem rotalaw26_exclusive.mono : ∀ a0 a1 k, LeO (rotalaw26_exclusive.f k a0 a1) (rotalaw26_exclusive.f (k + 1) a0 a1) := by
  intro a0 a1 k
  obtain ⟨ih0, ih1, ih2, ih3⟩ := rotalaw26_exclusive.mono_l k
  unfold rotalaw26_exclusive.f
  repeat' first
      | (with_reducible exact ih0 _ _ _ _ _)
      | (with_reducible exact ih1 _ _ _ _ _ _ _ _ _ _ _ _ _ _)
      | (with_reducible exact ih2 _ _ _ _ _ _ _ _ _ _ _ _ _)
      | (with_reducible exact ih3 _ _ _ _ _ _ _ _ _ _ _ _ _ _)
      | (with_reducible exact LeO.refl _)
      | (with_reducible exact LeO.none _)
      | (with_reducible refine LeO.ite ?_ ?_)
      | (with_reducible refine LeO.bind ?_ (fun _ => ?_))
      | exact ih0 _ _ _ _ _
      | exact ih1 _ _ _ _ _ _ _ _ _ _ _ _ _ _
      | exact ih2 _ _ _ _ _ _ _ _ _ _ _ _ _
      | exact ih3 _ _ _ _ _ _ _ _ _ _ _ _ _ _
      | exact LeO.none _
      | refine LeO.ite ?_ ?_
      | refine LeO.bind ?_ (fun _ => ?_)
set_option maxHeartbeats 8000000 in
set_option maxRecDepth 100000 in
theorem rotalaw26_exclusive.calls (k : Nat) (A0 : Option Addr) (c0 : Nat) (l0 : List (S36)) (a1 : Int) (r : Bool) (w : World) (hr0 : Kd.C k36 w A0 l0.length l0) (hc0 : l0.length ≤ c0) (h : rotalaw26_exclusive.f k l0 a1 = some r) :
    Calls Try.prog 26 #[.slice A0 l0.length c0, .int .i64 a1] w fun e w' => e = .returned (.bool r) ∧ Below w.heap.size w w' := by
  have hu34 := Try.underlying34
  have hu36 := Try.underlying36
  have HR0 := Aside0.mk hr0
  have HC0 := Aside0.mk hc0
  clear hr0 hc0
  have HB := Aside0.mk (Below.refl w.heap.size w)
  have H : (rotalaw26_exclusive.l0 k l0 a1 0 0 0) = some r := h
  clear h
  have H' := Aside0.mk H
  clear H
  go_enter Try.func26, Try.ntmps26
  go_wp2_with (first | ((with_reducible refine gate_dst (N := 5) rfl ?_); refine box_event ?hg (N := 5) ?hd (cs := #[.int .i64 0, .int .i64 0]) (t := 34) ?hr ?_; (case hd => rfl); (case hg => rfl); (case hr => first | (go_simp; done) | (go_simp; rfl)); intro gb331 hg w3 hbox hb; have n0_ := Aside0.mk (below_step (by repeat (first | (with_reducible first | exact HB.out | apply below_alloc | apply pw_below_drewN | apply below_drew1) | exact HB.out)) hb); have n1_ := Aside0.mk (hbox); have n2_ := Aside0.mk ((by rw [hg]; exact (below_size (by repeat (first | (with_reducible first | exact HB.out | apply below_alloc | apply pw_below_drewN | apply below_drew1) | exact HB.out))) : w.heap.size ≤ gb331)); have n3_ := Aside0.mk ((by rw [hg]; exact (below_size (by repeat (first | (with_reducible first | exact HB.out | apply below_alloc | apply pw_below_drewN | apply below_drew1) | exact HB.out))) : w.heap.size ≤ gb331)); clear HB; have HB := n0_; have BK331 := n1_; have GW331 := n2_; have GE331 := n3_; clear n0_ n1_ n2_ n3_; clear hb hbox hg; have hcz4_0 : w3.cell? ⟨gb331, 0, none⟩ = some (.int .i64 0) := (blk_cell BK331.out 0).trans rfl; have hcz4_1 : w3.cell? ⟨gb331, 1, none⟩ = some (.int .i64 0) := (blk_cell BK331.out 1).trans rfl; have hfz4_0 := blk_frozen BK331.out 0; have hfz4_1 := blk_frozen BK331.out 1))
  go_loopg [6] k (fun kq v6 w' => ∃ (x6_1 : Int) (x332000_1 : Int) (x332001_1 : Int), v6 = .int .i64 x6_1 ∧ Aside0 (rotalaw26_exclusive.l0 kq l0 a1 x6_1 x332000_1 x332001_1 = some r) ∧ Aside0 (kq ≤ k) ∧ Aside0 (w'.heap[gb331]? = some (.cells #[.int .i64 x332000_1, .int .i64 x332001_1] 34 (0, 0))) ∧ Aside0 (Below w.heap.size w w'))
  case atStart => exact ⟨(0), (0), (0), (by first | rfl | (simp; done) | (simp [*]; done)), H', ⟨Nat.le_refl _⟩, ⟨by (with_reducible repeat (first | refine blk_drewN ?_ _ | refine blk_drew ?_ | refine blk_alloc ?_ _)); refine blk_put (cs := #[.int .i64 0, .int .i64 0]) ?_ 1 _ rfl; (with_reducible repeat (first | refine blk_drewN ?_ _ | refine blk_drew ?_ | refine blk_alloc ?_ _)); refine blk_put (cs := #[.int .i64 0, .int .i64 0]) ?_ 0 _ rfl; (with_reducible repeat (first | refine blk_drewN ?_ _ | refine blk_drew ?_ | refine blk_alloc ?_ _)); exact BK331.out⟩, ⟨by repeat (first | (with_reducible first | exact HB.out | apply below_alloc | apply pw_below_drewN | apply below_drew1 | refine below_set ?_ GE331.out) | exact HB.out)⟩⟩
  case round =>
    clear H'
    try clear c2
    try clear p2
    try clear hcz4_0
    try clear hcz4_1
    try clear hfz4_0
    try clear hfz4_1
    obtain ⟨x6_1, x332000_1, x332001_1, rfl, HA, HK1, BK331, HB⟩ := hrel
    cases gk with
    | zero => exact absurd HA.out (by simp [rotalaw26_exclusive.l0])
    | succ k1 =>
      have H := HA.out
      clear HA
      simp only [rotalaw26_exclusive.l0] at H
      by_cases c5 : x6_1 < (l0.length : Int)
      · rw [if_pos c5] at H
        have c5b0 : decide (x6_1 < (l0.length : Int)) = true := decide_eq_true c5
        clear c5
        by_cases c6 : 0 ≤ x6_1
        · rw [if_pos c6] at H
          have c6b0 : decide (0 ≤ x6_1) = true := decide_eq_true c6
          clear c6
          have HC7 := Aside0.mk H
          clear H
          have p332 : 0 ≤ (x6_1 : Int) := of_decide_eq_true (by first | (with_reducible assumption) | assumption)
          have q332 : x6_1 < (l0.length : Int) := of_decide_eq_true (by first | (with_reducible assumption) | assumption)
          obtain ⟨ad332, e332, hx332_0, hx332_1, hx332_2, hx332_3, hx332_4, hx332_5, hx332_6, hx332_7⟩ := at_T36 HR0.out x6_1 p332 q332
          cases e332
          replace hx332_0 := (HB.out.cell (World.block_lt_of_cell? w _ hx332_0)).trans hx332_0
          replace hx332_1 := (HB.out.cell (World.block_lt_of_cell? w _ hx332_1)).trans hx332_1
          replace hx332_2 := (HB.out.cell (World.block_lt_of_cell? w _ hx332_2)).trans hx332_2
          replace hx332_3 := (HB.out.cell (World.block_lt_of_cell? w _ hx332_3)).trans hx332_3
          replace hx332_4 := (HB.out.cell (World.block_lt_of_cell? w _ hx332_4)).trans hx332_4
          replace hx332_5 := (HB.out.cell (World.block_lt_of_cell? w _ hx332_5)).trans hx332_5
          replace hx332_6 := (HB.out.cell (World.block_lt_of_cell? w _ hx332_6)).trans hx332_6
          replace hx332_7 := (HB.out.cell (World.block_lt_of_cell? w _ hx332_7)).trans hx332_7
          replace p332 := eq_true p332
          replace q332 := eq_true q332
          go_upto_region 6 with (first | ((with_reducible refine gate_dst (N := 7) rfl ?_); refine box_event ?hg (N := 7) ?hd (cs := #[.int .u64 0, .int .i64 0, .int .i64 0, .int .i64 0, .int .i64 0, .int .i64 0, .int .i64 0, .int .i64 0]) (t := 36) ?hr ?_; (case hd => rfl); (case hg => rfl); (case hr => first | (go_simp; done) | (go_simp; rfl)); intro gb333 hg w8 hbox hb; have n0_ := Aside0.mk (blk_below (g := gb331) (o := .cells #[.int .i64 x332000_1, .int .i64 x332001_1] 34 (0, 0)) (by (with_reducible repeat (first | refine blk_drewN ?_ _ | refine blk_drew ?_ | refine blk_alloc ?_ _)); exact BK331.out) hb); have n1_ := Aside0.mk (below_step (by repeat (first | (with_reducible first | exact HB.out | apply below_alloc | apply pw_below_drewN | apply below_drew1 | refine below_set ?_ GE331.out) | exact HB.out)) hb); have n2_ := Aside0.mk (hbox); have n3_ := Aside0.mk ((by rw [hg]; exact (below_size (by repeat (first | (with_reducible first | exact HB.out | apply below_alloc | apply pw_below_drewN | apply below_drew1 | refine below_set ?_ GE331.out) | exact HB.out))) : w.heap.size ≤ gb333)); have n4_ := Aside0.mk ((by rw [hg]; exact (below_size (by repeat (first | (with_reducible first | exact HB.out | apply below_alloc | apply pw_below_drewN | apply below_drew1 | refine below_set ?_ GE331.out) | exact HB.out))) : w.heap.size ≤ gb333)); have n5_ := Aside0.mk ((by rw [hg]; exact Nat.ne_of_lt (blk_lt (g := gb331) (o := .cells #[.int .i64 x332000_1, .int .i64 x332001_1] 34 (0, 0)) (by (with_reducible repeat (first | refine blk_drewN ?_ _ | refine blk_drew ?_ | refine blk_alloc ?_ _)); exact BK331.out)) : gb331 ≠ gb333)); have n6_ := Aside0.mk ((by rw [hg]; exact Nat.ne_of_gt (blk_lt (g := gb331) (o := .cells #[.int .i64 x332000_1, .int .i64 x332001_1] 34 (0, 0)) (by (with_reducible repeat (first | refine blk_drewN ?_ _ | refine blk_drew ?_ | refine blk_alloc ?_ _)); exact BK331.out)) : gb333 ≠ gb331)); clear BK331; clear HB; have BK331 := n0_; have HB := n1_; have BK333 := n2_; have GW333 := n3_; have GE333 := n4_; have NB331_333 := n5_; have NB333_331 := n6_; clear n0_ n1_ n2_ n3_ n4_ n5_ n6_; clear hb hbox hg; have hnb9 := NB333_331.out; have hnc9 := NB331_333.out; have hcz10_0 : w8.cell? ⟨gb333, 0, none⟩ = some (.int .u64 0) := (blk_cell BK333.out 0).trans rfl; have hcz10_1 : w8.cell? ⟨gb333, 1, none⟩ = some (.int .i64 0) := (blk_cell BK333.out 1).trans rfl; have hcz10_2 : w8.cell? ⟨gb333, 2, none⟩ = some (.int .i64 0) := (blk_cell BK333.out 2).trans rfl; have hcz10_3 : w8.cell? ⟨gb333, 3, none⟩ = some (.int .i64 0) := (blk_cell BK333.out 3).trans rfl; have hcz10_4 : w8.cell? ⟨gb333, 4, none⟩ = some (.int .i64 0) := (blk_cell BK333.out 4).trans rfl; have hcz10_5 : w8.cell? ⟨gb333, 5, none⟩ = some (.int .i64 0) := (blk_cell BK333.out 5).trans rfl; have hcz10_6 : w8.cell? ⟨gb333, 6, none⟩ = some (.int .i64 0) := (blk_cell BK333.out 6).trans rfl; have hcz10_7 : w8.cell? ⟨gb333, 7, none⟩ = some (.int .i64 0) := (blk_cell BK333.out 7).trans rfl; have hfz10_0 := blk_frozen BK333.out 0; have hfz10_1 := blk_frozen BK333.out 1; have hfz10_2 := blk_frozen BK333.out 2; have hfz10_3 := blk_frozen BK333.out 3; have hfz10_4 := blk_frozen BK333.out 4; have hfz10_5 := blk_frozen BK333.out 5; have hfz10_6 := blk_frozen BK333.out 6; have hfz10_7 := blk_frozen BK333.out 7))
          (try simp only [Act.put, List.setIfInBounds_toArray, List.set_cons_zero, List.set_cons_succ])
          go_cut [43] (fun v43 wc => ∃ (kq : Nat) (x43_6 : Bool), v43 = .bool x43_6 ∧ Aside0 (rotalaw26_exclusive.j1 kq l0 a1 x6_1 x43_6 x332000_1 x332001_1 ((rd_T36 l0 x6_1).f0) ((rd_T36 l0 x6_1).f1) ((rd_T36 l0 x6_1).f2.f0) ((rd_T36 l0 x6_1).f2.f1) ((rd_T36 l0 x6_1).f3) ((rd_T36 l0 x6_1).f4) ((rd_T36 l0 x6_1).f5) ((rd_T36 l0 x6_1).f6) = some r) ∧ Aside0 (kq ≤ k1) ∧ Aside0 (wc.heap[gb331]? = some (.cells #[.int .i64 x332000_1, .int .i64 x332001_1] 34 (0, 0))) ∧ Aside0 (wc.heap[gb333]? = some (.cells #[.int .u64 ((rd_T36 l0 x6_1).f0), .int .i64 ((rd_T36 l0 x6_1).f1), .int .i64 ((rd_T36 l0 x6_1).f2.f0), .int .i64 ((rd_T36 l0 x6_1).f2.f1), .int .i64 ((rd_T36 l0 x6_1).f3), .int .i64 ((rd_T36 l0 x6_1).f4), .int .i64 ((rd_T36 l0 x6_1).f5), .int .i64 ((rd_T36 l0 x6_1).f6)] 36 (0, 0))) ∧ Aside0 (Below w.heap.size w wc))
          case first =>
            have H := HC7.out
            clear HC7
            by_cases c11 : ((rd_T36 l0 x6_1).f3) = 20
            · rw [if_pos c11] at H
              have c11b0 : (((rd_T36 l0 x6_1).f3) == 20) = true := beq_iff_eq.mpr c11
              have c11b1 : (((rd_T36 l0 x6_1).f3) != 20) = false := bne_eq_false_iff_eq.mpr c11
              clear c11
              (first | rw [c11b0] | (simp only [i64_w, i32_w]; rw [c11b0]) | skip)
              by_cases c12 : ((rd_T36 l0 x6_1).f4) = a1
              · rw [if_pos c12] at H
                have c12b0 : (((rd_T36 l0 x6_1).f4) == a1) = true := beq_iff_eq.mpr c12
                have c12b1 : (((rd_T36 l0 x6_1).f4) != a1) = false := bne_eq_false_iff_eq.mpr c12
                clear c12
                by_cases c13 : ((rd_T36 l0 x6_1).f5) = 0
                · rw [if_pos c13] at H
                  have c13b0 : (((rd_T36 l0 x6_1).f5) == 0) = true := beq_iff_eq.mpr c13
                  have c13b1 : (((rd_T36 l0 x6_1).f5) != 0) = false := bne_eq_false_iff_eq.mpr c13
                  clear c13
                  have H' := Aside0.mk H
                  clear H
                  have hnb14 := NB333_331.out
                  have hnc14 := NB331_333.out
                  have hcz15_0 : w8.cell? ⟨gb333, 0, none⟩ = some (.int .u64 0) := (blk_cell BK333.out 0).trans rfl
                  have hcz15_1 : w8.cell? ⟨gb333, 1, none⟩ = some (.int .i64 0) := (blk_cell BK333.out 1).trans rfl
                  have hcz15_2 : w8.cell? ⟨gb333, 2, none⟩ = some (.int .i64 0) := (blk_cell BK333.out 2).trans rfl
                  have hcz15_3 : w8.cell? ⟨gb333, 3, none⟩ = some (.int .i64 0) := (blk_cell BK333.out 3).trans rfl
                  have hcz15_4 : w8.cell? ⟨gb333, 4, none⟩ = some (.int .i64 0) := (blk_cell BK333.out 4).trans rfl
                  have hcz15_5 : w8.cell? ⟨gb333, 5, none⟩ = some (.int .i64 0) := (blk_cell BK333.out 5).trans rfl
                  have hcz15_6 : w8.cell? ⟨gb333, 6, none⟩ = some (.int .i64 0) := (blk_cell BK333.out 6).trans rfl
                  have hcz15_7 : w8.cell? ⟨gb333, 7, none⟩ = some (.int .i64 0) := (blk_cell BK333.out 7).trans rfl
                  have hfz15_0 := blk_frozen BK333.out 0
                  have hfz15_1 := blk_frozen BK333.out 1
                  have hfz15_2 := blk_frozen BK333.out 2
                  have hfz15_3 := blk_frozen BK333.out 3
                  have hfz15_4 := blk_frozen BK333.out 4
                  have hfz15_5 := blk_frozen BK333.out 5
                  have hfz15_6 := blk_frozen BK333.out 6
                  have hfz15_7 := blk_frozen BK333.out 7
                  go_wp2
                  go_meet
                  case rel => exact ⟨_, (true), (by first | rfl | (simp; done) | (simp [*]; done)), H', ⟨by have := HK1.out; first | omega | exact Nat.le_refl _⟩, ⟨by (with_reducible repeat (first | refine blk_drewN ?_ _ | refine blk_drew ?_ | refine blk_alloc ?_ _)); refine blk_far ?_ NB331_333.out _; (with_reducible repeat (first | refine blk_drewN ?_ _ | refine blk_drew ?_ | refine blk_alloc ?_ _)); refine blk_far ?_ NB331_333.out _; (with_reducible repeat (first | refine blk_drewN ?_ _ | refine blk_drew ?_ | refine blk_alloc ?_ _)); refine blk_far ?_ NB331_333.out _; (with_reducible repeat (first | refine blk_drewN ?_ _ | refine blk_drew ?_ | refine blk_alloc ?_ _)); refine blk_far ?_ NB331_333.out _; (with_reducible repeat (first | refine blk_drewN ?_ _ | refine blk_drew ?_ | refine blk_alloc ?_ _)); refine blk_far ?_ NB331_333.out _; (with_reducible repeat (first | refine blk_drewN ?_ _ | refine blk_drew ?_ | refine blk_alloc ?_ _)); refine blk_far ?_ NB331_333.out _; (with_reducible repeat (first | refine blk_drewN ?_ _ | refine blk_drew ?_ | refine blk_alloc ?_ _)); refine blk_far ?_ NB331_333.out _; (with_reducible repeat (first | refine blk_drewN ?_ _ | refine blk_drew ?_ | refine blk_alloc ?_ _)); refine blk_far ?_ NB331_333.out _; (with_reducible repeat (first | refine blk_drewN ?_ _ | refine blk_drew ?_ | refine blk_alloc ?_ _)); exact BK331.out⟩, ⟨by (with_reducible repeat (first | refine blk_drewN ?_ _ | refine blk_drew ?_ | refine blk_alloc ?_ _)); refine blk_put (cs := #[.int .u64 ((rd_T36 l0 x6_1).f0), .int .i64 ((rd_T36 l0 x6_1).f1), .int .i64 ((rd_T36 l0 x6_1).f2.f0), .int .i64 ((rd_T36 l0 x6_1).f2.f1), .int .i64 ((rd_T36 l0 x6_1).f3), .int .i64 ((rd_T36 l0 x6_1).f4), .int .i64 ((rd_T36 l0 x6_1).f5), .int .i64 0]) ?_ 7 _ rfl; (with_reducible repeat (first | refine blk_drewN ?_ _ | refine blk_drew ?_ | refine blk_alloc ?_ _)); refine blk_put (cs := #[.int .u64 ((rd_T36 l0 x6_1).f0), .int .i64 ((rd_T36 l0 x6_1).f1), .int .i64 ((rd_T36 l0 x6_1).f2.f0), .int .i64 ((rd_T36 l0 x6_1).f2.f1), .int .i64 ((rd_T36 l0 x6_1).f3), .int .i64 ((rd_T36 l0 x6_1).f4), .int .i64 0, .int .i64 0]) ?_ 6 _ rfl; (with_reducible repeat (first | refine blk_drewN ?_ _ | refine blk_drew ?_ | refine blk_alloc ?_ _)); refine blk_put (cs := #[.int .u64 ((rd_T36 l0 x6_1).f0), .int .i64 ((rd_T36 l0 x6_1).f1), .int .i64 ((rd_T36 l0 x6_1).f2.f0), .int .i64 ((rd_T36 l0 x6_1).f2.f1), .int .i64 ((rd_T36 l0 x6_1).f3), .int .i64 0, .int .i64 0, .int .i64 0]) ?_ 5 _ rfl; (with_reducible repeat (first | refine blk_drewN ?_ _ | refine blk_drew ?_ | refine blk_alloc ?_ _)); refine blk_put (cs := #[.int .u64 ((rd_T36 l0 x6_1).f0), .int .i64 ((rd_T36 l0 x6_1).f1), .int .i64 ((rd_T36 l0 x6_1).f2.f0), .int .i64 ((rd_T36 l0 x6_1).f2.f1), .int .i64 0, .int .i64 0, .int .i64 0, .int .i64 0]) ?_ 4 _ rfl; (with_reducible repeat (first | refine blk_drewN ?_ _ | refine blk_drew ?_ | refine blk_alloc ?_ _)); refine blk_put (cs := #[.int .u64 ((rd_T36 l0 x6_1).f0), .int .i64 ((rd_T36 l0 x6_1).f1), .int .i64 ((rd_T36 l0 x6_1).f2.f0), .int .i64 0, .int .i64 0, .int .i64 0, .int .i64 0, .int .i64 0]) ?_ 3 _ rfl; (with_reducible repeat (first | refine blk_drewN ?_ _ | refine blk_drew ?_ | refine blk_alloc ?_ _)); refine blk_put (cs := #[.int .u64 ((rd_T36 l0 x6_1).f0), .int .i64 ((rd_T36 l0 x6_1).f1), .int .i64 0, .int .i64 0, .int .i64 0, .int .i64 0, .int .i64 0, .int .i64 0]) ?_ 2 _ rfl; (with_reducible repeat (first | refine blk_drewN ?_ _ | refine blk_drew ?_ | refine blk_alloc ?_ _)); refine blk_put (cs := #[.int .u64 ((rd_T36 l0 x6_1).f0), .int .i64 0, .int .i64 0, .int .i64 0, .int .i64 0, .int .i64 0, .int .i64 0, .int .i64 0]) ?_ 1 _ rfl; (with_reducible repeat (first | refine blk_drewN ?_ _ | refine blk_drew ?_ | refine blk_alloc ?_ _)); refine blk_put (cs := #[.int .u64 0, .int .i64 0, .int .i64 0, .int .i64 0, .int .i64 0, .int .i64 0, .int .i64 0, .int .i64 0]) ?_ 0 _ rfl; (with_reducible repeat (first | refine blk_drewN ?_ _ | refine blk_drew ?_ | refine blk_alloc ?_ _)); exact BK333.out⟩, ⟨by repeat (first | (with_reducible first | exact HB.out | apply below_alloc | apply pw_below_drewN | apply below_drew1 | refine below_set ?_ GE331.out | refine below_set ?_ GE333.out) | exact HB.out)⟩⟩
                · rw [if_neg c13] at H
                  have c13b0 : (((rd_T36 l0 x6_1).f5) == 0) = false := beq_eq_false_iff_ne.mpr c13
                  have c13b1 : (((rd_T36 l0 x6_1).f5) != 0) = true := bne_iff_ne.mpr c13
                  by_cases c16 : ((rd_T36 l0 x6_1).f3) = 25
                  · rw [if_pos c16] at H
                    have c16b0 : (((rd_T36 l0 x6_1).f3) == 25) = true := beq_iff_eq.mpr c16
                    have c16b1 : (((rd_T36 l0 x6_1).f3) != 25) = false := bne_eq_false_iff_eq.mpr c16
                    clear c16
                    have H' := Aside0.mk H
                    clear H
                    have hnb17 := NB333_331.out
                    have hnc17 := NB331_333.out
                    have hcz18_0 : w8.cell? ⟨gb333, 0, none⟩ = some (.int .u64 0) := (blk_cell BK333.out 0).trans rfl
                    have hcz18_1 : w8.cell? ⟨gb333, 1, none⟩ = some (.int .i64 0) := (blk_cell BK333.out 1).trans rfl
                    have hcz18_2 : w8.cell? ⟨gb333, 2, none⟩ = some (.int .i64 0) := (blk_cell BK333.out 2).trans rfl
                    have hcz18_3 : w8.cell? ⟨gb333, 3, none⟩ = some (.int .i64 0) := (blk_cell BK333.out 3).trans rfl
                    have hcz18_4 : w8.cell? ⟨gb333, 4, none⟩ = some (.int .i64 0) := (blk_cell BK333.out 4).trans rfl
                    have hcz18_5 : w8.cell? ⟨gb333, 5, none⟩ = some (.int .i64 0) := (blk_cell BK333.out 5).trans rfl
                    have hcz18_6 : w8.cell? ⟨gb333, 6, none⟩ = some (.int .i64 0) := (blk_cell BK333.out 6).trans rfl
                    have hcz18_7 : w8.cell? ⟨gb333, 7, none⟩ = some (.int .i64 0) := (blk_cell BK333.out 7).trans rfl
                    have hfz18_0 := blk_frozen BK333.out 0
                    have hfz18_1 := blk_frozen BK333.out 1
                    have hfz18_2 := blk_frozen BK333.out 2
                    have hfz18_3 := blk_frozen BK333.out 3
                    have hfz18_4 := blk_frozen BK333.out 4
                    have hfz18_5 := blk_frozen BK333.out 5
                    have hfz18_6 := blk_frozen BK333.out 6
                    have hfz18_7 := blk_frozen BK333.out 7
                    go_wp2
                    go_meet
                    case rel => exact ⟨_, ((((rd_T36 l0 x6_1).f5) == a1)), (by first | rfl | (simp; done) | (simp [*]; done)), H', ⟨by have := HK1.out; first | omega | exact Nat.le_refl _⟩, ⟨by (with_reducible repeat (first | refine blk_drewN ?_ _ | refine blk_drew ?_ | refine blk_alloc ?_ _)); refine blk_far ?_ NB331_333.out _; (with_reducible repeat (first | refine blk_drewN ?_ _ | refine blk_drew ?_ | refine blk_alloc ?_ _)); refine blk_far ?_ NB331_333.out _; (with_reducible repeat (first | refine blk_drewN ?_ _ | refine blk_drew ?_ | refine blk_alloc ?_ _)); refine blk_far ?_ NB331_333.out _; (with_reducible repeat (first | refine blk_drewN ?_ _ | refine blk_drew ?_ | refine blk_alloc ?_ _)); refine blk_far ?_ NB331_333.out _; (with_reducible repeat (first | refine blk_drewN ?_ _ | refine blk_drew ?_ | refine blk_alloc ?_ _)); refine blk_far ?_ NB331_333.out _; (with_reducible repeat (first | refine blk_drewN ?_ _ | refine blk_drew ?_ | refine blk_alloc ?_ _)); refine blk_far ?_ NB331_333.out _; (with_reducible repeat (first | refine blk_drewN ?_ _ | refine blk_drew ?_ | refine blk_alloc ?_ _)); refine blk_far ?_ NB331_333.out _; (with_reducible repeat (first | refine blk_drewN ?_ _ | refine blk_drew ?_ | refine blk_alloc ?_ _)); refine blk_far ?_ NB331_333.out _; (with_reducible repeat (first | refine blk_drewN ?_ _ | refine blk_drew ?_ | refine blk_alloc ?_ _)); exact BK331.out⟩, ⟨by (with_reducible repeat (first | refine blk_drewN ?_ _ | refine blk_drew ?_ | refine blk_alloc ?_ _)); refine blk_put (cs := #[.int .u64 ((rd_T36 l0 x6_1).f0), .int .i64 ((rd_T36 l0 x6_1).f1), .int .i64 ((rd_T36 l0 x6_1).f2.f0), .int .i64 ((rd_T36 l0 x6_1).f2.f1), .int .i64 ((rd_T36 l0 x6_1).f3), .int .i64 ((rd_T36 l0 x6_1).f4), .int .i64 ((rd_T36 l0 x6_1).f5), .int .i64 0]) ?_ 7 _ rfl; (with_reducible repeat (first | refine blk_drewN ?_ _ | refine blk_drew ?_ | refine blk_alloc ?_ _)); refine blk_put (cs := #[.int .u64 ((rd_T36 l0 x6_1).f0), .int .i64 ((rd_T36 l0 x6_1).f1), .int .i64 ((rd_T36 l0 x6_1).f2.f0), .int .i64 ((rd_T36 l0 x6_1).f2.f1), .int .i64 ((rd_T36 l0 x6_1).f3), .int .i64 ((rd_T36 l0 x6_1).f4), .int .i64 0, .int .i64 0]) ?_ 6 _ rfl; (with_reducible repeat (first | refine blk_drewN ?_ _ | refine blk_drew ?_ | refine blk_alloc ?_ _)); refine blk_put (cs := #[.int .u64 ((rd_T36 l0 x6_1).f0), .int .i64 ((rd_T36 l0 x6_1).f1), .int .i64 ((rd_T36 l0 x6_1).f2.f0), .int .i64 ((rd_T36 l0 x6_1).f2.f1), .int .i64 ((rd_T36 l0 x6_1).f3), .int .i64 0, .int .i64 0, .int .i64 0]) ?_ 5 _ rfl; (with_reducible repeat (first | refine blk_drewN ?_ _ | refine blk_drew ?_ | refine blk_alloc ?_ _)); refine blk_put (cs := #[.int .u64 ((rd_T36 l0 x6_1).f0), .int .i64 ((rd_T36 l0 x6_1).f1), .int .i64 ((rd_T36 l0 x6_1).f2.f0), .int .i64 ((rd_T36 l0 x6_1).f2.f1), .int .i64 0, .int .i64 0, .int .i64 0, .int .i64 0]) ?_ 4 _ rfl; (with_reducible repeat (first | refine blk_drewN ?_ _ | refine blk_drew ?_ | refine blk_alloc ?_ _)); refine blk_put (cs := #[.int .u64 ((rd_T36 l0 x6_1).f0), .int .i64 ((rd_T36 l0 x6_1).f1), .int .i64 ((rd_T36 l0 x6_1).f2.f0), .int .i64 0, .int .i64 0, .int .i64 0, .int .i64 0, .int .i64 0]) ?_ 3 _ rfl; (with_reducible repeat (first | refine blk_drewN ?_ _ | refine blk_drew ?_ | refine blk_alloc ?_ _)); refine blk_put (cs := #[.int .u64 ((rd_T36 l0 x6_1).f0), .int .i64 ((rd_T36 l0 x6_1).f1), .int .i64 0, .int .i64 0, .int .i64 0, .int .i64 0, .int .i64 0, .int .i64 0]) ?_ 2 _ rfl; (with_reducible repeat (first | refine blk_drewN ?_ _ | refine blk_drew ?_ | refine blk_alloc ?_ _)); refine blk_put (cs := #[.int .u64 ((rd_T36 l0 x6_1).f0), .int .i64 0, .int .i64 0, .int .i64 0, .int .i64 0, .int .i64 0, .int .i64 0, .int .i64 0]) ?_ 1 _ rfl; (with_reducible repeat (first | refine blk_drewN ?_ _ | refine blk_drew ?_ | refine blk_alloc ?_ _)); refine blk_put (cs := #[.int .u64 0, .int .i64 0, .int .i64 0, .int .i64 0, .int .i64 0, .int .i64 0, .int .i64 0, .int .i64 0]) ?_ 0 _ rfl; (with_reducible repeat (first | refine blk_drewN ?_ _ | refine blk_drew ?_ | refine blk_alloc ?_ _)); exact BK333.out⟩, ⟨by repeat (first | (with_reducible first | exact HB.out | apply below_alloc | apply pw_below_drewN | apply below_drew1 | refine below_set ?_ GE331.out | refine below_set ?_ GE333.out) | exact HB.out)⟩⟩
                  · rw [if_neg c16] at H
                    have c16b0 : (((rd_T36 l0 x6_1).f3) == 25) = false := beq_eq_false_iff_ne.mpr c16
                    have c16b1 : (((rd_T36 l0 x6_1).f3) != 25) = true := bne_iff_ne.mpr c16
                    have H' := Aside0.mk H
                    clear H
                    have hnb19 := NB333_331.out
                    have hnc19 := NB331_333.out
                    have hcz20_0 : w8.cell? ⟨gb333, 0, none⟩ = some (.int .u64 0) := (blk_cell BK333.out 0).trans rfl
                    have hcz20_1 : w8.cell? ⟨gb333, 1, none⟩ = some (.int .i64 0) := (blk_cell BK333.out 1).trans rfl
                    have hcz20_2 : w8.cell? ⟨gb333, 2, none⟩ = some (.int .i64 0) := (blk_cell BK333.out 2).trans rfl
                    have hcz20_3 : w8.cell? ⟨gb333, 3, none⟩ = some (.int .i64 0) := (blk_cell BK333.out 3).trans rfl
                    have hcz20_4 : w8.cell? ⟨gb333, 4, none⟩ = some (.int .i64 0) := (blk_cell BK333.out 4).trans rfl
                    have hcz20_5 : w8.cell? ⟨gb333, 5, none⟩ = some (.int .i64 0) := (blk_cell BK333.out 5).trans rfl
                    have hcz20_6 : w8.cell? ⟨gb333, 6, none⟩ = some (.int .i64 0) := (blk_cell BK333.out 6).trans rfl
                    have hcz20_7 : w8.cell? ⟨gb333, 7, none⟩ = some (.int .i64 0) := (blk_cell BK333.out 7).trans rfl
                    have hfz20_0 := blk_frozen BK333.out 0
                    have hfz20_1 := blk_frozen BK333.out 1
                    have hfz20_2 := blk_frozen BK333.out 2
                    have hfz20_3 := blk_frozen BK333.out 3
                    have hfz20_4 := blk_frozen BK333.out 4
                    have hfz20_5 := blk_frozen BK333.out 5
                    have hfz20_6 := blk_frozen BK333.out 6
                    have hfz20_7 := blk_frozen BK333.out 7
                    go_wp2
                    go_meet
                    case rel => exact ⟨_, (false), (by first | rfl | (simp; done) | (simp [*]; done)), H', ⟨by have := HK1.out; first | omega | exact Nat.le_refl _⟩, ⟨by (with_reducible repeat (first | refine blk_drewN ?_ _ | refine blk_drew ?_ | refine blk_alloc ?_ _)); refine blk_far ?_ NB331_333.out _; (with_reducible repeat (first | refine blk_drewN ?_ _ | refine blk_drew ?_ | refine blk_alloc ?_ _)); refine blk_far ?_ NB331_333.out _; (with_reducible repeat (first | refine blk_drewN ?_ _ | refine blk_drew ?_ | refine blk_alloc ?_ _)); refine blk_far ?_ NB331_333.out _; (with_reducible repeat (first | refine blk_drewN ?_ _ | refine blk_drew ?_ | refine blk_alloc ?_ _)); refine blk_far ?_ NB331_333.out _; (with_reducible repeat (first | refine blk_drewN ?_ _ | refine blk_drew ?_ | refine blk_alloc ?_ _)); refine blk_far ?_ NB331_333.out _; (with_reducible repeat (first | refine blk_drewN ?_ _ | refine blk_drew ?_ | refine blk_alloc ?_ _)); refine blk_far ?_ NB331_333.out _; (with_reducible repeat (first | refine blk_drewN ?_ _ | refine blk_drew ?_ | refine blk_alloc ?_ _)); refine blk_far ?_ NB331_333.out _; (with_reducible repeat (first | refine blk_drewN ?_ _ | refine blk_drew ?_ | refine blk_alloc ?_ _)); refine blk_far ?_ NB331_333.out _; (with_reducible repeat (first | refine blk_drewN ?_ _ | refine blk_drew ?_ | refine blk_alloc ?_ _)); exact BK331.out⟩, ⟨by (with_reducible repeat (first | refine blk_drewN ?_ _ | refine blk_drew ?_ | refine blk_alloc ?_ _)); refine blk_put (cs := #[.int .u64 ((rd_T36 l0 x6_1).f0), .int .i64 ((rd_T36 l0 x6_1).f1), .int .i64 ((rd_T36 l0 x6_1).f2.f0), .int .i64 ((rd_T36 l0 x6_1).f2.f1), .int .i64 ((rd_T36 l0 x6_1).f3), .int .i64 ((rd_T36 l0 x6_1).f4), .int .i64 ((rd_T36 l0 x6_1).f5), .int .i64 0]) ?_ 7 _ rfl; (with_reducible repeat (first | refine blk_drewN ?_ _ | refine blk_drew ?_ | refine blk_alloc ?_ _)); refine blk_put (cs := #[.int .u64 ((rd_T36 l0 x6_1).f0), .int .i64 ((rd_T36 l0 x6_1).f1), .int .i64 ((rd_T36 l0 x6_1).f2.f0), .int .i64 ((rd_T36 l0 x6_1).f2.f1), .int .i64 ((rd_T36 l0 x6_1).f3), .int .i64 ((rd_T36 l0 x6_1).f4), .int .i64 0, .int .i64 0]) ?_ 6 _ rfl; (with_reducible repeat (first | refine blk_drewN ?_ _ | refine blk_drew ?_ | refine blk_alloc ?_ _)); refine blk_put (cs := #[.int .u64 ((rd_T36 l0 x6_1).f0), .int .i64 ((rd_T36 l0 x6_1).f1), .int .i64 ((rd_T36 l0 x6_1).f2.f0), .int .i64 ((rd_T36 l0 x6_1).f2.f1), .int .i64 ((rd_T36 l0 x6_1).f3), .int .i64 0, .int .i64 0, .int .i64 0]) ?_ 5 _ rfl; (with_reducible repeat (first | refine blk_drewN ?_ _ | refine blk_drew ?_ | refine blk_alloc ?_ _)); refine blk_put (cs := #[.int .u64 ((rd_T36 l0 x6_1).f0), .int .i64 ((rd_T36 l0 x6_1).f1), .int .i64 ((rd_T36 l0 x6_1).f2.f0), .int .i64 ((rd_T36 l0 x6_1).f2.f1), .int .i64 0, .int .i64 0, .int .i64 0, .int .i64 0]) ?_ 4 _ rfl; (with_reducible repeat (first | refine blk_drewN ?_ _ | refine blk_drew ?_ | refine blk_alloc ?_ _)); refine blk_put (cs := #[.int .u64 ((rd_T36 l0 x6_1).f0), .int .i64 ((rd_T36 l0 x6_1).f1), .int .i64 ((rd_T36 l0 x6_1).f2.f0), .int .i64 0, .int .i64 0, .int .i64 0, .int .i64 0, .int .i64 0]) ?_ 3 _ rfl; (with_reducible repeat (first | refine blk_drewN ?_ _ | refine blk_drew ?_ | refine blk_alloc ?_ _)); refine blk_put (cs := #[.int .u64 ((rd_T36 l0 x6_1).f0), .int .i64 ((rd_T36 l0 x6_1).f1), .int .i64 0, .int .i64 0, .int .i64 0, .int .i64 0, .int .i64 0, .int .i64 0]) ?_ 2 _ rfl; (with_reducible repeat (first | refine blk_drewN ?_ _ | refine blk_drew ?_ | refine blk_alloc ?_ _)); refine blk_put (cs := #[.int .u64 ((rd_T36 l0 x6_1).f0), .int .i64 0, .int .i64 0, .int .i64 0, .int .i64 0, .int .i64 0, .int .i64 0, .int .i64 0]) ?_ 1 _ rfl; (with_reducible repeat (first | refine blk_drewN ?_ _ | refine blk_drew ?_ | refine blk_alloc ?_ _)); refine blk_put (cs := #[.int .u64 0, .int .i64 0, .int .i64 0, .int .i64 0, .int .i64 0, .int .i64 0, .int .i64 0, .int .i64 0]) ?_ 0 _ rfl; (with_reducible repeat (first | refine blk_drewN ?_ _ | refine blk_drew ?_ | refine blk_alloc ?_ _)); exact BK333.out⟩, ⟨by repeat (first | (with_reducible first | exact HB.out | apply below_alloc | apply pw_below_drewN | apply below_drew1 | refine below_set ?_ GE331.out | refine below_set ?_ GE333.out) | exact HB.out)⟩⟩
              · rw [if_neg c12] at H
                have c12b0 : (((rd_T36 l0 x6_1).f4) == a1) = false := beq_eq_false_iff_ne.mpr c12
                have c12b1 : (((rd_T36 l0 x6_1).f4) != a1) = true := bne_iff_ne.mpr c12
                by_cases c21 : ((rd_T36 l0 x6_1).f3) = 25
                · rw [if_pos c21] at H
                  have c21b0 : (((rd_T36 l0 x6_1).f3) == 25) = true := beq_iff_eq.mpr c21
                  have c21b1 : (((rd_T36 l0 x6_1).f3) != 25) = false := bne_eq_false_iff_eq.mpr c21
                  clear c21
                  have H' := Aside0.mk H
                  clear H
                  have hnb22 := NB333_331.out
                  have hnc22 := NB331_333.out
                  have hcz23_0 : w8.cell? ⟨gb333, 0, none⟩ = some (.int .u64 0) := (blk_cell BK333.out 0).trans rfl
                  have hcz23_1 : w8.cell? ⟨gb333, 1, none⟩ = some (.int .i64 0) := (blk_cell BK333.out 1).trans rfl
                  have hcz23_2 : w8.cell? ⟨gb333, 2, none⟩ = some (.int .i64 0) := (blk_cell BK333.out 2).trans rfl
                  have hcz23_3 : w8.cell? ⟨gb333, 3, none⟩ = some (.int .i64 0) := (blk_cell BK333.out 3).trans rfl
                  have hcz23_4 : w8.cell? ⟨gb333, 4, none⟩ = some (.int .i64 0) := (blk_cell BK333.out 4).trans rfl
                  have hcz23_5 : w8.cell? ⟨gb333, 5, none⟩ = some (.int .i64 0) := (blk_cell BK333.out 5).trans rfl
                  have hcz23_6 : w8.cell? ⟨gb333, 6, none⟩ = some (.int .i64 0) := (blk_cell BK333.out 6).trans rfl
                  have hcz23_7 : w8.cell? ⟨gb333, 7, none⟩ = some (.int .i64 0) := (blk_cell BK333.out 7).trans rfl
                  have hfz23_0 := blk_frozen BK333.out 0
                  have hfz23_1 := blk_frozen BK333.out 1
                  have hfz23_2 := blk_frozen BK333.out 2
                  have hfz23_3 := blk_frozen BK333.out 3
                  have hfz23_4 := blk_frozen BK333.out 4
                  have hfz23_5 := blk_frozen BK333.out 5
                  have hfz23_6 := blk_frozen BK333.out 6
                  have hfz23_7 := blk_frozen BK333.out 7
                  go_wp2
                  go_meet
                  case rel => exact ⟨_, ((((rd_T36 l0 x6_1).f5) == a1)), (by first | rfl | (simp; done) | (simp [*]; done)), H', ⟨by have := HK1.out; first | omega | exact Nat.le_refl _⟩, ⟨by (with_reducible repeat (first | refine blk_drewN ?_ _ | refine blk_drew ?_ | refine blk_alloc ?_ _)); refine blk_far ?_ NB331_333.out _; (with_reducible repeat (first | refine blk_drewN ?_ _ | refine blk_drew ?_ | refine blk_alloc ?_ _)); refine blk_far ?_ NB331_333.out _; (with_reducible repeat (first | refine blk_drewN ?_ _ | refine blk_drew ?_ | refine blk_alloc ?_ _)); refine blk_far ?_ NB331_333.out _; (with_reducible repeat (first | refine blk_drewN ?_ _ | refine blk_drew ?_ | refine blk_alloc ?_ _)); refine blk_far ?_ NB331_333.out _; (with_reducible repeat (first | refine blk_drewN ?_ _ | refine blk_drew ?_ | refine blk_alloc ?_ _)); refine blk_far ?_ NB331_333.out _; (with_reducible repeat (first | refine blk_drewN ?_ _ | refine blk_drew ?_ | refine blk_alloc ?_ _)); refine blk_far ?_ NB331_333.out _; (with_reducible repeat (first | refine blk_drewN ?_ _ | refine blk_drew ?_ | refine blk_alloc ?_ _)); refine blk_far ?_ NB331_333.out _; (with_reducible repeat (first | refine blk_drewN ?_ _ | refine blk_drew ?_ | refine blk_alloc ?_ _)); refine blk_far ?_ NB331_333.out _; (with_reducible repeat (first | refine blk_drewN ?_ _ | refine blk_drew ?_ | refine blk_alloc ?_ _)); exact BK331.out⟩, ⟨by (with_reducible repeat (first | refine blk_drewN ?_ _ | refine blk_drew ?_ | refine blk_alloc ?_ _)); refine blk_put (cs := #[.int .u64 ((rd_T36 l0 x6_1).f0), .int .i64 ((rd_T36 l0 x6_1).f1), .int .i64 ((rd_T36 l0 x6_1).f2.f0), .int .i64 ((rd_T36 l0 x6_1).f2.f1), .int .i64 ((rd_T36 l0 x6_1).f3), .int .i64 ((rd_T36 l0 x6_1).f4), .int .i64 ((rd_T36 l0 x6_1).f5), .int .i64 0]) ?_ 7 _ rfl; (with_reducible repeat (first | refine blk_drewN ?_ _ | refine blk_drew ?_ | refine blk_alloc ?_ _)); refine blk_put (cs := #[.int .u64 ((rd_T36 l0 x6_1).f0), .int .i64 ((rd_T36 l0 x6_1).f1), .int .i64 ((rd_T36 l0 x6_1).f2.f0), .int .i64 ((rd_T36 l0 x6_1).f2.f1), .int .i64 ((rd_T36 l0 x6_1).f3), .int .i64 ((rd_T36 l0 x6_1).f4), .int .i64 0, .int .i64 0]) ?_ 6 _ rfl; (with_reducible repeat (first | refine blk_drewN ?_ _ | refine blk_drew ?_ | refine blk_alloc ?_ _)); refine blk_put (cs := #[.int .u64 ((rd_T36 l0 x6_1).f0), .int .i64 ((rd_T36 l0 x6_1).f1), .int .i64 ((rd_T36 l0 x6_1).f2.f0), .int .i64 ((rd_T36 l0 x6_1).f2.f1), .int .i64 ((rd_T36 l0 x6_1).f3), .int .i64 0, .int .i64 0, .int .i64 0]) ?_ 5 _ rfl; (with_reducible repeat (first | refine blk_drewN ?_ _ | refine blk_drew ?_ | refine blk_alloc ?_ _)); refine blk_put (cs := #[.int .u64 ((rd_T36 l0 x6_1).f0), .int .i64 ((rd_T36 l0 x6_1).f1), .int .i64 ((rd_T36 l0 x6_1).f2.f0), .int .i64 ((rd_T36 l0 x6_1).f2.f1), .int .i64 0, .int .i64 0, .int .i64 0, .int .i64 0]) ?_ 4 _ rfl; (with_reducible repeat (first | refine blk_drewN ?_ _ | refine blk_drew ?_ | refine blk_alloc ?_ _)); refine blk_put (cs := #[.int .u64 ((rd_T36 l0 x6_1).f0), .int .i64 ((rd_T36 l0 x6_1).f1), .int .i64 ((rd_T36 l0 x6_1).f2.f0), .int .i64 0, .int .i64 0, .int .i64 0, .int .i64 0, .int .i64 0]) ?_ 3 _ rfl; (with_reducible repeat (first | refine blk_drewN ?_ _ | refine blk_drew ?_ | refine blk_alloc ?_ _)); refine blk_put (cs := #[.int .u64 ((rd_T36 l0 x6_1).f0), .int .i64 ((rd_T36 l0 x6_1).f1), .int .i64 0, .int .i64 0, .int .i64 0, .int .i64 0, .int .i64 0, .int .i64 0]) ?_ 2 _ rfl; (with_reducible repeat (first | refine blk_drewN ?_ _ | refine blk_drew ?_ | refine blk_alloc ?_ _)); refine blk_put (cs := #[.int .u64 ((rd_T36 l0 x6_1).f0), .int .i64 0, .int .i64 0, .int .i64 0, .int .i64 0, .int .i64 0, .int .i64 0, .int .i64 0]) ?_ 1 _ rfl; (with_reducible repeat (first | refine blk_drewN ?_ _ | refine blk_drew ?_ | refine blk_alloc ?_ _)); refine blk_put (cs := #[.int .u64 0, .int .i64 0, .int .i64 0, .int .i64 0, .int .i64 0, .int .i64 0, .int .i64 0, .int .i64 0]) ?_ 0 _ rfl; (with_reducible repeat (first | refine blk_drewN ?_ _ | refine blk_drew ?_ | refine blk_alloc ?_ _)); exact BK333.out⟩, ⟨by repeat (first | (with_reducible first | exact HB.out | apply below_alloc | apply pw_below_drewN | apply below_drew1 | refine below_set ?_ GE331.out | refine below_set ?_ GE333.out) | exact HB.out)⟩⟩
                · rw [if_neg c21] at H
                  have c21b0 : (((rd_T36 l0 x6_1).f3) == 25) = false := beq_eq_false_iff_ne.mpr c21
                  have c21b1 : (((rd_T36 l0 x6_1).f3) != 25) = true := bne_iff_ne.mpr c21
                  have H' := Aside0.mk H
                  clear H
                  have hnb24 := NB333_331.out
                  have hnc24 := NB331_333.out
                  have hcz25_0 : w8.cell? ⟨gb333, 0, none⟩ = some (.int .u64 0) := (blk_cell BK333.out 0).trans rfl
                  have hcz25_1 : w8.cell? ⟨gb333, 1, none⟩ = some (.int .i64 0) := (blk_cell BK333.out 1).trans rfl
                  have hcz25_2 : w8.cell? ⟨gb333, 2, none⟩ = some (.int .i64 0) := (blk_cell BK333.out 2).trans rfl
                  have hcz25_3 : w8.cell? ⟨gb333, 3, none⟩ = some (.int .i64 0) := (blk_cell BK333.out 3).trans rfl
                  have hcz25_4 : w8.cell? ⟨gb333, 4, none⟩ = some (.int .i64 0) := (blk_cell BK333.out 4).trans rfl
                  have hcz25_5 : w8.cell? ⟨gb333, 5, none⟩ = some (.int .i64 0) := (blk_cell BK333.out 5).trans rfl
                  have hcz25_6 : w8.cell? ⟨gb333, 6, none⟩ = some (.int .i64 0) := (blk_cell BK333.out 6).trans rfl
                  have hcz25_7 : w8.cell? ⟨gb333, 7, none⟩ = some (.int .i64 0) := (blk_cell BK333.out 7).trans rfl
                  have hfz25_0 := blk_frozen BK333.out 0
                  have hfz25_1 := blk_frozen BK333.out 1
                  have hfz25_2 := blk_frozen BK333.out 2
                  have hfz25_3 := blk_frozen BK333.out 3
                  have hfz25_4 := blk_frozen BK333.out 4
                  have hfz25_5 := blk_frozen BK333.out 5
                  have hfz25_6 := blk_frozen BK333.out 6
                  have hfz25_7 := blk_frozen BK333.out 7
                  go_wp2
                  go_meet
                  case rel => exact ⟨_, (false), (by first | rfl | (simp; done) | (simp [*]; done)), H', ⟨by have := HK1.out; first | omega | exact Nat.le_refl _⟩, ⟨by (with_reducible repeat (first | refine blk_drewN ?_ _ | refine blk_drew ?_ | refine blk_alloc ?_ _)); refine blk_far ?_ NB331_333.out _; (with_reducible repeat (first | refine blk_drewN ?_ _ | refine blk_drew ?_ | refine blk_alloc ?_ _)); refine blk_far ?_ NB331_333.out _; (with_reducible repeat (first | refine blk_drewN ?_ _ | refine blk_drew ?_ | refine blk_alloc ?_ _)); refine blk_far ?_ NB331_333.out _; (with_reducible repeat (first | refine blk_drewN ?_ _ | refine blk_drew ?_ | refine blk_alloc ?_ _)); refine blk_far ?_ NB331_333.out _; (with_reducible repeat (first | refine blk_drewN ?_ _ | refine blk_drew ?_ | refine blk_alloc ?_ _)); refine blk_far ?_ NB331_333.out _; (with_reducible repeat (first | refine blk_drewN ?_ _ | refine blk_drew ?_ | refine blk_alloc ?_ _)); refine blk_far ?_ NB331_333.out _; (with_reducible repeat (first | refine blk_drewN ?_ _ | refine blk_drew ?_ | refine blk_alloc ?_ _)); refine blk_far ?_ NB331_333.out _; (with_reducible repeat (first | refine blk_drewN ?_ _ | refine blk_drew ?_ | refine blk_alloc ?_ _)); refine blk_far ?_ NB331_333.out _; (with_reducible repeat (first | refine blk_drewN ?_ _ | refine blk_drew ?_ | refine blk_alloc ?_ _)); exact BK331.out⟩, ⟨by (with_reducible repeat (first | refine blk_drewN ?_ _ | refine blk_drew ?_ | refine blk_alloc ?_ _)); refine blk_put (cs := #[.int .u64 ((rd_T36 l0 x6_1).f0), .int .i64 ((rd_T36 l0 x6_1).f1), .int .i64 ((rd_T36 l0 x6_1).f2.f0), .int .i64 ((rd_T36 l0 x6_1).f2.f1), .int .i64 ((rd_T36 l0 x6_1).f3), .int .i64 ((rd_T36 l0 x6_1).f4), .int .i64 ((rd_T36 l0 x6_1).f5), .int .i64 0]) ?_ 7 _ rfl; (with_reducible repeat (first | refine blk_drewN ?_ _ | refine blk_drew ?_ | refine blk_alloc ?_ _)); refine blk_put (cs := #[.int .u64 ((rd_T36 l0 x6_1).f0), .int .i64 ((rd_T36 l0 x6_1).f1), .int .i64 ((rd_T36 l0 x6_1).f2.f0), .int .i64 ((rd_T36 l0 x6_1).f2.f1), .int .i64 ((rd_T36 l0 x6_1).f3), .int .i64 ((rd_T36 l0 x6_1).f4), .int .i64 0, .int .i64 0]) ?_ 6 _ rfl; (with_reducible repeat (first | refine blk_drewN ?_ _ | refine blk_drew ?_ | refine blk_alloc ?_ _)); refine blk_put (cs := #[.int .u64 ((rd_T36 l0 x6_1).f0), .int .i64 ((rd_T36 l0 x6_1).f1), .int .i64 ((rd_T36 l0 x6_1).f2.f0), .int .i64 ((rd_T36 l0 x6_1).f2.f1), .int .i64 ((rd_T36 l0 x6_1).f3), .int .i64 0, .int .i64 0, .int .i64 0]) ?_ 5 _ rfl; (with_reducible repeat (first | refine blk_drewN ?_ _ | refine blk_drew ?_ | refine blk_alloc ?_ _)); refine blk_put (cs := #[.int .u64 ((rd_T36 l0 x6_1).f0), .int .i64 ((rd_T36 l0 x6_1).f1), .int .i64 ((rd_T36 l0 x6_1).f2.f0), .int .i64 ((rd_T36 l0 x6_1).f2.f1), .int .i64 0, .int .i64 0, .int .i64 0, .int .i64 0]) ?_ 4 _ rfl; (with_reducible repeat (first | refine blk_drewN ?_ _ | refine blk_drew ?_ | refine blk_alloc ?_ _)); refine blk_put (cs := #[.int .u64 ((rd_T36 l0 x6_1).f0), .int .i64 ((rd_T36 l0 x6_1).f1), .int .i64 ((rd_T36 l0 x6_1).f2.f0), .int .i64 0, .int .i64 0, .int .i64 0, .int .i64 0, .int .i64 0]) ?_ 3 _ rfl; (with_reducible repeat (first | refine blk_drewN ?_ _ | refine blk_drew ?_ | refine blk_alloc ?_ _)); refine blk_put (cs := #[.int .u64 ((rd_T36 l0 x6_1).f0), .int .i64 ((rd_T36 l0 x6_1).f1), .int .i64 0, .int .i64 0, .int .i64 0, .int .i64 0, .int .i64 0, .int .i64 0]) ?_ 2 _ rfl; (with_reducible repeat (first | refine blk_drewN ?_ _ | refine blk_drew ?_ | refine blk_alloc ?_ _)); refine blk_put (cs := #[.int .u64 ((rd_T36 l0 x6_1).f0), .int .i64 0, .int .i64 0, .int .i64 0, .int .i64 0, .int .i64 0, .int .i64 0, .int .i64 0]) ?_ 1 _ rfl; (with_reducible repeat (first | refine blk_drewN ?_ _ | refine blk_drew ?_ | refine blk_alloc ?_ _)); refine blk_put (cs := #[.int .u64 0, .int .i64 0, .int .i64 0, .int .i64 0, .int .i64 0, .int .i64 0, .int .i64 0, .int .i64 0]) ?_ 0 _ rfl; (with_reducible repeat (first | refine blk_drewN ?_ _ | refine blk_drew ?_ | refine blk_alloc ?_ _)); exact BK333.out⟩, ⟨by repeat (first | (with_reducible first | exact HB.out | apply below_alloc | apply pw_below_drewN | apply below_drew1 | refine below_set ?_ GE331.out | refine below_set ?_ GE333.out) | exact HB.out)⟩⟩
            · rw [if_neg c11] at H
              have c11b0 : (((rd_T36 l0 x6_1).f3) == 20) = false := beq_eq_false_iff_ne.mpr c11
              have c11b1 : (((rd_T36 l0 x6_1).f3) != 20) = true := bne_iff_ne.mpr c11
              (first | rw [c11b0] | (simp only [i64_w, i32_w]; rw [c11b0]) | skip)
              by_cases c26 : ((rd_T36 l0 x6_1).f3) = 25
              · rw [if_pos c26] at H
                have c26b0 : (((rd_T36 l0 x6_1).f3) == 25) = true := beq_iff_eq.mpr c26
                have c26b1 : (((rd_T36 l0 x6_1).f3) != 25) = false := bne_eq_false_iff_eq.mpr c26
                clear c26
                have H' := Aside0.mk H
                clear H
                have hnb27 := NB333_331.out
                have hnc27 := NB331_333.out
                have hcz28_0 : w8.cell? ⟨gb333, 0, none⟩ = some (.int .u64 0) := (blk_cell BK333.out 0).trans rfl
                have hcz28_1 : w8.cell? ⟨gb333, 1, none⟩ = some (.int .i64 0) := (blk_cell BK333.out 1).trans rfl
                have hcz28_2 : w8.cell? ⟨gb333, 2, none⟩ = some (.int .i64 0) := (blk_cell BK333.out 2).trans rfl
                have hcz28_3 : w8.cell? ⟨gb333, 3, none⟩ = some (.int .i64 0) := (blk_cell BK333.out 3).trans rfl
                have hcz28_4 : w8.cell? ⟨gb333, 4, none⟩ = some (.int .i64 0) := (blk_cell BK333.out 4).trans rfl
                have hcz28_5 : w8.cell? ⟨gb333, 5, none⟩ = some (.int .i64 0) := (blk_cell BK333.out 5).trans rfl
                have hcz28_6 : w8.cell? ⟨gb333, 6, none⟩ = some (.int .i64 0) := (blk_cell BK333.out 6).trans rfl
                have hcz28_7 : w8.cell? ⟨gb333, 7, none⟩ = some (.int .i64 0) := (blk_cell BK333.out 7).trans rfl
                have hfz28_0 := blk_frozen BK333.out 0
                have hfz28_1 := blk_frozen BK333.out 1
                have hfz28_2 := blk_frozen BK333.out 2
                have hfz28_3 := blk_frozen BK333.out 3
                have hfz28_4 := blk_frozen BK333.out 4
                have hfz28_5 := blk_frozen BK333.out 5
                have hfz28_6 := blk_frozen BK333.out 6
                have hfz28_7 := blk_frozen BK333.out 7
                go_wp2
                go_meet
                case rel => exact ⟨_, ((((rd_T36 l0 x6_1).f5) == a1)), (by first | rfl | (simp; done) | (simp [*]; done)), H', ⟨by have := HK1.out; first | omega | exact Nat.le_refl _⟩, ⟨by (with_reducible repeat (first | refine blk_drewN ?_ _ | refine blk_drew ?_ | refine blk_alloc ?_ _)); refine blk_far ?_ NB331_333.out _; (with_reducible repeat (first | refine blk_drewN ?_ _ | refine blk_drew ?_ | refine blk_alloc ?_ _)); refine blk_far ?_ NB331_333.out _; (with_reducible repeat (first | refine blk_drewN ?_ _ | refine blk_drew ?_ | refine blk_alloc ?_ _)); refine blk_far ?_ NB331_333.out _; (with_reducible repeat (first | refine blk_drewN ?_ _ | refine blk_drew ?_ | refine blk_alloc ?_ _)); refine blk_far ?_ NB331_333.out _; (with_reducible repeat (first | refine blk_drewN ?_ _ | refine blk_drew ?_ | refine blk_alloc ?_ _)); refine blk_far ?_ NB331_333.out _; (with_reducible repeat (first | refine blk_drewN ?_ _ | refine blk_drew ?_ | refine blk_alloc ?_ _)); refine blk_far ?_ NB331_333.out _; (with_reducible repeat (first | refine blk_drewN ?_ _ | refine blk_drew ?_ | refine blk_alloc ?_ _)); refine blk_far ?_ NB331_333.out _; (with_reducible repeat (first | refine blk_drewN ?_ _ | refine blk_drew ?_ | refine blk_alloc ?_ _)); refine blk_far ?_ NB331_333.out _; (with_reducible repeat (first | refine blk_drewN ?_ _ | refine blk_drew ?_ | refine blk_alloc ?_ _)); exact BK331.out⟩, ⟨by (with_reducible repeat (first | refine blk_drewN ?_ _ | refine blk_drew ?_ | refine blk_alloc ?_ _)); refine blk_put (cs := #[.int .u64 ((rd_T36 l0 x6_1).f0), .int .i64 ((rd_T36 l0 x6_1).f1), .int .i64 ((rd_T36 l0 x6_1).f2.f0), .int .i64 ((rd_T36 l0 x6_1).f2.f1), .int .i64 ((rd_T36 l0 x6_1).f3), .int .i64 ((rd_T36 l0 x6_1).f4), .int .i64 ((rd_T36 l0 x6_1).f5), .int .i64 0]) ?_ 7 _ rfl; (with_reducible repeat (first | refine blk_drewN ?_ _ | refine blk_drew ?_ | refine blk_alloc ?_ _)); refine blk_put (cs := #[.int .u64 ((rd_T36 l0 x6_1).f0), .int .i64 ((rd_T36 l0 x6_1).f1), .int .i64 ((rd_T36 l0 x6_1).f2.f0), .int .i64 ((rd_T36 l0 x6_1).f2.f1), .int .i64 ((rd_T36 l0 x6_1).f3), .int .i64 ((rd_T36 l0 x6_1).f4), .int .i64 0, .int .i64 0]) ?_ 6 _ rfl; (with_reducible repeat (first | refine blk_drewN ?_ _ | refine blk_drew ?_ | refine blk_alloc ?_ _)); refine blk_put (cs := #[.int .u64 ((rd_T36 l0 x6_1).f0), .int .i64 ((rd_T36 l0 x6_1).f1), .int .i64 ((rd_T36 l0 x6_1).f2.f0), .int .i64 ((rd_T36 l0 x6_1).f2.f1), .int .i64 ((rd_T36 l0 x6_1).f3), .int .i64 0, .int .i64 0, .int .i64 0]) ?_ 5 _ rfl; (with_reducible repeat (first | refine blk_drewN ?_ _ | refine blk_drew ?_ | refine blk_alloc ?_ _)); refine blk_put (cs := #[.int .u64 ((rd_T36 l0 x6_1).f0), .int .i64 ((rd_T36 l0 x6_1).f1), .int .i64 ((rd_T36 l0 x6_1).f2.f0), .int .i64 ((rd_T36 l0 x6_1).f2.f1), .int .i64 0, .int .i64 0, .int .i64 0, .int .i64 0]) ?_ 4 _ rfl; (with_reducible repeat (first | refine blk_drewN ?_ _ | refine blk_drew ?_ | refine blk_alloc ?_ _)); refine blk_put (cs := #[.int .u64 ((rd_T36 l0 x6_1).f0), .int .i64 ((rd_T36 l0 x6_1).f1), .int .i64 ((rd_T36 l0 x6_1).f2.f0), .int .i64 0, .int .i64 0, .int .i64 0, .int .i64 0, .int .i64 0]) ?_ 3 _ rfl; (with_reducible repeat (first | refine blk_drewN ?_ _ | refine blk_drew ?_ | refine blk_alloc ?_ _)); refine blk_put (cs := #[.int .u64 ((rd_T36 l0 x6_1).f0), .int .i64 ((rd_T36 l0 x6_1).f1), .int .i64 0, .int .i64 0, .int .i64 0, .int .i64 0, .int .i64 0, .int .i64 0]) ?_ 2 _ rfl; (with_reducible repeat (first | refine blk_drewN ?_ _ | refine blk_drew ?_ | refine blk_alloc ?_ _)); refine blk_put (cs := #[.int .u64 ((rd_T36 l0 x6_1).f0), .int .i64 0, .int .i64 0, .int .i64 0, .int .i64 0, .int .i64 0, .int .i64 0, .int .i64 0]) ?_ 1 _ rfl; (with_reducible repeat (first | refine blk_drewN ?_ _ | refine blk_drew ?_ | refine blk_alloc ?_ _)); refine blk_put (cs := #[.int .u64 0, .int .i64 0, .int .i64 0, .int .i64 0, .int .i64 0, .int .i64 0, .int .i64 0, .int .i64 0]) ?_ 0 _ rfl; (with_reducible repeat (first | refine blk_drewN ?_ _ | refine blk_drew ?_ | refine blk_alloc ?_ _)); exact BK333.out⟩, ⟨by repeat (first | (with_reducible first | exact HB.out | apply below_alloc | apply pw_below_drewN | apply below_drew1 | refine below_set ?_ GE331.out | refine below_set ?_ GE333.out) | exact HB.out)⟩⟩
              · rw [if_neg c26] at H
                have c26b0 : (((rd_T36 l0 x6_1).f3) == 25) = false := beq_eq_false_iff_ne.mpr c26
                have c26b1 : (((rd_T36 l0 x6_1).f3) != 25) = true := bne_iff_ne.mpr c26
                have H' := Aside0.mk H
                clear H
                have hnb29 := NB333_331.out
                have hnc29 := NB331_333.out
                have hcz30_0 : w8.cell? ⟨gb333, 0, none⟩ = some (.int .u64 0) := (blk_cell BK333.out 0).trans rfl
                have hcz30_1 : w8.cell? ⟨gb333, 1, none⟩ = some (.int .i64 0) := (blk_cell BK333.out 1).trans rfl
                have hcz30_2 : w8.cell? ⟨gb333, 2, none⟩ = some (.int .i64 0) := (blk_cell BK333.out 2).trans rfl
                have hcz30_3 : w8.cell? ⟨gb333, 3, none⟩ = some (.int .i64 0) := (blk_cell BK333.out 3).trans rfl
                have hcz30_4 : w8.cell? ⟨gb333, 4, none⟩ = some (.int .i64 0) := (blk_cell BK333.out 4).trans rfl
                have hcz30_5 : w8.cell? ⟨gb333, 5, none⟩ = some (.int .i64 0) := (blk_cell BK333.out 5).trans rfl
                have hcz30_6 : w8.cell? ⟨gb333, 6, none⟩ = some (.int .i64 0) := (blk_cell BK333.out 6).trans rfl
                have hcz30_7 : w8.cell? ⟨gb333, 7, none⟩ = some (.int .i64 0) := (blk_cell BK333.out 7).trans rfl
                have hfz30_0 := blk_frozen BK333.out 0
                have hfz30_1 := blk_frozen BK333.out 1
                have hfz30_2 := blk_frozen BK333.out 2
                have hfz30_3 := blk_frozen BK333.out 3
                have hfz30_4 := blk_frozen BK333.out 4
                have hfz30_5 := blk_frozen BK333.out 5
                have hfz30_6 := blk_frozen BK333.out 6
                have hfz30_7 := blk_frozen BK333.out 7
                go_wp2
                go_meet
                case rel => exact ⟨_, (false), (by first | rfl | (simp; done) | (simp [*]; done)), H', ⟨by have := HK1.out; first | omega | exact Nat.le_refl _⟩, ⟨by (with_reducible repeat (first | refine blk_drewN ?_ _ | refine blk_drew ?_ | refine blk_alloc ?_ _)); refine blk_far ?_ NB331_333.out _; (with_reducible repeat (first | refine blk_drewN ?_ _ | refine blk_drew ?_ | refine blk_alloc ?_ _)); refine blk_far ?_ NB331_333.out _; (with_reducible repeat (first | refine blk_drewN ?_ _ | refine blk_drew ?_ | refine blk_alloc ?_ _)); refine blk_far ?_ NB331_333.out _; (with_reducible repeat (first | refine blk_drewN ?_ _ | refine blk_drew ?_ | refine blk_alloc ?_ _)); refine blk_far ?_ NB331_333.out _; (with_reducible repeat (first | refine blk_drewN ?_ _ | refine blk_drew ?_ | refine blk_alloc ?_ _)); refine blk_far ?_ NB331_333.out _; (with_reducible repeat (first | refine blk_drewN ?_ _ | refine blk_drew ?_ | refine blk_alloc ?_ _)); refine blk_far ?_ NB331_333.out _; (with_reducible repeat (first | refine blk_drewN ?_ _ | refine blk_drew ?_ | refine blk_alloc ?_ _)); refine blk_far ?_ NB331_333.out _; (with_reducible repeat (first | refine blk_drewN ?_ _ | refine blk_drew ?_ | refine blk_alloc ?_ _)); refine blk_far ?_ NB331_333.out _; (with_reducible repeat (first | refine blk_drewN ?_ _ | refine blk_drew ?_ | refine blk_alloc ?_ _)); exact BK331.out⟩, ⟨by (with_reducible repeat (first | refine blk_drewN ?_ _ | refine blk_drew ?_ | refine blk_alloc ?_ _)); refine blk_put (cs := #[.int .u64 ((rd_T36 l0 x6_1).f0), .int .i64 ((rd_T36 l0 x6_1).f1), .int .i64 ((rd_T36 l0 x6_1).f2.f0), .int .i64 ((rd_T36 l0 x6_1).f2.f1), .int .i64 ((rd_T36 l0 x6_1).f3), .int .i64 ((rd_T36 l0 x6_1).f4), .int .i64 ((rd_T36 l0 x6_1).f5), .int .i64 0]) ?_ 7 _ rfl; (with_reducible repeat (first | refine blk_drewN ?_ _ | refine blk_drew ?_ | refine blk_alloc ?_ _)); refine blk_put (cs := #[.int .u64 ((rd_T36 l0 x6_1).f0), .int .i64 ((rd_T36 l0 x6_1).f1), .int .i64 ((rd_T36 l0 x6_1).f2.f0), .int .i64 ((rd_T36 l0 x6_1).f2.f1), .int .i64 ((rd_T36 l0 x6_1).f3), .int .i64 ((rd_T36 l0 x6_1).f4), .int .i64 0, .int .i64 0]) ?_ 6 _ rfl; (with_reducible repeat (first | refine blk_drewN ?_ _ | refine blk_drew ?_ | refine blk_alloc ?_ _)); refine blk_put (cs := #[.int .u64 ((rd_T36 l0 x6_1).f0), .int .i64 ((rd_T36 l0 x6_1).f1), .int .i64 ((rd_T36 l0 x6_1).f2.f0), .int .i64 ((rd_T36 l0 x6_1).f2.f1), .int .i64 ((rd_T36 l0 x6_1).f3), .int .i64 0, .int .i64 0, .int .i64 0]) ?_ 5 _ rfl; (with_reducible repeat (first | refine blk_drewN ?_ _ | refine blk_drew ?_ | refine blk_alloc ?_ _)); refine blk_put (cs := #[.int .u64 ((rd_T36 l0 x6_1).f0), .int .i64 ((rd_T36 l0 x6_1).f1), .int .i64 ((rd_T36 l0 x6_1).f2.f0), .int .i64 ((rd_T36 l0 x6_1).f2.f1), .int .i64 0, .int .i64 0, .int .i64 0, .int .i64 0]) ?_ 4 _ rfl; (with_reducible repeat (first | refine blk_drewN ?_ _ | refine blk_drew ?_ | refine blk_alloc ?_ _)); refine blk_put (cs := #[.int .u64 ((rd_T36 l0 x6_1).f0), .int .i64 ((rd_T36 l0 x6_1).f1), .int .i64 ((rd_T36 l0 x6_1).f2.f0), .int .i64 0, .int .i64 0, .int .i64 0, .int .i64 0, .int .i64 0]) ?_ 3 _ rfl; (with_reducible repeat (first | refine blk_drewN ?_ _ | refine blk_drew ?_ | refine blk_alloc ?_ _)); refine blk_put (cs := #[.int .u64 ((rd_T36 l0 x6_1).f0), .int .i64 ((rd_T36 l0 x6_1).f1), .int .i64 0, .int .i64 0, .int .i64 0, .int .i64 0, .int .i64 0, .int .i64 0]) ?_ 2 _ rfl; (with_reducible repeat (first | refine blk_drewN ?_ _ | refine blk_drew ?_ | refine blk_alloc ?_ _)); refine blk_put (cs := #[.int .u64 ((rd_T36 l0 x6_1).f0), .int .i64 0, .int .i64 0, .int .i64 0, .int .i64 0, .int .i64 0, .int .i64 0, .int .i64 0]) ?_ 1 _ rfl; (with_reducible repeat (first | refine blk_drewN ?_ _ | refine blk_drew ?_ | refine blk_alloc ?_ _)); refine blk_put (cs := #[.int .u64 0, .int .i64 0, .int .i64 0, .int .i64 0, .int .i64 0, .int .i64 0, .int .i64 0, .int .i64 0]) ?_ 0 _ rfl; (with_reducible repeat (first | refine blk_drewN ?_ _ | refine blk_drew ?_ | refine blk_alloc ?_ _)); exact BK333.out⟩, ⟨by repeat (first | (with_reducible first | exact HB.out | apply below_alloc | apply pw_below_drewN | apply below_drew1 | refine below_set ?_ GE331.out | refine below_set ?_ GE333.out) | exact HB.out)⟩⟩
          case rest =>
            clear HC7
            try clear c1
            try clear c2
            try clear p2
            try clear p3
            try clear q3
            try clear hx3
            try clear c5
            try clear c5b0
            try clear c6
            try clear c6b0
            try clear c9
            try clear c11
            try clear c11b0
            try clear c11b1
            try clear c12
            try clear c12b0
            try clear c12b1
            try clear c13
            try clear c13b0
            try clear c13b1
            try clear c14
            try clear c16
            try clear c16b0
            try clear c16b1
            try clear c17
            try clear c19
            try clear c21
            try clear c21b0
            try clear c21b1
            try clear c22
            try clear c24
            try clear c26
            try clear c26b0
            try clear c26b1
            try clear c27
            try clear c29
            try clear hcz10_0
            try clear hcz10_1
            try clear hcz10_2
            try clear hcz10_3
            try clear hcz10_4
            try clear hcz10_5
            try clear hcz10_6
            try clear hcz10_7
            try clear hcz15_0
            try clear hcz15_1
            try clear hcz15_2
            try clear hcz15_3
            try clear hcz15_4
            try clear hcz15_5
            try clear hcz15_6
            try clear hcz15_7
            try clear hcz18_0
            try clear hcz18_1
            try clear hcz18_2
            try clear hcz18_3
            try clear hcz18_4
            try clear hcz18_5
            try clear hcz18_6
            try clear hcz18_7
            try clear hcz20_0
            try clear hcz20_1
            try clear hcz20_2
            try clear hcz20_3
            try clear hcz20_4
            try clear hcz20_5
            try clear hcz20_6
            try clear hcz20_7
            try clear hcz23_0
            try clear hcz23_1
            try clear hcz23_2
            try clear hcz23_3
            try clear hcz23_4
            try clear hcz23_5
            try clear hcz23_6
            try clear hcz23_7
            try clear hcz25_0
            try clear hcz25_1
            try clear hcz25_2
            try clear hcz25_3
            try clear hcz25_4
            try clear hcz25_5
            try clear hcz25_6
            try clear hcz25_7
            try clear hcz28_0
            try clear hcz28_1
            try clear hcz28_2
            try clear hcz28_3
            try clear hcz28_4
            try clear hcz28_5
            try clear hcz28_6
            try clear hcz28_7
            try clear hcz30_0
            try clear hcz30_1
            try clear hcz30_2
            try clear hcz30_3
            try clear hcz30_4
            try clear hcz30_5
            try clear hcz30_6
            try clear hcz30_7
            try clear hcz4_0
            try clear hcz4_1
            try clear hfz10_0
            try clear hfz10_1
            try clear hfz10_2
            try clear hfz10_3
            try clear hfz10_4
            try clear hfz10_5
            try clear hfz10_6
            try clear hfz10_7
            try clear hfz15_0
            try clear hfz15_1
            try clear hfz15_2
            try clear hfz15_3
            try clear hfz15_4
            try clear hfz15_5
            try clear hfz15_6
            try clear hfz15_7
            try clear hfz18_0
            try clear hfz18_1
            try clear hfz18_2
            try clear hfz18_3
            try clear hfz18_4
            try clear hfz18_5
            try clear hfz18_6
            try clear hfz18_7
            try clear hfz20_0
            try clear hfz20_1
            try clear hfz20_2
            try clear hfz20_3
            try clear hfz20_4
            try clear hfz20_5
            try clear hfz20_6
            try clear hfz20_7
            try clear hfz23_0
            try clear hfz23_1
            try clear hfz23_2
            try clear hfz23_3
            try clear hfz23_4
            try clear hfz23_5
            try clear hfz23_6
            try clear hfz23_7
            try clear hfz25_0
            try clear hfz25_1
            try clear hfz25_2
            try clear hfz25_3
            try clear hfz25_4
            try clear hfz25_5
            try clear hfz25_6
            try clear hfz25_7
            try clear hfz28_0
            try clear hfz28_1
            try clear hfz28_2
            try clear hfz28_3
            try clear hfz28_4
            try clear hfz28_5
            try clear hfz28_6
            try clear hfz28_7
            try clear hfz30_0
            try clear hfz30_1
            try clear hfz30_2
            try clear hfz30_3
            try clear hfz30_4
            try clear hfz30_5
            try clear hfz30_6
            try clear hfz30_7
            try clear hfz4_0
            try clear hfz4_1
            try clear hx332_0
            try clear hx332_1
            try clear hx332_2
            try clear hx332_3
            try clear hx332_4
            try clear hx332_5
            try clear hx332_6
            try clear hx332_7
            try clear p2
            try clear p332
            try clear q332
            obtain ⟨kq, x43_6, rfl, HA, HJ6, BK331, BK333, HB⟩ := hcut
            cases kq with
            | zero => exact absurd HA.out (by simp [rotalaw26_exclusive.j1])
            | succ kj6 =>
              have H := HA.out
              clear HA
              simp only [rotalaw26_exclusive.j1] at H
              have HC31 := Aside0.mk H
              clear H
              go_upto_if 43 with (fail)
              go_cut [] (fun wc => ∃ (kq : Nat) (x332000_30 : Int) (x332001_30 : Int), Aside0 (rotalaw26_exclusive.j2 kq l0 a1 x6_1 x332000_30 x332001_30 ((rd_T36 l0 x6_1).f0) ((rd_T36 l0 x6_1).f1) ((rd_T36 l0 x6_1).f2.f0) ((rd_T36 l0 x6_1).f2.f1) ((rd_T36 l0 x6_1).f3) ((rd_T36 l0 x6_1).f4) ((rd_T36 l0 x6_1).f5) ((rd_T36 l0 x6_1).f6) = some r) ∧ Aside0 (kq ≤ kj6) ∧ Aside0 (wc.heap[gb331]? = some (.cells #[.int .i64 x332000_30, .int .i64 x332001_30] 34 (0, 0))) ∧ Aside0 (wc.heap[gb333]? = some (.cells #[.int .u64 ((rd_T36 l0 x6_1).f0), .int .i64 ((rd_T36 l0 x6_1).f1), .int .i64 ((rd_T36 l0 x6_1).f2.f0), .int .i64 ((rd_T36 l0 x6_1).f2.f1), .int .i64 ((rd_T36 l0 x6_1).f3), .int .i64 ((rd_T36 l0 x6_1).f4), .int .i64 ((rd_T36 l0 x6_1).f5), .int .i64 ((rd_T36 l0 x6_1).f6)] 36 (0, 0))) ∧ Aside0 (Below w.heap.size w wc))
              case first =>
                have H := HC31.out
                clear HC31
                by_cases c32 : x43_6 = true
                · subst c32
                  have H1 : (if (!(x332000_1 == 0) || (!(x332001_1 == 0))) = true then (some false) else (if (((rd_T36 l0 x6_1).f2.f0) == 0 && (((rd_T36 l0 x6_1).f2.f1) == 0)) = true then (some false) else (rotalaw26_exclusive.j2 kj6 l0 a1 x6_1 ((rd_T36 l0 x6_1).f2.f0) ((rd_T36 l0 x6_1).f2.f1) ((rd_T36 l0 x6_1).f0) ((rd_T36 l0 x6_1).f1) ((rd_T36 l0 x6_1).f2.f0) ((rd_T36 l0 x6_1).f2.f1) ((rd_T36 l0 x6_1).f3) ((rd_T36 l0 x6_1).f4) ((rd_T36 l0 x6_1).f5) ((rd_T36 l0 x6_1).f6)))) = some r := by rw [if_pos rfl] at H; exact H
                  clear H
                  have H := H1
                  clear H1
                  by_cases c33 : (!(x332000_1 == 0) || (!(x332001_1 == 0))) = true
                  · rw [if_pos c33] at H
                    have c33b0 : (!(x332000_1 == 0) || (!(x332001_1 == 0))) = true := c33
                    clear c33
                    (first | rw [c33b0] | (simp only [i64_w, i32_w]; rw [c33b0]) | skip)
                    obtain rfl := Option.some.inj H
                    have hnb34 := NB331_333.out
                    have hnc34 := NB333_331.out
                    have hcz35_0 : wc.cell? ⟨gb331, 0, none⟩ = some (.int .i64 x332000_1) := (blk_cell BK331.out 0).trans rfl
                    have hcz35_1 : wc.cell? ⟨gb331, 1, none⟩ = some (.int .i64 x332001_1) := (blk_cell BK331.out 1).trans rfl
                    have hfz35_0 := blk_frozen BK331.out 0
                    have hfz35_1 := blk_frozen BK331.out 1
                    go_wp2
                    go_ret
                    exact ⟨by first | rfl | (simp [errW_none, errW_some] <;> rfl) | (simp [*, errW_none, errW_some] <;> rfl), by repeat (first | (with_reducible first | exact HB.out | apply below_alloc | apply pw_below_drewN | apply below_drew1 | refine below_set ?_ GE331.out | refine below_set ?_ GE333.out) | exact HB.out)⟩
                  · rw [if_neg c33] at H
                    have c33b0 : (!(x332000_1 == 0) || (!(x332001_1 == 0))) = false := by simpa using c33
                    clear c33
                    (first | rw [c33b0] | (simp only [i64_w, i32_w]; rw [c33b0]) | skip)
                    by_cases c36 : (((rd_T36 l0 x6_1).f2.f0) == 0 && (((rd_T36 l0 x6_1).f2.f1) == 0)) = true
                    · rw [if_pos c36] at H
                      have c36b0 : (((rd_T36 l0 x6_1).f2.f0) == 0 && (((rd_T36 l0 x6_1).f2.f1) == 0)) = true := c36
                      (try (have c36b1 : decide (((rd_T36 l0 x6_1).f2.f0) = 0 && (((rd_T36 l0 x6_1).f2.f1) == 0)) = true := by simpa using c36))
                      (try (have c36b2 : (((rd_T36 l0 x6_1).f2.f0) == 0 && (((rd_T36 l0 x6_1).f2.f1) == 0)) = true := by simpa using c36))
                      clear c36
                      obtain rfl := Option.some.inj H
                      have hnb37 := NB331_333.out
                      have hnc37 := NB333_331.out
                      have hcz38_0 : wc.cell? ⟨gb331, 0, none⟩ = some (.int .i64 x332000_1) := (blk_cell BK331.out 0).trans rfl
                      have hcz38_1 : wc.cell? ⟨gb331, 1, none⟩ = some (.int .i64 x332001_1) := (blk_cell BK331.out 1).trans rfl
                      have hfz38_0 := blk_frozen BK331.out 0
                      have hfz38_1 := blk_frozen BK331.out 1
                      have hcz39_0 : wc.cell? ⟨gb333, 0, none⟩ = some (.int .u64 ((rd_T36 l0 x6_1).f0)) := (blk_cell BK333.out 0).trans rfl
                      have hcz39_1 : wc.cell? ⟨gb333, 1, none⟩ = some (.int .i64 ((rd_T36 l0 x6_1).f1)) := (blk_cell BK333.out 1).trans rfl
                      have hcz39_2 : wc.cell? ⟨gb333, 2, none⟩ = some (.int .i64 ((rd_T36 l0 x6_1).f2.f0)) := (blk_cell BK333.out 2).trans rfl
                      have hcz39_3 : wc.cell? ⟨gb333, 3, none⟩ = some (.int .i64 ((rd_T36 l0 x6_1).f2.f1)) := (blk_cell BK333.out 3).trans rfl
                      have hcz39_4 : wc.cell? ⟨gb333, 4, none⟩ = some (.int .i64 ((rd_T36 l0 x6_1).f3)) := (blk_cell BK333.out 4).trans rfl
                      have hcz39_5 : wc.cell? ⟨gb333, 5, none⟩ = some (.int .i64 ((rd_T36 l0 x6_1).f4)) := (blk_cell BK333.out 5).trans rfl
                      have hcz39_6 : wc.cell? ⟨gb333, 6, none⟩ = some (.int .i64 ((rd_T36 l0 x6_1).f5)) := (blk_cell BK333.out 6).trans rfl
                      have hcz39_7 : wc.cell? ⟨gb333, 7, none⟩ = some (.int .i64 ((rd_T36 l0 x6_1).f6)) := (blk_cell BK333.out 7).trans rfl
                      have hfz39_0 := blk_frozen BK333.out 0
                      have hfz39_1 := blk_frozen BK333.out 1
                      have hfz39_2 := blk_frozen BK333.out 2
                      have hfz39_3 := blk_frozen BK333.out 3
                      have hfz39_4 := blk_frozen BK333.out 4
                      have hfz39_5 := blk_frozen BK333.out 5
                      have hfz39_6 := blk_frozen BK333.out 6
                      have hfz39_7 := blk_frozen BK333.out 7
                      go_wp2
                      go_ret
                      exact ⟨by first | rfl | (simp [errW_none, errW_some] <;> rfl) | (simp [*, errW_none, errW_some] <;> rfl), by repeat (first | (with_reducible first | exact HB.out | apply below_alloc | apply pw_below_drewN | apply below_drew1 | refine below_set ?_ GE331.out | refine below_set ?_ GE333.out) | exact HB.out)⟩
                    · rw [if_neg c36] at H
                      have c36b0 : (((rd_T36 l0 x6_1).f2.f0) == 0 && (((rd_T36 l0 x6_1).f2.f1) == 0)) = false := by simpa using c36
                      (try (have c36b1 : decide (((rd_T36 l0 x6_1).f2.f0) = 0 && (((rd_T36 l0 x6_1).f2.f1) == 0)) = false := by simpa using c36))
                      (try (have c36b2 : (((rd_T36 l0 x6_1).f2.f0) == 0 && (((rd_T36 l0 x6_1).f2.f1) == 0)) = false := by simpa using c36))
                      (try (have c36b3 : ¬ (((rd_T36 l0 x6_1).f2.f0) = 0 && (((rd_T36 l0 x6_1).f2.f1) == 0)) := by simpa using c36))
                      clear c36
                      have H' := Aside0.mk H
                      clear H
                      have hnb40 := NB331_333.out
                      have hnc40 := NB333_331.out
                      have hcz41_0 : wc.cell? ⟨gb331, 0, none⟩ = some (.int .i64 x332000_1) := (blk_cell BK331.out 0).trans rfl
                      have hcz41_1 : wc.cell? ⟨gb331, 1, none⟩ = some (.int .i64 x332001_1) := (blk_cell BK331.out 1).trans rfl
                      have hfz41_0 := blk_frozen BK331.out 0
                      have hfz41_1 := blk_frozen BK331.out 1
                      have hcz42_0 : wc.cell? ⟨gb333, 0, none⟩ = some (.int .u64 ((rd_T36 l0 x6_1).f0)) := (blk_cell BK333.out 0).trans rfl
                      have hcz42_1 : wc.cell? ⟨gb333, 1, none⟩ = some (.int .i64 ((rd_T36 l0 x6_1).f1)) := (blk_cell BK333.out 1).trans rfl
                      have hcz42_2 : wc.cell? ⟨gb333, 2, none⟩ = some (.int .i64 ((rd_T36 l0 x6_1).f2.f0)) := (blk_cell BK333.out 2).trans rfl
                      have hcz42_3 : wc.cell? ⟨gb333, 3, none⟩ = some (.int .i64 ((rd_T36 l0 x6_1).f2.f1)) := (blk_cell BK333.out 3).trans rfl
                      have hcz42_4 : wc.cell? ⟨gb333, 4, none⟩ = some (.int .i64 ((rd_T36 l0 x6_1).f3)) := (blk_cell BK333.out 4).trans rfl
                      have hcz42_5 : wc.cell? ⟨gb333, 5, none⟩ = some (.int .i64 ((rd_T36 l0 x6_1).f4)) := (blk_cell BK333.out 5).trans rfl
                      have hcz42_6 : wc.cell? ⟨gb333, 6, none⟩ = some (.int .i64 ((rd_T36 l0 x6_1).f5)) := (blk_cell BK333.out 6).trans rfl
                      have hcz42_7 : wc.cell? ⟨gb333, 7, none⟩ = some (.int .i64 ((rd_T36 l0 x6_1).f6)) := (blk_cell BK333.out 7).trans rfl
                      have hfz42_0 := blk_frozen BK333.out 0
                      have hfz42_1 := blk_frozen BK333.out 1
                      have hfz42_2 := blk_frozen BK333.out 2
                      have hfz42_3 := blk_frozen BK333.out 3
                      have hfz42_4 := blk_frozen BK333.out 4
                      have hfz42_5 := blk_frozen BK333.out 5
                      have hfz42_6 := blk_frozen BK333.out 6
                      have hfz42_7 := blk_frozen BK333.out 7
                      go_wp2
                      go_meet
                      case rel => exact ⟨_, (((rd_T36 l0 x6_1).f2.f0)), (((rd_T36 l0 x6_1).f2.f1)), H', ⟨by have := HK1.out; have := HJ6.out; first | omega | exact Nat.le_refl _⟩, ⟨by (with_reducible repeat (first | refine blk_drewN ?_ _ | refine blk_drew ?_ | refine blk_alloc ?_ _)); refine blk_put (cs := #[.int .i64 ((rd_T36 l0 x6_1).f2.f0), .int .i64 x332001_1]) ?_ 1 _ rfl; (with_reducible repeat (first | refine blk_drewN ?_ _ | refine blk_drew ?_ | refine blk_alloc ?_ _)); refine blk_put (cs := #[.int .i64 x332000_1, .int .i64 x332001_1]) ?_ 0 _ rfl; (with_reducible repeat (first | refine blk_drewN ?_ _ | refine blk_drew ?_ | refine blk_alloc ?_ _)); exact BK331.out⟩, ⟨by (with_reducible repeat (first | refine blk_drewN ?_ _ | refine blk_drew ?_ | refine blk_alloc ?_ _)); refine blk_far ?_ NB333_331.out _; (with_reducible repeat (first | refine blk_drewN ?_ _ | refine blk_drew ?_ | refine blk_alloc ?_ _)); refine blk_far ?_ NB333_331.out _; (with_reducible repeat (first | refine blk_drewN ?_ _ | refine blk_drew ?_ | refine blk_alloc ?_ _)); exact BK333.out⟩, ⟨by repeat (first | (with_reducible first | exact HB.out | apply below_alloc | apply pw_below_drewN | apply below_drew1 | refine below_set ?_ GE331.out | refine below_set ?_ GE333.out) | exact HB.out)⟩⟩
                · replace c32 := Bool.eq_false_iff.mpr c32
                  subst c32
                  have H1 : (rotalaw26_exclusive.j2 kj6 l0 a1 x6_1 x332000_1 x332001_1 ((rd_T36 l0 x6_1).f0) ((rd_T36 l0 x6_1).f1) ((rd_T36 l0 x6_1).f2.f0) ((rd_T36 l0 x6_1).f2.f1) ((rd_T36 l0 x6_1).f3) ((rd_T36 l0 x6_1).f4) ((rd_T36 l0 x6_1).f5) ((rd_T36 l0 x6_1).f6)) = some r := by rw [if_neg (show ¬ (false = true) by decide)] at H; exact H
                  clear H
                  have H := H1
                  clear H1
                  have H' := Aside0.mk H
                  clear H
                  go_wp2
                  go_meet
                  case rel => exact ⟨_, (x332000_1), (x332001_1), H', ⟨by have := HK1.out; have := HJ6.out; first | omega | exact Nat.le_refl _⟩, ⟨by (with_reducible repeat (first | refine blk_drewN ?_ _ | refine blk_drew ?_ | refine blk_alloc ?_ _)); exact BK331.out⟩, ⟨by (with_reducible repeat (first | refine blk_drewN ?_ _ | refine blk_drew ?_ | refine blk_alloc ?_ _)); exact BK333.out⟩, ⟨by repeat (first | (with_reducible first | exact HB.out | apply below_alloc | apply pw_below_drewN | apply below_drew1 | refine below_set ?_ GE331.out | refine below_set ?_ GE333.out) | exact HB.out)⟩⟩
              case rest =>
                clear HC31
                try clear c1
                try clear c2
                try clear p2
                try clear c3
                try clear p3
                try clear q3
                try clear hx3
                try clear c4
                try clear c5
                try clear c5b0
                try clear c6
                try clear c6b0
                try clear c9
                try clear c11
                try clear c11b0
                try clear c11b1
                try clear c12
                try clear c12b0
                try clear c12b1
                try clear c13
                try clear c13b0
                try clear c13b1
                try clear c14
                try clear c16
                try clear c16b0
                try clear c16b1
                try clear c17
                try clear c19
                try clear c21
                try clear c21b0
                try clear c21b1
                try clear c22
                try clear c24
                try clear c26
                try clear c26b0
                try clear c26b1
                try clear c27
                try clear c29
                try clear c32
                try clear c33
                try clear c33b0
                try clear p33
                try clear q33
                try clear hx33
                try clear c34
                try clear c36
                try clear c36b0
                try clear c36b1
                try clear c36b2
                try clear c37
                try clear c40
                try clear hcz10_0
                try clear hcz10_1
                try clear hcz10_2
                try clear hcz10_3
                try clear hcz10_4
                try clear hcz10_5
                try clear hcz10_6
                try clear hcz10_7
                try clear hcz15_0
                try clear hcz15_1
                try clear hcz15_2
                try clear hcz15_3
                try clear hcz15_4
                try clear hcz15_5
                try clear hcz15_6
                try clear hcz15_7
                try clear hcz18_0
                try clear hcz18_1
                try clear hcz18_2
                try clear hcz18_3
                try clear hcz18_4
                try clear hcz18_5
                try clear hcz18_6
                try clear hcz18_7
                try clear hcz20_0
                try clear hcz20_1
                try clear hcz20_2
                try clear hcz20_3
                try clear hcz20_4
                try clear hcz20_5
                try clear hcz20_6
                try clear hcz20_7
                try clear hcz23_0
                try clear hcz23_1
                try clear hcz23_2
                try clear hcz23_3
                try clear hcz23_4
                try clear hcz23_5
                try clear hcz23_6
                try clear hcz23_7
                try clear hcz25_0
                try clear hcz25_1
                try clear hcz25_2
                try clear hcz25_3
                try clear hcz25_4
                try clear hcz25_5
                try clear hcz25_6
                try clear hcz25_7
                try clear hcz28_0
                try clear hcz28_1
                try clear hcz28_2
                try clear hcz28_3
                try clear hcz28_4
                try clear hcz28_5
                try clear hcz28_6
                try clear hcz28_7
                try clear hcz30_0
                try clear hcz30_1
                try clear hcz30_2
                try clear hcz30_3
                try clear hcz30_4
                try clear hcz30_5
                try clear hcz30_6
                try clear hcz30_7
                try clear hcz35_0
                try clear hcz35_1
                try clear hcz38_0
                try clear hcz38_1
                try clear hcz39_0
                try clear hcz39_1
                try clear hcz39_2
                try clear hcz39_3
                try clear hcz39_4
                try clear hcz39_5
                try clear hcz39_6
                try clear hcz39_7
                try clear hcz41_0
                try clear hcz41_1
                try clear hcz42_0
                try clear hcz42_1
                try clear hcz42_2
                try clear hcz42_3
                try clear hcz42_4
                try clear hcz42_5
                try clear hcz42_6
                try clear hcz42_7
                try clear hcz4_0
                try clear hcz4_1
                try clear hfz10_0
                try clear hfz10_1
                try clear hfz10_2
                try clear hfz10_3
                try clear hfz10_4
                try clear hfz10_5
                try clear hfz10_6
                try clear hfz10_7
                try clear hfz15_0
                try clear hfz15_1
                try clear hfz15_2
                try clear hfz15_3
                try clear hfz15_4
                try clear hfz15_5
                try clear hfz15_6
                try clear hfz15_7
                try clear hfz18_0
                try clear hfz18_1
                try clear hfz18_2
                try clear hfz18_3
                try clear hfz18_4
                try clear hfz18_5
                try clear hfz18_6
                try clear hfz18_7
                try clear hfz20_0
                try clear hfz20_1
                try clear hfz20_2
                try clear hfz20_3
                try clear hfz20_4
                try clear hfz20_5
                try clear hfz20_6
                try clear hfz20_7
                try clear hfz23_0
                try clear hfz23_1
                try clear hfz23_2
                try clear hfz23_3
                try clear hfz23_4
                try clear hfz23_5
                try clear hfz23_6
                try clear hfz23_7
                try clear hfz25_0
                try clear hfz25_1
                try clear hfz25_2
                try clear hfz25_3
                try clear hfz25_4
                try clear hfz25_5
                try clear hfz25_6
                try clear hfz25_7
                try clear hfz28_0
                try clear hfz28_1
                try clear hfz28_2
                try clear hfz28_3
                try clear hfz28_4
                try clear hfz28_5
                try clear hfz28_6
                try clear hfz28_7
                try clear hfz30_0
                try clear hfz30_1
                try clear hfz30_2
                try clear hfz30_3
                try clear hfz30_4
                try clear hfz30_5
                try clear hfz30_6
                try clear hfz30_7
                try clear hfz35_0
                try clear hfz35_1
                try clear hfz38_0
                try clear hfz38_1
                try clear hfz39_0
                try clear hfz39_1
                try clear hfz39_2
                try clear hfz39_3
                try clear hfz39_4
                try clear hfz39_5
                try clear hfz39_6
                try clear hfz39_7
                try clear hfz41_0
                try clear hfz41_1
                try clear hfz42_0
                try clear hfz42_1
                try clear hfz42_2
                try clear hfz42_3
                try clear hfz42_4
                try clear hfz42_5
                try clear hfz42_6
                try clear hfz42_7
                try clear hfz4_0
                try clear hfz4_1
                try clear hx332_0
                try clear hx332_1
                try clear hx332_2
                try clear hx332_3
                try clear hx332_4
                try clear hx332_5
                try clear hx332_6
                try clear hx332_7
                try clear p2
                try clear p3
                try clear p332
                try clear q3
                try clear q332
                obtain ⟨kq, x332000_30, x332001_30, HA, HJ30, BK331, BK333, HB⟩ := hcut
                cases kq with
                | zero => exact absurd HA.out (by simp [rotalaw26_exclusive.j2])
                | succ kj30 =>
                  have H := HA.out
                  clear HA
                  simp only [rotalaw26_exclusive.j2] at H
                  have HC43 := Aside0.mk H
                  clear H
                  go_upto_region 10 with (fail)
                  go_cut [68] (fun v68 wc => ∃ (kq : Nat) (x68_42 : Bool), v68 = .bool x68_42 ∧ Aside0 (rotalaw26_exclusive.j3 kq l0 a1 x6_1 x68_42 x332000_30 x332001_30 ((rd_T36 l0 x6_1).f0) ((rd_T36 l0 x6_1).f1) ((rd_T36 l0 x6_1).f2.f0) ((rd_T36 l0 x6_1).f2.f1) ((rd_T36 l0 x6_1).f3) ((rd_T36 l0 x6_1).f4) ((rd_T36 l0 x6_1).f5) ((rd_T36 l0 x6_1).f6) = some r) ∧ Aside0 (kq ≤ kj30) ∧ Aside0 (wc.heap[gb331]? = some (.cells #[.int .i64 x332000_30, .int .i64 x332001_30] 34 (0, 0))) ∧ Aside0 (wc.heap[gb333]? = some (.cells #[.int .u64 ((rd_T36 l0 x6_1).f0), .int .i64 ((rd_T36 l0 x6_1).f1), .int .i64 ((rd_T36 l0 x6_1).f2.f0), .int .i64 ((rd_T36 l0 x6_1).f2.f1), .int .i64 ((rd_T36 l0 x6_1).f3), .int .i64 ((rd_T36 l0 x6_1).f4), .int .i64 ((rd_T36 l0 x6_1).f5), .int .i64 ((rd_T36 l0 x6_1).f6)] 36 (0, 0))) ∧ Aside0 (Below w.heap.size w wc))
                  case first =>
                    have H := HC43.out
                    clear HC43
                    by_cases c44 : ((rd_T36 l0 x6_1).f3) = 21
                    · rw [if_pos c44] at H
                      have c44b0 : (((rd_T36 l0 x6_1).f3) == 21) = true := beq_iff_eq.mpr c44
                      have c44b1 : (((rd_T36 l0 x6_1).f3) != 21) = false := bne_eq_false_iff_eq.mpr c44
                      clear c44
                      (first | rw [c44b0] | (simp only [i64_w, i32_w]; rw [c44b0]) | skip)
                      by_cases c45 : ((rd_T36 l0 x6_1).f4) = a1
                      · rw [if_pos c45] at H
                        have c45b0 : (((rd_T36 l0 x6_1).f4) == a1) = true := beq_iff_eq.mpr c45
                        have c45b1 : (((rd_T36 l0 x6_1).f4) != a1) = false := bne_eq_false_iff_eq.mpr c45
                        clear c45
                        have H' := Aside0.mk H
                        clear H
                        have hnb46 := NB333_331.out
                        have hnc46 := NB331_333.out
                        have hcz47_0 : wc.cell? ⟨gb333, 0, none⟩ = some (.int .u64 ((rd_T36 l0 x6_1).f0)) := (blk_cell BK333.out 0).trans rfl
                        have hcz47_1 : wc.cell? ⟨gb333, 1, none⟩ = some (.int .i64 ((rd_T36 l0 x6_1).f1)) := (blk_cell BK333.out 1).trans rfl
                        have hcz47_2 : wc.cell? ⟨gb333, 2, none⟩ = some (.int .i64 ((rd_T36 l0 x6_1).f2.f0)) := (blk_cell BK333.out 2).trans rfl
                        have hcz47_3 : wc.cell? ⟨gb333, 3, none⟩ = some (.int .i64 ((rd_T36 l0 x6_1).f2.f1)) := (blk_cell BK333.out 3).trans rfl
                        have hcz47_4 : wc.cell? ⟨gb333, 4, none⟩ = some (.int .i64 ((rd_T36 l0 x6_1).f3)) := (blk_cell BK333.out 4).trans rfl
                        have hcz47_5 : wc.cell? ⟨gb333, 5, none⟩ = some (.int .i64 ((rd_T36 l0 x6_1).f4)) := (blk_cell BK333.out 5).trans rfl
                        have hcz47_6 : wc.cell? ⟨gb333, 6, none⟩ = some (.int .i64 ((rd_T36 l0 x6_1).f5)) := (blk_cell BK333.out 6).trans rfl
                        have hcz47_7 : wc.cell? ⟨gb333, 7, none⟩ = some (.int .i64 ((rd_T36 l0 x6_1).f6)) := (blk_cell BK333.out 7).trans rfl
                        have hfz47_0 := blk_frozen BK333.out 0
                        have hfz47_1 := blk_frozen BK333.out 1
                        have hfz47_2 := blk_frozen BK333.out 2
                        have hfz47_3 := blk_frozen BK333.out 3
                        have hfz47_4 := blk_frozen BK333.out 4
                        have hfz47_5 := blk_frozen BK333.out 5
                        have hfz47_6 := blk_frozen BK333.out 6
                        have hfz47_7 := blk_frozen BK333.out 7
                        go_wp2
                        go_meet
                        case rel => exact ⟨_, ((((rd_T36 l0 x6_1).f5) == 0)), (by first | rfl | (simp; done) | (simp [*]; done)), H', ⟨by have := HK1.out; have := HJ6.out; have := HJ30.out; first | omega | exact Nat.le_refl _⟩, ⟨by (with_reducible repeat (first | refine blk_drewN ?_ _ | refine blk_drew ?_ | refine blk_alloc ?_ _)); exact BK331.out⟩, ⟨by (with_reducible repeat (first | refine blk_drewN ?_ _ | refine blk_drew ?_ | refine blk_alloc ?_ _)); exact BK333.out⟩, ⟨by repeat (first | (with_reducible first | exact HB.out | apply below_alloc | apply pw_below_drewN | apply below_drew1 | refine below_set ?_ GE331.out | refine below_set ?_ GE333.out) | exact HB.out)⟩⟩
                      · rw [if_neg c45] at H
                        have c45b0 : (((rd_T36 l0 x6_1).f4) == a1) = false := beq_eq_false_iff_ne.mpr c45
                        have c45b1 : (((rd_T36 l0 x6_1).f4) != a1) = true := bne_iff_ne.mpr c45
                        have H' := Aside0.mk H
                        clear H
                        have hnb48 := NB333_331.out
                        have hnc48 := NB331_333.out
                        have hcz49_0 : wc.cell? ⟨gb333, 0, none⟩ = some (.int .u64 ((rd_T36 l0 x6_1).f0)) := (blk_cell BK333.out 0).trans rfl
                        have hcz49_1 : wc.cell? ⟨gb333, 1, none⟩ = some (.int .i64 ((rd_T36 l0 x6_1).f1)) := (blk_cell BK333.out 1).trans rfl
                        have hcz49_2 : wc.cell? ⟨gb333, 2, none⟩ = some (.int .i64 ((rd_T36 l0 x6_1).f2.f0)) := (blk_cell BK333.out 2).trans rfl
                        have hcz49_3 : wc.cell? ⟨gb333, 3, none⟩ = some (.int .i64 ((rd_T36 l0 x6_1).f2.f1)) := (blk_cell BK333.out 3).trans rfl
                        have hcz49_4 : wc.cell? ⟨gb333, 4, none⟩ = some (.int .i64 ((rd_T36 l0 x6_1).f3)) := (blk_cell BK333.out 4).trans rfl
                        have hcz49_5 : wc.cell? ⟨gb333, 5, none⟩ = some (.int .i64 ((rd_T36 l0 x6_1).f4)) := (blk_cell BK333.out 5).trans rfl
                        have hcz49_6 : wc.cell? ⟨gb333, 6, none⟩ = some (.int .i64 ((rd_T36 l0 x6_1).f5)) := (blk_cell BK333.out 6).trans rfl
                        have hcz49_7 : wc.cell? ⟨gb333, 7, none⟩ = some (.int .i64 ((rd_T36 l0 x6_1).f6)) := (blk_cell BK333.out 7).trans rfl
                        have hfz49_0 := blk_frozen BK333.out 0
                        have hfz49_1 := blk_frozen BK333.out 1
                        have hfz49_2 := blk_frozen BK333.out 2
                        have hfz49_3 := blk_frozen BK333.out 3
                        have hfz49_4 := blk_frozen BK333.out 4
                        have hfz49_5 := blk_frozen BK333.out 5
                        have hfz49_6 := blk_frozen BK333.out 6
                        have hfz49_7 := blk_frozen BK333.out 7
                        go_wp2
                        go_meet
                        case rel => exact ⟨_, (false), (by first | rfl | (simp; done) | (simp [*]; done)), H', ⟨by have := HK1.out; have := HJ6.out; have := HJ30.out; first | omega | exact Nat.le_refl _⟩, ⟨by (with_reducible repeat (first | refine blk_drewN ?_ _ | refine blk_drew ?_ | refine blk_alloc ?_ _)); exact BK331.out⟩, ⟨by (with_reducible repeat (first | refine blk_drewN ?_ _ | refine blk_drew ?_ | refine blk_alloc ?_ _)); exact BK333.out⟩, ⟨by repeat (first | (with_reducible first | exact HB.out | apply below_alloc | apply pw_below_drewN | apply below_drew1 | refine below_set ?_ GE331.out | refine below_set ?_ GE333.out) | exact HB.out)⟩⟩
                    · rw [if_neg c44] at H
                      have c44b0 : (((rd_T36 l0 x6_1).f3) == 21) = false := beq_eq_false_iff_ne.mpr c44
                      have c44b1 : (((rd_T36 l0 x6_1).f3) != 21) = true := bne_iff_ne.mpr c44
                      (first | rw [c44b0] | (simp only [i64_w, i32_w]; rw [c44b0]) | skip)
                      have H' := Aside0.mk H
                      clear H
                      have hnb50 := NB333_331.out
                      have hnc50 := NB331_333.out
                      have hcz51_0 : wc.cell? ⟨gb333, 0, none⟩ = some (.int .u64 ((rd_T36 l0 x6_1).f0)) := (blk_cell BK333.out 0).trans rfl
                      have hcz51_1 : wc.cell? ⟨gb333, 1, none⟩ = some (.int .i64 ((rd_T36 l0 x6_1).f1)) := (blk_cell BK333.out 1).trans rfl
                      have hcz51_2 : wc.cell? ⟨gb333, 2, none⟩ = some (.int .i64 ((rd_T36 l0 x6_1).f2.f0)) := (blk_cell BK333.out 2).trans rfl
                      have hcz51_3 : wc.cell? ⟨gb333, 3, none⟩ = some (.int .i64 ((rd_T36 l0 x6_1).f2.f1)) := (blk_cell BK333.out 3).trans rfl
                      have hcz51_4 : wc.cell? ⟨gb333, 4, none⟩ = some (.int .i64 ((rd_T36 l0 x6_1).f3)) := (blk_cell BK333.out 4).trans rfl
                      have hcz51_5 : wc.cell? ⟨gb333, 5, none⟩ = some (.int .i64 ((rd_T36 l0 x6_1).f4)) := (blk_cell BK333.out 5).trans rfl
                      have hcz51_6 : wc.cell? ⟨gb333, 6, none⟩ = some (.int .i64 ((rd_T36 l0 x6_1).f5)) := (blk_cell BK333.out 6).trans rfl
                      have hcz51_7 : wc.cell? ⟨gb333, 7, none⟩ = some (.int .i64 ((rd_T36 l0 x6_1).f6)) := (blk_cell BK333.out 7).trans rfl
                      have hfz51_0 := blk_frozen BK333.out 0
                      have hfz51_1 := blk_frozen BK333.out 1
                      have hfz51_2 := blk_frozen BK333.out 2
                      have hfz51_3 := blk_frozen BK333.out 3
                      have hfz51_4 := blk_frozen BK333.out 4
                      have hfz51_5 := blk_frozen BK333.out 5
                      have hfz51_6 := blk_frozen BK333.out 6
                      have hfz51_7 := blk_frozen BK333.out 7
                      go_wp2
                      go_meet
                      case rel => exact ⟨_, (false), (by first | rfl | (simp; done) | (simp [*]; done)), H', ⟨by have := HK1.out; have := HJ6.out; have := HJ30.out; first | omega | exact Nat.le_refl _⟩, ⟨by (with_reducible repeat (first | refine blk_drewN ?_ _ | refine blk_drew ?_ | refine blk_alloc ?_ _)); exact BK331.out⟩, ⟨by (with_reducible repeat (first | refine blk_drewN ?_ _ | refine blk_drew ?_ | refine blk_alloc ?_ _)); exact BK333.out⟩, ⟨by repeat (first | (with_reducible first | exact HB.out | apply below_alloc | apply pw_below_drewN | apply below_drew1 | refine below_set ?_ GE331.out | refine below_set ?_ GE333.out) | exact HB.out)⟩⟩
                  case rest =>
                    clear HC43
                    try clear c1
                    try clear c2
                    try clear p2
                    try clear c3
                    try clear p3
                    try clear q3
                    try clear hx3
                    try clear c4
                    try clear c5
                    try clear c5b0
                    try clear c6
                    try clear c6b0
                    try clear c9
                    try clear c11
                    try clear c11b0
                    try clear c11b1
                    try clear c12
                    try clear c12b0
                    try clear c12b1
                    try clear c13
                    try clear c13b0
                    try clear c13b1
                    try clear c14
                    try clear c16
                    try clear c16b0
                    try clear c16b1
                    try clear c17
                    try clear c19
                    try clear c21
                    try clear c21b0
                    try clear c21b1
                    try clear c22
                    try clear c24
                    try clear c26
                    try clear c26b0
                    try clear c26b1
                    try clear c27
                    try clear c29
                    try clear c32
                    try clear c33
                    try clear c33b0
                    try clear p33
                    try clear q33
                    try clear hx33
                    try clear c34
                    try clear c36
                    try clear c36b0
                    try clear c36b1
                    try clear c36b2
                    try clear c37
                    try clear c40
                    try clear c44
                    try clear c44b0
                    try clear c44b1
                    try clear c45
                    try clear c45b0
                    try clear c45b1
                    try clear c46
                    try clear c48
                    try clear c50
                    try clear hcz10_0
                    try clear hcz10_1
                    try clear hcz10_2
                    try clear hcz10_3
                    try clear hcz10_4
                    try clear hcz10_5
                    try clear hcz10_6
                    try clear hcz10_7
                    try clear hcz15_0
                    try clear hcz15_1
                    try clear hcz15_2
                    try clear hcz15_3
                    try clear hcz15_4
                    try clear hcz15_5
                    try clear hcz15_6
                    try clear hcz15_7
                    try clear hcz18_0
                    try clear hcz18_1
                    try clear hcz18_2
                    try clear hcz18_3
                    try clear hcz18_4
                    try clear hcz18_5
                    try clear hcz18_6
                    try clear hcz18_7
                    try clear hcz20_0
                    try clear hcz20_1
                    try clear hcz20_2
                    try clear hcz20_3
                    try clear hcz20_4
                    try clear hcz20_5
                    try clear hcz20_6
                    try clear hcz20_7
                    try clear hcz23_0
                    try clear hcz23_1
                    try clear hcz23_2
                    try clear hcz23_3
                    try clear hcz23_4
                    try clear hcz23_5
                    try clear hcz23_6
                    try clear hcz23_7
                    try clear hcz25_0
                    try clear hcz25_1
                    try clear hcz25_2
                    try clear hcz25_3
                    try clear hcz25_4
                    try clear hcz25_5
                    try clear hcz25_6
                    try clear hcz25_7
                    try clear hcz28_0
                    try clear hcz28_1
                    try clear hcz28_2
                    try clear hcz28_3
                    try clear hcz28_4
                    try clear hcz28_5
                    try clear hcz28_6
                    try clear hcz28_7
                    try clear hcz30_0
                    try clear hcz30_1
                    try clear hcz30_2
                    try clear hcz30_3
                    try clear hcz30_4
                    try clear hcz30_5
                    try clear hcz30_6
                    try clear hcz30_7
                    try clear hcz35_0
                    try clear hcz35_1
                    try clear hcz38_0
                    try clear hcz38_1
                    try clear hcz39_0
                    try clear hcz39_1
                    try clear hcz39_2
                    try clear hcz39_3
                    try clear hcz39_4
                    try clear hcz39_5
                    try clear hcz39_6
                    try clear hcz39_7
                    try clear hcz41_0
                    try clear hcz41_1
                    try clear hcz42_0
                    try clear hcz42_1
                    try clear hcz42_2
                    try clear hcz42_3
                    try clear hcz42_4
                    try clear hcz42_5
                    try clear hcz42_6
                    try clear hcz42_7
                    try clear hcz47_0
                    try clear hcz47_1
                    try clear hcz47_2
                    try clear hcz47_3
                    try clear hcz47_4
                    try clear hcz47_5
                    try clear hcz47_6
                    try clear hcz47_7
                    try clear hcz49_0
                    try clear hcz49_1
                    try clear hcz49_2
                    try clear hcz49_3
                    try clear hcz49_4
                    try clear hcz49_5
                    try clear hcz49_6
                    try clear hcz49_7
                    try clear hcz4_0
                    try clear hcz4_1
                    try clear hcz51_0
                    try clear hcz51_1
                    try clear hcz51_2
                    try clear hcz51_3
                    try clear hcz51_4
                    try clear hcz51_5
                    try clear hcz51_6
                    try clear hcz51_7
                    try clear hfz10_0
                    try clear hfz10_1
                    try clear hfz10_2
                    try clear hfz10_3
                    try clear hfz10_4
                    try clear hfz10_5
                    try clear hfz10_6
                    try clear hfz10_7
                    try clear hfz15_0
                    try clear hfz15_1
                    try clear hfz15_2
                    try clear hfz15_3
                    try clear hfz15_4
                    try clear hfz15_5
                    try clear hfz15_6
                    try clear hfz15_7
                    try clear hfz18_0
                    try clear hfz18_1
                    try clear hfz18_2
                    try clear hfz18_3
                    try clear hfz18_4
                    try clear hfz18_5
                    try clear hfz18_6
                    try clear hfz18_7
                    try clear hfz20_0
                    try clear hfz20_1
                    try clear hfz20_2
                    try clear hfz20_3
                    try clear hfz20_4
                    try clear hfz20_5
                    try clear hfz20_6
                    try clear hfz20_7
                    try clear hfz23_0
                    try clear hfz23_1
                    try clear hfz23_2
                    try clear hfz23_3
                    try clear hfz23_4
                    try clear hfz23_5
                    try clear hfz23_6
                    try clear hfz23_7
                    try clear hfz25_0
                    try clear hfz25_1
                    try clear hfz25_2
                    try clear hfz25_3
                    try clear hfz25_4
                    try clear hfz25_5
                    try clear hfz25_6
                    try clear hfz25_7
                    try clear hfz28_0
                    try clear hfz28_1
                    try clear hfz28_2
                    try clear hfz28_3
                    try clear hfz28_4
                    try clear hfz28_5
                    try clear hfz28_6
                    try clear hfz28_7
                    try clear hfz30_0
                    try clear hfz30_1
                    try clear hfz30_2
                    try clear hfz30_3
                    try clear hfz30_4
                    try clear hfz30_5
                    try clear hfz30_6
                    try clear hfz30_7
                    try clear hfz35_0
                    try clear hfz35_1
                    try clear hfz38_0
                    try clear hfz38_1
                    try clear hfz39_0
                    try clear hfz39_1
                    try clear hfz39_2
                    try clear hfz39_3
                    try clear hfz39_4
                    try clear hfz39_5
                    try clear hfz39_6
                    try clear hfz39_7
                    try clear hfz41_0
                    try clear hfz41_1
                    try clear hfz42_0
                    try clear hfz42_1
                    try clear hfz42_2
                    try clear hfz42_3
                    try clear hfz42_4
                    try clear hfz42_5
                    try clear hfz42_6
                    try clear hfz42_7
                    try clear hfz47_0
                    try clear hfz47_1
                    try clear hfz47_2
                    try clear hfz47_3
                    try clear hfz47_4
                    try clear hfz47_5
                    try clear hfz47_6
                    try clear hfz47_7
                    try clear hfz49_0
                    try clear hfz49_1
                    try clear hfz49_2
                    try clear hfz49_3
                    try clear hfz49_4
                    try clear hfz49_5
                    try clear hfz49_6
                    try clear hfz49_7
                    try clear hfz4_0
                    try clear hfz4_1
                    try clear hfz51_0
                    try clear hfz51_1
                    try clear hfz51_2
                    try clear hfz51_3
                    try clear hfz51_4
                    try clear hfz51_5
                    try clear hfz51_6
                    try clear hfz51_7
                    try clear hx332_0
                    try clear hx332_1
                    try clear hx332_2
                    try clear hx332_3
                    try clear hx332_4
                    try clear hx332_5
                    try clear hx332_6
                    try clear hx332_7
                    try clear p2
                    try clear p3
                    try clear p33
                    try clear p332
                    try clear q3
                    try clear q33
                    try clear q332
                    obtain ⟨kq, x68_42, rfl, HA, HJ42, BK331, BK333, HB⟩ := hcut
                    cases kq with
                    | zero => exact absurd HA.out (by simp [rotalaw26_exclusive.j3])
                    | succ kj42 =>
                      have H := HA.out
                      clear HA
                      simp only [rotalaw26_exclusive.j3] at H
                      by_cases c52 : x68_42 = true
                      · subst c52
                        have H1 : (if (!(x332000_30 == ((rd_T36 l0 x6_1).f2.f0)) || (!(x332001_30 == ((rd_T36 l0 x6_1).f2.f1)))) = true then (some false) else (rotalaw26_exclusive.l0 kj42 l0 a1 (wrap64 (x6_1 + 1)) 0 0)) = some r := by rw [if_pos rfl] at H; exact H
                        clear H
                        have H := H1
                        clear H1
                        by_cases c53 : (!(x332000_30 == ((rd_T36 l0 x6_1).f2.f0)) || (!(x332001_30 == ((rd_T36 l0 x6_1).f2.f1)))) = true
                        · rw [if_pos c53] at H
                          have c53b0 : (!(x332000_30 == ((rd_T36 l0 x6_1).f2.f0)) || (!(x332001_30 == ((rd_T36 l0 x6_1).f2.f1)))) = true := c53
                          clear c53
                          obtain rfl := Option.some.inj H
                          have hnb54 := NB331_333.out
                          have hnc54 := NB333_331.out
                          have hcz55_0 : wc.cell? ⟨gb331, 0, none⟩ = some (.int .i64 x332000_30) := (blk_cell BK331.out 0).trans rfl
                          have hcz55_1 : wc.cell? ⟨gb331, 1, none⟩ = some (.int .i64 x332001_30) := (blk_cell BK331.out 1).trans rfl
                          have hfz55_0 := blk_frozen BK331.out 0
                          have hfz55_1 := blk_frozen BK331.out 1
                          have hcz56_0 : wc.cell? ⟨gb333, 0, none⟩ = some (.int .u64 ((rd_T36 l0 x6_1).f0)) := (blk_cell BK333.out 0).trans rfl
                          have hcz56_1 : wc.cell? ⟨gb333, 1, none⟩ = some (.int .i64 ((rd_T36 l0 x6_1).f1)) := (blk_cell BK333.out 1).trans rfl
                          have hcz56_2 : wc.cell? ⟨gb333, 2, none⟩ = some (.int .i64 ((rd_T36 l0 x6_1).f2.f0)) := (blk_cell BK333.out 2).trans rfl
                          have hcz56_3 : wc.cell? ⟨gb333, 3, none⟩ = some (.int .i64 ((rd_T36 l0 x6_1).f2.f1)) := (blk_cell BK333.out 3).trans rfl
                          have hcz56_4 : wc.cell? ⟨gb333, 4, none⟩ = some (.int .i64 ((rd_T36 l0 x6_1).f3)) := (blk_cell BK333.out 4).trans rfl
                          have hcz56_5 : wc.cell? ⟨gb333, 5, none⟩ = some (.int .i64 ((rd_T36 l0 x6_1).f4)) := (blk_cell BK333.out 5).trans rfl
                          have hcz56_6 : wc.cell? ⟨gb333, 6, none⟩ = some (.int .i64 ((rd_T36 l0 x6_1).f5)) := (blk_cell BK333.out 6).trans rfl
                          have hcz56_7 : wc.cell? ⟨gb333, 7, none⟩ = some (.int .i64 ((rd_T36 l0 x6_1).f6)) := (blk_cell BK333.out 7).trans rfl
                          have hfz56_0 := blk_frozen BK333.out 0
                          have hfz56_1 := blk_frozen BK333.out 1
                          have hfz56_2 := blk_frozen BK333.out 2
                          have hfz56_3 := blk_frozen BK333.out 3
                          have hfz56_4 := blk_frozen BK333.out 4
                          have hfz56_5 := blk_frozen BK333.out 5
                          have hfz56_6 := blk_frozen BK333.out 6
                          have hfz56_7 := blk_frozen BK333.out 7
                          go_wp2
                          go_ret
                          exact ⟨by first | rfl | (simp [errW_none, errW_some] <;> rfl) | (simp [*, errW_none, errW_some] <;> rfl), by repeat (first | (with_reducible first | exact HB.out | apply below_alloc | apply pw_below_drewN | apply below_drew1 | refine below_set ?_ GE331.out | refine below_set ?_ GE333.out) | exact HB.out)⟩
                        · rw [if_neg c53] at H
                          have c53b0 : (!(x332000_30 == ((rd_T36 l0 x6_1).f2.f0)) || (!(x332001_30 == ((rd_T36 l0 x6_1).f2.f1)))) = false := by simpa using c53
                          clear c53
                          have H' := Aside0.mk H
                          clear H
                          have hnb57 := NB331_333.out
                          have hnc57 := NB333_331.out
                          have hcz58_0 : wc.cell? ⟨gb331, 0, none⟩ = some (.int .i64 x332000_30) := (blk_cell BK331.out 0).trans rfl
                          have hcz58_1 : wc.cell? ⟨gb331, 1, none⟩ = some (.int .i64 x332001_30) := (blk_cell BK331.out 1).trans rfl
                          have hfz58_0 := blk_frozen BK331.out 0
                          have hfz58_1 := blk_frozen BK331.out 1
                          have hcz59_0 : wc.cell? ⟨gb333, 0, none⟩ = some (.int .u64 ((rd_T36 l0 x6_1).f0)) := (blk_cell BK333.out 0).trans rfl
                          have hcz59_1 : wc.cell? ⟨gb333, 1, none⟩ = some (.int .i64 ((rd_T36 l0 x6_1).f1)) := (blk_cell BK333.out 1).trans rfl
                          have hcz59_2 : wc.cell? ⟨gb333, 2, none⟩ = some (.int .i64 ((rd_T36 l0 x6_1).f2.f0)) := (blk_cell BK333.out 2).trans rfl
                          have hcz59_3 : wc.cell? ⟨gb333, 3, none⟩ = some (.int .i64 ((rd_T36 l0 x6_1).f2.f1)) := (blk_cell BK333.out 3).trans rfl
                          have hcz59_4 : wc.cell? ⟨gb333, 4, none⟩ = some (.int .i64 ((rd_T36 l0 x6_1).f3)) := (blk_cell BK333.out 4).trans rfl
                          have hcz59_5 : wc.cell? ⟨gb333, 5, none⟩ = some (.int .i64 ((rd_T36 l0 x6_1).f4)) := (blk_cell BK333.out 5).trans rfl
                          have hcz59_6 : wc.cell? ⟨gb333, 6, none⟩ = some (.int .i64 ((rd_T36 l0 x6_1).f5)) := (blk_cell BK333.out 6).trans rfl
                          have hcz59_7 : wc.cell? ⟨gb333, 7, none⟩ = some (.int .i64 ((rd_T36 l0 x6_1).f6)) := (blk_cell BK333.out 7).trans rfl
                          have hfz59_0 := blk_frozen BK333.out 0
                          have hfz59_1 := blk_frozen BK333.out 1
                          have hfz59_2 := blk_frozen BK333.out 2
                          have hfz59_3 := blk_frozen BK333.out 3
                          have hfz59_4 := blk_frozen BK333.out 4
                          have hfz59_5 := blk_frozen BK333.out 5
                          have hfz59_6 := blk_frozen BK333.out 6
                          have hfz59_7 := blk_frozen BK333.out 7
                          go_wp2
                          go_roundg kj42
                          case measure => have := HK1.out; have := HJ6.out; have := HJ30.out; have := HJ42.out; omega
                          case rel => exact ⟨(wrap64 (x6_1 + 1)), (0), (0), (by first | rfl | (simp; done) | (simp [*]; done)), H', ⟨by have := HK1.out; have := HJ6.out; have := HJ30.out; have := HJ42.out; omega⟩, ⟨by (with_reducible repeat (first | refine blk_drewN ?_ _ | refine blk_drew ?_ | refine blk_alloc ?_ _)); refine blk_put (cs := #[.int .i64 0, .int .i64 x332001_30]) ?_ 1 _ rfl; (with_reducible repeat (first | refine blk_drewN ?_ _ | refine blk_drew ?_ | refine blk_alloc ?_ _)); refine blk_put (cs := #[.int .i64 x332000_30, .int .i64 x332001_30]) ?_ 0 _ rfl; (with_reducible repeat (first | refine blk_drewN ?_ _ | refine blk_drew ?_ | refine blk_alloc ?_ _)); exact BK331.out⟩, ⟨by repeat (first | (with_reducible first | exact HB.out | apply below_alloc | apply pw_below_drewN | apply below_drew1 | refine below_set ?_ GE331.out | refine below_set ?_ GE333.out) | exact HB.out)⟩⟩
                      · replace c52 := Bool.eq_false_iff.mpr c52
                        subst c52
                        have H1 : (rotalaw26_exclusive.l0 kj42 l0 a1 (wrap64 (x6_1 + 1)) x332000_30 x332001_30) = some r := by rw [if_neg (show ¬ (false = true) by decide)] at H; exact H
                        clear H
                        have H := H1
                        clear H1
                        have H' := Aside0.mk H
                        clear H
                        go_wp2
                        go_roundg kj42
                        case measure => have := HK1.out; have := HJ6.out; have := HJ30.out; have := HJ42.out; omega
                        case rel => exact ⟨(wrap64 (x6_1 + 1)), (x332000_30), (x332001_30), (by first | rfl | (simp; done) | (simp [*]; done)), H', ⟨by have := HK1.out; have := HJ6.out; have := HJ30.out; have := HJ42.out; omega⟩, ⟨by (with_reducible repeat (first | refine blk_drewN ?_ _ | refine blk_drew ?_ | refine blk_alloc ?_ _)); exact BK331.out⟩, ⟨by repeat (first | (with_reducible first | exact HB.out | apply below_alloc | apply pw_below_drewN | apply below_drew1 | refine below_set ?_ GE331.out | refine below_set ?_ GE333.out) | exact HB.out)⟩⟩
        · rw [if_neg c6] at H
          exact absurd H (by simp)
      · rw [if_neg c5] at H
        have c5b0 : decide (x6_1 < (l0.length : Int)) = false := decide_eq_false c5
        clear c5
        obtain rfl := Option.some.inj H
        go_wp2
        go_ret
        exact ⟨by first | rfl | (simp [errW_none, errW_some] <;> rfl) | (simp [*, errW_none, errW_some] <;> rfl), by repeat (first | (with_reducible first | exact HB.out | apply below_alloc | apply pw_below_drewN | apply below_drew1 | refine below_set ?_ GE331.out) | exact HB.out)⟩

end Go.Proofs.Ytkbfijkohngjjaa.QOrder

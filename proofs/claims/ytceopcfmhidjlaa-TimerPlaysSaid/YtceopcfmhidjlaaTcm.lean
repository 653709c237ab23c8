/- cmp.Compare at two kinds, cmp.Or of two, and the comparison that Numbers sorts by. Conditions: none. -/
import Derived.Test.YtceopcfmhidjlaaTa1
import Derived.Sort.Grow
set_option linter.unusedVariables false
set_option linter.unusedSimpArgs false
namespace Go.Proofs.Ytceopcfmhidjlaa.PTimerPlays
open Go.RowKit Go.Proofs.Ytceopcfmhidjlaa.Ef Go.Proofs.Ytceopcfmhidjlaa.Mp Go.Proofs.Ytceopcfmhidjlaa.Hp Go.Proofs.YtceopcfmhidjlaaW.PrintWords Go.Proofs.YtceopcfmhidjlaaW.PrintLast Go.Proofs.YtceopcfmhidjlaaW.PrintMore

def Sorted (d : List NI) : Prop := d.Pairwise fun x y => ¬ lt y x
def cmpI (a b : Int) : Int := if a < b then -1 else if b < a then 1 else 0
set_option maxHeartbeats 1000000 in
theorem cmpU_calls (a b : Int) (w : World) : Calls Try.prog 55 #[.int .u64 a, .int .u64 b] w fun e w' => e = .returned (.int .i64 (cmpI a b)) ∧ w' = w := by
  unfold cmpI
  by_cases h1 : a < b
  · rw [if_pos h1]
    go_enter Try.func55, Try.ntmps55
    go_wp2
    go_ret
    exact ⟨rfl, rfl⟩
  · rw [if_neg h1]
    by_cases h2 : b < a
    · rw [if_pos h2]
      go_enter Try.func55, Try.ntmps55
      go_wp2
      go_ret
      exact ⟨rfl, rfl⟩
    · rw [if_neg h2]
      go_enter Try.func55, Try.ntmps55
      go_wp2
      go_ret
      exact ⟨rfl, rfl⟩
set_option maxHeartbeats 1000000 in
theorem cmpS_calls (a b : Int) (w : World) : Calls Try.prog 56 #[.int .i64 a, .int .i64 b] w fun e w' => e = .returned (.int .i64 (cmpI a b)) ∧ w' = w := by
  unfold cmpI
  by_cases h1 : a < b
  · rw [if_pos h1]
    go_enter Try.func56, Try.ntmps56
    go_wp2
    go_ret
    exact ⟨rfl, rfl⟩
  · rw [if_neg h1]
    by_cases h2 : b < a
    · rw [if_pos h2]
      go_enter Try.func56, Try.ntmps56
      go_wp2
      go_ret
      exact ⟨rfl, rfl⟩
    · rw [if_neg h2]
      go_enter Try.func56, Try.ntmps56
      go_wp2
      go_ret
      exact ⟨rfl, rfl⟩
set_option maxHeartbeats 2000000 in
theorem or_calls (x y r : Int) (g : Nat) (w : World) (h0 : w.cell? ⟨g, 0, none⟩ = some (.int .i64 x)) (h1 : w.cell? ⟨g, 1, none⟩ = some (.int .i64 y)) (hr : r = if x ≠ 0 then x else y) :
    Calls Try.prog 54 #[.slice (some ⟨g, 0, none⟩) 2 2] w fun e w' => e = .returned (.int .i64 r) ∧ w' = w := by
  have HR := Aside0.mk hr
  clear hr
  go_enter Try.func54, Try.ntmps54
  go_wp2
  go_loop [8] (fun v8 => v8 = .int .i64 0 ∨ (v8 = .int .i64 1 ∧ Aside0 (x = 0)) ∨ (v8 = .int .i64 2 ∧ Aside0 (x = 0 ∧ y = 0))) (fun v8 => (2 - intOf v8).toNat)
  case atStart => exact .inl rfl
  case round =>
    rcases hrel with rfl | ⟨rfl, HX⟩ | ⟨rfl, HX⟩
    · by_cases e0 : x = 0
      · have hb : (x != 0) = false := by simp [e0]
        have HX := Aside0.mk e0
        clear e0
        go_wp2
        go_round
        case rel => exact .inr (.inl ⟨rfl, HX⟩)
        case measure => simp [intOf]
      · have hb : (x != 0) = true := by simp [e0]
        have HX := Aside0.mk e0
        clear e0
        go_wp2
        go_ret
        have := HR.out
        rw [if_pos HX.out] at this
        exact ⟨by rw [this]; rfl, rfl⟩
    · by_cases e0 : y = 0
      · have hb : (y != 0) = false := by simp [e0]
        have HY := Aside0.mk e0
        clear e0
        go_wp2
        go_round
        case rel => exact .inr (.inr ⟨rfl, ⟨HX.out, HY.out⟩⟩)
        case measure => simp [intOf]
      · have hb : (y != 0) = true := by simp [e0]
        have HY := Aside0.mk e0
        clear e0
        go_wp2
        go_ret
        have := HR.out
        rw [if_neg (by rw [HX.out]; simp)] at this
        exact ⟨by rw [this]; rfl, rfl⟩
    · go_wp2
      go_ret
      have := HR.out
      rw [if_neg (by rw [HX.out.1]; simp), HX.out.2] at this
      exact ⟨by rw [this]; rfl, rfl⟩
def cmpN (x y : NI) : Int := if cmpI x.when y.when ≠ 0 then cmpI x.when y.when else cmpI x.num y.num
open Go.Sort in
set_option maxRecDepth 100000 in
set_option maxHeartbeats 4000000 in
theorem cmpN_calls (x y : NI) (w : World) : Calls Try.prog 53 #[.agg (cN x), .agg (cN y)] w fun e w' => e = .returned (.int .i64 (cmpN x y)) ∧ ∃ q os', w' = grow (w.drewN q) os' := by
  obtain ⟨a, ha⟩ : ∃ a, cmpI x.when y.when = a := ⟨_, rfl⟩
  obtain ⟨b, hb⟩ : ∃ b, cmpI x.num y.num = b := ⟨_, rfl⟩
  obtain ⟨r, hr⟩ : ∃ r, cmpN x y = r := ⟨_, rfl⟩
  have HR : Aside0 (r = if a ≠ 0 then a else b) := ⟨by rw [← hr, ← ha, ← hb]; rfl⟩
  have HA := Aside0.mk ha
  have HB := Aside0.mk hb
  rw [hr]
  clear ha hb hr
  go_enter Try.func53, Try.ntmps53
  go_wp2
  have e1 : (w.alloc (.cells (cN x) 105 (0, 0))).heap.size = w.heap.size + 1 := Array.size_push _
  have kx : ((w.alloc (.cells (cN x) 105 (0, 0))).alloc (.cells (cN y) 105 (0, 0))).heap[w.heap.size]? = some (.cells (cN x) 105 (0, 0)) := blk_below (blk_new w _) (below_alloc (Below.refl _ _) _)
  have ky : ((w.alloc (.cells (cN x) 105 (0, 0))).alloc (.cells (cN y) 105 (0, 0))).heap[w.heap.size + 1]? = some (.cells (cN y) 105 (0, 0)) := by
    have := blk_new (w.alloc (.cells (cN x) 105 (0, 0))) (.cells (cN y) 105 (0, 0))
    rw [e1] at this
    exact this
  have HW : Aside0 (∃ q os', ((w.alloc (.cells (cN x) 105 (0, 0))).alloc (.cells (cN y) 105 (0, 0))) = grow (w.drewN q) os') := ⟨0, _, by rw [alloc_eq_grow, alloc_eq_grow, grow_grow]; rfl⟩
  clear e1
  generalize ((w.alloc (.cells (cN x) 105 (0, 0))).alloc (.cells (cN y) 105 (0, 0))) = W at *
  generalize hgx : w.heap.size = gx at *
  generalize hgy : gx + 1 = gy at *
  clear hgx hgy
  have hx0 : W.cell? ⟨gx, 0, none⟩ = some (.int .u64 x.when) := (blk_cell kx 0).trans rfl
  have hx1 : W.cell? ⟨gx, 1, none⟩ = some (.int .i64 x.num) := (blk_cell kx 1).trans rfl
  have hy0 : W.cell? ⟨gy, 0, none⟩ = some (.int .u64 y.when) := (blk_cell ky 0).trans rfl
  have hy1 : W.cell? ⟨gy, 1, none⟩ = some (.int .i64 y.num) := (blk_cell ky 1).trans rfl
  clear kx ky
  have C1 := Aside0.mk (show ∀ W, Calls Try.prog 55 #[.int .u64 x.when, .int .u64 y.when] W fun e w' => e = .returned (.int .i64 a) ∧ w' = W from fun W => by rw [← HA.out]; exact cmpU_calls _ _ W)
  have C2 := Aside0.mk (show ∀ W, Calls Try.prog 56 #[.int .i64 x.num, .int .i64 y.num] W fun e w' => e = .returned (.int .i64 b) ∧ w' = W from fun W => by rw [← HB.out]; exact cmpS_calls _ _ W)
  go_still_tail 10, (by kernel_rfl)
  still_call (C1.out _)
  repeat still_step
  still_call (C2.out _)
  repeat still_step
  refine wpStill_nil ?_
  change wpList _ _ _ _ _ W.drew
  have HW2 : Aside0 (∃ q os', W.drew = grow (w.drewN q) os') := ⟨by obtain ⟨q, os', h⟩ := HW.out; exact ⟨q + 1, os', by rw [h]; rfl⟩⟩
  generalize W.drew = V at *
  clear hx0 hx1 hy0 hy1
  have e2 : (V.alloc (.cells #[.int .i64 a, .int .i64 b] 3 (0, 0))).heap[V.heap.size]? = some (.cells #[.int .i64 a, .int .i64 b] 3 (0, 0)) := blk_new V _
  have hz0 := Aside0.mk ((blk_cell e2 0).trans rfl)
  have hz1 := Aside0.mk ((blk_cell e2 1).trans rfl)
  clear e2
  go_wp2_with (go_at_call 54; (refine (or_calls a b r V.heap.size _ hz0.out hz1.out HR.out).mono ?_); rintro e w5 ⟨rfl, rfl⟩)
  go_ret
  refine ⟨rfl, ?_⟩
  obtain ⟨q, os', h⟩ := HW2.out
  exact ⟨q, _, by rw [h, alloc_eq_grow, grow_grow]⟩
end Go.Proofs.Ytceopcfmhidjlaa.PTimerPlays

/- again: a ticker's next time. Conditions: each theorem's own. -/
import Derived.Test.YtceopcfmhidjlaaTa2
import Derived.Laws.Rows
set_option linter.unusedVariables false
set_option linter.unusedSimpArgs false
namespace Go.Proofs.Ytceopcfmhidjlaa.PTimerPlays
open Go.RowKit Go.Proofs.Ytceopcfmhidjlaa.Ef Go.Proofs.Ytceopcfmhidjlaa.Mp Go.Proofs.Ytceopcfmhidjlaa.Hp Go.Proofs.YtceopcfmhidjlaaW.PrintWords Go.Proofs.YtceopcfmhidjlaaW.PrintLast Go.Proofs.YtceopcfmhidjlaaW.PrintMore

def again (now : Int) (x : Tm) : Tm := if (18446744073709551615 - x.f4) / x.f6 ≤ (now - x.f4) / x.f6 then { x with f4 := 0, f5 := true } else { x with f4 := x.f4 + ((now - x.f4) / x.f6 + 1) * x.f6 }
theorem again_fits {a m p q : Int} (hp : 0 < p) (ha : 0 ≤ a) (hq : 0 ≤ q) (h : q < (m - a) / p) : (q + 1) * p ≤ m - a :=
  (Int.le_ediv_iff_mul_le hp).1 (by omega)
set_option maxHeartbeats 1000000 in
set_option maxRecDepth 100000 in
theorem again_calls (x : Tm) (now : Int) (w : World) (h0 : 0 ≤ x.f4) (h1 : x.f4 ≤ now) (h2 : now < 18446744073709551616) (h3 : 0 < x.f6) (h4 : x.f6 < 18446744073709551616) :
    Calls Try.prog 34 #[.agg (cT x), .int .u64 now] w fun e w' => e = .returned (.agg (cT (again now x))) ∧ Below w.heap.size w w' := by
  obtain ⟨xi, xk, ⟨xs, xg⟩, xc, xt, xn, xp⟩ := x
  simp only at h0 h1 h3 h4
  have hq : 0 ≤ (now - xt) / xp := Int.ediv_nonneg (by omega) (by omega)
  have ub : ∀ n : Int, 0 ≤ n → n ≤ 18446744073709551615 → IntKind.u64.wrap n = n := fun n a b => by rw [IntKind.wrap_u64]; omega
  by_cases hc : (18446744073709551615 - xt) / xp ≤ (now - xt) / xp
  · rw [show again now ⟨xi, xk, ⟨xs, xg⟩, xc, xt, xn, xp⟩ = ⟨xi, xk, ⟨xs, xg⟩, xc, 0, true, xp⟩ from if_pos hc]
    go_enter Try.func34, Try.ntmps34
    go_wp2
    have e1 : (w.alloc (.cells #[.int .i64 xi, .int .i64 xk, .int .i64 xs, .int .i64 xg, .int .i64 xc, .int .u64 0, .bool true, .int .u64 xp] 40 (0, 0))).heap.size = w.heap.size + 1 := Array.size_push _
    have hb := blk_new (w.alloc (.cells #[.int .i64 xi, .int .i64 xk, .int .i64 xs, .int .i64 xg, .int .i64 xc, .int .u64 0, .bool true, .int .u64 xp] 40 (0, 0))) (.cells #[.int .i64 xi, .int .i64 xk, .int .i64 xs, .int .i64 xg, .int .i64 xc, .int .u64 0, .bool true, .int .u64 xp] 40 (0, 0))
    rw [e1] at hb
    refine bodyPost_ret (results_cell_row rfl _ _ (w.heap.size + 1) 40 _ (0, 0) _ rfl hb Try.underlying40 rfl (by kernel_rfl)) rfl ⟨rfl, below_alloc (below_alloc (Below.refl _ _) _) _⟩
  · have hlt := Int.not_le.1 hc
    have hf := again_fits h3 h0 hq hlt
    have hm : (now - xt) / xp + 1 ≤ ((now - xt) / xp + 1) * xp := by
      have := Int.mul_le_mul_of_nonneg_left (show (1 : Int) ≤ xp by omega) (show 0 ≤ (now - xt) / xp + 1 by omega)
      omega
    have w1 := ub ((now - xt) / xp + 1) (by omega) (by omega)
    have w2 := ub (((now - xt) / xp + 1) * xp) (by omega) (by omega)
    have w3 := ub (xt + ((now - xt) / xp + 1) * xp) (by omega) (by omega)
    rw [show again now ⟨xi, xk, ⟨xs, xg⟩, xc, xt, xn, xp⟩ = ⟨xi, xk, ⟨xs, xg⟩, xc, xt + ((now - xt) / xp + 1) * xp, xn, xp⟩ from if_neg hc]
    clear hf hm ub
    go_enter Try.func34, Try.ntmps34
    go_wp2

    generalize xt + ((now - xt) / xp + 1) * xp = z
    have e1 : (w.alloc (.cells #[.int .i64 xi, .int .i64 xk, .int .i64 xs, .int .i64 xg, .int .i64 xc, .int .u64 z, .bool xn, .int .u64 xp] 40 (0, 0))).heap.size = w.heap.size + 1 := Array.size_push _
    have hb := blk_new (w.alloc (.cells #[.int .i64 xi, .int .i64 xk, .int .i64 xs, .int .i64 xg, .int .i64 xc, .int .u64 z, .bool xn, .int .u64 xp] 40 (0, 0))) (.cells #[.int .i64 xi, .int .i64 xk, .int .i64 xs, .int .i64 xg, .int .i64 xc, .int .u64 z, .bool xn, .int .u64 xp] 40 (0, 0))
    rw [e1] at hb
    refine bodyPost_ret (results_cell_row rfl _ _ (w.heap.size + 1) 40 _ (0, 0) _ rfl hb Try.underlying40 rfl (by kernel_rfl)) rfl ⟨rfl, below_alloc (below_alloc (Below.refl _ _) _) _⟩
end Go.Proofs.Ytceopcfmhidjlaa.PTimerPlays

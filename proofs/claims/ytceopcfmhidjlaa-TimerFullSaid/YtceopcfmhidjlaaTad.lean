/- tick.Add, over the model's own bits.Add64. Conditions: the theorem's own. -/
import Derived.Test.YtceopcfmhidjlaaTst
import Derived.Laws.Externs
set_option linter.unusedVariables false
set_option linter.unusedSimpArgs false
namespace Go.Proofs.Ytceopcfmhidjlaa.PTimerPlays
open Go.RowKit Go.Proofs.Ytceopcfmhidjlaa.Ef Go.Proofs.Ytceopcfmhidjlaa.Mp Go.Proofs.Ytceopcfmhidjlaa.Hp Go.Proofs.YtceopcfmhidjlaaW.PrintWords Go.Proofs.YtceopcfmhidjlaaW.PrintLast Go.Proofs.YtceopcfmhidjlaaW.PrintMore

theorem add64 (x y : Int) (hx : 0 ≤ x) (hy : 0 ≤ y) (w : World) : (callFunc 60 #[.int .u64 x, .int .u64 y, .int .u64 0]).run Try.prog w =
    .ok (.value (.tuple #[.int .u64 ((x + y) % 18446744073709551616), .int .u64 ((x + y) / 18446744073709551616)])) w := by
  rw [run_callFunc_extern Try.func60 (by kernel_rfl) (by kernel_rfl) (by kernel_rfl) (e := add64Entry) (by kernel_rfl), run_add64 x y 0 hx hy (by omega) (by omega)]
  simp [Result.andThen]
/-- A time in some ticks; 0 where there is none. -/
def ltr (a b : Int) : Int := if a + b < 18446744073709551616 then a + b else 0
def nvr (a b : Int) : Bool := decide (18446744073709551616 ≤ a + b)
theorem tick_add (a b : Int) (ha : 0 ≤ a) (ha1 : a < 18446744073709551616) (hb : 0 ≤ b) (hb1 : b < 18446744073709551616) (w : World) :
    Calls Try.prog 43 #[.int .u64 a, .int .u64 b] w fun e w' => e = .returned (.tuple #[.int .u64 (ltr a b), .int .i64 (if nvr a b = true then 10 else 0)]) ∧ w = w' := by
  by_cases h : a + b < 18446744073709551616
  · have e1 : ltr a b = a + b := if_pos h
    have e2 : nvr a b = false := decide_eq_false (by omega)
    rw [e1, e2]
    have h1 : (a + b) % 18446744073709551616 = a + b := by omega
    have h2 : (a + b) / 18446744073709551616 = 0 := by omega
    have hadd := fun w => add64 a b ha hb w
    simp only [h1, h2] at hadd
    go_enter Try.func43, Try.ntmps43
    go_wp2
    go_ret2
    exact ⟨rfl, rfl⟩
  · have e1 : ltr a b = 0 := if_neg h
    have e2 : nvr a b = true := decide_eq_true (by omega)
    rw [e1, e2]
    have h2 : (a + b) / 18446744073709551616 = 1 := by omega
    have hadd := fun w => add64 a b ha hb w
    simp only [h2] at hadd
    generalize (a + b) % 18446744073709551616 = z at hadd
    go_enter Try.func43, Try.ntmps43
    go_wp2
    go_ret2
    exact ⟨rfl, rfl⟩
end Go.Proofs.Ytceopcfmhidjlaa.PTimerPlays

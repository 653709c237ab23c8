/- The law TimerTicks: for every input it returns true; the input reads as it did. Conditions: none. -/
import Derived.Test.YtceopcfmhidjlaaRows
import Derived.Test.YtceopcfmhidjlaaTimerTicksPu
import Derived.WalkKit
import Derived.ProofKit
import Derived.OpenShut
import Derived.ShutString
import Derived.ChangeOld
import Derived.Below
import Derived.SizedLaws
namespace Go.Proofs.Ytceopcfmhidjlaa.timerTicks
open Go.ChangeShapes Go.WideShapes Go.ChangeAt Go.RowKit Go.Proofs.Ytceopcfmhidjlaa.STimerTicks Go.Proofs.Ytceopcfmhidjlaa.PTimerPlays Go.Proofs.YtceopcfmhidjlaaW.PrintWords Go.Proofs.YtceopcfmhidjlaaW.PrintLast Go.Proofs.Ytceopcfmhidjlaa.Kin
open Go.ChangeMaps (open_string shut_string)
set_option linter.unusedVariables false
theorem own : ownKnob Try.prog.godebug = none := by kernel_rfl
theorem laidOut : laidOutB Try.prog = true := by kernel_rfl
set_option maxRecDepth 100000 in
theorem lifted (os : Os) (started : os.Started) (H : Type) (enc : TypeId × Value → H) :
    ReturnsInHanded {} Try.checked os 6 .any (Rows.timerTicksSpec.pre6 enc Try.prog Try.f6 Rows.timerTicksRow.domain false) (Rows.timerTicksSpec.post enc Try.prog Try.f6 false true false false) := by
  refine returnsInHanded_of_change_sized (C := Try.checked) own started (by kernel_rfl) Try.func6
    (ChangeSpec.witness6 (enc := enc) (C := Try.checked) false ⟨#[], #[.agg #[.int .i64 0, .int .u64 0, .int .u8 0, .int .u8 0]], []⟩ 8 (by kernel_rfl) (by kernel_rfl) (by kernel_rfl) (by kernel_rfl)) ?_
  intro W base args ds gs before hval0 hW hcnd hsz0 _
  have hsz : (DataW.weightsEach Try.prog (Try.f6.params.toList ++ Rows.timerTicksSpec.plain.varTypes Try.prog) (ds ++ gs)).all (· ≤ reachBytes) = true := hsz0
  have hval : ∀ (j : Nat) t v, Try.f6.params[j]? = some t → args[j]? = some v → Value.okWide Try.prog W .any base t v := hval0
  have hW' := hW
  obtain ⟨p, q, hA0, hV, rfl, hfz, hnd⟩ := hW
  have hA : DataW.TrodAll enc Try.prog W 0 (fun _ => true) true Try.f6.params.toList args.toList ds p := hA0
  rw [Try.params6] at hA hval hsz
  obtain ⟨v0, vs0, d0, ds0, p0, q0, hargs, rfl, rfl, h0, r0⟩ := trodAll_cons hA
  obtain ⟨rfl, rfl, rfl⟩ := trodAll_nil r0
  obtain rfl : args = #[v0] := by cases args; simp_all
  obtain ⟨rfl, rfl⟩ := trodVars_none hV
  have lt0 : ∀ x ∈ p0, x.block < W.heap.size := by obtain ⟨m, hm⟩ := h0; exact DataW.trod_lt m _ _ _ hm
  obtain ⟨cs0, rfl, _⟩ := okWide_struct Try.underlying47 (hval 0 47 v0 rfl rfl)
  have o0 := opens_arg (opens_struct Try.underlying47 (by kernel_rfl) (opensAt_cons rfl (by kernel_rfl) (opens_int Try.underlying2) (opensAt_cons rfl (by kernel_rfl) (opens_int Try.underlying22) (opensAt_cons rfl (by kernel_rfl) (opens_int Try.underlying5) (opensAt_one rfl (by kernel_rfl) (opens_int Try.underlying5)))))) hsz (j := 0) rfl rfl h0
  obtain ⟨⟨a0_0, a0_1, a0_2, a0_3⟩, kk0, g0_0, g0_1, g0_2, g0_3⟩ := o0
  obtain ⟨_, _, e0_0, rfl, ⟨_, _, rfl, rfl, ⟨_, _, rfl, rfl, rfl⟩⟩⟩ := kk0
  obtain rfl : cs0 = #[.int .i64 a0_0, .int .u64 a0_1, .int .u8 a0_2, .int .u8 a0_3] := by cases cs0; simpa [Value.cells] using e0_0
  clear hA0 hval0 hsz0 hsz
  obtain ⟨k, h⟩ := STimerTicks.pure a0_0 a0_1 a0_2 a0_3 g0_0 g0_1 g0_2 g0_3
  refine (rotalaw14_TimerTicks.calls k a0_0 a0_1 a0_2 a0_3 true W  h).mono fun e W' ⟨he, bel0⟩ => ?_
  have bel : Below W.heap.size W W' := by first | exact bel0 | exact bel0.below
  subst he
  exact ⟨_, rfl, _, _, _, [], _, [], hW', trodAll_mk1 (shut_bool Try.underlying4 _), (trodAll_cons_mk (Below.trod laidOut (by kernel_rfl) (of_decide_eq_true (by kernel_rfl)) h0 bel lt0) trodAll_mk0), rfl, bel.frame _, fun h => by cases h⟩
theorem over : Rows.timerTicksRow.holds Try.pinned (OpenSpec.ofChange Rows.timerTicksSpec) :=
  OpenClaim.holds_of_wide 6 Try.f6 rfl rfl rfl rfl rfl rfl rfl ⟨rfl, rfl, rfl, rfl, rfl⟩ rfl rfl rfl rfl rfl (by kernel_rfl) Try.func6 (by kernel_rfl)
    (of_decide_eq_true (by kernel_rfl)) (by unfold Func.isWrapper; first | (rw [if_pos (by decide +kernel)]; kernel_rfl) | (rw [if_neg (by decide +kernel)]; exact ⟨rfl, rfl⟩))
    (fun os started H enc _ => lifted os started H enc)
end Go.Proofs.Ytceopcfmhidjlaa.timerTicks
namespace Go.Proofs.Ytceopcfmhidjlaa
/-- The row, under a short name, for the claim. -/
theorem timerTicks_holds : Rows.TimerTicksSaid := timerTicks.over
#print axioms timerTicks_holds
end Go.Proofs.Ytceopcfmhidjlaa

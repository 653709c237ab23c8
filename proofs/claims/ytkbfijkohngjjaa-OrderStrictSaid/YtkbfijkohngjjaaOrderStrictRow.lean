/- The law OrderStrict: for every input it returns true; the input reads as it did. Conditions: none. -/
import Derived.Test.YtkbfijkohngjjaaRows
import Derived.Test.YtkbfijkohngjjaaOrderStrictPu
import Derived.WalkKit
import Derived.ProofKit
import Derived.OpenShut
import Derived.ShutString
import Derived.ChangeOld
import Derived.Below
import Derived.SizedLaws
namespace Go.Proofs.Ytkbfijkohngjjaa.orderStrict
open Go.ChangeShapes Go.WideShapes Go.ChangeAt Go.RowKit Go.Proofs.Ytkbfijkohngjjaa.SOrderStrict Go.Proofs.Ytkbfijkohngjjaa.QOrder Go.Proofs.YtkbfijkohngjjaaW.PrintWords Go.Proofs.YtkbfijkohngjjaaW.PrintLast Go.Proofs.Ytkbfijkohngjjaa.Kin
open Go.ChangeMaps (open_string shut_string)
set_option linter.unusedVariables false
theorem own : ownKnob Try.prog.godebug = none := by kernel_rfl
theorem laidOut : laidOutB Try.prog = true := by kernel_rfl
set_option maxRecDepth 100000 in
theorem lifted (os : Os) (started : os.Started) (H : Type) (enc : TypeId × Value → H) :
    ReturnsInHanded {} Try.checked os 4 .any (Rows.orderStrictSpec.pre6 enc Try.prog Try.f4 Rows.orderStrictRow.domain false) (Rows.orderStrictSpec.post enc Try.prog Try.f4 false true false false) := by
  refine returnsInHanded_of_change_sized (C := Try.checked) own started (by kernel_rfl) Try.func4
    (ChangeSpec.witness6 (enc := enc) (C := Try.checked) false ⟨#[], #[.agg #[.slice none 0 0, .slice none 0 0, .int .i64 0, .int .i64 0, .int .i64 0]], []⟩ 8 (by kernel_rfl) (by kernel_rfl) (by kernel_rfl) (by kernel_rfl)) ?_
  intro W base args ds gs before hval0 hW hcnd hsz0 _
  have hsz : (DataW.weightsEach Try.prog (Try.f4.params.toList ++ Rows.orderStrictSpec.plain.varTypes Try.prog) (ds ++ gs)).all (· ≤ reachBytes) = true := hsz0
  have hval : ∀ (j : Nat) t v, Try.f4.params[j]? = some t → args[j]? = some v → Value.okWide Try.prog W .any base t v := hval0
  have hW' := hW
  obtain ⟨p, q, hA0, hV, rfl, hfz, hnd⟩ := hW
  have hA : DataW.TrodAll enc Try.prog W 0 (fun _ => true) true Try.f4.params.toList args.toList ds p := hA0
  rw [Try.params4] at hA hval hsz
  obtain ⟨v0, vs0, d0, ds0, p0, q0, hargs, rfl, rfl, h0, r0⟩ := trodAll_cons hA
  obtain ⟨rfl, rfl, rfl⟩ := trodAll_nil r0
  obtain rfl : args = #[v0] := by cases args; simp_all
  obtain ⟨rfl, rfl⟩ := trodVars_none hV
  have lt0 : ∀ x ∈ p0, x.block < W.heap.size := by obtain ⟨m, hm⟩ := h0; exact DataW.trod_lt m _ _ _ hm
  obtain ⟨cs0, rfl, _⟩ := okWide_struct Try.underlying25 (hval 0 25 v0 rfl rfl)
  have o0 := opens_arg (opens_struct Try.underlying25 (by kernel_rfl) (opensAt_cons rfl (by kernel_rfl) (opens_slice (B := 64) z36 Try.underlying22 (by kernel_rfl) (by kernel_rfl) opens_T36) (opensAt_cons rfl (by kernel_rfl) (opens_slice (B := 8) (0 : Int) Try.underlying23 (by kernel_rfl) (by kernel_rfl) (opens_int Try.underlying2)) (opensAt_cons rfl (by kernel_rfl) (opens_int Try.underlying3) (opensAt_cons rfl (by kernel_rfl) (opens_int Try.underlying3) (opensAt_one rfl (by kernel_rfl) (opens_int Try.underlying3))))))) hsz (j := 0) rfl rfl h0
  obtain ⟨⟨l0_0, l0_1, a0_2, a0_3, a0_4⟩, kk0, g0_0, g0_1, g0_2, g0_3, g0_4⟩ := o0
  obtain ⟨_, _, e0_0, ⟨A0_0, c0_0, rfl, hc0_0, hr0_0⟩, ⟨_, _, rfl, ⟨A0_1, c0_1, rfl, hc0_1, hr0_1⟩, ⟨_, _, rfl, rfl, ⟨_, _, rfl, rfl, rfl⟩⟩⟩⟩ := kk0
  obtain rfl : cs0 = #[.slice A0_0 l0_0.length c0_0, .slice A0_1 l0_1.length c0_1, .int .i64 a0_2, .int .i64 a0_3, .int .i64 a0_4] := by cases cs0; simpa [Value.cells] using e0_0
  clear hA0 hval0 hsz0 hsz
  obtain ⟨k, h⟩ := SOrderStrict.pure l0_0 l0_1 a0_2 a0_3 a0_4 g0_0 g0_1 g0_2 g0_3 g0_4
  refine (rotalaw26_OrderStrict.calls k _ _ l0_0 _ _ l0_1 a0_2 a0_3 a0_4 true W hr0_0 hc0_0 hr0_1 hc0_1 h).mono fun e W' ⟨he, bel0⟩ => ?_
  have bel : Below W.heap.size W W' := by first | exact bel0 | exact bel0.below
  subst he
  exact ⟨_, rfl, _, _, _, [], _, [], hW', trodAll_mk1 (shut_bool Try.underlying4 _), (trodAll_cons_mk (Below.trod laidOut (by kernel_rfl) (of_decide_eq_true (by kernel_rfl)) h0 bel lt0) trodAll_mk0), rfl, bel.frame _, fun h => by cases h⟩
theorem over : Rows.orderStrictRow.holds Try.pinned (OpenSpec.ofChange Rows.orderStrictSpec) :=
  OpenClaim.holds_of_wide 4 Try.f4 rfl rfl rfl rfl rfl rfl rfl ⟨rfl, rfl, rfl, rfl, rfl⟩ rfl rfl rfl rfl rfl (by kernel_rfl) Try.func4 (by kernel_rfl)
    (of_decide_eq_true (by kernel_rfl)) (by unfold Func.isWrapper; first | (rw [if_pos (by decide +kernel)]; kernel_rfl) | (rw [if_neg (by decide +kernel)]; exact ⟨rfl, rfl⟩))
    (fun os started H enc _ => lifted os started H enc)
end Go.Proofs.Ytkbfijkohngjjaa.orderStrict
namespace Go.Proofs.Ytkbfijkohngjjaa
/-- The row, under a short name, for the claim. -/
theorem orderStrict_holds : Rows.OrderStrictSaid := orderStrict.over
#print axioms orderStrict_holds
end Go.Proofs.Ytkbfijkohngjjaa

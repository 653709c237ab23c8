/- rotalaw05.lives: the program's heap of one tells it. Conditions: none. -/
import Derived.Test.YtedkacknopcceaaHab
set_option linter.unusedVariables false
set_option linter.unusedSimpArgs false
namespace Go.Proofs.Ytedkacknopcceaa.QHeap
open Go.RowKit Go.Proofs.Ytedkacknopcceaa.Ef Go.Proofs.Ytedkacknopcceaa.Mp Go.Proofs.Ytedkacknopcceaa.Hp Go.Proofs.YtedkacknopcceaaW.PrintWords Go.Proofs.YtedkacknopcceaaW.PrintLast Go.Proofs.YtedkacknopcceaaW.PrintMore

set_option maxHeartbeats 1000000 in
theorem lives_calls (w : World) : Calls Try.prog 8 #[] w fun e w' => e = .returned (.bool true) ∧ Below w.heap.size w w' := by
  go_enter Try.func8, Try.ntmps8
  go_wp2_with (first
    | (go_at_call 7; (refine (HP.new _).mono ?_); rintro e w1 ⟨p, rfl, hA, hb⟩; have HA1 := Aside0.mk hA; have HB1 := Aside0.mk hb; clear hA hb)
    | (go_at_call 9; (refine (HP.push w.heap.size p _ [] 0 4 9 _ HA1.out (by simp) (by simp) (by omega) (by omega)).mono ?_); rintro e w2 ⟨ok', rfl, hA, ho, hF⟩; have HA2 := Aside0.mk hA; have HB2 := Aside0.mk (hF.new HB1.out (fun k q => q.1)); have HO := Aside0.mk ho; clear hA ho hF HA1 HB1)
    | (go_at_call 11; (refine (HP.pop w.heap.size p _ ([] ++ [⟨4, 0, 9⟩]) [] (0 + 1) ⟨4, 0, 9⟩ _ HA2.out ⟨by simp, fun y hy => by simp at hy; subst hy; exact lt_irrefl _⟩ (.refl _) (by simp)).mono ?_); rintro e w3 ⟨rfl, hA, hF⟩; have HB3 := Aside0.mk (hF.new HB2.out (fun k q => (HA2.out.bound k q).1)); clear hA hF HA2 HB2))
  go_ret
  exact ⟨rfl, HB3.out⟩
end Go.Proofs.Ytedkacknopcceaa.QHeap

/- An argument that is an array of two reads as two values of its kind. Conditions: as in Kin. -/
import Derived.Test.YtiacikmignjdoaaKin
import Derived.OpenShut
set_option linter.unusedVariables false
namespace Go.Proofs.Ytiacikmignjdoaa.Kin
open Go.ChangeShapes Go.WideShapes Go.Deep Go.Proofs.YtiacikmignjdoaaW.PrintWords
theorem okWide_array {P : Program} {w : World} {r : Reach} {base : Nat} {t : TypeId} {v : Value} {n : Nat} {e : TypeId} (ht : P.underlying t = some (.array n e)) (h : Value.okWide P w r base t v) : ∃ cs, v = .agg cs ∧ cs.size = P.cellsOf t := by
  unfold Value.okWide at h
  rw [ht] at h
  obtain ⟨cs, h1, h2, _⟩ := h
  exact ⟨cs, h1, h2⟩
theorem opens_array2 {α : Type} {P : Program} {t e : TypeId} {d : Kd α} {G : α → Prop} (ht : P.underlying t = some (.array 2 e)) (hs : P.cellsOf e = d.sz ∧ P.cellsOf t = d.sz + d.sz) (h : Opens P e d G) : Opens P t (Kd.pair d d) (fun y => G y.1 ∧ G y.2) := by
  intro H enc w fuel cs x ps hx hw
  obtain ⟨xs, m, _, he, hl, hxl, hf⟩ := DataW.trod_array ht hx
  obtain ⟨rfl, _⟩ := Prod.mk.inj he
  match xs, hxl with
  | [(x0, p0), (x1, p1)], _ =>
    have hw' : ∀ n ∈ DataW.weightsAll P e [x0, x1], n ≤ reachBytes := fun n hn => hw n (by simp only [DataW.weights, ht]; exact hn)
    have h0 := hf 0 (by omega)
    have h1 := hf 1 (by omega)
    rw [hs.1] at h0 h1
    obtain ⟨y0, k0, g0⟩ := h H enc w m _ x0 p0 h0 (fun n hn => hw' n (by simp only [DataW.weightsAll]; exact List.mem_append_left _ hn))
    obtain ⟨y1, k1, g1⟩ := h H enc w m _ x1 p1 h1 (fun n hn => hw' n (by simp only [DataW.weightsAll]; exact List.mem_append_right _ (List.mem_append_left _ hn)))
    rw [hs.2] at hl
    refine ⟨(y0, y1), ⟨(cs.drop (0 * d.sz)).take d.sz, (cs.drop (1 * d.sz)).take d.sz, ?_, k0, k1⟩, g0, g1⟩
    rw [Nat.zero_mul, Nat.one_mul, List.drop_zero, List.take_of_length_le (l := cs.drop d.sz) (by rw [List.length_drop]; omega), List.take_append_drop]
end Go.Proofs.Ytiacikmignjdoaa.Kin

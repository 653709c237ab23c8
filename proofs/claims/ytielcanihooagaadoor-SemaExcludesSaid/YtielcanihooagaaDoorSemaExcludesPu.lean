/- SemaExcludes: the pure statement. Conditions: none. -/
import Derived.Test.YtielcanihooagaaDoorSemaExcludesS
namespace Go.Proofs.YtielcanihooagaaDoor.SSemaExcludes
open Go.RowKit Go.Proofs.YtielcanihooagaaDoor.PSemaExcludes
theorem wf_u8 {x : Int} (h : (Lit.int .u8 x).wf = true) : 0 ≤ x ∧ x < 256 := by
  simp [Lit.wf, IntKind.min, IntKind.max, IntKind.bits, IntKind.signed] at h
  omega
theorem pure : Pure := fun _ h0 => ⟨0, if_pos fun x hx => wf_u8 (h0.2 x hx)⟩
end Go.Proofs.YtielcanihooagaaDoor.SSemaExcludes

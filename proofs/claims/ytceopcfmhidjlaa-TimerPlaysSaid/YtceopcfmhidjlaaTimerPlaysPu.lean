/- TimerPlays: the pure statement. Conditions: none. -/
import Derived.Test.YtceopcfmhidjlaaTimerPlaysS
namespace Go.Proofs.Ytceopcfmhidjlaa.STimerPlays
open Go.RowKit Go.Proofs.Ytceopcfmhidjlaa.PTimerPlays
theorem wf_u64 {x : Int} (h : (Lit.int .u64 x).wf = true) : u64 x := by
  simp [Lit.wf, IntKind.min, IntKind.max, IntKind.bits, IntKind.signed] at h
  exact ⟨by omega, by omega⟩
theorem pure : Pure := fun _ h0 => ⟨0, if_pos ⟨by have := h0.1.2; omega, fun o ho => ⟨wf_u64 (h0.2 o ho).2.2.2.1, wf_u64 (h0.2 o ho).2.2.2.2⟩⟩⟩
end Go.Proofs.Ytceopcfmhidjlaa.STimerPlays

/- TimerFull: the pure statement. Conditions: none. -/
import Derived.Test.YtceopcfmhidjlaaTimerFullS
namespace Go.Proofs.Ytceopcfmhidjlaa.STimerFull
open Go.RowKit Go.Proofs.Ytceopcfmhidjlaa.PTimerPlays
theorem wf_u64 {x : Int} (h : (Lit.int .u64 x).wf = true) : u64 x := by
  simp [Lit.wf, IntKind.min, IntKind.max, IntKind.bits, IntKind.signed] at h
  exact ⟨by omega, by omega⟩
theorem pure : Pure := fun a0 a1 h0 h1 => ⟨0, if_pos ⟨wf_u64 h0, wf_u64 h1⟩⟩
end Go.Proofs.Ytceopcfmhidjlaa.STimerFull

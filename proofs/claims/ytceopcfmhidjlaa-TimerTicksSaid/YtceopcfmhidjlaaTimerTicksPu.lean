/- TimerTicks: the pure statement. Conditions: none. -/
import Derived.Test.YtceopcfmhidjlaaTimerTicksS
namespace Go.Proofs.Ytceopcfmhidjlaa.STimerTicks
open Go.RowKit Go.Proofs.Ytceopcfmhidjlaa.PTimerPlays
theorem wf_u64 {x : Int} (h : (Lit.int .u64 x).wf = true) : u64 x := by
  simp [Lit.wf, IntKind.min, IntKind.max, IntKind.bits, IntKind.signed] at h
  exact ⟨by omega, by omega⟩
theorem wf_u8 {x : Int} (h : (Lit.int .u8 x).wf = true) : u8 x := by
  simp [Lit.wf, IntKind.min, IntKind.max, IntKind.bits, IntKind.signed] at h
  exact ⟨by omega, by omega⟩
theorem pure : Pure := fun _ _ _ _ _ h1 h2 h3 => ⟨0, if_pos ⟨wf_u64 h1, wf_u8 h2, wf_u8 h3⟩⟩
end Go.Proofs.Ytceopcfmhidjlaa.STimerTicks

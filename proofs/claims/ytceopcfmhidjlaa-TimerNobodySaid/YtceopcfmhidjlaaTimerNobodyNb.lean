/- Timers that nobody made: each call tells so at once. Conditions: the pointer is nil, or of a Timers whose first cell is false. -/
import Derived.Test.YtceopcfmhidjlaaPTimerNobodyx0
set_option linter.unusedVariables false
set_option linter.unusedSimpArgs false
namespace Go.Proofs.Ytceopcfmhidjlaa.PTimerNobody
open Go.RowKit Go.Proofs.YtceopcfmhidjlaaW.PrintWords Go.Proofs.YtceopcfmhidjlaaW.PrintLast Go.Proofs.YtceopcfmhidjlaaW.PrintMore

/-- A pointer to no timers, or to such as nobody made. -/
def Nob (v : Value) (w : World) : Prop := v = .pointer none ∨ ∃ g, v = .pointer (some ⟨g, 0, none⟩) ∧ w.cell? ⟨g, 0, none⟩ = some (.bool false)
theorem Nob.below {v : Value} {w w' : World} (h : Nob v w) (hb : Below w.heap.size w w') : Nob v w' := by
  rcases h with h | ⟨g, h, hc⟩
  · exact .inl h
  · exact .inr ⟨g, h, (hb.cell (World.block_lt_of_cell? w _ hc)).trans hc⟩
set_option maxHeartbeats 1000000 in
theorem is_calls (v : Value) (w : World) (h : Nob v w) : Calls Try.prog 26 #[v] w fun e w' => e = .returned (.bool false) ∧ Below w.heap.size w w' := by
  have hu58 := Try.underlying58
  rcases h with rfl | ⟨g, rfl, hc⟩
  · go_enter Try.func26, Try.ntmps26
    go_wp2
    go_ret
    exact ⟨rfl, Below.refl _ _⟩
  · go_enter Try.func26, Try.ntmps26
    go_wp2
    go_ret
    exact ⟨rfl, Below.refl _ _⟩
set_option maxHeartbeats 1000000 in
theorem after_calls (v : Value) (ch now t : Int) (w : World) (h : Nob v w) : Calls Try.prog 11 #[v, .int .i64 ch, .int .u64 now, .int .u64 t] w fun e w' => e = .returned (.tuple #[.int .i64 0, .int .i64 1]) ∧ Below w.heap.size w w' := by
  have H := Aside0.mk h
  clear h
  go_enter Try.func11, Try.ntmps11
  go_wp2_with (first | (go_at_call 26; refine (is_calls v _ H.out).mono ?_; rintro e w1 ⟨rfl, hb⟩))
  go_ret2
  exact ⟨rfl, hb⟩
set_option maxHeartbeats 1000000 in
theorem every_calls (v : Value) (ch now t : Int) (w : World) (h : Nob v w) : Calls Try.prog 12 #[v, .int .i64 ch, .int .u64 now, .int .u64 t] w fun e w' => e = .returned (.tuple #[.int .i64 0, .int .i64 1]) ∧ Below w.heap.size w w' := by
  have H := Aside0.mk h
  clear h
  go_enter Try.func12, Try.ntmps12
  go_wp2_with (first | (go_at_call 26; refine (is_calls v _ H.out).mono ?_; rintro e w1 ⟨rfl, hb⟩))
  go_ret2
  exact ⟨rfl, hb⟩
set_option maxHeartbeats 1000000 in
theorem sleep_calls (v : Value) (s g now t : Int) (w : World) (h : Nob v w) : Calls Try.prog 13 #[v, .agg #[.int .i64 s, .int .i64 g], .int .u64 now, .int .u64 t] w fun e w' => e = .returned (.int .i64 1) ∧ Below w.heap.size w w' := by
  have H := Aside0.mk h
  clear h
  go_enter Try.func13, Try.ntmps13
  go_wp2_with (first | (go_at_call 26; refine (is_calls v _ (H.out.below (below_alloc (Below.refl _ _) _))).mono ?_; rintro e w1 ⟨rfl, hb⟩))
  go_ret
  exact ⟨rfl, below_step (below_alloc (Below.refl _ _) _) hb⟩
set_option maxHeartbeats 1000000 in
theorem stop_calls (v : Value) (id : Int) (w : World) (h : Nob v w) : Calls Try.prog 14 #[v, .int .i64 id] w fun e w' => e = .returned (.bool false) ∧ Below w.heap.size w w' := by
  have H := Aside0.mk h
  clear h
  go_enter Try.func14, Try.ntmps14
  go_wp2_with (first | (go_at_call 26; refine (is_calls v _ (H.out.below (below_alloc (Below.refl _ _) _))).mono ?_; rintro e w1 ⟨rfl, hb⟩))
  go_ret
  exact ⟨rfl, below_step (below_alloc (Below.refl _ _) _) hb⟩
set_option maxHeartbeats 1000000 in
theorem due_calls (v : Value) (now : Int) (w : World) (h : Nob v w) : Calls Try.prog 16 #[v, .int .u64 now] w fun e w' => e = .returned (.slice none 0 0) ∧ Below w.heap.size w w' := by
  have H := Aside0.mk h
  clear h
  go_enter Try.func16, Try.ntmps16
  go_wp2_with (first | (go_at_call 26; refine (is_calls v _ H.out).mono ?_; rintro e w1 ⟨rfl, hb⟩))
  go_ret
  exact ⟨rfl, hb⟩
set_option maxHeartbeats 1000000 in
theorem next_calls (v : Value)  (w : World) (h : Nob v w) : Calls Try.prog 20 #[v] w fun e w' => e = .returned (.tuple #[.int .u64 0, .bool false]) ∧ Below w.heap.size w w' := by
  have H := Aside0.mk h
  clear h
  go_enter Try.func20, Try.ntmps20
  go_wp2_with (first | (go_at_call 26; refine (is_calls v _ H.out).mono ?_; rintro e w1 ⟨rfl, hb⟩))
  go_ret2
  exact ⟨rfl, hb⟩
set_option maxHeartbeats 1000000 in
theorem state_calls (v : Value)  (w : World) (h : Nob v w) : Calls Try.prog 21 #[v] w fun e w' => e = .returned (.tuple #[.int .i64 0, .slice none 0 0]) ∧ Below w.heap.size w w' := by
  have H := Aside0.mk h
  clear h
  go_enter Try.func21, Try.ntmps21
  go_wp2_with (first | (go_at_call 26; refine (is_calls v _ H.out).mono ?_; rintro e w1 ⟨rfl, hb⟩))
  go_ret2
  exact ⟨rfl, hb⟩
set_option maxHeartbeats 1000000 in
theorem sleeps_calls (v : Value) (s g : Int) (w : World) (h : Nob v w) : Calls Try.prog 22 #[v, .agg #[.int .i64 s, .int .i64 g]] w fun e w' => e = .returned (.bool false) ∧ Below w.heap.size w w' := by
  have H := Aside0.mk h
  clear h
  go_enter Try.func22, Try.ntmps22
  go_wp2_with (first | (go_at_call 26; refine (is_calls v _ (H.out.below (below_alloc (Below.refl _ _) _))).mono ?_; rintro e w1 ⟨rfl, hb⟩))
  go_ret
  exact ⟨rfl, below_step (below_alloc (Below.refl _ _) _) hb⟩
end Go.Proofs.Ytceopcfmhidjlaa.PTimerNobody

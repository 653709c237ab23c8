/- After, Every, Sleeps, Sleep, Next. Conditions: each theorem's own. -/
import Derived.Test.YtceopcfmhidjlaaTbe
set_option linter.unusedVariables false
set_option linter.unusedSimpArgs false
namespace Go.Proofs.Ytceopcfmhidjlaa.PTimerPlays
open Go.RowKit Go.Proofs.Ytceopcfmhidjlaa.Ef Go.Proofs.Ytceopcfmhidjlaa.Mp Go.Proofs.Ytceopcfmhidjlaa.Hp Go.Proofs.YtceopcfmhidjlaaW.PrintWords Go.Proofs.YtceopcfmhidjlaaW.PrintLast Go.Proofs.YtceopcfmhidjlaaW.PrintMore

/-- Is there no room? -/
def TS.full (S : TS) : Prop := 1024 ≤ S.all.length ∨ S.last = 9223372036854775807
theorem tp_last {w : World} {base p : Nat} {ok : Nat → Prop} {S : TS} (H : TP w base p ok S) (hl : ¬ S.full) (hm : S.last ≤ 9223372036854775807) : S.all.length < 1024 ∧ S.last < 9223372036854775807 := by
  unfold TS.full at hl
  omega
set_option maxHeartbeats 1000000 in
theorem after_full (base p : Nat) (ok : Nat → Prop) (S : TS) (ch now ticks : Int) (w : World) (H : TP w base p ok S) (hf : S.full) :
    Calls Try.prog 11 #[.pointer (some ⟨p, 0, none⟩), .int .i64 ch, .int .u64 now, .int .u64 ticks] w fun e w' => e = .returned (.tuple #[.int .i64 0, .int .i64 2]) ∧ Below w.heap.size w w' := by
  have HH := Aside0.mk H
  have HX := Aside0.mk hf
  clear H hf
  go_enter Try.func11, Try.ntmps11
  go_wp2_with (first
    | (go_at_call 26; (refine (is_calls base p ok S _ HH.out).mono ?_); rintro e w1 ⟨rfl, rfl⟩)
    | (go_at_call 27; (refine (begin_full base p ok S 2 0 0 ch 0 now ticks _ HH.out HX.out).mono ?_); rintro e w1 ⟨rfl, hb⟩; have HB := Aside0.mk hb; clear hb))
  go_ret2
  exact ⟨rfl, HB.out⟩
set_option maxHeartbeats 1000000 in
theorem after_ok (base p : Nat) (ok : Nat → Prop) (S : TS) (ch now ticks : Int) (w : World) (H : TP w base p ok S) (hlen : S.all.length < 1024) (hlast : S.last < 9223372036854775807) (hn1 : S.next ≤ 1000000000000000000)
    (ha : 0 ≤ now) (ha1 : now < 18446744073709551616) (hb : 0 ≤ ticks) (hb1 : ticks < 18446744073709551616) :
    Calls Try.prog 11 #[.pointer (some ⟨p, 0, none⟩), .int .i64 ch, .int .u64 now, .int .u64 ticks] w fun e w' => ∃ ok', e = .returned (.tuple #[.int .i64 (S.last + 1), .int .i64 0]) ∧ TP w' base p ok' (S.begin ⟨0, 2, ⟨0, 0⟩, ch, 0, false, 0⟩ now ticks) ∧ (∀ k, ok' k → ok k ∨ w.heap.size ≤ k) ∧ Fr base ok w w' := by
  have HH := Aside0.mk H
  have HX := Aside0.mk (begin_ok base p ok S 2 0 0 ch 0 now ticks w H hlen hlast hn1 (fun h => absurd h (by decide)) ha ha1 hb hb1)
  clear H
  go_enter Try.func11, Try.ntmps11
  go_wp2_with (first
    | (go_at_call 26; (refine (is_calls base p ok S _ HH.out).mono ?_); rintro e w1 ⟨rfl, rfl⟩)
    | (go_at_call 27; (refine HX.out.mono ?_); rintro e w1 ⟨ok', rfl, h1, h2, h3⟩; have H1 := Aside0.mk h1; have H2 := Aside0.mk h2; have H3 := Aside0.mk h3; clear h1 h2 h3))
  go_ret2
  exact ⟨ok', rfl, H1.out, H2.out, H3.out⟩
set_option maxHeartbeats 1000000 in
theorem every_zero (base p : Nat) (ok : Nat → Prop) (S : TS) (ch now : Int) (w : World) (H : TP w base p ok S) :
    Calls Try.prog 12 #[.pointer (some ⟨p, 0, none⟩), .int .i64 ch, .int .u64 now, .int .u64 0] w fun e w' => e = .returned (.tuple #[.int .i64 0, .int .i64 1]) ∧ w = w' := by
  have HH := Aside0.mk H
  clear H
  go_enter Try.func12, Try.ntmps12
  go_wp2_with (go_at_call 26; (refine (is_calls base p ok S _ HH.out).mono ?_); rintro e w1 ⟨rfl, rfl⟩)
  go_ret2
  exact ⟨rfl, rfl⟩
set_option maxHeartbeats 1000000 in
theorem every_full (base p : Nat) (ok : Nat → Prop) (S : TS) (ch now period : Int) (w : World) (H : TP w base p ok S) (hf : S.full) (hp : period ≠ 0) :
    Calls Try.prog 12 #[.pointer (some ⟨p, 0, none⟩), .int .i64 ch, .int .u64 now, .int .u64 period] w fun e w' => e = .returned (.tuple #[.int .i64 0, .int .i64 2]) ∧ Below w.heap.size w w' := by
  have HH := Aside0.mk H
  have HX := Aside0.mk hf
  have hp' : (period == 0) = false := by simpa using hp
  clear H hf
  go_enter Try.func12, Try.ntmps12
  go_wp2_with (first
    | (go_at_call 26; (refine (is_calls base p ok S _ HH.out).mono ?_); rintro e w1 ⟨rfl, rfl⟩)
    | (go_at_call 27; (refine (begin_full base p ok S 3 0 0 ch period now period _ HH.out HX.out).mono ?_); rintro e w1 ⟨rfl, hb⟩; have HB := Aside0.mk hb; clear hb))
  go_ret2
  exact ⟨rfl, HB.out⟩
set_option maxHeartbeats 1000000 in
theorem every_ok (base p : Nat) (ok : Nat → Prop) (S : TS) (ch now period : Int) (w : World) (H : TP w base p ok S) (hp : period ≠ 0) (hlen : S.all.length < 1024) (hlast : S.last < 9223372036854775807) (hn1 : S.next ≤ 1000000000000000000)
    (ha : 0 ≤ now) (ha1 : now < 18446744073709551616) (hb : 0 ≤ period) (hb1 : period < 18446744073709551616) :
    Calls Try.prog 12 #[.pointer (some ⟨p, 0, none⟩), .int .i64 ch, .int .u64 now, .int .u64 period] w fun e w' => ∃ ok', e = .returned (.tuple #[.int .i64 (S.last + 1), .int .i64 0]) ∧ TP w' base p ok' (S.begin ⟨0, 3, ⟨0, 0⟩, ch, 0, false, period⟩ now period) ∧ (∀ k, ok' k → ok k ∨ w.heap.size ≤ k) ∧ Fr base ok w w' := by
  have HH := Aside0.mk H
  have HX := Aside0.mk (begin_ok base p ok S 3 0 0 ch period now period w H hlen hlast hn1 (fun h => absurd h (by decide)) ha ha1 hb hb1)
  have hp' : (period == 0) = false := by simpa using hp
  clear H
  go_enter Try.func12, Try.ntmps12
  go_wp2_with (first
    | (go_at_call 26; (refine (is_calls base p ok S _ HH.out).mono ?_); rintro e w1 ⟨rfl, rfl⟩)
    | (go_at_call 27; (refine HX.out.mono ?_); rintro e w1 ⟨ok', rfl, h1, h2, h3⟩; have H1 := Aside0.mk h1; have H2 := Aside0.mk h2; have H3 := Aside0.mk h3; clear h1 h2 h3))
  go_ret2
  exact ⟨ok', rfl, H1.out, H2.out, H3.out⟩

/-! ### who sleeps -/
def TS.sleeps (S : TS) (k : Int × Int) : Bool := decide (∃ y ∈ S.sl, gk y = k)
theorem gs_some {S : TS} {ids own : List (Int × Value)} {gs : List ((Int × Int) × Value)} (G : Good S ids own gs) (k : Int × Int) : (Mp.get k gs).isSome = S.sleeps k := by
  unfold TS.sleeps
  by_cases h : ∃ y ∈ S.sl, gk y = k
  · rw [decide_eq_true h]
    obtain ⟨y, hy, rfl⟩ := h
    rw [get_mem (gs_key G) (G.pg.mem_iff.2 (List.mem_map.2 ⟨y, hy, rfl⟩))]
    rfl
  · rw [decide_eq_false h, get_fresh]
    · rfl
    · intro q hq e
      obtain ⟨y, hy, rfl⟩ := List.mem_map.1 (G.pg.mem_iff.1 hq)
      exact h ⟨y, hy, e⟩
set_option maxHeartbeats 1000000 in
set_option maxRecDepth 100000 in
theorem sleeps_calls (base p : Nat) (ok : Nat → Prop) (S : TS) (gs0 gg0 : Int) (w : World) (H : TP w base p ok S) :
    Calls Try.prog 22 #[.pointer (some ⟨p, 0, none⟩), .agg #[.int .i64 gs0, .int .i64 gg0]] w fun e w' => e = .returned (.bool (S.sleeps (gs0, gg0))) ∧ Below w.heap.size w w' := by
  have HT := Aside0.mk H
  obtain ⟨P, v, ids, own, gs, rfl, rfl, hA, hG⟩ := H
  have HS := Aside0.mk (gs_some hG (gs0, gg0))
  have HH := Aside0.mk hA
  clear hA hG
  go_enter Try.func22, Try.ntmps22
  go_wp2_with (first
    | ((with_reducible refine gate_dst (N := 3) rfl ?_); refine box_event ?hg (N := 3) ?hd (cs := #[.int .i64 gs0, .int .i64 gg0]) (t := 30) ?hr ?_; (case hd => rfl); (case hg => rfl); (case hr => first | (go_simp; done) | (go_simp; rfl)); intro g3 hg3 w1 hbox hb; have HB := Aside0.mk hb; have HA1 := Aside0.mk (HH.out.below hb); have HT1 := Aside0.mk (HT.out.below hb); have x0 : w1.cell? ⟨g3, 0, none⟩ = some (.int .i64 gs0) := (blk_cell hbox 0).trans rfl; have x1 : w1.cell? ⟨g3, 1, none⟩ = some (.int .i64 gg0) := (blk_cell hbox 1).trans rfl; have pg : w1.cell? ⟨P.p, 6, none⟩ = some (.map (some P.bg)) := (blk_cell HA1.out.blk 6).trans rfl; clear hb hbox hg3)
    | (go_at_call 26; (refine (is_calls base P.p P.ok S _ HT1.out).mono ?_); rintro e w1' ⟨rfl, rfl⟩))
  go_still_tail 10, (by kernel_rfl)
  refine still_value (W := w1.drew) rfl (exec_look (ok := true) (v := .tuple #[(Mp.get (gs0, gg0) gs).getD (.int .i64 0), .bool (Mp.get (gs0, gg0) gs).isSome]) keyG Try.underlying56 rfl (zeroL _) HA1.out.drew.mg (gs0, gg0) rfl rfl rfl) ?_
  rw [HS.out]
  generalize (Mp.get (gs0, gg0) gs).getD (.int .i64 0) = z0
  repeat still_step
  refine wpStill_nil ?_
  go_wp2
  go_ret
  exact ⟨rfl, below_drew HB.out⟩
end Go.Proofs.Ytceopcfmhidjlaa.PTimerPlays

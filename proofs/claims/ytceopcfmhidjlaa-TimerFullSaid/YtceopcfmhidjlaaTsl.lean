/- Sleep and Next. Conditions: each theorem's own. -/
import Derived.Test.YtceopcfmhidjlaaTaf
set_option linter.unusedVariables false
set_option linter.unusedSimpArgs false
namespace Go.Proofs.Ytceopcfmhidjlaa.PTimerPlays
open Go.RowKit Go.Proofs.Ytceopcfmhidjlaa.Ef Go.Proofs.Ytceopcfmhidjlaa.Mp Go.Proofs.Ytceopcfmhidjlaa.Hp Go.Proofs.YtceopcfmhidjlaaW.PrintWords Go.Proofs.YtceopcfmhidjlaaW.PrintLast Go.Proofs.YtceopcfmhidjlaaW.PrintMore

set_option maxHeartbeats 1000000 in
set_option maxRecDepth 100000 in
theorem sleep_sleeps (base p : Nat) (ok : Nat → Prop) (S : TS) (s g now ticks : Int) (w : World) (H : TP w base p ok S) (hs : S.sleeps (s, g) = true) :
    Calls Try.prog 13 #[.pointer (some ⟨p, 0, none⟩), .agg #[.int .i64 s, .int .i64 g], .int .u64 now, .int .u64 ticks] w fun e w' => e = .returned (.int .i64 141) ∧ Below w.heap.size w w' := by
  have HT := Aside0.mk H
  have HC := Aside0.mk (sleeps_calls base p ok S s g)
  rw [hs] at HC
  clear H
  go_enter Try.func13, Try.ntmps13
  go_wp2_with (first
    | ((with_reducible refine gate_dst (N := 5) rfl ?_); refine box_event ?hg (N := 5) ?hd (cs := #[.int .i64 s, .int .i64 g]) (t := 30) ?hr ?_; (case hd => rfl); (case hg => rfl); (case hr => first | (go_simp; done) | (go_simp; rfl)); intro g5 hg5 w1 hbox hb; have HB := Aside0.mk hb; have HT1 := Aside0.mk (HT.out.below hb); have B5 := Aside0.mk hbox; have x0 : w1.cell? ⟨g5, 0, none⟩ = some (.int .i64 s) := (blk_cell hbox 0).trans rfl; have x1 : w1.cell? ⟨g5, 1, none⟩ = some (.int .i64 g) := (blk_cell hbox 1).trans rfl; clear hb hbox hg5)
    | (go_at_call 26; (refine (is_calls base p ok S _ HT1.out).mono ?_); rintro e w1' ⟨rfl, rfl⟩)
    | (go_at_call 22; (refine (HC.out _ HT1.out).mono ?_); rintro e w2 ⟨rfl, hb⟩; have HB2 := Aside0.mk (HB.out.trans (below_up hb HB.out.size)); clear hb x0 x1))
  go_ret
  exact ⟨rfl, HB2.out⟩
set_option maxHeartbeats 1000000 in
set_option maxRecDepth 100000 in
theorem sleep_full (base p : Nat) (ok : Nat → Prop) (S : TS) (s g now ticks : Int) (w : World) (H : TP w base p ok S) (hs : S.sleeps (s, g) = false) (hf : S.full) :
    Calls Try.prog 13 #[.pointer (some ⟨p, 0, none⟩), .agg #[.int .i64 s, .int .i64 g], .int .u64 now, .int .u64 ticks] w fun e w' => e = .returned (.int .i64 2) ∧ Below w.heap.size w w' := by
  have HT := Aside0.mk H
  have HC := Aside0.mk (sleeps_calls base p ok S s g)
  have HX := Aside0.mk hf
  rw [hs] at HC
  clear H hf
  go_enter Try.func13, Try.ntmps13
  go_wp2_with (first
    | ((with_reducible refine gate_dst (N := 5) rfl ?_); refine box_event ?hg (N := 5) ?hd (cs := #[.int .i64 s, .int .i64 g]) (t := 30) ?hr ?_; (case hd => rfl); (case hg => rfl); (case hr => first | (go_simp; done) | (go_simp; rfl)); intro g5 hg5 w1 hbox hb; have HB := Aside0.mk hb; have HT1 := Aside0.mk (HT.out.below hb); have B5 := Aside0.mk hbox; have x0 : w1.cell? ⟨g5, 0, none⟩ = some (.int .i64 s) := (blk_cell hbox 0).trans rfl; have x1 : w1.cell? ⟨g5, 1, none⟩ = some (.int .i64 g) := (blk_cell hbox 1).trans rfl; clear hb hbox hg5)
    | (go_at_call 26; (refine (is_calls base p ok S _ HT1.out).mono ?_); rintro e w1' ⟨rfl, rfl⟩)
    | (go_at_call 22; (refine (HC.out _ HT1.out).mono ?_); rintro e w2 ⟨rfl, hb⟩; have HB2 := Aside0.mk (HB.out.trans (below_up hb HB.out.size)); have HT2 := Aside0.mk (HT1.out.below hb); have B52 := Aside0.mk (blk_below B5.out hb); clear hb x0 x1; have x0 : w2.cell? ⟨g5, 0, none⟩ = some (.int .i64 s) := (blk_cell B52.out 0).trans rfl; have x1 : w2.cell? ⟨g5, 1, none⟩ = some (.int .i64 g) := (blk_cell B52.out 1).trans rfl)
    | (go_at_call 27; (refine (begin_full base p ok S 1 s g 0 0 now ticks _ HT2.out HX.out).mono ?_); rintro e w3 ⟨rfl, hb⟩; have HB3 := Aside0.mk (HB2.out.trans (below_up hb HB2.out.size)); clear hb x0 x1))
  go_ret
  exact ⟨rfl, HB3.out⟩
set_option maxHeartbeats 1000000 in
set_option maxRecDepth 100000 in
theorem sleep_ok (base p : Nat) (ok : Nat → Prop) (S : TS) (s g now ticks : Int) (w : World) (H : TP w base p ok S) (hs : S.sleeps (s, g) = false) (hlen : S.all.length < 1024) (hlast : S.last < 9223372036854775807) (hn1 : S.next ≤ 1000000000000000000)
    (ha : 0 ≤ now) (ha1 : now < 18446744073709551616) (hb : 0 ≤ ticks) (hb1 : ticks < 18446744073709551616) :
    Calls Try.prog 13 #[.pointer (some ⟨p, 0, none⟩), .agg #[.int .i64 s, .int .i64 g], .int .u64 now, .int .u64 ticks] w fun e w' => ∃ ok', e = .returned (.int .i64 0) ∧ TP w' base p ok' (S.begin ⟨0, 1, ⟨s, g⟩, 0, 0, false, 0⟩ now ticks) ∧ (∀ k, ok' k → ok k ∨ w.heap.size ≤ k) ∧ Fr base ok w w' := by
  have HT := Aside0.mk H
  have HF := Aside0.mk H.fr
  have HC := Aside0.mk (sleeps_calls base p ok S s g)
  have hg : (1 : Int) = 1 → ∀ y ∈ S.sl, gk y ≠ (s, g) := fun _ y hy e => by
    unfold TS.sleeps at hs
    exact absurd ⟨y, hy, e⟩ (of_decide_eq_false hs)
  have HX := Aside0.mk (fun w H => begin_ok base p ok S 1 s g 0 0 now ticks w H hlen hlast hn1 hg ha ha1 hb hb1)
  rw [hs] at HC
  clear H hg hlen hlast hn1 ha ha1 hb hb1
  go_enter Try.func13, Try.ntmps13
  go_wp2_with (first
    | ((with_reducible refine gate_dst (N := 5) rfl ?_); refine box_event ?hg (N := 5) ?hd (cs := #[.int .i64 s, .int .i64 g]) (t := 30) ?hr ?_; (case hd => rfl); (case hg => rfl); (case hr => first | (go_simp; done) | (go_simp; rfl)); intro g5 hg5 w1 hbox hb; have HF1 := Aside0.mk (HF.out.below hb); have HT1 := Aside0.mk (HT.out.below hb); have B5 := Aside0.mk hbox; have x0 : w1.cell? ⟨g5, 0, none⟩ = some (.int .i64 s) := (blk_cell hbox 0).trans rfl; have x1 : w1.cell? ⟨g5, 1, none⟩ = some (.int .i64 g) := (blk_cell hbox 1).trans rfl; clear hb hbox hg5)
    | (go_at_call 26; (refine (is_calls base p ok S _ HT1.out).mono ?_); rintro e w1' ⟨rfl, rfl⟩)
    | (go_at_call 22; (refine (HC.out _ HT1.out).mono ?_); rintro e w2 ⟨rfl, hb⟩; have HF2 := Aside0.mk (HF1.out.below hb); have HT2 := Aside0.mk (HT1.out.below hb); have B52 := Aside0.mk (blk_below B5.out hb); clear hb x0 x1; have x0 : w2.cell? ⟨g5, 0, none⟩ = some (.int .i64 s) := (blk_cell B52.out 0).trans rfl; have x1 : w2.cell? ⟨g5, 1, none⟩ = some (.int .i64 g) := (blk_cell B52.out 1).trans rfl)
    | (go_at_call 27; (refine (HX.out _ HT2.out).mono ?_); rintro e w3 ⟨ok', rfl, h1, h2, h3⟩; have H1 := Aside0.mk h1; have H2 := Aside0.mk (show ∀ k, ok' k → ok k ∨ w.heap.size ≤ k from fun k q => (h2 k q).imp id (Nat.le_trans HF2.out.size)); have H3 := Aside0.mk (HF2.out.then_ h3 (Nat.le_refl _) (fun k q => .inl q)); clear h1 h2 h3 x0 x1))
  go_ret
  exact ⟨ok', rfl, H1.out, H2.out, H3.out⟩

/-! ### when the first is due -/
theorem TP.hp {w : World} {base p : Nat} {ok : Nat → Prop} {S : TS} (H : TP w base p ok S) : ∃ q bi bo bg v H', w.heap[p]? = some (.cells (cS S.last q v bi bo bg) 58 (0, 0)) ∧ HP w base q H' S.hp S.next ∧ (∀ k, H' k → ok k) := by
  obtain ⟨P, v, ids, own, gs, rfl, rfl, h3, _⟩ := H
  exact ⟨P.q, P.bi, P.bo, P.bg, v, P.H, h3.blk, h3.heap, fun k q => .inr (.inr (.inr (.inr (.inl q))))⟩
set_option maxHeartbeats 1000000 in
set_option maxRecDepth 100000 in
theorem next_none (base p : Nat) (ok : Nat → Prop) (S : TS) (w : World) (H : TP w base p ok S) (hS : S.hp = []) :
    Calls Try.prog 20 #[.pointer (some ⟨p, 0, none⟩)] w fun e w' => e = .returned (.tuple #[.int .u64 0, .bool false]) ∧ Below w.heap.size w w' := by
  have HT := Aside0.mk H
  obtain ⟨q, bi, bo, bg, v, H', hb, hh, -⟩ := H.hp
  rw [hS] at hh
  have HH := Aside0.mk hh
  have HB := Aside0.mk (Below.refl w.heap.size w)
  have pq : w.cell? ⟨p, 2, none⟩ = some (.pointer (some ⟨q, 0, none⟩)) := (blk_cell hb 2).trans rfl
  clear H hb hh
  go_enter Try.func20, Try.ntmps20
  go_wp2_with (first
    | (go_at_call 26; (refine (is_calls base p ok S _ HT.out).mono ?_); rintro e w1 ⟨rfl, rfl⟩)
    | (go_at_call 31; (refine (HP.top_none base q H' S.next _ HH.out).mono ?_); rintro e w1 ⟨rfl, hb⟩; have HB1 := Aside0.mk hb; clear hb pq)
    | ((with_reducible refine gate_dst (N := 6) rfl ?_); refine box_event ?hg (N := 6) ?hd (cs := #[.int .i64 0, .int .i64 0, .int .i64 0, .int .i64 0, .int .i64 0, .int .u64 0, .bool false, .int .u64 0]) (t := 40) ?hr ?_; (case hd => rfl); (case hg => rfl); (case hr => first | (go_simp; done) | (go_simp; rfl)); intro g6 hg6 w2 hbox hb; have HB2 := Aside0.mk (below_step HB1.out hb); have B6 := Aside0.mk hbox; have HN := Aside0.mk (show w.heap.size ≤ g6 from by have := HB1.out.size; omega); clear hb hbox hg6)
    | ((with_reducible refine gate_store (t := 40) (p := 6) (v := .tmp 19) rfl ?_); refine step_store rfl rfl rfl B6.out rfl (u := .agg #[.int .i64 0, .int .i64 0, .int .i64 0, .int .i64 0, .int .i64 0, .int .u64 0, .bool false, .int .u64 0]) (seg := [.int .i64 0, .int .i64 0, .int .i64 0, .int .i64 0, .int .i64 0, .int .u64 0, .bool false, .int .u64 0]) rfl rfl (by kernel_rfl) (by simp [Value.oneCell']) (Nat.le_refl 8) (cur' := #[.int .i64 0, .int .i64 0, .int .i64 0, .int .i64 0, .int .i64 0, .int .u64 0, .bool false, .int .u64 0]) rfl ?_; intro w3 hb3 hg3 hs3; have HB3 := Aside0.mk (below_mput HB2.out hg3 HN.out HB2.out.size); clear hb3 hg3 hs3))
  go_ret2
  exact ⟨rfl, HB3.out⟩
end Go.Proofs.Ytceopcfmhidjlaa.PTimerPlays

/- Next, where some are due. Conditions: the theorem's own. -/
import Derived.Test.YtceopcfmhidjlaaTsh
set_option linter.unusedVariables false
set_option linter.unusedSimpArgs false
namespace Go.Proofs.Ytceopcfmhidjlaa.PTimerPlays
open Go.RowKit Go.Proofs.Ytceopcfmhidjlaa.Ef Go.Proofs.Ytceopcfmhidjlaa.Mp Go.Proofs.Ytceopcfmhidjlaa.Hp Go.Proofs.YtceopcfmhidjlaaW.PrintWords Go.Proofs.YtceopcfmhidjlaaW.PrintLast Go.Proofs.YtceopcfmhidjlaaW.PrintMore

theorem least_of {l : List NI} (h : l ≠ []) : ∃ x, Least l x := by
  induction l with
  | nil => exact absurd rfl h
  | cons a r ih =>
    by_cases hr : r = []
    · subst hr
      exact ⟨a, List.mem_cons_self, fun y hy => by rw [List.mem_singleton.1 hy]; exact lt_irrefl a⟩
    · obtain ⟨x, hx, hm⟩ := ih hr
      by_cases hax : lt a x
      · refine ⟨a, List.mem_cons_self, fun y hy => ?_⟩
        rcases List.mem_cons.1 hy with rfl | hy
        · exact lt_irrefl _
        · exact fun q => hm y hy (lt_trans q hax)
      · refine ⟨x, List.mem_cons_of_mem _ hx, fun y hy => ?_⟩
        rcases List.mem_cons.1 hy with rfl | hy
        · exact hax
        · exact hm y hy
set_option maxHeartbeats 1000000 in
set_option maxRecDepth 100000 in
theorem next_some (base p : Nat) (ok : Nat → Prop) (S : TS) (x : NI) (w : World) (H : TP w base p ok S) (hx : Least S.hp x) :
    Calls Try.prog 20 #[.pointer (some ⟨p, 0, none⟩)] w fun e w' => e = .returned (.tuple #[.int .u64 x.when, .bool true]) ∧ Below w.heap.size w w' := by
  have HT := Aside0.mk H
  obtain ⟨q, bi, bo, bg, v, H', hb, hh, -⟩ := H.hp
  have HH := Aside0.mk hh
  have HX := Aside0.mk hx
  have pq : w.cell? ⟨p, 2, none⟩ = some (.pointer (some ⟨q, 0, none⟩)) := (blk_cell hb 2).trans rfl
  clear H hb hh hx
  go_enter Try.func20, Try.ntmps20
  go_wp2_with (first
    | (go_at_call 26; (refine (is_calls base p ok S _ HT.out).mono ?_); rintro e w1 ⟨rfl, rfl⟩)
    | (go_at_call 31; (refine (HP.top base q H' S.hp S.next x _ HH.out HX.out).mono ?_); rintro e w1 ⟨rfl, hb⟩; have HB1 := Aside0.mk hb; clear hb pq)
    | ((with_reducible refine gate_dst (N := 6) rfl ?_); refine box_event ?hg (N := 6) ?hd (cs := #[.int .i64 0, .int .i64 0, .int .i64 0, .int .i64 0, .int .i64 0, .int .u64 0, .bool false, .int .u64 0]) (t := 40) ?hr ?_; (case hd => rfl); (case hg => rfl); (case hr => first | (go_simp; done) | (go_simp; rfl)); intro g6 hg6 w2 hbox hb; have HB2 := Aside0.mk (below_step HB1.out hb); have B6 := Aside0.mk hbox; have HN := Aside0.mk (show w.heap.size ≤ g6 from by have := HB1.out.size; omega); clear hb hbox hg6)
    | ((with_reducible refine gate_store (t := 40) (p := 6) (v := .tmp 19) rfl ?_); refine step_store rfl rfl rfl B6.out rfl (u := .agg (cT x.val)) (seg := (cT x.val).toList) rfl rfl (by kernel_rfl) (by simp [Value.oneCell']) (Nat.le_refl 8) (cur' := cT x.val) rfl ?_; intro w3 hb3 hg3 hs3; have HB3 := Aside0.mk (below_mput HB2.out hg3 HN.out HB2.out.size); clear hb3 hg3 hs3))
  go_ret2
  exact ⟨rfl, HB3.out⟩
end Go.Proofs.Ytceopcfmhidjlaa.PTimerPlays

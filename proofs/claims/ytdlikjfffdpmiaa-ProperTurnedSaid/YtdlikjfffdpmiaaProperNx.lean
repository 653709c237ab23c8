/- proper.next: the words to which one may go on. Conditions: none. -/
import Derived.Test.YtdlikjfffdpmiaaQProperx0
import Derived.Test.YtdlikjfffdpmiaaProperSo
import Derived.Test.YtdlikjfffdpmiaaQProperx100
import Derived.Test.YtdlikjfffdpmiaaQProperx7
set_option linter.unusedVariables false
set_option linter.unusedSimpArgs false
namespace Go.Proofs.Ytdlikjfffdpmiaa.QProper
open Go.RowKit Go.Proofs.YtdlikjfffdpmiaaW.PrintWords Go.Proofs.YtdlikjfffdpmiaaW.PrintLast Go.Proofs.YtdlikjfffdpmiaaW.PrintMore

theorem info3n : (Try.prog.info? 3).map (fun i => (i.zero, i.size, i.bytes)) = some (some (.int .i64 0), 1, 8) := by kernel_rfl
def nextB (j e : Bool) (imm at_ : Int) : List Int := (if j then [imm] else []) ++ (if e then [] else [at_ + 1])
def nextL (j e : Bool) (imm at_ : Int) : List Int := Lib.compact (sorted (nextB j e imm at_))
theorem sort_row {u : Value} {l0 : List Int} {w0 w : World} (ho0 : Kd.R (Kd.int .i64) 3 w w0.heap.size (fun _ => True) u l0) (hB : Below w0.heap.size w0 w) (hl : l0.length ≤ 2) :
    Calls Try.prog 47 #[u] w fun e w' => e = .returned (.tuple #[]) ∧ Kd.R (Kd.int .i64) 3 w' w0.heap.size (fun _ => True) u (sorted l0) ∧ Below w0.heap.size w0 w' :=
  (slices_Sort_int.calls (fun _ => True) u l0 (sorted l0) w0 w hB ho0 (if_pos (by omega))).mono fun _ _ h => ⟨h.1, Kd.R_mono h.2.1 (fun _ _ => trivial), h.2.2.1⟩
def proper_next.f (k : Nat) (l0_0 : List Int) (l0_1 : List S34) (l0_2 : List S58) (a1 : Int) : Option (List Int) :=
  if 0 ≤ a1 ∧ a1 < (l0_0.length : Int) ∧ a1 + 1 ≤ 9223372036854775807 then
    (word_Decode.f k (rd l0_0 a1)).bind fun d => (proper_jumps.f d.1).bind fun j => (proper_ends.f d.1).bind fun e => some (nextL j e d.2.2.2.2.1 a1)
  else none
theorem proper_next.mono : ∀ a0 a1 a2 a3 k, LeO (proper_next.f k a0 a1 a2 a3) (proper_next.f (k + 1) a0 a1 a2 a3) := by
  intro a0 a1 a2 a3 k
  unfold proper_next.f
  exact LeO.ite (LeO.bind (word_Decode.mono _ _) (fun _ => LeO.refl _)) (LeO.refl _)

set_option maxHeartbeats 4000000 in
set_option maxRecDepth 100000 in
theorem proper_next.calls (k : Nat) (A0_0 : Option Addr) (c0_0 : Nat) (l0_0 : List Int) (A0_1 : Option Addr) (c0_1 : Nat) (l0_1 : List (S34)) (A0_2 : Option Addr) (c0_2 : Nat) (l0_2 : List (S58)) (a1 : Int) (r : List Int) (w : World) (hr0_0 : Kd.C (Kd.int .u32) w A0_0 l0_0.length l0_0) (hc0_0 : l0_0.length ≤ c0_0) (hr0_1 : Kd.C k34 w A0_1 l0_1.length l0_1) (hc0_1 : l0_1.length ≤ c0_1) (hr0_2 : Kd.C k58 w A0_2 l0_2.length l0_2) (hc0_2 : l0_2.length ≤ c0_2) (h : proper_next.f k l0_0 l0_1 l0_2 a1 = some r) :
    Calls Try.prog 39 #[.agg #[.slice A0_0 l0_0.length c0_0, .slice A0_1 l0_1.length c0_1, .slice A0_2 l0_2.length c0_2], .int .i64 a1] w fun e w' => ∃ v0_ : Value, e = .returned (v0_) ∧ Kd.R (Kd.int .i64) 3 w' w.heap.size (fun _ => True) v0_ r ∧ Below w.heap.size w w' := by
  have hu26 := Try.underlying26
  have hu48 := Try.underlying48
  unfold proper_next.f at h
  by_cases hin : 0 ≤ a1 ∧ a1 < (l0_0.length : Int) ∧ a1 + 1 ≤ 9223372036854775807
  · rw [if_pos hin] at h
    obtain ⟨⟨d1, d2, d3, d4, d5, d6⟩, hd, g1⟩ := Option.bind_eq_some_iff.mp h
    obtain ⟨j, hj, g2⟩ := Option.bind_eq_some_iff.mp g1
    obtain ⟨e0, he, g3⟩ := Option.bind_eq_some_iff.mp g2
    clear h g1 g2
    replace g3 : nextL j e0 d5 a1 = r := Option.some.inj g3
    subst g3
    have HD := Aside0.mk hd
    have HJ : Aside0 (proper_jumps.f d1 = some j) := ⟨hj⟩
    have HE : Aside0 (proper_ends.f d1 = some e0) := ⟨he⟩
    obtain ⟨h0, h1, h2⟩ := hin
    have h3 : -9223372036854775808 ≤ a1 + 1 := by omega
    obtain ⟨ad, e1, hx⟩ := Kd.at_int hr0_0 a1 h0 h1
    cases e1
    have HX := Aside0.mk hx
    clear hd hj he hx hr0_0 hr0_1 hr0_2 hc0_0 hc0_1 hc0_2
    have HB := Aside0.mk (Below.refl w.heap.size w)
    rcases j with _ | _ <;> rcases e0 with _ | _
    all_goals
      go_enter Try.func39, Try.ntmps39
      go_wp2_with (first
        | ((with_reducible refine gate_dst (N := 2) rfl ?_); refine box_event ?hg (N := 2) ?hd (cs := #[.slice (some ad) l0_0.length c0_0, .slice A0_1 l0_1.length c0_1, .slice A0_2 l0_2.length c0_2]) (t := 26) ?hr ?_; (case hd => rfl); (case hg => rfl); (case hr => first | (go_simp; done) | (go_simp; rfl)); intro gp hgp w2 hbox hb; have HB1 := Aside0.mk hb; have BK := Aside0.mk hbox; clear hb hbox hgp HB; have hcz0 : w2.cell? ⟨gp, 0, none⟩ = some (.slice (some ad) l0_0.length c0_0) := (blk_cell BK.out 0).trans rfl; have hxx := (HB1.out.cell (World.block_lt_of_cell? w _ HX.out)).trans HX.out)
        | (go_at_call 59; (refine (word_Decode.calls k (rd l0_0 a1) d1 d2 d3 d4 d5 d6 _ HD.out).mono ?_); rintro e w4 ⟨rfl, hb⟩; have HB := Aside0.mk (below_step HB1.out hb); clear hb HB1 BK hcz0 hxx)
        | ((with_reducible refine gate_dst (N := 5) rfl ?_); refine box_event ?hg (N := 5) ?hd (cs := #[.int .i64 0, .int .i64 0, .int .i64 0, .int .i64 0, .int .i64 0]) (t := 48) ?hr ?_; (case hd => rfl); (case hg => rfl); (case hr => first | (go_simp; done) | (go_simp; rfl)); intro g5 hg w5 hbox hb; have GE := Aside0.mk ((by rw [hg]; exact (below_size (by repeat (first | (with_reducible first | exact HB.out | apply below_alloc | apply pw_below_drewN | apply below_drew1) | exact HB.out)))) : w.heap.size ≤ g5); have n0_ := Aside0.mk (below_step (by repeat (first | (with_reducible first | exact HB.out | apply below_alloc | apply pw_below_drewN | apply below_drew1) | exact HB.out)) hb); have BI := Aside0.mk hbox; clear HB hb hbox hg; have HB := n0_; clear n0_; have HO := Aside0.mk (Kd.R_nil (Kd.int .i64) 3 w5 w.heap.size (fun _ => True)); have hi0 : w5.cell? ⟨g5, 0, none⟩ = some (.int .i64 0) := (blk_cell BI.out 0).trans rfl; have hi1 : w5.cell? ⟨g5, 1, none⟩ = some (.int .i64 0) := (blk_cell BI.out 1).trans rfl; have hi2 : w5.cell? ⟨g5, 2, none⟩ = some (.int .i64 0) := (blk_cell BI.out 2).trans rfl; have hi3 : w5.cell? ⟨g5, 3, none⟩ = some (.int .i64 0) := (blk_cell BI.out 3).trans rfl; have hi4 : w5.cell? ⟨g5, 4, none⟩ = some (.int .i64 0) := (blk_cell BI.out 4).trans rfl; have hf0 := blk_frozen BI.out 0; have hf1 := blk_frozen BI.out 1; have hf2 := blk_frozen BI.out 2; have hf3 := blk_frozen BI.out 3; have hf4 := blk_frozen BI.out 4)
        | (go_at_call 60; (refine (proper_jumps.calls d1 _ _ HJ.out).mono ?_); rintro e wj ⟨rfl, ⟨nd, rfl⟩⟩; generalize hwq : (((((w5.setCell ⟨g5, 0, none⟩ (.int .i64 d1)).setCell ⟨g5, 1, none⟩ (.int .i64 d2)).setCell ⟨g5, 2, none⟩ (.int .i64 d3)).setCell ⟨g5, 3, none⟩ (.int .i64 d4)).setCell ⟨g5, 4, none⟩ (.int .i64 d5)) = wq; have n0_ := Aside0.mk (show Below w.heap.size w wq by rw [← hwq]; exact below_set (below_set (below_set (below_set (below_set HB.out GE.out) GE.out) GE.out) GE.out) GE.out); have n1_ := Aside0.mk (show wq.heap[g5]? = some (.cells #[.int .i64 d1, .int .i64 d2, .int .i64 d3, .int .i64 d4, .int .i64 d5] 48 (0, 0)) by rw [← hwq]; exact blk_set (blk_set (blk_set (blk_set (blk_set BI.out 0 (.int .i64 d1)) 1 (.int .i64 d2)) 2 (.int .i64 d3)) 3 (.int .i64 d4)) 4 (.int .i64 d5)); clear HB BI hwq hi0 hi1 hi2 hi3 hi4 hf0 hf1 hf2 hf3 hf4; have HB := n0_; have BI := n1_; clear n0_ n1_; have hi0 : wq.cell? ⟨g5, 0, none⟩ = some (.int .i64 d1) := (blk_cell BI.out 0).trans rfl; have hi4 : wq.cell? ⟨g5, 4, none⟩ = some (.int .i64 d5) := (blk_cell BI.out 4).trans rfl)
        | (go_at_call 61; (refine (proper_ends.calls d1 _ _ HE.out).mono ?_); rintro e we ⟨rfl, ⟨nd1, rfl⟩⟩)
        | ((with_reducible refine gate_builtin (b := .append) (xs := #[.tmp 20, .tmp 23]) rfl ?_); at_builtin; refine Kd.R_append (Kd.int .i64) (w0 := w) w.heap.size rfl (.tmp 20) (.tmp 23) 37 3 (.int .i64 0) 8 rfl Try.underlying37 info3n rfl (by decide) (by omega) (.slice none 0 0) ([] : List Int) (d5) [.int .i64 (d5)] (fun _ => True) (fun _ => False) rfl rfl ?aP (fun _ hk => hk.elim) ?aF ?aO ?aB ?aS ?aL ?_; (case aP => exact rfl); (case aB => exact (by repeat (first | (with_reducible first | exact HB.out | apply below_alloc | apply pw_below_drewN | apply below_drew1 | refine below_set ?_ GE.out) | exact HB.out))); (case aF => exact (fun _ _ => trivial)); (case aO => exact (by first | (with_reducible exact Kd.R_nil _ _ _ _ _) | ((with_reducible repeat (first | apply Kd.R_alloc | apply Kd.R_drewN | apply Kd.R_drew)); exact HO.out))); (case aS => exact below_size (by repeat (first | (with_reducible first | exact HB.out | apply below_alloc | apply pw_below_drewN | apply below_drew1 | refine below_set ?_ GE.out) | exact HB.out))); (case aL => simp); intro v7 w7 ho hb hg hat; have m0_ := Aside0.mk (blk_grown (g := g5) (o := .cells #[.int .i64 d1, .int .i64 d2, .int .i64 d3, .int .i64 d4, .int .i64 d5] 48 (0, 0)) (by (with_reducible repeat (first | refine blk_drewN ?_ _ | refine blk_drew ?_ | refine blk_alloc ?_ _)); exact BI.out) hg (by simp [Value.ownBlock])); clear BI; have BI := m0_; clear m0_ hi0 hi4; have hi0 : w7.cell? ⟨g5, 0, none⟩ = some (.int .i64 d1) := (blk_cell BI.out 0).trans rfl; have n0_ := Aside0.mk hb; have n1_ := Aside0.mk ho; clear HB HO hb ho hat hg; have HB := n0_; have HO := n1_; clear n0_ n1_)
        | ((with_reducible refine gate_builtin (b := .append) (xs := #[.tmp 29, .tmp 32]) rfl ?_); at_builtin; refine Kd.R_append (Kd.int .i64) (w0 := w) w.heap.size rfl (.tmp 29) (.tmp 32) 37 3 (.int .i64 0) 8 rfl Try.underlying37 info3n rfl (by decide) (by omega) v7 ([] ++ [d5] : List Int) (a1 + 1) [.int .i64 (a1 + 1)] (fun _ => True) (fun _ => False) rfl rfl ?aP (fun _ hk => hk.elim) ?aF ?aO ?aB ?aS ?aL ?_; (case aP => exact rfl); (case aB => exact (by repeat (first | (with_reducible first | exact HB.out | apply below_alloc | apply pw_below_drewN | apply below_drew1 | refine below_set ?_ GE.out) | exact HB.out))); (case aF => exact (fun _ _ => trivial)); (case aO => exact (by first | (with_reducible exact Kd.R_nil _ _ _ _ _) | ((with_reducible repeat (first | apply Kd.R_alloc | apply Kd.R_drewN | apply Kd.R_drew)); exact HO.out))); (case aS => exact below_size (by repeat (first | (with_reducible first | exact HB.out | apply below_alloc | apply pw_below_drewN | apply below_drew1 | refine below_set ?_ GE.out) | exact HB.out))); (case aL => simp); intro v7 w7 ho hb hg hat; have n0_ := Aside0.mk hb; have n1_ := Aside0.mk ho; clear HB HO hb ho hat hg; have HB := n0_; have HO := n1_; clear n0_ n1_)
        | ((with_reducible refine gate_builtin (b := .append) (xs := #[.tmp 29, .tmp 32]) rfl ?_); at_builtin; refine Kd.R_append (Kd.int .i64) (w0 := w) w.heap.size rfl (.tmp 29) (.tmp 32) 37 3 (.int .i64 0) 8 rfl Try.underlying37 info3n rfl (by decide) (by omega) (.slice none 0 0) ([] : List Int) (a1 + 1) [.int .i64 (a1 + 1)] (fun _ => True) (fun _ => False) rfl rfl ?aP (fun _ hk => hk.elim) ?aF ?aO ?aB ?aS ?aL ?_; (case aP => exact rfl); (case aB => exact (by repeat (first | (with_reducible first | exact HB.out | apply below_alloc | apply pw_below_drewN | apply below_drew1 | refine below_set ?_ GE.out) | exact HB.out))); (case aF => exact (fun _ _ => trivial)); (case aO => exact (by first | (with_reducible exact Kd.R_nil _ _ _ _ _) | ((with_reducible repeat (first | apply Kd.R_alloc | apply Kd.R_drewN | apply Kd.R_drew)); exact HO.out))); (case aS => exact below_size (by repeat (first | (with_reducible first | exact HB.out | apply below_alloc | apply pw_below_drewN | apply below_drew1 | refine below_set ?_ GE.out) | exact HB.out))); (case aL => simp); intro v7 w7 ho hb hg hat; have n0_ := Aside0.mk hb; have n1_ := Aside0.mk ho; clear HB HO hb ho hat hg; have HB := n0_; have HO := n1_; clear n0_ n1_)
        | (go_at_call 47; refine (sort_row (w0 := w) (by first | (with_reducible exact Kd.R_nil _ _ _ _ _) | ((with_reducible repeat (first | apply Kd.R_alloc | apply Kd.R_drewN | apply Kd.R_drew)); exact HO.out)) (by repeat (first | (with_reducible first | exact HB.out | apply below_alloc | apply pw_below_drewN | apply below_drew1 | refine below_set ?_ GE.out) | exact HB.out)) (by simp)).mono ?_; rintro e w8 ⟨rfl, ho, hb⟩; have n0_ := Aside0.mk hb; have n1_ := Aside0.mk ho; clear HB HO hb ho; have HB := n0_; have HO := n1_; clear n0_ n1_)
        | (go_at_call 65; refine (compact_row (fun _ => True) _ _ w _ HB.out HO.out).mono ?_; rintro e w9 ⟨v9, rfl, ho, hb⟩; have n0_ := Aside0.mk hb; have n1_ := Aside0.mk ho; clear HB HO hb ho; have HB := n0_; have HO := n1_; clear n0_ n1_))
      go_ret
      exact ⟨_, rfl, HO.out, HB.out⟩
  · rw [if_neg hin] at h
    exact absurd h (by simp)
end Go.Proofs.Ytdlikjfffdpmiaa.QProper

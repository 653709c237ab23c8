/- New, Len, Has, Top, Push of a heap. Conditions: each theorem's own. -/
import Derived.Test.YtceopcfmhidjlaaTdn
import Derived.Carry
import Derived.StillTailTactics
import Derived.Deep.RegionHeld3
import Derived.Deep.RegionLaw
set_option linter.unusedVariables false
set_option linter.unusedSimpArgs false
namespace Go.Proofs.Ytceopcfmhidjlaa.PTimerPlays
open Go.RowKit Go.Proofs.Ytceopcfmhidjlaa.Ef Go.Proofs.Ytceopcfmhidjlaa.Mp Go.Proofs.Ytceopcfmhidjlaa.Hp Go.Proofs.YtceopcfmhidjlaaW.PrintWords Go.Proofs.YtceopcfmhidjlaaW.PrintLast Go.Proofs.YtceopcfmhidjlaaW.PrintMore

theorem HeapAt.lower {w : World} {base base' p mb : Nat} {v : Value} {ok : Nat → Prop} {l : List NI} {m : List (Int × Int)} {next : Int} (h : HeapAt w base p mb v ok l m next) (hb : base' ≤ base) : HeapAt w base' p mb v ok l m next :=
  ⟨h.blk, Kd.R_lower h.row hb, h.map, h.ne, h.okp, h.okm, Nat.le_trans hb h.bp, Nat.le_trans hb h.bm, h.bound, fun k q => Nat.le_trans hb (h.low k q)⟩
set_option maxHeartbeats 1000000 in
theorem new_calls (w : World) : Calls Try.prog 25 #[] w fun e w' => ∃ p mb, e = .returned (.pointer (some ⟨p, 0, none⟩)) ∧ HeapAt w' w.heap.size p mb (.slice none 0 0) (fun k => w.heap.size ≤ k ∧ k < w'.heap.size) [] [] 0 ∧ Below w.heap.size w w' := by
  have hmm := @run_makeMap Try.prog
  have hu58 := Try.underlying96
  have hu61 := Try.underlying99
  go_enter Try.func25, Try.ntmps25
  go_wp2
  go_ret
  have e1 : (w.alloc (.map #[] 0)).heap.size = w.heap.size + 1 := Array.size_push _
  have e2 : ((w.alloc (.map #[] 0)).alloc (.cells #[.slice none 0 0, .map (some w.heap.size), .int .i64 0] 99 (0, 0))).heap.size = w.heap.size + 1 + 1 := by rw [← e1]; exact Array.size_push _
  refine ⟨w.heap.size + 1, w.heap.size, rfl, ⟨?_, Kd.R_nil _ _ _ _ _, (MapOf.new w).alloc _, by omega, by rw [e2]; omega, by rw [e2]; omega, by omega, Nat.le_refl _, fun k q => q.2, fun k q => q.1⟩, below_alloc (below_alloc (Below.refl _ _) _) _⟩
  have := blk_new (w.alloc (.map #[] 0)) (.cells #[.slice none 0 0, .map (some w.heap.size), .int .i64 0] 99 (0, 0))
  rw [e1] at this
  exact this

set_option maxHeartbeats 1000000 in
theorem len_calls (base p mb : Nat) (v : Value) (ok : Nat → Prop) (l : List NI) (m : List (Int × Int)) (next : Int) (w : World) (H : HeapAt w base p mb v ok l m next) :
    Calls Try.prog 49 #[.pointer (some ⟨p, 0, none⟩)] w fun e w' => e = .returned (.int .i64 (l.length : Int)) ∧ w = w' := by
  have hu59 := Try.underlying97
  obtain ⟨A, c, rfl⟩ := Kd.R_slice H.row
  have hp0 : w.cell? ⟨p, 0, none⟩ = some (.slice A l.length c) := (blk_cell H.blk 0).trans rfl
  clear H
  go_enter Try.func49, Try.ntmps49
  go_wp2
  go_ret
  exact ⟨rfl, rfl⟩
set_option maxHeartbeats 1000000 in
theorem has_calls (base p mb : Nat) (v : Value) (ok : Nat → Prop) (l : List NI) (m : List (Int × Int)) (next k : Int) (b : Bool) (w : World) (H : HeapAt w base p mb v ok l m next) (hb : (getI k m).isSome = b) :
    Calls Try.prog 45 #[.pointer (some ⟨p, 0, none⟩), .int .i64 k] w fun e w' => e = .returned (.bool b) ∧ w = w' := by
  have HM := Aside0.mk H.map
  have hp1 : w.cell? ⟨p, 1, none⟩ = some (.map (some mb)) := (blk_cell H.blk 1).trans rfl
  clear H
  have hg : (Mp.get k (m.map kv)).isSome = b := by rw [get_kv, ← hb]; cases getI k m <;> rfl
  have HG := Aside0.mk hg
  clear hg hb
  go_enter Try.func45, Try.ntmps45
  go_wp2_with ((with_reducible refine gate_dst (N := 15) rfl ?_); refine step_look keyI Try.underlying96 rfl rfl (zero3 _) HM.out k rfl rfl (v := .tuple #[(Mp.get k (m.map kv)).getD (.int .i64 0), .bool (Mp.get k (m.map kv)).isSome]) rfl ?_; generalize (Mp.get k (m.map kv)).getD (.int .i64 0) = z0; rw [HG.out])
  go_ret
  exact ⟨rfl, rfl⟩
set_option maxHeartbeats 1000000 in
set_option maxRecDepth 100000 in
theorem top_none (base p mb : Nat) (v : Value) (ok : Nat → Prop) (m : List (Int × Int)) (next : Int) (w : World) (H : HeapAt w base p mb v ok [] m next) :
    Calls Try.prog 31 #[.pointer (some ⟨p, 0, none⟩)] w fun e w' => e = .returned (.tuple #[.int .u64 0, .int .i64 0, .agg #[.int .i64 0, .int .i64 0, .int .i64 0, .int .i64 0, .int .i64 0, .int .u64 0, .bool false, .int .u64 0], .int .i64 31]) ∧ Below w.heap.size w w' := by
  have HH := Aside0.mk H
  clear H
  go_enter Try.func31, Try.ntmps31
  go_wp2_with (first
    | ((with_reducible refine gate_dst (N := 4) rfl ?_); refine box_event ?hg (N := 4) ?hd (cs := #[.int .i64 0, .int .i64 0, .int .i64 0, .int .i64 0, .int .i64 0, .int .u64 0, .bool false, .int .u64 0]) (t := 40) ?hr ?_; (case hd => rfl); (case hg => rfl); (case hr => first | (go_simp; done) | (go_simp; rfl)); intro g4 hg4 w1 hbox hb; have HB := Aside0.mk hb; have HN := Aside0.mk (show w.heap.size ≤ g4 by omega); have B4 := Aside0.mk hbox; have H1 := Aside0.mk (HH.out.below hb); have v0 : w1.cell? ⟨g4, 0, none⟩ = some (.int .i64 0) := (blk_cell hbox 0).trans rfl; have v1 : w1.cell? ⟨g4, 1, none⟩ = some (.int .i64 0) := (blk_cell hbox 1).trans rfl; have v2 : w1.cell? ⟨g4, 2, none⟩ = some (.int .i64 0) := (blk_cell hbox 2).trans rfl; have v3 : w1.cell? ⟨g4, 3, none⟩ = some (.int .i64 0) := (blk_cell hbox 3).trans rfl; have v4 : w1.cell? ⟨g4, 4, none⟩ = some (.int .i64 0) := (blk_cell hbox 4).trans rfl; have v5 : w1.cell? ⟨g4, 5, none⟩ = some (.int .u64 0) := (blk_cell hbox 5).trans rfl; have v6 : w1.cell? ⟨g4, 6, none⟩ = some (.bool false) := (blk_cell hbox 6).trans rfl; have v7 : w1.cell? ⟨g4, 7, none⟩ = some (.int .u64 0) := (blk_cell hbox 7).trans rfl; clear hb hbox hg4)
    | (go_at_call 49; (refine (len_calls base p mb v ok _ m next _ H1.out).mono ?_); rintro e w1 ⟨rfl, rfl⟩))
  go_still_tail 3, (by kernel_rfl)
  change wpList _ _ _ _ _ w1.drew
  have BK : Aside0 (w1.drew.heap[g4]? = some (.cells #[.int .i64 0, .int .i64 0, .int .i64 0, .int .i64 0, .int .i64 0, .int .u64 0, .bool false, .int .u64 0] 40 (0, 0))) := ⟨B4.out⟩
  have HB2 : Aside0 (Below w.heap.size w w1.drew) := ⟨below_drew HB.out⟩
  clear v0 v1 v2 v3 v4 v5 v6 v7 H1 B4 HB
  generalize w1.drew = w2 at *
  go_wp2_with ((with_reducible refine gate_store (t := 40) (p := 4) (v := .tmp 10) rfl ?_); refine step_store rfl rfl rfl BK.out rfl (u := .agg #[.int .i64 0, .int .i64 0, .int .i64 0, .int .i64 0, .int .i64 0, .int .u64 0, .bool false, .int .u64 0]) (seg := [.int .i64 0, .int .i64 0, .int .i64 0, .int .i64 0, .int .i64 0, .int .u64 0, .bool false, .int .u64 0]) rfl rfl (by kernel_rfl) (by simp [Value.oneCell']) (Nat.le_refl 8) (cur' := #[.int .i64 0, .int .i64 0, .int .i64 0, .int .i64 0, .int .i64 0, .int .u64 0, .bool false, .int .u64 0]) rfl ?_; intro w3 hb3 hg3 hs3)
  refine bodyPost_ret (results_list (rs := [.tmp 2, .tmp 3, .cell 4 40, .tmp 5]) rfl (by simp) (.tmp (.tmp (.cell g4 40 #[.int .i64 0, .int .i64 0, .int .i64 0, .int .i64 0, .int .i64 0, .int .u64 0, .bool false, .int .u64 0] (0, 0) _ rfl hb3 Try.underlying40 rfl (by kernel_rfl) (.tmp .nil))))) rfl ?_
  exact ⟨rfl, below_mput HB2.out hg3 HN.out HB2.out.size⟩
set_option maxHeartbeats 1000000 in
set_option maxRecDepth 100000 in
theorem top_some (base p mb : Nat) (v : Value) (ok : Nat → Prop) (l : List NI) (m : List (Int × Int)) (next : Int) (w : World) (H : HeapAt w base p mb v ok l m next) (hl : 0 < l.length) :
    Calls Try.prog 31 #[.pointer (some ⟨p, 0, none⟩)] w fun e w' => e = .returned (.tuple #[.int .u64 (nd l 0).when, .int .i64 (nd l 0).num, .agg #[.int .i64 (nd l 0).val.f0, .int .i64 (nd l 0).val.f1, .int .i64 (nd l 0).val.f2.f0, .int .i64 (nd l 0).val.f2.f1, .int .i64 (nd l 0).val.f3, .int .u64 (nd l 0).val.f4, .bool (nd l 0).val.f5, .int .u64 (nd l 0).val.f6], .int .i64 0]) ∧ Below w.heap.size w w' := by
  have HH := Aside0.mk H
  obtain ⟨g, cap, rfl, hbg, hgl, cells0, hg0⟩ := Kd.R_form H.row hl
  have hl0 : ((l.length : Int) == 0) = false := by simp; intro e; rw [e] at hl; exact absurd hl (by decide)
  have hl1 : (0 : Int) < (l.length : Int) := by omega
  clear H hg0
  go_enter Try.func31, Try.ntmps31
  go_wp2_with (first
    | ((with_reducible refine gate_dst (N := 4) rfl ?_); refine box_event ?hg (N := 4) ?hd (cs := #[.int .i64 0, .int .i64 0, .int .i64 0, .int .i64 0, .int .i64 0, .int .u64 0, .bool false, .int .u64 0]) (t := 40) ?hr ?_; (case hd => rfl); (case hg => rfl); (case hr => first | (go_simp; done) | (go_simp; rfl)); intro g4 hg4 w1 hbox hb; have HB := Aside0.mk hb; have HN4 := Aside0.mk (show w.heap.size ≤ g4 by omega); have B4 := Aside0.mk hbox; have H1 := Aside0.mk (HH.out.below hb); clear hb hbox hg4)
    | (go_at_call 49; (refine (len_calls base p mb _ ok _ m next _ H1.out).mono ?_); rintro e w1 ⟨rfl, rfl⟩; obtain ⟨hx0, hx1, hx2, hx3, hx4, hx5, hx6, hx7, hx8, hx9⟩ := at_row H1.out.row 0 hl; (have hp0 : w1.cell? ⟨p, 0, none⟩ = some (.slice (some ⟨g, 0, none⟩) l.length cap) := (blk_cell H1.out.blk 0).trans rfl); simp only [Nat.zero_mul, Nat.zero_add] at hx0 hx1 hx2 hx3 hx4 hx5 hx6 hx7 hx8 hx9; clear H1)
    | ((with_reducible refine gate_dst (N := 6) rfl ?_); refine box_event ?hg (N := 6) ?hd (cs := #[.int .u64 0, .int .i64 0, .int .i64 0, .int .i64 0, .int .i64 0, .int .i64 0, .int .i64 0, .int .u64 0, .bool false, .int .u64 0]) (t := 105) ?hr ?_; (case hd => rfl); (case hg => rfl); (case hr => first | (go_simp; done) | (go_simp; rfl)); intro gn hgn w2 hbox hb; have HB1 := Aside0.mk (below_step HB.out hb); have BK1 := Aside0.mk hbox; have B41 := Aside0.mk (blk_below B4.out hb); have HN := Aside0.mk (show w.heap.size ≤ gn from by have := HB.out.size; omega); have HE := Aside0.mk (show g4 ≠ gn from by have := blk_lt B4.out; omega); clear hb hbox hgn hx0 hx1 hx2 hx3 hx4 hx5 hx6 hx7 hx8 hx9 hp0 HB B4)
    | ((with_reducible refine gate_store (t := 105) (p := 6) (v := .tmp 16) rfl ?_); refine step_store rfl rfl rfl BK1.out rfl (u := .agg (cN (nd l 0))) (seg := (cN (nd l 0)).toList) rfl rfl (by kernel_rfl) (by simp [Value.oneCell']) (Nat.le_refl 10) (cur' := cN (nd l 0)) rfl ?_; intro w3 hb3 hg3 hs3; have HB2 := Aside0.mk (below_mput HB1.out hg3 HN.out HB1.out.size); have B42 := Aside0.mk (blk_grown B41.out hg3 (by intro e; cases e; exact HE.out rfl)); have hn0 : w3.cell? ⟨gn, 0, none⟩ = some (.int .u64 (nd l 0).when) := (blk_cell hb3 0).trans rfl; have hn1 : w3.cell? ⟨gn, 1, none⟩ = some (.int .i64 (nd l 0).num) := (blk_cell hb3 1).trans rfl; have hn2 : w3.cell? ⟨gn, 2, none⟩ = some (.int .i64 (nd l 0).val.f0) := (blk_cell hb3 2).trans rfl; have hn3 : w3.cell? ⟨gn, 3, none⟩ = some (.int .i64 (nd l 0).val.f1) := (blk_cell hb3 3).trans rfl; have hn4 : w3.cell? ⟨gn, 4, none⟩ = some (.int .i64 (nd l 0).val.f2.f0) := (blk_cell hb3 4).trans rfl; have hn5 : w3.cell? ⟨gn, 5, none⟩ = some (.int .i64 (nd l 0).val.f2.f1) := (blk_cell hb3 5).trans rfl; have hn6 : w3.cell? ⟨gn, 6, none⟩ = some (.int .i64 (nd l 0).val.f3) := (blk_cell hb3 6).trans rfl; have hn7 : w3.cell? ⟨gn, 7, none⟩ = some (.int .u64 (nd l 0).val.f4) := (blk_cell hb3 7).trans rfl; have hn8 : w3.cell? ⟨gn, 8, none⟩ = some (.bool (nd l 0).val.f5) := (blk_cell hb3 8).trans rfl; have hn9 : w3.cell? ⟨gn, 9, none⟩ = some (.int .u64 (nd l 0).val.f6) := (blk_cell hb3 9).trans rfl; clear hb3 hg3 hs3 BK1 HB1 B41))
  go_still_tail 8, (by kernel_rfl)
  change wpList _ _ _ _ _ w3.drew
  have B43 : Aside0 (w3.drew.heap[g4]? = some (.cells #[.int .i64 0, .int .i64 0, .int .i64 0, .int .i64 0, .int .i64 0, .int .u64 0, .bool false, .int .u64 0] 40 (0, 0))) := ⟨B42.out⟩
  have HB3 : Aside0 (Below w.heap.size w w3.drew) := ⟨below_drew HB2.out⟩
  clear B42 HB2 hn0 hn1 hn2 hn3 hn4 hn5 hn6 hn7 hn8 hn9
  generalize w3.drew = w4 at *
  go_wp2_with ((with_reducible refine gate_store (t := 40) (p := 4) (v := .tmp 22) rfl ?_); refine step_store rfl rfl rfl B43.out rfl (u := .agg #[.int .i64 (nd l 0).val.f0, .int .i64 (nd l 0).val.f1, .int .i64 (nd l 0).val.f2.f0, .int .i64 (nd l 0).val.f2.f1, .int .i64 (nd l 0).val.f3, .int .u64 (nd l 0).val.f4, .bool (nd l 0).val.f5, .int .u64 (nd l 0).val.f6]) (seg := [.int .i64 (nd l 0).val.f0, .int .i64 (nd l 0).val.f1, .int .i64 (nd l 0).val.f2.f0, .int .i64 (nd l 0).val.f2.f1, .int .i64 (nd l 0).val.f3, .int .u64 (nd l 0).val.f4, .bool (nd l 0).val.f5, .int .u64 (nd l 0).val.f6]) rfl rfl (by kernel_rfl) (by simp [Value.oneCell']) (Nat.le_refl 8) (cur' := #[.int .i64 (nd l 0).val.f0, .int .i64 (nd l 0).val.f1, .int .i64 (nd l 0).val.f2.f0, .int .i64 (nd l 0).val.f2.f1, .int .i64 (nd l 0).val.f3, .int .u64 (nd l 0).val.f4, .bool (nd l 0).val.f5, .int .u64 (nd l 0).val.f6]) rfl ?_; intro w5 hb5 hg5 hs5)
  refine bodyPost_ret (results_list (rs := [.tmp 2, .tmp 3, .cell 4 40, .tmp 5]) rfl (by simp) (.tmp (.tmp (.cell g4 40 #[.int .i64 (nd l 0).val.f0, .int .i64 (nd l 0).val.f1, .int .i64 (nd l 0).val.f2.f0, .int .i64 (nd l 0).val.f2.f1, .int .i64 (nd l 0).val.f3, .int .u64 (nd l 0).val.f4, .bool (nd l 0).val.f5, .int .u64 (nd l 0).val.f6] (0, 0) _ rfl hb5 Try.underlying40 rfl (by kernel_rfl) (.tmp .nil))))) rfl ?_
  exact ⟨rfl, below_mput HB3.out hg5 HN4.out HB3.out.size⟩
set_option maxHeartbeats 1000000 in
set_option maxRecDepth 100000 in
theorem push_calls (base p mb : Nat) (v : Value) (ok : Nat → Prop) (l : List NI) (m : List (Int × Int)) (next when_ : Int) (val : S40) (w : World) (H : HeapAt w base p mb v ok l m next) (hsm : (l.length + 1) * 80 ≤ 140737488355328) (hn0 : 0 ≤ next) (hn1 : next ≤ 1000000000000000000) :
    Calls Try.prog 50 #[.pointer (some ⟨p, 0, none⟩), .int .u64 when_, .agg #[.int .i64 val.f0, .int .i64 val.f1, .int .i64 val.f2.f0, .int .i64 val.f2.f1, .int .i64 val.f3, .int .u64 val.f4, .bool val.f5, .int .u64 val.f6]] w fun e w' => ∃ v' ok', e = .returned (.int .i64 next) ∧ HeapAt w' base p mb v' ok' (pushA l m ⟨when_, next, val⟩).1 (pushA l m ⟨when_, next, val⟩).2 (next + 1) ∧ (∀ k, ok' k → ok k ∨ w.heap.size ≤ k) ∧ Fr base ok w w' := by
  have HH := Aside0.mk H
  have HF := Aside0.mk (Fr.refl H.le H.low)
  obtain ⟨A, cap, rfl⟩ := Kd.R_slice H.row
  clear H
  go_enter Try.func50, Try.ntmps50
  go_wp2_with (first
    | ((with_reducible refine gate_dst (N := 5) rfl ?_); refine box_event ?hg (N := 5) ?hd (cs := #[.int .i64 val.f0, .int .i64 val.f1, .int .i64 val.f2.f0, .int .i64 val.f2.f1, .int .i64 val.f3, .int .u64 val.f4, .bool val.f5, .int .u64 val.f6]) (t := 40) ?hr ?_; (case hd => rfl); (case hg => rfl); (case hr => first | (go_simp; done) | (go_simp; rfl)); intro g5 hg5 w1 hbox hb; have HF0 := Aside0.mk (HF.out.below hb); have HA0 := Aside0.mk (HH.out.below hb); have HS0 := Aside0.mk hb.size; have hp0 : w1.cell? ⟨p, 2, none⟩ = some (.int .i64 next) := (blk_cell HA0.out.blk 2).trans rfl; have v0 : w1.cell? ⟨g5, 0, none⟩ = some (.int .i64 val.f0) := (blk_cell hbox 0).trans rfl; have v1 : w1.cell? ⟨g5, 1, none⟩ = some (.int .i64 val.f1) := (blk_cell hbox 1).trans rfl; have v2 : w1.cell? ⟨g5, 2, none⟩ = some (.int .i64 val.f2.f0) := (blk_cell hbox 2).trans rfl; have v3 : w1.cell? ⟨g5, 3, none⟩ = some (.int .i64 val.f2.f1) := (blk_cell hbox 3).trans rfl; have v4 : w1.cell? ⟨g5, 4, none⟩ = some (.int .i64 val.f3) := (blk_cell hbox 4).trans rfl; have v5 : w1.cell? ⟨g5, 5, none⟩ = some (.int .u64 val.f4) := (blk_cell hbox 5).trans rfl; have v6 : w1.cell? ⟨g5, 6, none⟩ = some (.bool val.f5) := (blk_cell hbox 6).trans rfl; have v7 : w1.cell? ⟨g5, 7, none⟩ = some (.int .u64 val.f6) := (blk_cell hbox 7).trans rfl; clear hb hbox hg5))
  have hKEEP : ∀ o, (w1.drew.alloc o).cell? ⟨p, 2, none⟩ = some (.int .i64 next) ∧ (w1.drew.alloc o).cell? ⟨g5, 0, none⟩ = some (.int .i64 val.f0) ∧ (w1.drew.alloc o).cell? ⟨g5, 1, none⟩ = some (.int .i64 val.f1) ∧ (w1.drew.alloc o).cell? ⟨g5, 2, none⟩ = some (.int .i64 val.f2.f0) ∧ (w1.drew.alloc o).cell? ⟨g5, 3, none⟩ = some (.int .i64 val.f2.f1) ∧ (w1.drew.alloc o).cell? ⟨g5, 4, none⟩ = some (.int .i64 val.f3) ∧ (w1.drew.alloc o).cell? ⟨g5, 5, none⟩ = some (.int .u64 val.f4) ∧ (w1.drew.alloc o).cell? ⟨g5, 6, none⟩ = some (.bool val.f5) ∧ (w1.drew.alloc o).cell? ⟨g5, 7, none⟩ = some (.int .u64 val.f6) := fun o => ⟨((below_alloc (Below.refl _ _) _).cell (p := ⟨p, 2, none⟩) (blk_lt HA0.out.blk)).trans hp0, ((below_alloc (Below.refl _ _) _).cell (p := ⟨g5, 0, none⟩) (World.block_lt_of_cell? w1 _ v0)).trans v0, ((below_alloc (Below.refl _ _) _).cell (p := ⟨g5, 1, none⟩) (World.block_lt_of_cell? w1 _ v1)).trans v1, ((below_alloc (Below.refl _ _) _).cell (p := ⟨g5, 2, none⟩) (World.block_lt_of_cell? w1 _ v2)).trans v2, ((below_alloc (Below.refl _ _) _).cell (p := ⟨g5, 3, none⟩) (World.block_lt_of_cell? w1 _ v3)).trans v3, ((below_alloc (Below.refl _ _) _).cell (p := ⟨g5, 4, none⟩) (World.block_lt_of_cell? w1 _ v4)).trans v4, ((below_alloc (Below.refl _ _) _).cell (p := ⟨g5, 5, none⟩) (World.block_lt_of_cell? w1 _ v5)).trans v5, ((below_alloc (Below.refl _ _) _).cell (p := ⟨g5, 6, none⟩) (World.block_lt_of_cell? w1 _ v6)).trans v6, ((below_alloc (Below.refl _ _) _).cell (p := ⟨g5, 7, none⟩) (World.block_lt_of_cell? w1 _ v7)).trans v7⟩
  go_region_held3 (fun w' => w'.cell? ⟨p, 2, none⟩ = some (.int .i64 next) ∧ w'.cell? ⟨g5, 0, none⟩ = some (.int .i64 val.f0) ∧ w'.cell? ⟨g5, 1, none⟩ = some (.int .i64 val.f1) ∧ w'.cell? ⟨g5, 2, none⟩ = some (.int .i64 val.f2.f0) ∧ w'.cell? ⟨g5, 3, none⟩ = some (.int .i64 val.f2.f1) ∧ w'.cell? ⟨g5, 4, none⟩ = some (.int .i64 val.f3) ∧ w'.cell? ⟨g5, 5, none⟩ = some (.int .u64 val.f4) ∧ w'.cell? ⟨g5, 6, none⟩ = some (.bool val.f5) ∧ w'.cell? ⟨g5, 7, none⟩ = some (.int .u64 val.f6)) (first | go_keep | exact hKEEP _) (fail)
  rename_i hHeld
  have hb := below_drew (below_alloc (Below.refl w1.heap.size w1) (.cells #[.int .u64 when_, .int .i64 next, .int .i64 val.f0, .int .i64 val.f1, .int .i64 val.f2.f0, .int .i64 val.f2.f1, .int .i64 val.f3, .int .u64 val.f4, .bool val.f5, .int .u64 val.f6] 105 (0, 0)))
  have HF2 := Aside0.mk (HF0.out.below hb)
  have HA2 := Aside0.mk (HA0.out.below hb)
  have BK2 : Aside0 ((w1.alloc (.cells #[.int .u64 when_, .int .i64 next, .int .i64 val.f0, .int .i64 val.f1, .int .i64 val.f2.f0, .int .i64 val.f2.f1, .int .i64 val.f3, .int .u64 val.f4, .bool val.f5, .int .u64 val.f6] 105 (0, 0))).drew.heap[w1.heap.size]? = some (.cells (cN ⟨when_, next, val⟩) 105 (0, 0))) := ⟨blk_new _ _⟩
  have HN := Aside0.mk HS0.out
  clear hb hHeld hKEEP hp0 v0 v1 v2 v3 v4 v5 v6 v7 HF0 HA0 HS0
  generalize w1.heap.size = gn at *
  generalize (w1.alloc (.cells #[.int .u64 when_, .int .i64 next, .int .i64 val.f0, .int .i64 val.f1, .int .i64 val.f2.f0, .int .i64 val.f2.f1, .int .i64 val.f3, .int .u64 val.f4, .bool val.f5, .int .u64 val.f6] 105 (0, 0))).drew = w3 at *
  have hp0 : w3.cell? ⟨p, 2, none⟩ = some (.int .i64 next) := (blk_cell HA2.out.blk 2).trans rfl
  have hpz : w3.frozen? ⟨p, 2, none⟩ = false := blk_frozen HA2.out.blk 2
  go_wp2
  obtain ⟨hb4, hg4⟩ := set_step HA2.out.blk 2 (.int .i64 (next + 1)) (cur' := cH (.slice A l.length cap) mb (next + 1)) rfl
  have HF3 := Aside0.mk (HF2.out.grown hg4 (.inl HH.out.okp))
  have BK3 := Aside0.mk (blk_grown BK2.out hg4 (by intro e; cases e; exact HH.out.new HN.out HH.out.okp))
  have HA3 := Aside0.mk (HA2.out.celled hb4 hg4)
  clear hp0 hpz hb4 hg4 BK2 HF2 HA2
  generalize w3.setCell ⟨p, 2, none⟩ (.int .i64 (next + 1)) = w4 at *
  have hp0 : w4.cell? ⟨p, 0, none⟩ = some (.slice A l.length cap) := (blk_cell HA3.out.blk 0).trans rfl
  have hv0 : w4.cell? ⟨gn, 0, none⟩ = some (.int .u64 when_) := (blk_cell BK3.out 0).trans rfl
  have hv1 : w4.cell? ⟨gn, 1, none⟩ = some (.int .i64 next) := (blk_cell BK3.out 1).trans rfl
  have hv2 : w4.cell? ⟨gn, 2, none⟩ = some (.int .i64 val.f0) := (blk_cell BK3.out 2).trans rfl
  have hv3 : w4.cell? ⟨gn, 3, none⟩ = some (.int .i64 val.f1) := (blk_cell BK3.out 3).trans rfl
  have hv4 : w4.cell? ⟨gn, 4, none⟩ = some (.int .i64 val.f2.f0) := (blk_cell BK3.out 4).trans rfl
  have hv5 : w4.cell? ⟨gn, 5, none⟩ = some (.int .i64 val.f2.f1) := (blk_cell BK3.out 5).trans rfl
  have hv6 : w4.cell? ⟨gn, 6, none⟩ = some (.int .i64 val.f3) := (blk_cell BK3.out 6).trans rfl
  have hv7 : w4.cell? ⟨gn, 7, none⟩ = some (.int .u64 val.f4) := (blk_cell BK3.out 7).trans rfl
  have hv8 : w4.cell? ⟨gn, 8, none⟩ = some (.bool val.f5) := (blk_cell BK3.out 8).trans rfl
  have hv9 : w4.cell? ⟨gn, 9, none⟩ = some (.int .u64 val.f6) := (blk_cell BK3.out 9).trans rfl
  have hf0 : w4.frozen? ⟨p, 0, none⟩ = false := blk_frozen HA3.out.blk 0
  have HA4 := Aside0.mk HA3.out.drew
  have HF4 := Aside0.mk HF3.out.drew
  have BK4 : Aside0 (w4.drew.heap[gn]? = some (.cells (cN ⟨when_, next, val⟩) 105 (0, 0))) := ⟨BK3.out⟩
  have hpa : (w4.alloc (.cells #[.int .u64 when_, .int .i64 next, .int .i64 val.f0, .int .i64 val.f1, .int .i64 val.f2.f0, .int .i64 val.f2.f1, .int .i64 val.f3, .int .u64 val.f4, .bool val.f5, .int .u64 val.f6] 105 (0, 0))).cell? ⟨p, 0, none⟩ = some (.slice A l.length cap) := ((below_alloc (Below.refl _ _) _).cell (p := ⟨p, 0, none⟩) (blk_lt HA3.out.blk)).trans hp0
  clear HA3 HF3 BK3
  go_region_law ((refine Kd.R_append_step kN (w0 := w4.drew) (W := w4.drew) base rfl (.tmp 26) (.tmp 28) 97 105 (.agg #[(.int .u64 0), (.int .i64 0), .int .i64 0, .int .i64 0, .int .i64 0, .int .i64 0, .int .i64 0, .int .u64 0, .bool false, .int .u64 0]) 80 rfl Try.underlying97 infoN rfl (by decide) (by omega) (Value.slice A l.length cap) l (⟨when_, next, val⟩ : NI) (cN ⟨when_, next, val⟩).toList (fun k => (ok k ∨ w.heap.size ≤ k) ∧ k ≠ p ∧ k ≠ mb ∧ k ≠ gn) (fun _ => False) rfl rfl (kN_mkM _ _ _ _) (fun _ h => h.elim) ?aF ?aO (Below.refl _ _) ?aS hsm ?_); (case aF => exact fun k hk => ⟨.inr (Nat.le_trans HF4.out.size hk), by have := HA4.out.bound _ HA4.out.okp; omega, by have := HA4.out.bound _ HA4.out.okm; omega, by have := blk_lt BK4.out; omega⟩); (case aO => exact Kd.R_mono HA4.out.row (fun k hk => ⟨.inl hk.1, hk.2.1, hk.2.2, fun e => HH.out.new HN.out (e ▸ hk.1)⟩)); (case aS => exact HA4.out.le); intro v1 w5 hrow hb5 hg5 hat; obtain ⟨A1, c1, rfl⟩ := Kd.R_slice hrow; have HP5 := blk_grown HA4.out.blk hg5 (fun e => (HA4.out.row.1 p e.symm).2.1 rfl); have hp5 : w5.cell? ⟨p, 0, none⟩ = some (Value.slice A l.length cap) := (blk_cell HP5 0).trans rfl; have hf5 : w5.frozen? ⟨p, 0, none⟩ = false := blk_frozen HP5 0)
  all_goals
    obtain ⟨hb6, hg6⟩ := set_step HP5 0 (.slice A1 (l.length + 1) c1) (cur' := cH (.slice A1 (l.length + 1) c1) mb (next + 1)) rfl
    have HF6 := Aside0.mk ((HF4.out.grownO hg5 (fun k hk => .inl (HA4.out.row.1 k hk).1)).grown hg6 (.inl HH.out.okp))
    have HS6 : Aside0 (w4.drew.heap.size ≤ (w5.setCell ⟨p, 0, none⟩ (.slice A1 (l.length + 1) c1)).heap.size) := ⟨Nat.le_trans hg5.size hg6.size⟩
    have BK6 := Aside0.mk (blk_grown (blk_grown BK4.out hg5 (fun e => HH.out.new HN.out (HA4.out.row.1 gn e.symm).1)) hg6 (by intro e; cases e; exact HH.out.new HN.out HH.out.okp))
    have HA6 : Aside0 (HeapAt (w5.setCell ⟨p, 0, none⟩ (.slice A1 (l.length + 1) c1)) base p mb (.slice A1 (l.length + 1) c1) (fun k => (ok k ∨ w.heap.size ≤ k) ∧ k ≠ gn ∧ k < (w5.setCell ⟨p, 0, none⟩ (.slice A1 (l.length + 1) c1)).heap.size) (l ++ [⟨when_, next, val⟩]) m (next + 1)) := ⟨by
      refine ⟨hb6, ?_, ?_, HA4.out.ne, ⟨.inl HA4.out.okp, fun e => HH.out.new HN.out (e ▸ HA4.out.okp), blk_lt hb6⟩, ⟨.inl HA4.out.okm, fun e => HH.out.new HN.out (e ▸ HA4.out.okm), Nat.lt_of_lt_of_le (HA4.out.bound _ HA4.out.okm) HS6.out⟩, HA4.out.bp, HA4.out.bm, fun k q => q.2.2, fun k q => q.1.elim (HA4.out.low k) (fun q => Nat.le_trans HH.out.le q)⟩
      · have h1 := Kd.R_grown hrow hg6 (fun k hk e => by cases e; exact hk.2.1 rfl)
        rw [List.length_append] at h1
        exact Kd.R_mono (Kd.R_bound h1) (fun k hk => ⟨⟨hk.1.1, hk.1.2.2.2, hk.2.2.1⟩, hk.1.2.1, hk.1.2.2.1⟩)
      · exact (HA4.out.map.grown hg5 (fun e => (HA4.out.row.1 mb e.symm).2.2 rfl)).grown hg6 (by intro e; cases e; exact HA4.out.ne rfl)⟩
    clear hb6 hg6 hb5 hg5 hrow hat HP5 hp5 hf5 hpa hp0 hv0 hv1 hv2 hv3 hv4 hv5 hv6 hv7 hv8 hv9 hf0 HA4 HF4 BK4 HS6
    generalize w5.setCell ⟨p, 0, none⟩ (.slice A1 (l.length + 1) c1) = w6 at *
    have hp0 : w6.cell? ⟨p, 0, none⟩ = some (.slice A1 (l.length + 1) c1) := (blk_cell HA6.out.blk 0).trans rfl
    go_wp2_with (first
      | (go_at_call 47; (refine (up_calls' base p mb _ _ _ m (next + 1) l.length _ (by omega) _ HA6.out (by simp)).mono ?_); rintro e w7 ⟨rfl, hA, hF⟩; have HA7 := Aside0.mk hA; have HF7 := Aside0.mk (HF6.out.then_ hF (Nat.le_refl _) (fun k q => q.1)); have hn1' : w7.cell? ⟨gn, 1, none⟩ = some (.int .i64 next) := (blk_cell (hF.blk BK6.out (fun q => q.2.1 rfl)) 1).trans rfl; have HS7 := Aside0.mk hF.size; clear hA hF hp0 HA6 HF6 BK6))
    go_ret
    exact ⟨_, _, rfl, HA7.out, fun k q => q.1, HF7.out⟩
end Go.Proofs.Ytceopcfmhidjlaa.PTimerPlays

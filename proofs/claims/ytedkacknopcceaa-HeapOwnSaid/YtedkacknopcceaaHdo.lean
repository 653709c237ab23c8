/- rotalaw05.does at what tells. Conditions: each theorem's own. -/
import Derived.Test.YtedkacknopcceaaHdp
set_option linter.unusedVariables false
set_option linter.unusedSimpArgs false
namespace Go.Proofs.Ytedkacknopcceaa.QHeap
open Go.RowKit Go.Proofs.Ytedkacknopcceaa.Ef Go.Proofs.Ytedkacknopcceaa.Mp Go.Proofs.Ytedkacknopcceaa.Hp Go.Proofs.YtedkacknopcceaaW.PrintWords Go.Proofs.YtedkacknopcceaaW.PrintLast Go.Proofs.YtedkacknopcceaaW.PrintMore

set_option maxHeartbeats 4000000 in
set_option maxRecDepth 100000 in
theorem does_told (p : Nat) (ok P : Nat → Prop) (l : List S34) (A : Option Addr) (c : Nat) (next a0 a1 a2 : Int) (w0 w : World) (hB : Below w0.heap.size w0 w) (T : Two w w0.heap.size p ok P (.slice A l.length c) l next) (hl : l.length ≤ most) (h0 : a0 ≠ 0) (h1 : a0 ≠ 1) (h2 : a0 ≠ 2) (h3 : a0 ≠ 3) :
    Calls Try.prog 13 #[.pointer (some ⟨p, 0, none⟩), .agg #[.slice A l.length c, .int .i64 next], .agg #[.int .i64 a0, .int .u64 a1, .int .i64 a2]] w fun e w' => e = .returned (.tuple #[.agg #[.slice A l.length c, .int .i64 next], .bool true]) ∧ Two w' w0.heap.size p ok P (.slice A l.length c) l next ∧ Below w.heap.size w w' := by
  have hu42 := Try.underlying42
  have e0 : (a0 == 0) = false := by simpa using h0
  have e1 : (a0 == 1) = false := by simpa using h1
  have e2 : (a0 == 2) = false := by simpa using h2
  have e3 : (a0 == 3) = false := by simpa using h3
  have HT := Aside0.mk T
  have HB := Aside0.mk hB
  clear T hB
  go_enter Try.func13, Try.ntmps13
  go_wp2_with (first
    | ((with_reducible refine gate_dst (N := 4) rfl ?_); refine box_event ?hg (N := 4) ?hd (cs := #[.slice A l.length c, .int .i64 next]) (t := 42) ?hr ?_; (case hd => rfl); (case hg => rfl); (case hr => first | (go_simp; done) | (go_simp; rfl)); intro g4 hg4 w1 hbox hb; have HE4 := Aside0.mk (show w.heap.size ≤ g4 by omega); have HB1 := Aside0.mk hb; have B4 := Aside0.mk hbox; clear hb hbox hg4)
    | ((with_reducible refine gate_dst (N := 5) rfl ?_); refine box_event ?hg (N := 5) ?hd (cs := #[.int .i64 a0, .int .u64 a1, .int .i64 a2]) (t := 46) ?hr ?_; (case hd => rfl); (case hg => rfl); (case hr => first | (go_simp; done) | (go_simp; rfl)); intro g5 hg5 w2 hbox hb; have HB2 := Aside0.mk (below_step HB1.out hb); have B42 := Aside0.mk (blk_below B4.out hb); have B5 := Aside0.mk hbox; clear hb hbox hg5 HB1 B4)
    | ((with_reducible refine gate_dst (N := 6) rfl ?_); refine box_event ?hg (N := 6) ?hd (cs := #[.slice none 0 0, .int .i64 0]) (t := 42) ?hr ?_; (case hd => rfl); (case hg => rfl); (case hr => first | (go_simp; done) | (go_simp; rfl)); intro g6 hg6 w3 hbox hb; have HE6 := Aside0.mk (show w.heap.size ≤ g6 from by have := HB2.out.size; omega); have HN64 := Aside0.mk (show g6 ≠ g4 from by have := blk_lt B42.out; omega); have HB3 := Aside0.mk (below_step HB2.out hb); have B43 := Aside0.mk (blk_below B42.out hb); have B53 := Aside0.mk (blk_below B5.out hb); have B63 := Aside0.mk hbox; have T3 := Aside0.mk (HT.out.below HB3.out); have s0 : w3.cell? ⟨g4, 0, none⟩ = some (.slice A l.length c) := (blk_cell B43.out 0).trans rfl; have s1 : w3.cell? ⟨g4, 1, none⟩ = some (.int .i64 next) := (blk_cell B43.out 1).trans rfl; have k0 : w3.cell? ⟨g5, 0, none⟩ = some (.int .i64 a0) := (blk_cell B53.out 0).trans rfl; have k2 : w3.cell? ⟨g5, 2, none⟩ = some (.int .i64 a2) := (blk_cell B53.out 2).trans rfl; have p0 : w3.cell? ⟨g6, 0, none⟩ = some (.slice none 0 0) := (blk_cell B63.out 0).trans rfl; have p1 : w3.cell? ⟨g6, 1, none⟩ = some (.int .i64 0) := (blk_cell B63.out 1).trans rfl; have z0 := blk_frozen B63.out 0; have z1 := blk_frozen B63.out 1; have hn2 : g6 ≠ g4 := HN64.out; have hn2' := hn2.symm; clear hb hbox hg6 HB2 B42 B5))
  go_region_with (go_at_call 14; (refine (told_calls w0.heap.size p ok A c l next a2 _ (T3.out.heap.below (pw_below_drewN (Below.refl _ _) _)) (Kd.C_below (Kd.R_reads' T3.out.row).2.2 (pw_below_drewN (Below.refl _ _) _)) (Kd.R_reads' T3.out.row).2.1 hl).mono ?_); rintro e w9 ⟨rfl, hb⟩; have HB9 := Aside0.mk (below_step (pw_below_drewN HB3.out 1) hb); have B49 := Aside0.mk (blk_below (w := w3.drewN 1) B43.out hb); have B69 := Aside0.mk (blk_below (w := w3.drewN 1) B63.out hb); have T9 := Aside0.mk ((T3.out.below (pw_below_drewN (Below.refl _ _) 1)).below hb); clear hb s0 s1 k0 k2 p0 p1 z0 z1; have s0 : w9.cell? ⟨g4, 0, none⟩ = some (.slice A l.length c) := (blk_cell B49.out 0).trans rfl; have s1 : w9.cell? ⟨g4, 1, none⟩ = some (.int .i64 next) := (blk_cell B49.out 1).trans rfl; have p0 : w9.cell? ⟨g6, 0, none⟩ = some (.slice none 0 0) := (blk_cell B69.out 0).trans rfl; have p1 : w9.cell? ⟨g6, 1, none⟩ = some (.int .i64 0) := (blk_cell B69.out 1).trans rfl; have z0 := blk_frozen B69.out 0; have z1 := blk_frozen B69.out 1)
  all_goals
    go_wp2
    have q1 := set_step (cur' := #[.slice A l.length c, .int .i64 0]) B69.out 0 (.slice A l.length c) rfl
    have q2 := set_step (cur' := #[.slice A l.length c, .int .i64 next]) q1.1 1 (.int .i64 next) rfl
    refine bodyPost_ret (results_list (rs := [.cell 6 42, .tmp 7]) rfl (by simp) (.cell g6 42 #[.slice A l.length c, .int .i64 next] (0, 0) _ rfl q2.1 Try.underlying42 rfl (by kernel_rfl) (.tmp .nil))) rfl ?_
    have hn6 : ¬ P g6 := fun q => Nat.not_lt.2 HE6.out (HT.out.bound _ q).2
    have hm6 : ¬ ok g6 := fun q => Nat.not_lt.2 HE6.out (HT.out.heap.bound _ q).2
    exact ⟨rfl, ((T9.out.grown q1.2 hm6 hn6).grown q2.2 hm6 hn6), below_mput (below_mput HB9.out q1.2 HE6.out HB9.out.size) q2.2 HE6.out (Nat.le_trans HB9.out.size q1.2.size)⟩
end Go.Proofs.Ytedkacknopcceaa.QHeap
  
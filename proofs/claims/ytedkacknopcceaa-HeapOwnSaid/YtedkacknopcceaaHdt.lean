/- rotalaw05.does at a Top. Conditions: each theorem's own. -/
import Derived.Test.YtedkacknopcceaaHdp
set_option linter.unusedVariables false
set_option linter.unusedSimpArgs false
namespace Go.Proofs.Ytedkacknopcceaa.QHeap
open Go.RowKit Go.Proofs.Ytedkacknopcceaa.Ef Go.Proofs.Ytedkacknopcceaa.Mp Go.Proofs.Ytedkacknopcceaa.Hp Go.Proofs.YtedkacknopcceaaW.PrintWords Go.Proofs.YtedkacknopcceaaW.PrintLast Go.Proofs.YtedkacknopcceaaW.PrintMore

set_option maxHeartbeats 4000000 in
set_option maxRecDepth 100000 in
theorem does_top (p : Nat) (ok P : Nat → Prop) (l : List S34) (A : Option Addr) (c : Nat) (next a1 a2 : Int) (w0 w : World) (hB : Below w0.heap.size w0 w) (T : Two w w0.heap.size p ok P (.slice A l.length c) l next) (hl : l.length ≤ most) :
    Calls Try.prog 13 #[.pointer (some ⟨p, 0, none⟩), .agg #[.slice A l.length c, .int .i64 next], .agg #[.int .i64 3, .int .u64 a1, .int .i64 a2]] w fun e w' => e = .returned (.tuple #[.agg #[.slice A l.length c, .int .i64 next], .bool true]) ∧ Two w' w0.heap.size p ok P (.slice A l.length c) l next ∧ Below w.heap.size w w' := by
  have hu42 := Try.underlying42
  obtain ⟨f0, f1, f2, f, htop, hheap⟩ := top_both p l next hl
  have HT := Aside0.mk T
  have HB := Aside0.mk hB
  have HP' := Aside0.mk htop
  have HH := Aside0.mk hheap
  clear T hB htop hheap
  go_enter Try.func13, Try.ntmps13
  go_wp2_with (first
    | ((with_reducible refine gate_dst (N := 4) rfl ?_); refine box_event ?hg (N := 4) ?hd (cs := #[.slice A l.length c, .int .i64 next]) (t := 42) ?hr ?_; (case hd => rfl); (case hg => rfl); (case hr => first | (go_simp; done) | (go_simp; rfl)); intro g4 hg4 w1 hbox hb; have HE4 := Aside0.mk (show w.heap.size ≤ g4 by omega); have HB1 := Aside0.mk hb; have B4 := Aside0.mk hbox; clear hb hbox hg4)
    | ((with_reducible refine gate_dst (N := 5) rfl ?_); refine box_event ?hg (N := 5) ?hd (cs := #[.int .i64 3, .int .u64 a1, .int .i64 a2]) (t := 46) ?hr ?_; (case hd => rfl); (case hg => rfl); (case hr => first | (go_simp; done) | (go_simp; rfl)); intro g5 hg5 w2 hbox hb; have HB2 := Aside0.mk (below_step HB1.out hb); have B42 := Aside0.mk (blk_below B4.out hb); have B5 := Aside0.mk hbox; clear hb hbox hg5 HB1 B4)
    | ((with_reducible refine gate_dst (N := 6) rfl ?_); refine box_event ?hg (N := 6) ?hd (cs := #[.slice none 0 0, .int .i64 0]) (t := 42) ?hr ?_; (case hd => rfl); (case hg => rfl); (case hr => first | (go_simp; done) | (go_simp; rfl)); intro g6 hg6 w3 hbox hb; have HE6 := Aside0.mk (show w.heap.size ≤ g6 from by have := HB2.out.size; omega); have HN64 := Aside0.mk (show g6 ≠ g4 from by have := blk_lt B42.out; omega); have HB3 := Aside0.mk (below_step HB2.out hb); have B43 := Aside0.mk (blk_below B42.out hb); have B53 := Aside0.mk (blk_below B5.out hb); have B63 := Aside0.mk hbox; have T3 := Aside0.mk (HT.out.below HB3.out); have s0 : w3.cell? ⟨g4, 0, none⟩ = some (.slice A l.length c) := (blk_cell B43.out 0).trans rfl; have s1 : w3.cell? ⟨g4, 1, none⟩ = some (.int .i64 next) := (blk_cell B43.out 1).trans rfl; have k0 : w3.cell? ⟨g5, 0, none⟩ = some (.int .i64 3) := (blk_cell B53.out 0).trans rfl; clear hb hbox hg6 HB2 B42 B5)
    | (go_at_call 30; (refine (rotaref05_Top.calls (l.length + 1) A c l next f0 f1 f2 f w3 (Kd.R_reads' T3.out.row).2.2 (Kd.R_reads' T3.out.row).2.1 HP'.out).mono ?_); rintro e w4 ⟨rfl, hb⟩; have HB4 := Aside0.mk (below_step HB3.out hb); have B44 := Aside0.mk (blk_below B43.out hb); have B64 := Aside0.mk (blk_below B63.out hb); have T4 := Aside0.mk (T3.out.below hb); clear hb s0 s1 k0 B43 B53 B63 HB3 T3)
    | ((with_reducible refine gate_dst (N := 23) rfl ?_); refine box_event ?hg (N := 23) ?hd (cs := #[.int .u64 0, .int .i64 0, .int .i64 0]) (t := 34) ?hr ?_; (case hd => rfl); (case hg => rfl); (case hr => first | (go_simp; done) | (go_simp; rfl)); intro g11 hg11 w6 hbox hb; have HE11 := Aside0.mk (show w4.heap.size ≤ g11 by omega); have HB6 := Aside0.mk (below_step HB4.out hb); have B46 := Aside0.mk (blk_below B44.out hb); have B66 := Aside0.mk (blk_below B64.out hb); have HL6 := Aside0.mk (blk_lt B64.out); have HL4 := Aside0.mk (blk_lt B44.out); have T6 := Aside0.mk (T4.out.below hb); have B116 := Aside0.mk hbox; clear hb hbox hg11 HB4 B44 B64)
    | ((with_reducible refine gate_store (t := 34) (p := 23) (v := .tmp 117) rfl ?_); refine step_store rfl rfl rfl B116.out rfl (u := .agg #[.int .u64 f0, .int .i64 f1, .int .i64 f2]) (seg := [.int .u64 f0, .int .i64 f1, .int .i64 f2]) rfl rfl (by kernel_rfl) (by simp [Value.oneCell']) (Nat.le_refl 3) (cur' := #[.int .u64 f0, .int .i64 f1, .int .i64 f2]) rfl ?_; intro w8 hb8 hg8 hs8; have HX := Aside0.mk (show w.heap.size ≤ g11 from by have := HE11.out; have := HL6.out; have := HE6.out; omega); have HB8 := Aside0.mk (below_mput HB6.out hg8 HX.out HB6.out.size); have B48 := Aside0.mk (blk_grown B46.out hg8 (by intro e; cases e; have := HE11.out; have := HL4.out; omega)); have B68 := Aside0.mk (blk_grown B66.out hg8 (by intro e; cases e; have := HE11.out; have := HL6.out; omega)); have B118 := Aside0.mk hb8; have T8 := Aside0.mk (T6.out.grown hg8 (fun q => by have := (T4.out.heap.bound _ q).2; have := HE11.out; omega) (fun q => by have := (T4.out.bound _ q).2; have := HE11.out; omega)); clear hb8 hg8 hs8 HB6 B46 B66 B116 T6)
    | (go_at_call 26; (refine (HH.out w8 w0.heap.size ok T8.out.heap).mono ?_); rintro e w9 ⟨rfl, hb⟩; have HB9 := Aside0.mk (below_step HB8.out hb); have B49 := Aside0.mk (blk_below B48.out hb); have B69 := Aside0.mk (blk_below B68.out hb); have B119 := Aside0.mk (blk_below B118.out hb); have T9 := Aside0.mk (T8.out.below hb); clear hb HB8 B48 B68 B118 T8)
    )
  have s0 : w9.cell? ⟨g4, 0, none⟩ = some (.slice A l.length c) := (blk_cell B49.out 0).trans rfl
  have s1 : w9.cell? ⟨g4, 1, none⟩ = some (.int .i64 next) := (blk_cell B49.out 1).trans rfl
  have x0 : w9.cell? ⟨g11, 0, none⟩ = some (.int .u64 f0) := (blk_cell B119.out 0).trans rfl
  have x1 : w9.cell? ⟨g11, 1, none⟩ = some (.int .i64 f1) := (blk_cell B119.out 1).trans rfl
  have x2 : w9.cell? ⟨g11, 2, none⟩ = some (.int .i64 f2) := (blk_cell B119.out 2).trans rfl
  have p0 : w9.cell? ⟨g6, 0, none⟩ = some (.slice none 0 0) := (blk_cell B69.out 0).trans rfl
  have p1 : w9.cell? ⟨g6, 1, none⟩ = some (.int .i64 0) := (blk_cell B69.out 1).trans rfl
  have z0 := blk_frozen B69.out 0
  have z1 := blk_frozen B69.out 1
  have hne := blk_ne B69.out B119.out (by decide)
  have hne' := hne.symm
  have hn2 : g6 ≠ g4 := HN64.out
  have hn2' := hn2.symm
  go_region
  go_wp2
  have q1 := set_step (cur' := #[.slice A l.length c, .int .i64 0]) B69.out 0 (.slice A l.length c) rfl
  have q2 := set_step (cur' := #[.slice A l.length c, .int .i64 next]) q1.1 1 (.int .i64 next) rfl
  refine bodyPost_ret (results_list (rs := [.cell 6 42, .tmp 7]) rfl (by simp) (.cell g6 42 #[.slice A l.length c, .int .i64 next] (0, 0) _ rfl q2.1 Try.underlying42 rfl (by kernel_rfl) (.tmp .nil))) rfl ?_
  have hn6 : ¬ P g6 := fun q => Nat.not_lt.2 HE6.out (HT.out.bound _ q).2
  have hm6 : ¬ ok g6 := fun q => Nat.not_lt.2 HE6.out (HT.out.heap.bound _ q).2
  exact ⟨rfl, ((T9.out.grown q1.2 hm6 hn6).grown q2.2 hm6 hn6).below (below_drew (Below.refl _ _)), below_drew (below_mput (below_mput HB9.out q1.2 HE6.out HB9.out.size) q2.2 HE6.out (Nat.le_trans HB9.out.size q1.2.size))⟩
end Go.Proofs.Ytedkacknopcceaa.QHeap

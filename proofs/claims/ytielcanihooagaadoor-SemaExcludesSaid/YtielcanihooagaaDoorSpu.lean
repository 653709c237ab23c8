/- A line's push and len. Conditions: each theorem's own. -/
import Derived.Test.YtielcanihooagaaDoorSww
import Derived.Deep.RegionLaw
set_option linter.unusedVariables false
set_option linter.unusedSimpArgs false
namespace Go.Proofs.YtielcanihooagaaDoor.PSemaExcludes
open Go.RowKit Go.Proofs.YtielcanihooagaaDoor.Ef Go.Proofs.YtielcanihooagaaDoor.Mp Go.Proofs.YtielcanihooagaaDoorW.PrintWords Go.Proofs.YtielcanihooagaaDoorW.PrintLast Go.Proofs.YtielcanihooagaaDoorW.PrintMore

theorem infoL : (Tryd.prog.info? 83).map (fun i => (i.zero, i.size, i.bytes)) = some (some (.agg #[.int .i64 0, .int .i64 0, .bool false]), 3, 24) := by kernel_rfl
theorem infoG : (Tryd.prog.info? 34).map (fun i => (i.zero, i.size, i.bytes)) = some (some (.agg #[.int .i64 0, .int .i64 0]), 2, 16) := by kernel_rfl
/-- The cell of a line in a block, and who stands in it. -/
structure Cel {α : Type} (d : Kd α) (e : Nat) (w : World) (base gb off T : Nat) (c : Array Value) (v : Value) (ok : Nat → Prop) (q : List α) : Prop where
  blk : w.heap[gb]? = some (.cells c T (0, 0))
  at_ : c[off]? = some v
  row : d.R e w base ok v q
  ne : ∀ k, ok k → k ≠ gb
  low : base ≤ gb
section
variable {α : Type} {d : Kd α} {e : Nat} {w W : World} {base gb off T : Nat} {c : Array Value} {v : Value} {ok : Nat → Prop} {q : List α}
theorem Cel.below (h : Cel d e w base gb off T c v ok q) (hb : Below w.heap.size w W) : Cel d e W base gb off T c v ok q := ⟨blk_below h.blk hb, h.at_, Kd.R_below h.row hb, h.ne, h.low⟩
theorem Cel.lt (h : Cel d e w base gb off T c v ok q) : off < c.size := by
  have := h.at_
  rw [Array.getElem?_eq_some_iff] at this
  exact this.1
end
set_option maxHeartbeats 4000000 in
set_option maxRecDepth 100000 in
theorem pushL_calls (base gb off T : Nat) (c : Array Value) (v : Value) (ok : Nat → Prop) (q : List S83) (x : S83) (w : World) (H : Cel k83 83 w base gb off T c v ok q) (hb : base ≤ w.heap.size) (hl : (q.length + 1) * 24 ≤ 140737488355328) :
    Calls Tryd.prog 31 #[.pointer (some ⟨gb, off, none⟩), .agg #[.int .i64 x.f0.f0, .int .i64 x.f0.f1, .bool x.f1]] w fun e w' => ∃ v', e = .returned (.tuple #[]) ∧ Cel k83 83 w' base gb off T (c.setIfInBounds off v') v' (fun k => (ok k ∨ w.heap.size ≤ k) ∧ k ≠ gb) (q ++ [x]) ∧ Fr base (fun k => k = gb ∨ (ok k ∧ base ≤ k)) w w' := by
  have HF := Aside0.mk (Fr.refl (S := fun k => k = gb ∨ (ok k ∧ base ≤ k)) (w := w) hb (fun k q => q.elim (fun e => e ▸ H.low) (fun q => q.2)))
  obtain ⟨A, cap, rfl⟩ := Kd.R_slice H.row
  have HH := Aside0.mk H
  have hsz := H.lt
  have hu := Tryd.underlying77
  clear H
  go_enter Tryd.func31, Tryd.ntmps31
  go_wp2_with ((with_reducible refine gate_dst (N := 3) rfl ?_); refine box_event ?hg (N := 3) ?hd (cs := #[.int .i64 x.f0.f0, .int .i64 x.f0.f1, .bool x.f1]) (t := 83) ?hr ?_; (case hd => rfl); (case hg => rfl); (case hr => first | (go_simp; done) | (go_simp; rfl)); intro g3 hg3 w1 hbox hb; have HH1 := Aside0.mk (HH.out.below hb); have HF1 := Aside0.mk (HF.out.below hb); have HG3 := Aside0.mk (show w.heap.size ≤ g3 by omega); have B3 := Aside0.mk hbox; clear hb hbox hg3)
  have p0 : w1.cell? ⟨gb, off, none⟩ = some (.slice A q.length cap) := (blk_cell HH1.out.blk off).trans HH1.out.at_
  have z0 : w1.frozen? ⟨gb, off, none⟩ = false := blk_frozen HH1.out.blk off
  have x0 : w1.cell? ⟨g3, 0, none⟩ = some (.int .i64 x.f0.f0) := (blk_cell B3.out 0).trans rfl
  have x1 : w1.cell? ⟨g3, 1, none⟩ = some (.int .i64 x.f0.f1) := (blk_cell B3.out 1).trans rfl
  have x2 : w1.cell? ⟨g3, 2, none⟩ = some (.bool x.f1) := (blk_cell B3.out 2).trans rfl
  have pa : (w1.alloc (.cells #[.int .i64 x.f0.f0, .int .i64 x.f0.f1, .bool x.f1] 83 (0, 0))).cell? ⟨gb, off, none⟩ = some (.slice A q.length cap) := ((below_alloc (Below.refl _ _) _).cell (p := ⟨gb, off, none⟩) (blk_lt HH1.out.blk)).trans p0
  go_region_law ((refine Kd.R_append_step k83 (w0 := w1.drew) (W := w1.drew) base rfl (.tmp 8) (.tmp 10) 75 83 (.agg #[.int .i64 0, .int .i64 0, .bool false]) 24 rfl Tryd.underlying75 infoL rfl (by decide) (by omega) (Value.slice A q.length cap) q x [.int .i64 x.f0.f0, .int .i64 x.f0.f1, .bool x.f1] (fun k => (ok k ∨ w1.heap.size ≤ k) ∧ k ≠ gb) (fun _ => False) rfl rfl (k83_mkM _ _ _ x) (fun _ h => h.elim) ?aF ?aO (Below.refl _ _) ?aS hl ?_); (case aF => exact fun k hk => ⟨.inr hk, by have := blk_lt HH1.out.blk; have : w1.heap.size ≤ k := hk; omega⟩); (case aO => exact Kd.R_mono (Kd.R_drew HH1.out.row) (fun k q => ⟨.inl q, HH1.out.ne k q⟩)); (case aS => exact Nat.le_trans hb HF1.out.size); intro v1 w5 hrow hb5 hg5 hat; obtain ⟨A1, c1, rfl⟩ := Kd.R_slice hrow; have HP5 := blk_grown (w := w1.drew) (show w1.drew.heap[gb]? = _ from HH1.out.blk) hg5 (fun e => HH1.out.ne gb (HH1.out.row.1 gb e.symm) rfl); have p5 : w5.cell? ⟨gb, off, none⟩ = some (.slice A q.length cap) := (blk_cell HP5 off).trans HH1.out.at_; have f5 : w5.frozen? ⟨gb, off, none⟩ = false := blk_frozen HP5 off)
  all_goals
    obtain ⟨hb6, hg6⟩ := set_step HP5 off (.slice A1 (q.length + 1) c1) (cur' := c.setIfInBounds off (.slice A1 (q.length + 1) c1)) rfl
    have hg5' : (w1.drew).grownBy w5 (Value.slice A q.length cap).ownBlock := hg5
    have HF5 := Aside0.mk ((HF1.out.drew.grownO hg5' (fun k hk => .inl (.inr ⟨HH1.out.row.1 k hk, Kd.R_base HH1.out.row k hk⟩))).grown hg6 (.inl (.inl rfl)))
    have h1 := Kd.R_grown hrow hg6 (fun k hk e => hk.2 (Option.some.inj e))
    rw [List.length_append] at h1
    have h2 := Kd.R_mono h1 (fun k q => (⟨q.1.imp id (Nat.le_trans HF1.out.size), q.2⟩ : (ok k ∨ w.heap.size ≤ k) ∧ k ≠ gb))
    refine bodyPost_end (results_none rfl _ _ _) rfl ?_
    exact ⟨_, rfl, ⟨hb6, by rw [set_at, if_pos rfl, if_pos hsz], h2, fun k q => q.2, HH.out.low⟩, HF5.out⟩
set_option maxRecDepth 100000 in
theorem lenL_calls (gb off : Nat) (A : Option Addr) (n c : Nat) (w : World) (h : w.cell? ⟨gb, off, none⟩ = some (.slice A n c)) : Calls Tryd.prog 28 #[.pointer (some ⟨gb, off, none⟩)] w fun e w' => e = .returned (.int .i64 (n : Int)) ∧ w = w' := by
  have hu := Tryd.underlying77
  go_enter Tryd.func28, Tryd.ntmps28
  go_wp2
  go_ret
  exact ⟨rfl, rfl⟩
set_option maxHeartbeats 4000000 in
set_option maxRecDepth 100000 in
theorem pushG_calls (base gb off T : Nat) (c : Array Value) (v : Value) (ok : Nat → Prop) (q : List S34) (x : S34) (w : World) (H : Cel k34 34 w base gb off T c v ok q) (hb : base ≤ w.heap.size) (hl : (q.length + 1) * 16 ≤ 140737488355328) :
    Calls Tryd.prog 23 #[.pointer (some ⟨gb, off, none⟩), .agg #[.int .i64 x.f0, .int .i64 x.f1]] w fun e w' => ∃ v', e = .returned (.tuple #[]) ∧ Cel k34 34 w' base gb off T (c.setIfInBounds off v') v' (fun k => (ok k ∨ w.heap.size ≤ k) ∧ k ≠ gb) (q ++ [x]) ∧ Fr base (fun k => k = gb ∨ (ok k ∧ base ≤ k)) w w' := by
  have HF := Aside0.mk (Fr.refl (S := fun k => k = gb ∨ (ok k ∧ base ≤ k)) (w := w) hb (fun k q => q.elim (fun e => e ▸ H.low) (fun q => q.2)))
  obtain ⟨A, cap, rfl⟩ := Kd.R_slice H.row
  have HH := Aside0.mk H
  have hsz := H.lt
  have hu := Tryd.underlying67
  clear H
  go_enter Tryd.func23, Tryd.ntmps23
  go_wp2_with ((with_reducible refine gate_dst (N := 3) rfl ?_); refine box_event ?hg (N := 3) ?hd (cs := #[.int .i64 x.f0, .int .i64 x.f1]) (t := 34) ?hr ?_; (case hd => rfl); (case hg => rfl); (case hr => first | (go_simp; done) | (go_simp; rfl)); intro g3 hg3 w1 hbox hb; have HH1 := Aside0.mk (HH.out.below hb); have HF1 := Aside0.mk (HF.out.below hb); have HG3 := Aside0.mk (show w.heap.size ≤ g3 by omega); have B3 := Aside0.mk hbox; clear hb hbox hg3)
  have p0 : w1.cell? ⟨gb, off, none⟩ = some (.slice A q.length cap) := (blk_cell HH1.out.blk off).trans HH1.out.at_
  have z0 : w1.frozen? ⟨gb, off, none⟩ = false := blk_frozen HH1.out.blk off
  have x0 : w1.cell? ⟨g3, 0, none⟩ = some (.int .i64 x.f0) := (blk_cell B3.out 0).trans rfl
  have x1 : w1.cell? ⟨g3, 1, none⟩ = some (.int .i64 x.f1) := (blk_cell B3.out 1).trans rfl
  have pa : (w1.alloc (.cells #[.int .i64 x.f0, .int .i64 x.f1] 34 (0, 0))).cell? ⟨gb, off, none⟩ = some (.slice A q.length cap) := ((below_alloc (Below.refl _ _) _).cell (p := ⟨gb, off, none⟩) (blk_lt HH1.out.blk)).trans p0
  go_region_law ((refine Kd.R_append_step k34 (w0 := w1.drew) (W := w1.drew) base rfl (.tmp 8) (.tmp 10) 27 34 (.agg #[.int .i64 0, .int .i64 0]) 16 rfl Tryd.underlying27 infoG rfl (by decide) (by omega) (Value.slice A q.length cap) q x [.int .i64 x.f0, .int .i64 x.f1] (fun k => (ok k ∨ w1.heap.size ≤ k) ∧ k ≠ gb) (fun _ => False) rfl rfl (k34_mkM _ _ _ x) (fun _ h => h.elim) ?aF ?aO (Below.refl _ _) ?aS hl ?_); (case aF => exact fun k hk => ⟨.inr hk, by have := blk_lt HH1.out.blk; have : w1.heap.size ≤ k := hk; omega⟩); (case aO => exact Kd.R_mono (Kd.R_drew HH1.out.row) (fun k q => ⟨.inl q, HH1.out.ne k q⟩)); (case aS => exact Nat.le_trans hb HF1.out.size); intro v1 w5 hrow hb5 hg5 hat; obtain ⟨A1, c1, rfl⟩ := Kd.R_slice hrow; have HP5 := blk_grown (w := w1.drew) (show w1.drew.heap[gb]? = _ from HH1.out.blk) hg5 (fun e => HH1.out.ne gb (HH1.out.row.1 gb e.symm) rfl); have p5 : w5.cell? ⟨gb, off, none⟩ = some (.slice A q.length cap) := (blk_cell HP5 off).trans HH1.out.at_; have f5 : w5.frozen? ⟨gb, off, none⟩ = false := blk_frozen HP5 off)
  all_goals
    obtain ⟨hb6, hg6⟩ := set_step HP5 off (.slice A1 (q.length + 1) c1) (cur' := c.setIfInBounds off (.slice A1 (q.length + 1) c1)) rfl
    have hg5' : (w1.drew).grownBy w5 (Value.slice A q.length cap).ownBlock := hg5
    have HF5 := Aside0.mk ((HF1.out.drew.grownO hg5' (fun k hk => .inl (.inr ⟨HH1.out.row.1 k hk, Kd.R_base HH1.out.row k hk⟩))).grown hg6 (.inl (.inl rfl)))
    have h1 := Kd.R_grown hrow hg6 (fun k hk e => hk.2 (Option.some.inj e))
    rw [List.length_append] at h1
    have h2 := Kd.R_mono h1 (fun k q => (⟨q.1.imp id (Nat.le_trans HF1.out.size), q.2⟩ : (ok k ∨ w.heap.size ≤ k) ∧ k ≠ gb))
    refine bodyPost_end (results_none rfl _ _ _) rfl ?_
    exact ⟨_, rfl, ⟨hb6, by rw [set_at, if_pos rfl, if_pos hsz], h2, fun k q => q.2, HH.out.low⟩, HF5.out⟩
set_option maxRecDepth 100000 in
theorem lenG_calls (gb off : Nat) (A : Option Addr) (n c : Nat) (w : World) (h : w.cell? ⟨gb, off, none⟩ = some (.slice A n c)) : Calls Tryd.prog 25 #[.pointer (some ⟨gb, off, none⟩)] w fun e w' => e = .returned (.int .i64 (n : Int)) ∧ w = w' := by
  have hu := Tryd.underlying67
  go_enter Tryd.func25, Tryd.ntmps25
  go_wp2
  go_ret
  exact ⟨rfl, rfl⟩
end Go.Proofs.YtielcanihooagaaDoor.PSemaExcludes

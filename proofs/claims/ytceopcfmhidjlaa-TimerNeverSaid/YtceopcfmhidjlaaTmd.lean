/- rotalaw14.made: timers behind a script. Conditions: each theorem's own. -/
import Derived.Test.YtceopcfmhidjlaaTny
set_option linter.unusedVariables false
set_option linter.unusedSimpArgs false
namespace Go.Proofs.Ytceopcfmhidjlaa.PTimerPlays
open Go.RowKit Go.Proofs.Ytceopcfmhidjlaa.Ef Go.Proofs.Ytceopcfmhidjlaa.Mp Go.Proofs.Ytceopcfmhidjlaa.Hp Go.Proofs.YtceopcfmhidjlaaW.PrintWords Go.Proofs.YtceopcfmhidjlaaW.PrintLast Go.Proofs.YtceopcfmhidjlaaW.PrintMore

theorem due_any (base p : Nat) (ok : Nat → Prop) (S : TS) (now : Int) (w : World) (H : TP w base p ok S) (hR : Rng S) (hn : S.next + 1024 ≤ 1000000000000000000) (hu : u64 now) :
    Calls Try.prog 16 #[.pointer (some ⟨p, 0, none⟩), .int .u64 now] w fun e w' => ∃ l S', DueTo now S l S' ∧ Left base p ok S' w e w' := by
  refine (due_calls base p ok S now w H hR hn hu.1 hu.2).mono ?_
  rintro e w' ⟨ok', okL, v, l, S1, he, h1, h2, h3, h4, h5, h6, h7⟩
  exact ⟨l, _, ⟨S1, h1, h2, rfl⟩, ok', v, he, h3, h6, h7⟩
set_option maxHeartbeats 8000000 in
set_option maxRecDepth 100000 in
theorem made_calls (A0 : Option Addr) (c0 : Nat) (ops : List OpT) (w : World) (hr0 : Kd.C k52 w A0 ops.length ops) (hlen : ops.length ≤ 3000000000000) (hop : ∀ o ∈ ops, u64 o.f3 ∧ u64 o.f4) :
    Calls Try.prog 15 #[.slice A0 ops.length c0] w fun e w' => ∃ (p : Nat) (ok : Nat → Prop) (S : TS), e = .returned (.pointer (some ⟨p, 0, none⟩)) ∧ TP w' w.heap.size p ok S ∧ Runs ops S ∧ Bnd S ops.length ∧ Below w.heap.size w w' := by
  have hu33 := Try.underlying33
  have HR0 := Aside0.mk hr0
  have HOp := Aside0.mk hop
  clear hr0 hop
  go_enter Try.func15, Try.ntmps15
  go_wp2_with (go_at_call 10; (refine (new_tp _).mono ?_); rintro e w1 ⟨p, ok, rfl, hT, hb⟩; have HT := Aside0.mk hT; have HB := Aside0.mk hb; clear hT hb)
  go_loopw [4, 5] (fun v4 _ wr => ∃ (i : Nat) (oki : Nat → Prop) (S : TS), v4 = .int .i64 (i : Int) ∧ Aside0 (i ≤ ops.length) ∧ Aside0 (Runs (ops.take i) S ∧ Bnd S i) ∧ Aside0 (TP wr w.heap.size p oki S) ∧ Aside0 (Below w.heap.size w wr)) (fun v4 _ _ => ops.length + 1 - (intOf v4).toNat)
  case atStart => exact ⟨0, ok, TS.nil, rfl, ⟨Nat.zero_le _⟩, ⟨.nil, Bnd.nil⟩, HT, HB⟩
  case round =>
    clear HT HB
    obtain ⟨i, oki, S, rfl, HI, HRB, HTi, HBr⟩ := hrel
    by_cases hlt : (i : Int) < (ops.length : Int)
    · have hin : i < ops.length := by omega
      have hin0 : (0 : Int) ≤ (i : Int) := by omega
      have hin1 : i ≤ 3000000000000 := by omega
      have HL : Aside0 (S.last < 9223372036854775807) := ⟨by have := HRB.out.2.last; omega⟩
      have HN : Aside0 (S.next ≤ 1000000000000000000) := ⟨by have := HRB.out.2.next; omega⟩
      have HN2 : Aside0 (S.next + 1024 ≤ 1000000000000000000) := ⟨by have := HRB.out.2.next; omega⟩
      obtain ⟨ad, rfl, hx0, hx1, hx2, hx3, hx4, hx5⟩ := at_op HR0.out i hin
      obtain ⟨o, ho⟩ : ∃ o, ops[i] = o := ⟨_, rfl⟩
      have eo : on ops i = o := by unfold on; rw [List.getElem?_eq_getElem hin, ← ho]; rfl
      have HU := Aside0.mk (HOp.out o (by rw [← ho]; exact List.getElem_mem hin))
      rw [eo] at hx0 hx1 hx2 hx3 hx4 hx5
      replace hx0 := (HBr.out.cell (World.block_lt_of_cell? w _ hx0)).trans hx0
      replace hx1 := (HBr.out.cell (World.block_lt_of_cell? w _ hx1)).trans hx1
      replace hx2 := (HBr.out.cell (World.block_lt_of_cell? w _ hx2)).trans hx2
      replace hx3 := (HBr.out.cell (World.block_lt_of_cell? w _ hx3)).trans hx3
      replace hx4 := (HBr.out.cell (World.block_lt_of_cell? w _ hx4)).trans hx4
      replace hx5 := (HBr.out.cell (World.block_lt_of_cell? w _ hx5)).trans hx5
      have HO := Aside0.mk ho.symm
      clear ho eo
      obtain ⟨d, ⟨s, g⟩, ch, nw, t⟩ := o
      simp only at hx0 hx1 hx2 hx3 hx4 hx5
      by_cases h0 : d = 0
      · subst h0
        go_wp2_with (first
          | ((with_reducible refine gate_dst (N := 5) rfl ?_); refine box_event ?hg (N := 5) ?hd (cs := #[.int .i64 0, .int .i64 0, .int .i64 0, .int .i64 0, .int .u64 0, .int .u64 0]) (t := 52) ?hr ?_; (case hd => rfl); (case hg => rfl); (case hr => first | (go_simp; done) | (go_simp; rfl)); intro g5 hg5 w3 hbox hb; have HT3 := Aside0.mk (HTi.out.below hb); have HB3 := Aside0.mk (HBr.out.trans (below_up hb HBr.out.size)); have B3 := Aside0.mk hbox; have HG5 := Aside0.mk (show wr.heap.size ≤ g5 by omega); clear hb hbox hg5 hx0 hx1 hx2 hx3 hx4 hx5)
          | ((with_reducible refine gate_store (t := 52) (p := 5) (v := .tmp 20) rfl ?_); refine step_store rfl rfl rfl B3.out rfl (u := .agg #[.int .i64 0, .int .i64 s, .int .i64 g, .int .i64 ch, .int .u64 nw, .int .u64 t]) (seg := [.int .i64 0, .int .i64 s, .int .i64 g, .int .i64 ch, .int .u64 nw, .int .u64 t]) rfl rfl (by kernel_rfl) (by simp [Value.oneCell']) (Nat.le_refl 6) (cur' := #[.int .i64 0, .int .i64 s, .int .i64 g, .int .i64 ch, .int .u64 nw, .int .u64 t]) rfl ?_; intro w4 hb4 hg4 hs4; have HT4 := Aside0.mk (HT3.out.grown hg4 (HTi.out.new HG5.out)); have HB4 := Aside0.mk (below_mput HB3.out hg4 (Nat.le_trans HBr.out.size HG5.out) HB3.out.size); have B4 := Aside0.mk hb4; clear hb4 hg4 hs4 HT3 HB3 B3; have z0 : w4.cell? ⟨g5, 0, none⟩ = some (.int .i64 0) := (blk_cell B4.out 0).trans rfl; have z1 : w4.cell? ⟨g5, 1, none⟩ = some (.int .i64 s) := (blk_cell B4.out 1).trans rfl; have z2 : w4.cell? ⟨g5, 2, none⟩ = some (.int .i64 g) := (blk_cell B4.out 2).trans rfl; have z3 : w4.cell? ⟨g5, 3, none⟩ = some (.int .i64 ch) := (blk_cell B4.out 3).trans rfl; have z4 : w4.cell? ⟨g5, 4, none⟩ = some (.int .u64 nw) := (blk_cell B4.out 4).trans rfl; have z5 : w4.cell? ⟨g5, 5, none⟩ = some (.int .u64 t) := (blk_cell B4.out 5).trans rfl)
          | (go_at_call 13; (refine (sleep_any w.heap.size p oki S _ HT4.out s g nw t HL.out HN.out HU.out.1 HU.out.2).mono ?_); rintro e w5 ⟨ok5, v5, rfl, h1, h2, h3⟩; have HT5 := Aside0.mk h1; have HB5 := Aside0.mk (HB4.out.trans h3.b); clear h1 h2 h3 HT4 HB4 B4 z0 z1 z2 z3 z4 z5))
        go_roundw
        case rel => exact ⟨i + 1, ok5, _, by go_num, ⟨by omega⟩, ⟨by rw [List.take_succ_eq_append_getElem hin, ← HO.out]; exact .snoc HRB.out.1 HTi.out.fine HTi.out.once (.inl ⟨rfl, rfl⟩), HRB.out.2.step HTi.out.fine HU.out.1 HU.out.2 (.inl ⟨rfl, rfl⟩)⟩, HT5, HB5⟩
        case measure => simp [intOf]; omega
      by_cases h1 : d = 1
      · subst h1
        go_wp2_with (first
          | ((with_reducible refine gate_dst (N := 5) rfl ?_); refine box_event ?hg (N := 5) ?hd (cs := #[.int .i64 0, .int .i64 0, .int .i64 0, .int .i64 0, .int .u64 0, .int .u64 0]) (t := 52) ?hr ?_; (case hd => rfl); (case hg => rfl); (case hr => first | (go_simp; done) | (go_simp; rfl)); intro g5 hg5 w3 hbox hb; have HT3 := Aside0.mk (HTi.out.below hb); have HB3 := Aside0.mk (HBr.out.trans (below_up hb HBr.out.size)); have B3 := Aside0.mk hbox; have HG5 := Aside0.mk (show wr.heap.size ≤ g5 by omega); clear hb hbox hg5 hx0 hx1 hx2 hx3 hx4 hx5)
          | ((with_reducible refine gate_store (t := 52) (p := 5) (v := .tmp 20) rfl ?_); refine step_store rfl rfl rfl B3.out rfl (u := .agg #[.int .i64 1, .int .i64 s, .int .i64 g, .int .i64 ch, .int .u64 nw, .int .u64 t]) (seg := [.int .i64 1, .int .i64 s, .int .i64 g, .int .i64 ch, .int .u64 nw, .int .u64 t]) rfl rfl (by kernel_rfl) (by simp [Value.oneCell']) (Nat.le_refl 6) (cur' := #[.int .i64 1, .int .i64 s, .int .i64 g, .int .i64 ch, .int .u64 nw, .int .u64 t]) rfl ?_; intro w4 hb4 hg4 hs4; have HT4 := Aside0.mk (HT3.out.grown hg4 (HTi.out.new HG5.out)); have HB4 := Aside0.mk (below_mput HB3.out hg4 (Nat.le_trans HBr.out.size HG5.out) HB3.out.size); have B4 := Aside0.mk hb4; clear hb4 hg4 hs4 HT3 HB3 B3; have z0 : w4.cell? ⟨g5, 0, none⟩ = some (.int .i64 1) := (blk_cell B4.out 0).trans rfl; have z1 : w4.cell? ⟨g5, 1, none⟩ = some (.int .i64 s) := (blk_cell B4.out 1).trans rfl; have z2 : w4.cell? ⟨g5, 2, none⟩ = some (.int .i64 g) := (blk_cell B4.out 2).trans rfl; have z3 : w4.cell? ⟨g5, 3, none⟩ = some (.int .i64 ch) := (blk_cell B4.out 3).trans rfl; have z4 : w4.cell? ⟨g5, 4, none⟩ = some (.int .u64 nw) := (blk_cell B4.out 4).trans rfl; have z5 : w4.cell? ⟨g5, 5, none⟩ = some (.int .u64 t) := (blk_cell B4.out 5).trans rfl)
          | (go_at_call 11; (refine (after_any w.heap.size p oki S _ HT4.out ch nw t HL.out HN.out HU.out.1 HU.out.2).mono ?_); rintro e w5 ⟨ok5, v5, rfl, h1, h2, h3⟩; have HT5 := Aside0.mk h1; have HB5 := Aside0.mk (HB4.out.trans h3.b); clear h1 h2 h3 HT4 HB4 B4 z0 z1 z2 z3 z4 z5))
        go_roundw
        case rel => exact ⟨i + 1, ok5, _, by go_num, ⟨by omega⟩, ⟨by rw [List.take_succ_eq_append_getElem hin, ← HO.out]; exact .snoc HRB.out.1 HTi.out.fine HTi.out.once (.inr (.inl ⟨rfl, rfl⟩)), HRB.out.2.step HTi.out.fine HU.out.1 HU.out.2 (.inr (.inl ⟨rfl, rfl⟩))⟩, HT5, HB5⟩
        case measure => simp [intOf]; omega
      by_cases h2 : d = 2
      · subst h2
        go_wp2_with (first
          | ((with_reducible refine gate_dst (N := 5) rfl ?_); refine box_event ?hg (N := 5) ?hd (cs := #[.int .i64 0, .int .i64 0, .int .i64 0, .int .i64 0, .int .u64 0, .int .u64 0]) (t := 52) ?hr ?_; (case hd => rfl); (case hg => rfl); (case hr => first | (go_simp; done) | (go_simp; rfl)); intro g5 hg5 w3 hbox hb; have HT3 := Aside0.mk (HTi.out.below hb); have HB3 := Aside0.mk (HBr.out.trans (below_up hb HBr.out.size)); have B3 := Aside0.mk hbox; have HG5 := Aside0.mk (show wr.heap.size ≤ g5 by omega); clear hb hbox hg5 hx0 hx1 hx2 hx3 hx4 hx5)
          | ((with_reducible refine gate_store (t := 52) (p := 5) (v := .tmp 20) rfl ?_); refine step_store rfl rfl rfl B3.out rfl (u := .agg #[.int .i64 2, .int .i64 s, .int .i64 g, .int .i64 ch, .int .u64 nw, .int .u64 t]) (seg := [.int .i64 2, .int .i64 s, .int .i64 g, .int .i64 ch, .int .u64 nw, .int .u64 t]) rfl rfl (by kernel_rfl) (by simp [Value.oneCell']) (Nat.le_refl 6) (cur' := #[.int .i64 2, .int .i64 s, .int .i64 g, .int .i64 ch, .int .u64 nw, .int .u64 t]) rfl ?_; intro w4 hb4 hg4 hs4; have HT4 := Aside0.mk (HT3.out.grown hg4 (HTi.out.new HG5.out)); have HB4 := Aside0.mk (below_mput HB3.out hg4 (Nat.le_trans HBr.out.size HG5.out) HB3.out.size); have B4 := Aside0.mk hb4; clear hb4 hg4 hs4 HT3 HB3 B3; have z0 : w4.cell? ⟨g5, 0, none⟩ = some (.int .i64 2) := (blk_cell B4.out 0).trans rfl; have z1 : w4.cell? ⟨g5, 1, none⟩ = some (.int .i64 s) := (blk_cell B4.out 1).trans rfl; have z2 : w4.cell? ⟨g5, 2, none⟩ = some (.int .i64 g) := (blk_cell B4.out 2).trans rfl; have z3 : w4.cell? ⟨g5, 3, none⟩ = some (.int .i64 ch) := (blk_cell B4.out 3).trans rfl; have z4 : w4.cell? ⟨g5, 4, none⟩ = some (.int .u64 nw) := (blk_cell B4.out 4).trans rfl; have z5 : w4.cell? ⟨g5, 5, none⟩ = some (.int .u64 t) := (blk_cell B4.out 5).trans rfl)
          | (go_at_call 12; (refine (every_any w.heap.size p oki S _ HT4.out ch nw t HL.out HN.out HU.out.1 HU.out.2).mono ?_); rintro e w5 ⟨ok5, v5, rfl, h1, h2, h3⟩; have HT5 := Aside0.mk h1; have HB5 := Aside0.mk (HB4.out.trans h3.b); clear h1 h2 h3 HT4 HB4 B4 z0 z1 z2 z3 z4 z5))
        go_roundw
        case rel => exact ⟨i + 1, ok5, _, by go_num, ⟨by omega⟩, ⟨by rw [List.take_succ_eq_append_getElem hin, ← HO.out]; exact .snoc HRB.out.1 HTi.out.fine HTi.out.once (.inr (.inr (.inl ⟨rfl, rfl⟩))), HRB.out.2.step HTi.out.fine HU.out.1 HU.out.2 (.inr (.inr (.inl ⟨rfl, rfl⟩)))⟩, HT5, HB5⟩
        case measure => simp [intOf]; omega
      by_cases h3 : d = 3
      · subst h3
        go_wp2_with (first
          | ((with_reducible refine gate_dst (N := 5) rfl ?_); refine box_event ?hg (N := 5) ?hd (cs := #[.int .i64 0, .int .i64 0, .int .i64 0, .int .i64 0, .int .u64 0, .int .u64 0]) (t := 52) ?hr ?_; (case hd => rfl); (case hg => rfl); (case hr => first | (go_simp; done) | (go_simp; rfl)); intro g5 hg5 w3 hbox hb; have HT3 := Aside0.mk (HTi.out.below hb); have HB3 := Aside0.mk (HBr.out.trans (below_up hb HBr.out.size)); have B3 := Aside0.mk hbox; have HG5 := Aside0.mk (show wr.heap.size ≤ g5 by omega); clear hb hbox hg5 hx0 hx1 hx2 hx3 hx4 hx5)
          | ((with_reducible refine gate_store (t := 52) (p := 5) (v := .tmp 20) rfl ?_); refine step_store rfl rfl rfl B3.out rfl (u := .agg #[.int .i64 3, .int .i64 s, .int .i64 g, .int .i64 ch, .int .u64 nw, .int .u64 t]) (seg := [.int .i64 3, .int .i64 s, .int .i64 g, .int .i64 ch, .int .u64 nw, .int .u64 t]) rfl rfl (by kernel_rfl) (by simp [Value.oneCell']) (Nat.le_refl 6) (cur' := #[.int .i64 3, .int .i64 s, .int .i64 g, .int .i64 ch, .int .u64 nw, .int .u64 t]) rfl ?_; intro w4 hb4 hg4 hs4; have HT4 := Aside0.mk (HT3.out.grown hg4 (HTi.out.new HG5.out)); have HB4 := Aside0.mk (below_mput HB3.out hg4 (Nat.le_trans HBr.out.size HG5.out) HB3.out.size); have B4 := Aside0.mk hb4; clear hb4 hg4 hs4 HT3 HB3 B3; have z0 : w4.cell? ⟨g5, 0, none⟩ = some (.int .i64 3) := (blk_cell B4.out 0).trans rfl; have z1 : w4.cell? ⟨g5, 1, none⟩ = some (.int .i64 s) := (blk_cell B4.out 1).trans rfl; have z2 : w4.cell? ⟨g5, 2, none⟩ = some (.int .i64 g) := (blk_cell B4.out 2).trans rfl; have z3 : w4.cell? ⟨g5, 3, none⟩ = some (.int .i64 ch) := (blk_cell B4.out 3).trans rfl; have z4 : w4.cell? ⟨g5, 4, none⟩ = some (.int .u64 nw) := (blk_cell B4.out 4).trans rfl; have z5 : w4.cell? ⟨g5, 5, none⟩ = some (.int .u64 t) := (blk_cell B4.out 5).trans rfl)
          | (go_at_call 14; (refine (stop_any w.heap.size p oki S _ HT4.out ch).mono ?_); rintro e w5 ⟨ok5, v5, rfl, h1, h2, h3⟩; have HT5 := Aside0.mk h1; have HB5 := Aside0.mk (HB4.out.trans h3.b); clear h1 h2 h3 HT4 HB4 B4 z0 z1 z2 z3 z4 z5))
        go_roundw
        case rel => exact ⟨i + 1, ok5, _, by go_num, ⟨by omega⟩, ⟨by rw [List.take_succ_eq_append_getElem hin, ← HO.out]; exact .snoc HRB.out.1 HTi.out.fine HTi.out.once (.inr (.inr (.inr (.inl ⟨rfl, rfl⟩)))), HRB.out.2.step HTi.out.fine HU.out.1 HU.out.2 (.inr (.inr (.inr (.inl ⟨rfl, rfl⟩))))⟩, HT5, HB5⟩
        case measure => simp [intOf]; omega
      by_cases h4 : d = 4
      · subst h4
        go_wp2_with (first
          | ((with_reducible refine gate_dst (N := 5) rfl ?_); refine box_event ?hg (N := 5) ?hd (cs := #[.int .i64 0, .int .i64 0, .int .i64 0, .int .i64 0, .int .u64 0, .int .u64 0]) (t := 52) ?hr ?_; (case hd => rfl); (case hg => rfl); (case hr => first | (go_simp; done) | (go_simp; rfl)); intro g5 hg5 w3 hbox hb; have HT3 := Aside0.mk (HTi.out.below hb); have HB3 := Aside0.mk (HBr.out.trans (below_up hb HBr.out.size)); have B3 := Aside0.mk hbox; have HG5 := Aside0.mk (show wr.heap.size ≤ g5 by omega); clear hb hbox hg5 hx0 hx1 hx2 hx3 hx4 hx5)
          | ((with_reducible refine gate_store (t := 52) (p := 5) (v := .tmp 20) rfl ?_); refine step_store rfl rfl rfl B3.out rfl (u := .agg #[.int .i64 4, .int .i64 s, .int .i64 g, .int .i64 ch, .int .u64 nw, .int .u64 t]) (seg := [.int .i64 4, .int .i64 s, .int .i64 g, .int .i64 ch, .int .u64 nw, .int .u64 t]) rfl rfl (by kernel_rfl) (by simp [Value.oneCell']) (Nat.le_refl 6) (cur' := #[.int .i64 4, .int .i64 s, .int .i64 g, .int .i64 ch, .int .u64 nw, .int .u64 t]) rfl ?_; intro w4 hb4 hg4 hs4; have HT4 := Aside0.mk (HT3.out.grown hg4 (HTi.out.new HG5.out)); have HB4 := Aside0.mk (below_mput HB3.out hg4 (Nat.le_trans HBr.out.size HG5.out) HB3.out.size); have B4 := Aside0.mk hb4; clear hb4 hg4 hs4 HT3 HB3 B3; have z0 : w4.cell? ⟨g5, 0, none⟩ = some (.int .i64 4) := (blk_cell B4.out 0).trans rfl; have z1 : w4.cell? ⟨g5, 1, none⟩ = some (.int .i64 s) := (blk_cell B4.out 1).trans rfl; have z2 : w4.cell? ⟨g5, 2, none⟩ = some (.int .i64 g) := (blk_cell B4.out 2).trans rfl; have z3 : w4.cell? ⟨g5, 3, none⟩ = some (.int .i64 ch) := (blk_cell B4.out 3).trans rfl; have z4 : w4.cell? ⟨g5, 4, none⟩ = some (.int .u64 nw) := (blk_cell B4.out 4).trans rfl; have z5 : w4.cell? ⟨g5, 5, none⟩ = some (.int .u64 t) := (blk_cell B4.out 5).trans rfl)
          | (go_at_call 16; (refine (due_any w.heap.size p oki S nw _ HT4.out HRB.out.2.rng HN2.out HU.out.1).mono ?_); rintro e w5 ⟨l5, S5, hd5, ok5, v5, rfl, h1, h2, h3⟩; have HD5 := Aside0.mk hd5; have HT5 := Aside0.mk h1; have HB5 := Aside0.mk (HB4.out.trans h3.b); clear hd5 h1 h2 h3 HT4 HB4 B4 z0 z1 z2 z3 z4 z5))
        go_roundw
        case rel => exact ⟨i + 1, ok5, _, by go_num, ⟨by omega⟩, ⟨by rw [List.take_succ_eq_append_getElem hin, ← HO.out]; exact .snoc HRB.out.1 HTi.out.fine HTi.out.once (show Does S ⟨4, ⟨s, g⟩, ch, nw, t⟩ S5 from .inr (.inr (.inr (.inr (.inl ⟨rfl, l5, HD5.out⟩))))), HRB.out.2.step HTi.out.fine HU.out.1 HU.out.2 (show Does S ⟨4, ⟨s, g⟩, ch, nw, t⟩ S5 from .inr (.inr (.inr (.inr (.inl ⟨rfl, l5, HD5.out⟩)))))⟩, HT5, HB5⟩
        case measure => simp [intOf]; omega
      have h0' : (d == 0) = false := by simpa using h0
      have h1' : (d == 1) = false := by simpa using h1
      have h2' : (d == 2) = false := by simpa using h2
      have h3' : (d == 3) = false := by simpa using h3
      have h4' : (d == 4) = false := by simpa using h4
      go_wp2_with (first
        | ((with_reducible refine gate_dst (N := 5) rfl ?_); refine box_event ?hg (N := 5) ?hd (cs := #[.int .i64 0, .int .i64 0, .int .i64 0, .int .i64 0, .int .u64 0, .int .u64 0]) (t := 52) ?hr ?_; (case hd => rfl); (case hg => rfl); (case hr => first | (go_simp; done) | (go_simp; rfl)); intro g5 hg5 w3 hbox hb; have HT3 := Aside0.mk (HTi.out.below hb); have HB3 := Aside0.mk (HBr.out.trans (below_up hb HBr.out.size)); have B3 := Aside0.mk hbox; have HG5 := Aside0.mk (show wr.heap.size ≤ g5 by omega); clear hb hbox hg5 hx0 hx1 hx2 hx3 hx4 hx5)
        | ((with_reducible refine gate_store (t := 52) (p := 5) (v := .tmp 20) rfl ?_); refine step_store rfl rfl rfl B3.out rfl (u := .agg #[.int .i64 d, .int .i64 s, .int .i64 g, .int .i64 ch, .int .u64 nw, .int .u64 t]) (seg := [.int .i64 d, .int .i64 s, .int .i64 g, .int .i64 ch, .int .u64 nw, .int .u64 t]) rfl rfl (by kernel_rfl) (by simp [Value.oneCell']) (Nat.le_refl 6) (cur' := #[.int .i64 d, .int .i64 s, .int .i64 g, .int .i64 ch, .int .u64 nw, .int .u64 t]) rfl ?_; intro w4 hb4 hg4 hs4; have HT4 := Aside0.mk (HT3.out.grown hg4 (HTi.out.new HG5.out)); have HB4 := Aside0.mk (below_mput HB3.out hg4 (Nat.le_trans HBr.out.size HG5.out) HB3.out.size); have B4 := Aside0.mk hb4; clear hb4 hg4 hs4 HT3 HB3 B3; have z0 : w4.cell? ⟨g5, 0, none⟩ = some (.int .i64 d) := (blk_cell B4.out 0).trans rfl; have z1 : w4.cell? ⟨g5, 1, none⟩ = some (.int .i64 s) := (blk_cell B4.out 1).trans rfl; have z2 : w4.cell? ⟨g5, 2, none⟩ = some (.int .i64 g) := (blk_cell B4.out 2).trans rfl; have z3 : w4.cell? ⟨g5, 3, none⟩ = some (.int .i64 ch) := (blk_cell B4.out 3).trans rfl; have z4 : w4.cell? ⟨g5, 4, none⟩ = some (.int .u64 nw) := (blk_cell B4.out 4).trans rfl; have z5 : w4.cell? ⟨g5, 5, none⟩ = some (.int .u64 t) := (blk_cell B4.out 5).trans rfl))
      go_roundw
      case rel => exact ⟨i + 1, oki, S, by go_num, ⟨by omega⟩, ⟨by rw [List.take_succ_eq_append_getElem hin, ← HO.out]; exact .snoc HRB.out.1 HTi.out.fine HTi.out.once (.inr (.inr (.inr (.inr (.inr ⟨⟨h0, h1, h2, h3, h4⟩, rfl⟩))))), HRB.out.2.more⟩, HT4, HB4⟩
      case measure => simp [intOf]; omega
    · have hi : i = ops.length := by have := HI.out; omega
      have HRe : Aside0 (Runs ops S) := ⟨by have h := HRB.out.1; rw [hi, List.take_length] at h; exact h⟩
      have HBe : Aside0 (Bnd S ops.length) := ⟨by have h := HRB.out.2; rw [hi] at h; exact h⟩
      go_wp2
      go_ret
      first | exact ⟨p, oki, S, rfl, HTi.out, HRe.out, HBe.out, HBr.out⟩ | exact ⟨p, rfl, oki, S, HTi.out, HRe.out, HBe.out, HBr.out⟩ | exact ⟨p, rfl, oki, ⟨S, HTi.out, HRe.out, HBe.out⟩, HBr.out⟩ | exact ⟨p, rfl, ⟨oki, S, HTi.out, HRe.out, HBe.out⟩, HBr.out⟩
end Go.Proofs.Ytceopcfmhidjlaa.PTimerPlays

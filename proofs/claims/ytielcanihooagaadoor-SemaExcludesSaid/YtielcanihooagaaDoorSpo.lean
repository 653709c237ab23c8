/- slices.Delete of the first one, and a line's pop. Conditions: each theorem's own. -/
import Derived.Test.YtielcanihooagaaDoorSpu
import Derived.Deep.RegionLaw
set_option linter.unusedVariables false
set_option linter.unusedSimpArgs false
namespace Go.Proofs.YtielcanihooagaaDoor.PSemaExcludes
open Go.RowKit Go.Proofs.YtielcanihooagaaDoor.Ef Go.Proofs.YtielcanihooagaaDoor.Mp Go.Proofs.YtielcanihooagaaDoorW.PrintWords Go.Proofs.YtielcanihooagaaDoorW.PrintLast Go.Proofs.YtielcanihooagaaDoorW.PrintMore

/-- What lies behind a row's elements, in its block, may be written. -/
theorem R_beyond {α : Type} (d : Kd α) {w : World} {base e g n c : Nat} {ok : Nat → Prop} {xs : List α} (h : d.R e w base ok (.slice (some ⟨g, 0, none⟩) n c) xs) (seg : List Value) (off : Nat) (h1 : n * d.sz ≤ off) (h2 : off + seg.length ≤ c * d.sz) :
    d.R e (w.setCells g off seg) base ok (.slice (some ⟨g, 0, none⟩) n c) xs ∧ w.grownBy (w.setCells g off seg) (some g) ∧ (∀ j, j < seg.length → (w.cell? ⟨g, off + j, none⟩).isSome = true ∧ w.frozen? ⟨g, off + j, none⟩ = false) := by
  obtain ⟨hn, hnc, _⟩ := Kd.R_reads' h
  obtain ⟨hok, inner, hown, hr⟩ := h
  rcases hown.2 with ⟨hv, _⟩ | ⟨g', cap', cur, hv, hb, hh, hcc, hcm, hcs, htake⟩
  · cases hv
  injection hv with ha _ hc
  injection ha with ha
  injection ha with hg
  subst hg; subst hc
  rw [← hn] at htake
  obtain ⟨cur', h3, h4, h5⟩ := setCells_row seg off w cur hh (by rw [hcs]; exact h2)
  obtain ⟨s1, s2, s3, s4⟩ := setCells_same g seg off w
  have hfar : ∀ k', k' ≠ g → (w.setCells g off seg).heap[k']? = w.heap[k']? := fun k' hk' => setCells_far seg _ k' hk'
  have hgo : some g = (Value.slice (some ⟨g, 0, none⟩) n c).ownBlock := by simp [Value.ownBlock]
  refine ⟨⟨hok, inner, ⟨hown.1, .inr ⟨g, c, cur', by rw [← hn], hb, h3, hcc, hcm, by rw [h4, hcs], ?_⟩⟩, hr.imp_ (fun p q hp => d.M_move (fun k' hk' => hfar k' (fun he => hk'.2 (by rw [← hgo, he]))) hp)⟩, ⟨s1, s2, s3, by rw [s4]; exact Nat.le_refl _, fun k' _ hk' => hfar k' (fun he => hk' (by rw [he]))⟩, fun j hj => ⟨?_, blk_frozen hh _⟩⟩
  · rw [← hn, h5, List.append_assoc, List.take_append_of_le_length (by rw [List.length_take, Array.length_toList, hcs]; omega), List.take_take, Nat.min_eq_left h1, htake]
  · rw [cell_of_row w g _ cur e (0, 0) hh]
    simp
    omega
theorem clearL_run (w : World) (g off c : Nat) (hc : ∀ j, j < 3 → (w.cell? ⟨g, off + j, none⟩).isSome = true ∧ w.frozen? ⟨g, off + j, none⟩ = false) (ty : TypeId) :
    (Builtin.clear_ #[75] ty #[.slice (some ⟨g, off, none⟩) 1 c]).run Tryd.prog w = .ok (.tuple #[]) (w.setCells g off [.int .i64 0, .int .i64 0, .bool false]) := by
  have h := run_storeCells_cells (P := Tryd.prog) g off [.int .i64 0, .int .i64 0, .bool false] 0 w (fun j hj => by simpa using (hc j hj).1) (fun j hj => by simpa using (hc j hj).2) (by simp [Value.oneCell'])
  have hz : (zeroValue 83).run Tryd.prog w = .ok (.agg #[.int .i64 0, .int .i64 0, .bool false]) w := by kernel_rfl
  unfold Builtin.clear_
  simp only [List.getElem?_toArray, List.getElem?_cons_zero, Sem.run_bind, run_underlying Tryd.underlying75, Result.andThen_ok, hz, Sem.run_pure]
  rw [show (Go.Builtin.zeroCells (Value.agg #[.int .i64 0, .int .i64 0, .bool false]).cells 1).toList = [.int .i64 0, .int .i64 0, .bool false] from by kernel_rfl]
  simp only [Nat.add_zero] at h
  rw [h]
  rfl
set_option maxHeartbeats 4000000 in
set_option maxRecDepth 100000 in
theorem delL_calls (base g c n : Nat) (ok : Nat → Prop) (x : S83) (r : List S83) (w : World) (hn : n = r.length + 1) (H : k83.R 83 w base ok (.slice (some ⟨g, 0, none⟩) n c) (x :: r)) (hb : base ≤ w.heap.size) :
    Calls Tryd.prog 78 #[.slice (some ⟨g, 0, none⟩) n c, .int .i64 0, .int .i64 1] w fun e w' => e = .returned (.slice (some ⟨g, 0, none⟩) (n - 1) c) ∧ k83.R 83 w' base ok (.slice (some ⟨g, 0, none⟩) (n - 1) c) r ∧ w.grownBy w' (some g) := by
  obtain ⟨-, hcap, hC⟩ := Kd.R_reads' H
  have hmx : n ≤ 9223372036854775807 := by have := Kd.C_max hC; rw [List.length_cons] at this; omega
  have HR := Aside0.mk H
  have hn1 : 1 ≤ n := by omega
  have hn1' : (1 : Int) ≤ (n : Int) := by omega
  have hn2 : (n : Int) ≤ (c : Int) := by omega
  clear H hC hn
  go_enter Tryd.func78, Tryd.ntmps78
  go_wp2
  go_region_law ((refine Kd.R_delete_step k83 (w0 := w.drew) (W := w.drew) base rfl (.tmp 22) (.tmp 25) 75 83 rfl Tryd.underlying75 (by kernel_rfl) (g := g) (n := n) (c := c) (k := 0) (xs := x :: r) (ok := ok) rfl rfl ?hA ?hm (Kd.R_drew HR.out) (by omega) (Below.refl _ _) hb ?_); (case hA => rfl); (case hm => rfl); intro w1 hr hb1 hg1)
  all_goals
    have HR1 := Aside0.mk (show k83.R 83 w1 base ok (.slice (some ⟨g, 0, none⟩) (n - 1) c) r from hr)
    have HG1 := Aside0.mk hg1
    clear hr hb1 hg1
    obtain ⟨m, hm⟩ : ∃ m, n - 1 = m := ⟨_, rfl⟩
    rw [hm] at HR1 ⊢
    have hm1 : (m : Int) ≤ (n : Int) := by omega
    have hm2 : (n : Int) ≤ (c : Int) := by omega
    have hm3 : (0 : Int) ≤ (m : Int) := by omega
    have hmc : ¬ c = m := by omega
    have hnm : n - m = 1 := by omega
    obtain ⟨k1, k2, k3⟩ := R_beyond k83 HR1.out [.int .i64 0, .int .i64 0, .bool false] (m * 3) (Nat.le_refl _) (by show m * 3 + 3 ≤ c * 3; omega)
    have hclr := clearL_run w1 g (m * 3) (c - m) k3 0
    have K1 := Aside0.mk k1
    have K2 := Aside0.mk k2
    clear k1 k2 k3
    go_wp2
    all_goals
      subst_vars
      go_ret
      exact ⟨rfl, K1.out, ⟨K2.out.os.trans HG1.out.os, K2.out.tape.trans HG1.out.tape, K2.out.output.trans HG1.out.output, Nat.le_trans HG1.out.size K2.out.size, fun k hk hne => (K2.out.block k (Nat.lt_of_lt_of_le hk HG1.out.size) hne).trans (HG1.out.block k hk hne)⟩⟩
set_option maxHeartbeats 4000000 in
set_option maxRecDepth 100000 in
theorem popL_calls (base gb off T : Nat) (c : Array Value) (v : Value) (ok : Nat → Prop) (x : S83) (r : List S83) (w : World) (H : Cel k83 83 w base gb off T c v ok (x :: r)) (hb : base ≤ w.heap.size) (hq : ∀ k, ok k → k < w.heap.size) :
    Calls Tryd.prog 63 #[.pointer (some ⟨gb, off, none⟩)] w fun e w' => ∃ v', e = .returned (.agg #[.int .i64 x.f0.f0, .int .i64 x.f0.f1, .bool x.f1]) ∧ Cel k83 83 w' base gb off T (c.setIfInBounds off v') v' ok r ∧ Fr base (fun k => k = gb ∨ (ok k ∧ base ≤ k)) w w' := by
  have HF := Aside0.mk (Fr.refl (S := fun k => k = gb ∨ (ok k ∧ base ≤ k)) (w := w) hb (fun k q => q.elim (fun e => e ▸ H.low) (fun q => q.2)))
  obtain ⟨g, cap, rfl, hg0, hg1, -⟩ := Kd.R_form H.row (by simp)
  obtain ⟨n, hn⟩ : ∃ n, (x :: r).length = n := ⟨_, rfl⟩
  rw [hn] at H
  have hn1 : n = r.length + 1 := by rw [← hn]; rfl
  have hn0 : (0 : Int) < (n : Int) := by omega
  have hok : ok g := H.row.1 g (by simp [Value.ownBlock])
  have hne : g ≠ gb := H.ne g hok
  have HQ := Aside0.mk (show ∀ k, ok k → ¬ w.heap.size ≤ k from fun k q => by have := hq k q; omega)
  have HH := Aside0.mk H
  have HD := Aside0.mk (fun W (q : k83.R 83 W base ok (.slice (some ⟨g, 0, none⟩) n cap) (x :: r)) (hW : base ≤ W.heap.size) => delL_calls base g cap n ok x r W hn1 q hW)
  have HE := Aside0.mk (show n - 1 = r.length by omega)
  have hsz := H.lt
  have hu := Tryd.underlying77
  obtain ⟨ad, had, hx0, hx1, hx2⟩ := at_T83 (Kd.R_reads' H.row).2.2 0 (Int.le_refl 0) (by first | (simp; done) | (simp; omega))
  cases had
  replace hx0 : w.cell? ⟨g, 0, none⟩ = some (.int .i64 x.f0.f0) := hx0
  replace hx1 : w.cell? ⟨g, 1, none⟩ = some (.int .i64 x.f0.f1) := hx1
  replace hx2 : w.cell? ⟨g, 2, none⟩ = some (.bool x.f1) := hx2
  have p0 : w.cell? ⟨gb, off, none⟩ = some (.slice (some ⟨g, 0, none⟩) n cap) := (blk_cell H.blk off).trans H.at_
  have HX := Aside0.mk (And.intro p0 hx0)
  clear H hn hn1
  go_enter Tryd.func63, Tryd.ntmps63
  go_upto_region 3 with (first
    | ((with_reducible refine gate_dst (N := 2) rfl ?_); refine box_event ?hg (N := 2) ?hd (cs := #[.int .i64 0, .int .i64 0, .bool false]) (t := 83) ?hr ?_; (case hd => rfl); (case hg => rfl); (case hr => first | (go_simp; done) | (go_simp; rfl)); intro g2 hgN w1 hbox hb; have HE2 := Aside0.mk (show w.heap.size ≤ g2 by omega); have HF1 := Aside0.mk (HF.out.below hb); have HH1 := Aside0.mk (HH.out.below hb); have B2 := Aside0.mk hbox; replace hx0 : w1.cell? ⟨g, 0, none⟩ = some (.int .i64 x.f0.f0) := (hb.cell (p := ⟨g, 0, none⟩) (World.block_lt_of_cell? _ _ hx0)).trans hx0; replace hx1 : w1.cell? ⟨g, 1, none⟩ = some (.int .i64 x.f0.f1) := (hb.cell (p := ⟨g, 1, none⟩) (World.block_lt_of_cell? _ _ hx1)).trans hx1; replace hx2 : w1.cell? ⟨g, 2, none⟩ = some (.bool x.f1) := (hb.cell (p := ⟨g, 2, none⟩) (World.block_lt_of_cell? _ _ hx2)).trans hx2; replace p0 : w1.cell? ⟨gb, off, none⟩ = some (.slice (some ⟨g, 0, none⟩) n cap) := (hb.cell (p := ⟨gb, off, none⟩) (World.block_lt_of_cell? _ _ p0)).trans p0; clear hb hbox hgN)
    | ((with_reducible refine gate_dst (N := 3) rfl ?_); refine box_event ?hg (N := 3) ?hd (cs := #[.int .i64 0, .int .i64 0, .bool false]) (t := 83) ?hr ?_; (case hd => rfl); (case hg => rfl); (case hr => first | (go_simp; done) | (go_simp; rfl)); intro g3 hgN w2 hbox hb; have HG := Aside0.mk (show w.heap.size ≤ g3 from by have := HF1.out.size; omega); have HN32 := Aside0.mk (show g3 ≠ g2 from by have := blk_lt B2.out; omega); have HF2 := Aside0.mk (HF1.out.below hb); have HB2 := Aside0.mk (blk_below HH1.out.blk hb); have HRr := Aside0.mk (Kd.R_below (Kd.R_elderB HH1.out.row g3 (by omega)) hb); have B22 := Aside0.mk (blk_below B2.out hb); have B3 := Aside0.mk hbox; replace hx0 : w2.cell? ⟨g, 0, none⟩ = some (.int .i64 x.f0.f0) := (hb.cell (p := ⟨g, 0, none⟩) (World.block_lt_of_cell? _ _ hx0)).trans hx0; replace hx1 : w2.cell? ⟨g, 1, none⟩ = some (.int .i64 x.f0.f1) := (hb.cell (p := ⟨g, 1, none⟩) (World.block_lt_of_cell? _ _ hx1)).trans hx1; replace hx2 : w2.cell? ⟨g, 2, none⟩ = some (.bool x.f1) := (hb.cell (p := ⟨g, 2, none⟩) (World.block_lt_of_cell? _ _ hx2)).trans hx2; replace p0 : w2.cell? ⟨gb, off, none⟩ = some (.slice (some ⟨g, 0, none⟩) n cap) := (hb.cell (p := ⟨gb, off, none⟩) (World.block_lt_of_cell? _ _ p0)).trans p0; clear hb hbox hgN HF1 HH1 B2)
    | ((with_reducible refine gate_store (t := 83) (p := 3) (v := .tmp 9) rfl ?_); refine step_store rfl rfl rfl B3.out rfl (u := .agg #[.int .i64 x.f0.f0, .int .i64 x.f0.f1, .bool x.f1]) (seg := [.int .i64 x.f0.f0, .int .i64 x.f0.f1, .bool x.f1]) rfl rfl (by kernel_rfl) (by simp [Value.oneCell']) (Nat.le_refl 3) (cur' := #[.int .i64 x.f0.f0, .int .i64 x.f0.f1, .bool x.f1]) rfl ?_; intro w3 hbs hgs hss; have hgb : g3 ≠ gb := (by have := blk_lt HH.out.blk; have := HG.out; omega); have hgg : g ≠ g3 := (by have := HG.out; omega); have HNb := Aside0.mk hgb; have HNg := Aside0.mk hgg; clear hgb hgg; have HF3 := Aside0.mk (HF2.out.grown hgs (.inr HG.out)); have HB3 := Aside0.mk (blk_grown HB2.out hgs (fun e => HNb.out (Option.some.inj e).symm)); have HO3 := Aside0.mk (Kd.R_mono (Kd.R_grown HRr.out hgs (fun k q e => q.2 (Option.some.inj e))) (fun k q => q.1)); have B23 := Aside0.mk (blk_grown B22.out hgs (fun e => HN32.out (Option.some.inj e).symm)); have B33 := Aside0.mk hbs; clear hbs hgs hss p0 hx0 hx1 hx2 HF2 HB2 HRr B22 B3; have p0 : w3.cell? ⟨gb, off, none⟩ = some (.slice (some ⟨g, 0, none⟩) n cap) := (blk_cell HB3.out off).trans HH.out.at_)
    | (go_at_call 78; (refine (HD.out _ HO3.out (Nat.le_trans hb HF3.out.size)).mono ?_); rintro e w4 ⟨rfl, hr, hg⟩; have HF4 := Aside0.mk (HF3.out.grown hg (.inl (.inr ⟨hok, hg0⟩))); have HB4 := Aside0.mk (blk_grown HB3.out hg (fun e => hne (Option.some.inj e).symm)); have B24 := Aside0.mk (blk_grown B23.out hg (fun e => by have := HE2.out; have := Option.some.inj e; omega)); have B34 := Aside0.mk (blk_grown B33.out hg (fun e => HNg.out (Option.some.inj e).symm)); have HO4 := Aside0.mk hr; clear hr hg p0 HF3 HB3 B23 B33 HO3; have p0 : w4.cell? ⟨gb, off, none⟩ = some (.slice (some ⟨g, 0, none⟩) n cap) := (blk_cell HB4.out off).trans HH.out.at_; have z0 : w4.frozen? ⟨gb, off, none⟩ = false := blk_frozen HB4.out off))
  obtain ⟨hb5, hg5⟩ := set_step HB4.out off (.slice (some ⟨g, 0, none⟩) (n - 1) cap) (cur' := c.setIfInBounds off (.slice (some ⟨g, 0, none⟩) (n - 1) cap)) rfl
  have HF5 := Aside0.mk (HF4.out.grown hg5 (.inl (.inl rfl)))
  have HB5 := Aside0.mk hb5
  have HO5 := Aside0.mk (Kd.R_grown HO4.out hg5 (fun k q e => HH.out.ne k q (Option.some.inj e)))
  have B25 := Aside0.mk (blk_grown B24.out hg5 (fun e => by have := HE2.out; have := blk_lt HH.out.blk; have := Option.some.inj e; omega))
  have B35 := Aside0.mk (blk_grown B34.out hg5 (fun e => HNb.out (Option.some.inj e)))
  clear hb5 hg5 p0 z0 HF4 HB4 HO4 B24 B34
  generalize w4.setCell ⟨gb, off, none⟩ (.slice (some ⟨g, 0, none⟩) (n - 1) cap) = w5 at *
  have y0 : w5.cell? ⟨g3, 0, none⟩ = some (.int .i64 x.f0.f0) := (blk_cell B35.out 0).trans rfl
  have y1 : w5.cell? ⟨g3, 1, none⟩ = some (.int .i64 x.f0.f1) := (blk_cell B35.out 1).trans rfl
  have y2 : w5.cell? ⟨g3, 2, none⟩ = some (.bool x.f1) := (blk_cell B35.out 2).trans rfl
  go_wp2_with (first
    | ((with_reducible refine gate_store (t := 83) (p := 2) (v := .tmp 18) rfl ?_); refine step_store rfl rfl rfl B25.out rfl (u := .agg #[.int .i64 x.f0.f0, .int .i64 x.f0.f1, .bool x.f1]) (seg := [.int .i64 x.f0.f0, .int .i64 x.f0.f1, .bool x.f1]) rfl rfl (by kernel_rfl) (by simp [Value.oneCell']) (Nat.le_refl 3) (cur' := #[.int .i64 x.f0.f0, .int .i64 x.f0.f1, .bool x.f1]) rfl ?_; intro w6 hbs hgs hss; have HF6 := Aside0.mk (HF5.out.grown hgs (.inr HE2.out)); have HB6 := Aside0.mk (blk_grown HB5.out hgs (fun e => by have := HE2.out; have := blk_lt HH.out.blk; have := Option.some.inj e; omega)); have HO6 := Aside0.mk (Kd.R_step HO5.out (fun k hk hlt => hgs.block k hlt (fun e => by have := HE2.out; have := (Kd.R_bound HH.out.row).1; have e2 := Option.some.inj e; exact HQ.out k hk (by omega)))); have BF := Aside0.mk hbs; clear hbs hgs hss)
    )
  refine bodyPost_ret (results_single (r := .cell 2 83) rfl (.cell g2 83 #[.int .i64 x.f0.f0, .int .i64 x.f0.f1, .bool x.f1] (0, 0) _ rfl BF.out Tryd.underlying83 rfl (by kernel_rfl) .nil)) rfl ?_
  rw [HE.out] at HB6 HO6
  exact ⟨_, rfl, ⟨HB6.out, by rw [set_at, if_pos rfl, if_pos hsz], HO6.out, HH.out.ne, HH.out.low⟩, HF6.out⟩
theorem clearG_run (w : World) (g off c : Nat) (hc : ∀ j, j < 2 → (w.cell? ⟨g, off + j, none⟩).isSome = true ∧ w.frozen? ⟨g, off + j, none⟩ = false) (ty : TypeId) :
    (Builtin.clear_ #[27] ty #[.slice (some ⟨g, off, none⟩) 1 c]).run Tryd.prog w = .ok (.tuple #[]) (w.setCells g off [.int .i64 0, .int .i64 0]) := by
  have h := run_storeCells_cells (P := Tryd.prog) g off [.int .i64 0, .int .i64 0] 0 w (fun j hj => by simpa using (hc j hj).1) (fun j hj => by simpa using (hc j hj).2) (by simp [Value.oneCell'])
  have hz : (zeroValue 34).run Tryd.prog w = .ok (.agg #[.int .i64 0, .int .i64 0]) w := by kernel_rfl
  unfold Builtin.clear_
  simp only [List.getElem?_toArray, List.getElem?_cons_zero, Sem.run_bind, run_underlying Tryd.underlying27, Result.andThen_ok, hz, Sem.run_pure]
  rw [show (Go.Builtin.zeroCells (Value.agg #[.int .i64 0, .int .i64 0]).cells 1).toList = [.int .i64 0, .int .i64 0] from by kernel_rfl]
  simp only [Nat.add_zero] at h
  rw [h]
  rfl
set_option maxHeartbeats 4000000 in
set_option maxRecDepth 100000 in
theorem delG_calls (base g c n : Nat) (ok : Nat → Prop) (x : S34) (r : List S34) (w : World) (hn : n = r.length + 1) (H : k34.R 34 w base ok (.slice (some ⟨g, 0, none⟩) n c) (x :: r)) (hb : base ≤ w.heap.size) :
    Calls Tryd.prog 61 #[.slice (some ⟨g, 0, none⟩) n c, .int .i64 0, .int .i64 1] w fun e w' => e = .returned (.slice (some ⟨g, 0, none⟩) (n - 1) c) ∧ k34.R 34 w' base ok (.slice (some ⟨g, 0, none⟩) (n - 1) c) r ∧ w.grownBy w' (some g) := by
  obtain ⟨-, hcap, hC⟩ := Kd.R_reads' H
  have hmx : n ≤ 9223372036854775807 := by have := Kd.C_max hC; rw [List.length_cons] at this; omega
  have HR := Aside0.mk H
  have hn1 : 1 ≤ n := by omega
  have hn1' : (1 : Int) ≤ (n : Int) := by omega
  have hn2 : (n : Int) ≤ (c : Int) := by omega
  clear H hC hn
  go_enter Tryd.func61, Tryd.ntmps61
  go_wp2
  go_region_law ((refine Kd.R_delete_step k34 (w0 := w.drew) (W := w.drew) base rfl (.tmp 22) (.tmp 25) 27 34 rfl Tryd.underlying27 (by kernel_rfl) (g := g) (n := n) (c := c) (k := 0) (xs := x :: r) (ok := ok) rfl rfl ?hA ?hm (Kd.R_drew HR.out) (by omega) (Below.refl _ _) hb ?_); (case hA => rfl); (case hm => rfl); intro w1 hr hb1 hg1)
  all_goals
    have HR1 := Aside0.mk (show k34.R 34 w1 base ok (.slice (some ⟨g, 0, none⟩) (n - 1) c) r from hr)
    have HG1 := Aside0.mk hg1
    clear hr hb1 hg1
    obtain ⟨m, hm⟩ : ∃ m, n - 1 = m := ⟨_, rfl⟩
    rw [hm] at HR1 ⊢
    have hm1 : (m : Int) ≤ (n : Int) := by omega
    have hm2 : (n : Int) ≤ (c : Int) := by omega
    have hm3 : (0 : Int) ≤ (m : Int) := by omega
    have hmc : ¬ c = m := by omega
    have hnm : n - m = 1 := by omega
    obtain ⟨k1, k2, k3⟩ := R_beyond k34 HR1.out [.int .i64 0, .int .i64 0] (m * 2) (Nat.le_refl _) (by show m * 2 + 2 ≤ c * 2; omega)
    have hclr := clearG_run w1 g (m * 2) (c - m) k3 0
    have K1 := Aside0.mk k1
    have K2 := Aside0.mk k2
    clear k1 k2 k3
    go_wp2
    all_goals
      subst_vars
      go_ret
      exact ⟨rfl, K1.out, ⟨K2.out.os.trans HG1.out.os, K2.out.tape.trans HG1.out.tape, K2.out.output.trans HG1.out.output, Nat.le_trans HG1.out.size K2.out.size, fun k hk hne => (K2.out.block k (Nat.lt_of_lt_of_le hk HG1.out.size) hne).trans (HG1.out.block k hk hne)⟩⟩
set_option maxHeartbeats 4000000 in
set_option maxRecDepth 100000 in
theorem popG_calls (base gb off T : Nat) (c : Array Value) (v : Value) (ok : Nat → Prop) (x : S34) (r : List S34) (w : World) (H : Cel k34 34 w base gb off T c v ok (x :: r)) (hb : base ≤ w.heap.size) (hq : ∀ k, ok k → k < w.heap.size) :
    Calls Tryd.prog 26 #[.pointer (some ⟨gb, off, none⟩)] w fun e w' => ∃ v', e = .returned (.agg #[.int .i64 x.f0, .int .i64 x.f1]) ∧ Cel k34 34 w' base gb off T (c.setIfInBounds off v') v' ok r ∧ Fr base (fun k => k = gb ∨ (ok k ∧ base ≤ k)) w w' := by
  have HF := Aside0.mk (Fr.refl (S := fun k => k = gb ∨ (ok k ∧ base ≤ k)) (w := w) hb (fun k q => q.elim (fun e => e ▸ H.low) (fun q => q.2)))
  obtain ⟨g, cap, rfl, hg0, hg1, -⟩ := Kd.R_form H.row (by simp)
  obtain ⟨n, hn⟩ : ∃ n, (x :: r).length = n := ⟨_, rfl⟩
  rw [hn] at H
  have hn1 : n = r.length + 1 := by rw [← hn]; rfl
  have hn0 : (0 : Int) < (n : Int) := by omega
  have hok : ok g := H.row.1 g (by simp [Value.ownBlock])
  have hne : g ≠ gb := H.ne g hok
  have HQ := Aside0.mk (show ∀ k, ok k → ¬ w.heap.size ≤ k from fun k q => by have := hq k q; omega)
  have HH := Aside0.mk H
  have HD := Aside0.mk (fun W (q : k34.R 34 W base ok (.slice (some ⟨g, 0, none⟩) n cap) (x :: r)) (hW : base ≤ W.heap.size) => delG_calls base g cap n ok x r W hn1 q hW)
  have HE := Aside0.mk (show n - 1 = r.length by omega)
  have hsz := H.lt
  have hu := Tryd.underlying67
  obtain ⟨ad, had, hx0, hx1⟩ := at_T34 (Kd.R_reads' H.row).2.2 0 (Int.le_refl 0) (by first | (simp; done) | (simp; omega))
  cases had
  replace hx0 : w.cell? ⟨g, 0, none⟩ = some (.int .i64 x.f0) := hx0
  replace hx1 : w.cell? ⟨g, 1, none⟩ = some (.int .i64 x.f1) := hx1
  have p0 : w.cell? ⟨gb, off, none⟩ = some (.slice (some ⟨g, 0, none⟩) n cap) := (blk_cell H.blk off).trans H.at_
  have HX := Aside0.mk (And.intro p0 hx0)
  clear H hn hn1
  go_enter Tryd.func26, Tryd.ntmps26
  go_upto_region 3 with (first
    | ((with_reducible refine gate_dst (N := 2) rfl ?_); refine box_event ?hg (N := 2) ?hd (cs := #[.int .i64 0, .int .i64 0]) (t := 34) ?hr ?_; (case hd => rfl); (case hg => rfl); (case hr => first | (go_simp; done) | (go_simp; rfl)); intro g2 hgN w1 hbox hb; have HE2 := Aside0.mk (show w.heap.size ≤ g2 by omega); have HF1 := Aside0.mk (HF.out.below hb); have HH1 := Aside0.mk (HH.out.below hb); have B2 := Aside0.mk hbox; replace hx0 : w1.cell? ⟨g, 0, none⟩ = some (.int .i64 x.f0) := (hb.cell (p := ⟨g, 0, none⟩) (World.block_lt_of_cell? _ _ hx0)).trans hx0; replace hx1 : w1.cell? ⟨g, 1, none⟩ = some (.int .i64 x.f1) := (hb.cell (p := ⟨g, 1, none⟩) (World.block_lt_of_cell? _ _ hx1)).trans hx1; replace p0 : w1.cell? ⟨gb, off, none⟩ = some (.slice (some ⟨g, 0, none⟩) n cap) := (hb.cell (p := ⟨gb, off, none⟩) (World.block_lt_of_cell? _ _ p0)).trans p0; clear hb hbox hgN)
    | ((with_reducible refine gate_dst (N := 3) rfl ?_); refine box_event ?hg (N := 3) ?hd (cs := #[.int .i64 0, .int .i64 0]) (t := 34) ?hr ?_; (case hd => rfl); (case hg => rfl); (case hr => first | (go_simp; done) | (go_simp; rfl)); intro g3 hgN w2 hbox hb; have HG := Aside0.mk (show w.heap.size ≤ g3 from by have := HF1.out.size; omega); have HN32 := Aside0.mk (show g3 ≠ g2 from by have := blk_lt B2.out; omega); have HF2 := Aside0.mk (HF1.out.below hb); have HB2 := Aside0.mk (blk_below HH1.out.blk hb); have HRr := Aside0.mk (Kd.R_below (Kd.R_elderB HH1.out.row g3 (by omega)) hb); have B22 := Aside0.mk (blk_below B2.out hb); have B3 := Aside0.mk hbox; replace hx0 : w2.cell? ⟨g, 0, none⟩ = some (.int .i64 x.f0) := (hb.cell (p := ⟨g, 0, none⟩) (World.block_lt_of_cell? _ _ hx0)).trans hx0; replace hx1 : w2.cell? ⟨g, 1, none⟩ = some (.int .i64 x.f1) := (hb.cell (p := ⟨g, 1, none⟩) (World.block_lt_of_cell? _ _ hx1)).trans hx1; replace p0 : w2.cell? ⟨gb, off, none⟩ = some (.slice (some ⟨g, 0, none⟩) n cap) := (hb.cell (p := ⟨gb, off, none⟩) (World.block_lt_of_cell? _ _ p0)).trans p0; clear hb hbox hgN HF1 HH1 B2)
    | ((with_reducible refine gate_store (t := 34) (p := 3) (v := .tmp 9) rfl ?_); refine step_store rfl rfl rfl B3.out rfl (u := .agg #[.int .i64 x.f0, .int .i64 x.f1]) (seg := [.int .i64 x.f0, .int .i64 x.f1]) rfl rfl (by kernel_rfl) (by simp [Value.oneCell']) (Nat.le_refl 2) (cur' := #[.int .i64 x.f0, .int .i64 x.f1]) rfl ?_; intro w3 hbs hgs hss; have hgb : g3 ≠ gb := (by have := blk_lt HH.out.blk; have := HG.out; omega); have hgg : g ≠ g3 := (by have := HG.out; omega); have HNb := Aside0.mk hgb; have HNg := Aside0.mk hgg; clear hgb hgg; have HF3 := Aside0.mk (HF2.out.grown hgs (.inr HG.out)); have HB3 := Aside0.mk (blk_grown HB2.out hgs (fun e => HNb.out (Option.some.inj e).symm)); have HO3 := Aside0.mk (Kd.R_mono (Kd.R_grown HRr.out hgs (fun k q e => q.2 (Option.some.inj e))) (fun k q => q.1)); have B23 := Aside0.mk (blk_grown B22.out hgs (fun e => HN32.out (Option.some.inj e).symm)); have B33 := Aside0.mk hbs; clear hbs hgs hss p0 hx0 hx1 HF2 HB2 HRr B22 B3; have p0 : w3.cell? ⟨gb, off, none⟩ = some (.slice (some ⟨g, 0, none⟩) n cap) := (blk_cell HB3.out off).trans HH.out.at_)
    | (go_at_call 61; (refine (HD.out _ HO3.out (Nat.le_trans hb HF3.out.size)).mono ?_); rintro e w4 ⟨rfl, hr, hg⟩; have HF4 := Aside0.mk (HF3.out.grown hg (.inl (.inr ⟨hok, hg0⟩))); have HB4 := Aside0.mk (blk_grown HB3.out hg (fun e => hne (Option.some.inj e).symm)); have B24 := Aside0.mk (blk_grown B23.out hg (fun e => by have := HE2.out; have := Option.some.inj e; omega)); have B34 := Aside0.mk (blk_grown B33.out hg (fun e => HNg.out (Option.some.inj e).symm)); have HO4 := Aside0.mk hr; clear hr hg p0 HF3 HB3 B23 B33 HO3; have p0 : w4.cell? ⟨gb, off, none⟩ = some (.slice (some ⟨g, 0, none⟩) n cap) := (blk_cell HB4.out off).trans HH.out.at_; have z0 : w4.frozen? ⟨gb, off, none⟩ = false := blk_frozen HB4.out off))
  obtain ⟨hb5, hg5⟩ := set_step HB4.out off (.slice (some ⟨g, 0, none⟩) (n - 1) cap) (cur' := c.setIfInBounds off (.slice (some ⟨g, 0, none⟩) (n - 1) cap)) rfl
  have HF5 := Aside0.mk (HF4.out.grown hg5 (.inl (.inl rfl)))
  have HB5 := Aside0.mk hb5
  have HO5 := Aside0.mk (Kd.R_grown HO4.out hg5 (fun k q e => HH.out.ne k q (Option.some.inj e)))
  have B25 := Aside0.mk (blk_grown B24.out hg5 (fun e => by have := HE2.out; have := blk_lt HH.out.blk; have := Option.some.inj e; omega))
  have B35 := Aside0.mk (blk_grown B34.out hg5 (fun e => HNb.out (Option.some.inj e)))
  clear hb5 hg5 p0 z0 HF4 HB4 HO4 B24 B34
  generalize w4.setCell ⟨gb, off, none⟩ (.slice (some ⟨g, 0, none⟩) (n - 1) cap) = w5 at *
  have y0 : w5.cell? ⟨g3, 0, none⟩ = some (.int .i64 x.f0) := (blk_cell B35.out 0).trans rfl
  have y1 : w5.cell? ⟨g3, 1, none⟩ = some (.int .i64 x.f1) := (blk_cell B35.out 1).trans rfl
  go_wp2_with (first
    | ((with_reducible refine gate_store (t := 34) (p := 2) (v := .tmp 18) rfl ?_); refine step_store rfl rfl rfl B25.out rfl (u := .agg #[.int .i64 x.f0, .int .i64 x.f1]) (seg := [.int .i64 x.f0, .int .i64 x.f1]) rfl rfl (by kernel_rfl) (by simp [Value.oneCell']) (Nat.le_refl 2) (cur' := #[.int .i64 x.f0, .int .i64 x.f1]) rfl ?_; intro w6 hbs hgs hss; have HF6 := Aside0.mk (HF5.out.grown hgs (.inr HE2.out)); have HB6 := Aside0.mk (blk_grown HB5.out hgs (fun e => by have := HE2.out; have := blk_lt HH.out.blk; have := Option.some.inj e; omega)); have HO6 := Aside0.mk (Kd.R_step HO5.out (fun k hk hlt => hgs.block k hlt (fun e => by have := HE2.out; have := (Kd.R_bound HH.out.row).1; have e2 := Option.some.inj e; exact HQ.out k hk (by omega)))); have BF := Aside0.mk hbs; clear hbs hgs hss)
    )
  refine bodyPost_ret (results_single (r := .cell 2 34) rfl (.cell g2 34 #[.int .i64 x.f0, .int .i64 x.f1] (0, 0) _ rfl BF.out Tryd.underlying34 rfl (by kernel_rfl) .nil)) rfl ?_
  rw [HE.out] at HB6 HO6
  exact ⟨_, rfl, ⟨HB6.out, by rw [set_at, if_pos rfl, if_pos hsz], HO6.out, HH.out.ne, HH.out.low⟩, HF6.out⟩
end Go.Proofs.YtielcanihooagaaDoor.PSemaExcludes

/- Stop's closure, and slices.IndexFunc with it. Conditions: each theorem's own.
   slices.DeleteFunc with Stop's closure, at a row in which just one timer has the number. Conditions: each theorem's own.
   Stop, at a name that it does not stop. Conditions: each theorem's own.
   What timers hold when one has gone. Plain. Conditions: each theorem's own.
   Stop, where it stops one. Conditions: each theorem's own.
   Stop, where it stops one that is never due. Conditions: each theorem's own. -/
import Derived.Test.YtceopcfmhidjlaaTa2
import Derived.Deep.RegionHeld3
set_option linter.unusedVariables false
set_option linter.unusedSimpArgs false
namespace Go.Proofs.Ytceopcfmhidjlaa.PTimerPlays
open Go.RowKit Go.Proofs.Ytceopcfmhidjlaa.Ef Go.Proofs.Ytceopcfmhidjlaa.Mp Go.Proofs.Ytceopcfmhidjlaa.Hp Go.Proofs.YtceopcfmhidjlaaW.PrintWords Go.Proofs.YtceopcfmhidjlaaW.PrintLast Go.Proofs.YtceopcfmhidjlaaW.PrintMore
abbrev tn (l : List Tm) (i : Nat) : Tm := (l[i]?).getD default
theorem at_rowT {w : World} {e base g n cap : Nat} {ok : Nat → Prop} {xs : List Tm} (h : kT.R e w base ok (.slice (some ⟨g, 0, none⟩) n cap) xs) (i : Nat) (hi : i < n) :
    w.cell? ⟨g, i * 8, none⟩ = some (.int .i64 (tn xs i).f0) ∧ w.cell? ⟨g, i * 8 + 1, none⟩ = some (.int .i64 (tn xs i).f1) ∧ w.cell? ⟨g, i * 8 + 2, none⟩ = some (.int .i64 (tn xs i).f2.f0) ∧ w.cell? ⟨g, i * 8 + 3, none⟩ = some (.int .i64 (tn xs i).f2.f1) ∧ w.cell? ⟨g, i * 8 + 4, none⟩ = some (.int .i64 (tn xs i).f3) ∧ w.cell? ⟨g, i * 8 + 5, none⟩ = some (.int .u64 (tn xs i).f4) ∧ w.cell? ⟨g, i * 8 + 6, none⟩ = some (.bool (tn xs i).f5) ∧ w.cell? ⟨g, i * 8 + 7, none⟩ = some (.int .u64 (tn xs i).f6) := by
  obtain ⟨c, hcl, hM, hc0, _⟩ := Kd.R_elem h default (i : Int) (Int.natCast_nonneg i) (by omega)
  obtain rfl := k40_openM hM
  rw [Int.toNat_natCast] at hc0
  have e : ∀ j, i * kT.sz + j = i * 8 + j := fun j => rfl
  exact ⟨hc0 0 _ rfl, hc0 1 _ rfl, hc0 2 _ rfl, hc0 3 _ rfl, hc0 4 _ rfl, hc0 5 _ rfl, hc0 6 _ rfl, hc0 7 _ rfl⟩
set_option maxHeartbeats 1000000 in
set_option maxRecDepth 100000 in
theorem stop1_calls (x : Tm) (g : Nat) (id : Int) (w : World) (h : w.cell? ⟨g, 0, none⟩ = some (.int .i64 id)) :
    Calls Try.prog 29 #[.agg (cT x), .pointer (some ⟨g, 0, none⟩)] w fun e w' => e = .returned (.bool (x.f0 == id)) ∧ Below w.heap.size w w' := by
  have hlt := World.block_lt_of_cell? w _ h
  go_enter Try.func29, Try.ntmps29
  go_wp2_with ((with_reducible refine gate_dst (N := 2) rfl ?_); refine box_event ?hg (N := 2) ?hd (cs := cT x) (t := 40) ?hr ?_; (case hd => rfl); (case hg => rfl); (case hr => first | (go_simp; done) | (go_simp; rfl)); intro g2 hg2 w1 hbox hb; have HB := Aside0.mk hb; have x0 : w1.cell? ⟨g2, 0, none⟩ = some (.int .i64 x.f0) := (blk_cell hbox 0).trans rfl; have y0 : w1.cell? ⟨g, 0, none⟩ = some (.int .i64 id) := (hb.cell (p := ⟨g, 0, none⟩) hlt).trans h; clear hb hbox hg2 h)
  go_ret
  exact ⟨rfl, HB.out⟩
abbrev fnV (g3 : Nat) : Value := .func (.func 29) #[] #[.pointer (some ⟨g3, 0, none⟩)]
set_option maxHeartbeats 4000000 in
set_option maxRecDepth 100000 in
theorem index_calls (base g n cap g3 : Nat) (ok : Nat → Prop) (l : List Tm) (id : Int) (i0 : Nat) (w : World) (H : kT.R 40 w base ok (.slice (some ⟨g, 0, none⟩) n cap) l) (hid : w.cell? ⟨g3, 0, none⟩ = some (.int .i64 id)) (hn : n ≤ 1000000000000000000) (hi : i0 < n) (he : (tn l i0).f0 = id) (hb : ∀ j, j < i0 → (tn l j).f0 ≠ id) :
    Calls Try.prog 44 #[.slice (some ⟨g, 0, none⟩) n cap, fnV g3] w fun e w' => e = .returned (.int .i64 (i0 : Int)) ∧ Below w.heap.size w w' := by
  have hu37 := Try.underlying37
  have HR := Aside0.mk H
  have HX := Aside0.mk hid
  have HB := Aside0.mk (Below.refl w.heap.size w)
  have HE := Aside0.mk he
  have HN := Aside0.mk hb
  have hlt := World.block_lt_of_cell? w _ hid
  clear H hid he hb
  go_enter Try.func44, Try.ntmps44
  go_wp2
  go_loopw [5, 8] (fun v5 v8 wr => ∃ i : Nat, v8 = .int .i64 (i : Int) ∧ Aside0 (i ≤ i0) ∧ Aside0 (Below w.heap.size w wr)) (fun _ v8 _ => (i0 + 1 - (intOf v8).toNat))
  case atStart => exact ⟨0, rfl, ⟨Nat.zero_le _⟩, HB⟩
  case round =>
    obtain ⟨i, rfl, HI, HB1⟩ := hrel
    have hin : i < n := by have := HI.out; omega
    have hin' : (i : Int) < (n : Int) := by omega
    have hin0 : (0 : Int) ≤ (i : Int) := by omega
    obtain ⟨x, ex⟩ : ∃ x, tn l i = x := ⟨_, rfl⟩
    obtain ⟨hx0, hx1, hx2, hx3, hx4, hx5, hx6, hx7⟩ := at_rowT (Kd.R_below HR.out HB1.out) i hin
    rw [ex] at hx0 hx1 hx2 hx3 hx4 hx5 hx6 hx7
    have y0 : wr.cell? ⟨g3, 0, none⟩ = some (.int .i64 id) := (HB1.out.cell (p := ⟨g3, 0, none⟩) hlt).trans HX.out
    by_cases hlast : i = i0
    · have hq : (x.f0 == id) = true := by rw [← ex, hlast, HE.out]; simp
      have HL := Aside0.mk hlast
      clear hlast ex
      go_wp2_with (go_at_call 29; (refine (stop1_calls x g3 id _ y0).mono ?_); rw [hq]; rintro e w2 ⟨rfl, hb⟩; have HB2 := Aside0.mk (HB1.out.trans (below_up hb HB1.out.size)); clear hb hx0 hx1 hx2 hx3 hx4 hx5 hx6 hx7 y0)
      go_ret
      exact ⟨by rw [HL.out]; rfl, HB2.out⟩
    · have hq : (x.f0 == id) = false := by
        have := HN.out i (by have := HI.out; omega)
        rw [ex] at this
        simpa using this
      go_wp2_with (go_at_call 29; (refine (stop1_calls x g3 id _ y0).mono ?_); rw [hq]; rintro e w2 ⟨rfl, hb⟩; have HB2 := Aside0.mk (HB1.out.trans (below_up hb HB1.out.size)); clear hb hx0 hx1 hx2 hx3 hx4 hx5 hx6 hx7 y0)
      go_roundw
      case rel => exact ⟨i + 1, by go_num, ⟨by have := HI.out; omega⟩, HB2⟩
      case measure => simp [intOf]; have := HI.out; omega
end Go.Proofs.Ytceopcfmhidjlaa.PTimerPlays
set_option linter.unusedVariables false
set_option linter.unusedSimpArgs false
namespace Go.Proofs.Ytceopcfmhidjlaa.PTimerPlays
open Go.RowKit Go.Proofs.Ytceopcfmhidjlaa.Ef Go.Proofs.Ytceopcfmhidjlaa.Mp Go.Proofs.Ytceopcfmhidjlaa.Hp Go.Proofs.YtceopcfmhidjlaaW.PrintWords Go.Proofs.YtceopcfmhidjlaaW.PrintLast Go.Proofs.YtceopcfmhidjlaaW.PrintMore
/-- The row when j places have been gone over. -/
def sh (l : List Tm) (i0 j : Nat) : List Tm := (l.take j).eraseIdx i0 ++ l.drop (j - 1)
theorem er_len {l : List Tm} {i0 j : Nat} (h1 : i0 < j) (h2 : j ≤ l.length) : ((l.take j).eraseIdx i0).length = j - 1 := by
  rw [List.length_eraseIdx, List.length_take, Nat.min_eq_left h2, if_pos h1]
theorem sh_len {l : List Tm} {i0 j : Nat} (h1 : i0 < j) (h2 : j ≤ l.length) : (sh l i0 j).length = l.length := by
  unfold sh
  rw [List.length_append, er_len h1 h2, List.length_drop]
  omega
theorem sh_start {l : List Tm} {i0 : Nat} (h : i0 < l.length) : sh l i0 (i0 + 1) = l := by
  unfold sh
  rw [List.take_succ_eq_append_getElem h, List.eraseIdx_append_of_length_le (by simp [Nat.min_eq_left (Nat.le_of_lt h)])]
  simp [Nat.min_eq_left (Nat.le_of_lt h)]
theorem sh_at {l : List Tm} {i0 j : Nat} (h1 : i0 < j) (h2 : j < l.length) : tn (sh l i0 j) j = tn l j := by
  have e := er_len h1 (Nat.le_of_lt h2)
  unfold tn sh
  rw [List.getElem?_append_right (by omega), e, List.getElem?_drop]
  congr 2
  omega
theorem sh_set {l : List Tm} {i0 j : Nat} (h1 : i0 < j) (h2 : j < l.length) : (sh l i0 j).set (j - 1) (tn l j) = sh l i0 (j + 1) := by
  have e := er_len h1 (Nat.le_of_lt h2)
  have hj : tn l j = l[j] := by unfold tn; rw [List.getElem?_eq_getElem h2]; rfl
  unfold sh
  rw [List.set_append_right _ _ (by omega), e, Nat.sub_self, List.take_succ_eq_append_getElem h2, List.eraseIdx_append_of_lt_length (by rw [List.length_take]; omega), hj]
  rw [List.drop_eq_getElem_cons (show j - 1 < l.length by omega)]
  rw [show j + 1 - 1 = j by omega, show j - 1 + 1 = j by omega]
  simp
theorem sh_end {l : List Tm} {i0 : Nat} (h : i0 < l.length) (z : Tm) : ((sh l i0 l.length).set (l.length - 1) z).take (l.length - 1) = l.eraseIdx i0 := by
  have e := er_len h (Nat.le_refl l.length)
  unfold sh
  rw [List.set_append_right _ _ (by omega), List.take_append_of_le_length (by omega), List.take_of_length_le (by omega), List.take_length]
theorem clear_run (w : World) (g off c : Nat) (hc : ∀ j, j < 8 → (w.cell? ⟨g, off + j, none⟩).isSome = true) (hf : ∀ j, j < 8 → w.frozen? ⟨g, off + j, none⟩ = false) (ty : TypeId) :
    (Builtin.clear_ #[37] ty #[.slice (some ⟨g, off, none⟩) 1 c]).run Try.prog w = .ok (.tuple #[]) (w.setCells g off [.int .i64 0, .int .i64 0, .int .i64 0, .int .i64 0, .int .i64 0, .int .u64 0, .bool false, .int .u64 0]) := by
  have h := run_storeCells_cells (P := Try.prog) g off [.int .i64 0, .int .i64 0, .int .i64 0, .int .i64 0, .int .i64 0, .int .u64 0, .bool false, .int .u64 0] 0 w (fun j hj => by simpa using hc j hj) (fun j hj => by simpa using hf j hj) (by simp [Value.oneCell'])
  unfold Builtin.clear_
  simp only [List.getElem?_toArray, List.getElem?_cons_zero, Sem.run_bind, run_underlying Try.underlying37, Result.andThen_ok, zeroT, Sem.run_pure]
  rw [show (Go.Builtin.zeroCells (Value.agg (cT z40)).cells 1).toList = [.int .i64 0, .int .i64 0, .int .i64 0, .int .i64 0, .int .i64 0, .int .u64 0, .bool false, .int .u64 0] from by kernel_rfl]
  simp only [Nat.add_zero] at h
  rw [h]
  rfl
set_option maxHeartbeats 4000000 in
set_option maxRecDepth 100000 in
theorem delete_calls (base g cap g3 : Nat) (ok : Nat → Prop) (l : List Tm) (id : Int) (i0 : Nat) (w : World) (H : kT.R 40 w base ok (.slice (some ⟨g, 0, none⟩) l.length cap) l) (hid : w.heap[g3]? = some (.cells #[.int .i64 id] 2 (0, 0))) (hno : ¬ ok g3)
    (hs : base ≤ w.heap.size) (hS : ∀ k, ok k → base ≤ k) (hB : ∀ k, ok k → k < w.heap.size) (hn : l.length ≤ 1000000000000) (hi : i0 < l.length) (he : (tn l i0).f0 = id) (hb : ∀ j, j < l.length → j ≠ i0 → (tn l j).f0 ≠ id) :
    Calls Try.prog 28 #[.slice (some ⟨g, 0, none⟩) l.length cap, fnV g3] w fun e w' => e = .returned (.slice (some ⟨g, 0, none⟩) (l.length - 1) cap) ∧ kT.R 40 w' base ok (.slice (some ⟨g, 0, none⟩) (l.length - 1) cap) (l.eraseIdx i0) ∧ Fr base ok w w' := by
  have hu37 := Try.underlying37
  have hok : ok g := H.1 g (by simp [Value.ownBlock])
  have hcapn := (Kd.R_reads' H).2.1
  have HC := Aside0.mk (index_calls base g l.length cap g3 ok l id i0 w H ((blk_cell hid 0).trans rfl) (by omega) hi he (fun j hj => hb j (by omega) (by omega)))
  have HR := Aside0.mk H
  have HF := Aside0.mk (Fr.refl hs hS)
  have HX := Aside0.mk hid
  have HN := Aside0.mk hno
  have HO := Aside0.mk hok
  have HNe := Aside0.mk hb
  have HBd := Aside0.mk hB
  have hm1 : (((i0 : Nat) : Int) == -1) = false := by simp
  clear H hid hno hs hS he hb hok hB
  go_enter Try.func28, Try.ntmps28
  go_wp2_with (go_at_call 44; (refine HC.out.mono ?_); rintro e w1 ⟨rfl, hb⟩; have HF1 := Aside0.mk (HF.out.below hb); have HR1 := Aside0.mk (Kd.R_below HR.out hb); have HX1 := Aside0.mk (blk_below HX.out hb); clear hb)
  go_loopw [5, 6, 7] (fun v5 v6 _ wr => ∃ j : Nat, v5 = .int .i64 ((j : Int) - 1) ∧ v6 = .int .i64 (j : Int) ∧ Aside0 (i0 < j ∧ j ≤ l.length) ∧ Aside0 (kT.R 40 wr base ok (.slice (some ⟨g, 0, none⟩) l.length cap) (sh l i0 j)) ∧ Aside0 (Fr base ok w wr)) (fun _ v6 _ _ => (l.length + 1 - (intOf v6).toNat))
  case atStart => exact ⟨i0 + 1, by go_num, by go_num, ⟨by omega, by omega⟩, ⟨by rw [sh_start hi]; exact HR1.out⟩, HF1⟩
  case round =>
    clear HR1 HF1
    obtain ⟨j, rfl, rfl, HJ, HRj, HFj⟩ := hrel
    have hj1 := HJ.out.1
    by_cases hlt : (j : Int) < (l.length : Int)
    · have hjl : j < l.length := by omega
      have hj0 : (0 : Int) ≤ (j : Int) := by omega
      have hj2 : (0 : Int) ≤ (j : Int) - 1 := by omega
      have hj3 : (j : Int) - 1 < (l.length : Int) := by omega
      obtain ⟨x, ex⟩ : ∃ x, tn l j = x := ⟨_, rfl⟩
      obtain ⟨hx0, hx1, hx2, hx3, hx4, hx5, hx6, hx7⟩ := at_rowT HRj.out j hjl
      rw [sh_at hj1 hjl, ex] at hx0 hx1 hx2 hx3 hx4 hx5 hx6 hx7
      have hq : (x.f0 == id) = false := by
        have := HNe.out j hjl (by omega)
        rw [ex] at this
        simpa using this
      have HE := Aside0.mk ex
      clear ex
      go_wp2_with (first
        | ((with_reducible refine gate_dst (N := 7) rfl ?_); refine box_event ?hg (N := 7) ?hd (cs := #[.int .i64 0, .int .i64 0, .int .i64 0, .int .i64 0, .int .i64 0, .int .u64 0, .bool false, .int .u64 0]) (t := 40) ?hr ?_; (case hd => rfl); (case hg => rfl); (case hr => first | (go_simp; done) | (go_simp; rfl)); intro gv hgv w2 hbox hb; have HR2 := Aside0.mk (Kd.R_below HRj.out hb); have HF2 := Aside0.mk (HFj.out.below hb); have BV2 := Aside0.mk hbox; have HV := Aside0.mk (show w.heap.size ≤ gv from by have := HFj.out.size; omega); have HVn := Aside0.mk (show wr.heap.size ≤ gv by omega); clear hb hbox hgv hx0 hx1 hx2 hx3 hx4 hx5 hx6 hx7)
        | ((with_reducible refine gate_store (t := 40) (p := 7) (v := .tmp 25) rfl ?_); refine step_store rfl rfl rfl BV2.out rfl (u := .agg #[.int .i64 x.f0, .int .i64 x.f1, .int .i64 x.f2.f0, .int .i64 x.f2.f1, .int .i64 x.f3, .int .u64 x.f4, .bool x.f5, .int .u64 x.f6]) (seg := [.int .i64 x.f0, .int .i64 x.f1, .int .i64 x.f2.f0, .int .i64 x.f2.f1, .int .i64 x.f3, .int .u64 x.f4, .bool x.f5, .int .u64 x.f6]) rfl rfl (by kernel_rfl) (by simp [Value.oneCell']) (Nat.le_refl 8) (cur' := #[.int .i64 x.f0, .int .i64 x.f1, .int .i64 x.f2.f0, .int .i64 x.f2.f1, .int .i64 x.f3, .int .u64 x.f4, .bool x.f5, .int .u64 x.f6]) rfl ?_; intro w3 hb3 hg3 hs3; have HR3 := Aside0.mk (Kd.R_grown HR2.out hg3 (fun k hk e => by cases e; have := HBd.out _ hk; have := HV.out; omega)); have HF3 := Aside0.mk (HF2.out.grown hg3 (.inr HV.out)); have BV3 := Aside0.mk hb3; clear hb3 hg3 hs3 HR2 HF2 BV2; have v0 : w3.cell? ⟨gv, 0, none⟩ = some (.int .i64 x.f0) := (blk_cell BV3.out 0).trans rfl; have v1 : w3.cell? ⟨gv, 1, none⟩ = some (.int .i64 x.f1) := (blk_cell BV3.out 1).trans rfl; have v2 : w3.cell? ⟨gv, 2, none⟩ = some (.int .i64 x.f2.f0) := (blk_cell BV3.out 2).trans rfl; have v3 : w3.cell? ⟨gv, 3, none⟩ = some (.int .i64 x.f2.f1) := (blk_cell BV3.out 3).trans rfl; have v4 : w3.cell? ⟨gv, 4, none⟩ = some (.int .i64 x.f3) := (blk_cell BV3.out 4).trans rfl; have v5 : w3.cell? ⟨gv, 5, none⟩ = some (.int .u64 x.f4) := (blk_cell BV3.out 5).trans rfl; have v6 : w3.cell? ⟨gv, 6, none⟩ = some (.bool x.f5) := (blk_cell BV3.out 6).trans rfl; have v7 : w3.cell? ⟨gv, 7, none⟩ = some (.int .u64 x.f6) := (blk_cell BV3.out 7).trans rfl)
        | (go_at_call 29; (refine (stop1_calls x g3 id _ ((blk_cell (HF3.out.blk HX.out HN.out) 0).trans rfl)).mono ?_); rw [hq]; rintro e w4 ⟨rfl, hb⟩; have HR4 := Aside0.mk (Kd.R_below HR3.out hb); have HF4 := Aside0.mk (HF3.out.below hb); have BV4 := Aside0.mk (blk_below BV3.out hb); clear hb v0 v1 v2 v3 v4 v5 v6 v7 HR3 HF3 BV3; have v0 : w4.cell? ⟨gv, 0, none⟩ = some (.int .i64 x.f0) := (blk_cell BV4.out 0).trans rfl; have v1 : w4.cell? ⟨gv, 1, none⟩ = some (.int .i64 x.f1) := (blk_cell BV4.out 1).trans rfl; have v2 : w4.cell? ⟨gv, 2, none⟩ = some (.int .i64 x.f2.f0) := (blk_cell BV4.out 2).trans rfl; have v3 : w4.cell? ⟨gv, 3, none⟩ = some (.int .i64 x.f2.f1) := (blk_cell BV4.out 3).trans rfl; have v4 : w4.cell? ⟨gv, 4, none⟩ = some (.int .i64 x.f3) := (blk_cell BV4.out 4).trans rfl; have v5 : w4.cell? ⟨gv, 5, none⟩ = some (.int .u64 x.f4) := (blk_cell BV4.out 5).trans rfl; have v6 : w4.cell? ⟨gv, 6, none⟩ = some (.bool x.f5) := (blk_cell BV4.out 6).trans rfl; have v7 : w4.cell? ⟨gv, 7, none⟩ = some (.int .u64 x.f6) := (blk_cell BV4.out 7).trans rfl)
        | ((with_reducible refine gate_store (t := 40) (p := 33) (v := .tmp 32) rfl ?_); (obtain ⟨c, hcl, hcM, hcc, _⟩ := Kd.R_elem HR4.out default ((j : Int) - 1) hj2 (by omega)); refine Kd.R_store kT (w0 := w4) base rfl rfl 40 (.tmp 33) (.tmp 32) rfl 40 ((j : Int) - 1) 0 (sh l i0 j) x (.agg #[.int .i64 x.f0, .int .i64 x.f1, .int .i64 x.f2.f0, .int .i64 x.f2.f1, .int .i64 x.f3, .int .u64 x.f4, .bool x.f5, .int .u64 x.f6]) [.int .i64 x.f0, .int .i64 x.f1, .int .i64 x.f2.f0, .int .i64 x.f2.f1, .int .i64 x.f3, .int .u64 x.f4, .bool x.f5, .int .u64 x.f6] c _ (fun _ => False) rfl (by show _ = ((j : Int) - 1).toNat * 8 + 0; omega) rfl rfl (by kernel_rfl) (by simp [Value.oneCell']) HR4.out hj2 (by omega) hcl hcc (by show 0 + 8 ≤ 8; omega) (by have hc3 : c.length = 8 := hcl; have h0 : ∀ seg : List Value, seg.length = 8 → c.take 0 ++ seg ++ c.drop (0 + seg.length) = seg := (fun seg hs => by simp [hs, List.drop_of_length_le, hc3]); rw [h0 _ rfl]; exact k40_mkM _ _ _ _) (fun _ h => h.elim) (Below.refl _ _) ?_; intro w5 hrow hb5 hg5; have HR5 : Aside0 (kT.R 40 w5 base ok (.slice (some ⟨g, 0, none⟩) l.length cap) (sh l i0 (j + 1))) := ⟨by { rw [← sh_set hj1 hjl, HE.out]; rw [show ((j : Int) - 1).toNat = j - 1 by omega] at hrow; exact hrow }⟩; have HF5 := Aside0.mk (HF4.out.grown hg5 (.inl HO.out)); clear hrow hb5 hg5 hcM hcc hcl v0 v1 v2 v3 v4 v5 v6 v7 HR4 HF4 BV4))
      go_roundw
      case rel => exact ⟨j + 1, by go_num, by go_num, ⟨by omega, by omega⟩, HR5, HF5⟩
      case measure => simp [intOf]; omega
    · obtain rfl : j = l.length := by have := HJ.out.2; omega
      have hlt' : ¬ ((l.length : Int) < (l.length : Int)) := by omega
      have hc0 : (0 : Int) ≤ (l.length : Int) - 1 := by omega
      have hc1 : (l.length : Int) - 1 ≤ (l.length : Int) := by omega
      have hc2 : (l.length : Int) - 1 ≤ (cap : Int) := by omega
      have hc3 : (l.length : Int) ≤ (cap : Int) := by omega
      clear hlt
      have e1 : ((l.length : Int) - 1).toNat = l.length - 1 := by omega
      have e2 : l.length - (l.length - 1) = 1 := by omega
      obtain ⟨c, hcl, hcM, hcc, hcf⟩ := Kd.R_elem HRj.out default ((l.length : Int) - 1) hc0 (by omega)
      have hcl8 : c.length = 8 := hcl
      have hR := Kd.R_seg (okp := fun _ => False) HRj.out ((l.length : Int) - 1) hc0 (by omega) hcl hcc (j := 0) (seg := [.int .i64 0, .int .i64 0, .int .i64 0, .int .i64 0, .int .i64 0, .int .u64 0, .bool false, .int .u64 0]) (x' := z40) (by show 0 + 8 ≤ 8; omega) (by have h0 : ∀ seg : List Value, seg.length = 8 → c.take 0 ++ seg ++ c.drop (0 + seg.length) = seg := (fun seg hs => by simp [hs, List.drop_of_length_le, hcl8]); rw [h0 _ rfl]; exact k40_mkM _ _ _ _) (fun _ h => h.elim)
      rw [e1] at hR hcc hcf
      have hsz : (l.length - 1) * kT.sz + 0 = (l.length - 1) * 8 := rfl
      rw [hsz] at hR
      have hclr : (Builtin.clear_ #[37] 0 #[.slice (some ⟨g, (l.length - 1) * 8, none⟩) (l.length - (l.length - 1)) (cap - (l.length - 1))]).run Try.prog wr = .ok (.tuple #[]) (wr.setCells g ((l.length - 1) * 8) [.int .i64 0, .int .i64 0, .int .i64 0, .int .i64 0, .int .i64 0, .int .u64 0, .bool false, .int .u64 0]) := by
        rw [e2]
        exact clear_run wr g ((l.length - 1) * 8) (cap - (l.length - 1)) (fun j hj => by have h := hcc j _ (List.getElem?_eq_getElem (by omega)); have h' : wr.cell? ⟨g, (l.length - 1) * 8 + j, none⟩ = _ := h; rw [h']; rfl) (fun j hj => hcf j) 0
      have HR9 := Aside0.mk (Kd.R_take hR.1 (m := l.length - 1) (by rw [List.length_set, sh_len hj1 (Nat.le_refl _)]; omega))
      have HF9 := Aside0.mk (HFj.out.grown hR.2 (.inl HO.out))
      generalize wr.setCells g ((l.length - 1) * 8) [.int .i64 0, .int .i64 0, .int .i64 0, .int .i64 0, .int .i64 0, .int .u64 0, .bool false, .int .u64 0] = w9 at *
      clear hR hcc hcf hcM
      have e3 : ((sh l i0 l.length).set (l.length - 1) z40).take (l.length - 1) = l.eraseIdx i0 := sh_end hj1 _
      rw [e3] at HR9
      clear e2 e3
      go_wp2
      go_ret
      exact ⟨rfl, HR9.out, HF9.out⟩
end Go.Proofs.Ytceopcfmhidjlaa.PTimerPlays
set_option linter.unusedVariables false
set_option linter.unusedSimpArgs false
namespace Go.Proofs.Ytceopcfmhidjlaa.PTimerPlays
open Go.RowKit Go.Proofs.Ytceopcfmhidjlaa.Ef Go.Proofs.Ytceopcfmhidjlaa.Mp Go.Proofs.Ytceopcfmhidjlaa.Hp Go.Proofs.YtceopcfmhidjlaaW.PrintWords Go.Proofs.YtceopcfmhidjlaaW.PrintLast Go.Proofs.YtceopcfmhidjlaaW.PrintMore
/-- Stop's first look: the place is read into a box of its own. -/
theorem look_ids {w : World} {base : Nat} {P : Pl} {v : Value} {last next id : Int} {hp : List NI} {nv : List Tm} {ids own : List (Int × Value)} {gs : List ((Int × Int) × Value)} (h : TA w base P v last hp next nv ids own gs) {W : World} (hb : Below w.heap.size w W) {r : Option Value} (hr : Mp.get id ids = r) :
    (Instr.lookup 54 (.map (some P.bi)) (.int .i64 id) true).run Try.prog W = .ok (.tuple #[r.getD (plc 0 false), .bool r.isSome]) W := by
  have := run_look keyL Try.underlying54 (zeroP W) (h.below hb).mi.of id true
  rw [hr] at this
  exact this
theorem look_own {w : World} {base : Nat} {P : Pl} {v : Value} {last next id : Int} {hp : List NI} {nv : List Tm} {ids own : List (Int × Value)} {gs : List ((Int × Int) × Value)} (h : TA w base P v last hp next nv ids own gs) {W : World} (hb : Below w.heap.size w W) {r : Option Value} (hr : Mp.get id own = r) :
    (Instr.lookup 55 (.map (some P.bo)) (.int .i64 id) false).run Try.prog W = .ok (r.getD (.agg (cT z40))) W := by
  have := run_look keyL Try.underlying55 (zeroT W) (h.below hb).mo.of id false
  rw [hr] at this
  exact this
set_option maxHeartbeats 4000000 in
set_option maxRecDepth 100000 in
theorem stop_none (base p : Nat) (ok : Nat → Prop) (S : TS) (id : Int) (w : World) (H : TP w base p ok S) (hid : ∀ x ∈ S.all, x.f0 ≠ id) :
    Calls Try.prog 14 #[.pointer (some ⟨p, 0, none⟩), .int .i64 id] w fun e w' => e = .returned (.bool false) ∧ Below w.heap.size w w' := by
  have HT := Aside0.mk H
  obtain ⟨P, v, ids, own, gs, rfl, rfl, hA, hG⟩ := H
  have hg : Mp.get id ids = none := get_fresh (fun q hq e => by
    have h2 : q.1 ∈ S.ids.map (·.1) := List.mem_map.2 ⟨q, hG.pi.mem_iff.1 hq, rfl⟩
    have h3 : S.ids.map (·.1) = S.all.map (·.f0) := by simp [TS.ids, TS.all, Function.comp_def]
    rw [h3] at h2
    obtain ⟨y, hy, e2⟩ := List.mem_map.1 h2
    exact hid y hy (by rw [e2, e]))
  have HH := Aside0.mk hA
  have HG := Aside0.mk hg
  have HQ := Aside0.mk hG
  clear hA hG hg
  go_enter Try.func14, Try.ntmps14
  go_wp2_with (first
    | ((with_reducible refine gate_dst (N := 3) rfl ?_); refine box_event ?hg (N := 3) ?hd (cs := #[.int .i64 id]) (t := 2) ?hr ?_; (case hd => rfl); (case hg => rfl); (case hr => first | (go_simp; done) | (go_simp; rfl)); intro g3 hg3 w1 hbox hb; have HB := Aside0.mk hb; have HG3 := Aside0.mk (show w.heap.size ≤ g3 by omega); have HA1 := Aside0.mk (HH.out.below hb); have HT1 := Aside0.mk (HT.out.below hb); have B3 := Aside0.mk hbox; have pi : w1.cell? ⟨P.p, 4, none⟩ = some (.map (some P.bi)) := (blk_cell HA1.out.blk 4).trans rfl; have y0 : w1.cell? ⟨g3, 0, none⟩ = some (.int .i64 id) := (blk_cell hbox 0).trans rfl; clear hb hbox hg3)
    | (go_at_call 26; (refine (is_calls base P.p P.ok S _ HT1.out).mono ?_); rintro e w1' ⟨rfl, rfl⟩))
  have hlk0 := look_ids HA1.out (Below.refl _ _) HG.out
  have hlk1 := look_ids HA1.out (below_drew (Below.refl _ _)) HG.out
  have hlk2 := fun o => look_ids HA1.out (below_alloc (Below.refl _ w1) o) HG.out
  have hlk3 := fun o => look_ids HA1.out (below_drew (below_alloc (Below.refl _ w1) o)) HG.out
  have hK : ∀ o, (w1.alloc o).cell? ⟨P.p, 4, none⟩ = some (.map (some P.bi)) ∧ (w1.alloc o).cell? ⟨g3, 0, none⟩ = some (.int .i64 id) := fun o => ⟨((below_alloc (Below.refl _ _) o).cell (p := ⟨P.p, 4, none⟩) (blk_lt HA1.out.blk)).trans pi, ((below_alloc (Below.refl _ _) o).cell (p := ⟨g3, 0, none⟩) (blk_lt B3.out)).trans y0⟩
  simp only [Option.getD_none, Option.isSome_none] at hlk0 hlk1 hlk2 hlk3
  go_region_held3 (fun w' => w'.cell? ⟨P.p, 4, none⟩ = some (.map (some P.bi)) ∧ w'.cell? ⟨g3, 0, none⟩ = some (.int .i64 id)) (first | go_keep | exact hK _) (fail)
  all_goals
    have hbd := below_drew (below_alloc (Below.refl w1.heap.size w1) (.cells #[.int .i64 0, .bool false] 73 (0, 0)))
    have HB2 := Aside0.mk (HB.out.trans (below_up hbd HB.out.size))
    have HA2 := Aside0.mk (HA1.out.below hbd)
    have B32 := Aside0.mk (blk_below B3.out hbd)
    have B5 : Aside0 ((w1.alloc (.cells #[.int .i64 0, .bool false] 73 (0, 0))).drew.heap[w1.heap.size]? = some (.cells #[.int .i64 0, .bool false] 73 (0, 0))) := ⟨blk_new _ _⟩
    have HG5 := Aside0.mk HB.out.size
    clear hlk0 hlk1 hlk2 hlk3 hK pi y0 hbd HA1 HT1 B3 HB
    rename_i hHeld
    clear hHeld
    generalize (w1.alloc (.cells #[.int .i64 0, .bool false] 73 (0, 0))).drew = w2 at *
    generalize w1.heap.size = g5 at *
    go_wp2
    go_region
    go_wp2
    go_ret
    exact ⟨rfl, below_drew HB2.out⟩
theorem field_kind (x : Tm) (w : World) : (Instr.field 40 (.agg #[.int .i64 x.f0, .int .i64 x.f1, .int .i64 x.f2.f0, .int .i64 x.f2.f1, .int .i64 x.f3, .int .u64 x.f4, .bool x.f5, .int .u64 x.f6]) 1).run Try.prog w = .ok (.int .i64 x.f1) w := by kernel_rfl
/-- What Stop sees. -/
theorem see_h {S : TS} {ids own : List (Int × Value)} {gs : List ((Int × Int) × Value)} (G : Good S ids own gs) {n : NI} (hn : n ∈ S.hp) : Mp.get n.val.f0 ids = some (plc n.num false) ∧ Mp.get n.val.f0 own = some (.agg (cT n.val)) :=
  ⟨get_mem (ids_key G) (G.pi.mem_iff.2 (List.mem_append.2 (.inl (List.mem_map.2 ⟨n, hn, rfl⟩)))), get_mem (own_key G) (G.po.mem_iff.2 (List.mem_map.2 ⟨n.val, List.mem_append.2 (.inl (List.mem_map.2 ⟨n, hn, rfl⟩)), rfl⟩))⟩
theorem see_v {S : TS} {ids own : List (Int × Value)} {gs : List ((Int × Int) × Value)} (G : Good S ids own gs) {x : Tm} (hx : x ∈ S.nv) : Mp.get x.f0 ids = some (plc 0 true) ∧ Mp.get x.f0 own = some (.agg (cT x)) :=
  ⟨get_mem (ids_key G) (G.pi.mem_iff.2 (List.mem_append.2 (.inr (List.mem_map.2 ⟨x, hx, rfl⟩)))), get_mem (own_key G) (G.po.mem_iff.2 (List.mem_map.2 ⟨x, List.mem_append.2 (.inr hx), rfl⟩))⟩
set_option maxHeartbeats 4000000 in
set_option maxRecDepth 100000 in
theorem stop_sleep (base p : Nat) (ok : Nat → Prop) (S : TS) (id : Int) (x : Tm) (w : World) (H : TP w base p ok S) (hx : x ∈ S.all) (hid : x.f0 = id) (hk : x.f1 = 1) :
    Calls Try.prog 14 #[.pointer (some ⟨p, 0, none⟩), .int .i64 id] w fun e w' => e = .returned (.bool false) ∧ Below w.heap.size w w' := by
  have hk' : (x.f1 == 1) = true := by simp [hk]
  have hfl := field_kind x
  have HT := Aside0.mk H
  obtain ⟨P, v, ids, own, gs, rfl, rfl, hA, hG⟩ := H
  obtain ⟨num, nev, hg⟩ : ∃ num nev, Mp.get id ids = some (plc num nev) ∧ Mp.get id own = some (.agg (cT x)) := by
    rw [← hid]
    rcases List.mem_append.1 hx with q | q
    · obtain ⟨n, hn, rfl⟩ := List.mem_map.1 q
      exact ⟨_, _, see_h hG hn⟩
    · exact ⟨_, _, see_v hG q⟩
  clear hx hid hk
  have HH := Aside0.mk hA
  have HG := Aside0.mk hg
  have HQ := Aside0.mk hG
  clear hA hG hg
  go_enter Try.func14, Try.ntmps14
  go_wp2_with (first
    | ((with_reducible refine gate_dst (N := 3) rfl ?_); refine box_event ?hg (N := 3) ?hd (cs := #[.int .i64 id]) (t := 2) ?hr ?_; (case hd => rfl); (case hg => rfl); (case hr => first | (go_simp; done) | (go_simp; rfl)); intro g3 hg3 w1 hbox hb; have HB := Aside0.mk hb; have HG3 := Aside0.mk (show w.heap.size ≤ g3 by omega); have HA1 := Aside0.mk (HH.out.below hb); have HT1 := Aside0.mk (HT.out.below hb); have B3 := Aside0.mk hbox; have pi : w1.cell? ⟨P.p, 4, none⟩ = some (.map (some P.bi)) := (blk_cell HA1.out.blk 4).trans rfl; have y0 : w1.cell? ⟨g3, 0, none⟩ = some (.int .i64 id) := (blk_cell hbox 0).trans rfl; clear hb hbox hg3)
    | (go_at_call 26; (refine (is_calls base P.p P.ok S _ HT1.out).mono ?_); rintro e w1' ⟨rfl, rfl⟩))
  have hlk0 := look_ids HA1.out (Below.refl _ _) HG.out.1
  have hlk1 := look_ids HA1.out (below_drew (Below.refl _ _)) HG.out.1
  have hlk2 := fun o => look_ids HA1.out (below_alloc (Below.refl _ w1) o) HG.out.1
  have hlk3 := fun o => look_ids HA1.out (below_drew (below_alloc (Below.refl _ w1) o)) HG.out.1
  have hK : ∀ o, (w1.alloc o).cell? ⟨P.p, 4, none⟩ = some (.map (some P.bi)) ∧ (w1.alloc o).cell? ⟨g3, 0, none⟩ = some (.int .i64 id) := fun o => ⟨((below_alloc (Below.refl _ _) o).cell (p := ⟨P.p, 4, none⟩) (blk_lt HA1.out.blk)).trans pi, ((below_alloc (Below.refl _ _) o).cell (p := ⟨g3, 0, none⟩) (blk_lt B3.out)).trans y0⟩
  simp only [Option.getD_some, Option.isSome_some] at hlk0 hlk1 hlk2 hlk3
  go_region_held3 (fun w' => w'.cell? ⟨P.p, 4, none⟩ = some (.map (some P.bi)) ∧ w'.cell? ⟨g3, 0, none⟩ = some (.int .i64 id)) (first | go_keep | exact hK _) (fail)
  all_goals
    have hbd := below_drew (below_alloc (Below.refl w1.heap.size w1) (.cells #[.int .i64 num, .bool nev] 73 (0, 0)))
    have HB2 := Aside0.mk (HB.out.trans (below_up hbd HB.out.size))
    have HA2 := Aside0.mk (HA1.out.below hbd)
    have B32 := Aside0.mk (blk_below B3.out hbd)
    have B5 : Aside0 ((w1.alloc (.cells #[.int .i64 num, .bool nev] 73 (0, 0))).drew.heap[w1.heap.size]? = some (.cells #[.int .i64 num, .bool nev] 73 (0, 0))) := ⟨blk_new _ _⟩
    have HG5 := Aside0.mk HB.out.size
    clear hlk0 hlk1 hlk2 hlk3 hK pi y0 hbd HA1 HT1 B3 HB
    rename_i hHeld
    clear hHeld
    generalize (w1.alloc (.cells #[.int .i64 num, .bool nev] 73 (0, 0))).drew = w2 at *
    generalize w1.heap.size = g5 at *
    go_wp2
    have po : w2.cell? ⟨P.p, 5, none⟩ = some (.map (some P.bo)) := (blk_cell HA2.out.blk 5).trans rfl
    have y0 : w2.cell? ⟨g3, 0, none⟩ = some (.int .i64 id) := (blk_cell B32.out 0).trans rfl
    have hlo0 := look_own HA2.out (Below.refl _ _) HG.out.2
    have hlo1 := look_own HA2.out (below_drew (Below.refl _ _)) HG.out.2
    simp only [Option.getD_some, cT] at hlo0 hlo1
    go_region
    all_goals
      have HA3 := Aside0.mk HA2.out.drew
      have B33 : Aside0 (w2.drew.heap[g3]? = some (.cells #[.int .i64 id] 2 (0, 0))) := ⟨B32.out⟩
      have B53 : Aside0 (w2.drew.heap[g5]? = some (.cells _ 73 (0, 0))) := ⟨B5.out⟩
      have HB3 := Aside0.mk (below_drew HB2.out)
      clear po y0 hlo0 hlo1 HA2 B32 B5 HB2
      generalize w2.drew = w3 at *
      go_wp2
      go_ret
      exact ⟨rfl, HB3.out⟩
end Go.Proofs.Ytceopcfmhidjlaa.PTimerPlays
set_option linter.unusedVariables false
set_option linter.unusedSimpArgs false
namespace Go.Proofs.Ytceopcfmhidjlaa.PTimerPlays
open Go.RowKit Go.Proofs.Ytceopcfmhidjlaa.Ef Go.Proofs.Ytceopcfmhidjlaa.Mp Go.Proofs.Ytceopcfmhidjlaa.Hp
theorem perm_ne {α β : Type} [DecidableEq β] (f : α → β) : ∀ {l : List α}, (l.map f).Nodup → ∀ {x : α}, x ∈ l → l.Perm (x :: l.filter (fun y => f y != f x))
  | [], _, _, h => by cases h
  | a :: r, hn, x, h => by
    rw [List.map_cons, List.nodup_cons] at hn
    rcases List.mem_cons.1 h with e | e
    · subst e
      have : (x :: r).filter (fun y => f y != f x) = r := by
        rw [List.filter_cons]
        simp only [bne_self_eq_false, Bool.false_eq_true, if_false]
        refine List.filter_eq_self.2 (fun y hy => ?_)
        simp only [bne_iff_ne, ne_eq]
        exact fun q => hn.1 (List.mem_map.2 ⟨y, hy, q⟩)
      rw [this]
    · have hne : f a ≠ f x := fun q => hn.1 (List.mem_map.2 ⟨x, e, q.symm⟩)
      rw [List.filter_cons, if_pos (by simpa using hne)]
      exact ((perm_ne f hn.2 e).cons a).trans (.swap _ _ _)
theorem filter_none {α β : Type} [DecidableEq β] (f : α → β) {l : List α} {k : β} (h : ∀ y ∈ l, f y ≠ k) : l.filter (fun y => f y != k) = l :=
  List.filter_eq_self.2 (fun y hy => by simpa using h y hy)
theorem nodup_inj {α β : Type} (f : α → β) {l : List α} (hn : (l.map f).Nodup) {x y : α} (hx : x ∈ l) (hy : y ∈ l) (e : f x = f y) : x = y := by
  induction l with
  | nil => cases hx
  | cons a r ih =>
    rw [List.map_cons, List.nodup_cons] at hn
    rcases List.mem_cons.1 hx with h1 | h1 <;> rcases List.mem_cons.1 hy with h2 | h2
    · rw [h1, h2]
    · subst h1; exact absurd (List.mem_map.2 ⟨y, h2, e.symm⟩) hn.1
    · subst h2; exact absurd (List.mem_map.2 ⟨x, h1, e⟩) hn.1
    · exact ih hn.2 h1 h2
def TS.rm (S : TS) (id : Int) : TS := { S with hp := S.hp.filter (fun n => n.val.f0 != id), nv := S.nv.filter (fun x => x.f0 != id) }
theorem rm_all (S : TS) (id : Int) : (S.rm id).all = S.all.filter (fun x => x.f0 != id) := by
  unfold TS.rm TS.all
  rw [List.filter_append, List.filter_map]
  rfl
theorem rm_ids (S : TS) (id : Int) : (S.rm id).ids = S.ids.filter (fun p => p.1 != id) := by
  unfold TS.rm TS.ids
  rw [List.filter_append, List.filter_map, List.filter_map]
  rfl
theorem rm_own (S : TS) (id : Int) : (S.rm id).own = S.own.filter (fun p => p.1 != id) := by
  unfold TS.own
  rw [rm_all, List.filter_map]
  rfl
theorem rm_sl (S : TS) (id : Int) : (S.rm id).sl = S.sl.filter (fun x => x.f0 != id) := by
  unfold TS.sl
  rw [rm_all, List.filter_filter, List.filter_filter]
  congr 1
  funext x
  exact Bool.and_comm _ _
theorem hp_key {S : TS} {ids own : List (Int × Value)} {gs : List ((Int × Int) × Value)} (G : Good S ids own gs) : (S.hp.map (fun n => n.val.f0)).Nodup := by
  have := G.ni
  unfold TS.all at this
  rw [List.map_append, List.map_map] at this
  exact (List.nodup_append.1 this).1
theorem nv_key {S : TS} {ids own : List (Int × Value)} {gs : List ((Int × Int) × Value)} (G : Good S ids own gs) : (S.nv.map (fun n => n.f0)).Nodup := by
  have := G.ni
  unfold TS.all at this
  rw [List.map_append, List.map_map] at this
  exact (List.nodup_append.1 this).2.1
def gsD (x : Tm) (gs : List ((Int × Int) × Value)) : List ((Int × Int) × Value) := if x.f1 = 1 then del (gk x) gs else gs
theorem Good.rm {S : TS} {ids own : List (Int × Value)} {gs : List ((Int × Int) × Value)} (G : Good S ids own gs) {x : Tm} (hx : x ∈ S.all) : Good (S.rm x.f0) (del x.f0 ids) (del x.f0 own) (gsD x gs) := by
  have hki : (S.ids.map (·.1)).Nodup := ((G.pi.map (·.1)).nodup_iff).1 (ids_key G)
  have hko : (S.own.map (·.1)).Nodup := ((G.po.map (·.1)).nodup_iff).1 (own_key G)
  have hkg : (S.gs.map (·.1)).Nodup := ((G.pg.map (·.1)).nodup_iff).1 (gs_key G)
  have hsub : ∀ y, y ∈ (S.rm x.f0).all → y ∈ S.all := fun y hy => by rw [rm_all] at hy; exact (List.mem_filter.1 hy).1
  have hi : ∃ u, (x.f0, u) ∈ S.ids := by
    rcases List.mem_append.1 hx with q | q
    · obtain ⟨n, hn, rfl⟩ := List.mem_map.1 q
      exact ⟨_, List.mem_append.2 (.inl (List.mem_map.2 ⟨n, hn, rfl⟩))⟩
    · exact ⟨_, List.mem_append.2 (.inr (List.mem_map.2 ⟨x, q, rfl⟩))⟩
  obtain ⟨u, hu⟩ := hi
  refine ⟨?_, ?_, ?_, ?_, ?_, ?_, ?_, ?_, ?_, G.n0, G.l0, ?_⟩
  · rw [rm_ids]
    exact del_to (ids_key G) (G.pi.trans (perm_ne (·.1) hki hu))
  · rw [rm_own]
    have hx' : owP x ∈ S.own := List.mem_map.2 ⟨x, hx, rfl⟩
    exact del_to (own_key G) (G.po.trans (perm_ne (fun p : Int × Value => p.1) hko hx'))
  · unfold gsD TS.gs
    rw [rm_sl]
    by_cases h : x.f1 = 1
    · rw [if_pos h]
      have hsl : x ∈ S.sl := List.mem_filter.2 ⟨hx, by simpa using h⟩
      have hn : (S.sl.map (fun y => y.f0)).Nodup := G.ni.sublist ((List.filter_sublist (l := S.all)).map _)
      have hp := (perm_ne (fun y : Tm => y.f0) hn hsl).map gsP
      exact del_to (gs_key G) (G.pg.trans hp)
    · rw [if_neg h, filter_none (fun y : Tm => y.f0)]
      · exact G.pg
      · intro y hy e
        have h1 := List.mem_filter.1 hy
        have := nodup_inj (fun y : Tm => y.f0) G.ni h1.1 hx e
        rw [this] at h1
        exact h (by simpa using h1.2)
  · rw [rm_all]
    exact G.ni.sublist ((List.filter_sublist (l := S.all)).map _)
  · rw [rm_sl]
    exact G.ng.sublist ((List.filter_sublist (l := S.sl)).map _)
  · intro n hn
    exact G.hd n (List.mem_filter.1 hn).1
  · intro n hn
    exact G.nd n (List.mem_filter.1 hn).1
  · intro y hy
    exact G.idl y (hsub y hy)
  · intro n hn
    exact G.num n (List.mem_filter.1 hn).1
  · rw [rm_all]
    exact Nat.le_trans (List.length_filter_le _ _) G.len
theorem rm_hp {S : TS} {ids own : List (Int × Value)} {gs : List ((Int × Int) × Value)} (G : Good S ids own gs) {n : NI} (hn : n ∈ S.hp) : S.hp.Perm (n :: (S.rm n.val.f0).hp) ∧ (S.rm n.val.f0).nv = S.nv := by
  refine ⟨perm_ne (fun n : NI => n.val.f0) (hp_key G) hn, filter_none (fun x : Tm => x.f0) (fun y hy e => ?_)⟩
  have := G.ni
  unfold TS.all at this
  rw [List.map_append, List.nodup_append] at this
  exact this.2.2 n.val.f0 (List.mem_map.2 ⟨n.val, List.mem_map.2 ⟨n, hn, rfl⟩, rfl⟩) y.f0 (List.mem_map.2 ⟨y, hy, rfl⟩) e.symm
theorem rm_nv {S : TS} {ids own : List (Int × Value)} {gs : List ((Int × Int) × Value)} (G : Good S ids own gs) {x : Tm} (hx : x ∈ S.nv) : (S.rm x.f0).hp = S.hp := by
  refine filter_none (fun n : NI => n.val.f0) (fun n hn e => ?_)
  have := G.ni
  unfold TS.all at this
  rw [List.map_append, List.nodup_append] at this
  exact this.2.2 n.val.f0 (List.mem_map.2 ⟨n.val, List.mem_map.2 ⟨n, hn, rfl⟩, rfl⟩) x.f0 (List.mem_map.2 ⟨x, hx, rfl⟩) e
theorem erase_ne {α : Type} (f : α → Int) : ∀ {l : List α}, (l.map f).Nodup → ∀ {i : Nat} (h : i < l.length), l.eraseIdx i = l.filter (fun y => f y != f l[i])
  | [], _, _, h => absurd h (Nat.not_lt_zero _)
  | a :: r, hn, i, h => by
    rw [List.map_cons, List.nodup_cons] at hn
    cases i with
    | zero =>
      rw [List.filter_cons]
      simp only [List.getElem_cons_zero, bne_self_eq_false, Bool.false_eq_true, if_false, List.eraseIdx_zero, List.tail_cons]
      exact (filter_none f (fun y hy q => hn.1 (List.mem_map.2 ⟨y, hy, q⟩))).symm
    | succ i =>
      have h' : i < r.length := by simpa using h
      rw [List.filter_cons]
      simp only [List.getElem_cons_succ, List.eraseIdx_cons_succ]
      rw [if_pos (by simpa using fun q : f a = f r[i] => hn.1 (List.mem_map.2 ⟨r[i], List.getElem_mem h', q.symm⟩)), erase_ne f hn.2 h']
end Go.Proofs.Ytceopcfmhidjlaa.PTimerPlays
set_option linter.unusedVariables false
set_option linter.unusedSimpArgs false
namespace Go.Proofs.Ytceopcfmhidjlaa.PTimerPlays
open Go.RowKit Go.Proofs.Ytceopcfmhidjlaa.Ef Go.Proofs.Ytceopcfmhidjlaa.Mp Go.Proofs.Ytceopcfmhidjlaa.Hp Go.Proofs.YtceopcfmhidjlaaW.PrintWords Go.Proofs.YtceopcfmhidjlaaW.PrintLast Go.Proofs.YtceopcfmhidjlaaW.PrintMore
set_option maxHeartbeats 4000000 in
set_option maxRecDepth 100000 in
theorem stop_heap (base p : Nat) (ok : Nat → Prop) (S : TS) (n : NI) (w : World) (H : TP w base p ok S) (hx : n ∈ S.hp) (hk : n.val.f1 ≠ 1) :
    Calls Try.prog 14 #[.pointer (some ⟨p, 0, none⟩), .int .i64 n.val.f0] w fun e w' => ∃ ok', e = .returned (.bool true) ∧ TP w' base p ok' (S.rm n.val.f0) ∧ (∀ k, ok' k → ok k ∨ w.heap.size ≤ k) ∧ Fr base ok w w' := by
  have hk' : (n.val.f1 == 1) = false := by simpa using hk
  have hfl := field_kind n.val
  have HK := Aside0.mk hk
  have HX := Aside0.mk hx
  have HF0 := Aside0.mk H.fr
  obtain ⟨id, hid⟩ : ∃ i, n.val.f0 = i := ⟨_, rfl⟩
  have HI := Aside0.mk hid
  rw [hid]
  have HT := Aside0.mk H
  obtain ⟨P, v, ids, own, gs, rfl, rfl, hA, hG⟩ := H
  have hg : Mp.get id ids = some (plc n.num false) ∧ Mp.get id own = some (.agg (cT n.val)) := by rw [← hid]; exact see_h hG hx
  clear hx hk hid
  have HH := Aside0.mk hA
  have HG := Aside0.mk hg
  have HQ := Aside0.mk hG
  clear hA hG hg
  go_enter Try.func14, Try.ntmps14
  go_wp2_with (first
    | ((with_reducible refine gate_dst (N := 3) rfl ?_); refine box_event ?hg (N := 3) ?hd (cs := #[.int .i64 id]) (t := 2) ?hr ?_; (case hd => rfl); (case hg => rfl); (case hr => first | (go_simp; done) | (go_simp; rfl)); intro g3 hg3 w1 hbox hb; have HB := Aside0.mk hb; have HG3 := Aside0.mk (show w.heap.size ≤ g3 by omega); have HA1 := Aside0.mk (HH.out.below hb); have HT1 := Aside0.mk (HT.out.below hb); have B3 := Aside0.mk hbox; have pi : w1.cell? ⟨P.p, 4, none⟩ = some (.map (some P.bi)) := (blk_cell HA1.out.blk 4).trans rfl; have y0 : w1.cell? ⟨g3, 0, none⟩ = some (.int .i64 id) := (blk_cell hbox 0).trans rfl; clear hb hbox hg3)
    | (go_at_call 26; (refine (is_calls base P.p P.ok S _ HT1.out).mono ?_); rintro e w1' ⟨rfl, rfl⟩))
  have hlk0 := look_ids HA1.out (Below.refl _ _) HG.out.1
  have hlk1 := look_ids HA1.out (below_drew (Below.refl _ _)) HG.out.1
  have hlk2 := fun o => look_ids HA1.out (below_alloc (Below.refl _ w1) o) HG.out.1
  have hlk3 := fun o => look_ids HA1.out (below_drew (below_alloc (Below.refl _ w1) o)) HG.out.1
  have hK : ∀ o, (w1.alloc o).cell? ⟨P.p, 4, none⟩ = some (.map (some P.bi)) ∧ (w1.alloc o).cell? ⟨g3, 0, none⟩ = some (.int .i64 id) := fun o => ⟨((below_alloc (Below.refl _ _) o).cell (p := ⟨P.p, 4, none⟩) (blk_lt HA1.out.blk)).trans pi, ((below_alloc (Below.refl _ _) o).cell (p := ⟨g3, 0, none⟩) (blk_lt B3.out)).trans y0⟩
  simp only [Option.getD_some, Option.isSome_some] at hlk0 hlk1 hlk2 hlk3
  go_region_held3 (fun w' => w'.cell? ⟨P.p, 4, none⟩ = some (.map (some P.bi)) ∧ w'.cell? ⟨g3, 0, none⟩ = some (.int .i64 id)) (first | go_keep | exact hK _) (fail)
  all_goals
    have hbd := below_drew (below_alloc (Below.refl w1.heap.size w1) (.cells #[.int .i64 n.num, .bool false] 73 (0, 0)))
    have HB2 := Aside0.mk (HB.out.trans (below_up hbd HB.out.size))
    have HA2 := Aside0.mk (HA1.out.below hbd)
    have B32 := Aside0.mk (blk_below B3.out hbd)
    have B5 : Aside0 ((w1.alloc (.cells #[.int .i64 n.num, .bool false] 73 (0, 0))).drew.heap[w1.heap.size]? = some (.cells #[.int .i64 n.num, .bool false] 73 (0, 0))) := ⟨blk_new _ _⟩
    have HG5 := Aside0.mk HB.out.size
    clear hlk0 hlk1 hlk2 hlk3 hK pi y0 hbd HA1 HT1 B3 HB
    rename_i hHeld
    clear hHeld
    generalize (w1.alloc (.cells #[.int .i64 n.num, .bool false] 73 (0, 0))).drew = w2 at *
    generalize w1.heap.size = g5 at *
    go_wp2
    have po : w2.cell? ⟨P.p, 5, none⟩ = some (.map (some P.bo)) := (blk_cell HA2.out.blk 5).trans rfl
    have y0 : w2.cell? ⟨g3, 0, none⟩ = some (.int .i64 id) := (blk_cell B32.out 0).trans rfl
    have hlo0 := look_own HA2.out (Below.refl _ _) HG.out.2
    have hlo1 := look_own HA2.out (below_drew (Below.refl _ _)) HG.out.2
    simp only [Option.getD_some, cT] at hlo0 hlo1
    go_region
    all_goals
      have HA3 := Aside0.mk HA2.out.drew
      have B33 : Aside0 (w2.drew.heap[g3]? = some (.cells #[.int .i64 id] 2 (0, 0))) := ⟨B32.out⟩
      have B53 : Aside0 (w2.drew.heap[g5]? = some (.cells _ 73 (0, 0))) := ⟨B5.out⟩
      have HB3 := Aside0.mk (below_drew HB2.out)
      clear po y0 hlo0 hlo1 HA2 B32 B5 HB2
      generalize w2.drew = w3 at *
      have HF3 := Aside0.mk (HF0.out.below HB3.out)
      have HNo := Aside0.mk (HH.out.new HG3.out)
      have pq : w3.cell? ⟨P.p, 2, none⟩ = some (.pointer (some ⟨P.q, 0, none⟩)) := (blk_cell HA3.out.blk 2).trans rfl
      have z0 : w3.cell? ⟨g5, 0, none⟩ = some (.int .i64 n.num) := (blk_cell B53.out 0).trans rfl
      have z1 : w3.cell? ⟨g5, 1, none⟩ = some (.bool false) := (blk_cell B53.out 1).trans rfl
      go_wp2
      go_still_tail 6, (by kernel_rfl)
      change wpList _ _ _ _ _ w3.drew
      have HA3d := Aside0.mk HA3.out.drew
      have HF3d := Aside0.mk HF3.out.drew
      have B33d : Aside0 (w3.drew.heap[g3]? = some (.cells #[.int .i64 id] 2 (0, 0))) := ⟨B33.out⟩
      have HLen := Aside0.mk HQ.out.len
      clear pq z0 z1 HA3 HF3 B33 B53 HB3
      generalize w3.drew = w4 at *
      go_wp2_with (go_at_call 30; (refine (HP.drop base P.q P.H S.hp (S.rm n.val.f0).hp S.next n _ HA3d.out.heap (rm_hp HQ.out HX.out).1 (by have := HLen.out; simp [TS.all] at this; omega)).mono ?_); rintro e w5 ⟨rfl, hh, hF⟩; have HA5 := Aside0.mk (HA3d.out.heaped hh hF.k (fun k q => .inl q)); have HF5 := Aside0.mk (HF3d.out.then_ hF (Nat.le_refl _) (fun k q => .inl (.inr (.inr (.inr (.inr (.inl q))))))); have B35 := Aside0.mk (hF.blk B33d.out (fun q => HNo.out (.inr (.inr (.inr (.inr (.inl q))))))); clear hh hF HA3d HF3d B33d)
      have pi : w5.cell? ⟨P.p, 4, none⟩ = some (.map (some P.bi)) := (blk_cell HA5.out.blk 4).trans rfl
      have y0 : w5.cell? ⟨g3, 0, none⟩ = some (.int .i64 id) := (blk_cell B35.out 0).trans rfl
      go_wp2
      go_still_tail 5, (by kernel_rfl)
      change wpList _ _ _ _ _ w5.drew
      have HA5d := Aside0.mk HA5.out.drew
      have HF5d := Aside0.mk HF5.out.drew
      have B35d : Aside0 (w5.drew.heap[g3]? = some (.cells #[.int .i64 id] 2 (0, 0))) := ⟨B35.out⟩
      clear pi y0 HA5 HF5 B35
      generalize w5.drew = w6 at *
      go_wp2_with ((with_reducible refine gate_del (args := #[.tmp 52, .tmp 53]) rfl ?_); refine step_delS keyL Try.underlying54 rfl rfl HA5d.out.mi id rfl rfl ?_; intro w7 hm hgr hs; have HA7 := Aside0.mk (HA5d.out.ided hm hgr); have HF7 := Aside0.mk (HF5d.out.grown hgr (.inl (.inr (.inl rfl)))); have B37 := Aside0.mk (blk_grown B35d.out hgr (fun e => HNo.out (.inr (.inl (Option.some.inj e))))); clear hm hgr hs HA5d HF5d B35d)
      have po : w7.cell? ⟨P.p, 5, none⟩ = some (.map (some P.bo)) := (blk_cell HA7.out.blk 5).trans rfl
      have y0 : w7.cell? ⟨g3, 0, none⟩ = some (.int .i64 id) := (blk_cell B37.out 0).trans rfl
      go_still_tail 5, (by kernel_rfl)
      change wpList _ _ _ _ _ w7.drew
      have HA7d := Aside0.mk HA7.out.drew
      have HF7d := Aside0.mk HF7.out.drew
      clear po y0 HA7 HF7 B37
      generalize w7.drew = w8 at *
      go_wp2_with ((with_reducible refine gate_del (args := #[.tmp 57, .tmp 58]) rfl ?_); refine step_delS keyL Try.underlying55 rfl rfl HA7d.out.mo id rfl rfl ?_; intro w9 hm hgr hs; have HA9 := Aside0.mk (HA7d.out.owned hm hgr); have HF9 := Aside0.mk (HF7d.out.grown hgr (.inl (.inr (.inr (.inl rfl))))); clear hm hgr hs HA7d HF7d)
      go_ret
      have hG := HQ.out.rm (x := n.val) (List.mem_append.2 (.inl (List.mem_map.2 ⟨n, HX.out, rfl⟩)))
      rw [show gsD n.val gs = gs from if_neg HK.out, HI.out] at hG
      have h2 := (rm_hp HQ.out HX.out).2
      have hA := HA9.out
      rw [← h2, HI.out] at hA
      exact ⟨P.ok, rfl, ⟨P, v, _, _, _, rfl, rfl, hA, hG⟩, fun k q => .inl q, HF9.out⟩
end Go.Proofs.Ytceopcfmhidjlaa.PTimerPlays
set_option linter.unusedVariables false
set_option linter.unusedSimpArgs false
namespace Go.Proofs.Ytceopcfmhidjlaa.PTimerPlays
open Go.RowKit Go.Proofs.Ytceopcfmhidjlaa.Ef Go.Proofs.Ytceopcfmhidjlaa.Mp Go.Proofs.Ytceopcfmhidjlaa.Hp Go.Proofs.YtceopcfmhidjlaaW.PrintWords Go.Proofs.YtceopcfmhidjlaaW.PrintLast Go.Proofs.YtceopcfmhidjlaaW.PrintMore
set_option maxHeartbeats 4000000 in
set_option maxRecDepth 100000 in
theorem stop_never (base p : Nat) (ok : Nat → Prop) (S : TS) (x : Tm) (w : World) (H : TP w base p ok S) (hx : x ∈ S.nv) (hk : x.f1 ≠ 1) :
    Calls Try.prog 14 #[.pointer (some ⟨p, 0, none⟩), .int .i64 x.f0] w fun e w' => ∃ ok', e = .returned (.bool true) ∧ TP w' base p ok' (S.rm x.f0) ∧ (∀ k, ok' k → ok k ∨ w.heap.size ≤ k) ∧ Fr base ok w w' := by
  have hk' : (x.f1 == 1) = false := by simpa using hk
  have hfl := field_kind x
  have HK := Aside0.mk hk
  have HX := Aside0.mk hx
  have HF0 := Aside0.mk H.fr
  obtain ⟨id, hid⟩ : ∃ i, x.f0 = i := ⟨_, rfl⟩
  have HI := Aside0.mk hid
  rw [hid]
  have HT := Aside0.mk H
  obtain ⟨P, v, ids, own, gs, rfl, rfl, hA, hG⟩ := H
  obtain ⟨gr, cap, rfl, hgr1, hgr2, -⟩ := Kd.R_form hA.row (List.length_pos_of_mem hx)
  clear hgr1 hgr2
  have hg : Mp.get id ids = some (plc 0 true) ∧ Mp.get id own = some (.agg (cT x)) := by rw [← hid]; exact see_v hG hx
  obtain ⟨i0, hi0, hxi⟩ := List.getElem_of_mem hx
  have HXi := Aside0.mk hxi
  have HLn : Aside0 (S.nv.length ≤ 1024) := ⟨by have := hG.len; simp [TS.all] at this; omega⟩
  have HNe : Aside0 (∀ j, j < S.nv.length → j ≠ i0 → (tn S.nv j).f0 ≠ id) := ⟨fun j hj hne e => by
    have hn := nv_key hG
    rw [List.nodup_iff_pairwise_ne, List.pairwise_iff_getElem] at hn
    have e1 : tn S.nv j = S.nv[j] := by unfold tn; rw [List.getElem?_eq_getElem hj]; rfl
    rw [e1] at e
    have e2 : S.nv[i0].f0 = id := by rw [hxi, hid]
    rcases Nat.lt_or_gt_of_ne hne with q | q
    · exact hn j i0 (by simpa using hj) (by simpa using hi0) q (by rw [List.getElem_map, List.getElem_map, e, e2])
    · exact hn i0 j (by simpa using hi0) (by simpa using hj) q (by rw [List.getElem_map, List.getElem_map, e, e2])⟩
  have HTn : Aside0 ((tn S.nv i0).f0 = id) := ⟨by unfold tn; rw [List.getElem?_eq_getElem hi0, Option.getD_some, hxi, hid]⟩
  clear hx hk hid hxi
  have HH := Aside0.mk hA
  have HG := Aside0.mk hg
  have HQ := Aside0.mk hG
  clear hA hG hg
  go_enter Try.func14, Try.ntmps14
  go_wp2_with (first
    | ((with_reducible refine gate_dst (N := 3) rfl ?_); refine box_event ?hg (N := 3) ?hd (cs := #[.int .i64 id]) (t := 2) ?hr ?_; (case hd => rfl); (case hg => rfl); (case hr => first | (go_simp; done) | (go_simp; rfl)); intro g3 hg3 w1 hbox hb; have HB := Aside0.mk hb; have HG3 := Aside0.mk (show w.heap.size ≤ g3 by omega); have HA1 := Aside0.mk (HH.out.below hb); have HT1 := Aside0.mk (HT.out.below hb); have B3 := Aside0.mk hbox; have pi : w1.cell? ⟨P.p, 4, none⟩ = some (.map (some P.bi)) := (blk_cell HA1.out.blk 4).trans rfl; have y0 : w1.cell? ⟨g3, 0, none⟩ = some (.int .i64 id) := (blk_cell hbox 0).trans rfl; clear hb hbox hg3)
    | (go_at_call 26; (refine (is_calls base P.p P.ok S _ HT1.out).mono ?_); rintro e w1' ⟨rfl, rfl⟩))
  have hlk0 := look_ids HA1.out (Below.refl _ _) HG.out.1
  have hlk1 := look_ids HA1.out (below_drew (Below.refl _ _)) HG.out.1
  have hlk2 := fun o => look_ids HA1.out (below_alloc (Below.refl _ w1) o) HG.out.1
  have hlk3 := fun o => look_ids HA1.out (below_drew (below_alloc (Below.refl _ w1) o)) HG.out.1
  have hK : ∀ o, (w1.alloc o).cell? ⟨P.p, 4, none⟩ = some (.map (some P.bi)) ∧ (w1.alloc o).cell? ⟨g3, 0, none⟩ = some (.int .i64 id) := fun o => ⟨((below_alloc (Below.refl _ _) o).cell (p := ⟨P.p, 4, none⟩) (blk_lt HA1.out.blk)).trans pi, ((below_alloc (Below.refl _ _) o).cell (p := ⟨g3, 0, none⟩) (blk_lt B3.out)).trans y0⟩
  simp only [Option.getD_some, Option.isSome_some] at hlk0 hlk1 hlk2 hlk3
  go_region_held3 (fun w' => w'.cell? ⟨P.p, 4, none⟩ = some (.map (some P.bi)) ∧ w'.cell? ⟨g3, 0, none⟩ = some (.int .i64 id)) (first | go_keep | exact hK _) (fail)
  all_goals
    have hbd := below_drew (below_alloc (Below.refl w1.heap.size w1) (.cells #[.int .i64 0, .bool true] 73 (0, 0)))
    have HB2 := Aside0.mk (HB.out.trans (below_up hbd HB.out.size))
    have HA2 := Aside0.mk (HA1.out.below hbd)
    have B32 := Aside0.mk (blk_below B3.out hbd)
    have B5 : Aside0 ((w1.alloc (.cells #[.int .i64 0, .bool true] 73 (0, 0))).drew.heap[w1.heap.size]? = some (.cells #[.int .i64 0, .bool true] 73 (0, 0))) := ⟨blk_new _ _⟩
    have HG5 := Aside0.mk HB.out.size
    clear hlk0 hlk1 hlk2 hlk3 hK pi y0 hbd HA1 HT1 B3 HB
    rename_i hHeld
    clear hHeld
    generalize (w1.alloc (.cells #[.int .i64 0, .bool true] 73 (0, 0))).drew = w2 at *
    generalize w1.heap.size = g5 at *
    go_wp2
    have po : w2.cell? ⟨P.p, 5, none⟩ = some (.map (some P.bo)) := (blk_cell HA2.out.blk 5).trans rfl
    have y0 : w2.cell? ⟨g3, 0, none⟩ = some (.int .i64 id) := (blk_cell B32.out 0).trans rfl
    have hlo0 := look_own HA2.out (Below.refl _ _) HG.out.2
    have hlo1 := look_own HA2.out (below_drew (Below.refl _ _)) HG.out.2
    simp only [Option.getD_some, cT] at hlo0 hlo1
    go_region
    all_goals
      have HA3 := Aside0.mk HA2.out.drew
      have B33 : Aside0 (w2.drew.heap[g3]? = some (.cells #[.int .i64 id] 2 (0, 0))) := ⟨B32.out⟩
      have B53 : Aside0 (w2.drew.heap[g5]? = some (.cells _ 73 (0, 0))) := ⟨B5.out⟩
      have HB3 := Aside0.mk (below_drew HB2.out)
      clear po y0 hlo0 hlo1 HA2 B32 B5 HB2
      generalize w2.drew = w3 at *
      have HF3 := Aside0.mk (HF0.out.below HB3.out)
      have HNo := Aside0.mk (HH.out.new HG3.out)
      have pv : w3.cell? ⟨P.p, 3, none⟩ = some (.slice (some ⟨gr, 0, none⟩) S.nv.length cap) := (blk_cell HA3.out.blk 3).trans rfl
      have z1 : w3.cell? ⟨g5, 1, none⟩ = some (.bool true) := (blk_cell B53.out 1).trans rfl
      have infoS : (Try.prog.info? 37).map (·.size) = some ([Value.slice none 0 0].length) := by kernel_rfl
      go_wp2_with (first
        | (go_at_call 28; (refine (delete_calls base gr cap g3 P.N S.nv id i0 _ HA3.out.row B33.out (fun q => HNo.out (.inr (.inr (.inr (.inr (.inr q)))))) HA3.out.le (fun k q => HA3.out.fine.low k (.inr (.inr (.inr (.inr (.inr q)))))) (fun k q => HA3.out.fine.bound k (.inr (.inr (.inr (.inr (.inr q)))))) (by have := HLn.out; omega) hi0 HTn.out HNe.out).mono ?_); rintro e w4 ⟨rfl, hr, hF⟩; have HR4 := Aside0.mk hr; have HFr := Aside0.mk hF; have HF4 := Aside0.mk (HF3.out.then_ hF (Nat.le_refl _) (fun k q => .inl (.inr (.inr (.inr (.inr (.inr q))))))); have B34 := Aside0.mk (hF.blk B33.out (fun q => HNo.out (.inr (.inr (.inr (.inr (.inr q))))))); have BP4 := Aside0.mk (hF.blk HA3.out.blk (fun q => (HA3.out.fine.N _ q).1 rfl)); clear hr hF pv z1)
        | ((with_reducible refine gate_store (t := 37) (p := 41) (v := .tmp 39) rfl ?_); refine step_store rfl rfl rfl BP4.out rfl (u := .slice (some ⟨gr, 0, none⟩) (S.nv.length - 1) cap) (seg := [.slice (some ⟨gr, 0, none⟩) (S.nv.length - 1) cap]) rfl rfl infoS (by simp [Value.oneCell']) (by show 3 + 1 ≤ 7; omega) (cur' := cS S.last P.q (.slice (some ⟨gr, 0, none⟩) (S.nv.length - 1) cap) P.bi P.bo P.bg) rfl ?_; intro w5 hb5 hg5 hs5; have HA5 := Aside0.mk (HA3.out.rowed (N' := P.N) hb5 (Kd.R_grown HR4.out hg5 (fun k hk e => by cases e; exact (HA3.out.fine.N _ hk).1 rfl)) (Kept.of_grown hg5 (HFr.out.k.mono (fun k q => .inl q)) (fun k e => .inl (.inr (Option.some.inj e).symm))) (fun k q => ⟨.inl q, Nat.lt_of_lt_of_le (HA3.out.fine.bound k (.inr (.inr (.inr (.inr (.inr q)))))) (Nat.le_trans HFr.out.size hg5.size)⟩)); have HF5 := Aside0.mk (HF4.out.grown hg5 (.inl (.inl rfl))); have B35 := Aside0.mk (blk_grown B34.out hg5 (fun e => HNo.out (.inl (Option.some.inj e)))); clear hb5 hg5 hs5 HA3 HF3 B33 HR4 HFr HF4 B34 BP4))
      have pi : w5.cell? ⟨P.p, 4, none⟩ = some (.map (some P.bi)) := (blk_cell HA5.out.blk 4).trans rfl
      have y0 : w5.cell? ⟨g3, 0, none⟩ = some (.int .i64 id) := (blk_cell B35.out 0).trans rfl
      go_wp2
      go_still_tail 5, (by kernel_rfl)
      change wpList _ _ _ _ _ w5.drew
      have HA5d := Aside0.mk HA5.out.drew
      have HF5d := Aside0.mk HF5.out.drew
      have B35d : Aside0 (w5.drew.heap[g3]? = some (.cells #[.int .i64 id] 2 (0, 0))) := ⟨B35.out⟩
      clear pi y0 HA5 HF5 B35
      generalize w5.drew = w6 at *
      go_wp2_with ((with_reducible refine gate_del (args := #[.tmp 52, .tmp 53]) rfl ?_); refine step_delS keyL Try.underlying54 rfl rfl HA5d.out.mi id rfl rfl ?_; intro w7 hm hgr hs; have HA7 := Aside0.mk (HA5d.out.ided hm hgr); have HF7 := Aside0.mk (HF5d.out.grown hgr (.inl (.inr (.inl rfl)))); have B37 := Aside0.mk (blk_grown B35d.out hgr (fun e => HNo.out (.inr (.inl (Option.some.inj e))))); clear hm hgr hs HA5d HF5d B35d)
      have po : w7.cell? ⟨P.p, 5, none⟩ = some (.map (some P.bo)) := (blk_cell HA7.out.blk 5).trans rfl
      have y0 : w7.cell? ⟨g3, 0, none⟩ = some (.int .i64 id) := (blk_cell B37.out 0).trans rfl
      go_still_tail 5, (by kernel_rfl)
      change wpList _ _ _ _ _ w7.drew
      have HA7d := Aside0.mk HA7.out.drew
      have HF7d := Aside0.mk HF7.out.drew
      clear po y0 HA7 HF7 B37
      generalize w7.drew = w8 at *
      go_wp2_with ((with_reducible refine gate_del (args := #[.tmp 57, .tmp 58]) rfl ?_); refine step_delS keyL Try.underlying55 rfl rfl HA7d.out.mo id rfl rfl ?_; intro w9 hm hgr hs; have HA9 := Aside0.mk (HA7d.out.owned hm hgr); have HF9 := Aside0.mk (HF7d.out.grown hgr (.inl (.inr (.inr (.inl rfl))))); clear hm hgr hs HA7d HF7d)
      go_ret
      have hG := HQ.out.rm (x := x) (List.mem_append.2 (.inr HX.out))
      rw [show gsD x gs = gs from if_neg HK.out, HI.out] at hG
      have h2 := rm_nv HQ.out HX.out
      have h3 : (S.rm x.f0).nv = S.nv.eraseIdx i0 := by
        rw [erase_ne (fun y : Tm => y.f0) (nv_key HQ.out) hi0, HXi.out]
        rfl
      have hA := HA9.out
      rw [← h2, ← h3, HI.out] at hA
      exact ⟨P.ok, rfl, ⟨P, _, _, _, _, rfl, rfl, hA, hG⟩, fun k q => .inl q, HF9.out⟩
end Go.Proofs.Ytceopcfmhidjlaa.PTimerPlays

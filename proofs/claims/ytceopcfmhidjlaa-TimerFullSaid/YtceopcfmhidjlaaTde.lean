/- slices.DeleteFunc with Stop's closure, at a row in which just one timer has the number. Conditions: each theorem's own. -/
import Derived.Test.YtceopcfmhidjlaaTix
set_option linter.unusedVariables false
set_option linter.unusedSimpArgs false
namespace Go.Proofs.Ytceopcfmhidjlaa.PTimerPlays
open Go.RowKit Go.Proofs.Ytceopcfmhidjlaa.Ef Go.Proofs.Ytceopcfmhidjlaa.Mp Go.Proofs.Ytceopcfmhidjlaa.Hp Go.Proofs.YtceopcfmhidjlaaW.PrintWords Go.Proofs.YtceopcfmhidjlaaW.PrintLast Go.Proofs.YtceopcfmhidjlaaW.PrintMore

/-- The row when j places have been gone over. -/
def sh (l : List Tm) (i0 j : Nat) : List Tm := (l.take j).eraseIdx i0 ++ l.drop (j - 1)
theorem er_len {l : List Tm} {i0 j : Nat} (h1 : i0 < j) (h2 : j ≤ l.length) : ((l.take j).eraseIdx i0).length = j - 1 := by
  rw [List.length_eraseIdx, List.length_take, Nat.min_eq_left h2, if_pos h1]
theorem sh_len {l : List Tm} {i0 j : Nat} (h1 : i0 < j) (h2 : j ≤ l.length) : (sh l i0 j).length = l.length := by
  unfold sh
  rw [List.length_append, er_len h1 h2, List.length_drop]
  omega
theorem sh_start {l : List Tm} {i0 : Nat} (h : i0 < l.length) : sh l i0 (i0 + 1) = l := by
  unfold sh
  rw [List.take_succ_eq_append_getElem h, List.eraseIdx_append_of_length_le (by simp [Nat.min_eq_left (Nat.le_of_lt h)])]
  simp [Nat.min_eq_left (Nat.le_of_lt h)]
theorem sh_at {l : List Tm} {i0 j : Nat} (h1 : i0 < j) (h2 : j < l.length) : tn (sh l i0 j) j = tn l j := by
  have e := er_len h1 (Nat.le_of_lt h2)
  unfold tn sh
  rw [List.getElem?_append_right (by omega), e, List.getElem?_drop]
  congr 2
  omega
theorem sh_set {l : List Tm} {i0 j : Nat} (h1 : i0 < j) (h2 : j < l.length) : (sh l i0 j).set (j - 1) (tn l j) = sh l i0 (j + 1) := by
  have e := er_len h1 (Nat.le_of_lt h2)
  have hj : tn l j = l[j] := by unfold tn; rw [List.getElem?_eq_getElem h2]; rfl
  unfold sh
  rw [List.set_append_right _ _ (by omega), e, Nat.sub_self, List.take_succ_eq_append_getElem h2, List.eraseIdx_append_of_lt_length (by rw [List.length_take]; omega), hj]
  rw [List.drop_eq_getElem_cons (show j - 1 < l.length by omega)]
  rw [show j + 1 - 1 = j by omega, show j - 1 + 1 = j by omega]
  simp
theorem sh_end {l : List Tm} {i0 : Nat} (h : i0 < l.length) (z : Tm) : ((sh l i0 l.length).set (l.length - 1) z).take (l.length - 1) = l.eraseIdx i0 := by
  have e := er_len h (Nat.le_refl l.length)
  unfold sh
  rw [List.set_append_right _ _ (by omega), List.take_append_of_le_length (by omega), List.take_of_length_le (by omega), List.take_length]
theorem clear_run (w : World) (g off c : Nat) (hc : ∀ j, j < 8 → (w.cell? ⟨g, off + j, none⟩).isSome = true) (hf : ∀ j, j < 8 → w.frozen? ⟨g, off + j, none⟩ = false) (ty : TypeId) :
    (Builtin.clear_ #[37] ty #[.slice (some ⟨g, off, none⟩) 1 c]).run Try.prog w = .ok (.tuple #[]) (w.setCells g off [.int .i64 0, .int .i64 0, .int .i64 0, .int .i64 0, .int .i64 0, .int .u64 0, .bool false, .int .u64 0]) := by
  have h := run_storeCells_cells (P := Try.prog) g off [.int .i64 0, .int .i64 0, .int .i64 0, .int .i64 0, .int .i64 0, .int .u64 0, .bool false, .int .u64 0] 0 w (fun j hj => by simpa using hc j hj) (fun j hj => by simpa using hf j hj) (by simp [Value.oneCell'])
  unfold Builtin.clear_
  simp only [List.getElem?_toArray, List.getElem?_cons_zero, Sem.run_bind, run_underlying Try.underlying37, Result.andThen_ok, zeroT, Sem.run_pure]
  rw [show (Go.Builtin.zeroCells (Value.agg (cT z40)).cells 1).toList = [.int .i64 0, .int .i64 0, .int .i64 0, .int .i64 0, .int .i64 0, .int .u64 0, .bool false, .int .u64 0] from by kernel_rfl]
  simp only [Nat.add_zero] at h
  rw [h]
  rfl
set_option maxHeartbeats 4000000 in
set_option maxRecDepth 100000 in
theorem delete_calls (base g cap g3 : Nat) (ok : Nat → Prop) (l : List Tm) (id : Int) (i0 : Nat) (w : World) (H : kT.R 40 w base ok (.slice (some ⟨g, 0, none⟩) l.length cap) l) (hid : w.heap[g3]? = some (.cells #[.int .i64 id] 2 (0, 0))) (hno : ¬ ok g3)
    (hs : base ≤ w.heap.size) (hS : ∀ k, ok k → base ≤ k) (hB : ∀ k, ok k → k < w.heap.size) (hn : l.length ≤ 1000000000000) (hi : i0 < l.length) (he : (tn l i0).f0 = id) (hb : ∀ j, j < l.length → j ≠ i0 → (tn l j).f0 ≠ id) :
    Calls Try.prog 28 #[.slice (some ⟨g, 0, none⟩) l.length cap, fnV g3] w fun e w' => e = .returned (.slice (some ⟨g, 0, none⟩) (l.length - 1) cap) ∧ kT.R 40 w' base ok (.slice (some ⟨g, 0, none⟩) (l.length - 1) cap) (l.eraseIdx i0) ∧ Fr base ok w w' := by
  have hu37 := Try.underlying37
  have hok : ok g := H.1 g (by simp [Value.ownBlock])
  have hcapn := (Kd.R_reads' H).2.1
  have HC := Aside0.mk (index_calls base g l.length cap g3 ok l id i0 w H ((blk_cell hid 0).trans rfl) (by omega) hi he (fun j hj => hb j (by omega) (by omega)))
  have HR := Aside0.mk H
  have HF := Aside0.mk (Fr.refl hs hS)
  have HX := Aside0.mk hid
  have HN := Aside0.mk hno
  have HO := Aside0.mk hok
  have HNe := Aside0.mk hb
  have HBd := Aside0.mk hB
  have hm1 : (((i0 : Nat) : Int) == -1) = false := by simp
  clear H hid hno hs hS he hb hok hB
  go_enter Try.func28, Try.ntmps28
  go_wp2_with (go_at_call 44; (refine HC.out.mono ?_); rintro e w1 ⟨rfl, hb⟩; have HF1 := Aside0.mk (HF.out.below hb); have HR1 := Aside0.mk (Kd.R_below HR.out hb); have HX1 := Aside0.mk (blk_below HX.out hb); clear hb)
  go_loopw [5, 6, 7] (fun v5 v6 _ wr => ∃ j : Nat, v5 = .int .i64 ((j : Int) - 1) ∧ v6 = .int .i64 (j : Int) ∧ Aside0 (i0 < j ∧ j ≤ l.length) ∧ Aside0 (kT.R 40 wr base ok (.slice (some ⟨g, 0, none⟩) l.length cap) (sh l i0 j)) ∧ Aside0 (Fr base ok w wr)) (fun _ v6 _ _ => (l.length + 1 - (intOf v6).toNat))
  case atStart => exact ⟨i0 + 1, by go_num, by go_num, ⟨by omega, by omega⟩, ⟨by rw [sh_start hi]; exact HR1.out⟩, HF1⟩
  case round =>
    clear HR1 HF1
    obtain ⟨j, rfl, rfl, HJ, HRj, HFj⟩ := hrel
    have hj1 := HJ.out.1
    by_cases hlt : (j : Int) < (l.length : Int)
    · have hjl : j < l.length := by omega
      have hj0 : (0 : Int) ≤ (j : Int) := by omega
      have hj2 : (0 : Int) ≤ (j : Int) - 1 := by omega
      have hj3 : (j : Int) - 1 < (l.length : Int) := by omega
      obtain ⟨x, ex⟩ : ∃ x, tn l j = x := ⟨_, rfl⟩
      obtain ⟨hx0, hx1, hx2, hx3, hx4, hx5, hx6, hx7⟩ := at_rowT HRj.out j hjl
      rw [sh_at hj1 hjl, ex] at hx0 hx1 hx2 hx3 hx4 hx5 hx6 hx7
      have hq : (x.f0 == id) = false := by
        have := HNe.out j hjl (by omega)
        rw [ex] at this
        simpa using this
      have HE := Aside0.mk ex
      clear ex
      go_wp2_with (first
        | ((with_reducible refine gate_dst (N := 7) rfl ?_); refine box_event ?hg (N := 7) ?hd (cs := #[.int .i64 0, .int .i64 0, .int .i64 0, .int .i64 0, .int .i64 0, .int .u64 0, .bool false, .int .u64 0]) (t := 40) ?hr ?_; (case hd => rfl); (case hg => rfl); (case hr => first | (go_simp; done) | (go_simp; rfl)); intro gv hgv w2 hbox hb; have HR2 := Aside0.mk (Kd.R_below HRj.out hb); have HF2 := Aside0.mk (HFj.out.below hb); have BV2 := Aside0.mk hbox; have HV := Aside0.mk (show w.heap.size ≤ gv from by have := HFj.out.size; omega); have HVn := Aside0.mk (show wr.heap.size ≤ gv by omega); clear hb hbox hgv hx0 hx1 hx2 hx3 hx4 hx5 hx6 hx7)
        | ((with_reducible refine gate_store (t := 40) (p := 7) (v := .tmp 25) rfl ?_); refine step_store rfl rfl rfl BV2.out rfl (u := .agg #[.int .i64 x.f0, .int .i64 x.f1, .int .i64 x.f2.f0, .int .i64 x.f2.f1, .int .i64 x.f3, .int .u64 x.f4, .bool x.f5, .int .u64 x.f6]) (seg := [.int .i64 x.f0, .int .i64 x.f1, .int .i64 x.f2.f0, .int .i64 x.f2.f1, .int .i64 x.f3, .int .u64 x.f4, .bool x.f5, .int .u64 x.f6]) rfl rfl (by kernel_rfl) (by simp [Value.oneCell']) (Nat.le_refl 8) (cur' := #[.int .i64 x.f0, .int .i64 x.f1, .int .i64 x.f2.f0, .int .i64 x.f2.f1, .int .i64 x.f3, .int .u64 x.f4, .bool x.f5, .int .u64 x.f6]) rfl ?_; intro w3 hb3 hg3 hs3; have HR3 := Aside0.mk (Kd.R_grown HR2.out hg3 (fun k hk e => by cases e; have := HBd.out _ hk; have := HV.out; omega)); have HF3 := Aside0.mk (HF2.out.grown hg3 (.inr HV.out)); have BV3 := Aside0.mk hb3; clear hb3 hg3 hs3 HR2 HF2 BV2; have v0 : w3.cell? ⟨gv, 0, none⟩ = some (.int .i64 x.f0) := (blk_cell BV3.out 0).trans rfl; have v1 : w3.cell? ⟨gv, 1, none⟩ = some (.int .i64 x.f1) := (blk_cell BV3.out 1).trans rfl; have v2 : w3.cell? ⟨gv, 2, none⟩ = some (.int .i64 x.f2.f0) := (blk_cell BV3.out 2).trans rfl; have v3 : w3.cell? ⟨gv, 3, none⟩ = some (.int .i64 x.f2.f1) := (blk_cell BV3.out 3).trans rfl; have v4 : w3.cell? ⟨gv, 4, none⟩ = some (.int .i64 x.f3) := (blk_cell BV3.out 4).trans rfl; have v5 : w3.cell? ⟨gv, 5, none⟩ = some (.int .u64 x.f4) := (blk_cell BV3.out 5).trans rfl; have v6 : w3.cell? ⟨gv, 6, none⟩ = some (.bool x.f5) := (blk_cell BV3.out 6).trans rfl; have v7 : w3.cell? ⟨gv, 7, none⟩ = some (.int .u64 x.f6) := (blk_cell BV3.out 7).trans rfl)
        | (go_at_call 29; (refine (stop1_calls x g3 id _ ((blk_cell (HF3.out.blk HX.out HN.out) 0).trans rfl)).mono ?_); rw [hq]; rintro e w4 ⟨rfl, hb⟩; have HR4 := Aside0.mk (Kd.R_below HR3.out hb); have HF4 := Aside0.mk (HF3.out.below hb); have BV4 := Aside0.mk (blk_below BV3.out hb); clear hb v0 v1 v2 v3 v4 v5 v6 v7 HR3 HF3 BV3; have v0 : w4.cell? ⟨gv, 0, none⟩ = some (.int .i64 x.f0) := (blk_cell BV4.out 0).trans rfl; have v1 : w4.cell? ⟨gv, 1, none⟩ = some (.int .i64 x.f1) := (blk_cell BV4.out 1).trans rfl; have v2 : w4.cell? ⟨gv, 2, none⟩ = some (.int .i64 x.f2.f0) := (blk_cell BV4.out 2).trans rfl; have v3 : w4.cell? ⟨gv, 3, none⟩ = some (.int .i64 x.f2.f1) := (blk_cell BV4.out 3).trans rfl; have v4 : w4.cell? ⟨gv, 4, none⟩ = some (.int .i64 x.f3) := (blk_cell BV4.out 4).trans rfl; have v5 : w4.cell? ⟨gv, 5, none⟩ = some (.int .u64 x.f4) := (blk_cell BV4.out 5).trans rfl; have v6 : w4.cell? ⟨gv, 6, none⟩ = some (.bool x.f5) := (blk_cell BV4.out 6).trans rfl; have v7 : w4.cell? ⟨gv, 7, none⟩ = some (.int .u64 x.f6) := (blk_cell BV4.out 7).trans rfl)
        | ((with_reducible refine gate_store (t := 40) (p := 33) (v := .tmp 32) rfl ?_); (obtain ⟨c, hcl, hcM, hcc, _⟩ := Kd.R_elem HR4.out default ((j : Int) - 1) hj2 (by omega)); refine Kd.R_store kT (w0 := w4) base rfl rfl 40 (.tmp 33) (.tmp 32) rfl 40 ((j : Int) - 1) 0 (sh l i0 j) x (.agg #[.int .i64 x.f0, .int .i64 x.f1, .int .i64 x.f2.f0, .int .i64 x.f2.f1, .int .i64 x.f3, .int .u64 x.f4, .bool x.f5, .int .u64 x.f6]) [.int .i64 x.f0, .int .i64 x.f1, .int .i64 x.f2.f0, .int .i64 x.f2.f1, .int .i64 x.f3, .int .u64 x.f4, .bool x.f5, .int .u64 x.f6] c _ (fun _ => False) rfl (by show _ = ((j : Int) - 1).toNat * 8 + 0; omega) rfl rfl (by kernel_rfl) (by simp [Value.oneCell']) HR4.out hj2 (by omega) hcl hcc (by show 0 + 8 ≤ 8; omega) (by have hc3 : c.length = 8 := hcl; have h0 : ∀ seg : List Value, seg.length = 8 → c.take 0 ++ seg ++ c.drop (0 + seg.length) = seg := (fun seg hs => by simp [hs, List.drop_of_length_le, hc3]); rw [h0 _ rfl]; exact k40_mkM _ _ _ _) (fun _ h => h.elim) (Below.refl _ _) ?_; intro w5 hrow hb5 hg5; have HR5 : Aside0 (kT.R 40 w5 base ok (.slice (some ⟨g, 0, none⟩) l.length cap) (sh l i0 (j + 1))) := ⟨by { rw [← sh_set hj1 hjl, HE.out]; rw [show ((j : Int) - 1).toNat = j - 1 by omega] at hrow; exact hrow }⟩; have HF5 := Aside0.mk (HF4.out.grown hg5 (.inl HO.out)); clear hrow hb5 hg5 hcM hcc hcl v0 v1 v2 v3 v4 v5 v6 v7 HR4 HF4 BV4))
      go_roundw
      case rel => exact ⟨j + 1, by go_num, by go_num, ⟨by omega, by omega⟩, HR5, HF5⟩
      case measure => simp [intOf]; omega
    · obtain rfl : j = l.length := by have := HJ.out.2; omega
      have hlt' : ¬ ((l.length : Int) < (l.length : Int)) := by omega
      have hc0 : (0 : Int) ≤ (l.length : Int) - 1 := by omega
      have hc1 : (l.length : Int) - 1 ≤ (l.length : Int) := by omega
      have hc2 : (l.length : Int) - 1 ≤ (cap : Int) := by omega
      have hc3 : (l.length : Int) ≤ (cap : Int) := by omega
      clear hlt
      have e1 : ((l.length : Int) - 1).toNat = l.length - 1 := by omega
      have e2 : l.length - (l.length - 1) = 1 := by omega
      obtain ⟨c, hcl, hcM, hcc, hcf⟩ := Kd.R_elem HRj.out default ((l.length : Int) - 1) hc0 (by omega)
      have hcl8 : c.length = 8 := hcl
      have hR := Kd.R_seg (okp := fun _ => False) HRj.out ((l.length : Int) - 1) hc0 (by omega) hcl hcc (j := 0) (seg := [.int .i64 0, .int .i64 0, .int .i64 0, .int .i64 0, .int .i64 0, .int .u64 0, .bool false, .int .u64 0]) (x' := z40) (by show 0 + 8 ≤ 8; omega) (by have h0 : ∀ seg : List Value, seg.length = 8 → c.take 0 ++ seg ++ c.drop (0 + seg.length) = seg := (fun seg hs => by simp [hs, List.drop_of_length_le, hcl8]); rw [h0 _ rfl]; exact k40_mkM _ _ _ _) (fun _ h => h.elim)
      rw [e1] at hR hcc hcf
      have hsz : (l.length - 1) * kT.sz + 0 = (l.length - 1) * 8 := rfl
      rw [hsz] at hR
      have hclr : (Builtin.clear_ #[37] 0 #[.slice (some ⟨g, (l.length - 1) * 8, none⟩) (l.length - (l.length - 1)) (cap - (l.length - 1))]).run Try.prog wr = .ok (.tuple #[]) (wr.setCells g ((l.length - 1) * 8) [.int .i64 0, .int .i64 0, .int .i64 0, .int .i64 0, .int .i64 0, .int .u64 0, .bool false, .int .u64 0]) := by
        rw [e2]
        exact clear_run wr g ((l.length - 1) * 8) (cap - (l.length - 1)) (fun j hj => by have h := hcc j _ (List.getElem?_eq_getElem (by omega)); have h' : wr.cell? ⟨g, (l.length - 1) * 8 + j, none⟩ = _ := h; rw [h']; rfl) (fun j hj => hcf j) 0
      have HR9 := Aside0.mk (Kd.R_take hR.1 (m := l.length - 1) (by rw [List.length_set, sh_len hj1 (Nat.le_refl _)]; omega))
      have HF9 := Aside0.mk (HFj.out.grown hR.2 (.inl HO.out))
      generalize wr.setCells g ((l.length - 1) * 8) [.int .i64 0, .int .i64 0, .int .i64 0, .int .i64 0, .int .i64 0, .int .u64 0, .bool false, .int .u64 0] = w9 at *
      clear hR hcc hcf hcM
      have e3 : ((sh l i0 l.length).set (l.length - 1) z40).take (l.length - 1) = l.eraseIdx i0 := sh_end hj1 _
      rw [e3] at HR9
      clear e2 e3
      go_wp2
      go_ret
      exact ⟨rfl, HR9.out, HF9.out⟩
end Go.Proofs.Ytceopcfmhidjlaa.PTimerPlays

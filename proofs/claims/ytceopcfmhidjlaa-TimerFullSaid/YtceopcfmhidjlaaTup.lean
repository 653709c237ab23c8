/- 'up' lets a node rise: upF, then set. Conditions: each theorem's own. -/
import Derived.Test.YtceopcfmhidjlaaTat
import Derived.Says
import Derived.Test.YtceopcfmhidjlaaPTimerPlaysx3
set_option linter.unusedVariables false
set_option linter.unusedSimpArgs false
namespace Go.Proofs.Ytceopcfmhidjlaa.PTimerPlays
open Go.RowKit Go.Proofs.Ytceopcfmhidjlaa.Ef Go.Proofs.Ytceopcfmhidjlaa.Mp Go.Proofs.Ytceopcfmhidjlaa.Hp Go.Proofs.YtceopcfmhidjlaaW.PrintWords Go.Proofs.YtceopcfmhidjlaaW.PrintLast Go.Proofs.YtceopcfmhidjlaaW.PrintMore

theorem ahead_calls (a b : NI) (r : Bool) (w : World) (h : Hp.ahead a b = r) :
    Calls Try.prog 61 #[.agg #[.int .u64 a.when, .int .i64 a.num, .int .i64 a.val.f0, .int .i64 a.val.f1, .int .i64 a.val.f2.f0, .int .i64 a.val.f2.f1, .int .i64 a.val.f3, .int .u64 a.val.f4, .bool a.val.f5, .int .u64 a.val.f6], .agg #[.int .u64 b.when, .int .i64 b.num, .int .i64 b.val.f0, .int .i64 b.val.f1, .int .i64 b.val.f2.f0, .int .i64 b.val.f2.f1, .int .i64 b.val.f3, .int .u64 b.val.f4, .bool b.val.f5, .int .u64 b.val.f6]] w fun e w' => e = .returned (.bool r) ∧ Below w.heap.size w w' := by
  refine api_Timer_ahead.calls a.when a.num a.val.f0 a.val.f1 a.val.f2.f0 a.val.f2.f1 a.val.f3 a.val.f4 a.val.f5 a.val.f6 b.when b.num b.val.f0 b.val.f1 b.val.f2.f0 b.val.f2.f1 b.val.f3 b.val.f4 b.val.f5 b.val.f6 r w ?_
  rw [← h]
  unfold api_Timer_ahead.f Hp.ahead
  by_cases h1 : a.when < b.when
  · rw [if_pos h1]; simp [h1]
  · rw [if_neg h1]
    by_cases h2 : a.when = b.when
    · rw [if_pos h2]; simp [h2]
    · rw [if_neg h2]; simp [h1, h2]

theorem par_cast {i : Nat} (h : 0 < i) : ((i : Int) - 1) / 4 = (par i : Int) := by unfold par; omega

set_option maxHeartbeats 1000000 in
set_option maxRecDepth 100000 in
theorem up_calls (base p mb : Nat) (v : Value) (ok : Nat → Prop) (l : List NI) (m : List (Int × Int)) (next : Int) (i : Nat) (w : World) (H : HeapAt w base p mb v ok l m next) (h1 : i < l.length) :
    Calls Try.prog 47 #[.pointer (some ⟨p, 0, none⟩), .int .i64 (i : Int)] w fun e w' => e = .returned (.tuple #[]) ∧ HeapAt w' base p mb v ok (upA l m i).1 (upA l m i).2 next ∧ Fr base ok w w' := by
  have HH := Aside0.mk H
  obtain ⟨g, cap, rfl, hbg, hgl, cells0, hg0⟩ := Kd.R_form H.row (by omega)
  have hlen := (Kd.R_reads' HH.out.row).2.2.2.1
  have hi1 : (i : Int) < (l.length : Int) := by omega
  obtain ⟨hx0, hx1, hx2, hx3, hx4, hx5, hx6, hx7, hx8, hx9⟩ := at_row H.row i h1
  have hp0 : w.cell? ⟨p, 0, none⟩ = some (.slice (some ⟨g, 0, none⟩) l.length cap) := (blk_cell H.blk 0).trans rfl
  have HF := Aside0.mk (Fr.refl H.le H.low)
  clear H hg0
  go_enter Try.func47, Try.ntmps47
  go_wp2_with (first
    | ((with_reducible refine gate_dst (N := 4) rfl ?_); refine box_event ?hg (N := 4) ?hd (cs := #[.int .u64 0, .int .i64 0, .int .i64 0, .int .i64 0, .int .i64 0, .int .i64 0, .int .i64 0, .int .u64 0, .bool false, .int .u64 0]) (t := 105) ?hr ?_; (case hd => rfl); (case hg => rfl); (case hr => first | (go_simp; done) | (go_simp; rfl)); intro gn hgn w2 hbox hb; have HFa := Aside0.mk (HF.out.below hb); have HAa := Aside0.mk (HH.out.below hb); have BK1 := Aside0.mk hbox; have HN := Aside0.mk (show w.heap.size ≤ gn by omega); clear hb hbox hgn hx0 hx1 hx2 hx3 hx4 hx5 hx6 hx7 hx8 hx9 hp0)
    | ((with_reducible refine gate_store (t := 105) (p := 4) (v := .tmp 12) rfl ?_); go_loud (refine step_store rfl rfl rfl BK1.out rfl (u := .agg (cN (nd l i))) (seg := (cN (nd l i)).toList) rfl rfl (by kernel_rfl) (by simp [Value.oneCell']) (Nat.le_refl 10) (cur' := cN (nd l i)) rfl ?_); intro w3 hb3 hg3 hs3; have HF1 := Aside0.mk (HFa.out.grown hg3 (.inr HN.out)); have BK := Aside0.mk hb3; have HA := Aside0.mk (HAa.out.grown hg3 (HH.out.new HN.out)); clear hb3 hg3 hs3 BK1 HFa HAa))
  simp only [Act.put, List.setIfInBounds_toArray, List.set_cons_succ, List.set_cons_zero]
  go_loopw [1] (fun v1 wr => ∃ (j k : Nat) (l1 : List NI) (m1 : List (Int × Int)), v1 = .int .i64 (j : Int) ∧ Aside0 (j ≤ k ∧ j < l1.length ∧ l1.length = l.length) ∧ Aside0 (upF k l1 m1 j (nd l i) = upF i l m i (nd l i)) ∧ Aside0 (HeapAt wr base p mb (.slice (some ⟨g, 0, none⟩) l.length cap) ok l1 m1 next) ∧ Aside0 (Fr base ok w wr) ∧ Aside0 (wr.heap[gn]? = some (.cells (cN (nd l i)) 105 (0, 0)))) (fun v1 _ => (intOf v1).toNat)
  case atStart => exact ⟨i, i, l, m, rfl, ⟨Nat.le_refl _, h1, rfl⟩, ⟨rfl⟩, HA, HF1, BK⟩
  case round =>
    clear HF1 BK HF HA
    obtain ⟨j, k, l1, m1, rfl, HJ, HU, HA, HF, BK⟩ := hrel
    have hj := HJ.out.2.1
    have hl1 := HJ.out.2.2
    have hn0 : wr.cell? ⟨gn, 0, none⟩ = some (.int .u64 (nd l i).when) := (blk_cell BK.out 0).trans rfl
    have hn1 : wr.cell? ⟨gn, 1, none⟩ = some (.int .i64 (nd l i).num) := (blk_cell BK.out 1).trans rfl
    have hn2 : wr.cell? ⟨gn, 2, none⟩ = some (.int .i64 (nd l i).val.f0) := (blk_cell BK.out 2).trans rfl; have hn3 : wr.cell? ⟨gn, 3, none⟩ = some (.int .i64 (nd l i).val.f1) := (blk_cell BK.out 3).trans rfl; have hn4 : wr.cell? ⟨gn, 4, none⟩ = some (.int .i64 (nd l i).val.f2.f0) := (blk_cell BK.out 4).trans rfl; have hn5 : wr.cell? ⟨gn, 5, none⟩ = some (.int .i64 (nd l i).val.f2.f1) := (blk_cell BK.out 5).trans rfl; have hn6 : wr.cell? ⟨gn, 6, none⟩ = some (.int .i64 (nd l i).val.f3) := (blk_cell BK.out 6).trans rfl; have hn7 : wr.cell? ⟨gn, 7, none⟩ = some (.int .u64 (nd l i).val.f4) := (blk_cell BK.out 7).trans rfl; have hn8 : wr.cell? ⟨gn, 8, none⟩ = some (.bool (nd l i).val.f5) := (blk_cell BK.out 8).trans rfl; have hn9 : wr.cell? ⟨gn, 9, none⟩ = some (.int .u64 (nd l i).val.f6) := (blk_cell BK.out 9).trans rfl
    by_cases h0 : j = 0
    · subst h0
      have HE : Aside0 ((l1, m1, 0) = upF i l m i (nd l i)) := ⟨by rw [← HU.out]; cases k <;> rfl⟩
      go_wp2_with fail
      refine (set_calls base p mb _ ok l1 m1 next (0 : Nat) (nd l i) _ HA.out (by omega) (by omega)).mono ?_
      rintro e w4 ⟨rfl, hA, hF⟩
      go_wp2
      go_end0
      refine ⟨rfl, ?_, HF.out.then_ hF (Nat.le_refl _) (fun k q => .inl q)⟩
      unfold upA put
      rw [← HE.out]
      exact hA
    · have h0' : (0 : Int) < (j : Int) := by omega
      have hpj := par_lt (i := j) (by omega)
      have hp0 : wr.cell? ⟨p, 0, none⟩ = some (.slice (some ⟨g, 0, none⟩) l.length cap) := (blk_cell HA.out.blk 0).trans rfl
      obtain ⟨y0, y1, y2, y3, y4, y5, y6, y7, y8, y9⟩ := at_row HA.out.row (par j) (by omega)
      obtain ⟨x, HX⟩ : ∃ x, Aside0 (nd l1 (par j) = x) := ⟨_, ⟨rfl⟩⟩
      rw [HX.out] at y0 y1 y2 y3 y4 y5 y6 y7 y8 y9
      have HPJ : Aside0 (((j : Int) - 1) / 4 = (par j : Int)) := ⟨par_cast (by omega)⟩
      have q1 : (0 : Int) ≤ ((j : Int) - 1) / 4 := by omega
      have q2 : ((j : Int) - 1) / 4 < (l.length : Int) := by have := HPJ.out; omega
      have HPT : Aside0 ((((j : Int) - 1) / 4).toNat = par j) := ⟨by rw [HPJ.out]; rfl⟩
      rw [← HPT.out] at y0 y1 y2 y3 y4 y5 y6 y7 y8 y9
      by_cases ha : Hp.ahead (nd l i) x = true
      all_goals
        have HAh := Aside0.mk ha
        clear ha
      · go_wp2_with fail
        go_still_tail 8, (by kernel_rfl)
        change wpList _ _ _ _ _ wr.drew
        have HA1 := Aside0.mk HA.out.drew
        have HF1 := Aside0.mk HF.out.drew
        have BK1 : Aside0 (wr.drew.heap[gn]? = some (.cells (cN (nd l i)) 105 (0, 0))) := ⟨BK.out⟩
        generalize wr.drew = w3 at *
        clear hp0 hn0 hn1 hn2 hn3 hn4 hn5 hn6 hn7 hn8 hn9 y0 y1 y2 y3 y4 y5 y6 y7 y8 y9 HA HF BK
        go_wp2_with (first
          | (go_at_call 61; (refine (ahead_calls (nd l i) x true _ HAh.out).mono ?_); rintro e w5 ⟨rfl, hb⟩; have HA2 := Aside0.mk (HA1.out.below hb); have HF2 := Aside0.mk (HF1.out.below hb); have BK2 := Aside0.mk (blk_below BK1.out hb); clear hb HA1 HF1 BK1; have hp0 : w5.cell? ⟨p, 0, none⟩ = some (.slice (some ⟨g, 0, none⟩) l.length cap) := (blk_cell HA2.out.blk 0).trans rfl; obtain ⟨y0, y1, y2, y3, y4, y5, y6, y7, y8, y9⟩ := at_row HA2.out.row (par j) (by omega); rw [HX.out] at y0 y1 y2 y3 y4 y5 y6 y7 y8 y9; unfold par at y0 y1 y2 y3 y4 y5 y6 y7 y8 y9)
          | (go_at_call 46; (refine (set_calls base p mb _ ok l1 m1 next (j : Int) x _ HA2.out (by omega) (by omega)).mono ?_); rintro e w6 ⟨rfl, hA, hF⟩; have HA3 := Aside0.mk hA; have HF3 := Aside0.mk (HF2.out.then_ hF (Nat.le_refl _) (fun k q => .inl q)); have BK3 := Aside0.mk (hF.blk BK2.out (HH.out.new HN.out)); clear hA hF hp0 y0 y1 y2 y3 y4 y5 y6 y7 y8 y9 HA2 HF2 BK2))
        go_roundw
        case rel =>
          refine ⟨par j, k - 1, l1.set j x, insI x.num j m1, by rw [HPJ.out], ⟨by have := HJ.out; omega, by rw [List.length_set]; omega, by rw [List.length_set]; exact hl1⟩, ⟨?_⟩, ⟨by have := HA3.out; rw [Int.toNat_natCast] at this; exact this⟩, HF3, BK3⟩
          obtain ⟨k', rfl⟩ : ∃ k', k = k' + 1 := ⟨k - 1, by have := HJ.out; omega⟩
          have hu := HU.out
          rw [upF, if_neg h0, HX.out, if_pos HAh.out] at hu
          exact hu
        case measure => simp [intOf]; omega
      · have HAf : Aside0 (Hp.ahead (nd l i) x = false) := ⟨by simpa using HAh.out⟩
        have HE : Aside0 ((l1, m1, j) = upF i l m i (nd l i)) := ⟨by
          obtain ⟨k', rfl⟩ : ∃ k', k = k' + 1 := ⟨k - 1, by have := HJ.out; omega⟩
          have hu := HU.out
          rw [upF, if_neg h0, HX.out, if_neg HAh.out] at hu
          exact hu⟩
        clear HAh
        go_wp2_with fail
        go_still_tail 8, (by kernel_rfl)
        change wpList _ _ _ _ _ wr.drew
        have HA1 := Aside0.mk HA.out.drew
        have HF1 := Aside0.mk HF.out.drew
        have BK1 : Aside0 (wr.drew.heap[gn]? = some (.cells (cN (nd l i)) 105 (0, 0))) := ⟨BK.out⟩
        generalize wr.drew = w3 at *
        clear hp0 hn0 hn1 hn2 hn3 hn4 hn5 hn6 hn7 hn8 hn9 y0 y1 y2 y3 y4 y5 y6 y7 y8 y9 HA HF BK
        go_wp2_with (first
          | (go_at_call 61; (refine (ahead_calls (nd l i) x false _ HAf.out).mono ?_); rintro e w5 ⟨rfl, hb⟩; have HA2 := Aside0.mk (HA1.out.below hb); have HF2 := Aside0.mk (HF1.out.below hb); have BK2 := Aside0.mk (blk_below BK1.out hb); clear hb HA1 HF1 BK1; have hn0 : w5.cell? ⟨gn, 0, none⟩ = some (.int .u64 (nd l i).when) := (blk_cell BK2.out 0).trans rfl; have hn1 : w5.cell? ⟨gn, 1, none⟩ = some (.int .i64 (nd l i).num) := (blk_cell BK2.out 1).trans rfl; have hn2 : w5.cell? ⟨gn, 2, none⟩ = some (.int .i64 (nd l i).val.f0) := (blk_cell BK2.out 2).trans rfl; have hn3 : w5.cell? ⟨gn, 3, none⟩ = some (.int .i64 (nd l i).val.f1) := (blk_cell BK2.out 3).trans rfl; have hn4 : w5.cell? ⟨gn, 4, none⟩ = some (.int .i64 (nd l i).val.f2.f0) := (blk_cell BK2.out 4).trans rfl; have hn5 : w5.cell? ⟨gn, 5, none⟩ = some (.int .i64 (nd l i).val.f2.f1) := (blk_cell BK2.out 5).trans rfl; have hn6 : w5.cell? ⟨gn, 6, none⟩ = some (.int .i64 (nd l i).val.f3) := (blk_cell BK2.out 6).trans rfl; have hn7 : w5.cell? ⟨gn, 7, none⟩ = some (.int .u64 (nd l i).val.f4) := (blk_cell BK2.out 7).trans rfl; have hn8 : w5.cell? ⟨gn, 8, none⟩ = some (.bool (nd l i).val.f5) := (blk_cell BK2.out 8).trans rfl; have hn9 : w5.cell? ⟨gn, 9, none⟩ = some (.int .u64 (nd l i).val.f6) := (blk_cell BK2.out 9).trans rfl)
          | (go_at_call 46; (refine (set_calls base p mb _ ok l1 m1 next (j : Int) (nd l i) _ HA2.out (by omega) (by omega)).mono ?_); rintro e w6 ⟨rfl, hA, hF⟩; have HA3 := Aside0.mk hA; have HF3 := Aside0.mk (HF2.out.then_ hF (Nat.le_refl _) (fun k q => .inl q)); clear hA hF hn0 hn1 hn2 hn3 hn4 hn5 hn6 hn7 hn8 hn9 HA2 HF2 BK2))
        go_end0
        refine ⟨rfl, ?_, HF3.out⟩
        unfold upA put
        rw [← HE.out]
        have := HA3.out
        rw [Int.toNat_natCast] at this
        exact this
theorem up_calls' (base p mb : Nat) (v : Value) (ok : Nat → Prop) (l : List NI) (m : List (Int × Int)) (next : Int) (i : Nat) (x : Int) (hx : x = (i : Int)) (w : World) (H : HeapAt w base p mb v ok l m next) (h1 : i < l.length) :
    Calls Try.prog 47 #[.pointer (some ⟨p, 0, none⟩), .int .i64 x] w fun e w' => e = .returned (.tuple #[]) ∧ HeapAt w' base p mb v ok (upA l m i).1 (upA l m i).2 next ∧ Fr base ok w w' := by
  subst hx; exact up_calls base p mb v ok l m next i w H h1
end Go.Proofs.Ytceopcfmhidjlaa.PTimerPlays

/- 'down' lets a node sink: downF, then set. Conditions: each theorem's own. -/
import Derived.Test.YtceopcfmhidjlaaTup
set_option linter.unusedVariables false
set_option linter.unusedSimpArgs false
namespace Go.Proofs.Ytceopcfmhidjlaa.PTimerPlays
open Go.RowKit Go.Proofs.Ytceopcfmhidjlaa.Ef Go.Proofs.Ytceopcfmhidjlaa.Mp Go.Proofs.Ytceopcfmhidjlaa.Hp Go.Proofs.YtceopcfmhidjlaaW.PrintWords Go.Proofs.YtceopcfmhidjlaaW.PrintLast Go.Proofs.YtceopcfmhidjlaaW.PrintMore
attribute [local go_sem] max2_int min2_int max_two min_two

theorem best_step (l : List NI) (d k j : Nat) (x y : NI) (hx : nd l j = x) (hy : nd l k = y) (b : Bool) (hb : Hp.ahead x y = b) : best l (d + 1) k j = best l d (if b = true then j else k) (j + 1) := by
  subst hx hy hb; rfl
def lim (len j : Nat) : Nat := min (4 * j + 1 + 4) len
theorem kid_eq (l : List NI) (j : Nat) : kid l j = best l (lim l.length j - (4 * j + 1 + 1)) (4 * j + 1) (4 * j + 1 + 1) := rfl

set_option maxHeartbeats 4000000 in
set_option maxRecDepth 100000 in
theorem down_calls (base p mb : Nat) (v : Value) (ok : Nat → Prop) (l : List NI) (m : List (Int × Int)) (next : Int) (i : Nat) (w : World) (H : HeapAt w base p mb v ok l m next) (h1 : i < l.length) (hsm : l.length ≤ 1000000000000000000) :
    Calls Try.prog 48 #[.pointer (some ⟨p, 0, none⟩), .int .i64 (i : Int)] w fun e w' => e = .returned (.tuple #[]) ∧ HeapAt w' base p mb v ok (downA l m i).1 (downA l m i).2 next ∧ Fr base ok w w' := by
  have HH := Aside0.mk H
  obtain ⟨g, cap, rfl, hbg, hgl, cells0, hg0⟩ := Kd.R_form H.row (by omega)
  have hi1 : (i : Int) < (l.length : Int) := by omega
  obtain ⟨hx0, hx1, hx2, hx3, hx4, hx5, hx6, hx7, hx8, hx9⟩ := at_row H.row i h1
  have hp0 : w.cell? ⟨p, 0, none⟩ = some (.slice (some ⟨g, 0, none⟩) l.length cap) := (blk_cell H.blk 0).trans rfl
  have HF := Aside0.mk (Fr.refl H.le H.low)
  clear H hg0
  go_enter Try.func48, Try.ntmps48
  go_wp2_with (first
    | ((with_reducible refine gate_dst (N := 4) rfl ?_); refine box_event ?hg (N := 4) ?hd (cs := #[.int .u64 0, .int .i64 0, .int .i64 0, .int .i64 0, .int .i64 0, .int .i64 0, .int .i64 0, .int .u64 0, .bool false, .int .u64 0]) (t := 105) ?hr ?_; (case hd => rfl); (case hg => rfl); (case hr => first | (go_simp; done) | (go_simp; rfl)); intro gn hgn w2 hbox hb; have HFa := Aside0.mk (HF.out.below hb); have HAa := Aside0.mk (HH.out.below hb); have BK1 := Aside0.mk hbox; have HN := Aside0.mk (show w.heap.size ≤ gn by omega); clear hb hbox hgn hx0 hx1 hx2 hx3 hx4 hx5 hx6 hx7 hx8 hx9 hp0)
    | ((with_reducible refine gate_store (t := 105) (p := 4) (v := .tmp 14) rfl ?_); refine step_store rfl rfl rfl BK1.out rfl (u := .agg (cN (nd l i))) (seg := (cN (nd l i)).toList) rfl rfl (by kernel_rfl) (by simp [Value.oneCell']) (Nat.le_refl 10) (cur' := cN (nd l i)) rfl ?_; intro w3 hb3 hg3 hs3; have HF1 := Aside0.mk (HFa.out.grown hg3 (.inr HN.out)); have BK := Aside0.mk hb3; have HA := Aside0.mk (HAa.out.grown hg3 (HH.out.new HN.out)); clear hb3 hg3 hs3 BK1 HFa HAa))
  simp only [Act.put, List.setIfInBounds_toArray, List.set_cons_succ, List.set_cons_zero]
  go_loopw [1, 5, 6, 7] (fun v1 _ _ _ wr => ∃ (j k : Nat) (l1 : List NI) (m1 : List (Int × Int)), v1 = .int .i64 (j : Int) ∧ Aside0 (l.length ≤ j + k ∧ j < l1.length ∧ l1.length = l.length) ∧ Aside0 (downF k l1 m1 j (nd l i) = downF (l.length - i) l m i (nd l i)) ∧ Aside0 (HeapAt wr base p mb (.slice (some ⟨g, 0, none⟩) l.length cap) ok l1 m1 next) ∧ Aside0 (Fr base ok w wr) ∧ Aside0 (wr.heap[gn]? = some (.cells (cN (nd l i)) 105 (0, 0)))) (fun v1 _ _ _ _ => l.length - (intOf v1).toNat)
  case atStart => exact ⟨i, l.length - i, l, m, rfl, ⟨by omega, h1, rfl⟩, ⟨rfl⟩, HA, HF1, BK⟩
  case round =>
    clear HF1 BK HF HA
    obtain ⟨j, k, l1, m1, rfl, HJ, HU, HA, HF, BK⟩ := hrel
    have hj := HJ.out.2.1
    have hl1 := HJ.out.2.2
    have hjj : (j : Int) < (l.length : Int) := by omega
    have hp0 : wr.cell? ⟨p, 0, none⟩ = some (.slice (some ⟨g, 0, none⟩) l.length cap) := (blk_cell HA.out.blk 0).trans rfl
    have hn0 : wr.cell? ⟨gn, 0, none⟩ = some (.int .u64 (nd l i).when) := (blk_cell BK.out 0).trans rfl
    have hn1 : wr.cell? ⟨gn, 1, none⟩ = some (.int .i64 (nd l i).num) := (blk_cell BK.out 1).trans rfl
    have hn2 : wr.cell? ⟨gn, 2, none⟩ = some (.int .i64 (nd l i).val.f0) := (blk_cell BK.out 2).trans rfl; have hn3 : wr.cell? ⟨gn, 3, none⟩ = some (.int .i64 (nd l i).val.f1) := (blk_cell BK.out 3).trans rfl; have hn4 : wr.cell? ⟨gn, 4, none⟩ = some (.int .i64 (nd l i).val.f2.f0) := (blk_cell BK.out 4).trans rfl; have hn5 : wr.cell? ⟨gn, 5, none⟩ = some (.int .i64 (nd l i).val.f2.f1) := (blk_cell BK.out 5).trans rfl; have hn6 : wr.cell? ⟨gn, 6, none⟩ = some (.int .i64 (nd l i).val.f3) := (blk_cell BK.out 6).trans rfl; have hn7 : wr.cell? ⟨gn, 7, none⟩ = some (.int .u64 (nd l i).val.f4) := (blk_cell BK.out 7).trans rfl; have hn8 : wr.cell? ⟨gn, 8, none⟩ = some (.bool (nd l i).val.f5) := (blk_cell BK.out 8).trans rfl; have hn9 : wr.cell? ⟨gn, 9, none⟩ = some (.int .u64 (nd l i).val.f6) := (blk_cell BK.out 9).trans rfl
    by_cases h0 : l.length ≤ 4 * j + 1
    · have h0' : (l.length : Int) ≤ 4 * (j : Int) + 1 := by omega
      have HE : Aside0 ((l1, m1, j) = downF (l.length - i) l m i (nd l i)) := ⟨by
        rw [← HU.out]
        cases k with
        | zero => rfl
        | succ k => rw [downF, if_pos (by omega)]⟩
      go_wp2_with fail
      refine (set_calls base p mb _ ok l1 m1 next (j : Int) (nd l i) _ HA.out (by omega) (by omega)).mono ?_
      rintro e w4 ⟨rfl, hA, hF⟩
      go_wp2
      go_end0
      refine ⟨rfl, ?_, HF.out.then_ hF (Nat.le_refl _) (fun k q => .inl q)⟩
      unfold downA put
      rw [← HE.out]
      rw [Int.toNat_natCast] at hA
      exact hA
    · have h0' : 4 * (j : Int) + 1 < (l.length : Int) := by omega
      have hsm' : (l.length : Int) ≤ 1000000000000000000 := by omega
      go_wp2_with fail
      obtain ⟨wo, rfl⟩ : ∃ wo : World, wo = wr := ⟨_, rfl⟩
      clear hn0 hn1 hn2 hn3 hn4 hn5 hn6 hn7 hn8 hn9 hp0
      go_loopw [6, 7] (fun v6 v7 wr => ∃ (kk jj d : Nat), v6 = .int .i64 (kk : Int) ∧ v7 = .int .i64 (jj : Int) ∧ Aside0 (kk < l1.length ∧ kk < jj ∧ jj + d = lim l1.length j) ∧ Aside0 (best l1 d kk jj = kid l1 j) ∧ Aside0 (HeapAt wr base p mb (.slice (some ⟨g, 0, none⟩) l.length cap) ok l1 m1 next) ∧ Aside0 (Fr base ok w wr) ∧ Aside0 (wr.heap[gn]? = some (.cells (cN (nd l i)) 105 (0, 0)))) (fun _ v7 _ => lim l1.length j - (intOf v7).toNat)
      case atStart => exact ⟨4 * j + 1, 4 * j + 1 + 1, lim l1.length j - (4 * j + 1 + 1), by go_num, by go_num, ⟨by omega, by omega, by unfold lim; omega⟩, ⟨rfl⟩, HA, HF, BK⟩
      case round =>
        clear HA HF BK
        obtain ⟨kk, jj, d, rfl, rfl, HK, HB, HA, HF, BK⟩ := hrel
        have hp0 : wr.cell? ⟨p, 0, none⟩ = some (.slice (some ⟨g, 0, none⟩) l.length cap) := (blk_cell HA.out.blk 0).trans rfl
        have hkk := HK.out.1
        have hlim : lim l1.length j ≤ l.length := by unfold lim; omega
        have hlim2 : lim l1.length j ≤ 4 * j + 1 + 4 := by unfold lim; omega
        by_cases hd : d = 0
        · have hjl : lim l1.length j ≤ jj := by have := HK.out; omega
          have hkid : Aside0 (kk = kid l1 j) := ⟨by have := HB.out; rw [hd] at this; exact this⟩
          have hkb : Aside0 (kk < l1.length) := ⟨hkk⟩
          obtain ⟨x, HX⟩ : ∃ x, Aside0 (nd l1 kk = x) := ⟨_, ⟨rfl⟩⟩
          obtain ⟨x0, x1, x2, x3, x4, x5, x6, x7, x8, x9⟩ := at_row HA.out.row kk (by omega)
          rw [HX.out] at x0 x1 x2 x3 x4 x5 x6 x7 x8 x9
          have hn0 : wr.cell? ⟨gn, 0, none⟩ = some (.int .u64 (nd l i).when) := (blk_cell BK.out 0).trans rfl
          have hn1 : wr.cell? ⟨gn, 1, none⟩ = some (.int .i64 (nd l i).num) := (blk_cell BK.out 1).trans rfl
          have hn2 : wr.cell? ⟨gn, 2, none⟩ = some (.int .i64 (nd l i).val.f0) := (blk_cell BK.out 2).trans rfl; have hn3 : wr.cell? ⟨gn, 3, none⟩ = some (.int .i64 (nd l i).val.f1) := (blk_cell BK.out 3).trans rfl; have hn4 : wr.cell? ⟨gn, 4, none⟩ = some (.int .i64 (nd l i).val.f2.f0) := (blk_cell BK.out 4).trans rfl; have hn5 : wr.cell? ⟨gn, 5, none⟩ = some (.int .i64 (nd l i).val.f2.f1) := (blk_cell BK.out 5).trans rfl; have hn6 : wr.cell? ⟨gn, 6, none⟩ = some (.int .i64 (nd l i).val.f3) := (blk_cell BK.out 6).trans rfl; have hn7 : wr.cell? ⟨gn, 7, none⟩ = some (.int .u64 (nd l i).val.f4) := (blk_cell BK.out 7).trans rfl; have hn8 : wr.cell? ⟨gn, 8, none⟩ = some (.bool (nd l i).val.f5) := (blk_cell BK.out 8).trans rfl; have hn9 : wr.cell? ⟨gn, 9, none⟩ = some (.int .u64 (nd l i).val.f6) := (blk_cell BK.out 9).trans rfl
          have c3 : (kk : Int) < (l.length : Int) := by omega
          have hcm : ((l.length : Int) < 4 * (j : Int) + 1 + 4 ∧ (l.length : Int) ≤ (jj : Int)) ∨ (4 * (j : Int) + 1 + 4 ≤ (l.length : Int) ∧ 4 * (j : Int) + 1 + 4 ≤ (jj : Int)) := by unfold lim at hjl; omega
          obtain ⟨b, hb⟩ : ∃ b, Hp.ahead x (nd l i) = b := ⟨_, rfl⟩
          have HBb := Aside0.mk hb
          clear hb
          obtain ⟨k', hk'⟩ : ∃ k', k = k' + 1 := ⟨k - 1, by have := HJ.out; omega⟩
          have HKK := Aside0.mk hk'
          clear hk'
          have HJK : Aside0 (j < kk) := ⟨by rw [hkid.out]; obtain ⟨_, q1, q2, _⟩ := kid_spec l1 j (by omega); have := par_lt q1; omega⟩
          rcases hcm with ⟨e1, e2⟩ | ⟨e1, e2⟩ <;> cases b
          all_goals
            go_wp2_with fail
            go_still_tail 8, (by kernel_rfl)
            change wpList _ _ _ _ _ wr.drew
            have HA1 := Aside0.mk HA.out.drew
            have HF1 := Aside0.mk HF.out.drew
            have BK1 : Aside0 (wr.drew.heap[gn]? = some (.cells (cN (nd l i)) 105 (0, 0))) := ⟨BK.out⟩
            generalize wr.drew = w3 at *
            clear hp0 x0 x1 x2 x3 x4 x5 x6 x7 x8 x9 hn0 hn1 hn2 hn3 hn4 hn5 hn6 hn7 hn8 hn9 HA HF BK
            go_wp2_with (first
              | (go_at_call 61; (refine (ahead_calls x (nd l i) _ _ HBb.out).mono ?_); rintro e w5 ⟨rfl, hb⟩; have HA2 := Aside0.mk (HA1.out.below hb); have HF2 := Aside0.mk (HF1.out.below hb); have BK2 := Aside0.mk (blk_below BK1.out hb); clear hb HA1 HF1 BK1; have hp0 : w5.cell? ⟨p, 0, none⟩ = some (.slice (some ⟨g, 0, none⟩) l.length cap) := (blk_cell HA2.out.blk 0).trans rfl; obtain ⟨x0, x1, x2, x3, x4, x5, x6, x7, x8, x9⟩ := at_row HA2.out.row kk (by omega); rw [HX.out] at x0 x1 x2 x3 x4 x5 x6 x7 x8 x9; have hn0 : w5.cell? ⟨gn, 0, none⟩ = some (.int .u64 (nd l i).when) := (blk_cell BK2.out 0).trans rfl; have hn1 : w5.cell? ⟨gn, 1, none⟩ = some (.int .i64 (nd l i).num) := (blk_cell BK2.out 1).trans rfl; have hn2 : w5.cell? ⟨gn, 2, none⟩ = some (.int .i64 (nd l i).val.f0) := (blk_cell BK2.out 2).trans rfl; have hn3 : w5.cell? ⟨gn, 3, none⟩ = some (.int .i64 (nd l i).val.f1) := (blk_cell BK2.out 3).trans rfl; have hn4 : w5.cell? ⟨gn, 4, none⟩ = some (.int .i64 (nd l i).val.f2.f0) := (blk_cell BK2.out 4).trans rfl; have hn5 : w5.cell? ⟨gn, 5, none⟩ = some (.int .i64 (nd l i).val.f2.f1) := (blk_cell BK2.out 5).trans rfl; have hn6 : w5.cell? ⟨gn, 6, none⟩ = some (.int .i64 (nd l i).val.f3) := (blk_cell BK2.out 6).trans rfl; have hn7 : w5.cell? ⟨gn, 7, none⟩ = some (.int .u64 (nd l i).val.f4) := (blk_cell BK2.out 7).trans rfl; have hn8 : w5.cell? ⟨gn, 8, none⟩ = some (.bool (nd l i).val.f5) := (blk_cell BK2.out 8).trans rfl; have hn9 : w5.cell? ⟨gn, 9, none⟩ = some (.int .u64 (nd l i).val.f6) := (blk_cell BK2.out 9).trans rfl)
              | (go_at_call 46; (refine (set_calls base p mb _ ok l1 m1 next (j : Int) _ _ HA2.out (by omega) (by omega)).mono ?_); rintro e w6 ⟨rfl, hA, hF⟩; have HA3 := Aside0.mk hA; have HF3 := Aside0.mk (HF2.out.then_ hF (Nat.le_refl _) (fun k q => .inl q)); have BK3 := Aside0.mk (hF.blk BK2.out (HH.out.new HN.out)); clear hA hF hp0 x0 x1 x2 x3 x4 x5 x6 x7 x8 x9 hn0 hn1 hn2 hn3 hn4 hn5 hn6 hn7 hn8 hn9 HA2 HF2 BK2))
          all_goals first
            | (go_end0
               refine ⟨rfl, ?_, HF3.out⟩
               have hu := HU.out
               rw [HKK.out, downF, if_neg (by omega), ← hkid.out, HX.out, if_neg (by rw [HBb.out]; decide)] at hu
               unfold downA put
               rw [← hu]
               have := HA3.out
               rw [Int.toNat_natCast] at this
               exact this)
            | (go_roundw
               case rel =>
                 refine ⟨kk, k', l1.set j x, insI x.num j m1, rfl, ⟨by have := HJ.out; have := HKK.out; have := HJK.out; omega, by rw [List.length_set]; exact hkk, by rw [List.length_set]; exact hl1⟩, ⟨?_⟩, ⟨by have := HA3.out; rw [Int.toNat_natCast] at this; exact this⟩, HF3, BK3⟩
                 have hu := HU.out
                 rw [HKK.out, downF, if_neg (by omega), ← hkid.out, HX.out, if_pos HBb.out] at hu
                 exact hu
               case measure => simp [intOf]; have := HJK.out; omega)
        · have hjl : jj < lim l1.length j := by have := HK.out; omega
          obtain ⟨x, HX⟩ : ∃ x, Aside0 (nd l1 jj = x) := ⟨_, ⟨rfl⟩⟩
          obtain ⟨y, HY⟩ : ∃ y, Aside0 (nd l1 kk = y) := ⟨_, ⟨rfl⟩⟩
          obtain ⟨x0, x1, x2, x3, x4, x5, x6, x7, x8, x9⟩ := at_row HA.out.row jj (by omega)
          obtain ⟨y0, y1, y2, y3, y4, y5, y6, y7, y8, y9⟩ := at_row HA.out.row kk (by omega)
          rw [HX.out] at x0 x1 x2 x3 x4 x5 x6 x7 x8 x9
          rw [HY.out] at y0 y1 y2 y3 y4 y5 y6 y7 y8 y9
          have c1 : (jj : Int) < (l.length : Int) := by omega
          have c2 : (jj : Int) < 4 * (j : Int) + 1 + 4 := by omega
          have c3 : (kk : Int) < (l.length : Int) := by omega
          obtain ⟨b, hb⟩ : ∃ b, Hp.ahead x y = b := ⟨_, rfl⟩
          have HBb := Aside0.mk hb
          have HST := Aside0.mk (best_step l1 (d - 1) kk jj x y HX.out HY.out b hb)
          clear hb
          by_cases hm : (l.length : Int) < 4 * (j : Int) + 1 + 4 <;> cases b
          all_goals
            go_wp2_with fail
            go_still_tail 14, (by kernel_rfl)
            change wpList _ _ _ _ _ wr.drew
            have HA1 := Aside0.mk HA.out.drew
            have HF1 := Aside0.mk HF.out.drew
            have BK1 : Aside0 (wr.drew.heap[gn]? = some (.cells (cN (nd l i)) 105 (0, 0))) := ⟨BK.out⟩
            generalize wr.drew = w3 at *
            clear hp0 x0 x1 x2 x3 x4 x5 x6 x7 x8 x9 y0 y1 y2 y3 y4 y5 y6 y7 y8 y9 HA HF BK
            go_wp2_with (first
              | (go_at_call 61; (refine (ahead_calls x y _ _ HBb.out).mono ?_); rintro e w5 ⟨rfl, hb⟩; have HA2 := Aside0.mk (HA1.out.below hb); have HF2 := Aside0.mk (HF1.out.below hb); have BK2 := Aside0.mk (blk_below BK1.out hb); clear hb HA1 HF1 BK1))
            go_roundw
            case rel => exact ⟨_, jj + 1, d - 1, rfl, by go_num, ⟨by first | exact hkk | omega, by have := HK.out; omega, by have := HK.out; omega⟩, ⟨by have h1 := HB.out; have h2 := HST.out; rw [show d - 1 + 1 = d by omega] at h2; rw [← h1, h2]; rfl⟩, HA2, HF2, BK2⟩
            case measure => simp [intOf]; omega
end Go.Proofs.Ytceopcfmhidjlaa.PTimerPlays

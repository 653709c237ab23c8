/- Drop and Pop of a heap. Conditions: each theorem's own. -/
import Derived.Test.YtceopcfmhidjlaaTpu
set_option linter.unusedVariables false
set_option linter.unusedSimpArgs false
namespace Go.Proofs.Ytceopcfmhidjlaa.PTimerPlays
open Go.RowKit Go.Proofs.Ytceopcfmhidjlaa.Ef Go.Proofs.Ytceopcfmhidjlaa.Mp Go.Proofs.Ytceopcfmhidjlaa.Hp Go.Proofs.YtceopcfmhidjlaaW.PrintWords Go.Proofs.YtceopcfmhidjlaaW.PrintLast Go.Proofs.YtceopcfmhidjlaaW.PrintMore

theorem down_calls' (base p mb : Nat) (v : Value) (ok : Nat → Prop) (l : List NI) (m : List (Int × Int)) (next : Int) (i : Nat) (x : Int) (hx : x = (i : Int)) (w : World) (H : HeapAt w base p mb v ok l m next) (h1 : i < l.length) (hsm : l.length ≤ 1000000000000000000) :
    Calls Try.prog 48 #[.pointer (some ⟨p, 0, none⟩), .int .i64 x] w fun e w' => e = .returned (.tuple #[]) ∧ HeapAt w' base p mb v ok (downA l m i).1 (downA l m i).2 next ∧ Fr base ok w w' := by
  subst hx; exact down_calls base p mb v ok l m next i w H h1 hsm
set_option maxHeartbeats 4000000 in
set_option maxRecDepth 100000 in
theorem drop_some (base p mb : Nat) (v : Value) (ok : Nat → Prop) (l : List NI) (m : List (Int × Int)) (next k : Int) (i : Nat) (w : World) (H : HeapAt w base p mb v ok l m next) (hk : getI k m = some (i : Int)) (hi : i < l.length) (hsm : l.length ≤ 1000000000000000000)
    (hup : i < l.length - 1 → ∃ i' : Nat, getI (nd l (l.length - 1)).num (upA ((l.take (l.length - 1)).set i (nd l (l.length - 1))) (insI (nd l (l.length - 1)).num i (delI k m)) i).2 = some (i' : Int) ∧ i' < l.length - 1 ∧ (upA ((l.take (l.length - 1)).set i (nd l (l.length - 1))) (insI (nd l (l.length - 1)).num i (delI k m)) i).1.length = l.length - 1) :
    Calls Try.prog 30 #[.pointer (some ⟨p, 0, none⟩), .int .i64 k] w fun e w' => ∃ v', e = .returned (.tuple #[.int .u64 (nd l i).when, .agg #[.int .i64 (nd l i).val.f0, .int .i64 (nd l i).val.f1, .int .i64 (nd l i).val.f2.f0, .int .i64 (nd l i).val.f2.f1, .int .i64 (nd l i).val.f3, .int .u64 (nd l i).val.f4, .bool (nd l i).val.f5, .int .u64 (nd l i).val.f6], .int .i64 0]) ∧ HeapAt w' base p mb v' ok (dropA l m k i).1 (dropA l m k i).2 next ∧ Fr base ok w w' := by
  have HH := Aside0.mk H
  have HF := Aside0.mk (Fr.refl H.le H.low)
  have HG : Aside0 ((getI k m).isSome = true) := ⟨by rw [hk]; rfl⟩
  have HU := Aside0.mk hup
  have HL : Aside0 ((Mp.get k (m.map kv)).getD (.int .i64 0) = .int .i64 (i : Int)) := ⟨by rw [get_kv, hk]; rfl⟩
  obtain ⟨g, cap, rfl, hbg, hgl, cells0, hg0⟩ := Kd.R_form H.row (by omega)
  have hi1 : (i : Int) < (l.length : Int) := by omega
  obtain ⟨hx0, hx1, hx2, hx3, hx4, hx5, hx6, hx7, hx8, hx9⟩ := at_row H.row i hi
  have hp0 : w.cell? ⟨p, 0, none⟩ = some (.slice (some ⟨g, 0, none⟩) l.length cap) := (blk_cell H.blk 0).trans rfl
  have hp1 : w.cell? ⟨p, 1, none⟩ = some (.map (some mb)) := (blk_cell H.blk 1).trans rfl
  have hcap : (l.length : Int) ≤ (cap : Int) := by have := (Kd.R_reads' H.row).2.1; omega
  have hl1 : (1 : Int) ≤ (l.length : Int) := by omega
  have hl2 : (l.length : Int) - 1 ≤ (cap : Int) := by omega
  clear H hg0 hk hup
  have infoS : (Try.prog.info? 97).map (·.size) = some ([Value.slice none 0 0].length) := by kernel_rfl
  by_cases hlast : (i : Int) < (l.length : Int) - 1
  all_goals
    go_enter Try.func30, Try.ntmps30
    go_wp2_with (first
      | ((with_reducible refine gate_dst (N := 5) rfl ?_); refine box_event ?hg (N := 5) ?hd (cs := #[.int .i64 0, .int .i64 0, .int .i64 0, .int .i64 0, .int .i64 0, .int .u64 0, .bool false, .int .u64 0]) (t := 40) ?hr ?_; (case hd => rfl); (case hg => rfl); (case hr => first | (go_simp; done) | (go_simp; rfl)); intro g5 hg5 w1 hbox hb; have HF0 := Aside0.mk ((Fr.refl HH.out.le HH.out.low).below hb); have B5 := Aside0.mk hbox; have HG5 := Aside0.mk (show w.heap.size ≤ g5 by omega); have HNo := Aside0.mk (show ¬ ok g5 from HH.out.new (by omega)); have HX := HH.out.below hb; clear HH HF hp0 hp1 hx0 hx1 hx2 hx3 hx4 hx5 hx6 hx7 hx8 hx9; have HH := Aside0.mk HX; have HF := Aside0.mk (Fr.refl HX.le HX.low); (obtain ⟨hx0, hx1, hx2, hx3, hx4, hx5, hx6, hx7, hx8, hx9⟩ := at_row HX.row i hi); (have hp0 : w1.cell? ⟨p, 0, none⟩ = some (.slice (some ⟨g, 0, none⟩) l.length cap) := (blk_cell HX.blk 0).trans rfl); (have hp1 : w1.cell? ⟨p, 1, none⟩ = some (.map (some mb)) := (blk_cell HX.blk 1).trans rfl); clear HX hbox hb hg5)
      | (go_at_call 45; (refine (has_calls base p mb _ ok l m next k _ _ HH.out HG.out).mono ?_); rintro e w1' ⟨rfl, rfl⟩)
      | ((with_reducible refine gate_dst (N := 21) rfl ?_); refine step_look keyI Try.underlying96 rfl rfl (zero3 _) HH.out.map k rfl rfl (v := .int .i64 (i : Int)) HL.out ?_)
      | ((with_reducible refine gate_dst (N := 8) rfl ?_); refine box_event ?hg (N := 8) ?hd (cs := #[.int .u64 0, .int .i64 0, .int .i64 0, .int .i64 0, .int .i64 0, .int .i64 0, .int .i64 0, .int .u64 0, .bool false, .int .u64 0]) (t := 105) ?hr ?_; (case hd => rfl); (case hg => rfl); (case hr => first | (go_simp; done) | (go_simp; rfl)); intro gn hgn w2 hbox hb; have HF1 := Aside0.mk (HF.out.below hb); have HA1 := Aside0.mk (HH.out.below hb); have BK1 := Aside0.mk hbox; have HN := Aside0.mk (show w1.heap.size ≤ gn by omega); clear hb hbox hgn hp0 hp1 hx0 hx1 hx2 hx3 hx4 hx5 hx6 hx7 hx8 hx9)
      | ((with_reducible refine gate_store (t := 105) (p := 8) (v := .tmp 28) rfl ?_); refine step_store rfl rfl rfl BK1.out rfl (u := .agg (cN (nd l i))) (seg := (cN (nd l i)).toList) rfl rfl (by kernel_rfl) (by simp [Value.oneCell']) (Nat.le_refl 10) (cur' := cN (nd l i)) rfl ?_; intro w3 hb3 hg3 hs3; have HF2 := Aside0.mk (HF1.out.grown hg3 (.inr HN.out)); have BK2 := Aside0.mk hb3; have HA2 := Aside0.mk (HA1.out.grown hg3 (HH.out.new HN.out)); clear hb3 hg3 hs3 BK1 HF1 HA1; have hp1 : w3.cell? ⟨p, 1, none⟩ = some (.map (some mb)) := (blk_cell HA2.out.blk 1).trans rfl)
      | ((with_reducible refine gate_del (args := #[.tmp 32, .tmp 33]) rfl ?_); refine step_del keyI Try.underlying96 rfl rfl HA2.out.map k rfl rfl ?_; intro w4 hm4 hg4 hs4; have HF3 := Aside0.mk (HF2.out.grown hg4 (.inl HH.out.okm)); have HA3 := Aside0.mk (HA2.out.mapped (m' := delI k m) (by rw [← del_kv]; exact hm4) hg4); have BK3 := Aside0.mk (blk_grown BK2.out hg4 (by intro e; cases e; exact HH.out.new HN.out HH.out.okm)); clear hm4 hg4 hs4 hp1 BK2 HF2 HA2; have hp0 : w4.cell? ⟨p, 0, none⟩ = some (.slice (some ⟨g, 0, none⟩) l.length cap) := (blk_cell HA3.out.blk 0).trans rfl; obtain ⟨hx0, hx1, hx2, hx3, hx4, hx5, hx6, hx7, hx8, hx9⟩ := at_row HA3.out.row (l.length - 1) (by omega))
      | ((with_reducible refine gate_dst (N := 10) rfl ?_); refine box_event ?hg (N := 10) ?hd (cs := #[.int .u64 0, .int .i64 0, .int .i64 0, .int .i64 0, .int .i64 0, .int .i64 0, .int .i64 0, .int .u64 0, .bool false, .int .u64 0]) (t := 105) ?hr ?_; (case hd => rfl); (case hg => rfl); (case hr => first | (go_simp; done) | (go_simp; rfl)); intro gm hgm w5 hbox hb; have HF4 := Aside0.mk (HF3.out.below hb); have HA4 := Aside0.mk (HA3.out.below hb); have BK4 := Aside0.mk (blk_below BK3.out hb); have BM4 := Aside0.mk hbox; have HM := Aside0.mk (show w1.heap.size ≤ gm by have := HF3.out.size; omega); have HNM := Aside0.mk (show gn ≠ gm by have := blk_lt BK3.out; omega); clear hb hbox hgm hp0 hx0 hx1 hx2 hx3 hx4 hx5 hx6 hx7 hx8 hx9 HA3 HF3 BK3)
      | ((with_reducible refine gate_store (t := 105) (p := 10) (v := .tmp 46) rfl ?_); refine step_store rfl rfl rfl BM4.out rfl (u := .agg (cN (nd l (l.length - 1)))) (seg := (cN (nd l (l.length - 1))).toList) rfl rfl (by kernel_rfl) (by simp [Value.oneCell']) (Nat.le_refl 10) (cur' := cN (nd l (l.length - 1))) rfl ?_; intro w6 hb6 hg6 hs6; have HF6 := Aside0.mk (HF4.out.grown hg6 (.inr HM.out)); have BM6 := Aside0.mk hb6; have BK6 := Aside0.mk (blk_grown BK4.out hg6 (by intro e; cases e; exact HNM.out rfl)); have HA6 := Aside0.mk (HA4.out.grown hg6 (HH.out.new HM.out)); clear hb6 hg6 hs6 BM4 BK4 HF4 HA4; have hp0 : w6.cell? ⟨p, 0, none⟩ = some (.slice (some ⟨g, 0, none⟩) l.length cap) := (blk_cell HA6.out.blk 0).trans rfl)
      | ((with_reducible refine gate_store (t := 97) (p := 55) (v := .tmp 53) rfl ?_); refine step_store rfl rfl rfl HA6.out.blk rfl (u := .slice (some ⟨g, 0, none⟩) (l.length - 1) cap) (seg := [.slice (some ⟨g, 0, none⟩) (l.length - 1) cap]) rfl rfl infoS (by simp [Value.oneCell']) (by show 0 + 1 ≤ 3; omega) (cur' := cH (.slice (some ⟨g, 0, none⟩) (l.length - 1) cap) mb next) rfl ?_; intro w7 hb7 hg7 hs7; have HF7 := Aside0.mk (HF6.out.grown hg7 (.inl HH.out.okp)); have BM7 := Aside0.mk (blk_grown BM6.out hg7 (by intro e; cases e; exact HH.out.new HM.out HH.out.okp)); have BK7 := Aside0.mk (blk_grown BK6.out hg7 (by intro e; cases e; exact HH.out.new HN.out HH.out.okp)); have HA7 := Aside0.mk (HA6.out.cut (n' := l.length - 1) (Nat.sub_le _ _) hb7 hg7); clear hb7 hg7 hs7 hp0 BM6 BK6 HF6 HA6; have hm0 : w7.cell? ⟨gm, 0, none⟩ = some (.int .u64 (nd l (l.length - 1)).when) := (blk_cell BM7.out 0).trans rfl; have hm1 : w7.cell? ⟨gm, 1, none⟩ = some (.int .i64 (nd l (l.length - 1)).num) := (blk_cell BM7.out 1).trans rfl; have hm2 : w7.cell? ⟨gm, 2, none⟩ = some (.int .i64 (nd l (l.length - 1)).val.f0) := (blk_cell BM7.out 2).trans rfl; have hm3 : w7.cell? ⟨gm, 3, none⟩ = some (.int .i64 (nd l (l.length - 1)).val.f1) := (blk_cell BM7.out 3).trans rfl; have hm4 : w7.cell? ⟨gm, 4, none⟩ = some (.int .i64 (nd l (l.length - 1)).val.f2.f0) := (blk_cell BM7.out 4).trans rfl; have hm5 : w7.cell? ⟨gm, 5, none⟩ = some (.int .i64 (nd l (l.length - 1)).val.f2.f1) := (blk_cell BM7.out 5).trans rfl; have hm6 : w7.cell? ⟨gm, 6, none⟩ = some (.int .i64 (nd l (l.length - 1)).val.f3) := (blk_cell BM7.out 6).trans rfl; have hm7 : w7.cell? ⟨gm, 7, none⟩ = some (.int .u64 (nd l (l.length - 1)).val.f4) := (blk_cell BM7.out 7).trans rfl; have hm8 : w7.cell? ⟨gm, 8, none⟩ = some (.bool (nd l (l.length - 1)).val.f5) := (blk_cell BM7.out 8).trans rfl; have hm9 : w7.cell? ⟨gm, 9, none⟩ = some (.int .u64 (nd l (l.length - 1)).val.f6) := (blk_cell BM7.out 9).trans rfl; have hn0 : w7.cell? ⟨gn, 0, none⟩ = some (.int .u64 (nd l i).when) := (blk_cell BK7.out 0).trans rfl; have hn2 : w7.cell? ⟨gn, 2, none⟩ = some (.int .i64 (nd l i).val.f0) := (blk_cell BK7.out 2).trans rfl; have hn3 : w7.cell? ⟨gn, 3, none⟩ = some (.int .i64 (nd l i).val.f1) := (blk_cell BK7.out 3).trans rfl; have hn4 : w7.cell? ⟨gn, 4, none⟩ = some (.int .i64 (nd l i).val.f2.f0) := (blk_cell BK7.out 4).trans rfl; have hn5 : w7.cell? ⟨gn, 5, none⟩ = some (.int .i64 (nd l i).val.f2.f1) := (blk_cell BK7.out 5).trans rfl; have hn6 : w7.cell? ⟨gn, 6, none⟩ = some (.int .i64 (nd l i).val.f3) := (blk_cell BK7.out 6).trans rfl; have hn7 : w7.cell? ⟨gn, 7, none⟩ = some (.int .u64 (nd l i).val.f4) := (blk_cell BK7.out 7).trans rfl; have hn8 : w7.cell? ⟨gn, 8, none⟩ = some (.bool (nd l i).val.f5) := (blk_cell BK7.out 8).trans rfl; have hn9 : w7.cell? ⟨gn, 9, none⟩ = some (.int .u64 (nd l i).val.f6) := (blk_cell BK7.out 9).trans rfl)
      | (go_at_call 46; (refine (set_calls base p mb _ ok _ (delI k m) next (i : Int) (nd l (l.length - 1)) _ HA7.out (by omega) (by rw [List.length_take]; omega)).mono ?_); rintro e w8 ⟨rfl, hA, hF⟩; have HA8 := Aside0.mk hA; have HF8 := Aside0.mk (HF7.out.then_ hF (Nat.le_refl _) (fun k q => .inl q)); have BK8 := Aside0.mk (hF.blk BK7.out (HH.out.new HN.out)); have BM8 := Aside0.mk (hF.blk BM7.out (HH.out.new HM.out)); clear hA hF hm0 hm1 hm2 hm3 hm4 hm5 hm6 hm7 hm8 hm9 hn0 hn2 HA7 HF7 BK7 BM7)
      | (go_at_call 47; (refine (up_calls' base p mb _ ok _ _ next i _ rfl _ HA8.out (by rw [List.length_set, List.length_take]; omega)).mono ?_); rintro e w9 ⟨rfl, hA, hF⟩; have HA9 := Aside0.mk hA; have HF9 := Aside0.mk (HF8.out.then_ hF (Nat.le_refl _) (fun k q => .inl q)); have BK9 := Aside0.mk (hF.blk BK8.out (HH.out.new HN.out)); have BM9 := Aside0.mk (hF.blk BM8.out (HH.out.new HM.out)); clear hA hF HA8 HF8 BK8 BM8))
  · obtain ⟨i', hu1, hu2, hu3⟩ := HU.out (by omega)
    have HU3 := Aside0.mk hu3
    have HL2 : Aside0 ((Mp.get (nd l (l.length - 1)).num ((upA ((l.take (l.length - 1)).set i (nd l (l.length - 1))) (insI (nd l (l.length - 1)).num (i : Int) (delI k m)) i).2.map kv)).getD (.int .i64 0) = .int .i64 (i' : Int)) := ⟨by rw [get_kv, hu1]; rfl⟩
    have HD : Aside0 (dropA l m k i = downA (upA ((l.take (l.length - 1)).set i (nd l (l.length - 1))) (insI (nd l (l.length - 1)).num (i : Int) (delI k m)) i).1 (upA ((l.take (l.length - 1)).set i (nd l (l.length - 1))) (insI (nd l (l.length - 1)).num (i : Int) (delI k m)) i).2 i') := ⟨by
      unfold dropA
      dsimp only
      rw [if_pos (by omega), hu1]
      rfl⟩
    clear hu1 hu3
    have HA9' := HA9
    simp only [Int.toNat_natCast] at HA9'
    clear HA9
    generalize (upA ((l.take (l.length - 1)).set i (nd l (l.length - 1))) (insI (nd l (l.length - 1)).num (i : Int) (delI k m)) i) = q at *
    have hm1 : w9.cell? ⟨gm, 1, none⟩ = some (.int .i64 (nd l (l.length - 1)).num) := (blk_cell BM9.out 1).trans rfl
    have hp1 : w9.cell? ⟨p, 1, none⟩ = some (.map (some mb)) := (blk_cell HA9'.out.blk 1).trans rfl
    go_still_tail 8, (by kernel_rfl)
    refine still_value (W := w9.drew) rfl (exec_look (ok := false) (v := .int .i64 (i' : Int)) keyI Try.underlying96 rfl (zero3 _) HA9'.out.drew.map (nd l (l.length - 1)).num rfl rfl HL2.out) ?_
    refine wpStill_nil ?_
    change wpList _ _ _ _ _ w9.drew
    have HA10 := Aside0.mk HA9'.out.drew
    have HF10 := Aside0.mk HF9.out.drew
    have BK10 : Aside0 (w9.drew.heap[gn]? = some (.cells (cN (nd l i)) 105 (0, 0))) := ⟨BK9.out⟩
    generalize w9.drew = w10 at *
    clear hm1 hp1 HA9' HF9 BK9 BM9
    go_wp2_with (first
      | (go_at_call 48; (refine (down_calls' base p mb _ ok _ _ next i' _ rfl _ HA10.out (by have := HU3.out; omega) (by have := HU3.out; omega)).mono ?_); rintro e w11 ⟨rfl, hA, hF⟩; have HA11 := Aside0.mk hA; have HF11 := Aside0.mk (HF10.out.then_ hF (Nat.le_refl _) (fun k q => .inl q)); have BK11 := Aside0.mk (hF.blk BK10.out (HH.out.new HN.out)); clear hA hF HA10 HF10 BK10; have hn0 : w11.cell? ⟨gn, 0, none⟩ = some (.int .u64 (nd l i).when) := (blk_cell BK11.out 0).trans rfl; have hn2 : w11.cell? ⟨gn, 2, none⟩ = some (.int .i64 (nd l i).val.f0) := (blk_cell BK11.out 2).trans rfl; have hn3 : w11.cell? ⟨gn, 3, none⟩ = some (.int .i64 (nd l i).val.f1) := (blk_cell BK11.out 3).trans rfl; have hn4 : w11.cell? ⟨gn, 4, none⟩ = some (.int .i64 (nd l i).val.f2.f0) := (blk_cell BK11.out 4).trans rfl; have hn5 : w11.cell? ⟨gn, 5, none⟩ = some (.int .i64 (nd l i).val.f2.f1) := (blk_cell BK11.out 5).trans rfl; have hn6 : w11.cell? ⟨gn, 6, none⟩ = some (.int .i64 (nd l i).val.f3) := (blk_cell BK11.out 6).trans rfl; have hn7 : w11.cell? ⟨gn, 7, none⟩ = some (.int .u64 (nd l i).val.f4) := (blk_cell BK11.out 7).trans rfl; have hn8 : w11.cell? ⟨gn, 8, none⟩ = some (.bool (nd l i).val.f5) := (blk_cell BK11.out 8).trans rfl; have hn9 : w11.cell? ⟨gn, 9, none⟩ = some (.int .u64 (nd l i).val.f6) := (blk_cell BK11.out 9).trans rfl))
    have B5a := Aside0.mk (HF11.out.blk B5.out HNo.out)
    go_still_tail 5, (by kernel_rfl)
    change wpList _ _ _ _ _ w11.drew
    have HAa := Aside0.mk HA11.out.drew
    have HFa := Aside0.mk (HF0.out.then_ HF11.out.drew (Nat.le_refl _) (fun k q => .inl q))
    have B5b : Aside0 (w11.drew.heap[g5]? = some (.cells #[.int .i64 0, .int .i64 0, .int .i64 0, .int .i64 0, .int .i64 0, .int .u64 0, .bool false, .int .u64 0] 40 (0, 0))) := ⟨B5a.out⟩
    clear hn0 hn2 hn3 hn4 hn5 hn6 hn7 hn8 hn9 HA11 HF11 B5a
    generalize w11.drew = wa at *
    go_wp2_with ((with_reducible refine gate_store (t := 40) (p := 5) (v := .tmp 78) rfl ?_); refine step_store rfl rfl rfl B5b.out rfl (u := .agg #[.int .i64 (nd l i).val.f0, .int .i64 (nd l i).val.f1, .int .i64 (nd l i).val.f2.f0, .int .i64 (nd l i).val.f2.f1, .int .i64 (nd l i).val.f3, .int .u64 (nd l i).val.f4, .bool (nd l i).val.f5, .int .u64 (nd l i).val.f6]) (seg := [.int .i64 (nd l i).val.f0, .int .i64 (nd l i).val.f1, .int .i64 (nd l i).val.f2.f0, .int .i64 (nd l i).val.f2.f1, .int .i64 (nd l i).val.f3, .int .u64 (nd l i).val.f4, .bool (nd l i).val.f5, .int .u64 (nd l i).val.f6]) rfl rfl (by kernel_rfl) (by simp [Value.oneCell']) (Nat.le_refl 8) (cur' := #[.int .i64 (nd l i).val.f0, .int .i64 (nd l i).val.f1, .int .i64 (nd l i).val.f2.f0, .int .i64 (nd l i).val.f2.f1, .int .i64 (nd l i).val.f3, .int .u64 (nd l i).val.f4, .bool (nd l i).val.f5, .int .u64 (nd l i).val.f6]) rfl ?_; intro wb hbb hgb hsb)
    refine bodyPost_ret (results_list (rs := [.tmp 4, .cell 5 40, .tmp 6]) rfl (by simp) (.tmp (.cell g5 40 #[.int .i64 (nd l i).val.f0, .int .i64 (nd l i).val.f1, .int .i64 (nd l i).val.f2.f0, .int .i64 (nd l i).val.f2.f1, .int .i64 (nd l i).val.f3, .int .u64 (nd l i).val.f4, .bool (nd l i).val.f5, .int .u64 (nd l i).val.f6] (0, 0) _ rfl hbb Try.underlying40 rfl (by kernel_rfl) (.tmp .nil)))) rfl ?_
    refine ⟨.slice (some ⟨g, 0, none⟩) (l.length - 1) cap, rfl, ?_, HFa.out.grown hgb (.inr HG5.out)⟩
    rw [HD.out]
    exact HAa.out.grown hgb HNo.out
  · have HD : Aside0 (dropA l m k i = (l.take (l.length - 1), delI k m)) := ⟨by unfold dropA; dsimp only; rw [if_neg (by omega)]⟩
    clear hm0 hm1 hm2 hm3 hm4 hm5 hm6 hm7 hm8 hm9
    have B5a := Aside0.mk (HF7.out.blk B5.out HNo.out)
    go_still_tail 5, (by kernel_rfl)
    change wpList _ _ _ _ _ w7.drew
    have HAa := Aside0.mk HA7.out.drew
    have HFa := Aside0.mk (HF0.out.then_ HF7.out.drew (Nat.le_refl _) (fun k q => .inl q))
    have B5b : Aside0 (w7.drew.heap[g5]? = some (.cells #[.int .i64 0, .int .i64 0, .int .i64 0, .int .i64 0, .int .i64 0, .int .u64 0, .bool false, .int .u64 0] 40 (0, 0))) := ⟨B5a.out⟩
    clear hn0 hn2 hn3 hn4 hn5 hn6 hn7 hn8 hn9 HA7 HF7 B5a
    generalize w7.drew = wa at *
    go_wp2_with ((with_reducible refine gate_store (t := 40) (p := 5) (v := .tmp 78) rfl ?_); refine step_store rfl rfl rfl B5b.out rfl (u := .agg #[.int .i64 (nd l i).val.f0, .int .i64 (nd l i).val.f1, .int .i64 (nd l i).val.f2.f0, .int .i64 (nd l i).val.f2.f1, .int .i64 (nd l i).val.f3, .int .u64 (nd l i).val.f4, .bool (nd l i).val.f5, .int .u64 (nd l i).val.f6]) (seg := [.int .i64 (nd l i).val.f0, .int .i64 (nd l i).val.f1, .int .i64 (nd l i).val.f2.f0, .int .i64 (nd l i).val.f2.f1, .int .i64 (nd l i).val.f3, .int .u64 (nd l i).val.f4, .bool (nd l i).val.f5, .int .u64 (nd l i).val.f6]) rfl rfl (by kernel_rfl) (by simp [Value.oneCell']) (Nat.le_refl 8) (cur' := #[.int .i64 (nd l i).val.f0, .int .i64 (nd l i).val.f1, .int .i64 (nd l i).val.f2.f0, .int .i64 (nd l i).val.f2.f1, .int .i64 (nd l i).val.f3, .int .u64 (nd l i).val.f4, .bool (nd l i).val.f5, .int .u64 (nd l i).val.f6]) rfl ?_; intro wb hbb hgb hsb)
    refine bodyPost_ret (results_list (rs := [.tmp 4, .cell 5 40, .tmp 6]) rfl (by simp) (.tmp (.cell g5 40 #[.int .i64 (nd l i).val.f0, .int .i64 (nd l i).val.f1, .int .i64 (nd l i).val.f2.f0, .int .i64 (nd l i).val.f2.f1, .int .i64 (nd l i).val.f3, .int .u64 (nd l i).val.f4, .bool (nd l i).val.f5, .int .u64 (nd l i).val.f6] (0, 0) _ rfl hbb Try.underlying40 rfl (by kernel_rfl) (.tmp .nil)))) rfl ?_
    refine ⟨.slice (some ⟨g, 0, none⟩) (l.length - 1) cap, rfl, ?_, HFa.out.grown hgb (.inr HG5.out)⟩
    rw [HD.out]
    exact HAa.out.grown hgb HNo.out
/-- A heap that is as it should be: Drop, with what it does to the heap. -/
theorem drop_calls (base p mb : Nat) (v : Value) (ok : Nat → Prop) (l : List NI) (m : List (Int × Int)) (next k : Int) (i : Nat) (w : World) (H : HeapAt w base p mb v ok l m next) (hI : Inv l m) (hk : getI k m = some (i : Int)) (hi : i < l.length) (hsm : l.length ≤ 1000000000000000000) :
    Calls Try.prog 30 #[.pointer (some ⟨p, 0, none⟩), .int .i64 k] w fun e w' => ∃ v', e = .returned (.tuple #[.int .u64 (nd l i).when, .agg #[.int .i64 (nd l i).val.f0, .int .i64 (nd l i).val.f1, .int .i64 (nd l i).val.f2.f0, .int .i64 (nd l i).val.f2.f1, .int .i64 (nd l i).val.f3, .int .u64 (nd l i).val.f4, .bool (nd l i).val.f5, .int .u64 (nd l i).val.f6], .int .i64 0]) ∧ HeapAt w' base p mb v' ok (dropA l m k i).1 (dropA l m k i).2 next ∧ Fr base ok w w' := by
  obtain ⟨j, e, hj, hn⟩ := find_spec hI hk
  have e' : j = i := by omega
  subst e'
  refine drop_some base p mb v ok l m next k j w H hk hi hsm (fun h => ?_)
  rw [← hn]
  exact drop_up hI h
end Go.Proofs.Ytceopcfmhidjlaa.PTimerPlays

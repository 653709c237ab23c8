/- Written out by a program of this session over the translation: a function's machine side. Conditions: none. -/
import Derived.Test.YtdlikjfffdpmiaaQProperx0
namespace Go.Proofs.Ytdlikjfffdpmiaa.QProper
open Go.RowKit Go.Proofs.YtdlikjfffdpmiaaW.PrintWords Go.Proofs.YtdlikjfffdpmiaaW.PrintLast Go.Proofs.YtdlikjfffdpmiaaW.PrintMore
attribute [local go_sem] max2_int min2_int max_two min_two max_three min_three max_four min_four   -- for this text's walks alone
set_option linter.unusedVariables false
set_option linter.unusedSimpArgs false

/-! ### rotalaw08_small: function 34 -/
def rotalaw08_small.f  : Option (List Int × (List (S34)) × (List (S58))) := some ((([402653184] : List Int)), (([(⟨0, 1⟩ : S34)] : List (S34))), ([] : List (S58)))
set_option maxHeartbeats 8000000 in
set_option maxRecDepth 100000 in
theorem rotalaw08_small.calls  (r1 : List Int) (r2 : List (S34)) (r3 : List (S58)) (w : World) (h : rotalaw08_small.f  = some (r1, r2, r3)) :
  Calls Try.prog 34 #[] w fun e w' => ∃ v0_ v1_ v2_ : Value, e = .returned (.agg #[v0_, v1_, v2_]) ∧ Kd.R (Kd.int .u32) 32 w' w.heap.size (fun _ => True) v0_ r1 ∧ Kd.R k34 34 w' w.heap.size (fun _ => True) v1_ r2 ∧ Kd.S k58 58 w' w.heap.size (fun _ => True) v2_ r3 ∧ Below w.heap.size w w' := by
 have hu26 := Try.underlying26
 have hu34 := Try.underlying34
 have HB := K1 (Below.refl w.heap.size w)
 have H : (some ((([402653184] : List Int)), (([(⟨0, 1⟩ : S34)] : List (S34))), ([] : List (S58)))) = some (r1, r2, r3) := h
 clear h
 obtain ⟨y192, hy192⟩ : ∃ y_ : List Int, y_ = (([402653184] : List Int)) := ⟨_, rfl⟩
 replace H : (some (y192, (([(⟨0, 1⟩ : S34)] : List (S34))), ([] : List (S58)))) = some (r1, r2, r3) := by first | (rw [hy192]; with_reducible exact H) | (have H2_ := (Option.bind_some _ _).symm.trans H; rw [hy192]; with_reducible exact H2_) | (have H2_ := (Option.bind_some _ _).symm.trans H; with_reducible exact H2_) | with_reducible exact H | (rw [hy192]; exact H) | exact H
 have Ny192 := K1 hy192
 clear hy192
 obtain ⟨y195, hy195⟩ : ∃ y_ : List (S34), y_ = (([(⟨0, 1⟩ : S34)] : List (S34))) := ⟨_, rfl⟩
 replace H : (some (y192, y195, ([] : List (S58)))) = some (r1, r2, r3) := by first | (rw [hy195]; with_reducible exact H) | (have H2_ := (Option.bind_some _ _).symm.trans H; rw [hy195]; with_reducible exact H2_) | (have H2_ := (Option.bind_some _ _).symm.trans H; with_reducible exact H2_) | with_reducible exact H | (rw [hy195]; exact H) | exact H
 have Ny195 := K1 hy195
 clear hy195
 simp only [Option.some.injEq, Prod.mk.injEq] at H
 obtain ⟨rfl, rfl, rfl⟩ := H
 go_enter Try.func34, Try.ntmps34
 go_wp2_with (first | ((with_reducible refine gate_dst (N := 0) rfl ?_); refine box_event ?hg (N := 0) ?hd (cs := #[.slice none 0 0, .slice none 0 0, .slice none 0 0]) (t := 26) ?hr ?_; (case hd => rfl); (case hg => rfl); (case hr => first | (go_simp; done) | (go_simp; rfl)); intro gb191 hg w1 hbox hb; have n0_ := K1 (below_step mB hb); have n1_ := K1 (hbox); have n2_ := K1 (mG : w.heap.size ≤ gb191); have n3_ := K1 (mG : w.heap.size ≤ gb191); clear HB; have HB := n0_; have BK191 := n1_; have GW191 := n2_; have GE191 := n3_; clear n0_ n1_ n2_ n3_; clear hb hbox hg) | ((with_reducible refine gate_dst (N := 1) rfl ?_); refine Kd.R_lit (Kd.int .u32) _ 32 ?hg (N := 1) ?hd (xs := ([402653184] : List Int)) (inner := [.int .u32 402653184]) (ok := fun _ => True) (okp := fun _ => True) ?hr ?hp (fun _ hk => hk) trivial (Below.refl _ _) (Nat.le_refl _) (by simp) ?_; (case hd => rfl); (case hg => rfl); (case hr => first | (go_simp; done) | (go_simp; rfl)); (case hp => exact (Reps.one (show Kd.M (Kd.int .u32) _ _ _ 402653184 [.int .u32 402653184] from rfl) (Reps.none _ _))); intro v193 w2 ho3 hb hg_ hnew_; clear hg_ hnew_; (first | rw [← Ny192.out] at ho3 | (simp only [Int.reduceToNat] at ho3; rw [← Ny192.out] at ho3)); have n0_ := K1 (Kd.R_lower ho3 (below_size mB)); have n1_ := K1 (blk_below (mU BK191.out) hb); have n2_ := K1 (below_step mB hb); clear BK191; clear HB; have HO194 := n0_; have BK191 := n1_; have HB := n2_; clear n0_ n1_ n2_; clear hb ho3) | ((with_reducible refine gate_dst (N := 3) rfl ?_); refine Kd.R_lit k34 _ 34 ?hg (N := 3) ?hd (xs := ([(⟨0, 1⟩ : S34)] : List (S34))) (inner := [.int .i64 0, .int .i64 1]) (ok := fun _ => True) (okp := fun _ => True) ?hr ?hp (fun _ hk => hk) trivial (Below.refl _ _) (Nat.le_refl _) (by simp) ?_; (case hd => rfl); (case hg => rfl); (case hr => first | (go_simp; done) | (go_simp; rfl)); (case hp => exact (Reps.c2 (show Kd.M k34 _ _ _ (⟨0, 1⟩ : S34) [.int .i64 0, .int .i64 1] from (k34_mkM _ _ _ (⟨0, 1⟩ : S34) )) (Reps.none _ _))); intro v196 w4 ho5 hb hg_ hnew_; clear hg_ hnew_; (first | rw [← Ny195.out] at ho5 | (simp only [Int.reduceToNat] at ho5; rw [← Ny195.out] at ho5)); have n0_ := K1 (Kd.R_below (mV HO194.out) hb); have n1_ := K1 (Kd.R_lower ho5 (below_size mB)); have n2_ := K1 (blk_below (mU BK191.out) hb); have n3_ := K1 (below_step mB hb); clear HO194; clear BK191; clear HB; have HO194 := n0_; have HO197 := n1_; have BK191 := n2_; have HB := n3_; clear n0_ n1_ n2_ n3_; clear hb ho5; obtain ⟨Ao6, co6, eo6⟩ := Kd.R_slice HO197.out; subst eo6; obtain ⟨Ao7, co7, eo7⟩ := Kd.R_slice HO194.out; subst eo7; obtain ⟨hcz8_0, hcz8_1, hcz8_2, hfz8_0, hfz8_1, hfz8_2⟩ := cf3 BK191))
 refine bodyPost_ret (results_cell_row rfl _ _ gb191 26 #[.slice Ao7 y192.length co7, .slice Ao6 y195.length co6, .slice none 0 0] (0, 0) _ rfl (by refine mU ?_; refine blk_put (cs := #[.slice Ao7 y192.length co7, .slice Ao6 y195.length co6, .slice none 0 0]) ?_ 2 _ rfl; refine mU ?_; refine blk_put (cs := #[.slice Ao7 y192.length co7, .slice none 0 0, .slice none 0 0]) ?_ 1 _ rfl; refine mU ?_; refine blk_put (cs := #[.slice none 0 0, .slice none 0 0, .slice none 0 0]) ?_ 0 _ rfl; refine mU ?_; exact BK191.out) Try.underlying26 rfl (by kernel_rfl)) rfl ?_
 exact ⟨_, _, _, mE, by (with_reducible repeat (first | apply Kd.R_alloc | apply Kd.R_drewN | apply Kd.R_drew)); exact Kd.R_mono (Kd.R_far (p := ⟨gb191, 2, none⟩) (Kd.R_far (p := ⟨gb191, 1, none⟩) (Kd.R_far (p := ⟨gb191, 0, none⟩) (Kd.R_types HO194.out BK191.out (by decide)) (fun _ hk => hk.2) (.slice Ao7 y192.length co7)) (fun _ hk => hk.2) (.slice Ao6 y195.length co6)) (fun _ hk => hk.2) (.slice none 0 0)) (fun _ hk => trivial), by (with_reducible repeat (first | apply Kd.R_alloc | apply Kd.R_drewN | apply Kd.R_drew)); exact Kd.R_mono (Kd.R_far (p := ⟨gb191, 2, none⟩) (Kd.R_far (p := ⟨gb191, 1, none⟩) (Kd.R_far (p := ⟨gb191, 0, none⟩) (Kd.R_types HO197.out BK191.out (by decide)) (fun _ hk => hk.2) (.slice Ao7 y192.length co7)) (fun _ hk => hk.2) (.slice Ao6 y195.length co6)) (fun _ hk => hk.2) (.slice none 0 0)) (fun _ hk => trivial), by first | exact Kd.S_nil _ _ _ _ _ | exact Kd.N_nil _ _ _ _ _ | exact Kd.V_nil _ _ _ _ _ | exact Kd.Q_nil _ _ _ _ _ | exact Kd.R_nil _ _ _ _ _, mB⟩

end Go.Proofs.Ytdlikjfffdpmiaa.QProper

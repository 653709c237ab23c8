/- Written out by a program of this session over the translation: the machine's side of rota/rotalaw08.ProperChecks,rota/rotalaw08.ProperWords,rota/rotalaw08.ProperReaches,rota/rotalaw08.ProperStays,rota/rotalaw08.ProperClosed,rota/rotalaw08.ProperOwn,rota/rotalaw08.ProperCalls,rota/rotalaw08.ProperDeep. Conditions: each theorem's own. -/
import Derived.Test.YtdlikjfffdpmiaaQProperx0
import Derived.Test.YtdlikjfffdpmiaaQProperx17
import Derived.Test.YtdlikjfffdpmiaaQProperx19
import Derived.Test.YtdlikjfffdpmiaaQProperx20
namespace Go.Proofs.Ytdlikjfffdpmiaa.QProper
open Go.RowKit Go.Proofs.YtdlikjfffdpmiaaW.PrintWords Go.Proofs.YtdlikjfffdpmiaaW.PrintLast Go.Proofs.YtdlikjfffdpmiaaW.PrintMore
attribute [local go_sem] max2_int min2_int max_two min_two max_three min_three max_four min_four   -- for this text's walks alone
set_option linter.unusedVariables false
set_option linter.unusedSimpArgs false

/-! ### rotaref08_next: function 40 -/
def rotaref08_next.j0 : Nat → Int → Bool → Int → Int → Int → Int → Int → Option (List Int)
 | 0, _, _, _, _, _, _, _ => none
 | k + 1, x1, x27, x240000, x240001, x240002, x240003, x240004 => if x27 = true then (some (([wrap64 (x1 + 1)] : List Int))) else (if x240004 < (wrap64 (x1 + 1)) then (some (([x240004, wrap64 (x1 + 1)] : List Int))) else (some (([wrap64 (x1 + 1), x240004] : List Int))))
def rotaref08_next.f (k : Nat) (l0_0 : List Int) (l0_1 : List (S34)) (l0_2 : List (S58)) (a1 : Int) : Option (List Int) := if 0 ≤ a1 then (if a1 < (l0_0.length : Int) then ((rotaref06_Decode.f k (rd l0_0 a1)).bind fun bt233 => (if bt233.1 = 17 then (some (([bt233.2.2.2.2.1] : List Int))) else ((rotaref08_ends.f bt233.1).bind fun t243 => (if t243 = true then (some ([] : List Int)) else ((rotaref08_jumps.f bt233.1).bind fun t244 => (if t244 = true then (rotaref08_next.j0 k a1 (bt233.2.2.2.2.1 == (wrap64 (a1 + 1))) bt233.1 bt233.2.1 bt233.2.2.1 bt233.2.2.2.1 bt233.2.2.2.2.1) else (rotaref08_next.j0 k a1 true bt233.1 bt233.2.1 bt233.2.2.1 bt233.2.2.2.1 bt233.2.2.2.2.1))))))) else (none)) else (none)
theorem rotaref08_next.mono_l : ∀ k, (∀ y0 y1 y2 y3 y4 y5 y6, LeO (rotaref08_next.j0 k y0 y1 y2 y3 y4 y5 y6) (rotaref08_next.j0 (k + 1) y0 y1 y2 y3 y4 y5 y6))
 | 0 => fun _ _ _ _ _ _ _ r h => by simp [rotaref08_next.j0] at h
 | k + 1 => by
  have ih0 := rotaref08_next.mono_l k
  ·intro y0 y1 y2 y3 y4 y5 y6
   unfold rotaref08_next.j0
   repeat' first
   | (with_reducible exact ih0 _ _ _ _ _ _ _)
   | (with_reducible exact rotaref06_Decode.mono _ _)
   | (with_reducible exact LeO.refl _)
   | (with_reducible exact LeO.none _)
   | (with_reducible refine LeO.ite ?_ ?_)
   | (with_reducible refine LeO.bind ?_ (fun _ => ?_))
   | exact ih0 _ _ _ _ _ _ _
   | exact rotaref06_Decode.mono _ _
   | exact LeO.none _
   | refine LeO.ite ?_ ?_
   | refine LeO.bind ?_ (fun _ => ?_)
theorem rotaref08_next.mono : ∀ a0 a1 a2 a3 k, LeO (rotaref08_next.f k a0 a1 a2 a3) (rotaref08_next.f (k + 1) a0 a1 a2 a3) := by
 intro a0 a1 a2 a3 k
 have ih0 := rotaref08_next.mono_l k
 unfold rotaref08_next.f
 repeat' first
   | (with_reducible exact ih0 _ _ _ _ _ _ _)
   | (with_reducible exact rotaref06_Decode.mono _ _)
   | (with_reducible exact LeO.refl _)
   | (with_reducible exact LeO.none _)
   | (with_reducible refine LeO.ite ?_ ?_)
   | (with_reducible refine LeO.bind ?_ (fun _ => ?_))
   | exact ih0 _ _ _ _ _ _ _
   | exact rotaref06_Decode.mono _ _
   | exact LeO.none _
   | refine LeO.ite ?_ ?_
   | refine LeO.bind ?_ (fun _ => ?_)
set_option maxHeartbeats 8000000 in
set_option maxRecDepth 100000 in
theorem rotaref08_next.calls (k : Nat) (A0_0 : Option Addr) (c0_0 : Nat) (l0_0 : List Int) (A0_1 : Option Addr) (c0_1 : Nat) (l0_1 : List (S34)) (A0_2 : Option Addr) (c0_2 : Nat) (l0_2 : List (S58)) (a1 : Int) (r : List Int) (w : World) (hr0_0 : Kd.C (Kd.int .u32) w A0_0 l0_0.length l0_0) (hc0_0 : l0_0.length ≤ c0_0) (hr0_1 : Kd.C k34 w A0_1 l0_1.length l0_1) (hc0_1 : l0_1.length ≤ c0_1) (hr0_2 : Kd.C k58 w A0_2 l0_2.length l0_2) (hc0_2 : l0_2.length ≤ c0_2) (h : rotaref08_next.f k l0_0 l0_1 l0_2 a1 = some r) :
  Calls Try.prog 40 #[.agg #[.slice A0_0 l0_0.length c0_0, .slice A0_1 l0_1.length c0_1, .slice A0_2 l0_2.length c0_2], .int .i64 a1] w fun e w' => ∃ v0_ : Value, e = .returned (v0_) ∧ Kd.R (Kd.int .i64) 3 w' w.heap.size (fun _ => True) v0_ r ∧ Below w.heap.size w w' := by
 have hu26 := Try.underlying26
 have hu48 := Try.underlying48
 have HR0_0 := K1 hr0_0
 have HC0_0 := K1 hc0_0
 clear hr0_0 hc0_0
 have HR0_1 := K1 hr0_1
 have HC0_1 := K1 hc0_1
 clear hr0_1 hc0_1
 have HR0_2 := K1 hr0_2
 have HC0_2 := K1 hc0_2
 clear hr0_2 hc0_2
 have HB := K1 (Below.refl w.heap.size w)
 have H : (if 0 ≤ a1 then (if a1 < (l0_0.length : Int) then ((rotaref06_Decode.f k (rd l0_0 a1)).bind fun bt233 => (if bt233.1 = 17 then (some (([bt233.2.2.2.2.1] : List Int))) else ((rotaref08_ends.f bt233.1).bind fun t243 => (if t243 = true then (some ([] : List Int)) else ((rotaref08_jumps.f bt233.1).bind fun t244 => (if t244 = true then (rotaref08_next.j0 k a1 (bt233.2.2.2.2.1 == (wrap64 (a1 + 1))) bt233.1 bt233.2.1 bt233.2.2.1 bt233.2.2.2.1 bt233.2.2.2.2.1) else (rotaref08_next.j0 k a1 true bt233.1 bt233.2.1 bt233.2.2.1 bt233.2.2.2.1 bt233.2.2.2.2.1))))))) else (none)) else (none)) = some r := h
 clear h
 by_cases c3 : 0 ≤ a1
 ·rw [if_pos c3] at H
  have c3b0 : decide (0 ≤ a1) = true := decide_eq_true c3
  clear c3
  by_cases c4 : a1 < (l0_0.length : Int)
  ·rw [if_pos c4] at H
   have c4b0 : decide (a1 < (l0_0.length : Int)) = true := decide_eq_true c4
   clear c4
   replace H := Option.bind_eq_some_iff.mp H
   obtain ⟨⟨t233, t234, t235, t236, t237, t238⟩, A50, H⟩ := H
   replace H : (if t233 = 17 then (some (([t237] : List Int))) else ((rotaref08_ends.f t233).bind fun t243 => (if t243 = true then (some ([] : List Int)) else ((rotaref08_jumps.f t233).bind fun t244 => (if t244 = true then (rotaref08_next.j0 k a1 (t237 == (wrap64 (a1 + 1))) t233 t234 t235 t236 t237) else (rotaref08_next.j0 k a1 true t233 t234 t235 t236 t237)))))) = some r := H
   have A5 := K1 A50
   clear A50
   by_cases c6 : t233 = 17
   ·rw [if_pos c6] at H
    have c6b0 : (t233 == 17) = true := beq_iff_eq.mpr c6
    have c6b1 : (t233 != 17) = false := bne_eq_false_iff_eq.mpr c6
    clear c6
    obtain ⟨y240, hy240⟩ : ∃ y_ : List Int, y_ = (([t237] : List Int)) := ⟨_, rfl⟩
    replace H : (some y240) = some r := by first | (rw [hy240]; with_reducible exact H) | (have H2_ := (Option.bind_some _ _).symm.trans H; rw [hy240]; with_reducible exact H2_) | (have H2_ := (Option.bind_some _ _).symm.trans H; with_reducible exact H2_) | with_reducible exact H | (rw [hy240]; exact H) | exact H
    have Ny240 := K1 hy240
    clear hy240
    obtain rfl := Option.some.inj H
    go_enter Try.func40, Try.ntmps40
    go_wp2_with (first | ((with_reducible refine gate_dst (N := 2) rfl ?_); refine box_event ?hg (N := 2) ?hd (cs := #[.slice A0_0 l0_0.length c0_0, .slice A0_1 l0_1.length c0_1, .slice A0_2 l0_2.length c0_2]) (t := 26) ?hr ?_; (case hd => rfl); (case hg => rfl); (case hr => first | (go_simp; done) | (go_simp; rfl)); intro gb231 hg w7 hbox hb; have n0_ := K1 (below_step (mB) hb); have n1_ := K1 (hbox); have n2_ := K1 ((by rw [hg]; exact (below_size (mB)) : w.heap.size ≤ gb231)); have n3_ := K1 ((by rw [hg]; exact (below_size (mB)) : w.heap.size ≤ gb231)); clear HB; have HB := n0_; have BK231 := n1_; have GW231 := n2_; have GE231 := n3_; clear n0_ n1_ n2_ n3_; clear hb hbox hg; have hcz8_0 : w7.cell? ⟨gb231, 0, none⟩ = some (.slice A0_0 l0_0.length c0_0) := (blk_cell BK231.out 0).trans rfl; have hcz8_1 : w7.cell? ⟨gb231, 1, none⟩ = some (.slice A0_1 l0_1.length c0_1) := (blk_cell BK231.out 1).trans rfl; have hcz8_2 : w7.cell? ⟨gb231, 2, none⟩ = some (.slice A0_2 l0_2.length c0_2) := (blk_cell BK231.out 2).trans rfl; have hfz8_0 := blk_frozen BK231.out 0; have hfz8_1 := blk_frozen BK231.out 1; have hfz8_2 := blk_frozen BK231.out 2; have p232 : 0 ≤ (a1 : Int) := of_decide_eq_true (mA); have q232 : a1 < (l0_0.length : Int) := of_decide_eq_true (mA); obtain ⟨ad232, e232, hx232_0⟩ := Kd.at_int HR0_0.out a1 p232 q232; cases e232; replace hx232_0 := (HB.out.cell (World.block_lt_of_cell? w _ hx232_0)).trans hx232_0; replace p232 := eq_true p232; replace q232 := eq_true q232) | ((with_reducible refine gate_callee (f := 27) rfl ?_); refine goesL_ (some 13) rfl rfl Try.func27 (by kernel_rfl) rfl #[.int .u32 (rd l0_0 a1)] rfl (mL) ?_; (with_reducible refine (rotaref06_Decode.calls k (rd l0_0 a1) t233 t234 t235 t236 t237 t238 _ A5.out).mono ?_); rintro e w9 ⟨rfl, hb⟩; refine ⟨_, rfl, ?_⟩; have n0_ := K1 (blk_below (g := gb231) (o := .cells #[.slice (some ad232) l0_0.length c0_0, .slice A0_1 l0_1.length c0_1, .slice A0_2 l0_2.length c0_2] 26 (0, 0)) (by refine mU ?_; exact BK231.out) hb); have n1_ := K1 (below_step (mB) hb); clear BK231; clear HB; have BK231 := n0_; have HB := n1_; clear n0_ n1_; (try clear hb); (try clear hb2); (try clear hk); (try clear hi)) | ((with_reducible refine gate_dst (N := 5) rfl ?_); refine box_event ?hg (N := 5) ?hd (cs := #[.int .i64 0, .int .i64 0, .int .i64 0, .int .i64 0, .int .i64 0]) (t := 48) ?hr ?_; (case hd => rfl); (case hg => rfl); (case hr => first | (go_simp; done) | (go_simp; rfl)); intro gb239 hg w10 hbox hb; have n0_ := K1 (blk_below (g := gb231) (o := .cells #[.slice (some ad232) l0_0.length c0_0, .slice A0_1 l0_1.length c0_1, .slice A0_2 l0_2.length c0_2] 26 (0, 0)) (by refine mU ?_; exact BK231.out) hb); have n1_ := K1 (below_step (mB) hb); have n2_ := K1 (hbox); have n3_ := K1 ((by rw [hg]; exact (below_size (mB)) : w.heap.size ≤ gb239)); have n4_ := K1 ((by rw [hg]; exact (below_size (mB)) : w.heap.size ≤ gb239)); have n5_ := K1 ((by rw [hg]; exact Nat.ne_of_lt (blk_lt (g := gb231) (o := .cells #[.slice (some ad232) l0_0.length c0_0, .slice A0_1 l0_1.length c0_1, .slice A0_2 l0_2.length c0_2] 26 (0, 0)) (by refine mU ?_; exact BK231.out)) : gb231 ≠ gb239)); have n6_ := K1 ((by rw [hg]; exact Nat.ne_of_gt (blk_lt (g := gb231) (o := .cells #[.slice (some ad232) l0_0.length c0_0, .slice A0_1 l0_1.length c0_1, .slice A0_2 l0_2.length c0_2] 26 (0, 0)) (by refine mU ?_; exact BK231.out)) : gb239 ≠ gb231)); clear BK231; clear HB; have BK231 := n0_; have HB := n1_; have BK239 := n2_; have GW239 := n3_; have GE239 := n4_; have NB231_239 := n5_; have NB239_231 := n6_; clear n0_ n1_ n2_ n3_ n4_ n5_ n6_; clear hb hbox hg; have hnb11 := NB239_231.out; have hnc11 := NB231_239.out; have hcz12_0 : w10.cell? ⟨gb239, 0, none⟩ = some (.int .i64 0) := (blk_cell BK239.out 0).trans rfl; have hcz12_1 : w10.cell? ⟨gb239, 1, none⟩ = some (.int .i64 0) := (blk_cell BK239.out 1).trans rfl; have hcz12_2 : w10.cell? ⟨gb239, 2, none⟩ = some (.int .i64 0) := (blk_cell BK239.out 2).trans rfl; have hcz12_3 : w10.cell? ⟨gb239, 3, none⟩ = some (.int .i64 0) := (blk_cell BK239.out 3).trans rfl; have hcz12_4 : w10.cell? ⟨gb239, 4, none⟩ = some (.int .i64 0) := (blk_cell BK239.out 4).trans rfl; have hfz12_0 := blk_frozen BK239.out 0; have hfz12_1 := blk_frozen BK239.out 1; have hfz12_2 := blk_frozen BK239.out 2; have hfz12_3 := blk_frozen BK239.out 3; have hfz12_4 := blk_frozen BK239.out 4) | ((with_reducible refine gate_dst (N := 22) rfl ?_); refine Kd.R_lit (Kd.int .i64) _ 3 ?hg (N := 22) ?hd (xs := ([t237] : List Int)) (inner := [.int .i64 t237]) (ok := fun _ => True) (okp := fun _ => True) ?hr ?hp (fun _ hk => hk) trivial (Below.refl _ _) (Nat.le_refl _) (by simp) ?_; (case hd => rfl); (case hg => rfl); (case hr => first | (go_simp; done) | (go_simp; rfl)); (case hp => exact (Reps.one (show Kd.M (Kd.int .i64) _ _ _ t237 [.int .i64 t237] from rfl) (Reps.none _ _))); intro v241 w13 ho14 hb hg_ hnew_; clear hg_ hnew_; (first | rw [← Ny240.out] at ho14 | (simp only [Int.reduceToNat] at ho14; rw [← Ny240.out] at ho14)); have n0_ := K1 (Kd.R_lower ho14 (below_size (mB))); have n1_ := K1 (blk_below (g := gb231) (o := .cells #[.slice (some ad232) l0_0.length c0_0, .slice A0_1 l0_1.length c0_1, .slice A0_2 l0_2.length c0_2] 26 (0, 0)) (by refine mU ?_; refine blk_far ?_ NB231_239.out _; refine mU ?_; refine blk_far ?_ NB231_239.out _; refine mU ?_; refine blk_far ?_ NB231_239.out _; refine mU ?_; refine blk_far ?_ NB231_239.out _; refine mU ?_; refine blk_far ?_ NB231_239.out _; refine mU ?_; exact BK231.out) hb); have n2_ := K1 (blk_below (g := gb239) (o := .cells #[.int .i64 t233, .int .i64 t234, .int .i64 t235, .int .i64 t236, .int .i64 t237] 48 (0, 0)) (by refine mU ?_; refine blk_put (cs := #[.int .i64 t233, .int .i64 t234, .int .i64 t235, .int .i64 t236, .int .i64 0]) ?_ 4 _ rfl; refine mU ?_; refine blk_put (cs := #[.int .i64 t233, .int .i64 t234, .int .i64 t235, .int .i64 0, .int .i64 0]) ?_ 3 _ rfl; refine mU ?_; refine blk_put (cs := #[.int .i64 t233, .int .i64 t234, .int .i64 0, .int .i64 0, .int .i64 0]) ?_ 2 _ rfl; refine mU ?_; refine blk_put (cs := #[.int .i64 t233, .int .i64 0, .int .i64 0, .int .i64 0, .int .i64 0]) ?_ 1 _ rfl; refine mU ?_; refine blk_put (cs := #[.int .i64 0, .int .i64 0, .int .i64 0, .int .i64 0, .int .i64 0]) ?_ 0 _ rfl; refine mU ?_; exact BK239.out) hb); have n3_ := K1 (below_step (mB) hb); clear BK231; clear BK239; clear HB; have HO242 := n0_; have BK231 := n1_; have BK239 := n2_; have HB := n3_; clear n0_ n1_ n2_ n3_; clear hb ho14))
    go_ret
    exact ⟨_, mE, by (with_reducible repeat (first | apply Kd.R_alloc | apply Kd.R_drewN | apply Kd.R_drew)); exact HO242.out, mB⟩
   ·rw [if_neg c6] at H
    have c6b0 : (t233 == 17) = false := beq_eq_false_iff_ne.mpr c6
    have c6b1 : (t233 != 17) = true := bne_iff_ne.mpr c6
    replace H := Option.bind_eq_some_iff.mp H
    obtain ⟨t243, A150, H⟩ := H
    replace H : (if t243 = true then (some ([] : List Int)) else ((rotaref08_jumps.f t233).bind fun t244 => (if t244 = true then (rotaref08_next.j0 k a1 (t237 == (wrap64 (a1 + 1))) t233 t234 t235 t236 t237) else (rotaref08_next.j0 k a1 true t233 t234 t235 t236 t237)))) = some r := H
    have A15 := K1 A150
    clear A150
    by_cases c16 : t243 = true
    ·subst c16
     have H1 : (some ([] : List Int)) = some r := by rw [if_pos rfl] at H; exact H
     clear H
     have H := H1
     clear H1
     obtain rfl := Option.some.inj H
     go_enter Try.func40, Try.ntmps40
     go_wp2_with (first | ((with_reducible refine gate_dst (N := 2) rfl ?_); refine box_event ?hg (N := 2) ?hd (cs := #[.slice A0_0 l0_0.length c0_0, .slice A0_1 l0_1.length c0_1, .slice A0_2 l0_2.length c0_2]) (t := 26) ?hr ?_; (case hd => rfl); (case hg => rfl); (case hr => first | (go_simp; done) | (go_simp; rfl)); intro gb231 hg w17 hbox hb; have n0_ := K1 (below_step (mB) hb); have n1_ := K1 (hbox); have n2_ := K1 ((by rw [hg]; exact (below_size (mB)) : w.heap.size ≤ gb231)); have n3_ := K1 ((by rw [hg]; exact (below_size (mB)) : w.heap.size ≤ gb231)); clear HB; have HB := n0_; have BK231 := n1_; have GW231 := n2_; have GE231 := n3_; clear n0_ n1_ n2_ n3_; clear hb hbox hg; have hcz18_0 : w17.cell? ⟨gb231, 0, none⟩ = some (.slice A0_0 l0_0.length c0_0) := (blk_cell BK231.out 0).trans rfl; have hcz18_1 : w17.cell? ⟨gb231, 1, none⟩ = some (.slice A0_1 l0_1.length c0_1) := (blk_cell BK231.out 1).trans rfl; have hcz18_2 : w17.cell? ⟨gb231, 2, none⟩ = some (.slice A0_2 l0_2.length c0_2) := (blk_cell BK231.out 2).trans rfl; have hfz18_0 := blk_frozen BK231.out 0; have hfz18_1 := blk_frozen BK231.out 1; have hfz18_2 := blk_frozen BK231.out 2; have p232 : 0 ≤ (a1 : Int) := of_decide_eq_true (mA); have q232 : a1 < (l0_0.length : Int) := of_decide_eq_true (mA); obtain ⟨ad232, e232, hx232_0⟩ := Kd.at_int HR0_0.out a1 p232 q232; cases e232; replace hx232_0 := (HB.out.cell (World.block_lt_of_cell? w _ hx232_0)).trans hx232_0; replace p232 := eq_true p232; replace q232 := eq_true q232) | ((with_reducible refine gate_callee (f := 27) rfl ?_); refine goesL_ (some 13) rfl rfl Try.func27 (by kernel_rfl) rfl #[.int .u32 (rd l0_0 a1)] rfl (mL) ?_; (with_reducible refine (rotaref06_Decode.calls k (rd l0_0 a1) t233 t234 t235 t236 t237 t238 _ A5.out).mono ?_); rintro e w19 ⟨rfl, hb⟩; refine ⟨_, rfl, ?_⟩; have n0_ := K1 (blk_below (g := gb231) (o := .cells #[.slice (some ad232) l0_0.length c0_0, .slice A0_1 l0_1.length c0_1, .slice A0_2 l0_2.length c0_2] 26 (0, 0)) (by refine mU ?_; exact BK231.out) hb); have n1_ := K1 (below_step (mB) hb); clear BK231; clear HB; have BK231 := n0_; have HB := n1_; clear n0_ n1_; (try clear hb); (try clear hb2); (try clear hk); (try clear hi)) | ((with_reducible refine gate_dst (N := 5) rfl ?_); refine box_event ?hg (N := 5) ?hd (cs := #[.int .i64 0, .int .i64 0, .int .i64 0, .int .i64 0, .int .i64 0]) (t := 48) ?hr ?_; (case hd => rfl); (case hg => rfl); (case hr => first | (go_simp; done) | (go_simp; rfl)); intro gb239 hg w20 hbox hb; have n0_ := K1 (blk_below (g := gb231) (o := .cells #[.slice (some ad232) l0_0.length c0_0, .slice A0_1 l0_1.length c0_1, .slice A0_2 l0_2.length c0_2] 26 (0, 0)) (by refine mU ?_; exact BK231.out) hb); have n1_ := K1 (below_step (mB) hb); have n2_ := K1 (hbox); have n3_ := K1 ((by rw [hg]; exact (below_size (mB)) : w.heap.size ≤ gb239)); have n4_ := K1 ((by rw [hg]; exact (below_size (mB)) : w.heap.size ≤ gb239)); have n5_ := K1 ((by rw [hg]; exact Nat.ne_of_lt (blk_lt (g := gb231) (o := .cells #[.slice (some ad232) l0_0.length c0_0, .slice A0_1 l0_1.length c0_1, .slice A0_2 l0_2.length c0_2] 26 (0, 0)) (by refine mU ?_; exact BK231.out)) : gb231 ≠ gb239)); have n6_ := K1 ((by rw [hg]; exact Nat.ne_of_gt (blk_lt (g := gb231) (o := .cells #[.slice (some ad232) l0_0.length c0_0, .slice A0_1 l0_1.length c0_1, .slice A0_2 l0_2.length c0_2] 26 (0, 0)) (by refine mU ?_; exact BK231.out)) : gb239 ≠ gb231)); clear BK231; clear HB; have BK231 := n0_; have HB := n1_; have BK239 := n2_; have GW239 := n3_; have GE239 := n4_; have NB231_239 := n5_; have NB239_231 := n6_; clear n0_ n1_ n2_ n3_ n4_ n5_ n6_; clear hb hbox hg; have hnb21 := NB239_231.out; have hnc21 := NB231_239.out; have hcz22_0 : w20.cell? ⟨gb239, 0, none⟩ = some (.int .i64 0) := (blk_cell BK239.out 0).trans rfl; have hcz22_1 : w20.cell? ⟨gb239, 1, none⟩ = some (.int .i64 0) := (blk_cell BK239.out 1).trans rfl; have hcz22_2 : w20.cell? ⟨gb239, 2, none⟩ = some (.int .i64 0) := (blk_cell BK239.out 2).trans rfl; have hcz22_3 : w20.cell? ⟨gb239, 3, none⟩ = some (.int .i64 0) := (blk_cell BK239.out 3).trans rfl; have hcz22_4 : w20.cell? ⟨gb239, 4, none⟩ = some (.int .i64 0) := (blk_cell BK239.out 4).trans rfl; have hfz22_0 := blk_frozen BK239.out 0; have hfz22_1 := blk_frozen BK239.out 1; have hfz22_2 := blk_frozen BK239.out 2; have hfz22_3 := blk_frozen BK239.out 3; have hfz22_4 := blk_frozen BK239.out 4) | ((with_reducible refine gate_callee (f := 64) rfl ?_); refine goesL_ (some 26) rfl rfl Try.func64 (by kernel_rfl) rfl #[.int .i64 t233] rfl (mL) ?_; (with_reducible refine (rotaref08_ends.calls t233 true _ A15.out).mono ?_); rintro e w' ⟨rfl, ⟨nd, rfl⟩⟩; refine ⟨_, rfl, ?_⟩))
     go_ret
     exact ⟨_, mE, by first | exact Kd.R_nil _ _ _ _ _ | exact Kd.N_nil _ _ _ _ _ | exact Kd.V_nil _ _ _ _ _ | exact Kd.Q_nil _ _ _ _ _ | exact Kd.S_nil _ _ _ _ _, mB⟩
    ·replace c16 := Bool.eq_false_iff.mpr c16
     subst c16
     have H1 : ((rotaref08_jumps.f t233).bind fun t244 => (if t244 = true then (rotaref08_next.j0 k a1 (t237 == (wrap64 (a1 + 1))) t233 t234 t235 t236 t237) else (rotaref08_next.j0 k a1 true t233 t234 t235 t236 t237))) = some r := by rw [if_neg (show ¬ (false = true) by decide)] at H; exact H
     clear H
     have H := H1
     clear H1
     have HC23 := K1 H
     clear H
     go_enter Try.func40, Try.ntmps40
     go_upto_region 6 with (first | ((with_reducible refine gate_dst (N := 2) rfl ?_); refine box_event ?hg (N := 2) ?hd (cs := #[.slice A0_0 l0_0.length c0_0, .slice A0_1 l0_1.length c0_1, .slice A0_2 l0_2.length c0_2]) (t := 26) ?hr ?_; (case hd => rfl); (case hg => rfl); (case hr => first | (go_simp; done) | (go_simp; rfl)); intro gb231 hg w24 hbox hb; have n0_ := K1 (below_step (mB) hb); have n1_ := K1 (hbox); have n2_ := K1 ((by rw [hg]; exact (below_size (mB)) : w.heap.size ≤ gb231)); have n3_ := K1 ((by rw [hg]; exact (below_size (mB)) : w.heap.size ≤ gb231)); clear HB; have HB := n0_; have BK231 := n1_; have GW231 := n2_; have GE231 := n3_; clear n0_ n1_ n2_ n3_; clear hb hbox hg; have hcz25_0 : w24.cell? ⟨gb231, 0, none⟩ = some (.slice A0_0 l0_0.length c0_0) := (blk_cell BK231.out 0).trans rfl; have hcz25_1 : w24.cell? ⟨gb231, 1, none⟩ = some (.slice A0_1 l0_1.length c0_1) := (blk_cell BK231.out 1).trans rfl; have hcz25_2 : w24.cell? ⟨gb231, 2, none⟩ = some (.slice A0_2 l0_2.length c0_2) := (blk_cell BK231.out 2).trans rfl; have hfz25_0 := blk_frozen BK231.out 0; have hfz25_1 := blk_frozen BK231.out 1; have hfz25_2 := blk_frozen BK231.out 2; have p232 : 0 ≤ (a1 : Int) := of_decide_eq_true (mA); have q232 : a1 < (l0_0.length : Int) := of_decide_eq_true (mA); obtain ⟨ad232, e232, hx232_0⟩ := Kd.at_int HR0_0.out a1 p232 q232; cases e232; replace hx232_0 := (HB.out.cell (World.block_lt_of_cell? w _ hx232_0)).trans hx232_0; replace p232 := eq_true p232; replace q232 := eq_true q232) | ((with_reducible refine gate_callee (f := 27) rfl ?_); refine goesL_ (some 13) rfl rfl Try.func27 (by kernel_rfl) rfl #[.int .u32 (rd l0_0 a1)] rfl (mL) ?_; (with_reducible refine (rotaref06_Decode.calls k (rd l0_0 a1) t233 t234 t235 t236 t237 t238 _ A5.out).mono ?_); rintro e w26 ⟨rfl, hb⟩; refine ⟨_, rfl, ?_⟩; have n0_ := K1 (blk_below (g := gb231) (o := .cells #[.slice (some ad232) l0_0.length c0_0, .slice A0_1 l0_1.length c0_1, .slice A0_2 l0_2.length c0_2] 26 (0, 0)) (by refine mU ?_; exact BK231.out) hb); have n1_ := K1 (below_step (mB) hb); clear BK231; clear HB; have BK231 := n0_; have HB := n1_; clear n0_ n1_; (try clear hb); (try clear hb2); (try clear hk); (try clear hi)) | ((with_reducible refine gate_dst (N := 5) rfl ?_); refine box_event ?hg (N := 5) ?hd (cs := #[.int .i64 0, .int .i64 0, .int .i64 0, .int .i64 0, .int .i64 0]) (t := 48) ?hr ?_; (case hd => rfl); (case hg => rfl); (case hr => first | (go_simp; done) | (go_simp; rfl)); intro gb239 hg w27 hbox hb; have n0_ := K1 (blk_below (g := gb231) (o := .cells #[.slice (some ad232) l0_0.length c0_0, .slice A0_1 l0_1.length c0_1, .slice A0_2 l0_2.length c0_2] 26 (0, 0)) (by refine mU ?_; exact BK231.out) hb); have n1_ := K1 (below_step (mB) hb); have n2_ := K1 (hbox); have n3_ := K1 ((by rw [hg]; exact (below_size (mB)) : w.heap.size ≤ gb239)); have n4_ := K1 ((by rw [hg]; exact (below_size (mB)) : w.heap.size ≤ gb239)); have n5_ := K1 ((by rw [hg]; exact Nat.ne_of_lt (blk_lt (g := gb231) (o := .cells #[.slice (some ad232) l0_0.length c0_0, .slice A0_1 l0_1.length c0_1, .slice A0_2 l0_2.length c0_2] 26 (0, 0)) (by refine mU ?_; exact BK231.out)) : gb231 ≠ gb239)); have n6_ := K1 ((by rw [hg]; exact Nat.ne_of_gt (blk_lt (g := gb231) (o := .cells #[.slice (some ad232) l0_0.length c0_0, .slice A0_1 l0_1.length c0_1, .slice A0_2 l0_2.length c0_2] 26 (0, 0)) (by refine mU ?_; exact BK231.out)) : gb239 ≠ gb231)); clear BK231; clear HB; have BK231 := n0_; have HB := n1_; have BK239 := n2_; have GW239 := n3_; have GE239 := n4_; have NB231_239 := n5_; have NB239_231 := n6_; clear n0_ n1_ n2_ n3_ n4_ n5_ n6_; clear hb hbox hg; have hnb28 := NB239_231.out; have hnc28 := NB231_239.out; have hcz29_0 : w27.cell? ⟨gb239, 0, none⟩ = some (.int .i64 0) := (blk_cell BK239.out 0).trans rfl; have hcz29_1 : w27.cell? ⟨gb239, 1, none⟩ = some (.int .i64 0) := (blk_cell BK239.out 1).trans rfl; have hcz29_2 : w27.cell? ⟨gb239, 2, none⟩ = some (.int .i64 0) := (blk_cell BK239.out 2).trans rfl; have hcz29_3 : w27.cell? ⟨gb239, 3, none⟩ = some (.int .i64 0) := (blk_cell BK239.out 3).trans rfl; have hcz29_4 : w27.cell? ⟨gb239, 4, none⟩ = some (.int .i64 0) := (blk_cell BK239.out 4).trans rfl; have hfz29_0 := blk_frozen BK239.out 0; have hfz29_1 := blk_frozen BK239.out 1; have hfz29_2 := blk_frozen BK239.out 2; have hfz29_3 := blk_frozen BK239.out 3; have hfz29_4 := blk_frozen BK239.out 4) | ((with_reducible refine gate_callee (f := 64) rfl ?_); refine goesL_ (some 26) rfl rfl Try.func64 (by kernel_rfl) rfl #[.int .i64 t233] rfl (mL) ?_; (with_reducible refine (rotaref08_ends.calls t233 false _ A15.out).mono ?_); rintro e w' ⟨rfl, ⟨nd, rfl⟩⟩; refine ⟨_, rfl, ?_⟩))
     (try simp only [Act.put, List.setIfInBounds_toArray, List.set_cons_zero, List.set_cons_succ])
     go_cut [27] (fun v27 wc => ∃ (kq : Nat) (x27_22 : Bool), v27 = .bool x27_22 ∧ Aside0 (rotaref08_next.j0 kq a1 x27_22 t233 t234 t235 t236 t237 = some r) ∧ Aside0 (kq ≤ k) ∧ Aside0 (wc.heap[gb231]? = some (.cells #[(.slice (some ad232) l0_0.length c0_0), (.slice A0_1 l0_1.length c0_1), (.slice A0_2 l0_2.length c0_2)] 26 (0, 0))) ∧ Aside0 (wc.heap[gb239]? = some (.cells #[.int .i64 t233, .int .i64 t234, .int .i64 t235, .int .i64 t236, .int .i64 t237] 48 (0, 0))) ∧ Aside0 (Below w.heap.size w wc))
     case first =>
      have H := HC23.out
      clear HC23
      replace H := Option.bind_eq_some_iff.mp H
      obtain ⟨t244, A300, H⟩ := H
      replace H : (if t244 = true then (rotaref08_next.j0 k a1 (t237 == (wrap64 (a1 + 1))) t233 t234 t235 t236 t237) else (rotaref08_next.j0 k a1 true t233 t234 t235 t236 t237)) = some r := H
      have A30 := K1 A300
      clear A300
      by_cases c31 : t244 = true
      ·subst c31
       have H1 : (rotaref08_next.j0 k a1 (t237 == (wrap64 (a1 + 1))) t233 t234 t235 t236 t237) = some r := by rw [if_pos rfl] at H; exact H
       clear H
       have H := H1
       clear H1
       have H' := K1 H
       clear H
       have hnb32 := NB239_231.out
       have hnc32 := NB231_239.out
       have hcz33_0 : w27.cell? ⟨gb239, 0, none⟩ = some (.int .i64 0) := (blk_cell BK239.out 0).trans rfl
       have hcz33_1 : w27.cell? ⟨gb239, 1, none⟩ = some (.int .i64 0) := (blk_cell BK239.out 1).trans rfl
       have hcz33_2 : w27.cell? ⟨gb239, 2, none⟩ = some (.int .i64 0) := (blk_cell BK239.out 2).trans rfl
       have hcz33_3 : w27.cell? ⟨gb239, 3, none⟩ = some (.int .i64 0) := (blk_cell BK239.out 3).trans rfl
       have hcz33_4 : w27.cell? ⟨gb239, 4, none⟩ = some (.int .i64 0) := (blk_cell BK239.out 4).trans rfl
       have hfz33_0 := blk_frozen BK239.out 0
       have hfz33_1 := blk_frozen BK239.out 1
       have hfz33_2 := blk_frozen BK239.out 2
       have hfz33_3 := blk_frozen BK239.out 3
       have hfz33_4 := blk_frozen BK239.out 4
       go_wp2_with (first | ((with_reducible refine gate_callee (f := 63) rfl ?_); refine goesL_ (some 30) rfl rfl Try.func63 (by kernel_rfl) rfl #[.int .i64 t233] rfl (mL) ?_; (with_reducible refine (rotaref08_jumps.calls t233 true _ A30.out).mono ?_); rintro e w' ⟨rfl, ⟨nd, rfl⟩⟩; refine ⟨_, rfl, ?_⟩))
       go_meet
       case rel => exact ⟨_, ((t237 == (wrap64 (a1 + 1)))), (mF), H', ⟨by first | omega | exact Nat.le_refl _⟩, ⟨by refine mU ?_; refine blk_far ?_ NB231_239.out _; refine mU ?_; refine blk_far ?_ NB231_239.out _; refine mU ?_; refine blk_far ?_ NB231_239.out _; refine mU ?_; refine blk_far ?_ NB231_239.out _; refine mU ?_; refine blk_far ?_ NB231_239.out _; refine mU ?_; exact BK231.out⟩, ⟨by refine mU ?_; refine blk_put (cs := #[.int .i64 t233, .int .i64 t234, .int .i64 t235, .int .i64 t236, .int .i64 0]) ?_ 4 _ rfl; refine mU ?_; refine blk_put (cs := #[.int .i64 t233, .int .i64 t234, .int .i64 t235, .int .i64 0, .int .i64 0]) ?_ 3 _ rfl; refine mU ?_; refine blk_put (cs := #[.int .i64 t233, .int .i64 t234, .int .i64 0, .int .i64 0, .int .i64 0]) ?_ 2 _ rfl; refine mU ?_; refine blk_put (cs := #[.int .i64 t233, .int .i64 0, .int .i64 0, .int .i64 0, .int .i64 0]) ?_ 1 _ rfl; refine mU ?_; refine blk_put (cs := #[.int .i64 0, .int .i64 0, .int .i64 0, .int .i64 0, .int .i64 0]) ?_ 0 _ rfl; refine mU ?_; exact BK239.out⟩, ⟨mB⟩⟩
      ·replace c31 := Bool.eq_false_iff.mpr c31
       subst c31
       have H1 : (rotaref08_next.j0 k a1 true t233 t234 t235 t236 t237) = some r := by rw [if_neg (show ¬ (false = true) by decide)] at H; exact H
       clear H
       have H := H1
       clear H1
       have H' := K1 H
       clear H
       have hnb34 := NB239_231.out
       have hnc34 := NB231_239.out
       have hcz35_0 : w27.cell? ⟨gb239, 0, none⟩ = some (.int .i64 0) := (blk_cell BK239.out 0).trans rfl
       have hcz35_1 : w27.cell? ⟨gb239, 1, none⟩ = some (.int .i64 0) := (blk_cell BK239.out 1).trans rfl
       have hcz35_2 : w27.cell? ⟨gb239, 2, none⟩ = some (.int .i64 0) := (blk_cell BK239.out 2).trans rfl
       have hcz35_3 : w27.cell? ⟨gb239, 3, none⟩ = some (.int .i64 0) := (blk_cell BK239.out 3).trans rfl
       have hcz35_4 : w27.cell? ⟨gb239, 4, none⟩ = some (.int .i64 0) := (blk_cell BK239.out 4).trans rfl
       have hfz35_0 := blk_frozen BK239.out 0
       have hfz35_1 := blk_frozen BK239.out 1
       have hfz35_2 := blk_frozen BK239.out 2
       have hfz35_3 := blk_frozen BK239.out 3
       have hfz35_4 := blk_frozen BK239.out 4
       go_wp2_with (first | ((with_reducible refine gate_callee (f := 63) rfl ?_); refine goesL_ (some 30) rfl rfl Try.func63 (by kernel_rfl) rfl #[.int .i64 t233] rfl (mL) ?_; (with_reducible refine (rotaref08_jumps.calls t233 false _ A30.out).mono ?_); rintro e w' ⟨rfl, ⟨nd, rfl⟩⟩; refine ⟨_, rfl, ?_⟩))
       go_meet
       case rel => exact ⟨_, (true), (mF), H', ⟨by first | omega | exact Nat.le_refl _⟩, ⟨by refine mU ?_; refine blk_far ?_ NB231_239.out _; refine mU ?_; refine blk_far ?_ NB231_239.out _; refine mU ?_; refine blk_far ?_ NB231_239.out _; refine mU ?_; refine blk_far ?_ NB231_239.out _; refine mU ?_; refine blk_far ?_ NB231_239.out _; refine mU ?_; exact BK231.out⟩, ⟨by refine mU ?_; refine blk_put (cs := #[.int .i64 t233, .int .i64 t234, .int .i64 t235, .int .i64 t236, .int .i64 0]) ?_ 4 _ rfl; refine mU ?_; refine blk_put (cs := #[.int .i64 t233, .int .i64 t234, .int .i64 t235, .int .i64 0, .int .i64 0]) ?_ 3 _ rfl; refine mU ?_; refine blk_put (cs := #[.int .i64 t233, .int .i64 t234, .int .i64 0, .int .i64 0, .int .i64 0]) ?_ 2 _ rfl; refine mU ?_; refine blk_put (cs := #[.int .i64 t233, .int .i64 0, .int .i64 0, .int .i64 0, .int .i64 0]) ?_ 1 _ rfl; refine mU ?_; refine blk_put (cs := #[.int .i64 0, .int .i64 0, .int .i64 0, .int .i64 0, .int .i64 0]) ?_ 0 _ rfl; refine mU ?_; exact BK239.out⟩, ⟨mB⟩⟩
     case rest =>
      clear HC23
      try clear c1
      try clear c2
      try clear p2
      try clear q2
      try clear hx2
      try clear c3
      try clear c3b0
      try clear c4
      try clear c4b0
      try clear c6
      try clear c6b0
      try clear c6b1
      try clear p6
      try clear c11
      try clear c16
      try clear c21
      try clear p23
      try clear q23
      try clear hx23
      try clear c27
      try clear c28
      try clear c31
      try clear c32
      try clear c34
      try clear hcz12_0
      try clear hcz12_1
      try clear hcz12_2
      try clear hcz12_3
      try clear hcz12_4
      try clear hcz18_0
      try clear hcz18_1
      try clear hcz18_2
      try clear hcz22_0
      try clear hcz22_1
      try clear hcz22_2
      try clear hcz22_3
      try clear hcz22_4
      try clear hcz25_0
      try clear hcz25_1
      try clear hcz25_2
      try clear hcz29_0
      try clear hcz29_1
      try clear hcz29_2
      try clear hcz29_3
      try clear hcz29_4
      try clear hcz33_0
      try clear hcz33_1
      try clear hcz33_2
      try clear hcz33_3
      try clear hcz33_4
      try clear hcz35_0
      try clear hcz35_1
      try clear hcz35_2
      try clear hcz35_3
      try clear hcz35_4
      try clear hcz8_0
      try clear hcz8_1
      try clear hcz8_2
      try clear hfz12_0
      try clear hfz12_1
      try clear hfz12_2
      try clear hfz12_3
      try clear hfz12_4
      try clear hfz18_0
      try clear hfz18_1
      try clear hfz18_2
      try clear hfz22_0
      try clear hfz22_1
      try clear hfz22_2
      try clear hfz22_3
      try clear hfz22_4
      try clear hfz25_0
      try clear hfz25_1
      try clear hfz25_2
      try clear hfz29_0
      try clear hfz29_1
      try clear hfz29_2
      try clear hfz29_3
      try clear hfz29_4
      try clear hfz33_0
      try clear hfz33_1
      try clear hfz33_2
      try clear hfz33_3
      try clear hfz33_4
      try clear hfz35_0
      try clear hfz35_1
      try clear hfz35_2
      try clear hfz35_3
      try clear hfz35_4
      try clear hfz8_0
      try clear hfz8_1
      try clear hfz8_2
      try clear hx232_0
      try clear p232
      try clear q232
      obtain ⟨kq, x27_22, rfl, HA, HJ22, BK231, BK239, HB⟩ := hcut
      cases kq with
      | zero => exact absurd HA.out (by simp [rotaref08_next.j0])
      | succ kj22 =>
       have H := HA.out
       clear HA
       simp only [rotaref08_next.j0] at H
       by_cases c36 : x27_22 = true
       ·subst c36
        have H1 : (some (([wrap64 (a1 + 1)] : List Int))) = some r := by rw [if_pos rfl] at H; exact H
        clear H
        have H := H1
        clear H1
        obtain ⟨y245, hy245⟩ : ∃ y_ : List Int, y_ = (([wrap64 (a1 + 1)] : List Int)) := ⟨_, rfl⟩
        replace H : (some y245) = some r := by first | (rw [hy245]; with_reducible exact H) | (have H2_ := (Option.bind_some _ _).symm.trans H; rw [hy245]; with_reducible exact H2_) | (have H2_ := (Option.bind_some _ _).symm.trans H; with_reducible exact H2_) | with_reducible exact H | (rw [hy245]; exact H) | exact H
        have Ny245 := K1 hy245
        clear hy245
        obtain rfl := Option.some.inj H
        go_wp2_with (first | ((with_reducible refine gate_dst (N := 41) rfl ?_); refine Kd.R_lit (Kd.int .i64) _ 3 ?hg (N := 41) ?hd (xs := ([wrap64 (a1 + 1)] : List Int)) (inner := [.int .i64 (wrap64 (a1 + 1))]) (ok := fun _ => True) (okp := fun _ => True) ?hr ?hp (fun _ hk => hk) trivial (Below.refl _ _) (Nat.le_refl _) (by simp) ?_; (case hd => rfl); (case hg => rfl); (case hr => first | (go_simp; done) | (go_simp; rfl)); (case hp => exact (Reps.one (show Kd.M (Kd.int .i64) _ _ _ (wrap64 (a1 + 1)) [.int .i64 (wrap64 (a1 + 1))] from rfl) (Reps.none _ _))); intro v246 w37 ho38 hb hg_ hnew_; clear hg_ hnew_; (first | rw [← Ny245.out] at ho38 | (simp only [Int.reduceToNat] at ho38; rw [← Ny245.out] at ho38)); have n0_ := K1 (Kd.R_lower ho38 (below_size (mB))); have n1_ := K1 (blk_below (g := gb231) (o := .cells #[.slice (some ad232) l0_0.length c0_0, .slice A0_1 l0_1.length c0_1, .slice A0_2 l0_2.length c0_2] 26 (0, 0)) (by refine mU ?_; exact BK231.out) hb); have n2_ := K1 (blk_below (g := gb239) (o := .cells #[.int .i64 t233, .int .i64 t234, .int .i64 t235, .int .i64 t236, .int .i64 t237] 48 (0, 0)) (by refine mU ?_; exact BK239.out) hb); have n3_ := K1 (below_step (mB) hb); clear BK231; clear BK239; clear HB; have HO247 := n0_; have BK231 := n1_; have BK239 := n2_; have HB := n3_; clear n0_ n1_ n2_ n3_; clear hb ho38))
        go_ret
        exact ⟨_, mE, by (with_reducible repeat (first | apply Kd.R_alloc | apply Kd.R_drewN | apply Kd.R_drew)); exact HO247.out, mB⟩
       ·replace c36 := Bool.eq_false_iff.mpr c36
        subst c36
        have H1 : (if t237 < (wrap64 (a1 + 1)) then (some (([t237, wrap64 (a1 + 1)] : List Int))) else (some (([wrap64 (a1 + 1), t237] : List Int)))) = some r := by rw [if_neg (show ¬ (false = true) by decide)] at H; exact H
        clear H
        have H := H1
        clear H1
        by_cases c39 : t237 < (wrap64 (a1 + 1))
        ·rw [if_pos c39] at H
         have c39b0 : decide (t237 < (wrap64 (a1 + 1))) = true := decide_eq_true c39
         clear c39
         obtain ⟨y248, hy248⟩ : ∃ y_ : List Int, y_ = (([t237, wrap64 (a1 + 1)] : List Int)) := ⟨_, rfl⟩
         replace H : (some y248) = some r := by first | (rw [hy248]; with_reducible exact H) | (have H2_ := (Option.bind_some _ _).symm.trans H; rw [hy248]; with_reducible exact H2_) | (have H2_ := (Option.bind_some _ _).symm.trans H; with_reducible exact H2_) | with_reducible exact H | (rw [hy248]; exact H) | exact H
         have Ny248 := K1 hy248
         clear hy248
         obtain rfl := Option.some.inj H
         have hnb40 := NB239_231.out
         have hnc40 := NB231_239.out
         have hcz41_0 : wc.cell? ⟨gb239, 0, none⟩ = some (.int .i64 t233) := (blk_cell BK239.out 0).trans rfl
         have hcz41_1 : wc.cell? ⟨gb239, 1, none⟩ = some (.int .i64 t234) := (blk_cell BK239.out 1).trans rfl
         have hcz41_2 : wc.cell? ⟨gb239, 2, none⟩ = some (.int .i64 t235) := (blk_cell BK239.out 2).trans rfl
         have hcz41_3 : wc.cell? ⟨gb239, 3, none⟩ = some (.int .i64 t236) := (blk_cell BK239.out 3).trans rfl
         have hcz41_4 : wc.cell? ⟨gb239, 4, none⟩ = some (.int .i64 t237) := (blk_cell BK239.out 4).trans rfl
         have hfz41_0 := blk_frozen BK239.out 0
         have hfz41_1 := blk_frozen BK239.out 1
         have hfz41_2 := blk_frozen BK239.out 2
         have hfz41_3 := blk_frozen BK239.out 3
         have hfz41_4 := blk_frozen BK239.out 4
         go_wp2_with (first | ((with_reducible refine gate_dst (N := 52) rfl ?_); refine Kd.R_lit (Kd.int .i64) _ 3 ?hg (N := 52) ?hd (xs := ([t237, wrap64 (a1 + 1)] : List Int)) (inner := [.int .i64 t237, .int .i64 (wrap64 (a1 + 1))]) (ok := fun _ => True) (okp := fun _ => True) ?hr ?hp (fun _ hk => hk) trivial (Below.refl _ _) (Nat.le_refl _) (by simp) ?_; (case hd => rfl); (case hg => rfl); (case hr => first | (go_simp; done) | (go_simp; rfl)); (case hp => exact (Reps.one (show Kd.M (Kd.int .i64) _ _ _ t237 [.int .i64 t237] from rfl) (Reps.one (show Kd.M (Kd.int .i64) _ _ _ (wrap64 (a1 + 1)) [.int .i64 (wrap64 (a1 + 1))] from rfl) (Reps.none _ _)))); intro v249 w42 ho43 hb hg_ hnew_; clear hg_ hnew_; (first | rw [← Ny248.out] at ho43 | (simp only [Int.reduceToNat] at ho43; rw [← Ny248.out] at ho43)); have n0_ := K1 (Kd.R_lower ho43 (below_size (mB))); have n1_ := K1 (blk_below (g := gb231) (o := .cells #[.slice (some ad232) l0_0.length c0_0, .slice A0_1 l0_1.length c0_1, .slice A0_2 l0_2.length c0_2] 26 (0, 0)) (by refine mU ?_; exact BK231.out) hb); have n2_ := K1 (blk_below (g := gb239) (o := .cells #[.int .i64 t233, .int .i64 t234, .int .i64 t235, .int .i64 t236, .int .i64 t237] 48 (0, 0)) (by refine mU ?_; exact BK239.out) hb); have n3_ := K1 (below_step (mB) hb); clear BK231; clear BK239; clear HB; have HO250 := n0_; have BK231 := n1_; have BK239 := n2_; have HB := n3_; clear n0_ n1_ n2_ n3_; clear hb ho43))
         go_ret
         exact ⟨_, mE, by (with_reducible repeat (first | apply Kd.R_alloc | apply Kd.R_drewN | apply Kd.R_drew)); exact HO250.out, mB⟩
        ·rw [if_neg c39] at H
         have c39b0 : decide (t237 < (wrap64 (a1 + 1))) = false := decide_eq_false c39
         clear c39
         obtain ⟨y251, hy251⟩ : ∃ y_ : List Int, y_ = (([wrap64 (a1 + 1), t237] : List Int)) := ⟨_, rfl⟩
         replace H : (some y251) = some r := by first | (rw [hy251]; with_reducible exact H) | (have H2_ := (Option.bind_some _ _).symm.trans H; rw [hy251]; with_reducible exact H2_) | (have H2_ := (Option.bind_some _ _).symm.trans H; with_reducible exact H2_) | with_reducible exact H | (rw [hy251]; exact H) | exact H
         have Ny251 := K1 hy251
         clear hy251
         obtain rfl := Option.some.inj H
         have hnb44 := NB239_231.out
         have hnc44 := NB231_239.out
         have hcz45_0 : wc.cell? ⟨gb239, 0, none⟩ = some (.int .i64 t233) := (blk_cell BK239.out 0).trans rfl
         have hcz45_1 : wc.cell? ⟨gb239, 1, none⟩ = some (.int .i64 t234) := (blk_cell BK239.out 1).trans rfl
         have hcz45_2 : wc.cell? ⟨gb239, 2, none⟩ = some (.int .i64 t235) := (blk_cell BK239.out 2).trans rfl
         have hcz45_3 : wc.cell? ⟨gb239, 3, none⟩ = some (.int .i64 t236) := (blk_cell BK239.out 3).trans rfl
         have hcz45_4 : wc.cell? ⟨gb239, 4, none⟩ = some (.int .i64 t237) := (blk_cell BK239.out 4).trans rfl
         have hfz45_0 := blk_frozen BK239.out 0
         have hfz45_1 := blk_frozen BK239.out 1
         have hfz45_2 := blk_frozen BK239.out 2
         have hfz45_3 := blk_frozen BK239.out 3
         have hfz45_4 := blk_frozen BK239.out 4
         go_wp2_with (first | ((with_reducible refine gate_dst (N := 57) rfl ?_); refine Kd.R_lit (Kd.int .i64) _ 3 ?hg (N := 57) ?hd (xs := ([wrap64 (a1 + 1), t237] : List Int)) (inner := [.int .i64 (wrap64 (a1 + 1)), .int .i64 t237]) (ok := fun _ => True) (okp := fun _ => True) ?hr ?hp (fun _ hk => hk) trivial (Below.refl _ _) (Nat.le_refl _) (by simp) ?_; (case hd => rfl); (case hg => rfl); (case hr => first | (go_simp; done) | (go_simp; rfl)); (case hp => exact (Reps.one (show Kd.M (Kd.int .i64) _ _ _ (wrap64 (a1 + 1)) [.int .i64 (wrap64 (a1 + 1))] from rfl) (Reps.one (show Kd.M (Kd.int .i64) _ _ _ t237 [.int .i64 t237] from rfl) (Reps.none _ _)))); intro v252 w46 ho47 hb hg_ hnew_; clear hg_ hnew_; (first | rw [← Ny251.out] at ho47 | (simp only [Int.reduceToNat] at ho47; rw [← Ny251.out] at ho47)); have n0_ := K1 (Kd.R_lower ho47 (below_size (mB))); have n1_ := K1 (blk_below (g := gb231) (o := .cells #[.slice (some ad232) l0_0.length c0_0, .slice A0_1 l0_1.length c0_1, .slice A0_2 l0_2.length c0_2] 26 (0, 0)) (by refine mU ?_; exact BK231.out) hb); have n2_ := K1 (blk_below (g := gb239) (o := .cells #[.int .i64 t233, .int .i64 t234, .int .i64 t235, .int .i64 t236, .int .i64 t237] 48 (0, 0)) (by refine mU ?_; exact BK239.out) hb); have n3_ := K1 (below_step (mB) hb); clear BK231; clear BK239; clear HB; have HO253 := n0_; have BK231 := n1_; have BK239 := n2_; have HB := n3_; clear n0_ n1_ n2_ n3_; clear hb ho47))
         go_ret
         exact ⟨_, mE, by (with_reducible repeat (first | apply Kd.R_alloc | apply Kd.R_drewN | apply Kd.R_drew)); exact HO253.out, mB⟩
  ·rw [if_neg c4] at H
   exact absurd H (by simp)
 ·rw [if_neg c3] at H
  exact absurd H (by simp)

end Go.Proofs.Ytdlikjfffdpmiaa.QProper

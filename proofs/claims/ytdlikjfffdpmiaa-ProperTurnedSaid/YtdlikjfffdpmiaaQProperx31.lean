/- Printed: a function's machine side. Conditions: none. -/
import Derived.Test.YtdlikjfffdpmiaaQProperx0
import Derived.Test.YtdlikjfffdpmiaaQProperx17
import Derived.Test.YtdlikjfffdpmiaaQProperx100
namespace Go.Proofs.Ytdlikjfffdpmiaa.QProper
open Go.RowKit Go.Proofs.YtdlikjfffdpmiaaW.PrintWords Go.Proofs.YtdlikjfffdpmiaaW.PrintLast Go.Proofs.YtdlikjfffdpmiaaW.PrintMore
set_option linter.unusedVariables false
set_option linter.unusedSimpArgs false

/-! ### rotaref08_next: function 40 -/
def rotaref08_next.j0 : Nat → Int → Bool → Int → Int → Int → Int → Int → Option (List Int)
 | 0, _, _, _, _, _, _, _ => none
 | k + 1, x1, x27, x240000, x240001, x240002, x240003, x240004 => if x27 = true then (some (([wrap64 (x1 + 1)] : List Int))) else (if x240004 < (wrap64 (x1 + 1)) then (some (([x240004, wrap64 (x1 + 1)] : List Int))) else (some (([wrap64 (x1 + 1), x240004] : List Int))))
def rotaref08_next.f (k : Nat) (l0_0 : List Int) (l0_1 : List (S34)) (l0_2 : List (S58)) (a1 : Int) : Option (List Int) := if 0 ≤ a1 then (if a1 < (l0_0.length : Int) then ((rotaref06_Decode.f k (rd l0_0 a1)).bind fun bt233 => (if bt233.1 = 17 then (some (([bt233.2.2.2.2.1] : List Int))) else ((rotaref08_ends.f bt233.1).bind fun t243 => (if t243 = true then (some ([] : List Int)) else ((rotaref08_jumps.f bt233.1).bind fun t244 => (if t244 = true then (rotaref08_next.j0 k a1 (bt233.2.2.2.2.1 == (wrap64 (a1 + 1))) bt233.1 bt233.2.1 bt233.2.2.1 bt233.2.2.2.1 bt233.2.2.2.2.1) else (rotaref08_next.j0 k a1 true bt233.1 bt233.2.1 bt233.2.2.1 bt233.2.2.2.1 bt233.2.2.2.2.1))))))) else (none)) else (none)
theorem rotaref08_next.mono_l : ∀ k, (∀ y0 y1 y2 y3 y4 y5 y6, LeO (rotaref08_next.j0 k y0 y1 y2 y3 y4 y5 y6) (rotaref08_next.j0 (k + 1) y0 y1 y2 y3 y4 y5 y6))
 | 0 => fun _ _ _ _ _ _ _ r h => by simp [rotaref08_next.j0] at h
 | k + 1 => by
  have ih0 := rotaref08_next.mono_l k
  ·intro y0 y1 y2 y3 y4 y5 y6
   unfold rotaref08_next.j0
   repeat' first
   | (with_reducible exact ih0 _ _ _ _ _ _ _)
   | (with_reducible exact rotaref06_Decode.mono _ _)
   | (with_reducible exact LeO.refl _)
   | (with_reducible exact LeO.none _)
   | (with_reducible refine LeO.ite ?_ ?_)
   | (with_reducible refine LeO.bind ?_ (fun _ => ?_))
   | exact ih0 _ _ _ _ _ _ _
   | exact rotaref06_Decode.mono _ _
   | exact LeO.none _
   | refine LeO.ite ?_ ?_
   | refine LeO.bind ?_ (fun _ => ?_)
theorem rotaref08_next.mono : ∀ a0 a1 a2 a3 k, LeO (rotaref08_next.f k a0 a1 a2 a3) (rotaref08_next.f (k + 1) a0 a1 a2 a3) := by
 intro a0 a1 a2 a3 k
 have ih0 := rotaref08_next.mono_l k
 unfold rotaref08_next.f
 repeat' first
   | (with_reducible exact ih0 _ _ _ _ _ _ _)
   | (with_reducible exact rotaref06_Decode.mono _ _)
   | (with_reducible exact LeO.refl _)
   | (with_reducible exact LeO.none _)
   | (with_reducible refine LeO.ite ?_ ?_)
   | (with_reducible refine LeO.bind ?_ (fun _ => ?_))
   | exact ih0 _ _ _ _ _ _ _
   | exact rotaref06_Decode.mono _ _
   | exact LeO.none _
   | refine LeO.ite ?_ ?_
   | refine LeO.bind ?_ (fun _ => ?_)
set_option maxHeartbeats 8000000 in
set_option maxRecDepth 100000 in
theorem rotaref08_next.calls (k : Nat) (A0_0 : Option Addr) (c0_0 : Nat) (l0_0 : List Int) (A0_1 : Option Addr) (c0_1 : Nat) (l0_1 : List (S34)) (A0_2 : Option Addr) (c0_2 : Nat) (l0_2 : List (S58)) (a1 : Int) (r : List Int) (w : World) (hr0_0 : Kd.C (Kd.int .u32) w A0_0 l0_0.length l0_0) (hc0_0 : l0_0.length ≤ c0_0) (hr0_1 : Kd.C k34 w A0_1 l0_1.length l0_1) (hc0_1 : l0_1.length ≤ c0_1) (hr0_2 : Kd.C k58 w A0_2 l0_2.length l0_2) (hc0_2 : l0_2.length ≤ c0_2) (h : rotaref08_next.f k l0_0 l0_1 l0_2 a1 = some r) :
  Calls Try.prog 40 #[.agg #[.slice A0_0 l0_0.length c0_0, .slice A0_1 l0_1.length c0_1, .slice A0_2 l0_2.length c0_2], .int .i64 a1] w fun e w' => ∃ v0_ : Value, e = .returned (v0_) ∧ Kd.R (Kd.int .i64) 3 w' w.heap.size (fun _ => True) v0_ r ∧ Below w.heap.size w w' := by
 have hu26 := Try.underlying26
 have hu48 := Try.underlying48
 have HR0_0 := K1 hr0_0
 have HC0_0 := K1 hc0_0
 clear hr0_0 hc0_0
 have HR0_1 := K1 hr0_1
 have HC0_1 := K1 hc0_1
 clear hr0_1 hc0_1
 have HR0_2 := K1 hr0_2
 have HC0_2 := K1 hc0_2
 clear hr0_2 hc0_2
 have HB := K1 (Below.refl w.heap.size w)
 have H : (if 0 ≤ a1 then (if a1 < (l0_0.length : Int) then ((rotaref06_Decode.f k (rd l0_0 a1)).bind fun bt233 => (if bt233.1 = 17 then (some (([bt233.2.2.2.2.1] : List Int))) else ((rotaref08_ends.f bt233.1).bind fun t243 => (if t243 = true then (some ([] : List Int)) else ((rotaref08_jumps.f bt233.1).bind fun t244 => (if t244 = true then (rotaref08_next.j0 k a1 (bt233.2.2.2.2.1 == (wrap64 (a1 + 1))) bt233.1 bt233.2.1 bt233.2.2.1 bt233.2.2.2.1 bt233.2.2.2.2.1) else (rotaref08_next.j0 k a1 true bt233.1 bt233.2.1 bt233.2.2.1 bt233.2.2.2.1 bt233.2.2.2.2.1))))))) else (none)) else (none)) = some r := h
 clear h
 by_cases c3 : 0 ≤ a1
 ·rw [if_pos c3] at H
  have c3b0 : decide (0 ≤ a1) = true := decide_eq_true c3
  clear c3
  by_cases c4 : a1 < (l0_0.length : Int)
  ·rw [if_pos c4] at H
   have c4b0 : decide (a1 < (l0_0.length : Int)) = true := decide_eq_true c4
   clear c4
   replace H := Option.bind_eq_some_iff.mp H
   obtain ⟨⟨t233, t234, t235, t236, t237, t238⟩, A50, H⟩ := H
   replace H : (if t233 = 17 then (some (([t237] : List Int))) else ((rotaref08_ends.f t233).bind fun t243 => (if t243 = true then (some ([] : List Int)) else ((rotaref08_jumps.f t233).bind fun t244 => (if t244 = true then (rotaref08_next.j0 k a1 (t237 == (wrap64 (a1 + 1))) t233 t234 t235 t236 t237) else (rotaref08_next.j0 k a1 true t233 t234 t235 t236 t237)))))) = some r := H
   have A5 := K1 A50
   clear A50
   by_cases c6 : t233 = 17
   ·rw [if_pos c6] at H
    have c6b0 : (t233 == 17) = true := beq_iff_eq.mpr c6
    have c6b1 : (t233 != 17) = false := bne_eq_false_iff_eq.mpr c6
    clear c6
    obtain ⟨y240, hy240⟩ : ∃ y_ : List Int, y_ = (([t237] : List Int)) := ⟨_, rfl⟩
    replace H : (some y240) = some r := by first | (rw [hy240]; with_reducible exact H) | (have H2_ := (Option.bind_some _ _).symm.trans H; rw [hy240]; with_reducible exact H2_) | (have H2_ := (Option.bind_some _ _).symm.trans H; with_reducible exact H2_) | with_reducible exact H | (rw [hy240]; exact H) | exact H
    have Ny240 := K1 hy240
    clear hy240
    obtain rfl := Option.some.inj H
    go_enter Try.func40, Try.ntmps40
    go_wp2_with (first | ((with_reducible refine gate_dst (N := 2) rfl ?_); refine bev (N := 2) (cs := #[.slice A0_0 l0_0.length c0_0, .slice A0_1 l0_1.length c0_1, .slice A0_2 l0_2.length c0_2]) (t := 26) (h := ?_); intro gb231 hg w7 hbox hb; have BK231 := K1 (hbox); have GW231 := K1 (mG : w.heap.size ≤ gb231); have GE231 := K1 (mG : w.heap.size ≤ gb231); replace HB := K1 (below_step mB hb); clear hb hbox hg; obtain ⟨hcz8_0, hcz8_1, hcz8_2, hfz8_0, hfz8_1, hfz8_2⟩ := cf3 BK231; have p232 : 0 ≤ (a1 : Int) := of_decide_eq_true (mA); have q232 : a1 < (l0_0.length : Int) := of_decide_eq_true (mA); obtain ⟨ad232, e232, hx232_0⟩ := Kd.at_int HR0_0.out a1 p232 q232; cases e232; replace hx232_0 := (HB.out.cell (World.block_lt_of_cell? w _ hx232_0)).trans hx232_0; replace p232 := eq_true p232; replace q232 := eq_true q232) | ((with_reducible refine gate_callee (f := 27) rfl ?_); refine goesL_ (some 13) rfl rfl Try.func27 (by kernel_rfl) rfl #[.int .u32 (rd l0_0 a1)] rfl mL ?_; (with_reducible refine (rotaref06_Decode.calls k (rd l0_0 a1) t233 t234 t235 t236 t237 t238 _ A5.out).mono ?_); rintro e w9 ⟨rfl, hb⟩; refine ⟨_, rfl, ?_⟩; replace BK231 := K1 (blk_below (mU BK231.out) hb); replace HB := K1 (below_step mB hb); (try clear hb)) | ((with_reducible refine gate_dst (N := 5) rfl ?_); refine bev (N := 5) (cs := #[.int .i64 0, .int .i64 0, .int .i64 0, .int .i64 0, .int .i64 0]) (t := 48) (h := ?_); intro gb239 hg w10 hbox hb; have BK239 := K1 (hbox); have GW239 := K1 (mG : w.heap.size ≤ gb239); have GE239 := K1 (mG : w.heap.size ≤ gb239); have NB231_239 := K1 (nlt hg (mU BK231.out)); have NB239_231 := K1 (ngt hg (mU BK231.out)); replace BK231 := K1 (blk_below (mU BK231.out) hb); replace HB := K1 (below_step mB hb); clear hb hbox hg; have hnb11 := NB239_231.out; have hnc11 := NB231_239.out; obtain ⟨hcz12_0, hcz12_1, hcz12_2, hcz12_3, hcz12_4, hfz12_0, hfz12_1, hfz12_2, hfz12_3, hfz12_4⟩ := cf5 BK239) | ((with_reducible refine gate_dst (N := 22) rfl ?_); refine Kd.R_lit (Kd.int .i64) _ 3 ?hg (N := 22) ?hd (xs := ([t237] : List Int)) (inner := [.int .i64 t237]) (ok := fun _ => True) (okp := fun _ => True) ?hr ?hp (fun _ hk => hk) trivial (Below.refl _ _) (Nat.le_refl _) (by simp) ?_; (case hd => rfl); (case hg => rfl); (case hr => first | (go_simp; done) | (go_simp; rfl)); (case hp => exact (Reps.one (show Kd.M (Kd.int .i64) _ _ _ t237 [.int .i64 t237] from rfl) (Reps.none _ _))); intro v241 w13 ho14 hb hg_ hnew_; clear hg_ hnew_; (first | rw [← Ny240.out] at ho14 | (simp only [Int.reduceToNat] at ho14; rw [← Ny240.out] at ho14)); have HO242 := K1 (Kd.R_lower ho14 (below_size mB)); replace BK231 := K1 (blk_below (g := gb231) (o := .cells #[.slice (some ad232) l0_0.length c0_0, .slice A0_1 l0_1.length c0_1, .slice A0_2 l0_2.length c0_2] 26 (0, 0)) (by refine mU ?_; refine blk_far ?_ NB231_239.out _; refine mU ?_; refine blk_far ?_ NB231_239.out _; refine mU ?_; refine blk_far ?_ NB231_239.out _; refine mU ?_; refine blk_far ?_ NB231_239.out _; refine mU ?_; refine blk_far ?_ NB231_239.out _; refine mU ?_; exact BK231.out) hb); replace BK239 := K1 (blk_below (g := gb239) (o := .cells #[.int .i64 t233, .int .i64 t234, .int .i64 t235, .int .i64 t236, .int .i64 t237] 48 (0, 0)) (by refine mU ?_; refine blk_put (cs := #[.int .i64 t233, .int .i64 t234, .int .i64 t235, .int .i64 t236, .int .i64 0]) ?_ 4 _ rfl; refine mU ?_; refine blk_put (cs := #[.int .i64 t233, .int .i64 t234, .int .i64 t235, .int .i64 0, .int .i64 0]) ?_ 3 _ rfl; refine mU ?_; refine blk_put (cs := #[.int .i64 t233, .int .i64 t234, .int .i64 0, .int .i64 0, .int .i64 0]) ?_ 2 _ rfl; refine mU ?_; refine blk_put (cs := #[.int .i64 t233, .int .i64 0, .int .i64 0, .int .i64 0, .int .i64 0]) ?_ 1 _ rfl; refine mU ?_; refine blk_put (cs := #[.int .i64 0, .int .i64 0, .int .i64 0, .int .i64 0, .int .i64 0]) ?_ 0 _ rfl; refine mU ?_; exact BK239.out) hb); replace HB := K1 (below_step mB hb); clear hb ho14))
    go_ret
    exact ⟨_, mE, by (with_reducible repeat (first | apply Kd.R_alloc | apply Kd.R_drewN | apply Kd.R_drew)); exact HO242.out, mB⟩
   ·rw [if_neg c6] at H
    have c6b0 : (t233 == 17) = false := beq_eq_false_iff_ne.mpr c6
    have c6b1 : (t233 != 17) = true := bne_iff_ne.mpr c6
    replace H := Option.bind_eq_some_iff.mp H
    obtain ⟨t243, A150, H⟩ := H
    replace H : (if t243 = true then (some ([] : List Int)) else ((rotaref08_jumps.f t233).bind fun t244 => (if t244 = true then (rotaref08_next.j0 k a1 (t237 == (wrap64 (a1 + 1))) t233 t234 t235 t236 t237) else (rotaref08_next.j0 k a1 true t233 t234 t235 t236 t237)))) = some r := H
    have A15 := K1 A150
    clear A150
    by_cases c16 : t243 = true
    ·subst c16
     have H1 : (some ([] : List Int)) = some r := by rw [if_pos rfl] at H; exact H
     clear H
     have H := H1
     clear H1
     obtain rfl := Option.some.inj H
     go_enter Try.func40, Try.ntmps40
     go_wp2_with (first | ((with_reducible refine gate_dst (N := 2) rfl ?_); refine bev (N := 2) (cs := #[.slice A0_0 l0_0.length c0_0, .slice A0_1 l0_1.length c0_1, .slice A0_2 l0_2.length c0_2]) (t := 26) (h := ?_); intro gb231 hg w17 hbox hb; have BK231 := K1 (hbox); have GW231 := K1 (mG : w.heap.size ≤ gb231); have GE231 := K1 (mG : w.heap.size ≤ gb231); replace HB := K1 (below_step mB hb); clear hb hbox hg; obtain ⟨hcz18_0, hcz18_1, hcz18_2, hfz18_0, hfz18_1, hfz18_2⟩ := cf3 BK231; have p232 : 0 ≤ (a1 : Int) := of_decide_eq_true (mA); have q232 : a1 < (l0_0.length : Int) := of_decide_eq_true (mA); obtain ⟨ad232, e232, hx232_0⟩ := Kd.at_int HR0_0.out a1 p232 q232; cases e232; replace hx232_0 := (HB.out.cell (World.block_lt_of_cell? w _ hx232_0)).trans hx232_0; replace p232 := eq_true p232; replace q232 := eq_true q232) | ((with_reducible refine gate_callee (f := 27) rfl ?_); refine goesL_ (some 13) rfl rfl Try.func27 (by kernel_rfl) rfl #[.int .u32 (rd l0_0 a1)] rfl mL ?_; (with_reducible refine (rotaref06_Decode.calls k (rd l0_0 a1) t233 t234 t235 t236 t237 t238 _ A5.out).mono ?_); rintro e w19 ⟨rfl, hb⟩; refine ⟨_, rfl, ?_⟩; replace BK231 := K1 (blk_below (mU BK231.out) hb); replace HB := K1 (below_step mB hb); (try clear hb)) | ((with_reducible refine gate_dst (N := 5) rfl ?_); refine bev (N := 5) (cs := #[.int .i64 0, .int .i64 0, .int .i64 0, .int .i64 0, .int .i64 0]) (t := 48) (h := ?_); intro gb239 hg w20 hbox hb; have BK239 := K1 (hbox); have GW239 := K1 (mG : w.heap.size ≤ gb239); have GE239 := K1 (mG : w.heap.size ≤ gb239); have NB231_239 := K1 (nlt hg (mU BK231.out)); have NB239_231 := K1 (ngt hg (mU BK231.out)); replace BK231 := K1 (blk_below (mU BK231.out) hb); replace HB := K1 (below_step mB hb); clear hb hbox hg; have hnb21 := NB239_231.out; have hnc21 := NB231_239.out; obtain ⟨hcz22_0, hcz22_1, hcz22_2, hcz22_3, hcz22_4, hfz22_0, hfz22_1, hfz22_2, hfz22_3, hfz22_4⟩ := cf5 BK239) | ((with_reducible refine gate_callee (f := 64) rfl ?_); refine goesL_ (some 26) rfl rfl Try.func64 (by kernel_rfl) rfl #[.int .i64 t233] rfl mL ?_; (with_reducible refine (rotaref08_ends.calls t233 true _ A15.out).mono ?_); rintro e w' ⟨rfl, ⟨nd, rfl⟩⟩; refine ⟨_, rfl, ?_⟩))
     go_ret
     exact ⟨_, mE, by first | exact Kd.R_nil _ _ _ _ _ | exact Kd.N_nil _ _ _ _ _ | exact Kd.V_nil _ _ _ _ _ | exact Kd.Q_nil _ _ _ _ _ | exact Kd.S_nil _ _ _ _ _, mB⟩
    ·replace c16 := Bool.eq_false_iff.mpr c16
     subst c16
     have H1 : ((rotaref08_jumps.f t233).bind fun t244 => (if t244 = true then (rotaref08_next.j0 k a1 (t237 == (wrap64 (a1 + 1))) t233 t234 t235 t236 t237) else (rotaref08_next.j0 k a1 true t233 t234 t235 t236 t237))) = some r := by rw [if_neg (show ¬ (false = true) by decide)] at H; exact H
     clear H
     have H := H1
     clear H1
     have HC23 := K1 H
     clear H
     go_enter Try.func40, Try.ntmps40
     go_upto_region 6 with (first | ((with_reducible refine gate_dst (N := 2) rfl ?_); refine bev (N := 2) (cs := #[.slice A0_0 l0_0.length c0_0, .slice A0_1 l0_1.length c0_1, .slice A0_2 l0_2.length c0_2]) (t := 26) (h := ?_); intro gb231 hg w24 hbox hb; have BK231 := K1 (hbox); have GW231 := K1 (mG : w.heap.size ≤ gb231); have GE231 := K1 (mG : w.heap.size ≤ gb231); replace HB := K1 (below_step mB hb); clear hb hbox hg; obtain ⟨hcz25_0, hcz25_1, hcz25_2, hfz25_0, hfz25_1, hfz25_2⟩ := cf3 BK231; have p232 : 0 ≤ (a1 : Int) := of_decide_eq_true (mA); have q232 : a1 < (l0_0.length : Int) := of_decide_eq_true (mA); obtain ⟨ad232, e232, hx232_0⟩ := Kd.at_int HR0_0.out a1 p232 q232; cases e232; replace hx232_0 := (HB.out.cell (World.block_lt_of_cell? w _ hx232_0)).trans hx232_0; replace p232 := eq_true p232; replace q232 := eq_true q232) | ((with_reducible refine gate_callee (f := 27) rfl ?_); refine goesL_ (some 13) rfl rfl Try.func27 (by kernel_rfl) rfl #[.int .u32 (rd l0_0 a1)] rfl mL ?_; (with_reducible refine (rotaref06_Decode.calls k (rd l0_0 a1) t233 t234 t235 t236 t237 t238 _ A5.out).mono ?_); rintro e w26 ⟨rfl, hb⟩; refine ⟨_, rfl, ?_⟩; replace BK231 := K1 (blk_below (mU BK231.out) hb); replace HB := K1 (below_step mB hb); (try clear hb)) | ((with_reducible refine gate_dst (N := 5) rfl ?_); refine bev (N := 5) (cs := #[.int .i64 0, .int .i64 0, .int .i64 0, .int .i64 0, .int .i64 0]) (t := 48) (h := ?_); intro gb239 hg w27 hbox hb; have BK239 := K1 (hbox); have GW239 := K1 (mG : w.heap.size ≤ gb239); have GE239 := K1 (mG : w.heap.size ≤ gb239); have NB231_239 := K1 (nlt hg (mU BK231.out)); have NB239_231 := K1 (ngt hg (mU BK231.out)); replace BK231 := K1 (blk_below (mU BK231.out) hb); replace HB := K1 (below_step mB hb); clear hb hbox hg; have hnb28 := NB239_231.out; have hnc28 := NB231_239.out; obtain ⟨hcz29_0, hcz29_1, hcz29_2, hcz29_3, hcz29_4, hfz29_0, hfz29_1, hfz29_2, hfz29_3, hfz29_4⟩ := cf5 BK239) | ((with_reducible refine gate_callee (f := 64) rfl ?_); refine goesL_ (some 26) rfl rfl Try.func64 (by kernel_rfl) rfl #[.int .i64 t233] rfl mL ?_; (with_reducible refine (rotaref08_ends.calls t233 false _ A15.out).mono ?_); rintro e w' ⟨rfl, ⟨nd, rfl⟩⟩; refine ⟨_, rfl, ?_⟩))
     (try simp only [Act.put, List.setIfInBounds_toArray, List.set_cons_zero, List.set_cons_succ])
     go_cut [27] (fun v27 wc => ∃ (kq : Nat) (x27_22 : Bool), v27 = .bool x27_22 ∧ Aside0 (rotaref08_next.j0 kq a1 x27_22 t233 t234 t235 t236 t237 = some r) ∧ Aside0 (kq ≤ k) ∧ Aside0 (wc.heap[gb231]? = some (.cells #[(.slice (some ad232) l0_0.length c0_0), (.slice A0_1 l0_1.length c0_1), (.slice A0_2 l0_2.length c0_2)] 26 (0, 0))) ∧ Aside0 (wc.heap[gb239]? = some (.cells #[.int .i64 t233, .int .i64 t234, .int .i64 t235, .int .i64 t236, .int .i64 t237] 48 (0, 0))) ∧ Aside0 (Below w.heap.size w wc))
     case first =>
      have H := HC23.out
      clear HC23
      replace H := Option.bind_eq_some_iff.mp H
      obtain ⟨t244, A300, H⟩ := H
      replace H : (if t244 = true then (rotaref08_next.j0 k a1 (t237 == (wrap64 (a1 + 1))) t233 t234 t235 t236 t237) else (rotaref08_next.j0 k a1 true t233 t234 t235 t236 t237)) = some r := H
      have A30 := K1 A300
      clear A300
      by_cases c31 : t244 = true
      ·subst c31
       have H1 : (rotaref08_next.j0 k a1 (t237 == (wrap64 (a1 + 1))) t233 t234 t235 t236 t237) = some r := by rw [if_pos rfl] at H; exact H
       clear H
       have H := H1
       clear H1
       have H' := K1 H
       clear H
       have hnb32 := NB239_231.out
       have hnc32 := NB231_239.out
       obtain ⟨hcz33_0, hcz33_1, hcz33_2, hcz33_3, hcz33_4, hfz33_0, hfz33_1, hfz33_2, hfz33_3, hfz33_4⟩ := cf5 BK239
       go_wp2_with (first | ((with_reducible refine gate_callee (f := 63) rfl ?_); refine goesL_ (some 30) rfl rfl Try.func63 (by kernel_rfl) rfl #[.int .i64 t233] rfl mL ?_; (with_reducible refine (rotaref08_jumps.calls t233 true _ A30.out).mono ?_); rintro e w' ⟨rfl, ⟨nd, rfl⟩⟩; refine ⟨_, rfl, ?_⟩))
       go_meet
       case rel => exact ⟨_, ((t237 == (wrap64 (a1 + 1)))), (mF), H', ⟨by first | omega | exact Nat.le_refl _⟩, ⟨by refine mU ?_; refine blk_far ?_ NB231_239.out _; refine mU ?_; refine blk_far ?_ NB231_239.out _; refine mU ?_; refine blk_far ?_ NB231_239.out _; refine mU ?_; refine blk_far ?_ NB231_239.out _; refine mU ?_; refine blk_far ?_ NB231_239.out _; refine mU ?_; exact BK231.out⟩, ⟨by refine mU ?_; refine blk_put (cs := #[.int .i64 t233, .int .i64 t234, .int .i64 t235, .int .i64 t236, .int .i64 0]) ?_ 4 _ rfl; refine mU ?_; refine blk_put (cs := #[.int .i64 t233, .int .i64 t234, .int .i64 t235, .int .i64 0, .int .i64 0]) ?_ 3 _ rfl; refine mU ?_; refine blk_put (cs := #[.int .i64 t233, .int .i64 t234, .int .i64 0, .int .i64 0, .int .i64 0]) ?_ 2 _ rfl; refine mU ?_; refine blk_put (cs := #[.int .i64 t233, .int .i64 0, .int .i64 0, .int .i64 0, .int .i64 0]) ?_ 1 _ rfl; refine mU ?_; refine blk_put (cs := #[.int .i64 0, .int .i64 0, .int .i64 0, .int .i64 0, .int .i64 0]) ?_ 0 _ rfl; refine mU ?_; exact BK239.out⟩, ⟨mB⟩⟩
      ·replace c31 := Bool.eq_false_iff.mpr c31
       subst c31
       have H1 : (rotaref08_next.j0 k a1 true t233 t234 t235 t236 t237) = some r := by rw [if_neg (show ¬ (false = true) by decide)] at H; exact H
       clear H
       have H := H1
       clear H1
       have H' := K1 H
       clear H
       have hnb34 := NB239_231.out
       have hnc34 := NB231_239.out
       obtain ⟨hcz35_0, hcz35_1, hcz35_2, hcz35_3, hcz35_4, hfz35_0, hfz35_1, hfz35_2, hfz35_3, hfz35_4⟩ := cf5 BK239
       go_wp2_with (first | ((with_reducible refine gate_callee (f := 63) rfl ?_); refine goesL_ (some 30) rfl rfl Try.func63 (by kernel_rfl) rfl #[.int .i64 t233] rfl mL ?_; (with_reducible refine (rotaref08_jumps.calls t233 false _ A30.out).mono ?_); rintro e w' ⟨rfl, ⟨nd, rfl⟩⟩; refine ⟨_, rfl, ?_⟩))
       go_meet
       case rel => exact ⟨_, (true), (mF), H', ⟨by first | omega | exact Nat.le_refl _⟩, ⟨by refine mU ?_; refine blk_far ?_ NB231_239.out _; refine mU ?_; refine blk_far ?_ NB231_239.out _; refine mU ?_; refine blk_far ?_ NB231_239.out _; refine mU ?_; refine blk_far ?_ NB231_239.out _; refine mU ?_; refine blk_far ?_ NB231_239.out _; refine mU ?_; exact BK231.out⟩, ⟨by refine mU ?_; refine blk_put (cs := #[.int .i64 t233, .int .i64 t234, .int .i64 t235, .int .i64 t236, .int .i64 0]) ?_ 4 _ rfl; refine mU ?_; refine blk_put (cs := #[.int .i64 t233, .int .i64 t234, .int .i64 t235, .int .i64 0, .int .i64 0]) ?_ 3 _ rfl; refine mU ?_; refine blk_put (cs := #[.int .i64 t233, .int .i64 t234, .int .i64 0, .int .i64 0, .int .i64 0]) ?_ 2 _ rfl; refine mU ?_; refine blk_put (cs := #[.int .i64 t233, .int .i64 0, .int .i64 0, .int .i64 0, .int .i64 0]) ?_ 1 _ rfl; refine mU ?_; refine blk_put (cs := #[.int .i64 0, .int .i64 0, .int .i64 0, .int .i64 0, .int .i64 0]) ?_ 0 _ rfl; refine mU ?_; exact BK239.out⟩, ⟨mB⟩⟩
     case rest =>
      clear HC23 c3b0 c4b0 c6 c6b0 c6b1 hcz25_0 hcz25_1 hcz25_2 hcz29_0 hcz29_1 hcz29_2 hcz29_3 hcz29_4 hfz25_0 hfz25_1 hfz25_2 hfz29_0 hfz29_1 hfz29_2 hfz29_3 hfz29_4 hx232_0 p232 q232
      obtain ⟨kq, x27_22, rfl, HA, HJ22, BK231, BK239, HB⟩ := hcut
      cases kq with
      | zero => exact absurd HA.out (by simp [rotaref08_next.j0])
      | succ kj22 =>
       have H := HA.out
       clear HA
       simp only [rotaref08_next.j0] at H
       by_cases c36 : x27_22 = true
       ·subst c36
        have H1 : (some (([wrap64 (a1 + 1)] : List Int))) = some r := by rw [if_pos rfl] at H; exact H
        clear H
        have H := H1
        clear H1
        obtain ⟨y245, hy245⟩ : ∃ y_ : List Int, y_ = (([wrap64 (a1 + 1)] : List Int)) := ⟨_, rfl⟩
        replace H : (some y245) = some r := by first | (rw [hy245]; with_reducible exact H) | (have H2_ := (Option.bind_some _ _).symm.trans H; rw [hy245]; with_reducible exact H2_) | (have H2_ := (Option.bind_some _ _).symm.trans H; with_reducible exact H2_) | with_reducible exact H | (rw [hy245]; exact H) | exact H
        have Ny245 := K1 hy245
        clear hy245
        obtain rfl := Option.some.inj H
        go_wp2_with (first | ((with_reducible refine gate_dst (N := 41) rfl ?_); refine Kd.R_lit (Kd.int .i64) _ 3 ?hg (N := 41) ?hd (xs := ([wrap64 (a1 + 1)] : List Int)) (inner := [.int .i64 (wrap64 (a1 + 1))]) (ok := fun _ => True) (okp := fun _ => True) ?hr ?hp (fun _ hk => hk) trivial (Below.refl _ _) (Nat.le_refl _) (by simp) ?_; (case hd => rfl); (case hg => rfl); (case hr => first | (go_simp; done) | (go_simp; rfl)); (case hp => exact (Reps.one (show Kd.M (Kd.int .i64) _ _ _ (wrap64 (a1 + 1)) [.int .i64 (wrap64 (a1 + 1))] from rfl) (Reps.none _ _))); intro v246 w37 ho38 hb hg_ hnew_; clear hg_ hnew_; (first | rw [← Ny245.out] at ho38 | (simp only [Int.reduceToNat] at ho38; rw [← Ny245.out] at ho38)); have HO247 := K1 (Kd.R_lower ho38 (below_size mB)); replace BK231 := K1 (blk_below (mU BK231.out) hb); replace BK239 := K1 (blk_below (mU BK239.out) hb); replace HB := K1 (below_step mB hb); clear hb ho38))
        go_ret
        exact ⟨_, mE, by (with_reducible repeat (first | apply Kd.R_alloc | apply Kd.R_drewN | apply Kd.R_drew)); exact HO247.out, mB⟩
       ·replace c36 := Bool.eq_false_iff.mpr c36
        subst c36
        have H1 : (if t237 < (wrap64 (a1 + 1)) then (some (([t237, wrap64 (a1 + 1)] : List Int))) else (some (([wrap64 (a1 + 1), t237] : List Int)))) = some r := by rw [if_neg (show ¬ (false = true) by decide)] at H; exact H
        clear H
        have H := H1
        clear H1
        by_cases c39 : t237 < (wrap64 (a1 + 1))
        ·rw [if_pos c39] at H
         have c39b0 : decide (t237 < (wrap64 (a1 + 1))) = true := decide_eq_true c39
         clear c39
         obtain ⟨y248, hy248⟩ : ∃ y_ : List Int, y_ = (([t237, wrap64 (a1 + 1)] : List Int)) := ⟨_, rfl⟩
         replace H : (some y248) = some r := by first | (rw [hy248]; with_reducible exact H) | (have H2_ := (Option.bind_some _ _).symm.trans H; rw [hy248]; with_reducible exact H2_) | (have H2_ := (Option.bind_some _ _).symm.trans H; with_reducible exact H2_) | with_reducible exact H | (rw [hy248]; exact H) | exact H
         have Ny248 := K1 hy248
         clear hy248
         obtain rfl := Option.some.inj H
         have hnb40 := NB239_231.out
         have hnc40 := NB231_239.out
         obtain ⟨hcz41_0, hcz41_1, hcz41_2, hcz41_3, hcz41_4, hfz41_0, hfz41_1, hfz41_2, hfz41_3, hfz41_4⟩ := cf5 BK239
         go_wp2_with (first | ((with_reducible refine gate_dst (N := 52) rfl ?_); refine Kd.R_lit (Kd.int .i64) _ 3 ?hg (N := 52) ?hd (xs := ([t237, wrap64 (a1 + 1)] : List Int)) (inner := [.int .i64 t237, .int .i64 (wrap64 (a1 + 1))]) (ok := fun _ => True) (okp := fun _ => True) ?hr ?hp (fun _ hk => hk) trivial (Below.refl _ _) (Nat.le_refl _) (by simp) ?_; (case hd => rfl); (case hg => rfl); (case hr => first | (go_simp; done) | (go_simp; rfl)); (case hp => exact (Reps.one (show Kd.M (Kd.int .i64) _ _ _ t237 [.int .i64 t237] from rfl) (Reps.one (show Kd.M (Kd.int .i64) _ _ _ (wrap64 (a1 + 1)) [.int .i64 (wrap64 (a1 + 1))] from rfl) (Reps.none _ _)))); intro v249 w42 ho43 hb hg_ hnew_; clear hg_ hnew_; (first | rw [← Ny248.out] at ho43 | (simp only [Int.reduceToNat] at ho43; rw [← Ny248.out] at ho43)); have HO250 := K1 (Kd.R_lower ho43 (below_size mB)); replace BK231 := K1 (blk_below (mU BK231.out) hb); replace BK239 := K1 (blk_below (mU BK239.out) hb); replace HB := K1 (below_step mB hb); clear hb ho43))
         go_ret
         exact ⟨_, mE, by (with_reducible repeat (first | apply Kd.R_alloc | apply Kd.R_drewN | apply Kd.R_drew)); exact HO250.out, mB⟩
        ·rw [if_neg c39] at H
         have c39b0 : decide (t237 < (wrap64 (a1 + 1))) = false := decide_eq_false c39
         clear c39
         obtain ⟨y251, hy251⟩ : ∃ y_ : List Int, y_ = (([wrap64 (a1 + 1), t237] : List Int)) := ⟨_, rfl⟩
         replace H : (some y251) = some r := by first | (rw [hy251]; with_reducible exact H) | (have H2_ := (Option.bind_some _ _).symm.trans H; rw [hy251]; with_reducible exact H2_) | (have H2_ := (Option.bind_some _ _).symm.trans H; with_reducible exact H2_) | with_reducible exact H | (rw [hy251]; exact H) | exact H
         have Ny251 := K1 hy251
         clear hy251
         obtain rfl := Option.some.inj H
         have hnb44 := NB239_231.out
         have hnc44 := NB231_239.out
         obtain ⟨hcz45_0, hcz45_1, hcz45_2, hcz45_3, hcz45_4, hfz45_0, hfz45_1, hfz45_2, hfz45_3, hfz45_4⟩ := cf5 BK239
         go_wp2_with (first | ((with_reducible refine gate_dst (N := 57) rfl ?_); refine Kd.R_lit (Kd.int .i64) _ 3 ?hg (N := 57) ?hd (xs := ([wrap64 (a1 + 1), t237] : List Int)) (inner := [.int .i64 (wrap64 (a1 + 1)), .int .i64 t237]) (ok := fun _ => True) (okp := fun _ => True) ?hr ?hp (fun _ hk => hk) trivial (Below.refl _ _) (Nat.le_refl _) (by simp) ?_; (case hd => rfl); (case hg => rfl); (case hr => first | (go_simp; done) | (go_simp; rfl)); (case hp => exact (Reps.one (show Kd.M (Kd.int .i64) _ _ _ (wrap64 (a1 + 1)) [.int .i64 (wrap64 (a1 + 1))] from rfl) (Reps.one (show Kd.M (Kd.int .i64) _ _ _ t237 [.int .i64 t237] from rfl) (Reps.none _ _)))); intro v252 w46 ho47 hb hg_ hnew_; clear hg_ hnew_; (first | rw [← Ny251.out] at ho47 | (simp only [Int.reduceToNat] at ho47; rw [← Ny251.out] at ho47)); have HO253 := K1 (Kd.R_lower ho47 (below_size mB)); replace BK231 := K1 (blk_below (mU BK231.out) hb); replace BK239 := K1 (blk_below (mU BK239.out) hb); replace HB := K1 (below_step mB hb); clear hb ho47))
         go_ret
         exact ⟨_, mE, by (with_reducible repeat (first | apply Kd.R_alloc | apply Kd.R_drewN | apply Kd.R_drew)); exact HO253.out, mB⟩
  ·rw [if_neg c4] at H
   exact absurd H (by simp)
 ·rw [if_neg c3] at H
  exact absurd H (by simp)

end Go.Proofs.Ytdlikjfffdpmiaa.QProper
